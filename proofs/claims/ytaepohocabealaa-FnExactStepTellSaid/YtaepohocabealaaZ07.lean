/-
  Joined texts, in build order: Su, He, Hs, Ht, Mt. Each part says what it proves; no conditions beyond those that a part names.
-/
import Derived.Test.YtaepohocabealaaZ01
import Derived.Test.YtaepohocabealaaZ02
import Derived.Test.YtaepohocabealaaZ03
import Derived.Test.YtaepohocabealaaZ04
import Derived.Test.YtaepohocabealaaZ05
import Derived.Test.YtaepohocabealaaZ06
import Derived.Lib.Hide
import Derived.Deep.DeepFit
import Derived.Test.YtaepohocabealaaRows
import Derived.WalkLawsBesides
import Derived.WalkSpells
import Derived.Outline
import Derived.Laws.IdiomStrings
import Derived.Laws.Concat
/-
  Contracts: StepTell, the reference's (chapter 10). No conditions.
-/
namespace Go.Proofs.Ytaepohocabealaa
open Go.RowKit
attribute [local go_sem] und_cell cha_cell World.cell?_alloc_some
set_option maxRecDepth 100000 in
set_option maxHeartbeats 4000000 in
theorem specStepTell_c (t : Tell) (cs : List Value) (s : TellStep) (cs2 : List Value) (w : World) (B : Nat) (ht : rTell.at_ w B t cs) (hs : rTellStep.at_ w B s cs2) (hB : B ≤ w.heap.size) :
    Calls Try.prog 19 #[.agg cs.toArray, .agg cs2.toArray] w (Mm.Ret2 rTell w (Pl.stepTell t s).1 (Pl.stepTell t s).2) := by
  obtain ⟨A0, n0, c0, A1, n1, c1, A2, n2, c2, A3, n3, c3, A4, n4, c4, rfl, -⟩ := rTell_at ht
  obtain ⟨rfl, hmi⟩ := rTellStep_at hs
  have HMI := Lib.hid hmi
  have HRT := Lib.hid ht
  clear ht hs hmi
  go_enter Try.func19, Try.ntmps19
  go_upto_region 1 with fail
  obtain ⟨ga, hga⟩ : ∃ ga, w.heap.size = ga := ⟨_, rfl⟩
  obtain ⟨gs, hgs⟩ : ∃ gs, ga + 1 = gs := ⟨_, rfl⟩
  obtain ⟨gr, hgr⟩ : ∃ gr, gs + 1 = gr := ⟨_, rfl⟩
  obtain ⟨W0, hW0⟩ : ∃ W0, ((w.alloc (.cells #[.slice A0 n0 c0, .slice A1 n1 c1, .slice A2 n2 c2, .slice A3 n3 c3, .slice A4 n4 c4] 31)).alloc (.cells #[.int .i64 s.Kind, .int .i64 s.K, .string s.Text] 46)).alloc (.cells #[.slice none 0 0, .slice none 0 0, .slice none 0 0, .slice none 0 0, .slice none 0 0] 31) = W0 := ⟨_, rfl⟩
  have HS := Lib.hid (((((Mm.SepF.start w).alloc' hga 31 [.slice A0 n0 c0, .slice A1 n1 c1, .slice A2 n2 c2, .slice A3 n3 c3, .slice A4 n4 c4]).alloc' (g := gs) (by rw [Mm.sz1, hga, hgs]) 46 [.int .i64 s.Kind, .int .i64 s.K, .string s.Text]).alloc' (g := gr) (by rw [Mm.sz2, hga]; omega) 31 zTell).atW hW0)
  rw [hW0, hga, hgs, hgr]
  have HGA := Lib.hid hga
  clear hW0 hga hgs hgr
  have HRT0 := Lib.hid (rTell.keep HRT.out (w' := W0) fun b hb => HS.out.bel0.block b (by omega))
  have HBW := Lib.hid (Nat.le_trans hB HS.out.chg.size)
  have HSR := HS
  have b0 := HSR.out.cell (k := 0) 2 rfl rfl
  have b1 := HSR.out.cell (k := 1) 2 rfl rfl
  have b2 := HSR.out.cell (k := 2) 2 rfl rfl
  have b3 := HSR.out.cell (k := 3) 2 rfl rfl
  have b4 := HSR.out.cell (k := 4) 2 rfl rfl
  have r0 := HSR.out.cell (k := 0) 0 rfl rfl
  have r1 := HSR.out.cell (k := 1) 0 rfl rfl
  have r2 := HSR.out.cell (k := 2) 0 rfl rfl
  have r3 := HSR.out.cell (k := 3) 0 rfl rfl
  have r4 := HSR.out.cell (k := 4) 0 rfl rfl
  have z0 := HSR.out.frz (k := 0) 0 rfl
  have z1 := HSR.out.frz (k := 1) 0 rfl
  have z2 := HSR.out.frz (k := 2) 0 rfl
  have z3 := HSR.out.frz (k := 3) 0 rfl
  have z4 := HSR.out.frz (k := 4) 0 rfl
  obtain ⟨gd, hgd⟩ : ∃ gd, Pl.goodTell t = gd := ⟨_, rfl⟩
  have HGD := Lib.hid hgd
  clear hgd
  have CI := GoodTell_c t _ W0 B HRT0.out HBW.out
  rw [HGD.out] at CI
  cases gd with
  | false =>
    have HF : Hid (Pl.stepTell t s = (Pl.zTe, false)) := if_neg (fun h => by rw [HGD.out] at h; cases h.1)
    go_wp2_with (go_at_call 20; refine CI.mono ?_; rintro e w1 ⟨rfl, hb1⟩; (have HSR := Lib.hid (HS.out.step hb1)); (clear b0 b1 b2 b3 b4 r0 r1 r2 r3 r4 z0 z1 z2 z3 z4); (have r0 := HSR.out.cell (k := 0) 0 rfl rfl); (have r1 := HSR.out.cell (k := 1) 0 rfl rfl); (have r2 := HSR.out.cell (k := 2) 0 rfl rfl); (have r3 := HSR.out.cell (k := 3) 0 rfl rfl); (have r4 := HSR.out.cell (k := 4) 0 rfl rfl); (have z0 := HSR.out.frz (k := 0) 0 rfl); (have z1 := HSR.out.frz (k := 1) 0 rfl); (have z2 := HSR.out.frz (k := 2) 0 rfl); (have z3 := HSR.out.frz (k := 3) 0 rfl); (have z4 := HSR.out.frz (k := 4) 0 rfl))
    rw [HF.out]
    have HSF := Lib.hid (((((HSR.out.setBlk (k := 0) 0 rfl (.slice none 0 0)).setBlk (k := 1) 0 rfl (.slice none 0 0)).setBlk (k := 2) 0 rfl (.slice none 0 0)).setBlk (k := 3) 0 rfl (.slice none 0 0)).setBlk (k := 4) 0 rfl (.slice none 0 0))
    have q0 := HSF.out.cell (k := 0) 0 rfl rfl
    have q1 := HSF.out.cell (k := 1) 0 rfl rfl
    have q2 := HSF.out.cell (k := 2) 0 rfl rfl
    have q3 := HSF.out.cell (k := 3) 0 rfl rfl
    have q4 := HSF.out.cell (k := 4) 0 rfl rfl
    exact bodyPost_ret (v := .tuple #[.agg zTell.toArray, .bool false]) (by simp [results, Try.results19, go_sem, zTell, q0, q1, q2, q3, q4]) rfl (zTe_ret2 HSF.out.bel0)
  | true =>
    have HWF := Lib.hid (Pl.good_wf HGD.out)
    obtain ⟨⟨t', is⟩, hr⟩ : ∃ r, Pl.tstep t s = r := ⟨_, rfl⟩
    have HR := Lib.hid hr
    clear hr
    have hwf' := HWF.out.step s
    rw [HR.out] at hwf'
    have HWF' := Lib.hid hwf'
    clear hwf'
    cases is with
    | false =>
      have HF : Hid (Pl.stepTell t s = (Pl.zTe, false)) := if_neg (fun h => by rw [HR.out] at h; cases h.2)
      go_wp2_with (go_at_call 20; refine CI.mono ?_; rintro e W1 ⟨rfl, hb1⟩; (have HS1 := Lib.hid (HS.out.step hb1)); (have HRT1 := Lib.hid (rTell.keep HRT0.out (w' := W1) fun b hb => hb1.block b (Nat.lt_of_lt_of_le hb HBW.out))); (have HBW1 := Lib.hid (Nat.le_trans HBW.out hb1.size)); (clear b0 b1 b2 b3 b4 r0 r1 r2 r3 r4 z0 z1 z2 z3 z4); clear hb1; (have b0 := HS1.out.cell (k := 0) 2 rfl rfl); (have b1 := HS1.out.cell (k := 1) 2 rfl rfl); (have b2 := HS1.out.cell (k := 2) 2 rfl rfl); (have b3 := HS1.out.cell (k := 3) 2 rfl rfl); (have b4 := HS1.out.cell (k := 4) 2 rfl rfl); (have s0 := HS1.out.cell (k := 0) 1 rfl rfl); (have s1 := HS1.out.cell (k := 1) 1 rfl rfl); (have s2 := HS1.out.cell (k := 2) 1 rfl rfl))
      refine Mm.wp_region_give 9 (fun i => match i with | 1 => some (gTe t) | 3 => some (gTe2 t' false) | 7 => some (Mm.gPtr 31 zTell) | 8 => some (Mm.gSto 31) | _ => none) (fun i => match i with | 3 => [1] | 8 => [7] | _ => []) (fun _ => []) (F := []) (D := fun w' => ∃ x : Und W1, w' = und W1 x) (fun X us h => Mm.sep_und h) (by kernel_rfl) (by kernel_rfl) (by kernel_rfl) (Mm.SepF.startDrew _) ?_
      repeat (refine Mm.give_det (by rfl) (by rfl) (by rfl) (fun K hK => ?_); go_big_quiet_op; refine hK _ ?_; clear hK K)
      refine Mm.give_op0 14 (by rfl) rfl (by rfl) (by rfl) (by rfl) (by rfl) gTe_in (fun others X hX => ?_) ?_
      · go_wp2_with (go_at_call 51; refine (l10Own_c t _ X B (rTell.keep HRT1.out (fun b hb => hX.bel0.block b (Nat.lt_of_lt_of_le hb HBW1.out))) (Nat.le_trans HBW1.out hX.chg.size) HWF.out.sz).mono ?_; rintro e w5 ⟨cs5, fp5, rfl, ho, hnd, hnew, hb5⟩; obtain ⟨a0, k0, a1, k1, a2, k2, a3, k3, a4, k4, rfl⟩ := own_form ho)
        exact ⟨rfl, rfl, _, ⟨a0, k0, a1, k1, a2, k2, a3, k3, a4, k4, fp5, rfl, rfl⟩, hX.add hb5 (t := Mm.tow rTell t _ _) ho hnd hnew⟩
      rintro v ds ⟨a0, k0, a1, k1, a2, k2, a3, k3, a4, k4, fp5, rfl, rfl⟩
      simp only [Act.put, List.setIfInBounds_toArray, List.set_cons_succ, List.set_cons_zero]
      repeat (refine Mm.give_det (by rfl) (by rfl) (by rfl) (fun K hK => ?_); go_big_quiet_op; refine hK _ ?_; clear hK K)
      refine Mm.give_op1 16 1 (by rfl) rfl (by rfl) (by rfl) (by rfl) rfl (by rfl) _ rfl gTe2_in (fun others X hX => ?_) ?_
      · go_wp2_with (go_at_call 50; refine (l10Step_c t s _ fp5 X (hX.at_ 0 rfl) (hX.ndat (i := 0) rfl) HMI.out.2 HWF.out).mono ?_; rintro e w6 ⟨cs6, fp6, rfl, hL⟩; rw [HR.out] at hL; rw [HR.out])
        have h9 := hX.call 0 rfl hL
        obtain ⟨a0, k0, a1, k1, a2, k2, a3, k3, a4, k4, rfl⟩ := own_form (h9.at_ 0 rfl)
        exact ⟨rfl, rfl, _, ⟨a0, k0, a1, k1, a2, k2, a3, k3, a4, k4, fp6, rfl, rfl⟩, h9⟩
      rintro v ds ⟨a0, k0, a1, k1, a2, k2, a3, k3, a4, k4, fp6, rfl, rfl⟩
      simp only [Act.put, List.setIfInBounds_toArray, List.set_cons_succ, List.set_cons_zero]
      repeat (refine Mm.give_det (by rfl) (by rfl) (by rfl) (fun K hK => ?_); go_big_quiet_op; refine hK _ ?_; clear hK K)
      refine Mm.give_op0 6 (by rfl) rfl (by rfl) (by rfl) (by rfl) (by rfl) Mm.gPtr_in (fun others X hX => ?_) ?_
      · go_wp2
        exact Mm.gvq_ptr hX rfl rfl rfl
      rintro v ds ⟨gp, rfl, rfl⟩
      simp only [Act.put, List.setIfInBounds_toArray, List.set_cons_succ, List.set_cons_zero]
      refine Mm.give_store 31 gp zTell [.slice a0 t'.Texts.length k0, .slice a1 t'.Heard.length k1, .slice a2 t'.Line.length k2, .slice a3 t'.Log.length k3, .slice a4 t'.Next.length k4] 7 (by rfl) rfl rfl (by rfl) rfl (by rfl) rfl rfl (fun others X hX => ?_) ?_
      · have HSR := Lib.hid hX
        have r0 := HSR.out.cell (k := 0) 0 rfl rfl
        have r1 := HSR.out.cell (k := 1) 0 rfl rfl
        have r2 := HSR.out.cell (k := 2) 0 rfl rfl
        have r3 := HSR.out.cell (k := 3) 0 rfl rfl
        have r4 := HSR.out.cell (k := 4) 0 rfl rfl
        have z0 := HSR.out.frz (k := 0) 0 rfl
        have z1 := HSR.out.frz (k := 1) 0 rfl
        have z2 := HSR.out.frz (k := 2) 0 rfl
        have z3 := HSR.out.frz (k := 3) 0 rfl
        have z4 := HSR.out.frz (k := 4) 0 rfl
        go_wp2
        exact ⟨rfl, rfl, _, rfl, (((((hX.setBlk (k := 0) 0 rfl (.slice a0 t'.Texts.length k0)).setBlk (k := 1) 0 rfl (.slice a1 t'.Heard.length k1)).setBlk (k := 2) 0 rfl (.slice a2 t'.Line.length k2)).setBlk (k := 3) 0 rfl (.slice a3 t'.Log.length k3)).setBlk (k := 4) 0 rfl (.slice a4 t'.Next.length k4))⟩
      refine Mm.give_nil ?_
      rintro X hX
      have HS3 := Lib.hid (HS1.out.join (us := [Mm.tow rTell t' [.slice a0 t'.Texts.length k0, .slice a1 t'.Heard.length k1, .slice a2 t'.Line.length k2, .slice a3 t'.Log.length k3, .slice a4 t'.Next.length k4] fp6, Mm.tblk gp 31 [.slice a0 t'.Texts.length k0, .slice a1 t'.Heard.length k1, .slice a2 t'.Line.length k2, .slice a3 t'.Log.length k3, .slice a4 t'.Next.length k4]]) hX)
      clear hX
      have HSR := Lib.hid (HS3.out.sel [2, 3, 4] (by decide) rfl)
      clear b0 b1 b2 b3 b4 s0 s1 s2
      have r0 := HSR.out.cell (k := 0) 0 rfl rfl
      have r1 := HSR.out.cell (k := 1) 0 rfl rfl
      have r2 := HSR.out.cell (k := 2) 0 rfl rfl
      have r3 := HSR.out.cell (k := 3) 0 rfl rfl
      have r4 := HSR.out.cell (k := 4) 0 rfl rfl
      have z0 := HSR.out.frz (k := 0) 0 rfl
      have z1 := HSR.out.frz (k := 1) 0 rfl
      have z2 := HSR.out.frz (k := 2) 0 rfl
      have z3 := HSR.out.frz (k := 3) 0 rfl
      have z4 := HSR.out.frz (k := 4) 0 rfl
      go_wp2
      rw [HF.out]
      have HSF := Lib.hid (((((HSR.out.setBlk (k := 0) 0 rfl (.slice none 0 0)).setBlk (k := 1) 0 rfl (.slice none 0 0)).setBlk (k := 2) 0 rfl (.slice none 0 0)).setBlk (k := 3) 0 rfl (.slice none 0 0)).setBlk (k := 4) 0 rfl (.slice none 0 0))
      have q0 := HSF.out.cell (k := 0) 0 rfl rfl
      have q1 := HSF.out.cell (k := 1) 0 rfl rfl
      have q2 := HSF.out.cell (k := 2) 0 rfl rfl
      have q3 := HSF.out.cell (k := 3) 0 rfl rfl
      have q4 := HSF.out.cell (k := 4) 0 rfl rfl
      exact bodyPost_ret (v := .tuple #[.agg zTell.toArray, .bool false]) (by simp [results, Try.results19, go_sem, zTell, q0, q1, q2, q3, q4]) rfl (zTe_ret2 HSF.out.bel0)
    | true =>
      have HF : Hid (Pl.stepTell t s = (t', true)) := Lib.hid (by unfold Pl.stepTell; rw [if_pos (by rw [HR.out]; exact ⟨HGD.out, rfl⟩), HR.out])
      go_wp2_with (go_at_call 20; refine CI.mono ?_; rintro e W1 ⟨rfl, hb1⟩; (have HS1 := Lib.hid (HS.out.step hb1)); (have HRT1 := Lib.hid (rTell.keep HRT0.out (w' := W1) fun b hb => hb1.block b (Nat.lt_of_lt_of_le hb HBW.out))); (have HBW1 := Lib.hid (Nat.le_trans HBW.out hb1.size)); (clear b0 b1 b2 b3 b4 r0 r1 r2 r3 r4 z0 z1 z2 z3 z4); clear hb1; (have b0 := HS1.out.cell (k := 0) 2 rfl rfl); (have b1 := HS1.out.cell (k := 1) 2 rfl rfl); (have b2 := HS1.out.cell (k := 2) 2 rfl rfl); (have b3 := HS1.out.cell (k := 3) 2 rfl rfl); (have b4 := HS1.out.cell (k := 4) 2 rfl rfl); (have s0 := HS1.out.cell (k := 0) 1 rfl rfl); (have s1 := HS1.out.cell (k := 1) 1 rfl rfl); (have s2 := HS1.out.cell (k := 2) 1 rfl rfl))
      refine Mm.wp_region_give 9 (fun i => match i with | 1 => some (gTe t) | 3 => some (gTe2 t' true) | 7 => some (Mm.gPtr 31 zTell) | 8 => some (Mm.gSto 31) | _ => none) (fun i => match i with | 3 => [1] | 8 => [7] | _ => []) (fun _ => []) (F := []) (D := fun w' => ∃ x : Und W1, w' = und W1 x) (fun X us h => Mm.sep_und h) (by kernel_rfl) (by kernel_rfl) (by kernel_rfl) (Mm.SepF.startDrew _) ?_
      repeat (refine Mm.give_det (by rfl) (by rfl) (by rfl) (fun K hK => ?_); go_big_quiet_op; refine hK _ ?_; clear hK K)
      refine Mm.give_op0 14 (by rfl) rfl (by rfl) (by rfl) (by rfl) (by rfl) gTe_in (fun others X hX => ?_) ?_
      · go_wp2_with (go_at_call 51; refine (l10Own_c t _ X B (rTell.keep HRT1.out (fun b hb => hX.bel0.block b (Nat.lt_of_lt_of_le hb HBW1.out))) (Nat.le_trans HBW1.out hX.chg.size) HWF.out.sz).mono ?_; rintro e w5 ⟨cs5, fp5, rfl, ho, hnd, hnew, hb5⟩; obtain ⟨a0, k0, a1, k1, a2, k2, a3, k3, a4, k4, rfl⟩ := own_form ho)
        exact ⟨rfl, rfl, _, ⟨a0, k0, a1, k1, a2, k2, a3, k3, a4, k4, fp5, rfl, rfl⟩, hX.add hb5 (t := Mm.tow rTell t _ _) ho hnd hnew⟩
      rintro v ds ⟨a0, k0, a1, k1, a2, k2, a3, k3, a4, k4, fp5, rfl, rfl⟩
      simp only [Act.put, List.setIfInBounds_toArray, List.set_cons_succ, List.set_cons_zero]
      repeat (refine Mm.give_det (by rfl) (by rfl) (by rfl) (fun K hK => ?_); go_big_quiet_op; refine hK _ ?_; clear hK K)
      refine Mm.give_op1 16 1 (by rfl) rfl (by rfl) (by rfl) (by rfl) rfl (by rfl) _ rfl gTe2_in (fun others X hX => ?_) ?_
      · go_wp2_with (go_at_call 50; refine (l10Step_c t s _ fp5 X (hX.at_ 0 rfl) (hX.ndat (i := 0) rfl) HMI.out.2 HWF.out).mono ?_; rintro e w6 ⟨cs6, fp6, rfl, hL⟩; rw [HR.out] at hL; rw [HR.out])
        have h9 := hX.call 0 rfl hL
        obtain ⟨a0, k0, a1, k1, a2, k2, a3, k3, a4, k4, rfl⟩ := own_form (h9.at_ 0 rfl)
        exact ⟨rfl, rfl, _, ⟨a0, k0, a1, k1, a2, k2, a3, k3, a4, k4, fp6, rfl, rfl⟩, h9⟩
      rintro v ds ⟨a0, k0, a1, k1, a2, k2, a3, k3, a4, k4, fp6, rfl, rfl⟩
      simp only [Act.put, List.setIfInBounds_toArray, List.set_cons_succ, List.set_cons_zero]
      repeat (refine Mm.give_det (by rfl) (by rfl) (by rfl) (fun K hK => ?_); go_big_quiet_op; refine hK _ ?_; clear hK K)
      refine Mm.give_op0 6 (by rfl) rfl (by rfl) (by rfl) (by rfl) (by rfl) Mm.gPtr_in (fun others X hX => ?_) ?_
      · go_wp2
        exact Mm.gvq_ptr hX rfl rfl rfl
      rintro v ds ⟨gp, rfl, rfl⟩
      simp only [Act.put, List.setIfInBounds_toArray, List.set_cons_succ, List.set_cons_zero]
      refine Mm.give_store 31 gp zTell [.slice a0 t'.Texts.length k0, .slice a1 t'.Heard.length k1, .slice a2 t'.Line.length k2, .slice a3 t'.Log.length k3, .slice a4 t'.Next.length k4] 7 (by rfl) rfl rfl (by rfl) rfl (by rfl) rfl rfl (fun others X hX => ?_) ?_
      · have HSR := Lib.hid hX
        have r0 := HSR.out.cell (k := 0) 0 rfl rfl
        have r1 := HSR.out.cell (k := 1) 0 rfl rfl
        have r2 := HSR.out.cell (k := 2) 0 rfl rfl
        have r3 := HSR.out.cell (k := 3) 0 rfl rfl
        have r4 := HSR.out.cell (k := 4) 0 rfl rfl
        have z0 := HSR.out.frz (k := 0) 0 rfl
        have z1 := HSR.out.frz (k := 1) 0 rfl
        have z2 := HSR.out.frz (k := 2) 0 rfl
        have z3 := HSR.out.frz (k := 3) 0 rfl
        have z4 := HSR.out.frz (k := 4) 0 rfl
        go_wp2
        exact ⟨rfl, rfl, _, rfl, (((((hX.setBlk (k := 0) 0 rfl (.slice a0 t'.Texts.length k0)).setBlk (k := 1) 0 rfl (.slice a1 t'.Heard.length k1)).setBlk (k := 2) 0 rfl (.slice a2 t'.Line.length k2)).setBlk (k := 3) 0 rfl (.slice a3 t'.Log.length k3)).setBlk (k := 4) 0 rfl (.slice a4 t'.Next.length k4))⟩
      refine Mm.give_nil ?_
      rintro X hX
      have HS3 := Lib.hid (HS1.out.join (us := [Mm.tow rTell t' [.slice a0 t'.Texts.length k0, .slice a1 t'.Heard.length k1, .slice a2 t'.Line.length k2, .slice a3 t'.Log.length k3, .slice a4 t'.Next.length k4] fp6, Mm.tblk gp 31 [.slice a0 t'.Texts.length k0, .slice a1 t'.Heard.length k1, .slice a2 t'.Line.length k2, .slice a3 t'.Log.length k3, .slice a4 t'.Next.length k4]]) hX)
      clear hX
      clear b0 b1 b2 b3 b4 s0 s1 s2
      have u0 := HS3.out.cell (k := 0) 1 rfl rfl
      have u1 := HS3.out.cell (k := 1) 1 rfl rfl
      have u2 := HS3.out.cell (k := 2) 1 rfl rfl
      have u3 := HS3.out.cell (k := 3) 1 rfl rfl
      have u4 := HS3.out.cell (k := 4) 1 rfl rfl
      go_wp2_with (go_at_call 51; refine (l10Own_c t' _ _ X.heap.size (HS3.out.rd 0 rfl) (Nat.le_refl _) HWF'.out.sz).mono ?_; rintro e w5 ⟨cs5, fp5, rfl, ho, hnd, hnew, hb5⟩; obtain ⟨A10, c10, A11, c11, A12, c12, A13, c13, A14, c14, rfl⟩ := own_form ho; (have HSR := Lib.hid (HS3.out.add hb5 (t := Mm.tow rTell t' _ _) ho hnd hnew)); clear ho hnd hnew hb5 u0 u1 u2 u3 u4; (have r0 := HSR.out.cell (k := 0) 3 rfl rfl); (have r1 := HSR.out.cell (k := 1) 3 rfl rfl); (have r2 := HSR.out.cell (k := 2) 3 rfl rfl); (have r3 := HSR.out.cell (k := 3) 3 rfl rfl); (have r4 := HSR.out.cell (k := 4) 3 rfl rfl); (have z0 := HSR.out.frz (k := 0) 3 rfl); (have z1 := HSR.out.frz (k := 1) 3 rfl); (have z2 := HSR.out.frz (k := 2) 3 rfl); (have z3 := HSR.out.frz (k := 3) 3 rfl); (have z4 := HSR.out.frz (k := 4) 3 rfl))
      have HSF := Lib.hid (((((HSR.out.setBlk (k := 0) 3 rfl (.slice A10 t'.Texts.length c10)).setBlk (k := 1) 3 rfl (.slice A11 t'.Heard.length c11)).setBlk (k := 2) 3 rfl (.slice A12 t'.Line.length c12)).setBlk (k := 3) 3 rfl (.slice A13 t'.Log.length c13)).setBlk (k := 4) 3 rfl (.slice A14 t'.Next.length c14))
      have q0 := HSF.out.cell (k := 0) 3 rfl rfl
      have q1 := HSF.out.cell (k := 1) 3 rfl rfl
      have q2 := HSF.out.cell (k := 2) 3 rfl rfl
      have q3 := HSF.out.cell (k := 3) 3 rfl rfl
      have q4 := HSF.out.cell (k := 4) 3 rfl rfl
      rw [HF.out]
      exact bodyPost_ret (v := .tuple #[.agg #[.slice A10 t'.Texts.length c10, .slice A11 t'.Heard.length c11, .slice A12 t'.Line.length c12, .slice A13 t'.Log.length c13, .slice A14 t'.Next.length c14], .bool true]) (by simp [results, Try.results19, go_sem, q0, q1, q2, q3, q4]) rfl (tell_ret2 HSF.out)
end Go.Proofs.Ytaepohocabealaa

/-
  The laws' own comparisons answer true of two things that read alike. No conditions.
-/
namespace Go.Proofs.Ytaepohocabealaa
open Go.RowKit
attribute [local go_sem] und_cell
set_option maxHeartbeats 1000000 in
theorem eqIntS_c (l : List Int) (A A' : Option Addr) (n n' c c' : Nat) (w : World) (B : Nat) (hl : Mm.SlAt Mm.int w B l A n c) (hl' : Mm.SlAt Mm.int w B l A' n' c') (hB : B ≤ w.heap.size) :
    Calls Try.prog 65 #[.slice A n c, .slice A' n' c'] w fun e w' => e = .returned (.bool true) ∧ Below w.heap.size w w' := by
  obtain rfl : n = n' := hl.1.symm.trans hl'.1
  have hn : n ≤ 9223372036854775807 := by have := hl.2.1; have := hl.2.2.1; unfold maxLen at this; omega
  have HL : Hid (Mm.SlAt Mm.int w B l A n c ∧ Mm.SlAt Mm.int w B l A' n c') := ⟨hl, hl'⟩
  clear hl hl'
  go_enter Try.func65, Try.ntmps65
  go_wp2
  go_loopw [5] (fun i wr => ∃ k : Nat, k ≤ n ∧ i = .int .i64 k ∧ Below w.heap.size w wr) (fun i _ => n - (intOf i).toNat)
  case atStart => exact ⟨0, Nat.zero_le _, rfl, Below.refl _ _⟩
  case round =>
    obtain ⟨k, hk, rfl, hbel⟩ := hrel
    rename_i wr _
    by_cases hlt : k < n
    · obtain ⟨x, b, off, hx, rfl, hb, uf0, uc0⟩ := int_get (HL.out.1.keep (w' := wr) (fun b hb => hbel.block b (by omega))) hlt
      obtain ⟨y, b', off', hy, rfl, hb', vf0, vc0⟩ := int_get (HL.out.2.keep (w' := wr) (fun b hb => hbel.block b (by omega))) hlt
      obtain rfl : x = y := by rw [hx] at hy; injection hy
      have hBw : B ≤ wr.heap.size := Nat.le_trans hB hbel.size
      clear hx hy uf0 vf0
      go_wp2
      refine wp_region_und (by kernel_rfl) (by kernel_rfl) ?_
      repeat (go_big_quiet_step ((first | fail)))
      refine wpQuiet_nil ?_
      intro X hX
      go_wp2
      go_roundw
      case rel => exact ⟨k + 1, by omega, by go_num, below_step hbel hX⟩
      case measure => simp [intOf]; omega
    · go_wp2
      go_ret
      exact ⟨rfl, hbel⟩
set_option maxHeartbeats 1000000 in
theorem eqStringS_c (l : List ByteArray) (A A' : Option Addr) (n n' c c' : Nat) (w : World) (B : Nat) (hl : Mm.SlAt Mm.str w B l A n c) (hl' : Mm.SlAt Mm.str w B l A' n' c') (hB : B ≤ w.heap.size) :
    Calls Try.prog 103 #[.slice A n c, .slice A' n' c'] w fun e w' => e = .returned (.bool true) ∧ Below w.heap.size w w' := by
  obtain rfl : n = n' := hl.1.symm.trans hl'.1
  have hn : n ≤ 9223372036854775807 := by have := hl.2.1; have := hl.2.2.1; unfold maxLen at this; omega
  have HL : Hid (Mm.SlAt Mm.str w B l A n c ∧ Mm.SlAt Mm.str w B l A' n c') := ⟨hl, hl'⟩
  clear hl hl'
  go_enter Try.func103, Try.ntmps103
  go_wp2
  go_loopw [5] (fun i wr => ∃ k : Nat, k ≤ n ∧ i = .int .i64 k ∧ Below w.heap.size w wr) (fun i _ => n - (intOf i).toNat)
  case atStart => exact ⟨0, Nat.zero_le _, rfl, Below.refl _ _⟩
  case round =>
    obtain ⟨k, hk, rfl, hbel⟩ := hrel
    rename_i wr _
    by_cases hlt : k < n
    · obtain ⟨x, b, off, hx, rfl, hb, uf0, uc0⟩ := str_get (HL.out.1.keep (w' := wr) (fun b hb => hbel.block b (by omega))) hlt
      obtain ⟨y, b', off', hy, rfl, hb', vf0, vc0⟩ := str_get (HL.out.2.keep (w' := wr) (fun b hb => hbel.block b (by omega))) hlt
      obtain rfl : x = y := by rw [hx] at hy; injection hy
      have hBw : B ≤ wr.heap.size := Nat.le_trans hB hbel.size
      clear hx hy uf0 vf0
      go_wp2
      refine wp_region_und (by kernel_rfl) (by kernel_rfl) ?_
      repeat (go_big_quiet_step ((first | fail)))
      refine wpQuiet_nil ?_
      intro X hX
      go_wp2
      go_roundw
      case rel => exact ⟨k + 1, by omega, by go_num, below_step hbel hX⟩
      case measure => simp [intOf]; omega
    · go_wp2
      go_ret
      exact ⟨rfl, hbel⟩
set_option maxHeartbeats 1000000 in
theorem eqBoolS_c (l : List Bool) (A A' : Option Addr) (n n' c c' : Nat) (w : World) (B : Nat) (hl : Mm.SlAt Mm.bool w B l A n c) (hl' : Mm.SlAt Mm.bool w B l A' n' c') (hB : B ≤ w.heap.size) :
    Calls Try.prog 34 #[.slice A n c, .slice A' n' c'] w fun e w' => e = .returned (.bool true) ∧ Below w.heap.size w w' := by
  obtain rfl : n = n' := hl.1.symm.trans hl'.1
  have hn : n ≤ 9223372036854775807 := by have := hl.2.1; have := hl.2.2.1; unfold maxLen at this; omega
  have HL : Hid (Mm.SlAt Mm.bool w B l A n c ∧ Mm.SlAt Mm.bool w B l A' n c') := ⟨hl, hl'⟩
  clear hl hl'
  go_enter Try.func34, Try.ntmps34
  go_wp2
  go_loopw [5] (fun i wr => ∃ k : Nat, k ≤ n ∧ i = .int .i64 k ∧ Below w.heap.size w wr) (fun i _ => n - (intOf i).toNat)
  case atStart => exact ⟨0, Nat.zero_le _, rfl, Below.refl _ _⟩
  case round =>
    obtain ⟨k, hk, rfl, hbel⟩ := hrel
    rename_i wr _
    by_cases hlt : k < n
    · obtain ⟨x, b, off, hx, rfl, hb, uc0⟩ := bool_get (HL.out.1.keep (w' := wr) (fun b hb => hbel.block b (by omega))) hlt
      obtain ⟨y, b', off', hy, rfl, hb', vc0⟩ := bool_get (HL.out.2.keep (w' := wr) (fun b hb => hbel.block b (by omega))) hlt
      obtain rfl : x = y := by rw [hx] at hy; injection hy
      have hBw : B ≤ wr.heap.size := Nat.le_trans hB hbel.size
      clear hx hy
      go_wp2
      refine wp_region_und (by kernel_rfl) (by kernel_rfl) ?_
      repeat (go_big_quiet_step ((first | fail)))
      refine wpQuiet_nil ?_
      intro X hX
      go_wp2
      go_roundw
      case rel => exact ⟨k + 1, by omega, by go_num, below_step hbel hX⟩
      case measure => simp [intOf]; omega
    · go_wp2
      go_ret
      exact ⟨rfl, hbel⟩
set_option maxHeartbeats 1000000 in
theorem eqStringSS_c (l : List (List ByteArray)) (A A' : Option Addr) (n n' c c' : Nat) (w : World) (B : Nat) (hl : Mm.SlAt strs w B l A n c) (hl' : Mm.SlAt strs w B l A' n' c') (hB : B ≤ w.heap.size) :
    Calls Try.prog 64 #[.slice A n c, .slice A' n' c'] w fun e w' => e = .returned (.bool true) ∧ Below w.heap.size w w' := by
  obtain rfl : n = n' := hl.1.symm.trans hl'.1
  have hn : n ≤ 9223372036854775807 := by have := hl.2.1; have := hl.2.2.1; unfold maxLen at this; omega
  have HL : Hid (Mm.SlAt strs w B l A n c ∧ Mm.SlAt strs w B l A' n c') := ⟨hl, hl'⟩
  clear hl hl'
  go_enter Try.func64, Try.ntmps64
  go_wp2
  go_loopw [5] (fun i wr => ∃ k : Nat, k ≤ n ∧ i = .int .i64 k ∧ Below w.heap.size w wr) (fun i _ => n - (intOf i).toNat)
  case atStart => exact ⟨0, Nat.zero_le _, rfl, Below.refl _ _⟩
  case round =>
    obtain ⟨k, hk, rfl, hbel⟩ := hrel
    rename_i wr _
    by_cases hlt : k < n
    · obtain ⟨x, b, off, P1, p1, q1, hx, rfl, hb, uf0, uc0⟩ := strs_get (HL.out.1.keep (w' := wr) (fun b hb => hbel.block b (by omega))) hlt
      obtain ⟨y, b', off', P2, p2, q2, hy, rfl, hb', vf0, vc0⟩ := strs_get (HL.out.2.keep (w' := wr) (fun b hb => hbel.block b (by omega))) hlt
      obtain rfl : x = y := by rw [hx] at hy; injection hy
      have hBw : B ≤ wr.heap.size := Nat.le_trans hB hbel.size
      have HF := Lib.hid (And.intro uf0 vf0)
      clear hx hy uf0 vf0
      go_wp2
      refine wp_region_und (by kernel_rfl) (by kernel_rfl) ?_
      repeat (go_big_quiet_step ((first | (go_at_call 103; exact und_call _ (eqStringS_c x _ _ _ _ _ _ _ B (HF.out.1.und hBw _) (HF.out.2.und hBw _) (Nat.le_trans hBw (und_size _)))))))
      refine wpQuiet_nil ?_
      intro X hX
      go_wp2
      go_roundw
      case rel => exact ⟨k + 1, by omega, by go_num, below_step hbel hX⟩
      case measure => simp [intOf]; omega
    · go_wp2
      go_ret
      exact ⟨rfl, hbel⟩
set_option maxHeartbeats 1000000 in
theorem eqTold_c (x : Told)  (w : World) :
    Calls Try.prog 105 #[.agg #[.int .i64 x.Who, .int .i64 x.No, .string x.Text], .agg #[.int .i64 x.Who, .int .i64 x.No, .string x.Text]] w fun e w' => e = .returned (.bool true) ∧ Below w.heap.size w w' := by
  go_enter Try.func105, Try.ntmps105
  go_wp2
  go_ret
  exact ⟨rfl, below_new (below_new (Below.refl _ _) _) _⟩
set_option maxHeartbeats 1000000 in
theorem eqToldS_c (l : List Told) (A A' : Option Addr) (n n' c c' : Nat) (w : World) (B : Nat) (hl : Mm.SlAt rTold w B l A n c) (hl' : Mm.SlAt rTold w B l A' n' c') (hB : B ≤ w.heap.size) :
    Calls Try.prog 67 #[.slice A n c, .slice A' n' c'] w fun e w' => e = .returned (.bool true) ∧ Below w.heap.size w w' := by
  obtain rfl : n = n' := hl.1.symm.trans hl'.1
  have hn : n ≤ 9223372036854775807 := by have := hl.2.1; have := hl.2.2.1; unfold maxLen at this; omega
  have HL : Hid (Mm.SlAt rTold w B l A n c ∧ Mm.SlAt rTold w B l A' n c') := ⟨hl, hl'⟩
  clear hl hl'
  go_enter Try.func67, Try.ntmps67
  go_wp2
  go_loopw [5] (fun i wr => ∃ k : Nat, k ≤ n ∧ i = .int .i64 k ∧ Below w.heap.size w wr) (fun i _ => n - (intOf i).toNat)
  case atStart => exact ⟨0, Nat.zero_le _, rfl, Below.refl _ _⟩
  case round =>
    obtain ⟨k, hk, rfl, hbel⟩ := hrel
    rename_i wr _
    by_cases hlt : k < n
    · obtain ⟨x, b, off, hx, rfl, hb, uf0, uf1, uf2, uc0, uc1, uc2⟩ := rTold_get (HL.out.1.keep (w' := wr) (fun b hb => hbel.block b (by omega))) hlt
      obtain ⟨y, b', off', hy, rfl, hb', vf0, vf1, vf2, vc0, vc1, vc2⟩ := rTold_get (HL.out.2.keep (w' := wr) (fun b hb => hbel.block b (by omega))) hlt
      obtain rfl : x = y := by rw [hx] at hy; injection hy
      have hBw : B ≤ wr.heap.size := Nat.le_trans hB hbel.size
      clear hx hy uf0 uf1 uf2 vf0 vf1 vf2
      go_wp2
      refine wp_region_und (by kernel_rfl) (by kernel_rfl) ?_
      repeat (go_big_quiet_step ((first | (go_at_call 105; exact und_call _ (eqTold_c x _)))))
      refine wpQuiet_nil ?_
      intro X hX
      go_wp2
      go_roundw
      case rel => exact ⟨k + 1, by omega, by go_num, below_step hbel hX⟩
      case measure => simp [intOf]; omega
    · go_wp2
      go_ret
      exact ⟨rfl, hbel⟩
set_option maxHeartbeats 1000000 in
theorem eqNote_c (x : Note)  (w : World) :
    Calls Try.prog 104 #[.agg #[.bool x.Back, .int .i64 x.What.Who, .int .i64 x.What.No, .string x.What.Text], .agg #[.bool x.Back, .int .i64 x.What.Who, .int .i64 x.What.No, .string x.What.Text]] w fun e w' => e = .returned (.bool true) ∧ Below w.heap.size w w' := by
  have HK1 := Lib.hid ((Mm.Blk.new w 94 [.bool x.Back, .int .i64 x.What.Who, .int .i64 x.What.No, .string x.What.Text]).alloc (.cells #[.bool x.Back, .int .i64 x.What.Who, .int .i64 x.What.No, .string x.What.Text] 94))
  have HK2 := Lib.hid (Mm.Blk.new' (w.alloc (.cells #[.bool x.Back, .int .i64 x.What.Who, .int .i64 x.What.No, .string x.What.Text] 94)) 94 [.bool x.Back, .int .i64 x.What.Who, .int .i64 x.What.No, .string x.What.Text] (Mm.sz1 _ _))
  have hb0 : Below w.heap.size w ((w.alloc (.cells #[.bool x.Back, .int .i64 x.What.Who, .int .i64 x.What.No, .string x.What.Text] 94)).alloc (.cells #[.bool x.Back, .int .i64 x.What.Who, .int .i64 x.What.No, .string x.What.Text] 94)) := below_new (below_new (Below.refl _ _) _) _
  have HB0 := Lib.hid hb0
  clear hb0
  go_enter Try.func104, Try.ntmps104
  go_wp2_with fail
  refine (eqTold_c x.What _).mono ?_
  rintro e w1 ⟨rfl, hb1⟩
  have HB1 := Lib.hid (below_step HB0.out hb1)
  have HK1 := Lib.hid (HK1.out.bel hb1)
  have HK2 := Lib.hid (HK2.out.bel hb1)
  clear hb1
  go_wp2
  go_ret
  exact ⟨rfl, HB1.out⟩
set_option maxHeartbeats 1000000 in
theorem eqNoteS_c (l : List Note) (A A' : Option Addr) (n n' c c' : Nat) (w : World) (B : Nat) (hl : Mm.SlAt rNote w B l A n c) (hl' : Mm.SlAt rNote w B l A' n' c') (hB : B ≤ w.heap.size) :
    Calls Try.prog 66 #[.slice A n c, .slice A' n' c'] w fun e w' => e = .returned (.bool true) ∧ Below w.heap.size w w' := by
  obtain rfl : n = n' := hl.1.symm.trans hl'.1
  have hn : n ≤ 9223372036854775807 := by have := hl.2.1; have := hl.2.2.1; unfold maxLen at this; omega
  have HL : Hid (Mm.SlAt rNote w B l A n c ∧ Mm.SlAt rNote w B l A' n c') := ⟨hl, hl'⟩
  clear hl hl'
  go_enter Try.func66, Try.ntmps66
  go_wp2
  go_loopw [5] (fun i wr => ∃ k : Nat, k ≤ n ∧ i = .int .i64 k ∧ Below w.heap.size w wr) (fun i _ => n - (intOf i).toNat)
  case atStart => exact ⟨0, Nat.zero_le _, rfl, Below.refl _ _⟩
  case round =>
    obtain ⟨k, hk, rfl, hbel⟩ := hrel
    rename_i wr _
    by_cases hlt : k < n
    · obtain ⟨x, b, off, hx, rfl, hb, uf0, uf1, uf2, uc0, uc1, uc2, uc3⟩ := rNote_get (HL.out.1.keep (w' := wr) (fun b hb => hbel.block b (by omega))) hlt
      obtain ⟨y, b', off', hy, rfl, hb', vf0, vf1, vf2, vc0, vc1, vc2, vc3⟩ := rNote_get (HL.out.2.keep (w' := wr) (fun b hb => hbel.block b (by omega))) hlt
      obtain rfl : x = y := by rw [hx] at hy; injection hy
      have hBw : B ≤ wr.heap.size := Nat.le_trans hB hbel.size
      clear hx hy uf0 uf1 uf2 vf0 vf1 vf2
      go_wp2
      refine wp_region_und (by kernel_rfl) (by kernel_rfl) ?_
      repeat (go_big_quiet_step ((first | (go_at_call 104; exact und_call _ (eqNote_c x _)))))
      refine wpQuiet_nil ?_
      intro X hX
      go_wp2
      go_roundw
      case rel => exact ⟨k + 1, by omega, by go_num, below_step hbel hX⟩
      case measure => simp [intOf]; omega
    · go_wp2
      go_ret
      exact ⟨rfl, hbel⟩
set_option maxHeartbeats 1000000 in
theorem eqTellStep_c (x : TellStep)  (w : World) :
    Calls Try.prog 68 #[.agg #[.int .i64 x.Kind, .int .i64 x.K, .string x.Text], .agg #[.int .i64 x.Kind, .int .i64 x.K, .string x.Text]] w fun e w' => e = .returned (.bool true) ∧ Below w.heap.size w w' := by
  go_enter Try.func68, Try.ntmps68
  go_wp2
  go_ret
  exact ⟨rfl, below_new (below_new (Below.refl _ _) _) _⟩
set_option maxHeartbeats 1000000 in
theorem eqTellStepS_c (l : List TellStep) (A A' : Option Addr) (n n' c c' : Nat) (w : World) (B : Nat) (hl : Mm.SlAt rTellStep w B l A n c) (hl' : Mm.SlAt rTellStep w B l A' n' c') (hB : B ≤ w.heap.size) :
    Calls Try.prog 35 #[.slice A n c, .slice A' n' c'] w fun e w' => e = .returned (.bool true) ∧ Below w.heap.size w w' := by
  obtain rfl : n = n' := hl.1.symm.trans hl'.1
  have hn : n ≤ 9223372036854775807 := by have := hl.2.1; have := hl.2.2.1; unfold maxLen at this; omega
  have HL : Hid (Mm.SlAt rTellStep w B l A n c ∧ Mm.SlAt rTellStep w B l A' n c') := ⟨hl, hl'⟩
  clear hl hl'
  go_enter Try.func35, Try.ntmps35
  go_wp2
  go_loopw [5] (fun i wr => ∃ k : Nat, k ≤ n ∧ i = .int .i64 k ∧ Below w.heap.size w wr) (fun i _ => n - (intOf i).toNat)
  case atStart => exact ⟨0, Nat.zero_le _, rfl, Below.refl _ _⟩
  case round =>
    obtain ⟨k, hk, rfl, hbel⟩ := hrel
    rename_i wr _
    by_cases hlt : k < n
    · obtain ⟨x, b, off, hx, rfl, hb, uf0, uf1, uf2, uc0, uc1, uc2⟩ := rTellStep_get (HL.out.1.keep (w' := wr) (fun b hb => hbel.block b (by omega))) hlt
      obtain ⟨y, b', off', hy, rfl, hb', vf0, vf1, vf2, vc0, vc1, vc2⟩ := rTellStep_get (HL.out.2.keep (w' := wr) (fun b hb => hbel.block b (by omega))) hlt
      obtain rfl : x = y := by rw [hx] at hy; injection hy
      have hBw : B ≤ wr.heap.size := Nat.le_trans hB hbel.size
      clear hx hy uf0 uf1 uf2 vf0 vf1 vf2
      go_wp2
      refine wp_region_und (by kernel_rfl) (by kernel_rfl) ?_
      repeat (go_big_quiet_step ((first | (go_at_call 68; exact und_call _ (eqTellStep_c x _)))))
      refine wpQuiet_nil ?_
      intro X hX
      go_wp2
      go_roundw
      case rel => exact ⟨k + 1, by omega, by go_num, below_step hbel hX⟩
      case measure => simp [intOf]; omega
    · go_wp2
      go_ret
      exact ⟨rfl, hbel⟩
set_option maxHeartbeats 1000000 in
theorem eqTell_c (x : Tell) (A0 : Option Addr) (n0 c0 : Nat) (A1 : Option Addr) (n1 c1 : Nat) (A2 : Option Addr) (n2 c2 : Nat) (A3 : Option Addr) (n3 c3 : Nat) (A4 : Option Addr) (n4 c4 : Nat) (A0' : Option Addr) (n0' c0' : Nat) (A1' : Option Addr) (n1' c1' : Nat) (A2' : Option Addr) (n2' c2' : Nat) (A3' : Option Addr) (n3' c3' : Nat) (A4' : Option Addr) (n4' c4' : Nat) (w : World) (B : Nat) (g0 : Mm.SlAt strs w B x.Texts A0 n0 c0) (g0' : Mm.SlAt strs w B x.Texts A0' n0' c0') (g1 : Mm.SlAt Mm.int w B x.Heard A1 n1 c1) (g1' : Mm.SlAt Mm.int w B x.Heard A1' n1' c1') (g2 : Mm.SlAt rNote w B x.Line A2 n2 c2) (g2' : Mm.SlAt rNote w B x.Line A2' n2' c2') (g3 : Mm.SlAt rTold w B x.Log A3 n3 c3) (g3' : Mm.SlAt rTold w B x.Log A3' n3' c3') (g4 : Mm.SlAt Mm.int w B x.Next A4 n4 c4) (g4' : Mm.SlAt Mm.int w B x.Next A4' n4' c4') (hB : B ≤ w.heap.size) :
    Calls Try.prog 33 #[.agg #[.slice A0 n0 c0, .slice A1 n1 c1, .slice A2 n2 c2, .slice A3 n3 c3, .slice A4 n4 c4], .agg #[.slice A0' n0' c0', .slice A1' n1' c1', .slice A2' n2' c2', .slice A3' n3' c3', .slice A4' n4' c4']] w fun e w' => e = .returned (.bool true) ∧ Below w.heap.size w w' := by
  have HK1 := Lib.hid ((Mm.Blk.new w 31 [.slice A0 n0 c0, .slice A1 n1 c1, .slice A2 n2 c2, .slice A3 n3 c3, .slice A4 n4 c4]).alloc (.cells #[.slice A0' n0' c0', .slice A1' n1' c1', .slice A2' n2' c2', .slice A3' n3' c3', .slice A4' n4' c4'] 31))
  have HK2 := Lib.hid (Mm.Blk.new' (w.alloc (.cells #[.slice A0 n0 c0, .slice A1 n1 c1, .slice A2 n2 c2, .slice A3 n3 c3, .slice A4 n4 c4] 31)) 31 [.slice A0' n0' c0', .slice A1' n1' c1', .slice A2' n2' c2', .slice A3' n3' c3', .slice A4' n4' c4'] (Mm.sz1 _ _))
  have hb0 : Below w.heap.size w ((w.alloc (.cells #[.slice A0 n0 c0, .slice A1 n1 c1, .slice A2 n2 c2, .slice A3 n3 c3, .slice A4 n4 c4] 31)).alloc (.cells #[.slice A0' n0' c0', .slice A1' n1' c1', .slice A2' n2' c2', .slice A3' n3' c3', .slice A4' n4' c4'] 31)) := below_new (below_new (Below.refl _ _) _) _
  have HB0 := Lib.hid hb0
  have HG := Lib.hid (And.intro hB (And.intro (And.intro g0 g0') (And.intro (And.intro g1 g1') (And.intro (And.intro g2 g2') (And.intro (And.intro g3 g3') (And.intro g4 g4'))))))
  clear hB g0 g0' g1 g1' g2 g2' g3 g3' g4 g4'
  clear hb0
  go_enter Try.func33, Try.ntmps33
  go_wp2_with fail
  refine (eqStringSS_c x.Texts _ _ _ _ _ _ _ B (HG.out.2.1.1.keep fun b hb => HB0.out.block b (Nat.lt_of_lt_of_le hb HG.out.1)) (HG.out.2.1.2.keep fun b hb => HB0.out.block b (Nat.lt_of_lt_of_le hb HG.out.1)) (Nat.le_trans HG.out.1 HB0.out.size)).mono ?_
  rintro e w1 ⟨rfl, hb1⟩
  have HB1 := Lib.hid (below_step HB0.out hb1)
  have HK1 := Lib.hid (HK1.out.bel hb1)
  have HK2 := Lib.hid (HK2.out.bel hb1)
  have p1_1 := HK1.out.cell (i := 1) rfl
  have q1_1 := HK2.out.cell (i := 1) rfl
  have p1_2 := HK1.out.cell (i := 2) rfl
  have q1_2 := HK2.out.cell (i := 2) rfl
  have p1_3 := HK1.out.cell (i := 3) rfl
  have q1_3 := HK2.out.cell (i := 3) rfl
  have p1_4 := HK1.out.cell (i := 4) rfl
  have q1_4 := HK2.out.cell (i := 4) rfl
  clear hb1
  go_wp2_with fail
  refine (eqIntS_c x.Heard _ _ _ _ _ _ _ B (HG.out.2.2.1.1.keep fun b hb => HB1.out.block b (Nat.lt_of_lt_of_le hb HG.out.1)) (HG.out.2.2.1.2.keep fun b hb => HB1.out.block b (Nat.lt_of_lt_of_le hb HG.out.1)) (Nat.le_trans HG.out.1 HB1.out.size)).mono ?_
  rintro e w2 ⟨rfl, hb2⟩
  have HB2 := Lib.hid (below_step HB1.out hb2)
  have HK1 := Lib.hid (HK1.out.bel hb2)
  have HK2 := Lib.hid (HK2.out.bel hb2)
  have p2_2 := HK1.out.cell (i := 2) rfl
  have q2_2 := HK2.out.cell (i := 2) rfl
  have p2_3 := HK1.out.cell (i := 3) rfl
  have q2_3 := HK2.out.cell (i := 3) rfl
  have p2_4 := HK1.out.cell (i := 4) rfl
  have q2_4 := HK2.out.cell (i := 4) rfl
  clear hb2
  go_wp2_with fail
  refine (eqNoteS_c x.Line _ _ _ _ _ _ _ B (HG.out.2.2.2.1.1.keep fun b hb => HB2.out.block b (Nat.lt_of_lt_of_le hb HG.out.1)) (HG.out.2.2.2.1.2.keep fun b hb => HB2.out.block b (Nat.lt_of_lt_of_le hb HG.out.1)) (Nat.le_trans HG.out.1 HB2.out.size)).mono ?_
  rintro e w3 ⟨rfl, hb3⟩
  have HB3 := Lib.hid (below_step HB2.out hb3)
  have HK1 := Lib.hid (HK1.out.bel hb3)
  have HK2 := Lib.hid (HK2.out.bel hb3)
  have p3_3 := HK1.out.cell (i := 3) rfl
  have q3_3 := HK2.out.cell (i := 3) rfl
  have p3_4 := HK1.out.cell (i := 4) rfl
  have q3_4 := HK2.out.cell (i := 4) rfl
  clear hb3
  go_wp2_with fail
  refine (eqToldS_c x.Log _ _ _ _ _ _ _ B (HG.out.2.2.2.2.1.1.keep fun b hb => HB3.out.block b (Nat.lt_of_lt_of_le hb HG.out.1)) (HG.out.2.2.2.2.1.2.keep fun b hb => HB3.out.block b (Nat.lt_of_lt_of_le hb HG.out.1)) (Nat.le_trans HG.out.1 HB3.out.size)).mono ?_
  rintro e w4 ⟨rfl, hb4⟩
  have HB4 := Lib.hid (below_step HB3.out hb4)
  have HK1 := Lib.hid (HK1.out.bel hb4)
  have HK2 := Lib.hid (HK2.out.bel hb4)
  have p4_4 := HK1.out.cell (i := 4) rfl
  have q4_4 := HK2.out.cell (i := 4) rfl
  clear hb4
  go_wp2_with fail
  refine (eqIntS_c x.Next _ _ _ _ _ _ _ B (HG.out.2.2.2.2.2.1.keep fun b hb => HB4.out.block b (Nat.lt_of_lt_of_le hb HG.out.1)) (HG.out.2.2.2.2.2.2.keep fun b hb => HB4.out.block b (Nat.lt_of_lt_of_le hb HG.out.1)) (Nat.le_trans HG.out.1 HB4.out.size)).mono ?_
  rintro e w5 ⟨rfl, hb5⟩
  have HB5 := Lib.hid (below_step HB4.out hb5)
  have HK1 := Lib.hid (HK1.out.bel hb5)
  have HK2 := Lib.hid (HK2.out.bel hb5)
  clear hb5
  go_wp2
  go_ret
  exact ⟨rfl, HB5.out⟩
theorem eqTell_at (x : Tell) (cs cs' : List Value) (w : World) (B : Nat) (h : rTell.at_ w B x cs) (h' : rTell.at_ w B x cs') (hB : B ≤ w.heap.size) :
    Calls Try.prog 33 #[.agg cs.toArray, .agg cs'.toArray] w fun e w' => e = .returned (.bool true) ∧ Below w.heap.size w w' := by
  obtain ⟨A0, n0, c0, A1, n1, c1, A2, n2, c2, A3, n3, c3, A4, n4, c4, rfl, g0, g1, g2, g3, g4⟩ := rTell_at h
  obtain ⟨A0', n0', c0', A1', n1', c1', A2', n2', c2', A3', n3', c3', A4', n4', c4', rfl, k0, k1, k2, k3, k4⟩ := rTell_at h'
  exact eqTell_c x _ _ _ _ _ _ _ _ _ _ _ _ _ _ _ _ _ _ _ _ _ _ _ _ _ _ _ _ _ _ _ B g0 k0 g1 k1 g2 k2 g3 k3 g4 k4 hB
end Go.Proofs.Ytaepohocabealaa

/-
  The laws' own sizes of arguments. No conditions.
-/
namespace Go.Proofs.Ytaepohocabealaa
open Go.RowKit
attribute [local go_sem] und_cell
set_option maxHeartbeats 1000000 in
theorem szIntS_c (l : List Int) (A : Option Addr) (n c : Nat) (left : Int) (w : World) (B : Nat) (hl : Mm.SlAt Mm.int w B l A n c) (hB : B ≤ w.heap.size) (h0 : 0 ≤ left) (h1 : left ≤ 1048576) :
    Calls Try.prog 79 #[.slice A n c, .int .i64 left] w fun e w' => e = .returned (.int .i64 (Pl.szRet left (Pl.szl Pl.sz0 l))) ∧ Below w.heap.size w w' := by
  have hn : n ≤ 9223372036854775807 := by have := hl.2.1; have := hl.2.2.1; unfold maxLen at this; omega
  have hlen : Hid (l.length = n) := hl.1
  have HZ : Hid (Pl.szl Pl.sz0 l = (n : Int)) := by show _ = _; rw [Pl.szl_zero, hlen.out]
  clear hl
  by_cases h : left - (n : Int) < 0
  · go_enter Try.func79, Try.ntmps79
    go_wp2
    go_ret
    exact ⟨ret_int (by rw [HZ.out, Pl.szRet_lt (by omega)]), Below.refl _ _⟩
  · go_enter Try.func79, Try.ntmps79
    go_wp2
    go_ret
    exact ⟨ret_int (by rw [HZ.out, Pl.szRet_ge (by omega)]), Below.refl _ _⟩
set_option maxHeartbeats 1000000 in
theorem szStringS_c (l : List ByteArray) (A : Option Addr) (n c : Nat) (left : Int) (w : World) (B : Nat) (hl : Mm.SlAt Mm.str w B l A n c) (hB : B ≤ w.heap.size) (h0 : 0 ≤ left) (h1 : left ≤ 1048576) :
    Calls Try.prog 108 #[.slice A n c, .int .i64 left] w fun e w' => e = .returned (.int .i64 (Pl.szRet left (Pl.szl Pl.szStr l))) ∧ Below w.heap.size w w' := by
  have hn : n ≤ 9223372036854775807 := by have := hl.2.1; have := hl.2.2.1; unfold maxLen at this; omega
  have hlen : Hid (l.length = n) := hl.1
  have HL := Lib.hid hl
  have HZ : Hid (Pl.szl Pl.szStr l = (n : Int) + Pl.sumI Pl.szStr l) := by show _ = _; unfold Pl.szl; rw [hlen.out]
  have HN : Hid (∀ x : ByteArray, 0 ≤ Pl.szStr x) := Pl.szStr_nn
  have hs0 := Pl.sumI_nn HN.out l
  clear hl
  by_cases h : left - (n : Int) < 0
  · go_enter Try.func108, Try.ntmps108
    go_wp2
    go_ret
    exact ⟨ret_int (by rw [HZ.out, Pl.szRet_lt (by omega)]), Below.refl _ _⟩
  · go_enter Try.func108, Try.ntmps108
    go_wp2
    go_loopw [1, 5] (fun lf i wr => ∃ k : Nat, k ≤ n ∧ i = .int .i64 k ∧ (∃ s : Int, 0 ≤ s ∧ s ≤ left ∧ s = left - n - Pl.sumI Pl.szStr (l.take k) ∧ lf = .int .i64 s) ∧ Below w.heap.size w wr) (fun _ i _ => n - (intOf i).toNat)
    case atStart => exact ⟨0, Nat.zero_le _, rfl, ⟨_, by omega, by omega, by simp [Pl.sumI], rfl⟩, Below.refl _ _⟩
    case round =>
      obtain ⟨k, hk, rfl, ⟨s, hs1, hs2, hs3, rfl⟩, hbel⟩ := hrel
      rename_i wr _
      have HS := Lib.hid hs3
      clear hs3
      by_cases hlt : k < n
      · obtain ⟨x, b, off, hx, rfl, hb, f0, d0⟩ := str_get (HL.out.keep (w' := wr) (fun b hb => hbel.block b (by omega))) hlt
        have hBw : B ≤ wr.heap.size := Nat.le_trans hB hbel.size
        have hx0 := HN.out x
        have hsn : Pl.sumI Pl.szStr (l.take (k + 1)) = Pl.sumI Pl.szStr (l.take k) + Pl.szStr x := Pl.sumI_succ hx
        have hst := Pl.sumI_take HN.out l (k + 1)
        have HA := Lib.hid (And.intro hsn hst)
        clear hsn hst hx
        have hxe : Pl.szStr x = (x.size : Int) := rfl
        have HE := Lib.hid hxe
        unfold maxLen at f0
        clear hx0 hxe
        by_cases hneg : s - (x.size : Int) < 0
        · go_wp2
          go_ret
          exact ⟨ret_int (by rw [HZ.out, Pl.szRet_lt (by have := HA.out.1; have := HA.out.2; have := HS.out; have := HE.out; omega)]), hbel⟩
        · go_wp2
          go_roundw
          case rel => exact ⟨k + 1, by omega, by go_num, ⟨_, by omega, by omega, by have := HA.out.1; have := HS.out; have := HE.out; omega, rfl⟩, hbel⟩
          case measure => simp [intOf]; omega
      · have HK : Hid (l.take k = l) := List.take_of_length_le (by have := hlen.out; omega)
        go_wp2
        go_ret
        exact ⟨ret_int (by have := HS.out; rw [HK.out] at this; rw [HZ.out, Pl.szRet_ge (by omega)]; omega), hbel⟩
set_option maxHeartbeats 1000000 in
theorem szStringSS_c (l : List (List ByteArray)) (A : Option Addr) (n c : Nat) (left : Int) (w : World) (B : Nat) (hl : Mm.SlAt strs w B l A n c) (hB : B ≤ w.heap.size) (h0 : 0 ≤ left) (h1 : left ≤ 1048576) :
    Calls Try.prog 78 #[.slice A n c, .int .i64 left] w fun e w' => e = .returned (.int .i64 (Pl.szRet left (Pl.szl (Pl.szl Pl.szStr) l))) ∧ Below w.heap.size w w' := by
  have hn : n ≤ 9223372036854775807 := by have := hl.2.1; have := hl.2.2.1; unfold maxLen at this; omega
  have hlen : Hid (l.length = n) := hl.1
  have HL := Lib.hid hl
  have HZ : Hid (Pl.szl (Pl.szl Pl.szStr) l = (n : Int) + Pl.sumI (Pl.szl Pl.szStr) l) := by show _ = _; unfold Pl.szl; rw [hlen.out]
  have HN : Hid (∀ x : (List ByteArray), 0 ≤ (Pl.szl Pl.szStr) x) := Pl.szl_nn (f := Pl.szStr) (Pl.szStr_nn)
  have hs0 := Pl.sumI_nn HN.out l
  clear hl
  by_cases h : left - (n : Int) < 0
  · go_enter Try.func78, Try.ntmps78
    go_wp2
    go_ret
    exact ⟨ret_int (by rw [HZ.out, Pl.szRet_lt (by omega)]), Below.refl _ _⟩
  · go_enter Try.func78, Try.ntmps78
    go_wp2
    go_loopw [1, 5] (fun lf i wr => ∃ k : Nat, k ≤ n ∧ i = .int .i64 k ∧ (∃ s : Int, 0 ≤ s ∧ s ≤ left ∧ s = left - n - Pl.sumI (Pl.szl Pl.szStr) (l.take k) ∧ lf = .int .i64 s) ∧ Below w.heap.size w wr) (fun _ i _ => n - (intOf i).toNat)
    case atStart => exact ⟨0, Nat.zero_le _, rfl, ⟨_, by omega, by omega, by simp [Pl.sumI], rfl⟩, Below.refl _ _⟩
    case round =>
      obtain ⟨k, hk, rfl, ⟨s, hs1, hs2, hs3, rfl⟩, hbel⟩ := hrel
      rename_i wr _
      have HS := Lib.hid hs3
      clear hs3
      by_cases hlt : k < n
      · obtain ⟨x, b, off, P, p, q, hx, rfl, hb, f0, d0⟩ := strs_get (HL.out.keep (w' := wr) (fun b hb => hbel.block b (by omega))) hlt
        have hBw : B ≤ wr.heap.size := Nat.le_trans hB hbel.size
        have hx0 := HN.out x
        have hsn : Pl.sumI (Pl.szl Pl.szStr) (l.take (k + 1)) = Pl.sumI (Pl.szl Pl.szStr) (l.take k) + (Pl.szl Pl.szStr) x := Pl.sumI_succ hx
        have hst := Pl.sumI_take HN.out l (k + 1)
        have HA := Lib.hid (And.intro hsn hst)
        clear hsn hst hx
        have HF := Lib.hid f0
        clear f0
        by_cases hneg : s - (Pl.szl Pl.szStr) x < 0
        · go_wp2_with fail
          refine (szStringS_c x _ _ _ _ _ B HF.out hBw (by omega) (by omega)).mono ?_
          rintro e w1 ⟨rfl, hb1⟩
          rw [Pl.szRet_lt hneg]
          go_wp2
          go_ret
          exact ⟨ret_int (by rw [HZ.out, Pl.szRet_lt (by have := HA.out.1; have := HA.out.2; have := HS.out; omega)]), below_step hbel hb1⟩
        · go_wp2_with fail
          refine (szStringS_c x _ _ _ _ _ B HF.out hBw (by omega) (by omega)).mono ?_
          rintro e w1 ⟨rfl, hb1⟩
          rw [Pl.szRet_ge (by omega)]
          go_wp2
          go_roundw
          case rel => exact ⟨k + 1, by omega, by go_num, ⟨_, by omega, by omega, by have := HA.out.1; have := HS.out; omega, rfl⟩, below_step hbel hb1⟩
          case measure => simp [intOf]; omega
      · have HK : Hid (l.take k = l) := List.take_of_length_le (by have := hlen.out; omega)
        go_wp2
        go_ret
        exact ⟨ret_int (by have := HS.out; rw [HK.out] at this; rw [HZ.out, Pl.szRet_ge (by omega)]; omega), hbel⟩
set_option maxHeartbeats 1000000 in
theorem szTold_c (x : Told)  (left : Int) (w : World) (B : Nat) (s0 : x.Text.size ≤ maxLen) (hB : B ≤ w.heap.size) (h0 : 0 ≤ left) (h1 : left ≤ 1048576) :
    Calls Try.prog 110 #[.agg #[.int .i64 x.Who, .int .i64 x.No, .string x.Text], .int .i64 left] w fun e w' => e = .returned (.int .i64 (Pl.szRet left (Pl.szTold x))) ∧ Below w.heap.size w w' := by
  unfold maxLen at s0
  have HK := Lib.hid (Mm.Blk.new w 132 [.int .i64 x.Who, .int .i64 x.No, .string x.Text])
  have hb0 : Below w.heap.size w (w.alloc (.cells #[.int .i64 x.Who, .int .i64 x.No, .string x.Text] 132)) := below_new (Below.refl _ _) _
  have HB0 := Lib.hid hb0
  clear hb0
  have zn0 := Pl.szStr_nn x.Text
  have e0 : Pl.szStr x.Text = (x.Text.size : Int) := rfl
  have hz : Pl.szTold x = Pl.szStr x.Text := rfl
  have HZ := Lib.hid hz
  clear hz
  have E0 := Lib.hid e0
  clear e0
  by_cases t0 : left - Pl.szStr x.Text < 0
  · have t0' := t0
    rw [E0.out] at t0'
    go_enter Try.func110, Try.ntmps110
    go_wp2
    go_ret
    exact ⟨ret_int (by rw [HZ.out, Pl.szRet_lt (by omega)]), HB0.out⟩
  · have t0' := t0
    rw [E0.out] at t0'
    go_enter Try.func110, Try.ntmps110
    go_wp2
    go_ret
    exact ⟨ret_int (by have hh : Pl.szRet left (Pl.szTold x) = left - Pl.szTold x := Pl.szRet_ge (by rw [HZ.out]; omega); have h2 := HZ.out; have := E0.out; omega), HB0.out⟩
set_option maxHeartbeats 1000000 in
theorem szToldS_c (l : List Told) (A : Option Addr) (n c : Nat) (left : Int) (w : World) (B : Nat) (hl : Mm.SlAt rTold w B l A n c) (hB : B ≤ w.heap.size) (h0 : 0 ≤ left) (h1 : left ≤ 1048576) :
    Calls Try.prog 81 #[.slice A n c, .int .i64 left] w fun e w' => e = .returned (.int .i64 (Pl.szRet left (Pl.szl Pl.szTold l))) ∧ Below w.heap.size w w' := by
  have hn : n ≤ 9223372036854775807 := by have := hl.2.1; have := hl.2.2.1; unfold maxLen at this; omega
  have hlen : Hid (l.length = n) := hl.1
  have HL := Lib.hid hl
  have HZ : Hid (Pl.szl Pl.szTold l = (n : Int) + Pl.sumI Pl.szTold l) := by show _ = _; unfold Pl.szl; rw [hlen.out]
  have HN : Hid (∀ x : Told, 0 ≤ Pl.szTold x) := Pl.szTold_nn
  have hs0 := Pl.sumI_nn HN.out l
  clear hl
  by_cases h : left - (n : Int) < 0
  · go_enter Try.func81, Try.ntmps81
    go_wp2
    go_ret
    exact ⟨ret_int (by rw [HZ.out, Pl.szRet_lt (by omega)]), Below.refl _ _⟩
  · go_enter Try.func81, Try.ntmps81
    go_wp2
    go_loopw [1, 5] (fun lf i wr => ∃ k : Nat, k ≤ n ∧ i = .int .i64 k ∧ (∃ s : Int, 0 ≤ s ∧ s ≤ left ∧ s = left - n - Pl.sumI Pl.szTold (l.take k) ∧ lf = .int .i64 s) ∧ Below w.heap.size w wr) (fun _ i _ => n - (intOf i).toNat)
    case atStart => exact ⟨0, Nat.zero_le _, rfl, ⟨_, by omega, by omega, by simp [Pl.sumI], rfl⟩, Below.refl _ _⟩
    case round =>
      obtain ⟨k, hk, rfl, ⟨s, hs1, hs2, hs3, rfl⟩, hbel⟩ := hrel
      rename_i wr _
      have HS := Lib.hid hs3
      clear hs3
      by_cases hlt : k < n
      · obtain ⟨x, b, off, hx, rfl, hb, f0, f1, f2, d0, d1, d2⟩ := rTold_get (HL.out.keep (w' := wr) (fun b hb => hbel.block b (by omega))) hlt
        have hBw : B ≤ wr.heap.size := Nat.le_trans hB hbel.size
        have hx0 := HN.out x
        have hsn : Pl.sumI Pl.szTold (l.take (k + 1)) = Pl.sumI Pl.szTold (l.take k) + Pl.szTold x := Pl.sumI_succ hx
        have hst := Pl.sumI_take HN.out l (k + 1)
        have HA := Lib.hid (And.intro hsn hst)
        clear hsn hst hx
        have HF := Lib.hid f2
        clear f0 f1 f2
        by_cases hneg : s - Pl.szTold x < 0
        · go_wp2_with fail
          refine (szTold_c x _ _ B HF.out hBw (by omega) (by omega)).mono ?_
          rintro e w1 ⟨rfl, hb1⟩
          rw [Pl.szRet_lt hneg]
          go_wp2
          go_ret
          exact ⟨ret_int (by rw [HZ.out, Pl.szRet_lt (by have := HA.out.1; have := HA.out.2; have := HS.out; omega)]), below_step hbel hb1⟩
        · go_wp2_with fail
          refine (szTold_c x _ _ B HF.out hBw (by omega) (by omega)).mono ?_
          rintro e w1 ⟨rfl, hb1⟩
          rw [Pl.szRet_ge (by omega)]
          go_wp2
          go_roundw
          case rel => exact ⟨k + 1, by omega, by go_num, ⟨_, by omega, by omega, by have := HA.out.1; have := HS.out; omega, rfl⟩, below_step hbel hb1⟩
          case measure => simp [intOf]; omega
      · have HK : Hid (l.take k = l) := List.take_of_length_le (by have := hlen.out; omega)
        go_wp2
        go_ret
        exact ⟨ret_int (by have := HS.out; rw [HK.out] at this; rw [HZ.out, Pl.szRet_ge (by omega)]; omega), hbel⟩
set_option maxHeartbeats 1000000 in
theorem szNote_c (x : Note)  (left : Int) (w : World) (B : Nat) (s0 : x.What.Text.size ≤ maxLen) (hB : B ≤ w.heap.size) (h0 : 0 ≤ left) (h1 : left ≤ 1048576) :
    Calls Try.prog 109 #[.agg #[.bool x.Back, .int .i64 x.What.Who, .int .i64 x.What.No, .string x.What.Text], .int .i64 left] w fun e w' => e = .returned (.int .i64 (Pl.szRet left (Pl.szNote x))) ∧ Below w.heap.size w w' := by
  unfold maxLen at s0
  have HK := Lib.hid (Mm.Blk.new w 134 [.bool x.Back, .int .i64 x.What.Who, .int .i64 x.What.No, .string x.What.Text])
  have hb0 : Below w.heap.size w (w.alloc (.cells #[.bool x.Back, .int .i64 x.What.Who, .int .i64 x.What.No, .string x.What.Text] 134)) := below_new (Below.refl _ _) _
  have HB0 := Lib.hid hb0
  clear hb0
  have zn0 := Pl.szTold_nn x.What
  have hz : Pl.szNote x = Pl.szTold x.What := rfl
  have HZ := Lib.hid hz
  clear hz
  by_cases t0 : left - Pl.szTold x.What < 0
  · go_enter Try.func109, Try.ntmps109
    go_wp2_with fail
    refine (szTold_c x.What _ _ (_) (by unfold maxLen; omega) (Nat.le_refl _) (by omega) (by omega)).mono ?_
    rintro e w1 ⟨rfl, hb1⟩
    rw [Pl.szRet_lt (by omega)]
    have HB1 := Lib.hid (below_step HB0.out hb1)
    have HK := Lib.hid (HK.out.bel hb1)
    clear hb1
    go_wp2
    go_ret
    exact ⟨ret_int (by rw [HZ.out, Pl.szRet_lt (by omega)]), HB1.out⟩
  · go_enter Try.func109, Try.ntmps109
    go_wp2_with fail
    refine (szTold_c x.What _ _ (_) (by unfold maxLen; omega) (Nat.le_refl _) (by omega) (by omega)).mono ?_
    rintro e w1 ⟨rfl, hb1⟩
    rw [Pl.szRet_ge (by omega)]
    have HB1 := Lib.hid (below_step HB0.out hb1)
    have HK := Lib.hid (HK.out.bel hb1)
    clear hb1
    go_wp2
    go_ret
    exact ⟨ret_int (by have hh : Pl.szRet left (Pl.szNote x) = left - Pl.szNote x := Pl.szRet_ge (by rw [HZ.out]; omega); have h2 := HZ.out; omega), HB1.out⟩
set_option maxHeartbeats 1000000 in
theorem szNoteS_c (l : List Note) (A : Option Addr) (n c : Nat) (left : Int) (w : World) (B : Nat) (hl : Mm.SlAt rNote w B l A n c) (hB : B ≤ w.heap.size) (h0 : 0 ≤ left) (h1 : left ≤ 1048576) :
    Calls Try.prog 80 #[.slice A n c, .int .i64 left] w fun e w' => e = .returned (.int .i64 (Pl.szRet left (Pl.szl Pl.szNote l))) ∧ Below w.heap.size w w' := by
  have hn : n ≤ 9223372036854775807 := by have := hl.2.1; have := hl.2.2.1; unfold maxLen at this; omega
  have hlen : Hid (l.length = n) := hl.1
  have HL := Lib.hid hl
  have HZ : Hid (Pl.szl Pl.szNote l = (n : Int) + Pl.sumI Pl.szNote l) := by show _ = _; unfold Pl.szl; rw [hlen.out]
  have HN : Hid (∀ x : Note, 0 ≤ Pl.szNote x) := Pl.szNote_nn
  have hs0 := Pl.sumI_nn HN.out l
  clear hl
  by_cases h : left - (n : Int) < 0
  · go_enter Try.func80, Try.ntmps80
    go_wp2
    go_ret
    exact ⟨ret_int (by rw [HZ.out, Pl.szRet_lt (by omega)]), Below.refl _ _⟩
  · go_enter Try.func80, Try.ntmps80
    go_wp2
    go_loopw [1, 5] (fun lf i wr => ∃ k : Nat, k ≤ n ∧ i = .int .i64 k ∧ (∃ s : Int, 0 ≤ s ∧ s ≤ left ∧ s = left - n - Pl.sumI Pl.szNote (l.take k) ∧ lf = .int .i64 s) ∧ Below w.heap.size w wr) (fun _ i _ => n - (intOf i).toNat)
    case atStart => exact ⟨0, Nat.zero_le _, rfl, ⟨_, by omega, by omega, by simp [Pl.sumI], rfl⟩, Below.refl _ _⟩
    case round =>
      obtain ⟨k, hk, rfl, ⟨s, hs1, hs2, hs3, rfl⟩, hbel⟩ := hrel
      rename_i wr _
      have HS := Lib.hid hs3
      clear hs3
      by_cases hlt : k < n
      · obtain ⟨x, b, off, hx, rfl, hb, f0, f1, f2, d0, d1, d2, d3⟩ := rNote_get (HL.out.keep (w' := wr) (fun b hb => hbel.block b (by omega))) hlt
        have hBw : B ≤ wr.heap.size := Nat.le_trans hB hbel.size
        have hx0 := HN.out x
        have hsn : Pl.sumI Pl.szNote (l.take (k + 1)) = Pl.sumI Pl.szNote (l.take k) + Pl.szNote x := Pl.sumI_succ hx
        have hst := Pl.sumI_take HN.out l (k + 1)
        have HA := Lib.hid (And.intro hsn hst)
        clear hsn hst hx
        have HF := Lib.hid f2
        clear f0 f1 f2
        by_cases hneg : s - Pl.szNote x < 0
        · go_wp2_with fail
          refine (szNote_c x _ _ B HF.out hBw (by omega) (by omega)).mono ?_
          rintro e w1 ⟨rfl, hb1⟩
          rw [Pl.szRet_lt hneg]
          go_wp2
          go_ret
          exact ⟨ret_int (by rw [HZ.out, Pl.szRet_lt (by have := HA.out.1; have := HA.out.2; have := HS.out; omega)]), below_step hbel hb1⟩
        · go_wp2_with fail
          refine (szNote_c x _ _ B HF.out hBw (by omega) (by omega)).mono ?_
          rintro e w1 ⟨rfl, hb1⟩
          rw [Pl.szRet_ge (by omega)]
          go_wp2
          go_roundw
          case rel => exact ⟨k + 1, by omega, by go_num, ⟨_, by omega, by omega, by have := HA.out.1; have := HS.out; omega, rfl⟩, below_step hbel hb1⟩
          case measure => simp [intOf]; omega
      · have HK : Hid (l.take k = l) := List.take_of_length_le (by have := hlen.out; omega)
        go_wp2
        go_ret
        exact ⟨ret_int (by have := HS.out; rw [HK.out] at this; rw [HZ.out, Pl.szRet_ge (by omega)]; omega), hbel⟩
set_option maxHeartbeats 1000000 in
theorem szTellStep_c (x : TellStep)  (left : Int) (w : World) (B : Nat) (s0 : x.Text.size ≤ maxLen) (hB : B ≤ w.heap.size) (h0 : 0 ≤ left) (h1 : left ≤ 1048576) :
    Calls Try.prog 43 #[.agg #[.int .i64 x.Kind, .int .i64 x.K, .string x.Text], .int .i64 left] w fun e w' => e = .returned (.int .i64 (Pl.szRet left (Pl.szTellStep x))) ∧ Below w.heap.size w w' := by
  unfold maxLen at s0
  have HK := Lib.hid (Mm.Blk.new w 78 [.int .i64 x.Kind, .int .i64 x.K, .string x.Text])
  have hb0 : Below w.heap.size w (w.alloc (.cells #[.int .i64 x.Kind, .int .i64 x.K, .string x.Text] 78)) := below_new (Below.refl _ _) _
  have HB0 := Lib.hid hb0
  clear hb0
  have zn0 := Pl.szStr_nn x.Text
  have e0 : Pl.szStr x.Text = (x.Text.size : Int) := rfl
  have hz : Pl.szTellStep x = Pl.szStr x.Text := rfl
  have HZ := Lib.hid hz
  clear hz
  have E0 := Lib.hid e0
  clear e0
  by_cases t0 : left - Pl.szStr x.Text < 0
  · have t0' := t0
    rw [E0.out] at t0'
    go_enter Try.func43, Try.ntmps43
    go_wp2
    go_ret
    exact ⟨ret_int (by rw [HZ.out, Pl.szRet_lt (by omega)]), HB0.out⟩
  · have t0' := t0
    rw [E0.out] at t0'
    go_enter Try.func43, Try.ntmps43
    go_wp2
    go_ret
    exact ⟨ret_int (by have hh : Pl.szRet left (Pl.szTellStep x) = left - Pl.szTellStep x := Pl.szRet_ge (by rw [HZ.out]; omega); have h2 := HZ.out; have := E0.out; omega), HB0.out⟩
set_option maxHeartbeats 1000000 in
theorem szTellStepS_c (l : List TellStep) (A : Option Addr) (n c : Nat) (left : Int) (w : World) (B : Nat) (hl : Mm.SlAt rTellStep w B l A n c) (hB : B ≤ w.heap.size) (h0 : 0 ≤ left) (h1 : left ≤ 1048576) :
    Calls Try.prog 31 #[.slice A n c, .int .i64 left] w fun e w' => e = .returned (.int .i64 (Pl.szRet left (Pl.szl Pl.szTellStep l))) ∧ Below w.heap.size w w' := by
  have hn : n ≤ 9223372036854775807 := by have := hl.2.1; have := hl.2.2.1; unfold maxLen at this; omega
  have hlen : Hid (l.length = n) := hl.1
  have HL := Lib.hid hl
  have HZ : Hid (Pl.szl Pl.szTellStep l = (n : Int) + Pl.sumI Pl.szTellStep l) := by show _ = _; unfold Pl.szl; rw [hlen.out]
  have HN : Hid (∀ x : TellStep, 0 ≤ Pl.szTellStep x) := Pl.szTellStep_nn
  have hs0 := Pl.sumI_nn HN.out l
  clear hl
  by_cases h : left - (n : Int) < 0
  · go_enter Try.func31, Try.ntmps31
    go_wp2
    go_ret
    exact ⟨ret_int (by rw [HZ.out, Pl.szRet_lt (by omega)]), Below.refl _ _⟩
  · go_enter Try.func31, Try.ntmps31
    go_wp2
    go_loopw [1, 5] (fun lf i wr => ∃ k : Nat, k ≤ n ∧ i = .int .i64 k ∧ (∃ s : Int, 0 ≤ s ∧ s ≤ left ∧ s = left - n - Pl.sumI Pl.szTellStep (l.take k) ∧ lf = .int .i64 s) ∧ Below w.heap.size w wr) (fun _ i _ => n - (intOf i).toNat)
    case atStart => exact ⟨0, Nat.zero_le _, rfl, ⟨_, by omega, by omega, by simp [Pl.sumI], rfl⟩, Below.refl _ _⟩
    case round =>
      obtain ⟨k, hk, rfl, ⟨s, hs1, hs2, hs3, rfl⟩, hbel⟩ := hrel
      rename_i wr _
      have HS := Lib.hid hs3
      clear hs3
      by_cases hlt : k < n
      · obtain ⟨x, b, off, hx, rfl, hb, f0, f1, f2, d0, d1, d2⟩ := rTellStep_get (HL.out.keep (w' := wr) (fun b hb => hbel.block b (by omega))) hlt
        have hBw : B ≤ wr.heap.size := Nat.le_trans hB hbel.size
        have hx0 := HN.out x
        have hsn : Pl.sumI Pl.szTellStep (l.take (k + 1)) = Pl.sumI Pl.szTellStep (l.take k) + Pl.szTellStep x := Pl.sumI_succ hx
        have hst := Pl.sumI_take HN.out l (k + 1)
        have HA := Lib.hid (And.intro hsn hst)
        clear hsn hst hx
        have HF := Lib.hid f2
        clear f0 f1 f2
        by_cases hneg : s - Pl.szTellStep x < 0
        · go_wp2_with fail
          refine (szTellStep_c x _ _ B HF.out hBw (by omega) (by omega)).mono ?_
          rintro e w1 ⟨rfl, hb1⟩
          rw [Pl.szRet_lt hneg]
          go_wp2
          go_ret
          exact ⟨ret_int (by rw [HZ.out, Pl.szRet_lt (by have := HA.out.1; have := HA.out.2; have := HS.out; omega)]), below_step hbel hb1⟩
        · go_wp2_with fail
          refine (szTellStep_c x _ _ B HF.out hBw (by omega) (by omega)).mono ?_
          rintro e w1 ⟨rfl, hb1⟩
          rw [Pl.szRet_ge (by omega)]
          go_wp2
          go_roundw
          case rel => exact ⟨k + 1, by omega, by go_num, ⟨_, by omega, by omega, by have := HA.out.1; have := HS.out; omega, rfl⟩, below_step hbel hb1⟩
          case measure => simp [intOf]; omega
      · have HK : Hid (l.take k = l) := List.take_of_length_le (by have := hlen.out; omega)
        go_wp2
        go_ret
        exact ⟨ret_int (by have := HS.out; rw [HK.out] at this; rw [HZ.out, Pl.szRet_ge (by omega)]; omega), hbel⟩
set_option maxHeartbeats 1000000 in
theorem szTell_c (x : Tell) (A0 : Option Addr) (n0 c0 : Nat) (A1 : Option Addr) (n1 c1 : Nat) (A2 : Option Addr) (n2 c2 : Nat) (A3 : Option Addr) (n3 c3 : Nat) (A4 : Option Addr) (n4 c4 : Nat) (left : Int) (w : World) (B : Nat) (g0 : Mm.SlAt strs w B x.Texts A0 n0 c0) (g1 : Mm.SlAt Mm.int w B x.Heard A1 n1 c1) (g2 : Mm.SlAt rNote w B x.Line A2 n2 c2) (g3 : Mm.SlAt rTold w B x.Log A3 n3 c3) (g4 : Mm.SlAt Mm.int w B x.Next A4 n4 c4) (hB : B ≤ w.heap.size) (h0 : 0 ≤ left) (h1 : left ≤ 1048576) :
    Calls Try.prog 41 #[.agg #[.slice A0 n0 c0, .slice A1 n1 c1, .slice A2 n2 c2, .slice A3 n3 c3, .slice A4 n4 c4], .int .i64 left] w fun e w' => e = .returned (.int .i64 (Pl.szRet left (Pl.szTell x))) ∧ Below w.heap.size w w' := by
  have HK := Lib.hid (Mm.Blk.new w 74 [.slice A0 n0 c0, .slice A1 n1 c1, .slice A2 n2 c2, .slice A3 n3 c3, .slice A4 n4 c4])
  have hb0 : Below w.heap.size w (w.alloc (.cells #[.slice A0 n0 c0, .slice A1 n1 c1, .slice A2 n2 c2, .slice A3 n3 c3, .slice A4 n4 c4] 74)) := below_new (Below.refl _ _) _
  have HB0 := Lib.hid hb0
  clear hb0
  have HG := Lib.hid (And.intro hB (And.intro g0 (And.intro g1 (And.intro g2 (And.intro g3 g4)))))
  clear g0 g1 g2 g3 g4
  have zn0 := Pl.szl_nn (f := (Pl.szl Pl.szStr)) (Pl.szl_nn (f := Pl.szStr) (Pl.szStr_nn)) x.Texts
  have zn1 := Pl.szl_nn (f := Pl.sz0) (Pl.sz0_nn) x.Heard
  have zn2 := Pl.szl_nn (f := Pl.szNote) (Pl.szNote_nn) x.Line
  have zn3 := Pl.szl_nn (f := Pl.szTold) (Pl.szTold_nn) x.Log
  have zn4 := Pl.szl_nn (f := Pl.sz0) (Pl.sz0_nn) x.Next
  have hz : Pl.szTell x = (Pl.szl (Pl.szl Pl.szStr)) x.Texts + (Pl.szl Pl.sz0) x.Heard + (Pl.szl Pl.szNote) x.Line + (Pl.szl Pl.szTold) x.Log + (Pl.szl Pl.sz0) x.Next := rfl
  have HZ := Lib.hid hz
  clear hz
  by_cases t0 : left - (Pl.szl (Pl.szl Pl.szStr)) x.Texts < 0
  · go_enter Try.func41, Try.ntmps41
    go_wp2_with fail
    refine (szStringSS_c x.Texts _ _ _ _ _ B (HG.out.2.1.keep fun b hb => HB0.out.block b (Nat.lt_of_lt_of_le hb HG.out.1)) (Nat.le_trans HG.out.1 HB0.out.size) (by omega) (by omega)).mono ?_
    rintro e w1 ⟨rfl, hb1⟩
    rw [Pl.szRet_lt (by omega)]
    have HB1 := Lib.hid (below_step HB0.out hb1)
    have HK := Lib.hid (HK.out.bel hb1)
    have p1_1 := HK.out.cell (i := 1) rfl
    have p1_2 := HK.out.cell (i := 2) rfl
    have p1_3 := HK.out.cell (i := 3) rfl
    have p1_4 := HK.out.cell (i := 4) rfl
    clear hb1
    go_wp2
    go_ret
    exact ⟨ret_int (by rw [HZ.out, Pl.szRet_lt (by omega)]), HB1.out⟩
  · skip
    by_cases t1 : left - (Pl.szl (Pl.szl Pl.szStr)) x.Texts - (Pl.szl Pl.sz0) x.Heard < 0
    · go_enter Try.func41, Try.ntmps41
      go_wp2_with fail
      refine (szStringSS_c x.Texts _ _ _ _ _ B (HG.out.2.1.keep fun b hb => HB0.out.block b (Nat.lt_of_lt_of_le hb HG.out.1)) (Nat.le_trans HG.out.1 HB0.out.size) (by omega) (by omega)).mono ?_
      rintro e w1 ⟨rfl, hb1⟩
      rw [Pl.szRet_ge (by omega)]
      have HB1 := Lib.hid (below_step HB0.out hb1)
      have HK := Lib.hid (HK.out.bel hb1)
      have p1_1 := HK.out.cell (i := 1) rfl
      have p1_2 := HK.out.cell (i := 2) rfl
      have p1_3 := HK.out.cell (i := 3) rfl
      have p1_4 := HK.out.cell (i := 4) rfl
      clear hb1
      go_wp2_with fail
      refine (szIntS_c x.Heard _ _ _ _ _ B (HG.out.2.2.1.keep fun b hb => HB1.out.block b (Nat.lt_of_lt_of_le hb HG.out.1)) (Nat.le_trans HG.out.1 HB1.out.size) (by omega) (by omega)).mono ?_
      rintro e w2 ⟨rfl, hb2⟩
      rw [Pl.szRet_lt (by omega)]
      have HB2 := Lib.hid (below_step HB1.out hb2)
      have HK := Lib.hid (HK.out.bel hb2)
      have p2_2 := HK.out.cell (i := 2) rfl
      have p2_3 := HK.out.cell (i := 3) rfl
      have p2_4 := HK.out.cell (i := 4) rfl
      clear hb2
      go_wp2
      go_ret
      exact ⟨ret_int (by rw [HZ.out, Pl.szRet_lt (by omega)]), HB2.out⟩
    · skip
      by_cases t2 : left - (Pl.szl (Pl.szl Pl.szStr)) x.Texts - (Pl.szl Pl.sz0) x.Heard - (Pl.szl Pl.szNote) x.Line < 0
      · go_enter Try.func41, Try.ntmps41
        go_wp2_with fail
        refine (szStringSS_c x.Texts _ _ _ _ _ B (HG.out.2.1.keep fun b hb => HB0.out.block b (Nat.lt_of_lt_of_le hb HG.out.1)) (Nat.le_trans HG.out.1 HB0.out.size) (by omega) (by omega)).mono ?_
        rintro e w1 ⟨rfl, hb1⟩
        rw [Pl.szRet_ge (by omega)]
        have HB1 := Lib.hid (below_step HB0.out hb1)
        have HK := Lib.hid (HK.out.bel hb1)
        have p1_1 := HK.out.cell (i := 1) rfl
        have p1_2 := HK.out.cell (i := 2) rfl
        have p1_3 := HK.out.cell (i := 3) rfl
        have p1_4 := HK.out.cell (i := 4) rfl
        clear hb1
        go_wp2_with fail
        refine (szIntS_c x.Heard _ _ _ _ _ B (HG.out.2.2.1.keep fun b hb => HB1.out.block b (Nat.lt_of_lt_of_le hb HG.out.1)) (Nat.le_trans HG.out.1 HB1.out.size) (by omega) (by omega)).mono ?_
        rintro e w2 ⟨rfl, hb2⟩
        rw [Pl.szRet_ge (by omega)]
        have HB2 := Lib.hid (below_step HB1.out hb2)
        have HK := Lib.hid (HK.out.bel hb2)
        have p2_2 := HK.out.cell (i := 2) rfl
        have p2_3 := HK.out.cell (i := 3) rfl
        have p2_4 := HK.out.cell (i := 4) rfl
        clear hb2
        go_wp2_with fail
        refine (szNoteS_c x.Line _ _ _ _ _ B (HG.out.2.2.2.1.keep fun b hb => HB2.out.block b (Nat.lt_of_lt_of_le hb HG.out.1)) (Nat.le_trans HG.out.1 HB2.out.size) (by omega) (by omega)).mono ?_
        rintro e w3 ⟨rfl, hb3⟩
        rw [Pl.szRet_lt (by omega)]
        have HB3 := Lib.hid (below_step HB2.out hb3)
        have HK := Lib.hid (HK.out.bel hb3)
        have p3_3 := HK.out.cell (i := 3) rfl
        have p3_4 := HK.out.cell (i := 4) rfl
        clear hb3
        go_wp2
        go_ret
        exact ⟨ret_int (by rw [HZ.out, Pl.szRet_lt (by omega)]), HB3.out⟩
      · skip
        by_cases t3 : left - (Pl.szl (Pl.szl Pl.szStr)) x.Texts - (Pl.szl Pl.sz0) x.Heard - (Pl.szl Pl.szNote) x.Line - (Pl.szl Pl.szTold) x.Log < 0
        · go_enter Try.func41, Try.ntmps41
          go_wp2_with fail
          refine (szStringSS_c x.Texts _ _ _ _ _ B (HG.out.2.1.keep fun b hb => HB0.out.block b (Nat.lt_of_lt_of_le hb HG.out.1)) (Nat.le_trans HG.out.1 HB0.out.size) (by omega) (by omega)).mono ?_
          rintro e w1 ⟨rfl, hb1⟩
          rw [Pl.szRet_ge (by omega)]
          have HB1 := Lib.hid (below_step HB0.out hb1)
          have HK := Lib.hid (HK.out.bel hb1)
          have p1_1 := HK.out.cell (i := 1) rfl
          have p1_2 := HK.out.cell (i := 2) rfl
          have p1_3 := HK.out.cell (i := 3) rfl
          have p1_4 := HK.out.cell (i := 4) rfl
          clear hb1
          go_wp2_with fail
          refine (szIntS_c x.Heard _ _ _ _ _ B (HG.out.2.2.1.keep fun b hb => HB1.out.block b (Nat.lt_of_lt_of_le hb HG.out.1)) (Nat.le_trans HG.out.1 HB1.out.size) (by omega) (by omega)).mono ?_
          rintro e w2 ⟨rfl, hb2⟩
          rw [Pl.szRet_ge (by omega)]
          have HB2 := Lib.hid (below_step HB1.out hb2)
          have HK := Lib.hid (HK.out.bel hb2)
          have p2_2 := HK.out.cell (i := 2) rfl
          have p2_3 := HK.out.cell (i := 3) rfl
          have p2_4 := HK.out.cell (i := 4) rfl
          clear hb2
          go_wp2_with fail
          refine (szNoteS_c x.Line _ _ _ _ _ B (HG.out.2.2.2.1.keep fun b hb => HB2.out.block b (Nat.lt_of_lt_of_le hb HG.out.1)) (Nat.le_trans HG.out.1 HB2.out.size) (by omega) (by omega)).mono ?_
          rintro e w3 ⟨rfl, hb3⟩
          rw [Pl.szRet_ge (by omega)]
          have HB3 := Lib.hid (below_step HB2.out hb3)
          have HK := Lib.hid (HK.out.bel hb3)
          have p3_3 := HK.out.cell (i := 3) rfl
          have p3_4 := HK.out.cell (i := 4) rfl
          clear hb3
          go_wp2_with fail
          refine (szToldS_c x.Log _ _ _ _ _ B (HG.out.2.2.2.2.1.keep fun b hb => HB3.out.block b (Nat.lt_of_lt_of_le hb HG.out.1)) (Nat.le_trans HG.out.1 HB3.out.size) (by omega) (by omega)).mono ?_
          rintro e w4 ⟨rfl, hb4⟩
          rw [Pl.szRet_lt (by omega)]
          have HB4 := Lib.hid (below_step HB3.out hb4)
          have HK := Lib.hid (HK.out.bel hb4)
          have p4_4 := HK.out.cell (i := 4) rfl
          clear hb4
          go_wp2
          go_ret
          exact ⟨ret_int (by rw [HZ.out, Pl.szRet_lt (by omega)]), HB4.out⟩
        · skip
          by_cases t4 : left - (Pl.szl (Pl.szl Pl.szStr)) x.Texts - (Pl.szl Pl.sz0) x.Heard - (Pl.szl Pl.szNote) x.Line - (Pl.szl Pl.szTold) x.Log - (Pl.szl Pl.sz0) x.Next < 0
          · go_enter Try.func41, Try.ntmps41
            go_wp2_with fail
            refine (szStringSS_c x.Texts _ _ _ _ _ B (HG.out.2.1.keep fun b hb => HB0.out.block b (Nat.lt_of_lt_of_le hb HG.out.1)) (Nat.le_trans HG.out.1 HB0.out.size) (by omega) (by omega)).mono ?_
            rintro e w1 ⟨rfl, hb1⟩
            rw [Pl.szRet_ge (by omega)]
            have HB1 := Lib.hid (below_step HB0.out hb1)
            have HK := Lib.hid (HK.out.bel hb1)
            have p1_1 := HK.out.cell (i := 1) rfl
            have p1_2 := HK.out.cell (i := 2) rfl
            have p1_3 := HK.out.cell (i := 3) rfl
            have p1_4 := HK.out.cell (i := 4) rfl
            clear hb1
            go_wp2_with fail
            refine (szIntS_c x.Heard _ _ _ _ _ B (HG.out.2.2.1.keep fun b hb => HB1.out.block b (Nat.lt_of_lt_of_le hb HG.out.1)) (Nat.le_trans HG.out.1 HB1.out.size) (by omega) (by omega)).mono ?_
            rintro e w2 ⟨rfl, hb2⟩
            rw [Pl.szRet_ge (by omega)]
            have HB2 := Lib.hid (below_step HB1.out hb2)
            have HK := Lib.hid (HK.out.bel hb2)
            have p2_2 := HK.out.cell (i := 2) rfl
            have p2_3 := HK.out.cell (i := 3) rfl
            have p2_4 := HK.out.cell (i := 4) rfl
            clear hb2
            go_wp2_with fail
            refine (szNoteS_c x.Line _ _ _ _ _ B (HG.out.2.2.2.1.keep fun b hb => HB2.out.block b (Nat.lt_of_lt_of_le hb HG.out.1)) (Nat.le_trans HG.out.1 HB2.out.size) (by omega) (by omega)).mono ?_
            rintro e w3 ⟨rfl, hb3⟩
            rw [Pl.szRet_ge (by omega)]
            have HB3 := Lib.hid (below_step HB2.out hb3)
            have HK := Lib.hid (HK.out.bel hb3)
            have p3_3 := HK.out.cell (i := 3) rfl
            have p3_4 := HK.out.cell (i := 4) rfl
            clear hb3
            go_wp2_with fail
            refine (szToldS_c x.Log _ _ _ _ _ B (HG.out.2.2.2.2.1.keep fun b hb => HB3.out.block b (Nat.lt_of_lt_of_le hb HG.out.1)) (Nat.le_trans HG.out.1 HB3.out.size) (by omega) (by omega)).mono ?_
            rintro e w4 ⟨rfl, hb4⟩
            rw [Pl.szRet_ge (by omega)]
            have HB4 := Lib.hid (below_step HB3.out hb4)
            have HK := Lib.hid (HK.out.bel hb4)
            have p4_4 := HK.out.cell (i := 4) rfl
            clear hb4
            go_wp2_with fail
            refine (szIntS_c x.Next _ _ _ _ _ B (HG.out.2.2.2.2.2.keep fun b hb => HB4.out.block b (Nat.lt_of_lt_of_le hb HG.out.1)) (Nat.le_trans HG.out.1 HB4.out.size) (by omega) (by omega)).mono ?_
            rintro e w5 ⟨rfl, hb5⟩
            rw [Pl.szRet_lt (by omega)]
            have HB5 := Lib.hid (below_step HB4.out hb5)
            have HK := Lib.hid (HK.out.bel hb5)
            clear hb5
            go_wp2
            go_ret
            exact ⟨ret_int (by rw [HZ.out, Pl.szRet_lt (by omega)]), HB5.out⟩
          · go_enter Try.func41, Try.ntmps41
            go_wp2_with fail
            refine (szStringSS_c x.Texts _ _ _ _ _ B (HG.out.2.1.keep fun b hb => HB0.out.block b (Nat.lt_of_lt_of_le hb HG.out.1)) (Nat.le_trans HG.out.1 HB0.out.size) (by omega) (by omega)).mono ?_
            rintro e w1 ⟨rfl, hb1⟩
            rw [Pl.szRet_ge (by omega)]
            have HB1 := Lib.hid (below_step HB0.out hb1)
            have HK := Lib.hid (HK.out.bel hb1)
            have p1_1 := HK.out.cell (i := 1) rfl
            have p1_2 := HK.out.cell (i := 2) rfl
            have p1_3 := HK.out.cell (i := 3) rfl
            have p1_4 := HK.out.cell (i := 4) rfl
            clear hb1
            go_wp2_with fail
            refine (szIntS_c x.Heard _ _ _ _ _ B (HG.out.2.2.1.keep fun b hb => HB1.out.block b (Nat.lt_of_lt_of_le hb HG.out.1)) (Nat.le_trans HG.out.1 HB1.out.size) (by omega) (by omega)).mono ?_
            rintro e w2 ⟨rfl, hb2⟩
            rw [Pl.szRet_ge (by omega)]
            have HB2 := Lib.hid (below_step HB1.out hb2)
            have HK := Lib.hid (HK.out.bel hb2)
            have p2_2 := HK.out.cell (i := 2) rfl
            have p2_3 := HK.out.cell (i := 3) rfl
            have p2_4 := HK.out.cell (i := 4) rfl
            clear hb2
            go_wp2_with fail
            refine (szNoteS_c x.Line _ _ _ _ _ B (HG.out.2.2.2.1.keep fun b hb => HB2.out.block b (Nat.lt_of_lt_of_le hb HG.out.1)) (Nat.le_trans HG.out.1 HB2.out.size) (by omega) (by omega)).mono ?_
            rintro e w3 ⟨rfl, hb3⟩
            rw [Pl.szRet_ge (by omega)]
            have HB3 := Lib.hid (below_step HB2.out hb3)
            have HK := Lib.hid (HK.out.bel hb3)
            have p3_3 := HK.out.cell (i := 3) rfl
            have p3_4 := HK.out.cell (i := 4) rfl
            clear hb3
            go_wp2_with fail
            refine (szToldS_c x.Log _ _ _ _ _ B (HG.out.2.2.2.2.1.keep fun b hb => HB3.out.block b (Nat.lt_of_lt_of_le hb HG.out.1)) (Nat.le_trans HG.out.1 HB3.out.size) (by omega) (by omega)).mono ?_
            rintro e w4 ⟨rfl, hb4⟩
            rw [Pl.szRet_ge (by omega)]
            have HB4 := Lib.hid (below_step HB3.out hb4)
            have HK := Lib.hid (HK.out.bel hb4)
            have p4_4 := HK.out.cell (i := 4) rfl
            clear hb4
            go_wp2_with fail
            refine (szIntS_c x.Next _ _ _ _ _ B (HG.out.2.2.2.2.2.keep fun b hb => HB4.out.block b (Nat.lt_of_lt_of_le hb HG.out.1)) (Nat.le_trans HG.out.1 HB4.out.size) (by omega) (by omega)).mono ?_
            rintro e w5 ⟨rfl, hb5⟩
            rw [Pl.szRet_ge (by omega)]
            have HB5 := Lib.hid (below_step HB4.out hb5)
            have HK := Lib.hid (HK.out.bel hb5)
            clear hb5
            go_wp2
            go_ret
            exact ⟨ret_int (by have hh : Pl.szRet left (Pl.szTell x) = left - Pl.szTell x := Pl.szRet_ge (by rw [HZ.out]; omega); have h2 := HZ.out; omega), HB5.out⟩
theorem szTell_at (x : Tell) (cs : List Value) (left : Int) (w : World) (B : Nat) (h : rTell.at_ w B x cs) (hB : B ≤ w.heap.size) (h0 : 0 ≤ left) (h1 : left ≤ 1048576) :
    Calls Try.prog 41 #[.agg cs.toArray, .int .i64 left] w fun e w' => e = .returned (.int .i64 (Pl.szRet left (Pl.szTell x))) ∧ Below w.heap.size w w' := by
  obtain ⟨A0, n0, c0, A1, n1, c1, A2, n2, c2, A3, n3, c3, A4, n4, c4, rfl, g0, g1, g2, g3, g4⟩ := rTell_at h
  exact szTell_c x _ _ _ _ _ _ _ _ _ _ _ _ _ _ _ left _ B g0 g1 g2 g3 g4 hB h0 h1
end Go.Proofs.Ytaepohocabealaa

/-
  The laws' own copies of arguments. No conditions.
-/
namespace Go.Proofs.Ytaepohocabealaa
open Go.RowKit
attribute [local go_sem] und_cell
theorem Try.info_Int : (Try.prog.info? 3).map (fun i => (i.zero, i.size, i.bytes)) = some (some (.int .i64 0), 1, 8) := by kernel_rfl
set_option maxHeartbeats 1000000 in
theorem toIntS_c (l : List Int) (A : Option Addr) (n c : Nat) (w : World) (B : Nat) (hl : Mm.SlAt Mm.int w B l A n c) (hB : B ≤ w.heap.size) (hsz : Pl.szl Pl.sz0 l ≤ 1048576) :
    Calls Try.prog 83 #[.slice A n c] w (Mm.NewSl Mm.int 3 w l) := by
  have hlen : Hid (l.length = n) := hl.1
  have HL := Lib.hid hl
  have HN : Hid (∀ x : Int, 0 ≤ Pl.sz0 x) := Pl.sz0_nn
  have HSZ := Lib.hid hsz
  have hn : n ≤ 1048576 := by have := Pl.szl_len HN.out l; have := hlen.out; omega
  clear hl hsz
  obtain ⟨i0, hi, hz0, hz1, hz2⟩ := info_parts Try.info_Int
  go_enter Try.func83, Try.ntmps83
  go_wp2_with (at_make; refine wpList_make_full _ rfl _ _ 27 rfl 0 3 i0 _ 1 Try.underlying27 hi hz0 hz1 _ _ _ _ n rfl rfl rfl rfl (by rw [hz2]; omega) (by unfold maxLen; omega) (Nat.zero_le _) ?_; intro w1 hown hgrow)
  go_loopw [4] (fun i wr => ∃ k : Nat, k ≤ n ∧ i = .int .i64 k ∧ Mm.Filled Mm.int 3 w l 0 n k wr) (fun i _ => n - (intOf i).toNat)
  case atStart => exact ⟨0, Nat.zero_le _, rfl, Mm.Filled.start (zv := .int .i64 0) hlen.out hown hgrow ⟨rfl, (by unfold Mm.I64; simp), rfl⟩ (by decide)⟩
  case round =>
    obtain ⟨k, hk, rfl, hfil⟩ := hrel
    rename_i wr _
    have HF : Hid (Mm.Filled Mm.int 3 w l 0 n k wr) := hfil
    clear hfil hown hgrow
    by_cases hlt : k < n
    · obtain ⟨x, b, off, hx, rfl, hb, f0, d0⟩ := int_get (HL.out.keep (w' := wr) (fun b hb => HF.out.below.block b (by omega))) hlt
      have hBw : B ≤ wr.heap.size := Nat.le_trans hB HF.out.below.size
      have hxs := Pl.szl_mem HN.out (List.mem_of_getElem? hx)
      have HX := Lib.hid (And.intro hx (And.intro hxs f0))
      have hw := HF.out.lt
      clear hx hxs f0
      obtain ⟨u0, t0⟩ := HF.out.cell hlt (j := 0) (by decide)
      have d0' : wr.cell? ⟨w.heap.size, k, none⟩ = some u0 := by have e0 : k * (Mm.int).size + 0 = k := (by show k * 1 + 0 = k; omega); rwa [e0] at t0
      have z0 := HF.out.frozen (k)
      clear t0
      go_wp2
      go_roundw
      case rel => exact ⟨k + 1, by omega, by go_num, by have e0 : k * (Mm.int).size = k := (by show k * 1 = k; omega); have hst := HF.out.step hlt HX.out.1 (Below.refl _ _) (cs := [.int .i64 x]) (show (Mm.int).own _ x _ [] from ⟨rfl, HX.out.2.2, rfl⟩) List.nodup_nil (fun b hb => by cases hb); rwa [e0] at hst⟩
      case measure => simp [intOf]; omega
    · go_wp2
      go_ret
      exact HF.out.done (by omega)
theorem Try.info_String : (Try.prog.info? 9).map (fun i => (i.zero, i.size, i.bytes)) = some (some (.string ⟨#[]⟩), 1, 16) := by kernel_rfl
set_option maxHeartbeats 1000000 in
theorem toStringS_c (l : List ByteArray) (A : Option Addr) (n c : Nat) (w : World) (B : Nat) (hl : Mm.SlAt Mm.str w B l A n c) (hB : B ≤ w.heap.size) (hsz : Pl.szl Pl.szStr l ≤ 1048576) :
    Calls Try.prog 111 #[.slice A n c] w (Mm.NewSl Mm.str 9 w l) := by
  have hlen : Hid (l.length = n) := hl.1
  have HL := Lib.hid hl
  have HN : Hid (∀ x : ByteArray, 0 ≤ Pl.szStr x) := Pl.szStr_nn
  have HSZ := Lib.hid hsz
  have hn : n ≤ 1048576 := by have := Pl.szl_len HN.out l; have := hlen.out; omega
  clear hl hsz
  obtain ⟨i0, hi, hz0, hz1, hz2⟩ := info_parts Try.info_String
  go_enter Try.func111, Try.ntmps111
  go_wp2_with (at_make; refine wpList_make_full _ rfl _ _ 40 rfl 0 9 i0 _ 1 Try.underlying40 hi hz0 hz1 _ _ _ _ n rfl rfl rfl rfl (by rw [hz2]; omega) (by unfold maxLen; omega) (Nat.zero_le _) ?_; intro w1 hown hgrow)
  go_loopw [4] (fun i wr => ∃ k : Nat, k ≤ n ∧ i = .int .i64 k ∧ Mm.Filled Mm.str 9 w l ⟨#[]⟩ n k wr) (fun i _ => n - (intOf i).toNat)
  case atStart => exact ⟨0, Nat.zero_le _, rfl, Mm.Filled.start (zv := .string ⟨#[]⟩) hlen.out hown hgrow ⟨rfl, (by show 0 ≤ _; exact Nat.zero_le _), rfl⟩ (by decide)⟩
  case round =>
    obtain ⟨k, hk, rfl, hfil⟩ := hrel
    rename_i wr _
    have HF : Hid (Mm.Filled Mm.str 9 w l ⟨#[]⟩ n k wr) := hfil
    clear hfil hown hgrow
    by_cases hlt : k < n
    · obtain ⟨x, b, off, hx, rfl, hb, f0, d0⟩ := str_get (HL.out.keep (w' := wr) (fun b hb => HF.out.below.block b (by omega))) hlt
      have hBw : B ≤ wr.heap.size := Nat.le_trans hB HF.out.below.size
      have hxs := Pl.szl_mem HN.out (List.mem_of_getElem? hx)
      have HX := Lib.hid (And.intro hx (And.intro hxs f0))
      have hw := HF.out.lt
      clear hx hxs f0
      obtain ⟨u0, t0⟩ := HF.out.cell hlt (j := 0) (by decide)
      have d0' : wr.cell? ⟨w.heap.size, k, none⟩ = some u0 := by have e0 : k * (Mm.str).size + 0 = k := (by show k * 1 + 0 = k; omega); rwa [e0] at t0
      have z0 := HF.out.frozen (k)
      clear t0
      go_wp2
      go_roundw
      case rel => exact ⟨k + 1, by omega, by go_num, by have e0 : k * (Mm.str).size = k := (by show k * 1 = k; omega); have hst := HF.out.step hlt HX.out.1 (Below.refl _ _) (cs := [.string x]) (show (Mm.str).own _ x _ [] from ⟨rfl, HX.out.2.2, rfl⟩) List.nodup_nil (fun b hb => by cases hb); rwa [e0] at hst⟩
      case measure => simp [intOf]; omega
    · go_wp2
      go_ret
      exact HF.out.done (by omega)
theorem Try.info_StringS : (Try.prog.info? 40).map (fun i => (i.zero, i.size, i.bytes)) = some (some (.slice none 0 0), 1, 24) := by kernel_rfl
set_option maxHeartbeats 1000000 in
theorem toStringSS_c (l : List (List ByteArray)) (A : Option Addr) (n c : Nat) (w : World) (B : Nat) (hl : Mm.SlAt strs w B l A n c) (hB : B ≤ w.heap.size) (hsz : Pl.szl (Pl.szl Pl.szStr) l ≤ 1048576) :
    Calls Try.prog 82 #[.slice A n c] w (Mm.NewSl strs 40 w l) := by
  have hlen : Hid (l.length = n) := hl.1
  have HL := Lib.hid hl
  have HN : Hid (∀ x : (List ByteArray), 0 ≤ (Pl.szl Pl.szStr) x) := Pl.szl_nn (f := Pl.szStr) (Pl.szStr_nn)
  have HSZ := Lib.hid hsz
  have hn : n ≤ 1048576 := by have := Pl.szl_len HN.out l; have := hlen.out; omega
  clear hl hsz
  obtain ⟨i0, hi, hz0, hz1, hz2⟩ := info_parts Try.info_StringS
  go_enter Try.func82, Try.ntmps82
  go_wp2_with (at_make; refine wpList_make_full _ rfl _ _ 26 rfl 0 40 i0 _ 1 Try.underlying26 hi hz0 hz1 _ _ _ _ n rfl rfl rfl rfl (by rw [hz2]; omega) (by unfold maxLen; omega) (Nat.zero_le _) ?_; intro w1 hown hgrow)
  go_loopw [4] (fun i wr => ∃ k : Nat, k ≤ n ∧ i = .int .i64 k ∧ Mm.Filled strs 40 w l [] n k wr) (fun i _ => n - (intOf i).toNat)
  case atStart => exact ⟨0, Nat.zero_le _, rfl, Mm.Filled.start (zv := .slice none 0 0) hlen.out hown hgrow ⟨_, rfl, Mm.SlOwn.nil⟩ (by decide)⟩
  case round =>
    obtain ⟨k, hk, rfl, hfil⟩ := hrel
    rename_i wr _
    have HF : Hid (Mm.Filled strs 40 w l [] n k wr) := hfil
    clear hfil hown hgrow
    by_cases hlt : k < n
    · obtain ⟨x, b, off, P, p, q, hx, rfl, hb, f0, d0⟩ := strs_get (HL.out.keep (w' := wr) (fun b hb => HF.out.below.block b (by omega))) hlt
      have hBw : B ≤ wr.heap.size := Nat.le_trans hB HF.out.below.size
      have hxs := Pl.szl_mem HN.out (List.mem_of_getElem? hx)
      have HX := Lib.hid (And.intro hx (And.intro hxs f0))
      have hw := HF.out.lt
      clear hx hxs f0
      go_wp2_with fail
      refine (toStringS_c x _ _ _ _ B HX.out.2.2 hBw (by have h1 := HX.out.2.1; have h2 := HSZ.out; omega)).mono ?_
      rintro e w2 ⟨P2, p2, q2, fp2, rfl, ho2, hnd2, hf2, hb2⟩
      have HK := Lib.hid (HF.out.keep hb2)
      have HO := Lib.hid (And.intro ho2 (And.intro hnd2 (And.intro hf2 hb2)))
      clear ho2 hnd2 hf2 hb2
      obtain ⟨u0, t0⟩ := HK.out.cell hlt (j := 0) (by decide)
      have d0' : w2.cell? ⟨w.heap.size, k, none⟩ = some u0 := by have e0 : k * (strs).size + 0 = k := (by show k * 1 + 0 = k; omega); rwa [e0] at t0
      have z0 := HK.out.frozen (k)
      clear t0
      go_wp2
      go_roundw
      case rel => exact ⟨k + 1, by omega, by go_num, by have e0 : k * (strs).size = k := (by show k * 1 = k; omega); have hst := HF.out.step hlt HX.out.1 HO.out.2.2.2 (cs := [.slice P2 p2 q2]) ⟨_, rfl, HO.out.1⟩ HO.out.2.1 HO.out.2.2.1; rwa [e0] at hst⟩
      case measure => simp [intOf]; omega
    · go_wp2
      go_ret
      exact HF.out.done (by omega)
theorem toTold_c (x : Told) (w : World) :
    Calls Try.prog 113 #[.agg #[.int .i64 x.Who, .int .i64 x.No, .string x.Text]] w fun e w' => e = .returned (.agg #[.int .i64 x.Who, .int .i64 x.No, .string x.Text]) ∧ Below w.heap.size w w' := by
  go_enter Try.func113, Try.ntmps113
  go_wp2
  exact bodyPost_ret (v := .agg #[.int .i64 x.Who, .int .i64 x.No, .string x.Text]) (by simp [results, Try.results113, go_sem]) rfl ⟨rfl, below_new (below_new (below_new (Below.refl _ _) _) _) _⟩
theorem Try.info_Told : (Try.prog.info? 52).map (fun i => (i.zero, i.size, i.bytes)) = some (some (.agg #[.int .i64 0, .int .i64 0, .string ⟨#[]⟩]), 3, 32) := by kernel_rfl
set_option maxHeartbeats 1000000 in
theorem toToldS_c (l : List Told) (A : Option Addr) (n c : Nat) (w : World) (B : Nat) (hl : Mm.SlAt rTold w B l A n c) (hB : B ≤ w.heap.size) (hsz : Pl.szl Pl.szTold l ≤ 1048576) :
    Calls Try.prog 85 #[.slice A n c] w (Mm.NewSl rTold 52 w l) := by
  have hlen : Hid (l.length = n) := hl.1
  have HL := Lib.hid hl
  have HN : Hid (∀ x : Told, 0 ≤ Pl.szTold x) := Pl.szTold_nn
  have HSZ := Lib.hid hsz
  have hn : n ≤ 1048576 := by have := Pl.szl_len HN.out l; have := hlen.out; omega
  clear hl hsz
  obtain ⟨i0, hi, hz0, hz1, hz2⟩ := info_parts Try.info_Told
  go_enter Try.func85, Try.ntmps85
  go_wp2_with (at_make; refine wpList_make_full _ rfl _ _ 29 rfl 0 52 i0 _ 3 Try.underlying29 hi hz0 hz1 _ _ _ _ n rfl rfl rfl rfl (by rw [hz2]; omega) (by unfold maxLen; omega) (Nat.zero_le _) ?_; intro w1 hown hgrow)
  go_loopw [4] (fun i wr => ∃ k : Nat, k ≤ n ∧ i = .int .i64 k ∧ Mm.Filled rTold 52 w l ⟨0, 0, ⟨#[]⟩⟩ n k wr) (fun i _ => n - (intOf i).toNat)
  case atStart => exact ⟨0, Nat.zero_le _, rfl, Mm.Filled.start (zv := .agg #[.int .i64 0, .int .i64 0, .string ⟨#[]⟩]) hlen.out hown hgrow ⟨rfl, ⟨(by unfold Mm.I64; simp), (by unfold Mm.I64; simp), (by show 0 ≤ _; exact Nat.zero_le _)⟩, rfl⟩ (by decide)⟩
  case round =>
    obtain ⟨k, hk, rfl, hfil⟩ := hrel
    rename_i wr _
    have HF : Hid (Mm.Filled rTold 52 w l ⟨0, 0, ⟨#[]⟩⟩ n k wr) := hfil
    clear hfil hown hgrow
    by_cases hlt : k < n
    · obtain ⟨x, b, off, hx, rfl, hb, f0, f1, f2, d0, d1, d2⟩ := rTold_get (HL.out.keep (w' := wr) (fun b hb => HF.out.below.block b (by omega))) hlt
      have hBw : B ≤ wr.heap.size := Nat.le_trans hB HF.out.below.size
      have hxs := Pl.szl_mem HN.out (List.mem_of_getElem? hx)
      have HX := Lib.hid (And.intro hx (And.intro hxs (And.intro f0 (And.intro f1 f2))))
      have hw := HF.out.lt
      clear hx hxs f0 f1 f2
      go_wp2_with fail
      refine (toTold_c x _).mono ?_
      rintro e w2 ⟨rfl, hb2⟩
      have HK := Lib.hid (HF.out.keep hb2)
      obtain ⟨u0, t0⟩ := HK.out.cell hlt (j := 0) (by decide)
      have d0' : w2.cell? ⟨w.heap.size, k * 3, none⟩ = some u0 := t0
      have z0 := HK.out.frozen (k * 3)
      clear t0
      obtain ⟨u1, t1⟩ := HK.out.cell hlt (j := 1) (by decide)
      have d1' : w2.cell? ⟨w.heap.size, k * 3 + 1, none⟩ = some u1 := t1
      have z1 := HK.out.frozen (k * 3 + 1)
      clear t1
      obtain ⟨u2, t2⟩ := HK.out.cell hlt (j := 2) (by decide)
      have d2' : w2.cell? ⟨w.heap.size, k * 3 + 2, none⟩ = some u2 := t2
      have z2 := HK.out.frozen (k * 3 + 2)
      clear t2
      go_wp2
      go_roundw
      case rel => exact ⟨k + 1, by omega, by go_num, HF.out.step hlt HX.out.1 hb2 (cs := [.int .i64 x.Who, .int .i64 x.No, .string x.Text]) (fx := []) ⟨rfl, ⟨HX.out.2.2.1, HX.out.2.2.2.1, HX.out.2.2.2.2⟩, rfl⟩ List.nodup_nil (fun b hb => by cases hb)⟩
      case measure => simp [intOf]; omega
    · go_wp2
      go_ret
      exact HF.out.done (by omega)
theorem toNote_c (x : Note) (w : World) :
    Calls Try.prog 112 #[.agg #[.bool x.Back, .int .i64 x.What.Who, .int .i64 x.What.No, .string x.What.Text]] w fun e w' => e = .returned (.agg #[.bool x.Back, .int .i64 x.What.Who, .int .i64 x.What.No, .string x.What.Text]) ∧ Below w.heap.size w w' := by
  have KA := Lib.hid (((Mm.Blk.new w 134 [.bool x.Back, .int .i64 x.What.Who, .int .i64 x.What.No, .string x.What.Text]).alloc (.cells #[.bool false, .int .i64 0, .int .i64 0, .string ⟨#[]⟩] 94)).alloc (.cells #[.bool x.Back, .int .i64 0, .int .i64 0, .string ⟨#[]⟩] 94))
  have KR := Lib.hid ((Mm.Blk.new' (w.alloc (.cells #[.bool x.Back, .int .i64 x.What.Who, .int .i64 x.What.No, .string x.What.Text] 134)) 94 [.bool false, .int .i64 0, .int .i64 0, .string ⟨#[]⟩] (Mm.sz1 _ _)).alloc (.cells #[.bool x.Back, .int .i64 0, .int .i64 0, .string ⟨#[]⟩] 94))
  have KO := Lib.hid (Mm.Blk.new' ((w.alloc (.cells #[.bool x.Back, .int .i64 x.What.Who, .int .i64 x.What.No, .string x.What.Text] 134)).alloc (.cells #[.bool false, .int .i64 0, .int .i64 0, .string ⟨#[]⟩] 94)) 94 [.bool x.Back, .int .i64 0, .int .i64 0, .string ⟨#[]⟩] (Mm.sz2 _ _ _))
  have hb0 : Below w.heap.size w (((w.alloc (.cells #[.bool x.Back, .int .i64 x.What.Who, .int .i64 x.What.No, .string x.What.Text] 134)).alloc (.cells #[.bool false, .int .i64 0, .int .i64 0, .string ⟨#[]⟩] 94)).alloc (.cells #[.bool x.Back, .int .i64 0, .int .i64 0, .string ⟨#[]⟩] 94)) := below_new (below_new (below_new (Below.refl _ _) _) _) _
  have HB := Lib.hid hb0
  have hlt0 := KO.out.lt
  clear hb0
  go_enter Try.func112, Try.ntmps112
  go_wp2_with fail
  refine (toTold_c x.What _).mono ?_
  rintro e w1 ⟨rfl, hb1⟩
  have KA := Lib.hid (KA.out.bel hb1)
  have KR := Lib.hid (KR.out.bel hb1)
  have KO := Lib.hid (KO.out.bel hb1)
  have HB := Lib.hid (below_step HB.out hb1)
  have o1_0 := KO.out.cell (i := 0) rfl
  have r1_0 := KR.out.cell (i := 0) rfl
  have x1_0 := KO.out.frozen 0
  have y1_0 := KR.out.frozen 0
  have o1_1 := KO.out.cell (i := 1) rfl
  have r1_1 := KR.out.cell (i := 1) rfl
  have x1_1 := KO.out.frozen 1
  have y1_1 := KR.out.frozen 1
  have o1_2 := KO.out.cell (i := 2) rfl
  have r1_2 := KR.out.cell (i := 2) rfl
  have x1_2 := KO.out.frozen 2
  have y1_2 := KR.out.frozen 2
  have o1_3 := KO.out.cell (i := 3) rfl
  have r1_3 := KR.out.cell (i := 3) rfl
  have x1_3 := KO.out.frozen 3
  have y1_3 := KR.out.frozen 3
  clear hb1
  have KA := Lib.hid (KA.out.far (p := ⟨w.heap.size + 2, 1, none⟩) (by show w.heap.size ≠ w.heap.size + 2; omega) (.int .i64 x.What.Who))
  have KR := Lib.hid (KR.out.far (p := ⟨w.heap.size + 2, 1, none⟩) (by show w.heap.size + 1 ≠ w.heap.size + 2; omega) (.int .i64 x.What.Who))
  have KO := Lib.hid (KO.out.set_ 1 (.int .i64 x.What.Who))
  have HB := Lib.hid (HB.out.setCell (p := ⟨w.heap.size + 2, 1, none⟩) (by show w.heap.size ≤ w.heap.size + 2; omega) (.int .i64 x.What.Who))
  have KA := Lib.hid (KA.out.far (p := ⟨w.heap.size + 2, 2, none⟩) (by show w.heap.size ≠ w.heap.size + 2; omega) (.int .i64 x.What.No))
  have KR := Lib.hid (KR.out.far (p := ⟨w.heap.size + 2, 2, none⟩) (by show w.heap.size + 1 ≠ w.heap.size + 2; omega) (.int .i64 x.What.No))
  have KO := Lib.hid (KO.out.set_ 2 (.int .i64 x.What.No))
  have HB := Lib.hid (HB.out.setCell (p := ⟨w.heap.size + 2, 2, none⟩) (by show w.heap.size ≤ w.heap.size + 2; omega) (.int .i64 x.What.No))
  have KA := Lib.hid (KA.out.far (p := ⟨w.heap.size + 2, 3, none⟩) (by show w.heap.size ≠ w.heap.size + 2; omega) (.string x.What.Text))
  have KR := Lib.hid (KR.out.far (p := ⟨w.heap.size + 2, 3, none⟩) (by show w.heap.size + 1 ≠ w.heap.size + 2; omega) (.string x.What.Text))
  have KO := Lib.hid (KO.out.set_ 3 (.string x.What.Text))
  have HB := Lib.hid (HB.out.setCell (p := ⟨w.heap.size + 2, 3, none⟩) (by show w.heap.size ≤ w.heap.size + 2; omega) (.string x.What.Text))
  go_wp2
  have HB := Lib.hid (HB.out.setCell (p := ⟨w.heap.size + 1, 0, none⟩) (by show w.heap.size ≤ w.heap.size + 1; omega) (.bool x.Back))
  have HB := Lib.hid (HB.out.setCell (p := ⟨w.heap.size + 1, 1, none⟩) (by show w.heap.size ≤ w.heap.size + 1; omega) (.int .i64 x.What.Who))
  have HB := Lib.hid (HB.out.setCell (p := ⟨w.heap.size + 1, 2, none⟩) (by show w.heap.size ≤ w.heap.size + 1; omega) (.int .i64 x.What.No))
  have HB := Lib.hid (HB.out.setCell (p := ⟨w.heap.size + 1, 3, none⟩) (by show w.heap.size ≤ w.heap.size + 1; omega) (.string x.What.Text))
  exact bodyPost_ret (v := .agg #[.bool x.Back, .int .i64 x.What.Who, .int .i64 x.What.No, .string x.What.Text]) (by simp [results, Try.results112, go_sem, r1_0, r1_1, r1_2, r1_3]) rfl ⟨rfl, HB.out⟩
theorem Try.info_Note : (Try.prog.info? 94).map (fun i => (i.zero, i.size, i.bytes)) = some (some (.agg #[.bool false, .int .i64 0, .int .i64 0, .string ⟨#[]⟩]), 4, 40) := by kernel_rfl
set_option maxHeartbeats 1000000 in
theorem toNoteS_c (l : List Note) (A : Option Addr) (n c : Nat) (w : World) (B : Nat) (hl : Mm.SlAt rNote w B l A n c) (hB : B ≤ w.heap.size) (hsz : Pl.szl Pl.szNote l ≤ 1048576) :
    Calls Try.prog 84 #[.slice A n c] w (Mm.NewSl rNote 94 w l) := by
  have hlen : Hid (l.length = n) := hl.1
  have HL := Lib.hid hl
  have HN : Hid (∀ x : Note, 0 ≤ Pl.szNote x) := Pl.szNote_nn
  have HSZ := Lib.hid hsz
  have hn : n ≤ 1048576 := by have := Pl.szl_len HN.out l; have := hlen.out; omega
  clear hl hsz
  obtain ⟨i0, hi, hz0, hz1, hz2⟩ := info_parts Try.info_Note
  go_enter Try.func84, Try.ntmps84
  go_wp2_with (at_make; refine wpList_make_full _ rfl _ _ 28 rfl 0 94 i0 _ 4 Try.underlying28 hi hz0 hz1 _ _ _ _ n rfl rfl rfl rfl (by rw [hz2]; omega) (by unfold maxLen; omega) (Nat.zero_le _) ?_; intro w1 hown hgrow)
  go_loopw [4] (fun i wr => ∃ k : Nat, k ≤ n ∧ i = .int .i64 k ∧ Mm.Filled rNote 94 w l ⟨false, ⟨0, 0, ⟨#[]⟩⟩⟩ n k wr) (fun i _ => n - (intOf i).toNat)
  case atStart => exact ⟨0, Nat.zero_le _, rfl, Mm.Filled.start (zv := .agg #[.bool false, .int .i64 0, .int .i64 0, .string ⟨#[]⟩]) hlen.out hown hgrow ⟨rfl, ⟨(by unfold Mm.I64; simp), (by unfold Mm.I64; simp), (by show 0 ≤ _; exact Nat.zero_le _)⟩, rfl⟩ (by decide)⟩
  case round =>
    obtain ⟨k, hk, rfl, hfil⟩ := hrel
    rename_i wr _
    have HF : Hid (Mm.Filled rNote 94 w l ⟨false, ⟨0, 0, ⟨#[]⟩⟩⟩ n k wr) := hfil
    clear hfil hown hgrow
    by_cases hlt : k < n
    · obtain ⟨x, b, off, hx, rfl, hb, f0, f1, f2, d0, d1, d2, d3⟩ := rNote_get (HL.out.keep (w' := wr) (fun b hb => HF.out.below.block b (by omega))) hlt
      have hBw : B ≤ wr.heap.size := Nat.le_trans hB HF.out.below.size
      have hxs := Pl.szl_mem HN.out (List.mem_of_getElem? hx)
      have HX := Lib.hid (And.intro hx (And.intro hxs (And.intro f0 (And.intro f1 f2))))
      have hw := HF.out.lt
      clear hx hxs f0 f1 f2
      go_wp2_with fail
      refine (toNote_c x _).mono ?_
      rintro e w2 ⟨rfl, hb2⟩
      have HK := Lib.hid (HF.out.keep hb2)
      obtain ⟨u0, t0⟩ := HK.out.cell hlt (j := 0) (by decide)
      have d0' : w2.cell? ⟨w.heap.size, k * 4, none⟩ = some u0 := t0
      have z0 := HK.out.frozen (k * 4)
      clear t0
      obtain ⟨u1, t1⟩ := HK.out.cell hlt (j := 1) (by decide)
      have d1' : w2.cell? ⟨w.heap.size, k * 4 + 1, none⟩ = some u1 := t1
      have z1 := HK.out.frozen (k * 4 + 1)
      clear t1
      obtain ⟨u2, t2⟩ := HK.out.cell hlt (j := 2) (by decide)
      have d2' : w2.cell? ⟨w.heap.size, k * 4 + 2, none⟩ = some u2 := t2
      have z2 := HK.out.frozen (k * 4 + 2)
      clear t2
      obtain ⟨u3, t3⟩ := HK.out.cell hlt (j := 3) (by decide)
      have d3' : w2.cell? ⟨w.heap.size, k * 4 + 3, none⟩ = some u3 := t3
      have z3 := HK.out.frozen (k * 4 + 3)
      clear t3
      go_wp2
      go_roundw
      case rel => exact ⟨k + 1, by omega, by go_num, HF.out.step hlt HX.out.1 hb2 (cs := [.bool x.Back, .int .i64 x.What.Who, .int .i64 x.What.No, .string x.What.Text]) (fx := []) ⟨rfl, ⟨HX.out.2.2.1, HX.out.2.2.2.1, HX.out.2.2.2.2⟩, rfl⟩ List.nodup_nil (fun b hb => by cases hb)⟩
      case measure => simp [intOf]; omega
    · go_wp2
      go_ret
      exact HF.out.done (by omega)
theorem toTellStep_c (x : TellStep) (w : World) :
    Calls Try.prog 44 #[.agg #[.int .i64 x.Kind, .int .i64 x.K, .string x.Text]] w fun e w' => e = .returned (.agg #[.int .i64 x.Kind, .int .i64 x.K, .string x.Text]) ∧ Below w.heap.size w w' := by
  go_enter Try.func44, Try.ntmps44
  go_wp2
  exact bodyPost_ret (v := .agg #[.int .i64 x.Kind, .int .i64 x.K, .string x.Text]) (by simp [results, Try.results44, go_sem]) rfl ⟨rfl, below_new (below_new (below_new (Below.refl _ _) _) _) _⟩
theorem Try.info_TellStep : (Try.prog.info? 46).map (fun i => (i.zero, i.size, i.bytes)) = some (some (.agg #[.int .i64 0, .int .i64 0, .string ⟨#[]⟩]), 3, 32) := by kernel_rfl
set_option maxHeartbeats 1000000 in
theorem toTellStepS_c (l : List TellStep) (A : Option Addr) (n c : Nat) (w : World) (B : Nat) (hl : Mm.SlAt rTellStep w B l A n c) (hB : B ≤ w.heap.size) (hsz : Pl.szl Pl.szTellStep l ≤ 1048576) :
    Calls Try.prog 32 #[.slice A n c] w (Mm.NewSl rTellStep 46 w l) := by
  have hlen : Hid (l.length = n) := hl.1
  have HL := Lib.hid hl
  have HN : Hid (∀ x : TellStep, 0 ≤ Pl.szTellStep x) := Pl.szTellStep_nn
  have HSZ := Lib.hid hsz
  have hn : n ≤ 1048576 := by have := Pl.szl_len HN.out l; have := hlen.out; omega
  clear hl hsz
  obtain ⟨i0, hi, hz0, hz1, hz2⟩ := info_parts Try.info_TellStep
  go_enter Try.func32, Try.ntmps32
  go_wp2_with (at_make; refine wpList_make_full _ rfl _ _ 23 rfl 0 46 i0 _ 3 Try.underlying23 hi hz0 hz1 _ _ _ _ n rfl rfl rfl rfl (by rw [hz2]; omega) (by unfold maxLen; omega) (Nat.zero_le _) ?_; intro w1 hown hgrow)
  go_loopw [4] (fun i wr => ∃ k : Nat, k ≤ n ∧ i = .int .i64 k ∧ Mm.Filled rTellStep 46 w l ⟨0, 0, ⟨#[]⟩⟩ n k wr) (fun i _ => n - (intOf i).toNat)
  case atStart => exact ⟨0, Nat.zero_le _, rfl, Mm.Filled.start (zv := .agg #[.int .i64 0, .int .i64 0, .string ⟨#[]⟩]) hlen.out hown hgrow ⟨rfl, ⟨(by unfold Mm.I64; simp), (by unfold Mm.I64; simp), (by show 0 ≤ _; exact Nat.zero_le _)⟩, rfl⟩ (by decide)⟩
  case round =>
    obtain ⟨k, hk, rfl, hfil⟩ := hrel
    rename_i wr _
    have HF : Hid (Mm.Filled rTellStep 46 w l ⟨0, 0, ⟨#[]⟩⟩ n k wr) := hfil
    clear hfil hown hgrow
    by_cases hlt : k < n
    · obtain ⟨x, b, off, hx, rfl, hb, f0, f1, f2, d0, d1, d2⟩ := rTellStep_get (HL.out.keep (w' := wr) (fun b hb => HF.out.below.block b (by omega))) hlt
      have hBw : B ≤ wr.heap.size := Nat.le_trans hB HF.out.below.size
      have hxs := Pl.szl_mem HN.out (List.mem_of_getElem? hx)
      have HX := Lib.hid (And.intro hx (And.intro hxs (And.intro f0 (And.intro f1 f2))))
      have hw := HF.out.lt
      clear hx hxs f0 f1 f2
      go_wp2_with fail
      refine (toTellStep_c x _).mono ?_
      rintro e w2 ⟨rfl, hb2⟩
      have HK := Lib.hid (HF.out.keep hb2)
      obtain ⟨u0, t0⟩ := HK.out.cell hlt (j := 0) (by decide)
      have d0' : w2.cell? ⟨w.heap.size, k * 3, none⟩ = some u0 := t0
      have z0 := HK.out.frozen (k * 3)
      clear t0
      obtain ⟨u1, t1⟩ := HK.out.cell hlt (j := 1) (by decide)
      have d1' : w2.cell? ⟨w.heap.size, k * 3 + 1, none⟩ = some u1 := t1
      have z1 := HK.out.frozen (k * 3 + 1)
      clear t1
      obtain ⟨u2, t2⟩ := HK.out.cell hlt (j := 2) (by decide)
      have d2' : w2.cell? ⟨w.heap.size, k * 3 + 2, none⟩ = some u2 := t2
      have z2 := HK.out.frozen (k * 3 + 2)
      clear t2
      go_wp2
      go_roundw
      case rel => exact ⟨k + 1, by omega, by go_num, HF.out.step hlt HX.out.1 hb2 (cs := [.int .i64 x.Kind, .int .i64 x.K, .string x.Text]) (fx := []) ⟨rfl, ⟨HX.out.2.2.1, HX.out.2.2.2.1, HX.out.2.2.2.2⟩, rfl⟩ List.nodup_nil (fun b hb => by cases hb)⟩
      case measure => simp [intOf]; omega
    · go_wp2
      go_ret
      exact HF.out.done (by omega)
set_option maxHeartbeats 2000000 in
theorem toTell_c (x : Tell) (A0 : Option Addr) (n0 c0 : Nat) (A1 : Option Addr) (n1 c1 : Nat) (A2 : Option Addr) (n2 c2 : Nat) (A3 : Option Addr) (n3 c3 : Nat) (A4 : Option Addr) (n4 c4 : Nat) (w : World) (B : Nat) (g0 : Mm.SlAt strs w B x.Texts A0 n0 c0) (g1 : Mm.SlAt Mm.int w B x.Heard A1 n1 c1) (g2 : Mm.SlAt rNote w B x.Line A2 n2 c2) (g3 : Mm.SlAt rTold w B x.Log A3 n3 c3) (g4 : Mm.SlAt Mm.int w B x.Next A4 n4 c4) (hB : B ≤ w.heap.size) (hsz : Pl.szTell x ≤ 1048576) :
    Calls Try.prog 42 #[.agg #[.slice A0 n0 c0, .slice A1 n1 c1, .slice A2 n2 c2, .slice A3 n3 c3, .slice A4 n4 c4]] w (Mm.NewAg rTell w x) := by
  have HG := Lib.hid (And.intro hB (And.intro g0 (And.intro g1 (And.intro g2 (And.intro g3 g4)))))
  have HSZ := Lib.hid hsz
  clear hsz g0 g1 g2 g3 g4
  have zn_Texts := Pl.szl_nn (f := (Pl.szl Pl.szStr)) (Pl.szl_nn (f := Pl.szStr) (Pl.szStr_nn)) x.Texts
  have zn_Heard := Pl.szl_nn (f := Pl.sz0) (Pl.sz0_nn) x.Heard
  have zn_Line := Pl.szl_nn (f := Pl.szNote) (Pl.szNote_nn) x.Line
  have zn_Log := Pl.szl_nn (f := Pl.szTold) (Pl.szTold_nn) x.Log
  have zn_Next := Pl.szl_nn (f := Pl.sz0) (Pl.sz0_nn) x.Next
  have hz : Pl.szTell x = (Pl.szl (Pl.szl Pl.szStr)) x.Texts + (Pl.szl Pl.sz0) x.Heard + (Pl.szl Pl.szNote) x.Line + (Pl.szl Pl.szTold) x.Log + (Pl.szl Pl.sz0) x.Next := rfl
  have HZ := Lib.hid hz
  clear hz
  have KA := Lib.hid (((Mm.Blk.new w 74 [.slice A0 n0 c0, .slice A1 n1 c1, .slice A2 n2 c2, .slice A3 n3 c3, .slice A4 n4 c4]).alloc (.cells #[.slice none 0 0, .slice none 0 0, .slice none 0 0, .slice none 0 0, .slice none 0 0] 31)).alloc (.cells #[.slice none 0 0, .slice none 0 0, .slice none 0 0, .slice none 0 0, .slice none 0 0] 31))
  have KR := Lib.hid ((Mm.Blk.new' (w.alloc (.cells #[.slice A0 n0 c0, .slice A1 n1 c1, .slice A2 n2 c2, .slice A3 n3 c3, .slice A4 n4 c4] 74)) 31 [.slice none 0 0, .slice none 0 0, .slice none 0 0, .slice none 0 0, .slice none 0 0] (Mm.sz1 _ _)).alloc (.cells #[.slice none 0 0, .slice none 0 0, .slice none 0 0, .slice none 0 0, .slice none 0 0] 31))
  have KO := Lib.hid (Mm.Blk.new' ((w.alloc (.cells #[.slice A0 n0 c0, .slice A1 n1 c1, .slice A2 n2 c2, .slice A3 n3 c3, .slice A4 n4 c4] 74)).alloc (.cells #[.slice none 0 0, .slice none 0 0, .slice none 0 0, .slice none 0 0, .slice none 0 0] 31)) 31 [.slice none 0 0, .slice none 0 0, .slice none 0 0, .slice none 0 0, .slice none 0 0] (Mm.sz2 _ _ _))
  have hb0 : Below w.heap.size w (((w.alloc (.cells #[.slice A0 n0 c0, .slice A1 n1 c1, .slice A2 n2 c2, .slice A3 n3 c3, .slice A4 n4 c4] 74)).alloc (.cells #[.slice none 0 0, .slice none 0 0, .slice none 0 0, .slice none 0 0, .slice none 0 0] 31)).alloc (.cells #[.slice none 0 0, .slice none 0 0, .slice none 0 0, .slice none 0 0, .slice none 0 0] 31)) := below_new (below_new (below_new (Below.refl _ _) _) _) _
  have HB := Lib.hid hb0
  have hlt0 := KO.out.lt
  clear hb0
  go_enter Try.func42, Try.ntmps42
  go_wp2_with fail
  refine (toStringSS_c x.Texts _ _ _ _ B (HG.out.2.1.keep fun b hb => HB.out.block b (Nat.lt_of_lt_of_le hb HG.out.1)) (Nat.le_trans HG.out.1 HB.out.size) (by have h1 := HZ.out; have h2 := HSZ.out; omega)).mono ?_
  rintro e w1 ⟨P1, p1, q1, fp1, rfl, ho1, hnd1, hf1, hb1⟩
  have hfb1 : ∀ b, b ∈ fp1 → b ≠ w.heap.size + 1 ∧ b ≠ w.heap.size + 2 := fun b hb => by have := hf1 b hb; have := KO.out.lt; have := KR.out.lt; omega
  have CS1 := Lib.hid ho1.olt
  have OS1 := Lib.hid (And.intro ho1 (And.intro hnd1 (And.intro hfb1 hf1)))
  have HF1 := Lib.hid (show ∀ b, b ∈ fp1 → w.heap.size ≤ b from fun b hb => Nat.le_trans HB.out.size (hf1 b hb))
  have KA := Lib.hid (KA.out.bel hb1)
  have KR := Lib.hid (KR.out.bel hb1)
  have KO := Lib.hid (KO.out.bel hb1)
  have HB := Lib.hid (below_step HB.out hb1)
  have CH1 := Lib.hid (Mm.Chg.refl [w.heap.size + 1, w.heap.size + 2] w1)
  have a1_1 := KA.out.cell (i := 1) rfl
  have a1_2 := KA.out.cell (i := 2) rfl
  have a1_3 := KA.out.cell (i := 3) rfl
  have a1_4 := KA.out.cell (i := 4) rfl
  have o1_0 := KO.out.cell (i := 0) rfl
  have r1_0 := KR.out.cell (i := 0) rfl
  have x1_0 := KO.out.frozen 0
  have y1_0 := KR.out.frozen 0
  have o1_1 := KO.out.cell (i := 1) rfl
  have r1_1 := KR.out.cell (i := 1) rfl
  have x1_1 := KO.out.frozen 1
  have y1_1 := KR.out.frozen 1
  have o1_2 := KO.out.cell (i := 2) rfl
  have r1_2 := KR.out.cell (i := 2) rfl
  have x1_2 := KO.out.frozen 2
  have y1_2 := KR.out.frozen 2
  have o1_3 := KO.out.cell (i := 3) rfl
  have r1_3 := KR.out.cell (i := 3) rfl
  have x1_3 := KO.out.frozen 3
  have y1_3 := KR.out.frozen 3
  have o1_4 := KO.out.cell (i := 4) rfl
  have r1_4 := KR.out.cell (i := 4) rfl
  have x1_4 := KO.out.frozen 4
  have y1_4 := KR.out.frozen 4
  clear hb1 ho1 hnd1 hf1 hfb1
  have KA := Lib.hid (KA.out.far (p := ⟨w.heap.size + 2, 0, none⟩) (by show w.heap.size ≠ w.heap.size + 2; omega) (.slice P1 p1 q1))
  have KR := Lib.hid (KR.out.far (p := ⟨w.heap.size + 2, 0, none⟩) (by show w.heap.size + 1 ≠ w.heap.size + 2; omega) (.slice P1 p1 q1))
  have KO := Lib.hid (KO.out.set_ 0 (.slice P1 p1 q1))
  have HB := Lib.hid (HB.out.setCell (p := ⟨w.heap.size + 2, 0, none⟩) (by show w.heap.size ≤ w.heap.size + 2; omega) (.slice P1 p1 q1))
  have CH1 := Lib.hid (CH1.out.setCell (p := ⟨w.heap.size + 2, 0, none⟩) (by simp) (.slice P1 p1 q1))
  go_wp2_with fail
  refine (toIntS_c x.Heard _ _ _ _ B (HG.out.2.2.1.keep fun b hb => HB.out.block b (Nat.lt_of_lt_of_le hb HG.out.1)) (Nat.le_trans HG.out.1 HB.out.size) (by have h1 := HZ.out; have h2 := HSZ.out; omega)).mono ?_
  rintro e w2 ⟨P2, p2, q2, fp2, rfl, ho2, hnd2, hf2, hb2⟩
  have hfb2 : ∀ b, b ∈ fp2 → b ≠ w.heap.size + 1 ∧ b ≠ w.heap.size + 2 := fun b hb => by have := hf2 b hb; have := KO.out.lt; have := KR.out.lt; omega
  have hd1_2 : ∀ b, b ∈ fp1 → b ∉ fp2 := fun b hb hm => by have := hf2 b hm; have := CS1.out b hb; have := CH1.out.size; omega
  have CS2 := Lib.hid ho2.olt
  have OS2 := Lib.hid (And.intro ho2 (And.intro hnd2 (And.intro hfb2 hf2)))
  have HD1_2 := Lib.hid hd1_2
  have HF2 := Lib.hid (show ∀ b, b ∈ fp2 → w.heap.size ≤ b from fun b hb => Nat.le_trans HB.out.size (hf2 b hb))
  have KA := Lib.hid (KA.out.bel hb2)
  have KR := Lib.hid (KR.out.bel hb2)
  have KO := Lib.hid (KO.out.bel hb2)
  have HB := Lib.hid (below_step HB.out hb2)
  have CH1 := Lib.hid (Mm.und_chg CH1.out hb2)
  have CH2 := Lib.hid (Mm.Chg.refl [w.heap.size + 1, w.heap.size + 2] w2)
  have a2_2 := KA.out.cell (i := 2) rfl
  have a2_3 := KA.out.cell (i := 3) rfl
  have a2_4 := KA.out.cell (i := 4) rfl
  have o2_0 := KO.out.cell (i := 0) rfl
  have r2_0 := KR.out.cell (i := 0) rfl
  have x2_0 := KO.out.frozen 0
  have y2_0 := KR.out.frozen 0
  have o2_1 := KO.out.cell (i := 1) rfl
  have r2_1 := KR.out.cell (i := 1) rfl
  have x2_1 := KO.out.frozen 1
  have y2_1 := KR.out.frozen 1
  have o2_2 := KO.out.cell (i := 2) rfl
  have r2_2 := KR.out.cell (i := 2) rfl
  have x2_2 := KO.out.frozen 2
  have y2_2 := KR.out.frozen 2
  have o2_3 := KO.out.cell (i := 3) rfl
  have r2_3 := KR.out.cell (i := 3) rfl
  have x2_3 := KO.out.frozen 3
  have y2_3 := KR.out.frozen 3
  have o2_4 := KO.out.cell (i := 4) rfl
  have r2_4 := KR.out.cell (i := 4) rfl
  have x2_4 := KO.out.frozen 4
  have y2_4 := KR.out.frozen 4
  clear hb2 ho2 hnd2 hf2 hfb2 hd1_2
  have KA := Lib.hid (KA.out.far (p := ⟨w.heap.size + 2, 1, none⟩) (by show w.heap.size ≠ w.heap.size + 2; omega) (.slice P2 p2 q2))
  have KR := Lib.hid (KR.out.far (p := ⟨w.heap.size + 2, 1, none⟩) (by show w.heap.size + 1 ≠ w.heap.size + 2; omega) (.slice P2 p2 q2))
  have KO := Lib.hid (KO.out.set_ 1 (.slice P2 p2 q2))
  have HB := Lib.hid (HB.out.setCell (p := ⟨w.heap.size + 2, 1, none⟩) (by show w.heap.size ≤ w.heap.size + 2; omega) (.slice P2 p2 q2))
  have CH1 := Lib.hid (CH1.out.setCell (p := ⟨w.heap.size + 2, 1, none⟩) (by simp) (.slice P2 p2 q2))
  have CH2 := Lib.hid (CH2.out.setCell (p := ⟨w.heap.size + 2, 1, none⟩) (by simp) (.slice P2 p2 q2))
  go_wp2_with fail
  refine (toNoteS_c x.Line _ _ _ _ B (HG.out.2.2.2.1.keep fun b hb => HB.out.block b (Nat.lt_of_lt_of_le hb HG.out.1)) (Nat.le_trans HG.out.1 HB.out.size) (by have h1 := HZ.out; have h2 := HSZ.out; omega)).mono ?_
  rintro e w3 ⟨P3, p3, q3, fp3, rfl, ho3, hnd3, hf3, hb3⟩
  have hfb3 : ∀ b, b ∈ fp3 → b ≠ w.heap.size + 1 ∧ b ≠ w.heap.size + 2 := fun b hb => by have := hf3 b hb; have := KO.out.lt; have := KR.out.lt; omega
  have hd1_3 : ∀ b, b ∈ fp1 → b ∉ fp3 := fun b hb hm => by have := hf3 b hm; have := CS1.out b hb; have := CH1.out.size; omega
  have hd2_3 : ∀ b, b ∈ fp2 → b ∉ fp3 := fun b hb hm => by have := hf3 b hm; have := CS2.out b hb; have := CH2.out.size; omega
  have CS3 := Lib.hid ho3.olt
  have OS3 := Lib.hid (And.intro ho3 (And.intro hnd3 (And.intro hfb3 hf3)))
  have HD1_3 := Lib.hid hd1_3
  have HD2_3 := Lib.hid hd2_3
  have HF3 := Lib.hid (show ∀ b, b ∈ fp3 → w.heap.size ≤ b from fun b hb => Nat.le_trans HB.out.size (hf3 b hb))
  have KA := Lib.hid (KA.out.bel hb3)
  have KR := Lib.hid (KR.out.bel hb3)
  have KO := Lib.hid (KO.out.bel hb3)
  have HB := Lib.hid (below_step HB.out hb3)
  have CH1 := Lib.hid (Mm.und_chg CH1.out hb3)
  have CH2 := Lib.hid (Mm.und_chg CH2.out hb3)
  have CH3 := Lib.hid (Mm.Chg.refl [w.heap.size + 1, w.heap.size + 2] w3)
  have a3_3 := KA.out.cell (i := 3) rfl
  have a3_4 := KA.out.cell (i := 4) rfl
  have o3_0 := KO.out.cell (i := 0) rfl
  have r3_0 := KR.out.cell (i := 0) rfl
  have x3_0 := KO.out.frozen 0
  have y3_0 := KR.out.frozen 0
  have o3_1 := KO.out.cell (i := 1) rfl
  have r3_1 := KR.out.cell (i := 1) rfl
  have x3_1 := KO.out.frozen 1
  have y3_1 := KR.out.frozen 1
  have o3_2 := KO.out.cell (i := 2) rfl
  have r3_2 := KR.out.cell (i := 2) rfl
  have x3_2 := KO.out.frozen 2
  have y3_2 := KR.out.frozen 2
  have o3_3 := KO.out.cell (i := 3) rfl
  have r3_3 := KR.out.cell (i := 3) rfl
  have x3_3 := KO.out.frozen 3
  have y3_3 := KR.out.frozen 3
  have o3_4 := KO.out.cell (i := 4) rfl
  have r3_4 := KR.out.cell (i := 4) rfl
  have x3_4 := KO.out.frozen 4
  have y3_4 := KR.out.frozen 4
  clear hb3 ho3 hnd3 hf3 hfb3 hd1_3 hd2_3
  have KA := Lib.hid (KA.out.far (p := ⟨w.heap.size + 2, 2, none⟩) (by show w.heap.size ≠ w.heap.size + 2; omega) (.slice P3 p3 q3))
  have KR := Lib.hid (KR.out.far (p := ⟨w.heap.size + 2, 2, none⟩) (by show w.heap.size + 1 ≠ w.heap.size + 2; omega) (.slice P3 p3 q3))
  have KO := Lib.hid (KO.out.set_ 2 (.slice P3 p3 q3))
  have HB := Lib.hid (HB.out.setCell (p := ⟨w.heap.size + 2, 2, none⟩) (by show w.heap.size ≤ w.heap.size + 2; omega) (.slice P3 p3 q3))
  have CH1 := Lib.hid (CH1.out.setCell (p := ⟨w.heap.size + 2, 2, none⟩) (by simp) (.slice P3 p3 q3))
  have CH2 := Lib.hid (CH2.out.setCell (p := ⟨w.heap.size + 2, 2, none⟩) (by simp) (.slice P3 p3 q3))
  have CH3 := Lib.hid (CH3.out.setCell (p := ⟨w.heap.size + 2, 2, none⟩) (by simp) (.slice P3 p3 q3))
  go_wp2_with fail
  refine (toToldS_c x.Log _ _ _ _ B (HG.out.2.2.2.2.1.keep fun b hb => HB.out.block b (Nat.lt_of_lt_of_le hb HG.out.1)) (Nat.le_trans HG.out.1 HB.out.size) (by have h1 := HZ.out; have h2 := HSZ.out; omega)).mono ?_
  rintro e w4 ⟨P4, p4, q4, fp4, rfl, ho4, hnd4, hf4, hb4⟩
  have hfb4 : ∀ b, b ∈ fp4 → b ≠ w.heap.size + 1 ∧ b ≠ w.heap.size + 2 := fun b hb => by have := hf4 b hb; have := KO.out.lt; have := KR.out.lt; omega
  have hd1_4 : ∀ b, b ∈ fp1 → b ∉ fp4 := fun b hb hm => by have := hf4 b hm; have := CS1.out b hb; have := CH1.out.size; omega
  have hd2_4 : ∀ b, b ∈ fp2 → b ∉ fp4 := fun b hb hm => by have := hf4 b hm; have := CS2.out b hb; have := CH2.out.size; omega
  have hd3_4 : ∀ b, b ∈ fp3 → b ∉ fp4 := fun b hb hm => by have := hf4 b hm; have := CS3.out b hb; have := CH3.out.size; omega
  have CS4 := Lib.hid ho4.olt
  have OS4 := Lib.hid (And.intro ho4 (And.intro hnd4 (And.intro hfb4 hf4)))
  have HD1_4 := Lib.hid hd1_4
  have HD2_4 := Lib.hid hd2_4
  have HD3_4 := Lib.hid hd3_4
  have HF4 := Lib.hid (show ∀ b, b ∈ fp4 → w.heap.size ≤ b from fun b hb => Nat.le_trans HB.out.size (hf4 b hb))
  have KA := Lib.hid (KA.out.bel hb4)
  have KR := Lib.hid (KR.out.bel hb4)
  have KO := Lib.hid (KO.out.bel hb4)
  have HB := Lib.hid (below_step HB.out hb4)
  have CH1 := Lib.hid (Mm.und_chg CH1.out hb4)
  have CH2 := Lib.hid (Mm.und_chg CH2.out hb4)
  have CH3 := Lib.hid (Mm.und_chg CH3.out hb4)
  have CH4 := Lib.hid (Mm.Chg.refl [w.heap.size + 1, w.heap.size + 2] w4)
  have a4_4 := KA.out.cell (i := 4) rfl
  have o4_0 := KO.out.cell (i := 0) rfl
  have r4_0 := KR.out.cell (i := 0) rfl
  have x4_0 := KO.out.frozen 0
  have y4_0 := KR.out.frozen 0
  have o4_1 := KO.out.cell (i := 1) rfl
  have r4_1 := KR.out.cell (i := 1) rfl
  have x4_1 := KO.out.frozen 1
  have y4_1 := KR.out.frozen 1
  have o4_2 := KO.out.cell (i := 2) rfl
  have r4_2 := KR.out.cell (i := 2) rfl
  have x4_2 := KO.out.frozen 2
  have y4_2 := KR.out.frozen 2
  have o4_3 := KO.out.cell (i := 3) rfl
  have r4_3 := KR.out.cell (i := 3) rfl
  have x4_3 := KO.out.frozen 3
  have y4_3 := KR.out.frozen 3
  have o4_4 := KO.out.cell (i := 4) rfl
  have r4_4 := KR.out.cell (i := 4) rfl
  have x4_4 := KO.out.frozen 4
  have y4_4 := KR.out.frozen 4
  clear hb4 ho4 hnd4 hf4 hfb4 hd1_4 hd2_4 hd3_4
  have KA := Lib.hid (KA.out.far (p := ⟨w.heap.size + 2, 3, none⟩) (by show w.heap.size ≠ w.heap.size + 2; omega) (.slice P4 p4 q4))
  have KR := Lib.hid (KR.out.far (p := ⟨w.heap.size + 2, 3, none⟩) (by show w.heap.size + 1 ≠ w.heap.size + 2; omega) (.slice P4 p4 q4))
  have KO := Lib.hid (KO.out.set_ 3 (.slice P4 p4 q4))
  have HB := Lib.hid (HB.out.setCell (p := ⟨w.heap.size + 2, 3, none⟩) (by show w.heap.size ≤ w.heap.size + 2; omega) (.slice P4 p4 q4))
  have CH1 := Lib.hid (CH1.out.setCell (p := ⟨w.heap.size + 2, 3, none⟩) (by simp) (.slice P4 p4 q4))
  have CH2 := Lib.hid (CH2.out.setCell (p := ⟨w.heap.size + 2, 3, none⟩) (by simp) (.slice P4 p4 q4))
  have CH3 := Lib.hid (CH3.out.setCell (p := ⟨w.heap.size + 2, 3, none⟩) (by simp) (.slice P4 p4 q4))
  have CH4 := Lib.hid (CH4.out.setCell (p := ⟨w.heap.size + 2, 3, none⟩) (by simp) (.slice P4 p4 q4))
  go_wp2_with fail
  refine (toIntS_c x.Next _ _ _ _ B (HG.out.2.2.2.2.2.keep fun b hb => HB.out.block b (Nat.lt_of_lt_of_le hb HG.out.1)) (Nat.le_trans HG.out.1 HB.out.size) (by have h1 := HZ.out; have h2 := HSZ.out; omega)).mono ?_
  rintro e w5 ⟨P5, p5, q5, fp5, rfl, ho5, hnd5, hf5, hb5⟩
  have hfb5 : ∀ b, b ∈ fp5 → b ≠ w.heap.size + 1 ∧ b ≠ w.heap.size + 2 := fun b hb => by have := hf5 b hb; have := KO.out.lt; have := KR.out.lt; omega
  have hd1_5 : ∀ b, b ∈ fp1 → b ∉ fp5 := fun b hb hm => by have := hf5 b hm; have := CS1.out b hb; have := CH1.out.size; omega
  have hd2_5 : ∀ b, b ∈ fp2 → b ∉ fp5 := fun b hb hm => by have := hf5 b hm; have := CS2.out b hb; have := CH2.out.size; omega
  have hd3_5 : ∀ b, b ∈ fp3 → b ∉ fp5 := fun b hb hm => by have := hf5 b hm; have := CS3.out b hb; have := CH3.out.size; omega
  have hd4_5 : ∀ b, b ∈ fp4 → b ∉ fp5 := fun b hb hm => by have := hf5 b hm; have := CS4.out b hb; have := CH4.out.size; omega
  have CS5 := Lib.hid ho5.olt
  have OS5 := Lib.hid (And.intro ho5 (And.intro hnd5 (And.intro hfb5 hf5)))
  have HD1_5 := Lib.hid hd1_5
  have HD2_5 := Lib.hid hd2_5
  have HD3_5 := Lib.hid hd3_5
  have HD4_5 := Lib.hid hd4_5
  have HF5 := Lib.hid (show ∀ b, b ∈ fp5 → w.heap.size ≤ b from fun b hb => Nat.le_trans HB.out.size (hf5 b hb))
  have KA := Lib.hid (KA.out.bel hb5)
  have KR := Lib.hid (KR.out.bel hb5)
  have KO := Lib.hid (KO.out.bel hb5)
  have HB := Lib.hid (below_step HB.out hb5)
  have CH1 := Lib.hid (Mm.und_chg CH1.out hb5)
  have CH2 := Lib.hid (Mm.und_chg CH2.out hb5)
  have CH3 := Lib.hid (Mm.und_chg CH3.out hb5)
  have CH4 := Lib.hid (Mm.und_chg CH4.out hb5)
  have CH5 := Lib.hid (Mm.Chg.refl [w.heap.size + 1, w.heap.size + 2] w5)
  have o5_0 := KO.out.cell (i := 0) rfl
  have r5_0 := KR.out.cell (i := 0) rfl
  have x5_0 := KO.out.frozen 0
  have y5_0 := KR.out.frozen 0
  have o5_1 := KO.out.cell (i := 1) rfl
  have r5_1 := KR.out.cell (i := 1) rfl
  have x5_1 := KO.out.frozen 1
  have y5_1 := KR.out.frozen 1
  have o5_2 := KO.out.cell (i := 2) rfl
  have r5_2 := KR.out.cell (i := 2) rfl
  have x5_2 := KO.out.frozen 2
  have y5_2 := KR.out.frozen 2
  have o5_3 := KO.out.cell (i := 3) rfl
  have r5_3 := KR.out.cell (i := 3) rfl
  have x5_3 := KO.out.frozen 3
  have y5_3 := KR.out.frozen 3
  have o5_4 := KO.out.cell (i := 4) rfl
  have r5_4 := KR.out.cell (i := 4) rfl
  have x5_4 := KO.out.frozen 4
  have y5_4 := KR.out.frozen 4
  clear hb5 ho5 hnd5 hf5 hfb5 hd1_5 hd2_5 hd3_5 hd4_5
  have KA := Lib.hid (KA.out.far (p := ⟨w.heap.size + 2, 4, none⟩) (by show w.heap.size ≠ w.heap.size + 2; omega) (.slice P5 p5 q5))
  have KR := Lib.hid (KR.out.far (p := ⟨w.heap.size + 2, 4, none⟩) (by show w.heap.size + 1 ≠ w.heap.size + 2; omega) (.slice P5 p5 q5))
  have KO := Lib.hid (KO.out.set_ 4 (.slice P5 p5 q5))
  have HB := Lib.hid (HB.out.setCell (p := ⟨w.heap.size + 2, 4, none⟩) (by show w.heap.size ≤ w.heap.size + 2; omega) (.slice P5 p5 q5))
  have CH1 := Lib.hid (CH1.out.setCell (p := ⟨w.heap.size + 2, 4, none⟩) (by simp) (.slice P5 p5 q5))
  have CH2 := Lib.hid (CH2.out.setCell (p := ⟨w.heap.size + 2, 4, none⟩) (by simp) (.slice P5 p5 q5))
  have CH3 := Lib.hid (CH3.out.setCell (p := ⟨w.heap.size + 2, 4, none⟩) (by simp) (.slice P5 p5 q5))
  have CH4 := Lib.hid (CH4.out.setCell (p := ⟨w.heap.size + 2, 4, none⟩) (by simp) (.slice P5 p5 q5))
  have CH5 := Lib.hid (CH5.out.setCell (p := ⟨w.heap.size + 2, 4, none⟩) (by simp) (.slice P5 p5 q5))
  go_wp2
  have HB := Lib.hid (HB.out.setCell (p := ⟨w.heap.size + 1, 0, none⟩) (by show w.heap.size ≤ w.heap.size + 1; omega) (.slice P1 p1 q1))
  have CH1 := Lib.hid (CH1.out.setCell (p := ⟨w.heap.size + 1, 0, none⟩) (by simp) (.slice P1 p1 q1))
  have CH2 := Lib.hid (CH2.out.setCell (p := ⟨w.heap.size + 1, 0, none⟩) (by simp) (.slice P1 p1 q1))
  have CH3 := Lib.hid (CH3.out.setCell (p := ⟨w.heap.size + 1, 0, none⟩) (by simp) (.slice P1 p1 q1))
  have CH4 := Lib.hid (CH4.out.setCell (p := ⟨w.heap.size + 1, 0, none⟩) (by simp) (.slice P1 p1 q1))
  have CH5 := Lib.hid (CH5.out.setCell (p := ⟨w.heap.size + 1, 0, none⟩) (by simp) (.slice P1 p1 q1))
  have HB := Lib.hid (HB.out.setCell (p := ⟨w.heap.size + 1, 1, none⟩) (by show w.heap.size ≤ w.heap.size + 1; omega) (.slice P2 p2 q2))
  have CH1 := Lib.hid (CH1.out.setCell (p := ⟨w.heap.size + 1, 1, none⟩) (by simp) (.slice P2 p2 q2))
  have CH2 := Lib.hid (CH2.out.setCell (p := ⟨w.heap.size + 1, 1, none⟩) (by simp) (.slice P2 p2 q2))
  have CH3 := Lib.hid (CH3.out.setCell (p := ⟨w.heap.size + 1, 1, none⟩) (by simp) (.slice P2 p2 q2))
  have CH4 := Lib.hid (CH4.out.setCell (p := ⟨w.heap.size + 1, 1, none⟩) (by simp) (.slice P2 p2 q2))
  have CH5 := Lib.hid (CH5.out.setCell (p := ⟨w.heap.size + 1, 1, none⟩) (by simp) (.slice P2 p2 q2))
  have HB := Lib.hid (HB.out.setCell (p := ⟨w.heap.size + 1, 2, none⟩) (by show w.heap.size ≤ w.heap.size + 1; omega) (.slice P3 p3 q3))
  have CH1 := Lib.hid (CH1.out.setCell (p := ⟨w.heap.size + 1, 2, none⟩) (by simp) (.slice P3 p3 q3))
  have CH2 := Lib.hid (CH2.out.setCell (p := ⟨w.heap.size + 1, 2, none⟩) (by simp) (.slice P3 p3 q3))
  have CH3 := Lib.hid (CH3.out.setCell (p := ⟨w.heap.size + 1, 2, none⟩) (by simp) (.slice P3 p3 q3))
  have CH4 := Lib.hid (CH4.out.setCell (p := ⟨w.heap.size + 1, 2, none⟩) (by simp) (.slice P3 p3 q3))
  have CH5 := Lib.hid (CH5.out.setCell (p := ⟨w.heap.size + 1, 2, none⟩) (by simp) (.slice P3 p3 q3))
  have HB := Lib.hid (HB.out.setCell (p := ⟨w.heap.size + 1, 3, none⟩) (by show w.heap.size ≤ w.heap.size + 1; omega) (.slice P4 p4 q4))
  have CH1 := Lib.hid (CH1.out.setCell (p := ⟨w.heap.size + 1, 3, none⟩) (by simp) (.slice P4 p4 q4))
  have CH2 := Lib.hid (CH2.out.setCell (p := ⟨w.heap.size + 1, 3, none⟩) (by simp) (.slice P4 p4 q4))
  have CH3 := Lib.hid (CH3.out.setCell (p := ⟨w.heap.size + 1, 3, none⟩) (by simp) (.slice P4 p4 q4))
  have CH4 := Lib.hid (CH4.out.setCell (p := ⟨w.heap.size + 1, 3, none⟩) (by simp) (.slice P4 p4 q4))
  have CH5 := Lib.hid (CH5.out.setCell (p := ⟨w.heap.size + 1, 3, none⟩) (by simp) (.slice P4 p4 q4))
  have HB := Lib.hid (HB.out.setCell (p := ⟨w.heap.size + 1, 4, none⟩) (by show w.heap.size ≤ w.heap.size + 1; omega) (.slice P5 p5 q5))
  have CH1 := Lib.hid (CH1.out.setCell (p := ⟨w.heap.size + 1, 4, none⟩) (by simp) (.slice P5 p5 q5))
  have CH2 := Lib.hid (CH2.out.setCell (p := ⟨w.heap.size + 1, 4, none⟩) (by simp) (.slice P5 p5 q5))
  have CH3 := Lib.hid (CH3.out.setCell (p := ⟨w.heap.size + 1, 4, none⟩) (by simp) (.slice P5 p5 q5))
  have CH4 := Lib.hid (CH4.out.setCell (p := ⟨w.heap.size + 1, 4, none⟩) (by simp) (.slice P5 p5 q5))
  have CH5 := Lib.hid (CH5.out.setCell (p := ⟨w.heap.size + 1, 4, none⟩) (by simp) (.slice P5 p5 q5))
  refine bodyPost_ret (v := .agg #[.slice P1 p1 q1, .slice P2 p2 q2, .slice P3 p3 q3, .slice P4 p4 q4, .slice P5 p5 q5]) (by simp [results, Try.results42, go_sem, r5_0, r5_1, r5_2, r5_3, r5_4]) rfl ⟨[.slice P1 p1 q1, .slice P2 p2 q2, .slice P3 p3 q3, .slice P4 p4 q4, .slice P5 p5 q5], _, rfl, rTell_own_mk (OS1.out.1.okeep fun b hb => CH1.out.block b (CS1.out b hb) (by simp; exact ⟨(OS1.out.2.2.1 b hb).1, (OS1.out.2.2.1 b hb).2⟩)) (OS2.out.1.okeep fun b hb => CH2.out.block b (CS2.out b hb) (by simp; exact ⟨(OS2.out.2.2.1 b hb).1, (OS2.out.2.2.1 b hb).2⟩)) (OS3.out.1.okeep fun b hb => CH3.out.block b (CS3.out b hb) (by simp; exact ⟨(OS3.out.2.2.1 b hb).1, (OS3.out.2.2.1 b hb).2⟩)) (OS4.out.1.okeep fun b hb => CH4.out.block b (CS4.out b hb) (by simp; exact ⟨(OS4.out.2.2.1 b hb).1, (OS4.out.2.2.1 b hb).2⟩)) (OS5.out.1.okeep fun b hb => CH5.out.block b (CS5.out b hb) (by simp; exact ⟨(OS5.out.2.2.1 b hb).1, (OS5.out.2.2.1 b hb).2⟩)), ?_, ?_, HB.out⟩
  · exact (List.nodup_append.2 ⟨OS1.out.2.1, (List.nodup_append.2 ⟨OS2.out.2.1, (List.nodup_append.2 ⟨OS3.out.2.1, (List.nodup_append.2 ⟨OS4.out.2.1, OS5.out.2.1, fun a ha b hb hab => by subst hab; exact HD4_5.out a ha hb⟩), fun a ha b hb hab => by subst hab; exact (List.mem_append.1 hb).elim (fun hb => HD3_4.out a ha hb) (fun hb => HD3_5.out a ha hb)⟩), fun a ha b hb hab => by subst hab; exact (List.mem_append.1 hb).elim (fun hb => HD2_3.out a ha hb) (fun hb => (List.mem_append.1 hb).elim (fun hb => HD2_4.out a ha hb) (fun hb => HD2_5.out a ha hb))⟩), fun a ha b hb hab => by subst hab; exact (List.mem_append.1 hb).elim (fun hb => HD1_2.out a ha hb) (fun hb => (List.mem_append.1 hb).elim (fun hb => HD1_3.out a ha hb) (fun hb => (List.mem_append.1 hb).elim (fun hb => HD1_4.out a ha hb) (fun hb => HD1_5.out a ha hb)))⟩)
  · intro b hb
    rcases List.mem_append.1 hb with hb | hb
    · exact HF1.out b hb
    · rcases List.mem_append.1 hb with hb | hb
      · exact HF2.out b hb
      · rcases List.mem_append.1 hb with hb | hb
        · exact HF3.out b hb
        · rcases List.mem_append.1 hb with hb | hb
          · exact HF4.out b hb
          · exact HF5.out b hb
theorem toTell_at (x : Tell) (cs : List Value) (w : World) (B : Nat) (h : rTell.at_ w B x cs) (hB : B ≤ w.heap.size) (hsz : Pl.szTell x ≤ 1048576) :
    Calls Try.prog 42 #[.agg cs.toArray] w (Mm.NewAg rTell w x) := by
  obtain ⟨A0, n0, c0, A1, n1, c1, A2, n2, c2, A3, n3, c3, A4, n4, c4, rfl, g0, g1, g2, g3, g4⟩ := rTell_at h
  exact toTell_c x _ _ _ _ _ _ _ _ _ _ _ _ _ _ _ _ B g0 g1 g2 g3 g4 hB hsz
end Go.Proofs.Ytaepohocabealaa

/-
  The text of a mark. No conditions.
-/
namespace Go.Proofs.Ytaepohocabealaa
open Go.RowKit
theorem conv_byte (W : World) (n : Nat) (hn : n < 256) : (convert 22 9 (.slice (some ⟨W.heap.size, 0, none⟩) 1 1)).run Try.prog (W.alloc (.cells #[.int .u8 (n : Int)] 5)) = .ok (.string ⟨#[UInt8.ofNat n]⟩) (W.alloc (.cells #[.int .u8 (n : Int)] 5)) := by
  refine run_convert_bytes_back _ _ _ 5 ⟨W.heap.size, 0, none⟩ 1 [UInt8.ofNat n] Try.underlying22 Try.underlying5 Try.underlying9 (fun j hj => ?_)
  obtain rfl : j = 0 := by simp at hj; exact hj
  have := cell_of_row (W.alloc (.cells #[.int .u8 (n : Int)] 5)) W.heap.size 0 _ _ _ (heap_alloc_new _ _)
  rw [show ((⟨W.heap.size, 0, none⟩ : Addr).add 0) = ⟨W.heap.size, 0, none⟩ from rfl, this]
  simp [Nat.mod_eq_of_lt hn]
theorem str_add (c : UInt8) (acc : List UInt8) : (⟨#[c]⟩ : ByteArray) ++ ⟨acc.toArray⟩ = ⟨(c :: acc).toArray⟩ := by
  apply ByteArray.ext
  simp
set_option maxRecDepth 100000 in
set_option maxHeartbeats 1000000 in
theorem markText_c (k : Int) (w : World) (h0 : 1 ≤ k) (h1 : k ≤ 1000000000000) :
    Calls Try.prog 69 #[.int .i64 k] w fun e w' => e = .returned (.string (Pl.mkText k)) ∧ Below w.heap.size w w' := by
  go_enter Try.func69, Try.ntmps69
  go_wp2
  go_loopw [0, 3] (fun kk s wr => ∃ (f q : Nat) (acc : List UInt8), q ≤ f ∧ acc.length + f ≤ 1000000000000 ∧ kk = .int .i64 q ∧ s = .string ⟨acc.toArray⟩ ∧ Below w.heap.size w wr ∧ Pl.digs f q acc = Pl.digs k.toNat k.toNat []) (fun kk _ _ => (intOf kk).toNat)
  case atStart => exact ⟨k.toNat, k.toNat, [], Nat.le_refl _, by simp; omega, by rw [Int.toNat_of_nonneg (by omega)], rfl, Below.refl _ _, rfl⟩
  case round =>
      obtain ⟨f, q, acc, hq, hq2, rfl, rfl, hbel, hd⟩ := hrel
      rename_i wr _
      have HD := Lib.hid hd
      clear hd
      by_cases h0 : 0 < q
      · obtain ⟨f', rfl⟩ : ∃ f', f = f' + 1 := ⟨f - 1, by omega⟩
        have hdv : q / 10 ≤ f' := by omega
        have HD2 : Hid (Pl.digs f' (q / 10) (UInt8.ofNat (48 + q % 10) :: acc) = Pl.digs k.toNat k.toNat []) := by
          rw [← HD.out]
          show _ = _
          conv => rhs; unfold Pl.digs
          rw [if_neg (by omega)]
        have hcv := fun W : World => conv_byte W (48 + q % 10) (by omega)
        have hca : ((48 + q % 10 : Nat) : Int) = 48 + (q : Int) % 10 := by omega
        rw [hca] at hcv
        clear hca
        go_wp2
        go_roundw
        case rel => exact ⟨f', q / 10, UInt8.ofNat (48 + q % 10) :: acc, hdv, by simp; omega, by simp, by rw [← str_add (UInt8.ofNat (48 + q % 10)) acc, show UInt8.ofNat (48 + q % 10) = 48 + UInt8.ofNat (q % 10) from by simp], below_new hbel _, HD2.out⟩
        case measure => simp [intOf]; omega
      · obtain rfl : q = 0 := by omega
        have HF : Hid (Pl.mkText k = ⟨#[109]⟩ ++ ⟨acc.toArray⟩) := by
          show _ = _
          have h2 := HD.out
          have h3 : Pl.digs f 0 acc = acc := by cases f <;> simp [Pl.digs]
          rw [h3] at h2
          unfold Pl.mkText
          rw [← h2, str_add]
        go_wp2
        go_ret
        exact ⟨by rw [HF.out]; rfl, hbel⟩
end Go.Proofs.Ytaepohocabealaa
