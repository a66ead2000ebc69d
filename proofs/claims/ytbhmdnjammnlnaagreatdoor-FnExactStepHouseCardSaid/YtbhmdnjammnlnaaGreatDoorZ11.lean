/-
  Joined texts, in build order: LwStepHouse. Each part says what it proves; no conditions beyond those that a part names.
-/
import Derived.Test.YtbhmdnjammnlnaaGreatDoorZ09
import Derived.Test.YtbhmdnjammnlnaaGreatDoorZ10
set_option linter.unusedVariables false
set_option linter.unusedSimpArgs false
/-
  The walk of the law on StepHouse. No conditions.
-/
namespace Go.Proofs.YtbhmdnjammnlnaaGreatDoor
open Go.RowKit
theorem step_cnt {b : Bool} {h : House} (hb : b = true ↔ Pl.HouseOk h) (s : HouseStep) : Pl.ctopHouse (Pl.stepOf b h s).1 ≤ 50000000 := by
  unfold Pl.stepOf
  split
  · rename_i k
    exact ((hb.1 k.1).step s).cnt
  · exact zHo_cnt
attribute [local go_sem] und_cell cha_cell World.cell?_alloc_some
def gPT_StepHouse (x : House) : Mm.Rel := fun _ _ v ds => ∃ (A0_p13 : Option Addr) (n0_p13 c0_p13 : Nat) (A1_p13 : Option Addr) (n1_p13 c1_p13 : Nat) (A2_p13 : Option Addr) (n2_p13 c2_p13 : Nat) (fp : List Nat), v = .agg #[.slice A0_p13 n0_p13 c0_p13, .slice A1_p13 n1_p13 c1_p13, .slice A2_p13 n2_p13 c2_p13] ∧ ds = [Mm.tow rHouse x [.slice A0_p13 n0_p13 c0_p13, .slice A1_p13 n1_p13 c1_p13, .slice A2_p13 n2_p13 c2_p13] fp]
def gPR_StepHouse (x : House) (b : Bool) : Mm.Rel := fun _ _ v ds => ∃ (A0_q13 : Option Addr) (n0_q13 c0_q13 : Nat) (A1_q13 : Option Addr) (n1_q13 c1_q13 : Nat) (A2_q13 : Option Addr) (n2_q13 c2_q13 : Nat) (fp : List Nat), v = .tuple #[.agg #[.slice A0_q13 n0_q13 c0_q13, .slice A1_q13 n1_q13 c1_q13, .slice A2_q13 n2_q13 c2_q13], .bool b] ∧ ds = [Mm.tow rHouse x [.slice A0_q13 n0_q13 c0_q13, .slice A1_q13 n1_q13 c1_q13, .slice A2_q13 n2_q13 c2_q13] fp]
theorem gPT_StepHouse_in {x : House} {vals : List Value} {tk : List Mm.Thing} : ∃ v ds, gPT_StepHouse x vals tk v ds := ⟨_, _, none, 0, 0, none, 0, 0, none, 0, 0, [], rfl, rfl⟩
theorem gPR_StepHouse_in {x : House} {b : Bool} {vals : List Value} {tk : List Mm.Thing} : ∃ v ds, gPR_StepHouse x b vals tk v ds := ⟨_, _, none, 0, 0, none, 0, 0, none, 0, 0, [], rfl, rfl⟩
set_option maxRecDepth 100000 in
set_option maxHeartbeats 4000000 in
theorem walk_FnExactStepHouse (cs_h : List Value) (h : House) (cs_s : List Value) (s : HouseStep) (w : World) (tb : Tabs w) (r_h : rHouse.at_ w w.heap.size h cs_h) (r_s : rHouseStep.at_ w w.heap.size s cs_s) :
    Calls Tryz.prog 5 #[.agg cs_h.toArray, .agg cs_s.toArray] w fun e w' => e = .returned (.bool true) ∧ Below w.heap.size w w' := by
  have HTB : Hid (Tab w.heap.size w) := Tab.of tb
  clear tb
  obtain ⟨bo, hbo⟩ := exists_bool (Pl.HouseOk h)
  have HBO := Lib.hid hbo
  clear hbo
  have hopen_h := rHouse_at r_h
  obtain ⟨A0_h, n0_h, c0_h, A1_h, n1_h, c1_h, A2_h, n2_h, c2_h, rfl, -⟩ := hopen_h
  have zn_h := Pl.szHouse_nn h
  obtain ⟨rfl, hmi_s⟩ := rHouseStep_at r_s
  have HMI_s := Lib.hid hmi_s
  clear hmi_s
  have zn_s := Pl.szHouseStep_nn s
  have HT0 := Lib.hid (show Below w.heap.size w ((w.alloc (.cells #[.slice A0_h n0_h c0_h, .slice A1_h n1_h c1_h, .slice A2_h n2_h c2_h] 43)).alloc (.cells #[.int .i64 s.Kind, .int .i64 s.Part, .string s.What.Name, .int .i64 s.What.At, .int .i64 s.What.Value] 51)) from (below_new (below_new (Below.refl w.heap.size w) _) _))
  have KP_h := Lib.hid (show Mm.Blk ((w.alloc (.cells #[.slice A0_h n0_h c0_h, .slice A1_h n1_h c1_h, .slice A2_h n2_h c2_h] 43)).alloc (.cells #[.int .i64 s.Kind, .int .i64 s.Part, .string s.What.Name, .int .i64 s.What.At, .int .i64 s.What.Value] 51)) w.heap.size 43 [.slice A0_h n0_h c0_h, .slice A1_h n1_h c1_h, .slice A2_h n2_h c2_h] from ((Mm.Blk.new' w 43 [.slice A0_h n0_h c0_h, .slice A1_h n1_h c1_h, .slice A2_h n2_h c2_h] rfl).alloc (.cells #[.int .i64 s.Kind, .int .i64 s.Part, .string s.What.Name, .int .i64 s.What.At, .int .i64 s.What.Value] 51)))
  have KP_s := Lib.hid (show Mm.Blk ((w.alloc (.cells #[.slice A0_h n0_h c0_h, .slice A1_h n1_h c1_h, .slice A2_h n2_h c2_h] 43)).alloc (.cells #[.int .i64 s.Kind, .int .i64 s.Part, .string s.What.Name, .int .i64 s.What.At, .int .i64 s.What.Value] 51)) (w.heap.size + 1) 51 [.int .i64 s.Kind, .int .i64 s.Part, .string s.What.Name, .int .i64 s.What.At, .int .i64 s.What.Value] from (Mm.Blk.new' (w.alloc (.cells #[.slice A0_h n0_h c0_h, .slice A1_h n1_h c1_h, .slice A2_h n2_h c2_h] 43)) 51 [.int .i64 s.Kind, .int .i64 s.Part, .string s.What.Name, .int .i64 s.What.At, .int .i64 s.What.Value] (Mm.sz1 _ _)))
  have HR_h := Lib.hid (rHouse.keep r_h fun b hb' => HT0.out.block b hb')
  have HB_h := Lib.hid HT0.out.size
  clear r_h r_s
  by_cases t_h : (1048576 - Pl.szHouse h : Int) < 0
  · skip
    go_enter Tryz.func5, Tryz.ntmps5
    go_wp2_with fail
    refine (szHouse_at h _ _ _ w.heap.size HR_h.out HB_h.out (by omega) (by omega)).mono ?_
    rintro e y1 ⟨rfl, hbz⟩
    rw [Pl.szRet_lt (by omega)]
    have HR_h := Lib.hid (rHouse.keep HR_h.out fun b hb' => hbz.block b (Nat.lt_of_lt_of_le hb' HB_h.out))
    have HB_h := Lib.hid (Nat.le_trans HB_h.out hbz.size)
    have KP_h := Lib.hid (KP_h.out.bel hbz)
    have KP_s := Lib.hid (KP_s.out.bel hbz)
    have HT2 := Lib.hid (below_step HT0.out hbz)
    clear hbz
    go_wp2
    go_ret
    exact ⟨rfl, HT2.out⟩
  · skip
    by_cases t_s : (1048576 - Pl.szHouse h - Pl.szHouseStep s : Int) < 0
    · skip
      go_enter Tryz.func5, Tryz.ntmps5
      go_wp2_with fail
      refine (szHouse_at h _ _ _ w.heap.size HR_h.out HB_h.out (by omega) (by omega)).mono ?_
      rintro e y3 ⟨rfl, hbz⟩
      rw [Pl.szRet_ge (by omega)]
      have HR_h := Lib.hid (rHouse.keep HR_h.out fun b hb' => hbz.block b (Nat.lt_of_lt_of_le hb' HB_h.out))
      have HB_h := Lib.hid (Nat.le_trans HB_h.out hbz.size)
      have KP_h := Lib.hid (KP_h.out.bel hbz)
      have KP_s := Lib.hid (KP_s.out.bel hbz)
      have HT4 := Lib.hid (below_step HT0.out hbz)
      clear hbz
      have c6_KP_s_0 := KP_s.out.cell (i := 0) rfl
      have c6_KP_s_1 := KP_s.out.cell (i := 1) rfl
      have c6_KP_s_2 := KP_s.out.cell (i := 2) rfl
      have c6_KP_s_3 := KP_s.out.cell (i := 3) rfl
      have c6_KP_s_4 := KP_s.out.cell (i := 4) rfl
      go_wp2_with fail
      refine (szHouseStep_c s _ _ 0 HMI_s.out.2.2.1 (Nat.zero_le _) (by omega) (by omega)).mono ?_
      rintro e y5 ⟨rfl, hbz⟩
      rw [Pl.szRet_lt (by omega)]
      have HR_h := Lib.hid (rHouse.keep HR_h.out fun b hb' => hbz.block b (Nat.lt_of_lt_of_le hb' HB_h.out))
      have HB_h := Lib.hid (Nat.le_trans HB_h.out hbz.size)
      have KP_h := Lib.hid (KP_h.out.bel hbz)
      have KP_s := Lib.hid (KP_s.out.bel hbz)
      have HT7 := Lib.hid (below_step HT4.out hbz)
      clear hbz
      go_wp2
      go_ret
      exact ⟨rfl, HT7.out⟩
    · skip
      go_enter Tryz.func5, Tryz.ntmps5
      go_wp2_with fail
      refine (szHouse_at h _ _ _ w.heap.size HR_h.out HB_h.out (by omega) (by omega)).mono ?_
      rintro e y8 ⟨rfl, hbz⟩
      rw [Pl.szRet_ge (by omega)]
      have HR_h := Lib.hid (rHouse.keep HR_h.out fun b hb' => hbz.block b (Nat.lt_of_lt_of_le hb' HB_h.out))
      have HB_h := Lib.hid (Nat.le_trans HB_h.out hbz.size)
      have KP_h := Lib.hid (KP_h.out.bel hbz)
      have KP_s := Lib.hid (KP_s.out.bel hbz)
      have HT9 := Lib.hid (below_step HT0.out hbz)
      clear hbz
      have c11_KP_s_0 := KP_s.out.cell (i := 0) rfl
      have c11_KP_s_1 := KP_s.out.cell (i := 1) rfl
      have c11_KP_s_2 := KP_s.out.cell (i := 2) rfl
      have c11_KP_s_3 := KP_s.out.cell (i := 3) rfl
      have c11_KP_s_4 := KP_s.out.cell (i := 4) rfl
      go_wp2_with fail
      refine (szHouseStep_c s _ _ 0 HMI_s.out.2.2.1 (Nat.zero_le _) (by omega) (by omega)).mono ?_
      rintro e y10 ⟨rfl, hbz⟩
      rw [Pl.szRet_ge (by omega)]
      have HR_h := Lib.hid (rHouse.keep HR_h.out fun b hb' => hbz.block b (Nat.lt_of_lt_of_le hb' HB_h.out))
      have HB_h := Lib.hid (Nat.le_trans HB_h.out hbz.size)
      have KP_h := Lib.hid (KP_h.out.bel hbz)
      have KP_s := Lib.hid (KP_s.out.bel hbz)
      have HT12 := Lib.hid (below_step HT9.out hbz)
      clear hbz
      go_wp2_with fail
      have c14_KP_h_0 := KP_h.out.cell (i := 0) rfl
      have c14_KP_h_1 := KP_h.out.cell (i := 1) rfl
      have c14_KP_h_2 := KP_h.out.cell (i := 2) rfl
      have c14_KP_s_0 := KP_s.out.cell (i := 0) rfl
      have c14_KP_s_1 := KP_s.out.cell (i := 1) rfl
      have c14_KP_s_2 := KP_s.out.cell (i := 2) rfl
      have c14_KP_s_3 := KP_s.out.cell (i := 3) rfl
      have c14_KP_s_4 := KP_s.out.cell (i := 4) rfl
      refine Mm.wp_region_give 10 (fun i => match i with | 1 => some (gPT_StepHouse h) | 3 => some (Mm.gVal (.agg #[.int .i64 s.Kind, .int .i64 s.Part, .string s.What.Name, .int .i64 s.What.At, .int .i64 s.What.Value])) | 4 => some (gPR_StepHouse (Pl.stepOf bo h s).1 (Pl.stepOf bo h s).2) | 8 => some (Mm.gPtr 27 [.slice none 0 0, .slice none 0 0, .slice none 0 0]) | 9 => some (Mm.gSto 27) | _ => none) (fun i => match i with | 4 => [1] | 9 => [8] | _ => []) (fun _ => []) (F := []) (D := fun w' => ∃ x : Und y10, w' = und y10 x) (fun X us h => Mm.sep_und h) (by kernel_rfl) (by kernel_rfl) (by kernel_rfl) (Mm.SepF.startDrew _) ?_
      repeat (refine Mm.give_det (by rfl) (by rfl) (by rfl) (fun K hK => ?_); go_big_quiet_op; refine hK _ ?_; clear hK K)
      refine Mm.give_op0 _ (by rfl) rfl rfl (by rfl) (by rfl) (by rfl) gPT_StepHouse_in (fun others X hX => ?_) ?_
      · go_wp2_with (go_at_call 24; refine (toHouse_at h _ X w.heap.size (rHouse.keep HR_h.out fun b hb => hX.bel0.block b (Nat.lt_of_lt_of_le hb HB_h.out)) (Nat.le_trans HB_h.out hX.chg.size) (by omega)).mono ?_; rintro e w5 ⟨cs5, fp5, rfl, ho, hnd, hnew, hb5⟩; obtain ⟨A0_p13, n0_p13, c0_p13, A1_p13, n1_p13, c1_p13, A2_p13, n2_p13, c2_p13, _, _, _, rfl, -⟩ := rHouse_own ho)
        exact ⟨rfl, rfl, _, ⟨A0_p13, n0_p13, c0_p13, A1_p13, n1_p13, c1_p13, A2_p13, n2_p13, c2_p13, _, rfl, rfl⟩, hX.add hb5 (t := Mm.tow rHouse h _ _) ho hnd hnew⟩
      rintro v ds ⟨A0_p13, n0_p13, c0_p13, A1_p13, n1_p13, c1_p13, A2_p13, n2_p13, c2_p13, fpp13, rfl, rfl⟩
      simp only [Act.put, List.setIfInBounds_toArray, List.set_cons_succ, List.set_cons_zero]
      repeat (refine Mm.give_det (by rfl) (by rfl) (by rfl) (fun K hK => ?_); go_big_quiet_op; refine hK _ ?_; clear hK K)
      refine Mm.give_op0 _ (by rfl) rfl rfl (by rfl) (by rfl) (by rfl) Mm.gVal_in (fun others X hX => ?_) ?_
      · go_wp2_with (go_at_call 28; refine (toHouseStep_c s X).mono ?_; rintro e w5 ⟨rfl, hb5⟩)
        exact Mm.gvq_val hX hb5 rfl rfl
      rintro v ds ⟨rfl, rfl⟩
      simp only [Act.put, List.setIfInBounds_toArray, List.set_cons_succ, List.set_cons_zero]
      repeat (refine Mm.give_det (by rfl) (by rfl) (by rfl) (fun K hK => ?_); go_big_quiet_op; refine hK _ ?_; clear hK K)
      refine Mm.give_op1 _ 1 (by rfl) rfl rfl (by rfl) (by rfl) rfl (by rfl) _ rfl gPR_StepHouse_in (fun others X hX => ?_) ?_
      · go_wp2_with (go_at_call 27; refine (specStepHouse_c h bo HBO.out (by omega) _ s _ X X.heap.size (hX.rd 0 rfl) (rHouseStep.weak (rHouseStep_own_mk HMI_s.out) (fun b hb => absurd hb (by simp))) (Nat.le_refl _)).mono ?_; rintro e w6 ⟨cs6, fp6, rfl, ho, hnd, hnew, hb6⟩; obtain ⟨A0_q13, n0_q13, c0_q13, A1_q13, n1_q13, c1_q13, A2_q13, n2_q13, c2_q13, _, _, _, rfl, -⟩ := rHouse_own ho)
        exact ⟨rfl, rfl, _, ⟨A0_q13, n0_q13, c0_q13, A1_q13, n1_q13, c1_q13, A2_q13, n2_q13, c2_q13, _, rfl, rfl⟩, (hX.tail.add hb6 (t := Mm.tow rHouse (Pl.stepOf bo h s).1 _ _) ho hnd hnew)⟩
      rintro v ds ⟨A0_q13, n0_q13, c0_q13, A1_q13, n1_q13, c1_q13, A2_q13, n2_q13, c2_q13, fp13, rfl, rfl⟩
      simp only [Act.put, List.setIfInBounds_toArray, List.set_cons_succ, List.set_cons_zero]
      repeat (refine Mm.give_det (by rfl) (by rfl) (by rfl) (fun K hK => ?_); go_big_quiet_op; refine hK _ ?_; clear hK K)
      refine Mm.give_op0 _ (by rfl) rfl rfl (by rfl) (by rfl) (by rfl) Mm.gPtr_in (fun others X hX => ?_) ?_
      · go_wp2
        exact Mm.gvq_ptr hX rfl rfl rfl
      rintro v ds ⟨gp13, rfl, rfl⟩
      simp only [Act.put, List.setIfInBounds_toArray, List.set_cons_succ, List.set_cons_zero]
      refine Mm.give_store 27 gp13 [.slice none 0 0, .slice none 0 0, .slice none 0 0] [.slice A0_q13 n0_q13 c0_q13, .slice A1_q13 n1_q13 c1_q13, .slice A2_q13 n2_q13 c2_q13] 8 (by rfl) rfl rfl (by rfl) rfl (by rfl) rfl rfl (fun others X hX => ?_) ?_
      · have HSR := Lib.hid hX
        have r0 := HSR.out.cell (k := 0) 0 rfl rfl
        have z0 := HSR.out.frz (k := 0) 0 rfl
        have r1 := HSR.out.cell (k := 1) 0 rfl rfl
        have z1 := HSR.out.frz (k := 1) 0 rfl
        have r2 := HSR.out.cell (k := 2) 0 rfl rfl
        have z2 := HSR.out.frz (k := 2) 0 rfl
        go_wp2
        exact ⟨rfl, rfl, _, rfl, (((hX.setBlk (k := 0) 0 rfl (.slice A0_q13 n0_q13 c0_q13)).setBlk (k := 1) 0 rfl (.slice A1_q13 n1_q13 c1_q13)).setBlk (k := 2) 0 rfl (.slice A2_q13 n2_q13 c2_q13))⟩
      refine Mm.give_nil ?_
      rintro X13 hX
      have hXs : Mm.SepF [] y10 X13 [Mm.tow rHouse (Pl.stepOf bo h s).1 [.slice A0_q13 n0_q13 c0_q13, .slice A1_q13 n1_q13 c1_q13, .slice A2_q13 n2_q13 c2_q13] fp13, Mm.tblk gp13 27 [.slice A0_q13 n0_q13 c0_q13, .slice A1_q13 n1_q13 c1_q13, .slice A2_q13 n2_q13 c2_q13]] := hX
      clear hX
      have hbz := hXs.bel0
      have ho13 : rHouse.own X13 (Pl.stepOf bo h s).1 [.slice A0_q13 n0_q13 c0_q13, .slice A1_q13 n1_q13 c1_q13, .slice A2_q13 n2_q13 c2_q13] fp13 := hXs.at_ 0 rfl
      have hnd13 := hXs.ndat (i := 0) rfl
      have hf13 : ∀ b, b ∈ fp13 → y10.heap.size ≤ b := fun b hb' => (hXs.new b (Mm.SepF.mem (i := 0) rfl hb')).resolve_left (fun hh => by cases hh)
      have hgp13 : y10.heap.size ≤ gp13 := (hXs.new gp13 (Mm.SepF.mem (i := 1) rfl (by simp [Mm.tblk]))).resolve_left (fun hh => by cases hh)
      clear hgp13
      have HR_h := Lib.hid (rHouse.keep HR_h.out fun b hb' => hbz.block b (Nat.lt_of_lt_of_le hb' HB_h.out))
      have HB_h := Lib.hid (Nat.le_trans HB_h.out hbz.size)
      have KP_h := Lib.hid (KP_h.out.bel hbz)
      have KP_s := Lib.hid (KP_s.out.bel hbz)
      have HT15 := Lib.hid (below_step HT12.out hbz)
      have HW0 := Lib.hid (rHouse.weak ho13 (B := X13.heap.size) (rHouse.olt ho13))
      have HW0_s := Lib.hid (Nat.le_refl X13.heap.size)
      have KW := Lib.hid (show Mm.Blk X13 gp13 27 [.slice A0_q13 n0_q13 c0_q13, .slice A1_q13 n1_q13 c1_q13, .slice A2_q13 n2_q13 c2_q13] from hXs.at_ 1 rfl)
      clear ho13 hnd13 hf13 hXs hbz
      have c16_KP_h_0 := KP_h.out.cell (i := 0) rfl
      have c16_KP_h_1 := KP_h.out.cell (i := 1) rfl
      have c16_KP_h_2 := KP_h.out.cell (i := 2) rfl
      go_wp2_with fail
      refine (toHouse_at h _ _ w.heap.size HR_h.out HB_h.out (by omega)).mono ?_
      rintro e v17 ⟨cs17, fp17, rfl, ho17, hnd17, hf17, hbz⟩
      obtain ⟨A0_17, n0_17, c0_17, A1_17, n1_17, c1_17, A2_17, n2_17, c2_17, _, _, _, rfl, -⟩ := rHouse_own ho17
      have AP17_HR_h := Lib.hid (show ∀ b, b ∈ fp17 → w.heap.size ≤ b from fun b hb' => Nat.le_trans HB_h.out (hf17 b hb'))
      have AP17_HW0 := Lib.hid (show ∀ b, b ∈ fp17 → X13.heap.size ≤ b from fun b hb' => Nat.le_trans HW0_s.out (hf17 b hb'))
      have NB17_KP_h := Lib.hid (show ¬ w.heap.size ∈ fp17 from fun hm => by have := KP_h.out.lt; have := hf17 _ hm; omega)
      have NB17_KP_s := Lib.hid (show ¬ (w.heap.size + 1) ∈ fp17 from fun hm => by have := KP_s.out.lt; have := hf17 _ hm; omega)
      have NB17_KW := Lib.hid (show ¬ gp13 ∈ fp17 from fun hm => by have := KW.out.lt; have := hf17 _ hm; omega)
      have FR17 := Lib.hid (show ∀ b, b ∈ fp17 → w.heap.size ≤ b from fun b hb' => Nat.le_trans HT15.out.size (hf17 b hb'))
      have ND17 := Lib.hid hnd17
      have LT17 := Lib.hid (show ∀ b, b ∈ fp17 → b < v17.heap.size from rHouse.olt ho17)
      have HR_h := Lib.hid (rHouse.keep HR_h.out fun b hb' => hbz.block b (Nat.lt_of_lt_of_le hb' HB_h.out))
      have HB_h := Lib.hid (Nat.le_trans HB_h.out hbz.size)
      have HW0 := Lib.hid (rHouse.keep HW0.out fun b hb' => hbz.block b (Nat.lt_of_lt_of_le hb' HW0_s.out))
      have HW0_s := Lib.hid (Nat.le_trans HW0_s.out hbz.size)
      have KP_h := Lib.hid (KP_h.out.bel hbz)
      have KP_s := Lib.hid (KP_s.out.bel hbz)
      have KW := Lib.hid (KW.out.bel hbz)
      have HT18 := Lib.hid (below_step HT15.out hbz)
      have HXx_h := Lib.hid (rHouse.weak ho17 (B := v17.heap.size) (rHouse.olt ho17))
      have HXx_h_s := Lib.hid (Nat.le_refl v17.heap.size)
      have OX_h := Lib.hid ho17
      clear ho17 hnd17 hf17
      clear hbz
      have NIKX_h_fp17 := Lib.hid (show ¬ v17.heap.size ∈ fp17 from fun hm => Nat.lt_irrefl _ (rHouse.olt OX_h.out _ hm))
      have hbx : Below v17.heap.size v17 (v17.alloc (.cells #[.slice A0_17 n0_17 c0_17, .slice A1_17 n1_17 c1_17, .slice A2_17 n2_17 c2_17] 27)) := below_new (Below.refl _ _) _
      have HR_h := Lib.hid (rHouse.keep HR_h.out fun b hb' => hbx.block b (Nat.lt_of_lt_of_le hb' HB_h.out))
      have HB_h := Lib.hid (Nat.le_trans HB_h.out hbx.size)
      have HW0 := Lib.hid (rHouse.keep HW0.out fun b hb' => hbx.block b (Nat.lt_of_lt_of_le hb' HW0_s.out))
      have HW0_s := Lib.hid (Nat.le_trans HW0_s.out hbx.size)
      have HXx_h := Lib.hid (rHouse.keep HXx_h.out fun b hb' => hbx.block b (Nat.lt_of_lt_of_le hb' HXx_h_s.out))
      have HXx_h_s := Lib.hid (Nat.le_trans HXx_h_s.out hbx.size)
      have OX_h := Lib.hid (rHouse.okeep OX_h.out fun b hb' => hbx.block b (rHouse.olt OX_h.out b hb'))
      have KP_h := Lib.hid (KP_h.out.bel hbx)
      have KP_s := Lib.hid (KP_s.out.bel hbx)
      have KW := Lib.hid (KW.out.bel hbx)
      have HT19 := Lib.hid (below_step HT18.out hbx)
      clear hbx
      have KX_h := Lib.hid (Mm.Blk.new v17 27 [.slice A0_17 n0_17 c0_17, .slice A1_17 n1_17 c1_17, .slice A2_17 n2_17 c2_17])
      have c20_KX_h_0 := KX_h.out.cell (i := 0) rfl
      have c20_KX_h_1 := KX_h.out.cell (i := 1) rfl
      have c20_KX_h_2 := KX_h.out.cell (i := 2) rfl
      go_wp2_with fail
      obtain ⟨W21, hW21⟩ : ∃ W21, (v17.alloc (.cells #[.slice A0_17 n0_17 c0_17, .slice A1_17 n1_17 c1_17, .slice A2_17 n2_17 c2_17] 27)) = W21 := ⟨_, rfl⟩
      try rw [hW21] at HT19
      try rw [hW21] at HR_h
      try rw [hW21] at HW0
      try rw [hW21] at HXx_h
      try rw [hW21] at HB_h
      try rw [hW21] at HW0_s
      try rw [hW21] at HXx_h_s
      try rw [hW21] at OX_h
      try rw [hW21] at KP_h
      try rw [hW21] at KP_s
      try rw [hW21] at KW
      try rw [hW21] at KX_h
      rw [hW21]
      clear hW21
      have c22_KP_s_0 := KP_s.out.cell (i := 0) rfl
      have c22_KP_s_1 := KP_s.out.cell (i := 1) rfl
      have c22_KP_s_2 := KP_s.out.cell (i := 2) rfl
      have c22_KP_s_3 := KP_s.out.cell (i := 3) rfl
      have c22_KP_s_4 := KP_s.out.cell (i := 4) rfl
      have c22_KX_h_0 := KX_h.out.cell (i := 0) rfl
      have c22_KX_h_1 := KX_h.out.cell (i := 1) rfl
      have c22_KX_h_2 := KX_h.out.cell (i := 2) rfl
      refine Mm.wp_region_give 9 (fun i => match i with | 2 => some (Mm.gVal (.agg #[.int .i64 s.Kind, .int .i64 s.Part, .string s.What.Name, .int .i64 s.What.At, .int .i64 s.What.Value])) | 3 => some (gPR_StepHouse (Pl.stepOf bo h s).1 (Pl.stepOf bo h s).2) | 7 => some (Mm.gPtr 27 [.slice none 0 0, .slice none 0 0, .slice none 0 0]) | 8 => some (Mm.gSto 27) | _ => none) (fun i => match i with | 8 => [7] | _ => []) (fun _ => []) (F := []) (D := fun w' => ∃ x : Und W21, w' = und W21 x) (fun X us h => Mm.sep_und h) (by kernel_rfl) (by kernel_rfl) (by kernel_rfl) (Mm.SepF.startDrew _) ?_
      repeat (refine Mm.give_det (by rfl) (by rfl) (by rfl) (fun K hK => ?_); go_big_quiet_op; refine hK _ ?_; clear hK K)
      refine Mm.give_op0 _ (by rfl) rfl rfl (by rfl) (by rfl) (by rfl) Mm.gVal_in (fun others X hX => ?_) ?_
      · go_wp2_with (go_at_call 28; refine (toHouseStep_c s X).mono ?_; rintro e w5 ⟨rfl, hb5⟩)
        exact Mm.gvq_val hX hb5 rfl rfl
      rintro v ds ⟨rfl, rfl⟩
      simp only [Act.put, List.setIfInBounds_toArray, List.set_cons_succ, List.set_cons_zero]
      repeat (refine Mm.give_det (by rfl) (by rfl) (by rfl) (fun K hK => ?_); go_big_quiet_op; refine hK _ ?_; clear hK K)
      refine Mm.give_op0 _ (by rfl) rfl rfl (by rfl) (by rfl) (by rfl) gPR_StepHouse_in (fun others X hX => ?_) ?_
      · go_wp2_with (go_at_call 29; refine (implStepHouse_c h bo HBO.out w.heap.size _ s _ X W21.heap.size (rHouse.keep (rHouse.more HXx_h.out HXx_h_s.out) fun b hb => hX.bel0.block b hb) (rHouseStep.weak (rHouseStep_own_mk HMI_s.out) (fun b hb => absurd hb (by simp))) hX.chg.size ((HTB.out.on HT19.out).on hX.bel0)).mono ?_; rintro e w6 ⟨cs6, fp6, rfl, ho, hnd, hnew, hb6⟩; obtain ⟨A0_q21, n0_q21, c0_q21, A1_q21, n1_q21, c1_q21, A2_q21, n2_q21, c2_q21, _, _, _, rfl, -⟩ := rHouse_own ho)
        exact ⟨rfl, rfl, _, ⟨A0_q21, n0_q21, c0_q21, A1_q21, n1_q21, c1_q21, A2_q21, n2_q21, c2_q21, _, rfl, rfl⟩, (hX.add hb6 (t := Mm.tow rHouse (Pl.stepOf bo h s).1 _ _) ho hnd hnew)⟩
      rintro v ds ⟨A0_q21, n0_q21, c0_q21, A1_q21, n1_q21, c1_q21, A2_q21, n2_q21, c2_q21, fp21, rfl, rfl⟩
      simp only [Act.put, List.setIfInBounds_toArray, List.set_cons_succ, List.set_cons_zero]
      repeat (refine Mm.give_det (by rfl) (by rfl) (by rfl) (fun K hK => ?_); go_big_quiet_op; refine hK _ ?_; clear hK K)
      refine Mm.give_op0 _ (by rfl) rfl rfl (by rfl) (by rfl) (by rfl) Mm.gPtr_in (fun others X hX => ?_) ?_
      · go_wp2
        exact Mm.gvq_ptr hX rfl rfl rfl
      rintro v ds ⟨gp21, rfl, rfl⟩
      simp only [Act.put, List.setIfInBounds_toArray, List.set_cons_succ, List.set_cons_zero]
      refine Mm.give_store 27 gp21 [.slice none 0 0, .slice none 0 0, .slice none 0 0] [.slice A0_q21 n0_q21 c0_q21, .slice A1_q21 n1_q21 c1_q21, .slice A2_q21 n2_q21 c2_q21] 7 (by rfl) rfl rfl (by rfl) rfl (by rfl) rfl rfl (fun others X hX => ?_) ?_
      · have HSR := Lib.hid hX
        have r0 := HSR.out.cell (k := 0) 0 rfl rfl
        have z0 := HSR.out.frz (k := 0) 0 rfl
        have r1 := HSR.out.cell (k := 1) 0 rfl rfl
        have z1 := HSR.out.frz (k := 1) 0 rfl
        have r2 := HSR.out.cell (k := 2) 0 rfl rfl
        have z2 := HSR.out.frz (k := 2) 0 rfl
        go_wp2
        exact ⟨rfl, rfl, _, rfl, (((hX.setBlk (k := 0) 0 rfl (.slice A0_q21 n0_q21 c0_q21)).setBlk (k := 1) 0 rfl (.slice A1_q21 n1_q21 c1_q21)).setBlk (k := 2) 0 rfl (.slice A2_q21 n2_q21 c2_q21))⟩
      refine Mm.give_nil ?_
      rintro X21 hX
      have hXs : Mm.SepF [] W21 X21 [Mm.tow rHouse (Pl.stepOf bo h s).1 [.slice A0_q21 n0_q21 c0_q21, .slice A1_q21 n1_q21 c1_q21, .slice A2_q21 n2_q21 c2_q21] fp21, Mm.tblk gp21 27 [.slice A0_q21 n0_q21 c0_q21, .slice A1_q21 n1_q21 c1_q21, .slice A2_q21 n2_q21 c2_q21]] := hX
      clear hX
      have hbz := hXs.bel0
      have ho21 : rHouse.own X21 (Pl.stepOf bo h s).1 [.slice A0_q21 n0_q21 c0_q21, .slice A1_q21 n1_q21 c1_q21, .slice A2_q21 n2_q21 c2_q21] fp21 := hXs.at_ 0 rfl
      have hnd21 := hXs.ndat (i := 0) rfl
      have hf21 : ∀ b, b ∈ fp21 → W21.heap.size ≤ b := fun b hb' => (hXs.new b (Mm.SepF.mem (i := 0) rfl hb')).resolve_left (fun hh => by cases hh)
      have hgp21 : W21.heap.size ≤ gp21 := (hXs.new gp21 (Mm.SepF.mem (i := 1) rfl (by simp [Mm.tblk]))).resolve_left (fun hh => by cases hh)
      have NJ21_fp17 := Lib.hid (show ¬ gp21 ∈ fp17 from fun hm => by have := rHouse.olt OX_h.out gp21 hm; omega)
      clear hgp21
      have AP21_HR_h := Lib.hid (show ∀ b, b ∈ fp21 → w.heap.size ≤ b from fun b hb' => Nat.le_trans HB_h.out (hf21 b hb'))
      have AP21_HW0 := Lib.hid (show ∀ b, b ∈ fp21 → X13.heap.size ≤ b from fun b hb' => Nat.le_trans HW0_s.out (hf21 b hb'))
      have AP21_HXx_h := Lib.hid (show ∀ b, b ∈ fp21 → v17.heap.size ≤ b from fun b hb' => Nat.le_trans HXx_h_s.out (hf21 b hb'))
      have DP21_OX_h := Lib.hid (show ∀ b, b ∈ fp21 → b ∉ fp17 from fun b hb' hm => by have := rHouse.olt OX_h.out b hm; have := hf21 b hb'; omega)
      have NB21_KP_h := Lib.hid (show ¬ w.heap.size ∈ fp21 from fun hm => by have := KP_h.out.lt; have := hf21 _ hm; omega)
      have NB21_KP_s := Lib.hid (show ¬ (w.heap.size + 1) ∈ fp21 from fun hm => by have := KP_s.out.lt; have := hf21 _ hm; omega)
      have NB21_KW := Lib.hid (show ¬ gp13 ∈ fp21 from fun hm => by have := KW.out.lt; have := hf21 _ hm; omega)
      have NB21_KX_h := Lib.hid (show ¬ v17.heap.size ∈ fp21 from fun hm => by have := KX_h.out.lt; have := hf21 _ hm; omega)
      have FR21 := Lib.hid (show ∀ b, b ∈ fp21 → w.heap.size ≤ b from fun b hb' => Nat.le_trans HT19.out.size (hf21 b hb'))
      have ND21 := Lib.hid hnd21
      have LT21 := Lib.hid (show ∀ b, b ∈ fp21 → b < X21.heap.size from rHouse.olt ho21)
      have HR_h := Lib.hid (rHouse.keep HR_h.out fun b hb' => hbz.block b (Nat.lt_of_lt_of_le hb' HB_h.out))
      have HB_h := Lib.hid (Nat.le_trans HB_h.out hbz.size)
      have HW0 := Lib.hid (rHouse.keep HW0.out fun b hb' => hbz.block b (Nat.lt_of_lt_of_le hb' HW0_s.out))
      have HW0_s := Lib.hid (Nat.le_trans HW0_s.out hbz.size)
      have HXx_h := Lib.hid (rHouse.keep HXx_h.out fun b hb' => hbz.block b (Nat.lt_of_lt_of_le hb' HXx_h_s.out))
      have HXx_h_s := Lib.hid (Nat.le_trans HXx_h_s.out hbz.size)
      have OX_h := Lib.hid (rHouse.okeep OX_h.out fun b hb' => hbz.block b (rHouse.olt OX_h.out b hb'))
      have KP_h := Lib.hid (KP_h.out.bel hbz)
      have KP_s := Lib.hid (KP_s.out.bel hbz)
      have KW := Lib.hid (KW.out.bel hbz)
      have KX_h := Lib.hid (KX_h.out.bel hbz)
      have HT23 := Lib.hid (below_step HT19.out hbz)
      have OG := Lib.hid ho21
      have KG := Lib.hid (show Mm.Blk X21 gp21 27 [.slice A0_q21 n0_q21 c0_q21, .slice A1_q21 n1_q21 c1_q21, .slice A2_q21 n2_q21 c2_q21] from hXs.at_ 1 rfl)
      have NIKG := Lib.hid (show ¬ gp21 ∈ fp21 from fun hm => hXs.apart (i := 1) (j := 0) rfl rfl (by decide) _ (by simp [Mm.tblk]) hm)
      clear ho21 hnd21 hf21 hXs hbz
      have c24_KP_h_0 := KP_h.out.cell (i := 0) rfl
      have c24_KP_h_1 := KP_h.out.cell (i := 1) rfl
      have c24_KP_h_2 := KP_h.out.cell (i := 2) rfl
      have c24_KP_s_0 := KP_s.out.cell (i := 0) rfl
      have c24_KP_s_1 := KP_s.out.cell (i := 1) rfl
      have c24_KP_s_2 := KP_s.out.cell (i := 2) rfl
      have c24_KP_s_3 := KP_s.out.cell (i := 3) rfl
      have c24_KP_s_4 := KP_s.out.cell (i := 4) rfl
      have c24_KW_0 := KW.out.cell (i := 0) rfl
      have c24_KW_1 := KW.out.cell (i := 1) rfl
      have c24_KW_2 := KW.out.cell (i := 2) rfl
      have c24_KX_h_0 := KX_h.out.cell (i := 0) rfl
      have c24_KX_h_1 := KX_h.out.cell (i := 1) rfl
      have c24_KX_h_2 := KX_h.out.cell (i := 2) rfl
      have c24_KG_0 := KG.out.cell (i := 0) rfl
      have c24_KG_1 := KG.out.cell (i := 1) rfl
      have c24_KG_2 := KG.out.cell (i := 2) rfl
      go_wp2_with fail
      refine (eqHouse_at (Pl.stepOf bo h s).1 _ _ _ _ (rHouse.weak OG.out (B := _) (rHouse.olt OG.out)) (rHouse.more HW0.out HW0_s.out) (Nat.le_refl _)).mono ?_
      rintro e v25 ⟨rfl, hbz⟩
      have HR_h := Lib.hid (rHouse.keep HR_h.out fun b hb' => hbz.block b (Nat.lt_of_lt_of_le hb' HB_h.out))
      have HB_h := Lib.hid (Nat.le_trans HB_h.out hbz.size)
      have HW0 := Lib.hid (rHouse.keep HW0.out fun b hb' => hbz.block b (Nat.lt_of_lt_of_le hb' HW0_s.out))
      have HW0_s := Lib.hid (Nat.le_trans HW0_s.out hbz.size)
      have HXx_h := Lib.hid (rHouse.keep HXx_h.out fun b hb' => hbz.block b (Nat.lt_of_lt_of_le hb' HXx_h_s.out))
      have HXx_h_s := Lib.hid (Nat.le_trans HXx_h_s.out hbz.size)
      have OX_h := Lib.hid (rHouse.okeep OX_h.out fun b hb' => hbz.block b (rHouse.olt OX_h.out b hb'))
      have OG := Lib.hid (rHouse.okeep OG.out fun b hb' => hbz.block b (rHouse.olt OG.out b hb'))
      have KP_h := Lib.hid (KP_h.out.bel hbz)
      have KP_s := Lib.hid (KP_s.out.bel hbz)
      have KW := Lib.hid (KW.out.bel hbz)
      have KX_h := Lib.hid (KX_h.out.bel hbz)
      have KG := Lib.hid (KG.out.bel hbz)
      have HT26 := Lib.hid (below_step HT23.out hbz)
      clear hbz
      have c27_KP_h_0 := KP_h.out.cell (i := 0) rfl
      have c27_KP_h_1 := KP_h.out.cell (i := 1) rfl
      have c27_KP_h_2 := KP_h.out.cell (i := 2) rfl
      have c27_KX_h_0 := KX_h.out.cell (i := 0) rfl
      have c27_KX_h_1 := KX_h.out.cell (i := 1) rfl
      have c27_KX_h_2 := KX_h.out.cell (i := 2) rfl
      go_wp2_with fail
      have hdr := (Below.refl v25.heap.size v25).drew
      have HR_h := Lib.hid (rHouse.keep HR_h.out fun b hb' => hdr.block b (Nat.lt_of_lt_of_le hb' HB_h.out))
      have HB_h := Lib.hid (Nat.le_trans HB_h.out hdr.size)
      have HW0 := Lib.hid (rHouse.keep HW0.out fun b hb' => hdr.block b (Nat.lt_of_lt_of_le hb' HW0_s.out))
      have HW0_s := Lib.hid (Nat.le_trans HW0_s.out hdr.size)
      have HXx_h := Lib.hid (rHouse.keep HXx_h.out fun b hb' => hdr.block b (Nat.lt_of_lt_of_le hb' HXx_h_s.out))
      have HXx_h_s := Lib.hid (Nat.le_trans HXx_h_s.out hdr.size)
      have OX_h := Lib.hid (rHouse.okeep OX_h.out fun b hb' => hdr.block b (rHouse.olt OX_h.out b hb'))
      have OG := Lib.hid (rHouse.okeep OG.out fun b hb' => hdr.block b (rHouse.olt OG.out b hb'))
      have KP_h := Lib.hid (KP_h.out.bel hdr)
      have KP_s := Lib.hid (KP_s.out.bel hdr)
      have KW := Lib.hid (KW.out.bel hdr)
      have KX_h := Lib.hid (KX_h.out.bel hdr)
      have KG := Lib.hid (KG.out.bel hdr)
      have HT28 := Lib.hid (below_step HT26.out hdr)
      clear hdr
      have c29_KP_h_0 := KP_h.out.cell (i := 0) rfl
      have c29_KP_h_1 := KP_h.out.cell (i := 1) rfl
      have c29_KP_h_2 := KP_h.out.cell (i := 2) rfl
      have c29_KX_h_0 := KX_h.out.cell (i := 0) rfl
      have c29_KX_h_1 := KX_h.out.cell (i := 1) rfl
      have c29_KX_h_2 := KX_h.out.cell (i := 2) rfl
      go_region_held3 (fun wx => wx.cell? ⟨w.heap.size, 0, none⟩ = some (.slice A0_h n0_h c0_h) ∧ wx.cell? ⟨w.heap.size, 1, none⟩ = some (.slice A1_h n1_h c1_h) ∧ wx.cell? ⟨w.heap.size, 2, none⟩ = some (.slice A2_h n2_h c2_h) ∧ wx.cell? ⟨v17.heap.size, 0, none⟩ = some (.slice A0_17 n0_17 c0_17) ∧ wx.cell? ⟨v17.heap.size, 1, none⟩ = some (.slice A1_17 n1_17 c1_17) ∧ wx.cell? ⟨v17.heap.size, 2, none⟩ = some (.slice A2_17 n2_17 c2_17))
        (first | (go_keep; done) | ((try dsimp only); go_split_ands; refine ⟨?_, ?_, ?_, ?_, ?_, ?_⟩ <;> first | (exact below_some hbz (by assumption)) | (exact (KP_h.out.alloc _).cell (i := 0) rfl) | (exact (KP_h.out.alloc _).cell (i := 1) rfl) | (exact (KP_h.out.alloc _).cell (i := 2) rfl) | (exact (KX_h.out.alloc _).cell (i := 0) rfl) | (exact (KX_h.out.alloc _).cell (i := 1) rfl) | (exact (KX_h.out.alloc _).cell (i := 2) rfl) | (go_keep; done) | (simp [World.cell?_alloc_some, World.cell?_setCell_far, *]; done)))
        (first
          | (go_at_call 24; (with_reducible refine (toHouse_at h _ _ w.heap.size HR_h.out HB_h.out (by omega)).mono ?_); rintro e v30 ⟨cs30, fp30, rfl, ho30, hnd30, hf30, hbz⟩; obtain ⟨A0_30, n0_30, c0_30, A1_30, n1_30, c1_30, A2_30, n2_30, c2_30, _, _, _, rfl, -⟩ := rHouse_own ho30; (have HR_h := Lib.hid (rHouse.keep HR_h.out fun b hb' => hbz.block b (Nat.lt_of_lt_of_le hb' HB_h.out))); (have HB_h := Lib.hid (Nat.le_trans HB_h.out hbz.size)); (have HW0 := Lib.hid (rHouse.keep HW0.out fun b hb' => hbz.block b (Nat.lt_of_lt_of_le hb' HW0_s.out))); (have HW0_s := Lib.hid (Nat.le_trans HW0_s.out hbz.size)); (have HXx_h := Lib.hid (rHouse.keep HXx_h.out fun b hb' => hbz.block b (Nat.lt_of_lt_of_le hb' HXx_h_s.out))); (have HXx_h_s := Lib.hid (Nat.le_trans HXx_h_s.out hbz.size)); (have OX_h := Lib.hid (rHouse.okeep OX_h.out fun b hb' => hbz.block b (rHouse.olt OX_h.out b hb'))); (have OG := Lib.hid (rHouse.okeep OG.out fun b hb' => hbz.block b (rHouse.olt OG.out b hb'))); (have KP_h := Lib.hid (KP_h.out.bel hbz)); (have KP_s := Lib.hid (KP_s.out.bel hbz)); (have KW := Lib.hid (KW.out.bel hbz)); (have KX_h := Lib.hid (KX_h.out.bel hbz)); (have KG := Lib.hid (KG.out.bel hbz)); (have HT31 := Lib.hid (below_step HT28.out hbz)); (have HXz_h := Lib.hid (rHouse.weak ho30 (B := v30.heap.size) (rHouse.olt ho30))); (have HXz_h_s := Lib.hid (Nat.le_refl v30.heap.size)); clear ho30 hnd30 hf30)
          | (go_at_call 14; (with_reducible refine (eqHouse_at h _ _ _ v30.heap.size (rHouse.more HXx_h.out HXx_h_s.out) HXz_h.out (Nat.le_refl _)).mono ?_); rintro e v32 ⟨rfl, hbz⟩; (have HR_h := Lib.hid (rHouse.keep HR_h.out fun b hb' => hbz.block b (Nat.lt_of_lt_of_le hb' HB_h.out))); (have HB_h := Lib.hid (Nat.le_trans HB_h.out hbz.size)); (have HW0 := Lib.hid (rHouse.keep HW0.out fun b hb' => hbz.block b (Nat.lt_of_lt_of_le hb' HW0_s.out))); (have HW0_s := Lib.hid (Nat.le_trans HW0_s.out hbz.size)); (have HXx_h := Lib.hid (rHouse.keep HXx_h.out fun b hb' => hbz.block b (Nat.lt_of_lt_of_le hb' HXx_h_s.out))); (have HXx_h_s := Lib.hid (Nat.le_trans HXx_h_s.out hbz.size)); (have HXz_h := Lib.hid (rHouse.keep HXz_h.out fun b hb' => hbz.block b (Nat.lt_of_lt_of_le hb' HXz_h_s.out))); (have HXz_h_s := Lib.hid (Nat.le_trans HXz_h_s.out hbz.size)); (have OX_h := Lib.hid (rHouse.okeep OX_h.out fun b hb' => hbz.block b (rHouse.olt OX_h.out b hb'))); (have OG := Lib.hid (rHouse.okeep OG.out fun b hb' => hbz.block b (rHouse.olt OG.out b hb'))); (have KP_h := Lib.hid (KP_h.out.bel hbz)); (have KP_s := Lib.hid (KP_s.out.bel hbz)); (have KW := Lib.hid (KW.out.bel hbz)); (have KX_h := Lib.hid (KX_h.out.bel hbz)); (have KG := Lib.hid (KG.out.bel hbz)); (have HT33 := Lib.hid (below_step HT31.out hbz))))
      clear hbz
      have hcn_h := Pl.ctopHouse_nn h
      have hcb_h : Pl.ctopHouse h ≤ 50000000 := by have := Pl.ctopbHouse h; omega
      have c35_KX_h_0 := KX_h.out.cell (i := 0) rfl
      have c35_KX_h_1 := KX_h.out.cell (i := 1) rfl
      have c35_KX_h_2 := KX_h.out.cell (i := 2) rfl
      go_wp2_with fail
      refine (markHouse_c h _ _ _ _ OX_h.out ND17.out (by omega) (by omega)).mono ?_
      rintro e v34 ⟨rfl, hch, -⟩
      have HR_h := Lib.hid (rHouse.keep HR_h.out fun b hb' => hch.block b (Nat.lt_of_lt_of_le hb' HB_h.out) (fun hm => by have := AP17_HR_h.out b hm; omega))
      have HB_h := Lib.hid (Nat.le_trans HB_h.out hch.size)
      have HW0 := Lib.hid (rHouse.keep HW0.out fun b hb' => hch.block b (Nat.lt_of_lt_of_le hb' HW0_s.out) (fun hm => by have := AP17_HW0.out b hm; omega))
      have HW0_s := Lib.hid (Nat.le_trans HW0_s.out hch.size)
      have OG := Lib.hid (rHouse.okeep OG.out fun b hb' => hch.block b (rHouse.olt OG.out b hb') (fun hm => DP21_OX_h.out b hb' hm))
      have KP_h := Lib.hid (KP_h.out.keep (hch.block _ KP_h.out.lt (NB17_KP_h.out)))
      have KP_s := Lib.hid (KP_s.out.keep (hch.block _ KP_s.out.lt (NB17_KP_s.out)))
      have KW := Lib.hid (KW.out.keep (hch.block _ KW.out.lt (NB17_KW.out)))
      have KX_h := Lib.hid (KX_h.out.keep (hch.block _ KX_h.out.lt (NIKX_h_fp17.out)))
      have KG := Lib.hid (KG.out.keep (hch.block _ KG.out.lt (NJ21_fp17.out)))
      have HT36 := Lib.hid (Mm.Below.chg HT33.out hch HT33.out.size FR17.out)
      clear hch
      have c37_KP_h_0 := KP_h.out.cell (i := 0) rfl
      have c37_KP_h_1 := KP_h.out.cell (i := 1) rfl
      have c37_KP_h_2 := KP_h.out.cell (i := 2) rfl
      have c37_KP_s_0 := KP_s.out.cell (i := 0) rfl
      have c37_KP_s_1 := KP_s.out.cell (i := 1) rfl
      have c37_KP_s_2 := KP_s.out.cell (i := 2) rfl
      have c37_KP_s_3 := KP_s.out.cell (i := 3) rfl
      have c37_KP_s_4 := KP_s.out.cell (i := 4) rfl
      have c37_KW_0 := KW.out.cell (i := 0) rfl
      have c37_KW_1 := KW.out.cell (i := 1) rfl
      have c37_KW_2 := KW.out.cell (i := 2) rfl
      have c37_KX_h_0 := KX_h.out.cell (i := 0) rfl
      have c37_KX_h_1 := KX_h.out.cell (i := 1) rfl
      have c37_KX_h_2 := KX_h.out.cell (i := 2) rfl
      have c37_KG_0 := KG.out.cell (i := 0) rfl
      have c37_KG_1 := KG.out.cell (i := 1) rfl
      have c37_KG_2 := KG.out.cell (i := 2) rfl
      go_wp2_with fail
      refine (eqHouse_at (Pl.stepOf bo h s).1 _ _ _ _ (rHouse.weak OG.out (B := _) (rHouse.olt OG.out)) (rHouse.more HW0.out HW0_s.out) (Nat.le_refl _)).mono ?_
      rintro e v38 ⟨rfl, hbz⟩
      have HR_h := Lib.hid (rHouse.keep HR_h.out fun b hb' => hbz.block b (Nat.lt_of_lt_of_le hb' HB_h.out))
      have HB_h := Lib.hid (Nat.le_trans HB_h.out hbz.size)
      have HW0 := Lib.hid (rHouse.keep HW0.out fun b hb' => hbz.block b (Nat.lt_of_lt_of_le hb' HW0_s.out))
      have HW0_s := Lib.hid (Nat.le_trans HW0_s.out hbz.size)
      have OG := Lib.hid (rHouse.okeep OG.out fun b hb' => hbz.block b (rHouse.olt OG.out b hb'))
      have KP_h := Lib.hid (KP_h.out.bel hbz)
      have KP_s := Lib.hid (KP_s.out.bel hbz)
      have KW := Lib.hid (KW.out.bel hbz)
      have KX_h := Lib.hid (KX_h.out.bel hbz)
      have KG := Lib.hid (KG.out.bel hbz)
      have HT39 := Lib.hid (below_step HT36.out hbz)
      clear hbz
      have hcg : 0 ≤ Pl.ctopHouse (Pl.stepOf bo h s).1 := Pl.ctopHouse_nn (Pl.stepOf bo h s).1
      have hcgb : Pl.ctopHouse (Pl.stepOf bo h s).1 ≤ 50000000 := (step_cnt HBO.out s)
      obtain ⟨cg, hcge⟩ : ∃ z, Pl.ctopHouse (Pl.stepOf bo h s).1 = z := ⟨_, rfl⟩
      rw [hcge] at hcg hcgb
      have HCG := Lib.hid hcge
      clear hcge
      have c40_KG_0 := KG.out.cell (i := 0) rfl
      have c40_KG_1 := KG.out.cell (i := 1) rfl
      have c40_KG_2 := KG.out.cell (i := 2) rfl
      go_wp2_with fail
      refine (markHouse_c (Pl.stepOf bo h s).1 _ _ _ _ OG.out ND21.out (by omega) (by rw [HCG.out]; omega)).mono ?_
      rintro e v41 ⟨rfl, hch, fpm, hom, hndm, hsubm⟩
      rw [HCG.out]
      have HR_h := Lib.hid (rHouse.keep HR_h.out fun b hb' => hch.block b (Nat.lt_of_lt_of_le hb' HB_h.out) (fun hm => by have := AP21_HR_h.out b hm; omega))
      have HB_h := Lib.hid (Nat.le_trans HB_h.out hch.size)
      have HW0 := Lib.hid (rHouse.keep HW0.out fun b hb' => hch.block b (Nat.lt_of_lt_of_le hb' HW0_s.out) (fun hm => by have := AP21_HW0.out b hm; omega))
      have HW0_s := Lib.hid (Nat.le_trans HW0_s.out hch.size)
      have KP_h := Lib.hid (KP_h.out.keep (hch.block _ KP_h.out.lt (NB21_KP_h.out)))
      have KP_s := Lib.hid (KP_s.out.keep (hch.block _ KP_s.out.lt (NB21_KP_s.out)))
      have KW := Lib.hid (KW.out.keep (hch.block _ KW.out.lt (NB21_KW.out)))
      have KX_h := Lib.hid (KX_h.out.keep (hch.block _ KX_h.out.lt (NB21_KX_h.out)))
      have KG := Lib.hid (KG.out.keep (hch.block _ KG.out.lt (NIKG.out)))
      have HT42 := Lib.hid (Mm.Below.chg HT39.out hch HT39.out.size FR21.out)
      clear hch
      have OM := Lib.hid hom
      clear hom hndm hsubm
      have c43_KG_0 := KG.out.cell (i := 0) rfl
      have c43_KG_1 := KG.out.cell (i := 1) rfl
      have c43_KG_2 := KG.out.cell (i := 2) rfl
      go_wp2_with fail
      refine (heldHouse_c (Pl.stepOf bo h s).1 _ _ _ _ (rHouse.weak OM.out (B := _) (rHouse.olt OM.out)) (Nat.le_refl _) (by omega) (by rw [HCG.out]; omega)).mono ?_
      rintro e v44 ⟨rfl, hbz⟩
      rw [HCG.out]
      have HR_h := Lib.hid (rHouse.keep HR_h.out fun b hb' => hbz.block b (Nat.lt_of_lt_of_le hb' HB_h.out))
      have HB_h := Lib.hid (Nat.le_trans HB_h.out hbz.size)
      have HW0 := Lib.hid (rHouse.keep HW0.out fun b hb' => hbz.block b (Nat.lt_of_lt_of_le hb' HW0_s.out))
      have HW0_s := Lib.hid (Nat.le_trans HW0_s.out hbz.size)
      have OM := Lib.hid (rHouse.okeep OM.out fun b hb' => hbz.block b (rHouse.olt OM.out b hb'))
      have KP_h := Lib.hid (KP_h.out.bel hbz)
      have KP_s := Lib.hid (KP_s.out.bel hbz)
      have KW := Lib.hid (KW.out.bel hbz)
      have KX_h := Lib.hid (KX_h.out.bel hbz)
      have KG := Lib.hid (KG.out.bel hbz)
      have HT45 := Lib.hid (below_step HT42.out hbz)
      clear hbz
      go_wp2_with fail
      have c47_KP_h_0 := KP_h.out.cell (i := 0) rfl
      have c47_KP_h_1 := KP_h.out.cell (i := 1) rfl
      have c47_KP_h_2 := KP_h.out.cell (i := 2) rfl
      have c47_KP_s_0 := KP_s.out.cell (i := 0) rfl
      have c47_KP_s_1 := KP_s.out.cell (i := 1) rfl
      have c47_KP_s_2 := KP_s.out.cell (i := 2) rfl
      have c47_KP_s_3 := KP_s.out.cell (i := 3) rfl
      have c47_KP_s_4 := KP_s.out.cell (i := 4) rfl
      refine Mm.wp_region_give 10 (fun i => match i with | 1 => some (gPT_StepHouse h) | 3 => some (Mm.gVal (.agg #[.int .i64 s.Kind, .int .i64 s.Part, .string s.What.Name, .int .i64 s.What.At, .int .i64 s.What.Value])) | 4 => some (gPR_StepHouse (Pl.stepOf bo h s).1 (Pl.stepOf bo h s).2) | 8 => some (Mm.gPtr 27 [.slice none 0 0, .slice none 0 0, .slice none 0 0]) | 9 => some (Mm.gSto 27) | _ => none) (fun i => match i with | 4 => [1] | 9 => [8] | _ => []) (fun _ => []) (F := []) (D := fun w' => ∃ x : Und v44, w' = und v44 x) (fun X us h => Mm.sep_und h) (by kernel_rfl) (by kernel_rfl) (by kernel_rfl) (Mm.SepF.startDrew _) ?_
      repeat (refine Mm.give_det (by rfl) (by rfl) (by rfl) (fun K hK => ?_); go_big_quiet_op; refine hK _ ?_; clear hK K)
      refine Mm.give_op0 _ (by rfl) rfl rfl (by rfl) (by rfl) (by rfl) gPT_StepHouse_in (fun others X hX => ?_) ?_
      · go_wp2_with (go_at_call 24; refine (toHouse_at h _ X w.heap.size (rHouse.keep HR_h.out fun b hb => hX.bel0.block b (Nat.lt_of_lt_of_le hb HB_h.out)) (Nat.le_trans HB_h.out hX.chg.size) (by omega)).mono ?_; rintro e w5 ⟨cs5, fp5, rfl, ho, hnd, hnew, hb5⟩; obtain ⟨A0_p46, n0_p46, c0_p46, A1_p46, n1_p46, c1_p46, A2_p46, n2_p46, c2_p46, _, _, _, rfl, -⟩ := rHouse_own ho)
        exact ⟨rfl, rfl, _, ⟨A0_p46, n0_p46, c0_p46, A1_p46, n1_p46, c1_p46, A2_p46, n2_p46, c2_p46, _, rfl, rfl⟩, hX.add hb5 (t := Mm.tow rHouse h _ _) ho hnd hnew⟩
      rintro v ds ⟨A0_p46, n0_p46, c0_p46, A1_p46, n1_p46, c1_p46, A2_p46, n2_p46, c2_p46, fpp46, rfl, rfl⟩
      simp only [Act.put, List.setIfInBounds_toArray, List.set_cons_succ, List.set_cons_zero]
      repeat (refine Mm.give_det (by rfl) (by rfl) (by rfl) (fun K hK => ?_); go_big_quiet_op; refine hK _ ?_; clear hK K)
      refine Mm.give_op0 _ (by rfl) rfl rfl (by rfl) (by rfl) (by rfl) Mm.gVal_in (fun others X hX => ?_) ?_
      · go_wp2_with (go_at_call 28; refine (toHouseStep_c s X).mono ?_; rintro e w5 ⟨rfl, hb5⟩)
        exact Mm.gvq_val hX hb5 rfl rfl
      rintro v ds ⟨rfl, rfl⟩
      simp only [Act.put, List.setIfInBounds_toArray, List.set_cons_succ, List.set_cons_zero]
      repeat (refine Mm.give_det (by rfl) (by rfl) (by rfl) (fun K hK => ?_); go_big_quiet_op; refine hK _ ?_; clear hK K)
      refine Mm.give_op1 _ 1 (by rfl) rfl rfl (by rfl) (by rfl) rfl (by rfl) _ rfl gPR_StepHouse_in (fun others X hX => ?_) ?_
      · go_wp2_with (go_at_call 29; refine (implStepHouse_c h bo HBO.out w.heap.size _ s _ X X.heap.size (hX.rd 0 rfl) (rHouseStep.weak (rHouseStep_own_mk HMI_s.out) (fun b hb => absurd hb (by simp))) (Nat.le_refl _) ((HTB.out.on HT45.out).on hX.bel0)).mono ?_; rintro e w6 ⟨cs6, fp6, rfl, ho, hnd, hnew, hb6⟩; obtain ⟨A0_q46, n0_q46, c0_q46, A1_q46, n1_q46, c1_q46, A2_q46, n2_q46, c2_q46, _, _, _, rfl, -⟩ := rHouse_own ho)
        exact ⟨rfl, rfl, _, ⟨A0_q46, n0_q46, c0_q46, A1_q46, n1_q46, c1_q46, A2_q46, n2_q46, c2_q46, _, rfl, rfl⟩, (hX.tail.add hb6 (t := Mm.tow rHouse (Pl.stepOf bo h s).1 _ _) ho hnd hnew)⟩
      rintro v ds ⟨A0_q46, n0_q46, c0_q46, A1_q46, n1_q46, c1_q46, A2_q46, n2_q46, c2_q46, fp46, rfl, rfl⟩
      simp only [Act.put, List.setIfInBounds_toArray, List.set_cons_succ, List.set_cons_zero]
      repeat (refine Mm.give_det (by rfl) (by rfl) (by rfl) (fun K hK => ?_); go_big_quiet_op; refine hK _ ?_; clear hK K)
      refine Mm.give_op0 _ (by rfl) rfl rfl (by rfl) (by rfl) (by rfl) Mm.gPtr_in (fun others X hX => ?_) ?_
      · go_wp2
        exact Mm.gvq_ptr hX rfl rfl rfl
      rintro v ds ⟨gp46, rfl, rfl⟩
      simp only [Act.put, List.setIfInBounds_toArray, List.set_cons_succ, List.set_cons_zero]
      refine Mm.give_store 27 gp46 [.slice none 0 0, .slice none 0 0, .slice none 0 0] [.slice A0_q46 n0_q46 c0_q46, .slice A1_q46 n1_q46 c1_q46, .slice A2_q46 n2_q46 c2_q46] 8 (by rfl) rfl rfl (by rfl) rfl (by rfl) rfl rfl (fun others X hX => ?_) ?_
      · have HSR := Lib.hid hX
        have r0 := HSR.out.cell (k := 0) 0 rfl rfl
        have z0 := HSR.out.frz (k := 0) 0 rfl
        have r1 := HSR.out.cell (k := 1) 0 rfl rfl
        have z1 := HSR.out.frz (k := 1) 0 rfl
        have r2 := HSR.out.cell (k := 2) 0 rfl rfl
        have z2 := HSR.out.frz (k := 2) 0 rfl
        go_wp2
        exact ⟨rfl, rfl, _, rfl, (((hX.setBlk (k := 0) 0 rfl (.slice A0_q46 n0_q46 c0_q46)).setBlk (k := 1) 0 rfl (.slice A1_q46 n1_q46 c1_q46)).setBlk (k := 2) 0 rfl (.slice A2_q46 n2_q46 c2_q46))⟩
      refine Mm.give_nil ?_
      rintro X46 hX
      have hXs : Mm.SepF [] v44 X46 [Mm.tow rHouse (Pl.stepOf bo h s).1 [.slice A0_q46 n0_q46 c0_q46, .slice A1_q46 n1_q46 c1_q46, .slice A2_q46 n2_q46 c2_q46] fp46, Mm.tblk gp46 27 [.slice A0_q46 n0_q46 c0_q46, .slice A1_q46 n1_q46 c1_q46, .slice A2_q46 n2_q46 c2_q46]] := hX
      clear hX
      have hbz := hXs.bel0
      have ho46 : rHouse.own X46 (Pl.stepOf bo h s).1 [.slice A0_q46 n0_q46 c0_q46, .slice A1_q46 n1_q46 c1_q46, .slice A2_q46 n2_q46 c2_q46] fp46 := hXs.at_ 0 rfl
      have hnd46 := hXs.ndat (i := 0) rfl
      have hf46 : ∀ b, b ∈ fp46 → v44.heap.size ≤ b := fun b hb' => (hXs.new b (Mm.SepF.mem (i := 0) rfl hb')).resolve_left (fun hh => by cases hh)
      have hgp46 : v44.heap.size ≤ gp46 := (hXs.new gp46 (Mm.SepF.mem (i := 1) rfl (by simp [Mm.tblk]))).resolve_left (fun hh => by cases hh)
      have NJ46_fpm := Lib.hid (show ¬ gp46 ∈ fpm from fun hm => by have := rHouse.olt OM.out gp46 hm; omega)
      clear hgp46
      have HR_h := Lib.hid (rHouse.keep HR_h.out fun b hb' => hbz.block b (Nat.lt_of_lt_of_le hb' HB_h.out))
      have HB_h := Lib.hid (Nat.le_trans HB_h.out hbz.size)
      have HW0 := Lib.hid (rHouse.keep HW0.out fun b hb' => hbz.block b (Nat.lt_of_lt_of_le hb' HW0_s.out))
      have HW0_s := Lib.hid (Nat.le_trans HW0_s.out hbz.size)
      have OM := Lib.hid (rHouse.okeep OM.out fun b hb' => hbz.block b (rHouse.olt OM.out b hb'))
      have KP_h := Lib.hid (KP_h.out.bel hbz)
      have KP_s := Lib.hid (KP_s.out.bel hbz)
      have KW := Lib.hid (KW.out.bel hbz)
      have KX_h := Lib.hid (KX_h.out.bel hbz)
      have KG := Lib.hid (KG.out.bel hbz)
      have HT48 := Lib.hid (below_step HT45.out hbz)
      have HH := Lib.hid (rHouse.weak ho46 (B := X46.heap.size) (rHouse.olt ho46))
      have HH_s := Lib.hid (Nat.le_refl X46.heap.size)
      have KH := Lib.hid (show Mm.Blk X46 gp46 27 [.slice A0_q46 n0_q46 c0_q46, .slice A1_q46 n1_q46 c1_q46, .slice A2_q46 n2_q46 c2_q46] from hXs.at_ 1 rfl)
      clear ho46 hnd46 hf46 hXs hbz
      have c49_KW_0 := KW.out.cell (i := 0) rfl
      have c49_KW_1 := KW.out.cell (i := 1) rfl
      have c49_KW_2 := KW.out.cell (i := 2) rfl
      have c49_KH_0 := KH.out.cell (i := 0) rfl
      have c49_KH_1 := KH.out.cell (i := 1) rfl
      have c49_KH_2 := KH.out.cell (i := 2) rfl
      go_wp2_with fail
      refine (eqHouse_at (Pl.stepOf bo h s).1 _ _ _ _ (rHouse.more HH.out HH_s.out) (rHouse.more HW0.out HW0_s.out) (Nat.le_refl _)).mono ?_
      rintro e v50 ⟨rfl, hbz⟩
      have HR_h := Lib.hid (rHouse.keep HR_h.out fun b hb' => hbz.block b (Nat.lt_of_lt_of_le hb' HB_h.out))
      have HB_h := Lib.hid (Nat.le_trans HB_h.out hbz.size)
      have HW0 := Lib.hid (rHouse.keep HW0.out fun b hb' => hbz.block b (Nat.lt_of_lt_of_le hb' HW0_s.out))
      have HW0_s := Lib.hid (Nat.le_trans HW0_s.out hbz.size)
      have HH := Lib.hid (rHouse.keep HH.out fun b hb' => hbz.block b (Nat.lt_of_lt_of_le hb' HH_s.out))
      have HH_s := Lib.hid (Nat.le_trans HH_s.out hbz.size)
      have OM := Lib.hid (rHouse.okeep OM.out fun b hb' => hbz.block b (rHouse.olt OM.out b hb'))
      have KP_h := Lib.hid (KP_h.out.bel hbz)
      have KP_s := Lib.hid (KP_s.out.bel hbz)
      have KW := Lib.hid (KW.out.bel hbz)
      have KX_h := Lib.hid (KX_h.out.bel hbz)
      have KG := Lib.hid (KG.out.bel hbz)
      have KH := Lib.hid (KH.out.bel hbz)
      have HT51 := Lib.hid (below_step HT48.out hbz)
      clear hbz
      have c52_KG_0 := KG.out.cell (i := 0) rfl
      have c52_KG_1 := KG.out.cell (i := 1) rfl
      have c52_KG_2 := KG.out.cell (i := 2) rfl
      go_wp2_with fail
      refine (heldHouse_c (Pl.stepOf bo h s).1 _ _ _ _ (rHouse.weak OM.out (B := _) (rHouse.olt OM.out)) (Nat.le_refl _) (by omega) (by rw [HCG.out]; omega)).mono ?_
      rintro e v53 ⟨rfl, hbz⟩
      rw [HCG.out]
      have HR_h := Lib.hid (rHouse.keep HR_h.out fun b hb' => hbz.block b (Nat.lt_of_lt_of_le hb' HB_h.out))
      have HB_h := Lib.hid (Nat.le_trans HB_h.out hbz.size)
      have HW0 := Lib.hid (rHouse.keep HW0.out fun b hb' => hbz.block b (Nat.lt_of_lt_of_le hb' HW0_s.out))
      have HW0_s := Lib.hid (Nat.le_trans HW0_s.out hbz.size)
      have HH := Lib.hid (rHouse.keep HH.out fun b hb' => hbz.block b (Nat.lt_of_lt_of_le hb' HH_s.out))
      have HH_s := Lib.hid (Nat.le_trans HH_s.out hbz.size)
      have OM := Lib.hid (rHouse.okeep OM.out fun b hb' => hbz.block b (rHouse.olt OM.out b hb'))
      have KP_h := Lib.hid (KP_h.out.bel hbz)
      have KP_s := Lib.hid (KP_s.out.bel hbz)
      have KW := Lib.hid (KW.out.bel hbz)
      have KX_h := Lib.hid (KX_h.out.bel hbz)
      have KG := Lib.hid (KG.out.bel hbz)
      have KH := Lib.hid (KH.out.bel hbz)
      have HT54 := Lib.hid (below_step HT51.out hbz)
      clear hbz
      go_wp2
      go_ret
      exact ⟨rfl, HT54.out⟩
end Go.Proofs.YtbhmdnjammnlnaaGreatDoor

