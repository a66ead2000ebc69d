/-
  Joined texts, in build order: LwStepRepl, LawStepRepl. Each part says what it proves; no conditions beyond those that a part names.
-/
import Derived.Test.YtihendiakgfpcaaZ09
import Derived.Test.YtihendiakgfpcaaZ10
import Derived.Test.YtihendiakgfpcaaRows
import Derived.WalkKit
import Derived.ProofKit
import Derived.OpenShut
import Derived.ShutString
import Derived.ChangeOld
import Derived.Below
/-
  The walk of the law on StepRepl. No conditions.
-/
namespace Go.Proofs.Ytihendiakgfpcaa
open Go.RowKit
theorem cntL_le' {α : Type} {f : α → Int} {c : Int} : ∀ l : List α, (∀ x, x ∈ l → f x ≤ c) → Mm.cntL f l ≤ c * (l.length : Int)
  | [], _ => by simp [Mm.cntL]
  | x :: t, h => by
    have h1 := cntL_le' t (fun y hy => h y (List.mem_cons_of_mem _ hy))
    have h2 := h x List.mem_cons_self
    rw [Mm.cntL_cons, List.length_cons]
    have : c * ((t.length + 1 : Nat) : Int) = c * (t.length : Int) + c := by push_cast; rw [Int.mul_add, Int.mul_one]
    omega
theorem Pl.RZ.cnt {r : Repl} (h : Pl.RZ r) : Pl.ctopRepl r ≤ 50000000 := by
  have h0 : Mm.cntL (Mm.cntL Pl.cntEntry) r.Logs ≤ 200 * (r.Logs.length : Int) := cntL_le' _ (fun x hx => by
    obtain ⟨k, hk⟩ := List.mem_iff_getElem?.1 hx
    have h1 := cntL_le' (f := Pl.cntEntry) (c := 4) x (fun y _ => by unfold Pl.cntEntry; omega)
    have h2 := h.len k x hk
    omega)
  have h1 := cntL_le' (f := Pl.cnt1) (c := 1) r.Down (fun y _ => by unfold Pl.cnt1; omega)
  have h2 := cntL_le' (f := Pl.cnt1) (c := 1) r.InSync (fun y _ => by unfold Pl.cnt1; omega)
  have h3 := cntL_le' (f := Pl.cntEntry) (c := 4) r.Certain (fun y _ => by unfold Pl.cntEntry; omega)
  have := h.logs; have := h.down; have := h.sync; have := h.cert
  unfold Pl.ctopRepl
  omega
theorem zRe_sz : Pl.RZ Pl.zRe := ⟨by decide, by decide, by decide, by decide, fun k l h => by simp [Pl.zRe] at h⟩
theorem stepRepl_cnt (r : Repl) (s : ReplStep) : Pl.ctopRepl (Pl.stepRepl r s).1 ≤ 50000000 := by
  unfold Pl.stepRepl
  split
  · rename_i h
    exact (Pl.RZ.step (Pl.replOk_iff.1 h.1) s).cnt
  · exact zRe_sz.cnt
attribute [local go_sem] und_cell cha_cell World.cell?_alloc_some
def gPT_StepRepl (x : Repl) : Mm.Rel := fun _ _ v ds => ∃ (A0_p13 : Option Addr) (n0_p13 c0_p13 : Nat) (A1_p13 : Option Addr) (n1_p13 c1_p13 : Nat) (A2_p13 : Option Addr) (n2_p13 c2_p13 : Nat) (A3_p13 : Option Addr) (n3_p13 c3_p13 : Nat) (fp : List Nat), v = .agg #[.slice A0_p13 n0_p13 c0_p13, .slice A1_p13 n1_p13 c1_p13, .int .i64 x.Leader, .int .i64 x.Epoch, .slice A2_p13 n2_p13 c2_p13, .slice A3_p13 n3_p13 c3_p13] ∧ ds = [Mm.tow rRepl x [.slice A0_p13 n0_p13 c0_p13, .slice A1_p13 n1_p13 c1_p13, .int .i64 x.Leader, .int .i64 x.Epoch, .slice A2_p13 n2_p13 c2_p13, .slice A3_p13 n3_p13 c3_p13] fp]
def gPR_StepRepl (x : Repl) (b : Bool) : Mm.Rel := fun _ _ v ds => ∃ (A0_q13 : Option Addr) (n0_q13 c0_q13 : Nat) (A1_q13 : Option Addr) (n1_q13 c1_q13 : Nat) (A2_q13 : Option Addr) (n2_q13 c2_q13 : Nat) (A3_q13 : Option Addr) (n3_q13 c3_q13 : Nat) (fp : List Nat), v = .tuple #[.agg #[.slice A0_q13 n0_q13 c0_q13, .slice A1_q13 n1_q13 c1_q13, .int .i64 x.Leader, .int .i64 x.Epoch, .slice A2_q13 n2_q13 c2_q13, .slice A3_q13 n3_q13 c3_q13], .bool b] ∧ ds = [Mm.tow rRepl x [.slice A0_q13 n0_q13 c0_q13, .slice A1_q13 n1_q13 c1_q13, .int .i64 x.Leader, .int .i64 x.Epoch, .slice A2_q13 n2_q13 c2_q13, .slice A3_q13 n3_q13 c3_q13] fp]
theorem gPT_StepRepl_in {x : Repl} {vals : List Value} {tk : List Mm.Thing} : ∃ v ds, gPT_StepRepl x vals tk v ds := ⟨_, _, none, 0, 0, none, 0, 0, none, 0, 0, none, 0, 0, [], rfl, rfl⟩
theorem gPR_StepRepl_in {x : Repl} {b : Bool} {vals : List Value} {tk : List Mm.Thing} : ∃ v ds, gPR_StepRepl x b vals tk v ds := ⟨_, _, none, 0, 0, none, 0, 0, none, 0, 0, none, 0, 0, [], rfl, rfl⟩
set_option maxRecDepth 100000 in
set_option maxHeartbeats 4000000 in
theorem walk_FnExactStepRepl (cs_r : List Value) (r : Repl) (cs_s : List Value) (s : ReplStep) (w : World) (r_r : rRepl.at_ w w.heap.size r cs_r) (r_s : rReplStep.at_ w w.heap.size s cs_s) :
    Calls Try.prog 6 #[.agg cs_r.toArray, .agg cs_s.toArray] w fun e w' => e = .returned (.bool true) ∧ Below w.heap.size w w' := by
  have hopen_r := rRepl_at r_r
  obtain ⟨A0_r, n0_r, c0_r, A1_r, n1_r, c1_r, A2_r, n2_r, c2_r, A3_r, n3_r, c3_r, rfl, -⟩ := hopen_r
  have zn_r := Pl.szRepl_nn r
  obtain ⟨rfl, hmi_s⟩ := rReplStep_at r_s
  have HMI_s := Lib.hid hmi_s
  clear hmi_s
  have zn_s := Pl.szReplStep_nn s
  have HT0 := Lib.hid (show Below w.heap.size w ((w.alloc (.cells #[.slice A0_r n0_r c0_r, .slice A1_r n1_r c1_r, .int .i64 r.Leader, .int .i64 r.Epoch, .slice A2_r n2_r c2_r, .slice A3_r n3_r c3_r] 65)).alloc (.cells #[.int .i64 s.Kind, .int .i64 s.Node, .string s.Text] 66)) from (below_new (below_new (Below.refl w.heap.size w) _) _))
  have KP_r := Lib.hid (show Mm.Blk ((w.alloc (.cells #[.slice A0_r n0_r c0_r, .slice A1_r n1_r c1_r, .int .i64 r.Leader, .int .i64 r.Epoch, .slice A2_r n2_r c2_r, .slice A3_r n3_r c3_r] 65)).alloc (.cells #[.int .i64 s.Kind, .int .i64 s.Node, .string s.Text] 66)) w.heap.size 65 [.slice A0_r n0_r c0_r, .slice A1_r n1_r c1_r, .int .i64 r.Leader, .int .i64 r.Epoch, .slice A2_r n2_r c2_r, .slice A3_r n3_r c3_r] from ((Mm.Blk.new' w 65 [.slice A0_r n0_r c0_r, .slice A1_r n1_r c1_r, .int .i64 r.Leader, .int .i64 r.Epoch, .slice A2_r n2_r c2_r, .slice A3_r n3_r c3_r] rfl).alloc (.cells #[.int .i64 s.Kind, .int .i64 s.Node, .string s.Text] 66)))
  have KP_s := Lib.hid (show Mm.Blk ((w.alloc (.cells #[.slice A0_r n0_r c0_r, .slice A1_r n1_r c1_r, .int .i64 r.Leader, .int .i64 r.Epoch, .slice A2_r n2_r c2_r, .slice A3_r n3_r c3_r] 65)).alloc (.cells #[.int .i64 s.Kind, .int .i64 s.Node, .string s.Text] 66)) (w.heap.size + 1) 66 [.int .i64 s.Kind, .int .i64 s.Node, .string s.Text] from (Mm.Blk.new' (w.alloc (.cells #[.slice A0_r n0_r c0_r, .slice A1_r n1_r c1_r, .int .i64 r.Leader, .int .i64 r.Epoch, .slice A2_r n2_r c2_r, .slice A3_r n3_r c3_r] 65)) 66 [.int .i64 s.Kind, .int .i64 s.Node, .string s.Text] (Mm.sz1 _ _)))
  have HR_r := Lib.hid (rRepl.keep r_r fun b hb' => HT0.out.block b hb')
  have HB_r := Lib.hid HT0.out.size
  clear r_r r_s
  by_cases t_r : (1048576 - Pl.szRepl r : Int) < 0
  · skip
    go_enter Try.func6, Try.ntmps6
    go_wp2_with fail
    refine (szRepl_at r _ _ _ w.heap.size HR_r.out HB_r.out (by omega) (by omega)).mono ?_
    rintro e y1 ⟨rfl, hbz⟩
    rw [Pl.szRet_lt (by omega)]
    have HR_r := Lib.hid (rRepl.keep HR_r.out fun b hb' => hbz.block b (Nat.lt_of_lt_of_le hb' HB_r.out))
    have HB_r := Lib.hid (Nat.le_trans HB_r.out hbz.size)
    have KP_r := Lib.hid (KP_r.out.bel hbz)
    have KP_s := Lib.hid (KP_s.out.bel hbz)
    have HT2 := Lib.hid (below_step HT0.out hbz)
    clear hbz
    go_wp2
    go_ret
    exact ⟨rfl, HT2.out⟩
  · skip
    by_cases t_s : (1048576 - Pl.szRepl r - Pl.szReplStep s : Int) < 0
    · skip
      go_enter Try.func6, Try.ntmps6
      go_wp2_with fail
      refine (szRepl_at r _ _ _ w.heap.size HR_r.out HB_r.out (by omega) (by omega)).mono ?_
      rintro e y3 ⟨rfl, hbz⟩
      rw [Pl.szRet_ge (by omega)]
      have HR_r := Lib.hid (rRepl.keep HR_r.out fun b hb' => hbz.block b (Nat.lt_of_lt_of_le hb' HB_r.out))
      have HB_r := Lib.hid (Nat.le_trans HB_r.out hbz.size)
      have KP_r := Lib.hid (KP_r.out.bel hbz)
      have KP_s := Lib.hid (KP_s.out.bel hbz)
      have HT4 := Lib.hid (below_step HT0.out hbz)
      clear hbz
      have c6_KP_s_0 := KP_s.out.cell (i := 0) rfl
      have c6_KP_s_1 := KP_s.out.cell (i := 1) rfl
      have c6_KP_s_2 := KP_s.out.cell (i := 2) rfl
      go_wp2_with fail
      refine (szReplStep_c s _ _ 0 HMI_s.out.2.2 (Nat.zero_le _) (by omega) (by omega)).mono ?_
      rintro e y5 ⟨rfl, hbz⟩
      rw [Pl.szRet_lt (by omega)]
      have HR_r := Lib.hid (rRepl.keep HR_r.out fun b hb' => hbz.block b (Nat.lt_of_lt_of_le hb' HB_r.out))
      have HB_r := Lib.hid (Nat.le_trans HB_r.out hbz.size)
      have KP_r := Lib.hid (KP_r.out.bel hbz)
      have KP_s := Lib.hid (KP_s.out.bel hbz)
      have HT7 := Lib.hid (below_step HT4.out hbz)
      clear hbz
      go_wp2
      go_ret
      exact ⟨rfl, HT7.out⟩
    · skip
      go_enter Try.func6, Try.ntmps6
      go_wp2_with fail
      refine (szRepl_at r _ _ _ w.heap.size HR_r.out HB_r.out (by omega) (by omega)).mono ?_
      rintro e y8 ⟨rfl, hbz⟩
      rw [Pl.szRet_ge (by omega)]
      have HR_r := Lib.hid (rRepl.keep HR_r.out fun b hb' => hbz.block b (Nat.lt_of_lt_of_le hb' HB_r.out))
      have HB_r := Lib.hid (Nat.le_trans HB_r.out hbz.size)
      have KP_r := Lib.hid (KP_r.out.bel hbz)
      have KP_s := Lib.hid (KP_s.out.bel hbz)
      have HT9 := Lib.hid (below_step HT0.out hbz)
      clear hbz
      have c11_KP_s_0 := KP_s.out.cell (i := 0) rfl
      have c11_KP_s_1 := KP_s.out.cell (i := 1) rfl
      have c11_KP_s_2 := KP_s.out.cell (i := 2) rfl
      go_wp2_with fail
      refine (szReplStep_c s _ _ 0 HMI_s.out.2.2 (Nat.zero_le _) (by omega) (by omega)).mono ?_
      rintro e y10 ⟨rfl, hbz⟩
      rw [Pl.szRet_ge (by omega)]
      have HR_r := Lib.hid (rRepl.keep HR_r.out fun b hb' => hbz.block b (Nat.lt_of_lt_of_le hb' HB_r.out))
      have HB_r := Lib.hid (Nat.le_trans HB_r.out hbz.size)
      have KP_r := Lib.hid (KP_r.out.bel hbz)
      have KP_s := Lib.hid (KP_s.out.bel hbz)
      have HT12 := Lib.hid (below_step HT9.out hbz)
      clear hbz
      go_wp2_with fail
      have c14_KP_r_0 := KP_r.out.cell (i := 0) rfl
      have c14_KP_r_1 := KP_r.out.cell (i := 1) rfl
      have c14_KP_r_2 := KP_r.out.cell (i := 2) rfl
      have c14_KP_r_3 := KP_r.out.cell (i := 3) rfl
      have c14_KP_r_4 := KP_r.out.cell (i := 4) rfl
      have c14_KP_r_5 := KP_r.out.cell (i := 5) rfl
      have c14_KP_s_0 := KP_s.out.cell (i := 0) rfl
      have c14_KP_s_1 := KP_s.out.cell (i := 1) rfl
      have c14_KP_s_2 := KP_s.out.cell (i := 2) rfl
      refine Mm.wp_region_give 10 (fun i => match i with | 1 => some (gPT_StepRepl r) | 3 => some (Mm.gVal (.agg #[.int .i64 s.Kind, .int .i64 s.Node, .string s.Text])) | 4 => some (gPR_StepRepl (Pl.stepRepl r s).1 (Pl.stepRepl r s).2) | 8 => some (Mm.gPtr 31 [.slice none 0 0, .slice none 0 0, .int .i64 0, .int .i64 0, .slice none 0 0, .slice none 0 0]) | 9 => some (Mm.gSto 31) | _ => none) (fun i => match i with | 4 => [1] | 9 => [8] | _ => []) (fun _ => []) (F := []) (D := fun w' => ∃ x : Und y10, w' = und y10 x) (fun X us h => Mm.sep_und h) (by kernel_rfl) (by kernel_rfl) (by kernel_rfl) (Mm.SepF.startDrew _) ?_
      repeat (refine Mm.give_det (by rfl) (by rfl) (by rfl) (fun K hK => ?_); go_big_quiet_op; refine hK _ ?_; clear hK K)
      refine Mm.give_op0 _ (by rfl) rfl rfl (by rfl) (by rfl) (by rfl) gPT_StepRepl_in (fun others X hX => ?_) ?_
      · go_wp2_with (go_at_call 39; refine (toRepl_at r _ X w.heap.size (rRepl.keep HR_r.out fun b hb => hX.bel0.block b (Nat.lt_of_lt_of_le hb HB_r.out)) (Nat.le_trans HB_r.out hX.chg.size) (by omega)).mono ?_; rintro e w5 ⟨cs5, fp5, rfl, ho, hnd, hnew, hb5⟩; obtain ⟨A0_p13, n0_p13, c0_p13, A1_p13, n1_p13, c1_p13, A2_p13, n2_p13, c2_p13, A3_p13, n3_p13, c3_p13, _, _, _, _, rfl, -⟩ := rRepl_own ho)
        exact ⟨rfl, rfl, _, ⟨A0_p13, n0_p13, c0_p13, A1_p13, n1_p13, c1_p13, A2_p13, n2_p13, c2_p13, A3_p13, n3_p13, c3_p13, _, rfl, rfl⟩, hX.add hb5 (t := Mm.tow rRepl r _ _) ho hnd hnew⟩
      rintro v ds ⟨A0_p13, n0_p13, c0_p13, A1_p13, n1_p13, c1_p13, A2_p13, n2_p13, c2_p13, A3_p13, n3_p13, c3_p13, fpp13, rfl, rfl⟩
      simp only [Act.put, List.setIfInBounds_toArray, List.set_cons_succ, List.set_cons_zero]
      repeat (refine Mm.give_det (by rfl) (by rfl) (by rfl) (fun K hK => ?_); go_big_quiet_op; refine hK _ ?_; clear hK K)
      refine Mm.give_op0 _ (by rfl) rfl rfl (by rfl) (by rfl) (by rfl) Mm.gVal_in (fun others X hX => ?_) ?_
      · go_wp2_with (go_at_call 40; refine (toReplStep_c s X).mono ?_; rintro e w5 ⟨rfl, hb5⟩)
        exact Mm.gvq_val hX hb5 rfl rfl
      rintro v ds ⟨rfl, rfl⟩
      simp only [Act.put, List.setIfInBounds_toArray, List.set_cons_succ, List.set_cons_zero]
      repeat (refine Mm.give_det (by rfl) (by rfl) (by rfl) (fun K hK => ?_); go_big_quiet_op; refine hK _ ?_; clear hK K)
      refine Mm.give_op1 _ 1 (by rfl) rfl rfl (by rfl) (by rfl) rfl (by rfl) _ rfl gPR_StepRepl_in (fun others X hX => ?_) ?_
      · go_wp2_with (go_at_call 29; refine (specStepRepl_c r _ s _ X X.heap.size (hX.rd 0 rfl) (rReplStep.weak (rReplStep_own_mk HMI_s.out) (fun b hb => absurd hb (by simp))) (Nat.le_refl _)).mono ?_; rintro e w6 ⟨cs6, fp6, rfl, ho, hnd, hnew, hb6⟩; obtain ⟨A0_q13, n0_q13, c0_q13, A1_q13, n1_q13, c1_q13, A2_q13, n2_q13, c2_q13, A3_q13, n3_q13, c3_q13, _, _, _, _, rfl, -⟩ := rRepl_own ho)
        exact ⟨rfl, rfl, _, ⟨A0_q13, n0_q13, c0_q13, A1_q13, n1_q13, c1_q13, A2_q13, n2_q13, c2_q13, A3_q13, n3_q13, c3_q13, _, rfl, rfl⟩, (hX.tail.add hb6 (t := Mm.tow rRepl (Pl.stepRepl r s).1 _ _) ho hnd hnew)⟩
      rintro v ds ⟨A0_q13, n0_q13, c0_q13, A1_q13, n1_q13, c1_q13, A2_q13, n2_q13, c2_q13, A3_q13, n3_q13, c3_q13, fp13, rfl, rfl⟩
      simp only [Act.put, List.setIfInBounds_toArray, List.set_cons_succ, List.set_cons_zero]
      repeat (refine Mm.give_det (by rfl) (by rfl) (by rfl) (fun K hK => ?_); go_big_quiet_op; refine hK _ ?_; clear hK K)
      refine Mm.give_op0 _ (by rfl) rfl rfl (by rfl) (by rfl) (by rfl) Mm.gPtr_in (fun others X hX => ?_) ?_
      · go_wp2
        exact Mm.gvq_ptr hX rfl rfl rfl
      rintro v ds ⟨gp13, rfl, rfl⟩
      simp only [Act.put, List.setIfInBounds_toArray, List.set_cons_succ, List.set_cons_zero]
      refine Mm.give_store 31 gp13 [.slice none 0 0, .slice none 0 0, .int .i64 0, .int .i64 0, .slice none 0 0, .slice none 0 0] [.slice A0_q13 n0_q13 c0_q13, .slice A1_q13 n1_q13 c1_q13, .int .i64 (Pl.stepRepl r s).1.Leader, .int .i64 (Pl.stepRepl r s).1.Epoch, .slice A2_q13 n2_q13 c2_q13, .slice A3_q13 n3_q13 c3_q13] 8 (by rfl) rfl rfl (by rfl) rfl (by rfl) rfl rfl (fun others X hX => ?_) ?_
      · have HSR := Lib.hid hX
        have r0 := HSR.out.cell (k := 0) 0 rfl rfl
        have z0 := HSR.out.frz (k := 0) 0 rfl
        have r1 := HSR.out.cell (k := 1) 0 rfl rfl
        have z1 := HSR.out.frz (k := 1) 0 rfl
        have r2 := HSR.out.cell (k := 2) 0 rfl rfl
        have z2 := HSR.out.frz (k := 2) 0 rfl
        have r3 := HSR.out.cell (k := 3) 0 rfl rfl
        have z3 := HSR.out.frz (k := 3) 0 rfl
        have r4 := HSR.out.cell (k := 4) 0 rfl rfl
        have z4 := HSR.out.frz (k := 4) 0 rfl
        have r5 := HSR.out.cell (k := 5) 0 rfl rfl
        have z5 := HSR.out.frz (k := 5) 0 rfl
        go_wp2
        exact ⟨rfl, rfl, _, rfl, ((((((hX.setBlk (k := 0) 0 rfl (.slice A0_q13 n0_q13 c0_q13)).setBlk (k := 1) 0 rfl (.slice A1_q13 n1_q13 c1_q13)).setBlk (k := 2) 0 rfl (.int .i64 (Pl.stepRepl r s).1.Leader)).setBlk (k := 3) 0 rfl (.int .i64 (Pl.stepRepl r s).1.Epoch)).setBlk (k := 4) 0 rfl (.slice A2_q13 n2_q13 c2_q13)).setBlk (k := 5) 0 rfl (.slice A3_q13 n3_q13 c3_q13))⟩
      refine Mm.give_nil ?_
      rintro X13 hX
      have hXs : Mm.SepF [] y10 X13 [Mm.tow rRepl (Pl.stepRepl r s).1 [.slice A0_q13 n0_q13 c0_q13, .slice A1_q13 n1_q13 c1_q13, .int .i64 (Pl.stepRepl r s).1.Leader, .int .i64 (Pl.stepRepl r s).1.Epoch, .slice A2_q13 n2_q13 c2_q13, .slice A3_q13 n3_q13 c3_q13] fp13, Mm.tblk gp13 31 [.slice A0_q13 n0_q13 c0_q13, .slice A1_q13 n1_q13 c1_q13, .int .i64 (Pl.stepRepl r s).1.Leader, .int .i64 (Pl.stepRepl r s).1.Epoch, .slice A2_q13 n2_q13 c2_q13, .slice A3_q13 n3_q13 c3_q13]] := hX
      clear hX
      have hbz := hXs.bel0
      have ho13 : rRepl.own X13 (Pl.stepRepl r s).1 [.slice A0_q13 n0_q13 c0_q13, .slice A1_q13 n1_q13 c1_q13, .int .i64 (Pl.stepRepl r s).1.Leader, .int .i64 (Pl.stepRepl r s).1.Epoch, .slice A2_q13 n2_q13 c2_q13, .slice A3_q13 n3_q13 c3_q13] fp13 := hXs.at_ 0 rfl
      have hnd13 := hXs.ndat (i := 0) rfl
      have hf13 : ∀ b, b ∈ fp13 → y10.heap.size ≤ b := fun b hb' => (hXs.new b (Mm.SepF.mem (i := 0) rfl hb')).resolve_left (fun hh => by cases hh)
      have hgp13 : y10.heap.size ≤ gp13 := (hXs.new gp13 (Mm.SepF.mem (i := 1) rfl (by simp [Mm.tblk]))).resolve_left (fun hh => by cases hh)
      clear hgp13
      have HR_r := Lib.hid (rRepl.keep HR_r.out fun b hb' => hbz.block b (Nat.lt_of_lt_of_le hb' HB_r.out))
      have HB_r := Lib.hid (Nat.le_trans HB_r.out hbz.size)
      have KP_r := Lib.hid (KP_r.out.bel hbz)
      have KP_s := Lib.hid (KP_s.out.bel hbz)
      have HT15 := Lib.hid (below_step HT12.out hbz)
      have HW0 := Lib.hid (rRepl.weak ho13 (B := X13.heap.size) (rRepl.olt ho13))
      have HW0_s := Lib.hid (Nat.le_refl X13.heap.size)
      have KW := Lib.hid (show Mm.Blk X13 gp13 31 [.slice A0_q13 n0_q13 c0_q13, .slice A1_q13 n1_q13 c1_q13, .int .i64 (Pl.stepRepl r s).1.Leader, .int .i64 (Pl.stepRepl r s).1.Epoch, .slice A2_q13 n2_q13 c2_q13, .slice A3_q13 n3_q13 c3_q13] from hXs.at_ 1 rfl)
      clear ho13 hnd13 hf13 hXs hbz
      have c16_KP_r_0 := KP_r.out.cell (i := 0) rfl
      have c16_KP_r_1 := KP_r.out.cell (i := 1) rfl
      have c16_KP_r_2 := KP_r.out.cell (i := 2) rfl
      have c16_KP_r_3 := KP_r.out.cell (i := 3) rfl
      have c16_KP_r_4 := KP_r.out.cell (i := 4) rfl
      have c16_KP_r_5 := KP_r.out.cell (i := 5) rfl
      go_wp2_with fail
      refine (toRepl_at r _ _ w.heap.size HR_r.out HB_r.out (by omega)).mono ?_
      rintro e v17 ⟨cs17, fp17, rfl, ho17, hnd17, hf17, hbz⟩
      obtain ⟨A0_17, n0_17, c0_17, A1_17, n1_17, c1_17, A2_17, n2_17, c2_17, A3_17, n3_17, c3_17, _, _, _, _, rfl, -⟩ := rRepl_own ho17
      have AP17_HR_r := Lib.hid (show ∀ b, b ∈ fp17 → w.heap.size ≤ b from fun b hb' => Nat.le_trans HB_r.out (hf17 b hb'))
      have AP17_HW0 := Lib.hid (show ∀ b, b ∈ fp17 → X13.heap.size ≤ b from fun b hb' => Nat.le_trans HW0_s.out (hf17 b hb'))
      have NB17_KP_r := Lib.hid (show ¬ w.heap.size ∈ fp17 from fun hm => by have := KP_r.out.lt; have := hf17 _ hm; omega)
      have NB17_KP_s := Lib.hid (show ¬ (w.heap.size + 1) ∈ fp17 from fun hm => by have := KP_s.out.lt; have := hf17 _ hm; omega)
      have NB17_KW := Lib.hid (show ¬ gp13 ∈ fp17 from fun hm => by have := KW.out.lt; have := hf17 _ hm; omega)
      have FR17 := Lib.hid (show ∀ b, b ∈ fp17 → w.heap.size ≤ b from fun b hb' => Nat.le_trans HT15.out.size (hf17 b hb'))
      have ND17 := Lib.hid hnd17
      have LT17 := Lib.hid (show ∀ b, b ∈ fp17 → b < v17.heap.size from rRepl.olt ho17)
      have HR_r := Lib.hid (rRepl.keep HR_r.out fun b hb' => hbz.block b (Nat.lt_of_lt_of_le hb' HB_r.out))
      have HB_r := Lib.hid (Nat.le_trans HB_r.out hbz.size)
      have HW0 := Lib.hid (rRepl.keep HW0.out fun b hb' => hbz.block b (Nat.lt_of_lt_of_le hb' HW0_s.out))
      have HW0_s := Lib.hid (Nat.le_trans HW0_s.out hbz.size)
      have KP_r := Lib.hid (KP_r.out.bel hbz)
      have KP_s := Lib.hid (KP_s.out.bel hbz)
      have KW := Lib.hid (KW.out.bel hbz)
      have HT18 := Lib.hid (below_step HT15.out hbz)
      have HXx_r := Lib.hid (rRepl.weak ho17 (B := v17.heap.size) (rRepl.olt ho17))
      have HXx_r_s := Lib.hid (Nat.le_refl v17.heap.size)
      have OX_r := Lib.hid ho17
      clear ho17 hnd17 hf17
      clear hbz
      have NIKX_r_fp17 := Lib.hid (show ¬ v17.heap.size ∈ fp17 from fun hm => Nat.lt_irrefl _ (rRepl.olt OX_r.out _ hm))
      have hbx : Below v17.heap.size v17 (v17.alloc (.cells #[.slice A0_17 n0_17 c0_17, .slice A1_17 n1_17 c1_17, .int .i64 r.Leader, .int .i64 r.Epoch, .slice A2_17 n2_17 c2_17, .slice A3_17 n3_17 c3_17] 31)) := below_new (Below.refl _ _) _
      have HR_r := Lib.hid (rRepl.keep HR_r.out fun b hb' => hbx.block b (Nat.lt_of_lt_of_le hb' HB_r.out))
      have HB_r := Lib.hid (Nat.le_trans HB_r.out hbx.size)
      have HW0 := Lib.hid (rRepl.keep HW0.out fun b hb' => hbx.block b (Nat.lt_of_lt_of_le hb' HW0_s.out))
      have HW0_s := Lib.hid (Nat.le_trans HW0_s.out hbx.size)
      have HXx_r := Lib.hid (rRepl.keep HXx_r.out fun b hb' => hbx.block b (Nat.lt_of_lt_of_le hb' HXx_r_s.out))
      have HXx_r_s := Lib.hid (Nat.le_trans HXx_r_s.out hbx.size)
      have OX_r := Lib.hid (rRepl.okeep OX_r.out fun b hb' => hbx.block b (rRepl.olt OX_r.out b hb'))
      have KP_r := Lib.hid (KP_r.out.bel hbx)
      have KP_s := Lib.hid (KP_s.out.bel hbx)
      have KW := Lib.hid (KW.out.bel hbx)
      have HT19 := Lib.hid (below_step HT18.out hbx)
      clear hbx
      have KX_r := Lib.hid (Mm.Blk.new v17 31 [.slice A0_17 n0_17 c0_17, .slice A1_17 n1_17 c1_17, .int .i64 r.Leader, .int .i64 r.Epoch, .slice A2_17 n2_17 c2_17, .slice A3_17 n3_17 c3_17])
      have c20_KX_r_0 := KX_r.out.cell (i := 0) rfl
      have c20_KX_r_1 := KX_r.out.cell (i := 1) rfl
      have c20_KX_r_2 := KX_r.out.cell (i := 2) rfl
      have c20_KX_r_3 := KX_r.out.cell (i := 3) rfl
      have c20_KX_r_4 := KX_r.out.cell (i := 4) rfl
      have c20_KX_r_5 := KX_r.out.cell (i := 5) rfl
      go_wp2_with fail
      obtain ⟨W21, hW21⟩ : ∃ W21, (v17.alloc (.cells #[.slice A0_17 n0_17 c0_17, .slice A1_17 n1_17 c1_17, .int .i64 r.Leader, .int .i64 r.Epoch, .slice A2_17 n2_17 c2_17, .slice A3_17 n3_17 c3_17] 31)) = W21 := ⟨_, rfl⟩
      try rw [hW21] at HT19
      try rw [hW21] at HR_r
      try rw [hW21] at HW0
      try rw [hW21] at HXx_r
      try rw [hW21] at HB_r
      try rw [hW21] at HW0_s
      try rw [hW21] at HXx_r_s
      try rw [hW21] at OX_r
      try rw [hW21] at KP_r
      try rw [hW21] at KP_s
      try rw [hW21] at KW
      try rw [hW21] at KX_r
      rw [hW21]
      clear hW21
      have c22_KP_s_0 := KP_s.out.cell (i := 0) rfl
      have c22_KP_s_1 := KP_s.out.cell (i := 1) rfl
      have c22_KP_s_2 := KP_s.out.cell (i := 2) rfl
      have c22_KX_r_0 := KX_r.out.cell (i := 0) rfl
      have c22_KX_r_1 := KX_r.out.cell (i := 1) rfl
      have c22_KX_r_2 := KX_r.out.cell (i := 2) rfl
      have c22_KX_r_3 := KX_r.out.cell (i := 3) rfl
      have c22_KX_r_4 := KX_r.out.cell (i := 4) rfl
      have c22_KX_r_5 := KX_r.out.cell (i := 5) rfl
      refine Mm.wp_region_give 9 (fun i => match i with | 2 => some (Mm.gVal (.agg #[.int .i64 s.Kind, .int .i64 s.Node, .string s.Text])) | 3 => some (gPR_StepRepl (Pl.stepRepl r s).1 (Pl.stepRepl r s).2) | 7 => some (Mm.gPtr 31 [.slice none 0 0, .slice none 0 0, .int .i64 0, .int .i64 0, .slice none 0 0, .slice none 0 0]) | 8 => some (Mm.gSto 31) | _ => none) (fun i => match i with | 8 => [7] | _ => []) (fun _ => []) (F := []) (D := fun w' => ∃ x : Und W21, w' = und W21 x) (fun X us h => Mm.sep_und h) (by kernel_rfl) (by kernel_rfl) (by kernel_rfl) (Mm.SepF.startDrew _) ?_
      repeat (refine Mm.give_det (by rfl) (by rfl) (by rfl) (fun K hK => ?_); go_big_quiet_op; refine hK _ ?_; clear hK K)
      refine Mm.give_op0 _ (by rfl) rfl rfl (by rfl) (by rfl) (by rfl) Mm.gVal_in (fun others X hX => ?_) ?_
      · go_wp2_with (go_at_call 40; refine (toReplStep_c s X).mono ?_; rintro e w5 ⟨rfl, hb5⟩)
        exact Mm.gvq_val hX hb5 rfl rfl
      rintro v ds ⟨rfl, rfl⟩
      simp only [Act.put, List.setIfInBounds_toArray, List.set_cons_succ, List.set_cons_zero]
      repeat (refine Mm.give_det (by rfl) (by rfl) (by rfl) (fun K hK => ?_); go_big_quiet_op; refine hK _ ?_; clear hK K)
      refine Mm.give_op0 _ (by rfl) rfl rfl (by rfl) (by rfl) (by rfl) gPR_StepRepl_in (fun others X hX => ?_) ?_
      · go_wp2_with (go_at_call 28; refine (implStepRepl_c r _ s _ X W21.heap.size (rRepl.keep (rRepl.more HXx_r.out HXx_r_s.out) fun b hb => hX.bel0.block b hb) (rReplStep.weak (rReplStep_own_mk HMI_s.out) (fun b hb => absurd hb (by simp))) hX.chg.size).mono ?_; rintro e w6 ⟨cs6, fp6, rfl, ho, hnd, hnew, hb6⟩; obtain ⟨A0_q21, n0_q21, c0_q21, A1_q21, n1_q21, c1_q21, A2_q21, n2_q21, c2_q21, A3_q21, n3_q21, c3_q21, _, _, _, _, rfl, -⟩ := rRepl_own ho)
        exact ⟨rfl, rfl, _, ⟨A0_q21, n0_q21, c0_q21, A1_q21, n1_q21, c1_q21, A2_q21, n2_q21, c2_q21, A3_q21, n3_q21, c3_q21, _, rfl, rfl⟩, (hX.add hb6 (t := Mm.tow rRepl (Pl.stepRepl r s).1 _ _) ho hnd hnew)⟩
      rintro v ds ⟨A0_q21, n0_q21, c0_q21, A1_q21, n1_q21, c1_q21, A2_q21, n2_q21, c2_q21, A3_q21, n3_q21, c3_q21, fp21, rfl, rfl⟩
      simp only [Act.put, List.setIfInBounds_toArray, List.set_cons_succ, List.set_cons_zero]
      repeat (refine Mm.give_det (by rfl) (by rfl) (by rfl) (fun K hK => ?_); go_big_quiet_op; refine hK _ ?_; clear hK K)
      refine Mm.give_op0 _ (by rfl) rfl rfl (by rfl) (by rfl) (by rfl) Mm.gPtr_in (fun others X hX => ?_) ?_
      · go_wp2
        exact Mm.gvq_ptr hX rfl rfl rfl
      rintro v ds ⟨gp21, rfl, rfl⟩
      simp only [Act.put, List.setIfInBounds_toArray, List.set_cons_succ, List.set_cons_zero]
      refine Mm.give_store 31 gp21 [.slice none 0 0, .slice none 0 0, .int .i64 0, .int .i64 0, .slice none 0 0, .slice none 0 0] [.slice A0_q21 n0_q21 c0_q21, .slice A1_q21 n1_q21 c1_q21, .int .i64 (Pl.stepRepl r s).1.Leader, .int .i64 (Pl.stepRepl r s).1.Epoch, .slice A2_q21 n2_q21 c2_q21, .slice A3_q21 n3_q21 c3_q21] 7 (by rfl) rfl rfl (by rfl) rfl (by rfl) rfl rfl (fun others X hX => ?_) ?_
      · have HSR := Lib.hid hX
        have r0 := HSR.out.cell (k := 0) 0 rfl rfl
        have z0 := HSR.out.frz (k := 0) 0 rfl
        have r1 := HSR.out.cell (k := 1) 0 rfl rfl
        have z1 := HSR.out.frz (k := 1) 0 rfl
        have r2 := HSR.out.cell (k := 2) 0 rfl rfl
        have z2 := HSR.out.frz (k := 2) 0 rfl
        have r3 := HSR.out.cell (k := 3) 0 rfl rfl
        have z3 := HSR.out.frz (k := 3) 0 rfl
        have r4 := HSR.out.cell (k := 4) 0 rfl rfl
        have z4 := HSR.out.frz (k := 4) 0 rfl
        have r5 := HSR.out.cell (k := 5) 0 rfl rfl
        have z5 := HSR.out.frz (k := 5) 0 rfl
        go_wp2
        exact ⟨rfl, rfl, _, rfl, ((((((hX.setBlk (k := 0) 0 rfl (.slice A0_q21 n0_q21 c0_q21)).setBlk (k := 1) 0 rfl (.slice A1_q21 n1_q21 c1_q21)).setBlk (k := 2) 0 rfl (.int .i64 (Pl.stepRepl r s).1.Leader)).setBlk (k := 3) 0 rfl (.int .i64 (Pl.stepRepl r s).1.Epoch)).setBlk (k := 4) 0 rfl (.slice A2_q21 n2_q21 c2_q21)).setBlk (k := 5) 0 rfl (.slice A3_q21 n3_q21 c3_q21))⟩
      refine Mm.give_nil ?_
      rintro X21 hX
      have hXs : Mm.SepF [] W21 X21 [Mm.tow rRepl (Pl.stepRepl r s).1 [.slice A0_q21 n0_q21 c0_q21, .slice A1_q21 n1_q21 c1_q21, .int .i64 (Pl.stepRepl r s).1.Leader, .int .i64 (Pl.stepRepl r s).1.Epoch, .slice A2_q21 n2_q21 c2_q21, .slice A3_q21 n3_q21 c3_q21] fp21, Mm.tblk gp21 31 [.slice A0_q21 n0_q21 c0_q21, .slice A1_q21 n1_q21 c1_q21, .int .i64 (Pl.stepRepl r s).1.Leader, .int .i64 (Pl.stepRepl r s).1.Epoch, .slice A2_q21 n2_q21 c2_q21, .slice A3_q21 n3_q21 c3_q21]] := hX
      clear hX
      have hbz := hXs.bel0
      have ho21 : rRepl.own X21 (Pl.stepRepl r s).1 [.slice A0_q21 n0_q21 c0_q21, .slice A1_q21 n1_q21 c1_q21, .int .i64 (Pl.stepRepl r s).1.Leader, .int .i64 (Pl.stepRepl r s).1.Epoch, .slice A2_q21 n2_q21 c2_q21, .slice A3_q21 n3_q21 c3_q21] fp21 := hXs.at_ 0 rfl
      have hnd21 := hXs.ndat (i := 0) rfl
      have hf21 : ∀ b, b ∈ fp21 → W21.heap.size ≤ b := fun b hb' => (hXs.new b (Mm.SepF.mem (i := 0) rfl hb')).resolve_left (fun hh => by cases hh)
      have hgp21 : W21.heap.size ≤ gp21 := (hXs.new gp21 (Mm.SepF.mem (i := 1) rfl (by simp [Mm.tblk]))).resolve_left (fun hh => by cases hh)
      have NJ21_fp17 := Lib.hid (show ¬ gp21 ∈ fp17 from fun hm => by have := rRepl.olt OX_r.out gp21 hm; omega)
      clear hgp21
      have AP21_HR_r := Lib.hid (show ∀ b, b ∈ fp21 → w.heap.size ≤ b from fun b hb' => Nat.le_trans HB_r.out (hf21 b hb'))
      have AP21_HW0 := Lib.hid (show ∀ b, b ∈ fp21 → X13.heap.size ≤ b from fun b hb' => Nat.le_trans HW0_s.out (hf21 b hb'))
      have AP21_HXx_r := Lib.hid (show ∀ b, b ∈ fp21 → v17.heap.size ≤ b from fun b hb' => Nat.le_trans HXx_r_s.out (hf21 b hb'))
      have DP21_OX_r := Lib.hid (show ∀ b, b ∈ fp21 → b ∉ fp17 from fun b hb' hm => by have := rRepl.olt OX_r.out b hm; have := hf21 b hb'; omega)
      have NB21_KP_r := Lib.hid (show ¬ w.heap.size ∈ fp21 from fun hm => by have := KP_r.out.lt; have := hf21 _ hm; omega)
      have NB21_KP_s := Lib.hid (show ¬ (w.heap.size + 1) ∈ fp21 from fun hm => by have := KP_s.out.lt; have := hf21 _ hm; omega)
      have NB21_KW := Lib.hid (show ¬ gp13 ∈ fp21 from fun hm => by have := KW.out.lt; have := hf21 _ hm; omega)
      have NB21_KX_r := Lib.hid (show ¬ v17.heap.size ∈ fp21 from fun hm => by have := KX_r.out.lt; have := hf21 _ hm; omega)
      have FR21 := Lib.hid (show ∀ b, b ∈ fp21 → w.heap.size ≤ b from fun b hb' => Nat.le_trans HT19.out.size (hf21 b hb'))
      have ND21 := Lib.hid hnd21
      have LT21 := Lib.hid (show ∀ b, b ∈ fp21 → b < X21.heap.size from rRepl.olt ho21)
      have HR_r := Lib.hid (rRepl.keep HR_r.out fun b hb' => hbz.block b (Nat.lt_of_lt_of_le hb' HB_r.out))
      have HB_r := Lib.hid (Nat.le_trans HB_r.out hbz.size)
      have HW0 := Lib.hid (rRepl.keep HW0.out fun b hb' => hbz.block b (Nat.lt_of_lt_of_le hb' HW0_s.out))
      have HW0_s := Lib.hid (Nat.le_trans HW0_s.out hbz.size)
      have HXx_r := Lib.hid (rRepl.keep HXx_r.out fun b hb' => hbz.block b (Nat.lt_of_lt_of_le hb' HXx_r_s.out))
      have HXx_r_s := Lib.hid (Nat.le_trans HXx_r_s.out hbz.size)
      have OX_r := Lib.hid (rRepl.okeep OX_r.out fun b hb' => hbz.block b (rRepl.olt OX_r.out b hb'))
      have KP_r := Lib.hid (KP_r.out.bel hbz)
      have KP_s := Lib.hid (KP_s.out.bel hbz)
      have KW := Lib.hid (KW.out.bel hbz)
      have KX_r := Lib.hid (KX_r.out.bel hbz)
      have HT23 := Lib.hid (below_step HT19.out hbz)
      have OG := Lib.hid ho21
      have KG := Lib.hid (show Mm.Blk X21 gp21 31 [.slice A0_q21 n0_q21 c0_q21, .slice A1_q21 n1_q21 c1_q21, .int .i64 (Pl.stepRepl r s).1.Leader, .int .i64 (Pl.stepRepl r s).1.Epoch, .slice A2_q21 n2_q21 c2_q21, .slice A3_q21 n3_q21 c3_q21] from hXs.at_ 1 rfl)
      have NIKG := Lib.hid (show ¬ gp21 ∈ fp21 from fun hm => hXs.apart (i := 1) (j := 0) rfl rfl (by decide) _ (by simp [Mm.tblk]) hm)
      clear ho21 hnd21 hf21 hXs hbz
      have c24_KP_r_0 := KP_r.out.cell (i := 0) rfl
      have c24_KP_r_1 := KP_r.out.cell (i := 1) rfl
      have c24_KP_r_2 := KP_r.out.cell (i := 2) rfl
      have c24_KP_r_3 := KP_r.out.cell (i := 3) rfl
      have c24_KP_r_4 := KP_r.out.cell (i := 4) rfl
      have c24_KP_r_5 := KP_r.out.cell (i := 5) rfl
      have c24_KP_s_0 := KP_s.out.cell (i := 0) rfl
      have c24_KP_s_1 := KP_s.out.cell (i := 1) rfl
      have c24_KP_s_2 := KP_s.out.cell (i := 2) rfl
      have c24_KW_0 := KW.out.cell (i := 0) rfl
      have c24_KW_1 := KW.out.cell (i := 1) rfl
      have c24_KW_2 := KW.out.cell (i := 2) rfl
      have c24_KW_3 := KW.out.cell (i := 3) rfl
      have c24_KW_4 := KW.out.cell (i := 4) rfl
      have c24_KW_5 := KW.out.cell (i := 5) rfl
      have c24_KX_r_0 := KX_r.out.cell (i := 0) rfl
      have c24_KX_r_1 := KX_r.out.cell (i := 1) rfl
      have c24_KX_r_2 := KX_r.out.cell (i := 2) rfl
      have c24_KX_r_3 := KX_r.out.cell (i := 3) rfl
      have c24_KX_r_4 := KX_r.out.cell (i := 4) rfl
      have c24_KX_r_5 := KX_r.out.cell (i := 5) rfl
      have c24_KG_0 := KG.out.cell (i := 0) rfl
      have c24_KG_1 := KG.out.cell (i := 1) rfl
      have c24_KG_2 := KG.out.cell (i := 2) rfl
      have c24_KG_3 := KG.out.cell (i := 3) rfl
      have c24_KG_4 := KG.out.cell (i := 4) rfl
      have c24_KG_5 := KG.out.cell (i := 5) rfl
      go_wp2_with fail
      refine (eqRepl_at (Pl.stepRepl r s).1 _ _ _ _ (rRepl.weak OG.out (B := _) (rRepl.olt OG.out)) (rRepl.more HW0.out HW0_s.out) (Nat.le_refl _)).mono ?_
      rintro e v25 ⟨rfl, hbz⟩
      have HR_r := Lib.hid (rRepl.keep HR_r.out fun b hb' => hbz.block b (Nat.lt_of_lt_of_le hb' HB_r.out))
      have HB_r := Lib.hid (Nat.le_trans HB_r.out hbz.size)
      have HW0 := Lib.hid (rRepl.keep HW0.out fun b hb' => hbz.block b (Nat.lt_of_lt_of_le hb' HW0_s.out))
      have HW0_s := Lib.hid (Nat.le_trans HW0_s.out hbz.size)
      have HXx_r := Lib.hid (rRepl.keep HXx_r.out fun b hb' => hbz.block b (Nat.lt_of_lt_of_le hb' HXx_r_s.out))
      have HXx_r_s := Lib.hid (Nat.le_trans HXx_r_s.out hbz.size)
      have OX_r := Lib.hid (rRepl.okeep OX_r.out fun b hb' => hbz.block b (rRepl.olt OX_r.out b hb'))
      have OG := Lib.hid (rRepl.okeep OG.out fun b hb' => hbz.block b (rRepl.olt OG.out b hb'))
      have KP_r := Lib.hid (KP_r.out.bel hbz)
      have KP_s := Lib.hid (KP_s.out.bel hbz)
      have KW := Lib.hid (KW.out.bel hbz)
      have KX_r := Lib.hid (KX_r.out.bel hbz)
      have KG := Lib.hid (KG.out.bel hbz)
      have HT26 := Lib.hid (below_step HT23.out hbz)
      clear hbz
      have c27_KP_r_0 := KP_r.out.cell (i := 0) rfl
      have c27_KP_r_1 := KP_r.out.cell (i := 1) rfl
      have c27_KP_r_2 := KP_r.out.cell (i := 2) rfl
      have c27_KP_r_3 := KP_r.out.cell (i := 3) rfl
      have c27_KP_r_4 := KP_r.out.cell (i := 4) rfl
      have c27_KP_r_5 := KP_r.out.cell (i := 5) rfl
      have c27_KX_r_0 := KX_r.out.cell (i := 0) rfl
      have c27_KX_r_1 := KX_r.out.cell (i := 1) rfl
      have c27_KX_r_2 := KX_r.out.cell (i := 2) rfl
      have c27_KX_r_3 := KX_r.out.cell (i := 3) rfl
      have c27_KX_r_4 := KX_r.out.cell (i := 4) rfl
      have c27_KX_r_5 := KX_r.out.cell (i := 5) rfl
      go_wp2_with fail
      have hdr := (Below.refl v25.heap.size v25).drew
      have HR_r := Lib.hid (rRepl.keep HR_r.out fun b hb' => hdr.block b (Nat.lt_of_lt_of_le hb' HB_r.out))
      have HB_r := Lib.hid (Nat.le_trans HB_r.out hdr.size)
      have HW0 := Lib.hid (rRepl.keep HW0.out fun b hb' => hdr.block b (Nat.lt_of_lt_of_le hb' HW0_s.out))
      have HW0_s := Lib.hid (Nat.le_trans HW0_s.out hdr.size)
      have HXx_r := Lib.hid (rRepl.keep HXx_r.out fun b hb' => hdr.block b (Nat.lt_of_lt_of_le hb' HXx_r_s.out))
      have HXx_r_s := Lib.hid (Nat.le_trans HXx_r_s.out hdr.size)
      have OX_r := Lib.hid (rRepl.okeep OX_r.out fun b hb' => hdr.block b (rRepl.olt OX_r.out b hb'))
      have OG := Lib.hid (rRepl.okeep OG.out fun b hb' => hdr.block b (rRepl.olt OG.out b hb'))
      have KP_r := Lib.hid (KP_r.out.bel hdr)
      have KP_s := Lib.hid (KP_s.out.bel hdr)
      have KW := Lib.hid (KW.out.bel hdr)
      have KX_r := Lib.hid (KX_r.out.bel hdr)
      have KG := Lib.hid (KG.out.bel hdr)
      have HT28 := Lib.hid (below_step HT26.out hdr)
      clear hdr
      have c29_KP_r_0 := KP_r.out.cell (i := 0) rfl
      have c29_KP_r_1 := KP_r.out.cell (i := 1) rfl
      have c29_KP_r_2 := KP_r.out.cell (i := 2) rfl
      have c29_KP_r_3 := KP_r.out.cell (i := 3) rfl
      have c29_KP_r_4 := KP_r.out.cell (i := 4) rfl
      have c29_KP_r_5 := KP_r.out.cell (i := 5) rfl
      have c29_KX_r_0 := KX_r.out.cell (i := 0) rfl
      have c29_KX_r_1 := KX_r.out.cell (i := 1) rfl
      have c29_KX_r_2 := KX_r.out.cell (i := 2) rfl
      have c29_KX_r_3 := KX_r.out.cell (i := 3) rfl
      have c29_KX_r_4 := KX_r.out.cell (i := 4) rfl
      have c29_KX_r_5 := KX_r.out.cell (i := 5) rfl
      go_region_held3 (fun wx => wx.cell? ⟨w.heap.size, 0, none⟩ = some (.slice A0_r n0_r c0_r) ∧ wx.cell? ⟨w.heap.size, 1, none⟩ = some (.slice A1_r n1_r c1_r) ∧ wx.cell? ⟨w.heap.size, 2, none⟩ = some (.int .i64 r.Leader) ∧ wx.cell? ⟨w.heap.size, 3, none⟩ = some (.int .i64 r.Epoch) ∧ wx.cell? ⟨w.heap.size, 4, none⟩ = some (.slice A2_r n2_r c2_r) ∧ wx.cell? ⟨w.heap.size, 5, none⟩ = some (.slice A3_r n3_r c3_r) ∧ wx.cell? ⟨v17.heap.size, 0, none⟩ = some (.slice A0_17 n0_17 c0_17) ∧ wx.cell? ⟨v17.heap.size, 1, none⟩ = some (.slice A1_17 n1_17 c1_17) ∧ wx.cell? ⟨v17.heap.size, 2, none⟩ = some (.int .i64 r.Leader) ∧ wx.cell? ⟨v17.heap.size, 3, none⟩ = some (.int .i64 r.Epoch) ∧ wx.cell? ⟨v17.heap.size, 4, none⟩ = some (.slice A2_17 n2_17 c2_17) ∧ wx.cell? ⟨v17.heap.size, 5, none⟩ = some (.slice A3_17 n3_17 c3_17))
        (first | (go_keep; done) | ((try dsimp only); go_split_ands; refine ⟨?_, ?_, ?_, ?_, ?_, ?_, ?_, ?_, ?_, ?_, ?_, ?_⟩ <;> first | (exact below_some hbz (by assumption)) | (exact (KP_r.out.alloc _).cell (i := 0) rfl) | (exact (KP_r.out.alloc _).cell (i := 1) rfl) | (exact (KP_r.out.alloc _).cell (i := 2) rfl) | (exact (KP_r.out.alloc _).cell (i := 3) rfl) | (exact (KP_r.out.alloc _).cell (i := 4) rfl) | (exact (KP_r.out.alloc _).cell (i := 5) rfl) | (exact (KX_r.out.alloc _).cell (i := 0) rfl) | (exact (KX_r.out.alloc _).cell (i := 1) rfl) | (exact (KX_r.out.alloc _).cell (i := 2) rfl) | (exact (KX_r.out.alloc _).cell (i := 3) rfl) | (exact (KX_r.out.alloc _).cell (i := 4) rfl) | (exact (KX_r.out.alloc _).cell (i := 5) rfl) | (go_keep; done) | (simp [World.cell?_alloc_some, World.cell?_setCell_far, *]; done)))
        (first
          | (go_at_call 39; (with_reducible refine (toRepl_at r _ _ w.heap.size HR_r.out HB_r.out (by omega)).mono ?_); rintro e v30 ⟨cs30, fp30, rfl, ho30, hnd30, hf30, hbz⟩; obtain ⟨A0_30, n0_30, c0_30, A1_30, n1_30, c1_30, A2_30, n2_30, c2_30, A3_30, n3_30, c3_30, _, _, _, _, rfl, -⟩ := rRepl_own ho30; (have HR_r := Lib.hid (rRepl.keep HR_r.out fun b hb' => hbz.block b (Nat.lt_of_lt_of_le hb' HB_r.out))); (have HB_r := Lib.hid (Nat.le_trans HB_r.out hbz.size)); (have HW0 := Lib.hid (rRepl.keep HW0.out fun b hb' => hbz.block b (Nat.lt_of_lt_of_le hb' HW0_s.out))); (have HW0_s := Lib.hid (Nat.le_trans HW0_s.out hbz.size)); (have HXx_r := Lib.hid (rRepl.keep HXx_r.out fun b hb' => hbz.block b (Nat.lt_of_lt_of_le hb' HXx_r_s.out))); (have HXx_r_s := Lib.hid (Nat.le_trans HXx_r_s.out hbz.size)); (have OX_r := Lib.hid (rRepl.okeep OX_r.out fun b hb' => hbz.block b (rRepl.olt OX_r.out b hb'))); (have OG := Lib.hid (rRepl.okeep OG.out fun b hb' => hbz.block b (rRepl.olt OG.out b hb'))); (have KP_r := Lib.hid (KP_r.out.bel hbz)); (have KP_s := Lib.hid (KP_s.out.bel hbz)); (have KW := Lib.hid (KW.out.bel hbz)); (have KX_r := Lib.hid (KX_r.out.bel hbz)); (have KG := Lib.hid (KG.out.bel hbz)); (have HT31 := Lib.hid (below_step HT28.out hbz)); (have HXz_r := Lib.hid (rRepl.weak ho30 (B := v30.heap.size) (rRepl.olt ho30))); (have HXz_r_s := Lib.hid (Nat.le_refl v30.heap.size)); clear ho30 hnd30 hf30)
          | (go_at_call 19; (with_reducible refine (eqRepl_at r _ _ _ v30.heap.size (rRepl.more HXx_r.out HXx_r_s.out) HXz_r.out (Nat.le_refl _)).mono ?_); rintro e v32 ⟨rfl, hbz⟩; (have HR_r := Lib.hid (rRepl.keep HR_r.out fun b hb' => hbz.block b (Nat.lt_of_lt_of_le hb' HB_r.out))); (have HB_r := Lib.hid (Nat.le_trans HB_r.out hbz.size)); (have HW0 := Lib.hid (rRepl.keep HW0.out fun b hb' => hbz.block b (Nat.lt_of_lt_of_le hb' HW0_s.out))); (have HW0_s := Lib.hid (Nat.le_trans HW0_s.out hbz.size)); (have HXx_r := Lib.hid (rRepl.keep HXx_r.out fun b hb' => hbz.block b (Nat.lt_of_lt_of_le hb' HXx_r_s.out))); (have HXx_r_s := Lib.hid (Nat.le_trans HXx_r_s.out hbz.size)); (have HXz_r := Lib.hid (rRepl.keep HXz_r.out fun b hb' => hbz.block b (Nat.lt_of_lt_of_le hb' HXz_r_s.out))); (have HXz_r_s := Lib.hid (Nat.le_trans HXz_r_s.out hbz.size)); (have OX_r := Lib.hid (rRepl.okeep OX_r.out fun b hb' => hbz.block b (rRepl.olt OX_r.out b hb'))); (have OG := Lib.hid (rRepl.okeep OG.out fun b hb' => hbz.block b (rRepl.olt OG.out b hb'))); (have KP_r := Lib.hid (KP_r.out.bel hbz)); (have KP_s := Lib.hid (KP_s.out.bel hbz)); (have KW := Lib.hid (KW.out.bel hbz)); (have KX_r := Lib.hid (KX_r.out.bel hbz)); (have KG := Lib.hid (KG.out.bel hbz)); (have HT33 := Lib.hid (below_step HT31.out hbz))))
      clear hbz
      have hcn_r := Pl.ctopRepl_nn r
      have hcb_r : Pl.ctopRepl r ≤ 50000000 := by have := Pl.ctopbRepl r; omega
      have c35_KX_r_0 := KX_r.out.cell (i := 0) rfl
      have c35_KX_r_1 := KX_r.out.cell (i := 1) rfl
      have c35_KX_r_2 := KX_r.out.cell (i := 2) rfl
      have c35_KX_r_3 := KX_r.out.cell (i := 3) rfl
      have c35_KX_r_4 := KX_r.out.cell (i := 4) rfl
      have c35_KX_r_5 := KX_r.out.cell (i := 5) rfl
      go_wp2_with fail
      refine (markRepl_c r _ _ _ _ OX_r.out ND17.out (by omega) (by omega)).mono ?_
      rintro e v34 ⟨rfl, hch, -⟩
      have HR_r := Lib.hid (rRepl.keep HR_r.out fun b hb' => hch.block b (Nat.lt_of_lt_of_le hb' HB_r.out) (fun hm => by have := AP17_HR_r.out b hm; omega))
      have HB_r := Lib.hid (Nat.le_trans HB_r.out hch.size)
      have HW0 := Lib.hid (rRepl.keep HW0.out fun b hb' => hch.block b (Nat.lt_of_lt_of_le hb' HW0_s.out) (fun hm => by have := AP17_HW0.out b hm; omega))
      have HW0_s := Lib.hid (Nat.le_trans HW0_s.out hch.size)
      have OG := Lib.hid (rRepl.okeep OG.out fun b hb' => hch.block b (rRepl.olt OG.out b hb') (fun hm => DP21_OX_r.out b hb' hm))
      have KP_r := Lib.hid (KP_r.out.keep (hch.block _ KP_r.out.lt (NB17_KP_r.out)))
      have KP_s := Lib.hid (KP_s.out.keep (hch.block _ KP_s.out.lt (NB17_KP_s.out)))
      have KW := Lib.hid (KW.out.keep (hch.block _ KW.out.lt (NB17_KW.out)))
      have KX_r := Lib.hid (KX_r.out.keep (hch.block _ KX_r.out.lt (NIKX_r_fp17.out)))
      have KG := Lib.hid (KG.out.keep (hch.block _ KG.out.lt (NJ21_fp17.out)))
      have HT36 := Lib.hid (Mm.Below.chg HT33.out hch HT33.out.size FR17.out)
      clear hch
      have c37_KP_r_0 := KP_r.out.cell (i := 0) rfl
      have c37_KP_r_1 := KP_r.out.cell (i := 1) rfl
      have c37_KP_r_2 := KP_r.out.cell (i := 2) rfl
      have c37_KP_r_3 := KP_r.out.cell (i := 3) rfl
      have c37_KP_r_4 := KP_r.out.cell (i := 4) rfl
      have c37_KP_r_5 := KP_r.out.cell (i := 5) rfl
      have c37_KP_s_0 := KP_s.out.cell (i := 0) rfl
      have c37_KP_s_1 := KP_s.out.cell (i := 1) rfl
      have c37_KP_s_2 := KP_s.out.cell (i := 2) rfl
      have c37_KW_0 := KW.out.cell (i := 0) rfl
      have c37_KW_1 := KW.out.cell (i := 1) rfl
      have c37_KW_2 := KW.out.cell (i := 2) rfl
      have c37_KW_3 := KW.out.cell (i := 3) rfl
      have c37_KW_4 := KW.out.cell (i := 4) rfl
      have c37_KW_5 := KW.out.cell (i := 5) rfl
      have c37_KX_r_0 := KX_r.out.cell (i := 0) rfl
      have c37_KX_r_1 := KX_r.out.cell (i := 1) rfl
      have c37_KX_r_2 := KX_r.out.cell (i := 2) rfl
      have c37_KX_r_3 := KX_r.out.cell (i := 3) rfl
      have c37_KX_r_4 := KX_r.out.cell (i := 4) rfl
      have c37_KX_r_5 := KX_r.out.cell (i := 5) rfl
      have c37_KG_0 := KG.out.cell (i := 0) rfl
      have c37_KG_1 := KG.out.cell (i := 1) rfl
      have c37_KG_2 := KG.out.cell (i := 2) rfl
      have c37_KG_3 := KG.out.cell (i := 3) rfl
      have c37_KG_4 := KG.out.cell (i := 4) rfl
      have c37_KG_5 := KG.out.cell (i := 5) rfl
      go_wp2_with fail
      refine (eqRepl_at (Pl.stepRepl r s).1 _ _ _ _ (rRepl.weak OG.out (B := _) (rRepl.olt OG.out)) (rRepl.more HW0.out HW0_s.out) (Nat.le_refl _)).mono ?_
      rintro e v38 ⟨rfl, hbz⟩
      have HR_r := Lib.hid (rRepl.keep HR_r.out fun b hb' => hbz.block b (Nat.lt_of_lt_of_le hb' HB_r.out))
      have HB_r := Lib.hid (Nat.le_trans HB_r.out hbz.size)
      have HW0 := Lib.hid (rRepl.keep HW0.out fun b hb' => hbz.block b (Nat.lt_of_lt_of_le hb' HW0_s.out))
      have HW0_s := Lib.hid (Nat.le_trans HW0_s.out hbz.size)
      have OG := Lib.hid (rRepl.okeep OG.out fun b hb' => hbz.block b (rRepl.olt OG.out b hb'))
      have KP_r := Lib.hid (KP_r.out.bel hbz)
      have KP_s := Lib.hid (KP_s.out.bel hbz)
      have KW := Lib.hid (KW.out.bel hbz)
      have KX_r := Lib.hid (KX_r.out.bel hbz)
      have KG := Lib.hid (KG.out.bel hbz)
      have HT39 := Lib.hid (below_step HT36.out hbz)
      clear hbz
      have hcg : 0 ≤ Pl.ctopRepl (Pl.stepRepl r s).1 := Pl.ctopRepl_nn (Pl.stepRepl r s).1
      have hcgb : Pl.ctopRepl (Pl.stepRepl r s).1 ≤ 50000000 := (stepRepl_cnt r s)
      obtain ⟨cg, hcge⟩ : ∃ z, Pl.ctopRepl (Pl.stepRepl r s).1 = z := ⟨_, rfl⟩
      rw [hcge] at hcg hcgb
      have HCG := Lib.hid hcge
      clear hcge
      have c40_KG_0 := KG.out.cell (i := 0) rfl
      have c40_KG_1 := KG.out.cell (i := 1) rfl
      have c40_KG_2 := KG.out.cell (i := 2) rfl
      have c40_KG_3 := KG.out.cell (i := 3) rfl
      have c40_KG_4 := KG.out.cell (i := 4) rfl
      have c40_KG_5 := KG.out.cell (i := 5) rfl
      go_wp2_with fail
      refine (markRepl_c (Pl.stepRepl r s).1 _ _ _ _ OG.out ND21.out (by omega) (by rw [HCG.out]; omega)).mono ?_
      rintro e v41 ⟨rfl, hch, fpm, hom, hndm, hsubm⟩
      rw [HCG.out]
      have HR_r := Lib.hid (rRepl.keep HR_r.out fun b hb' => hch.block b (Nat.lt_of_lt_of_le hb' HB_r.out) (fun hm => by have := AP21_HR_r.out b hm; omega))
      have HB_r := Lib.hid (Nat.le_trans HB_r.out hch.size)
      have HW0 := Lib.hid (rRepl.keep HW0.out fun b hb' => hch.block b (Nat.lt_of_lt_of_le hb' HW0_s.out) (fun hm => by have := AP21_HW0.out b hm; omega))
      have HW0_s := Lib.hid (Nat.le_trans HW0_s.out hch.size)
      have KP_r := Lib.hid (KP_r.out.keep (hch.block _ KP_r.out.lt (NB21_KP_r.out)))
      have KP_s := Lib.hid (KP_s.out.keep (hch.block _ KP_s.out.lt (NB21_KP_s.out)))
      have KW := Lib.hid (KW.out.keep (hch.block _ KW.out.lt (NB21_KW.out)))
      have KX_r := Lib.hid (KX_r.out.keep (hch.block _ KX_r.out.lt (NB21_KX_r.out)))
      have KG := Lib.hid (KG.out.keep (hch.block _ KG.out.lt (NIKG.out)))
      have HT42 := Lib.hid (Mm.Below.chg HT39.out hch HT39.out.size FR21.out)
      clear hch
      have OM := Lib.hid hom
      clear hom hndm hsubm
      have c43_KG_0 := KG.out.cell (i := 0) rfl
      have c43_KG_1 := KG.out.cell (i := 1) rfl
      have c43_KG_2 := KG.out.cell (i := 2) rfl
      have c43_KG_3 := KG.out.cell (i := 3) rfl
      have c43_KG_4 := KG.out.cell (i := 4) rfl
      have c43_KG_5 := KG.out.cell (i := 5) rfl
      go_wp2_with fail
      refine (heldRepl_c (Pl.stepRepl r s).1 _ _ _ _ (rRepl.weak OM.out (B := _) (rRepl.olt OM.out)) (Nat.le_refl _) (by omega) (by rw [HCG.out]; omega)).mono ?_
      rintro e v44 ⟨rfl, hbz⟩
      rw [HCG.out]
      have HR_r := Lib.hid (rRepl.keep HR_r.out fun b hb' => hbz.block b (Nat.lt_of_lt_of_le hb' HB_r.out))
      have HB_r := Lib.hid (Nat.le_trans HB_r.out hbz.size)
      have HW0 := Lib.hid (rRepl.keep HW0.out fun b hb' => hbz.block b (Nat.lt_of_lt_of_le hb' HW0_s.out))
      have HW0_s := Lib.hid (Nat.le_trans HW0_s.out hbz.size)
      have OM := Lib.hid (rRepl.okeep OM.out fun b hb' => hbz.block b (rRepl.olt OM.out b hb'))
      have KP_r := Lib.hid (KP_r.out.bel hbz)
      have KP_s := Lib.hid (KP_s.out.bel hbz)
      have KW := Lib.hid (KW.out.bel hbz)
      have KX_r := Lib.hid (KX_r.out.bel hbz)
      have KG := Lib.hid (KG.out.bel hbz)
      have HT45 := Lib.hid (below_step HT42.out hbz)
      clear hbz
      go_wp2_with fail
      have c47_KP_r_0 := KP_r.out.cell (i := 0) rfl
      have c47_KP_r_1 := KP_r.out.cell (i := 1) rfl
      have c47_KP_r_2 := KP_r.out.cell (i := 2) rfl
      have c47_KP_r_3 := KP_r.out.cell (i := 3) rfl
      have c47_KP_r_4 := KP_r.out.cell (i := 4) rfl
      have c47_KP_r_5 := KP_r.out.cell (i := 5) rfl
      have c47_KP_s_0 := KP_s.out.cell (i := 0) rfl
      have c47_KP_s_1 := KP_s.out.cell (i := 1) rfl
      have c47_KP_s_2 := KP_s.out.cell (i := 2) rfl
      refine Mm.wp_region_give 10 (fun i => match i with | 1 => some (gPT_StepRepl r) | 3 => some (Mm.gVal (.agg #[.int .i64 s.Kind, .int .i64 s.Node, .string s.Text])) | 4 => some (gPR_StepRepl (Pl.stepRepl r s).1 (Pl.stepRepl r s).2) | 8 => some (Mm.gPtr 31 [.slice none 0 0, .slice none 0 0, .int .i64 0, .int .i64 0, .slice none 0 0, .slice none 0 0]) | 9 => some (Mm.gSto 31) | _ => none) (fun i => match i with | 4 => [1] | 9 => [8] | _ => []) (fun _ => []) (F := []) (D := fun w' => ∃ x : Und v44, w' = und v44 x) (fun X us h => Mm.sep_und h) (by kernel_rfl) (by kernel_rfl) (by kernel_rfl) (Mm.SepF.startDrew _) ?_
      repeat (refine Mm.give_det (by rfl) (by rfl) (by rfl) (fun K hK => ?_); go_big_quiet_op; refine hK _ ?_; clear hK K)
      refine Mm.give_op0 _ (by rfl) rfl rfl (by rfl) (by rfl) (by rfl) gPT_StepRepl_in (fun others X hX => ?_) ?_
      · go_wp2_with (go_at_call 39; refine (toRepl_at r _ X w.heap.size (rRepl.keep HR_r.out fun b hb => hX.bel0.block b (Nat.lt_of_lt_of_le hb HB_r.out)) (Nat.le_trans HB_r.out hX.chg.size) (by omega)).mono ?_; rintro e w5 ⟨cs5, fp5, rfl, ho, hnd, hnew, hb5⟩; obtain ⟨A0_p46, n0_p46, c0_p46, A1_p46, n1_p46, c1_p46, A2_p46, n2_p46, c2_p46, A3_p46, n3_p46, c3_p46, _, _, _, _, rfl, -⟩ := rRepl_own ho)
        exact ⟨rfl, rfl, _, ⟨A0_p46, n0_p46, c0_p46, A1_p46, n1_p46, c1_p46, A2_p46, n2_p46, c2_p46, A3_p46, n3_p46, c3_p46, _, rfl, rfl⟩, hX.add hb5 (t := Mm.tow rRepl r _ _) ho hnd hnew⟩
      rintro v ds ⟨A0_p46, n0_p46, c0_p46, A1_p46, n1_p46, c1_p46, A2_p46, n2_p46, c2_p46, A3_p46, n3_p46, c3_p46, fpp46, rfl, rfl⟩
      simp only [Act.put, List.setIfInBounds_toArray, List.set_cons_succ, List.set_cons_zero]
      repeat (refine Mm.give_det (by rfl) (by rfl) (by rfl) (fun K hK => ?_); go_big_quiet_op; refine hK _ ?_; clear hK K)
      refine Mm.give_op0 _ (by rfl) rfl rfl (by rfl) (by rfl) (by rfl) Mm.gVal_in (fun others X hX => ?_) ?_
      · go_wp2_with (go_at_call 40; refine (toReplStep_c s X).mono ?_; rintro e w5 ⟨rfl, hb5⟩)
        exact Mm.gvq_val hX hb5 rfl rfl
      rintro v ds ⟨rfl, rfl⟩
      simp only [Act.put, List.setIfInBounds_toArray, List.set_cons_succ, List.set_cons_zero]
      repeat (refine Mm.give_det (by rfl) (by rfl) (by rfl) (fun K hK => ?_); go_big_quiet_op; refine hK _ ?_; clear hK K)
      refine Mm.give_op1 _ 1 (by rfl) rfl rfl (by rfl) (by rfl) rfl (by rfl) _ rfl gPR_StepRepl_in (fun others X hX => ?_) ?_
      · go_wp2_with (go_at_call 28; refine (implStepRepl_c r _ s _ X X.heap.size (hX.rd 0 rfl) (rReplStep.weak (rReplStep_own_mk HMI_s.out) (fun b hb => absurd hb (by simp))) (Nat.le_refl _)).mono ?_; rintro e w6 ⟨cs6, fp6, rfl, ho, hnd, hnew, hb6⟩; obtain ⟨A0_q46, n0_q46, c0_q46, A1_q46, n1_q46, c1_q46, A2_q46, n2_q46, c2_q46, A3_q46, n3_q46, c3_q46, _, _, _, _, rfl, -⟩ := rRepl_own ho)
        exact ⟨rfl, rfl, _, ⟨A0_q46, n0_q46, c0_q46, A1_q46, n1_q46, c1_q46, A2_q46, n2_q46, c2_q46, A3_q46, n3_q46, c3_q46, _, rfl, rfl⟩, (hX.tail.add hb6 (t := Mm.tow rRepl (Pl.stepRepl r s).1 _ _) ho hnd hnew)⟩
      rintro v ds ⟨A0_q46, n0_q46, c0_q46, A1_q46, n1_q46, c1_q46, A2_q46, n2_q46, c2_q46, A3_q46, n3_q46, c3_q46, fp46, rfl, rfl⟩
      simp only [Act.put, List.setIfInBounds_toArray, List.set_cons_succ, List.set_cons_zero]
      repeat (refine Mm.give_det (by rfl) (by rfl) (by rfl) (fun K hK => ?_); go_big_quiet_op; refine hK _ ?_; clear hK K)
      refine Mm.give_op0 _ (by rfl) rfl rfl (by rfl) (by rfl) (by rfl) Mm.gPtr_in (fun others X hX => ?_) ?_
      · go_wp2
        exact Mm.gvq_ptr hX rfl rfl rfl
      rintro v ds ⟨gp46, rfl, rfl⟩
      simp only [Act.put, List.setIfInBounds_toArray, List.set_cons_succ, List.set_cons_zero]
      refine Mm.give_store 31 gp46 [.slice none 0 0, .slice none 0 0, .int .i64 0, .int .i64 0, .slice none 0 0, .slice none 0 0] [.slice A0_q46 n0_q46 c0_q46, .slice A1_q46 n1_q46 c1_q46, .int .i64 (Pl.stepRepl r s).1.Leader, .int .i64 (Pl.stepRepl r s).1.Epoch, .slice A2_q46 n2_q46 c2_q46, .slice A3_q46 n3_q46 c3_q46] 8 (by rfl) rfl rfl (by rfl) rfl (by rfl) rfl rfl (fun others X hX => ?_) ?_
      · have HSR := Lib.hid hX
        have r0 := HSR.out.cell (k := 0) 0 rfl rfl
        have z0 := HSR.out.frz (k := 0) 0 rfl
        have r1 := HSR.out.cell (k := 1) 0 rfl rfl
        have z1 := HSR.out.frz (k := 1) 0 rfl
        have r2 := HSR.out.cell (k := 2) 0 rfl rfl
        have z2 := HSR.out.frz (k := 2) 0 rfl
        have r3 := HSR.out.cell (k := 3) 0 rfl rfl
        have z3 := HSR.out.frz (k := 3) 0 rfl
        have r4 := HSR.out.cell (k := 4) 0 rfl rfl
        have z4 := HSR.out.frz (k := 4) 0 rfl
        have r5 := HSR.out.cell (k := 5) 0 rfl rfl
        have z5 := HSR.out.frz (k := 5) 0 rfl
        go_wp2
        exact ⟨rfl, rfl, _, rfl, ((((((hX.setBlk (k := 0) 0 rfl (.slice A0_q46 n0_q46 c0_q46)).setBlk (k := 1) 0 rfl (.slice A1_q46 n1_q46 c1_q46)).setBlk (k := 2) 0 rfl (.int .i64 (Pl.stepRepl r s).1.Leader)).setBlk (k := 3) 0 rfl (.int .i64 (Pl.stepRepl r s).1.Epoch)).setBlk (k := 4) 0 rfl (.slice A2_q46 n2_q46 c2_q46)).setBlk (k := 5) 0 rfl (.slice A3_q46 n3_q46 c3_q46))⟩
      refine Mm.give_nil ?_
      rintro X46 hX
      have hXs : Mm.SepF [] v44 X46 [Mm.tow rRepl (Pl.stepRepl r s).1 [.slice A0_q46 n0_q46 c0_q46, .slice A1_q46 n1_q46 c1_q46, .int .i64 (Pl.stepRepl r s).1.Leader, .int .i64 (Pl.stepRepl r s).1.Epoch, .slice A2_q46 n2_q46 c2_q46, .slice A3_q46 n3_q46 c3_q46] fp46, Mm.tblk gp46 31 [.slice A0_q46 n0_q46 c0_q46, .slice A1_q46 n1_q46 c1_q46, .int .i64 (Pl.stepRepl r s).1.Leader, .int .i64 (Pl.stepRepl r s).1.Epoch, .slice A2_q46 n2_q46 c2_q46, .slice A3_q46 n3_q46 c3_q46]] := hX
      clear hX
      have hbz := hXs.bel0
      have ho46 : rRepl.own X46 (Pl.stepRepl r s).1 [.slice A0_q46 n0_q46 c0_q46, .slice A1_q46 n1_q46 c1_q46, .int .i64 (Pl.stepRepl r s).1.Leader, .int .i64 (Pl.stepRepl r s).1.Epoch, .slice A2_q46 n2_q46 c2_q46, .slice A3_q46 n3_q46 c3_q46] fp46 := hXs.at_ 0 rfl
      have hnd46 := hXs.ndat (i := 0) rfl
      have hf46 : ∀ b, b ∈ fp46 → v44.heap.size ≤ b := fun b hb' => (hXs.new b (Mm.SepF.mem (i := 0) rfl hb')).resolve_left (fun hh => by cases hh)
      have hgp46 : v44.heap.size ≤ gp46 := (hXs.new gp46 (Mm.SepF.mem (i := 1) rfl (by simp [Mm.tblk]))).resolve_left (fun hh => by cases hh)
      have NJ46_fpm := Lib.hid (show ¬ gp46 ∈ fpm from fun hm => by have := rRepl.olt OM.out gp46 hm; omega)
      clear hgp46
      have HR_r := Lib.hid (rRepl.keep HR_r.out fun b hb' => hbz.block b (Nat.lt_of_lt_of_le hb' HB_r.out))
      have HB_r := Lib.hid (Nat.le_trans HB_r.out hbz.size)
      have HW0 := Lib.hid (rRepl.keep HW0.out fun b hb' => hbz.block b (Nat.lt_of_lt_of_le hb' HW0_s.out))
      have HW0_s := Lib.hid (Nat.le_trans HW0_s.out hbz.size)
      have OM := Lib.hid (rRepl.okeep OM.out fun b hb' => hbz.block b (rRepl.olt OM.out b hb'))
      have KP_r := Lib.hid (KP_r.out.bel hbz)
      have KP_s := Lib.hid (KP_s.out.bel hbz)
      have KW := Lib.hid (KW.out.bel hbz)
      have KX_r := Lib.hid (KX_r.out.bel hbz)
      have KG := Lib.hid (KG.out.bel hbz)
      have HT48 := Lib.hid (below_step HT45.out hbz)
      have HH := Lib.hid (rRepl.weak ho46 (B := X46.heap.size) (rRepl.olt ho46))
      have HH_s := Lib.hid (Nat.le_refl X46.heap.size)
      have KH := Lib.hid (show Mm.Blk X46 gp46 31 [.slice A0_q46 n0_q46 c0_q46, .slice A1_q46 n1_q46 c1_q46, .int .i64 (Pl.stepRepl r s).1.Leader, .int .i64 (Pl.stepRepl r s).1.Epoch, .slice A2_q46 n2_q46 c2_q46, .slice A3_q46 n3_q46 c3_q46] from hXs.at_ 1 rfl)
      clear ho46 hnd46 hf46 hXs hbz
      have c49_KW_0 := KW.out.cell (i := 0) rfl
      have c49_KW_1 := KW.out.cell (i := 1) rfl
      have c49_KW_2 := KW.out.cell (i := 2) rfl
      have c49_KW_3 := KW.out.cell (i := 3) rfl
      have c49_KW_4 := KW.out.cell (i := 4) rfl
      have c49_KW_5 := KW.out.cell (i := 5) rfl
      have c49_KH_0 := KH.out.cell (i := 0) rfl
      have c49_KH_1 := KH.out.cell (i := 1) rfl
      have c49_KH_2 := KH.out.cell (i := 2) rfl
      have c49_KH_3 := KH.out.cell (i := 3) rfl
      have c49_KH_4 := KH.out.cell (i := 4) rfl
      have c49_KH_5 := KH.out.cell (i := 5) rfl
      go_wp2_with fail
      refine (eqRepl_at (Pl.stepRepl r s).1 _ _ _ _ (rRepl.more HH.out HH_s.out) (rRepl.more HW0.out HW0_s.out) (Nat.le_refl _)).mono ?_
      rintro e v50 ⟨rfl, hbz⟩
      have HR_r := Lib.hid (rRepl.keep HR_r.out fun b hb' => hbz.block b (Nat.lt_of_lt_of_le hb' HB_r.out))
      have HB_r := Lib.hid (Nat.le_trans HB_r.out hbz.size)
      have HW0 := Lib.hid (rRepl.keep HW0.out fun b hb' => hbz.block b (Nat.lt_of_lt_of_le hb' HW0_s.out))
      have HW0_s := Lib.hid (Nat.le_trans HW0_s.out hbz.size)
      have HH := Lib.hid (rRepl.keep HH.out fun b hb' => hbz.block b (Nat.lt_of_lt_of_le hb' HH_s.out))
      have HH_s := Lib.hid (Nat.le_trans HH_s.out hbz.size)
      have OM := Lib.hid (rRepl.okeep OM.out fun b hb' => hbz.block b (rRepl.olt OM.out b hb'))
      have KP_r := Lib.hid (KP_r.out.bel hbz)
      have KP_s := Lib.hid (KP_s.out.bel hbz)
      have KW := Lib.hid (KW.out.bel hbz)
      have KX_r := Lib.hid (KX_r.out.bel hbz)
      have KG := Lib.hid (KG.out.bel hbz)
      have KH := Lib.hid (KH.out.bel hbz)
      have HT51 := Lib.hid (below_step HT48.out hbz)
      clear hbz
      have c52_KG_0 := KG.out.cell (i := 0) rfl
      have c52_KG_1 := KG.out.cell (i := 1) rfl
      have c52_KG_2 := KG.out.cell (i := 2) rfl
      have c52_KG_3 := KG.out.cell (i := 3) rfl
      have c52_KG_4 := KG.out.cell (i := 4) rfl
      have c52_KG_5 := KG.out.cell (i := 5) rfl
      go_wp2_with fail
      refine (heldRepl_c (Pl.stepRepl r s).1 _ _ _ _ (rRepl.weak OM.out (B := _) (rRepl.olt OM.out)) (Nat.le_refl _) (by omega) (by rw [HCG.out]; omega)).mono ?_
      rintro e v53 ⟨rfl, hbz⟩
      rw [HCG.out]
      have HR_r := Lib.hid (rRepl.keep HR_r.out fun b hb' => hbz.block b (Nat.lt_of_lt_of_le hb' HB_r.out))
      have HB_r := Lib.hid (Nat.le_trans HB_r.out hbz.size)
      have HW0 := Lib.hid (rRepl.keep HW0.out fun b hb' => hbz.block b (Nat.lt_of_lt_of_le hb' HW0_s.out))
      have HW0_s := Lib.hid (Nat.le_trans HW0_s.out hbz.size)
      have HH := Lib.hid (rRepl.keep HH.out fun b hb' => hbz.block b (Nat.lt_of_lt_of_le hb' HH_s.out))
      have HH_s := Lib.hid (Nat.le_trans HH_s.out hbz.size)
      have OM := Lib.hid (rRepl.okeep OM.out fun b hb' => hbz.block b (rRepl.olt OM.out b hb'))
      have KP_r := Lib.hid (KP_r.out.bel hbz)
      have KP_s := Lib.hid (KP_s.out.bel hbz)
      have KW := Lib.hid (KW.out.bel hbz)
      have KX_r := Lib.hid (KX_r.out.bel hbz)
      have KG := Lib.hid (KG.out.bel hbz)
      have KH := Lib.hid (KH.out.bel hbz)
      have HT54 := Lib.hid (below_step HT51.out hbz)
      clear hbz
      go_wp2
      go_ret
      exact ⟨rfl, HT54.out⟩
end Go.Proofs.Ytihendiakgfpcaa

/-
  The statement of FnExactStepRepl: for every input the law returns true, and every argument reads afterwards as it read before. No conditions.
-/
namespace Go.Proofs.Ytihendiakgfpcaa.fnExactStepRepl
open Go.ChangeShapes Go.WideShapes Go.ChangeAt Go.RowKit
open Go.ChangeMaps (open_string shut_string)
set_option linter.unusedVariables false

theorem own : ownKnob Try.prog.godebug = none := by kernel_rfl
theorem laidOut : laidOutB Try.prog = true := by kernel_rfl

set_option maxRecDepth 100000 in
theorem lifted (os : Os) (started : os.Started) (H : Type) (enc : TypeId × Value → H) :
    ReturnsInHanded {} Try.checked os 6 .any (Rows.fnExactStepReplSpec.pre6 enc Try.prog Try.f6 Rows.fnExactStepReplRow.domain false) (Rows.fnExactStepReplSpec.post enc Try.prog Try.f6 false true false false) := by
  refine returnsInHanded_of_change (C := Try.checked) own started (by kernel_rfl) Try.func6
    (ChangeSpec.witness6 (enc := enc) (C := Try.checked) false ⟨#[], #[.agg #[.slice none 0 0, .slice none 0 0, .int .i64 0, .int .i64 0, .slice none 0 0, .slice none 0 0], .agg #[.int .i64 0, .int .i64 0, .string ByteArray.empty]], []⟩ 8 (by kernel_rfl) (by kernel_rfl) (by kernel_rfl) (by kernel_rfl)) ?_
  intro W base args ds gs before hval0 hW hcnd _
  have hval : ∀ (j : Nat) t v, Try.f6.params[j]? = some t → args[j]? = some v → Value.okWide Try.prog W .any base t v := hval0
  have hW' := hW
  obtain ⟨p, q, hA0, hV, rfl, hfz, hnd⟩ := hW
  have hA : DataW.TrodAll enc Try.prog W 0 (fun _ => true) true Try.f6.params.toList args.toList ds p := hA0
  rw [Try.params6] at hA hval
  obtain ⟨v0, vs0, d0, ds0, p0, q0, hargs, rfl, rfl, h0, r0⟩ := trodAll_cons hA
  obtain ⟨v1, vs1, d1, ds1, p1, q1, rfl, rfl, rfl, h1, r1⟩ := trodAll_cons r0
  obtain ⟨rfl, rfl, rfl⟩ := trodAll_nil r1
  obtain rfl : args = #[v0, v1] := by cases args; simp_all
  obtain ⟨rfl, rfl⟩ := trodVars_none hV
  have k0 := h0
  have lt0 : ∀ x ∈ p0, x.block < W.heap.size := by obtain ⟨m, hm⟩ := k0; exact DataW.trod_lt m _ _ _ hm
  have k1 := h1
  have lt1 : ∀ x ∈ p1, x.block < W.heap.size := by obtain ⟨m, hm⟩ := k1; exact DataW.trod_lt m _ _ _ hm
  obtain ⟨cs0, a0, rfl, w0⟩ := Mm.open_st opens_Repl Try.underlying65 (hval 0 65 v0 rfl rfl) h0
  obtain ⟨cs1, a1, rfl, w1⟩ := Mm.open_st opens_ReplStep Try.underlying66 (hval 1 66 v1 rfl rfl) h1
  clear hA0 hval0
  refine (walk_FnExactStepRepl cs0 a0 cs1 a1 W w0 w1).mono fun e W' ⟨he, bel⟩ => ?_
  subst he
  exact ⟨_, rfl, _, _, _, [], _, [], hW', trodAll_mk1 (shut_bool Try.underlying4 _), (trodAll_cons_mk (Below.trod laidOut (by kernel_rfl) (of_decide_eq_true (by kernel_rfl)) k0 bel lt0) (trodAll_cons_mk (Below.trod laidOut (by kernel_rfl) (of_decide_eq_true (by kernel_rfl)) k1 bel lt1) trodAll_mk0)), rfl, bel.frame _, fun h => by cases h⟩

theorem over : Rows.fnExactStepReplRow.holds Try.pinned (OpenSpec.ofChange Rows.fnExactStepReplSpec) :=
  OpenClaim.holds_of_wide 6 Try.f6 rfl rfl rfl rfl rfl rfl rfl ⟨rfl, rfl, rfl, rfl, rfl⟩ rfl rfl rfl rfl rfl (by kernel_rfl) Try.func6 (by kernel_rfl)
    (of_decide_eq_true (by kernel_rfl)) (by unfold Func.isWrapper; first | (rw [if_pos (by decide +kernel)]; kernel_rfl) | (rw [if_neg (by decide +kernel)]; exact ⟨rfl, rfl⟩))
    (fun os started H enc _ => lifted os started H enc)

theorem proved : Rows.FnExactStepReplSaid := over
#print axioms proved
end Go.Proofs.Ytihendiakgfpcaa.fnExactStepRepl
