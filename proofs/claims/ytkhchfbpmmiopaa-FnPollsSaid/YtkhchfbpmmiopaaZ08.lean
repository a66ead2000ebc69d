/-
  Joined texts, in build order: Vh, Vo, Vu, Vv, Vq, Vr, Vs, LwN, Vj, Fa. Each part says what it proves; no conditions beyond those that a part names.
-/
import Derived.Test.YtkhchfbpmmiopaaZ01
import Derived.Test.YtkhchfbpmmiopaaZ02
import Derived.Test.YtkhchfbpmmiopaaZ04
import Derived.Test.YtkhchfbpmmiopaaZ05
import Derived.Test.YtkhchfbpmmiopaaZ07
import Derived.Deep.CutBlock
import Derived.Deep.DeepCutAuto
/-
  Contracts: an election played, the reference (chapter 8). No conditions.
-/
namespace Go.Proofs.Ytkhchfbpmmiopaa
open Go.RowKit
attribute [local go_sem] und_cell cha_cell World.cell?_alloc_some
/-- a call hands back an election by value; beside a bool -/
def gPo (x : Poll) : Mm.Rel := fun _ _ v ds => ∃ A0 n0 c0 A1 n1 c1 A2 n2 c2 fp, v = .agg #[.slice A0 n0 c0, .slice A1 n1 c1, .slice A2 n2 c2] ∧ ds = [Mm.tow rPoll x [.slice A0 n0 c0, .slice A1 n1 c1, .slice A2 n2 c2] fp]
def gPo2 (x : Poll) (b : Bool) : Mm.Rel := fun _ _ v ds => ∃ A0 n0 c0 A1 n1 c1 A2 n2 c2 fp, v = .tuple #[.agg #[.slice A0 n0 c0, .slice A1 n1 c1, .slice A2 n2 c2], .bool b] ∧ ds = [Mm.tow rPoll x [.slice A0 n0 c0, .slice A1 n1 c1, .slice A2 n2 c2] fp]
theorem gPo_in {x : Poll} {vals : List Value} {tk : List Mm.Thing} : ∃ v ds, gPo x vals tk v ds := ⟨_, _, none, 0, 0, none, 0, 0, none, 0, 0, [], rfl, rfl⟩
theorem gPo2_in {x : Poll} {b : Bool} {vals : List Value} {tk : List Mm.Thing} : ∃ v ds, gPo2 x b vals tk v ds := ⟨_, _, none, 0, 0, none, 0, 0, none, 0, 0, [], rfl, rfl⟩
set_option maxRecDepth 100000 in
set_option maxHeartbeats 4000000 in
theorem specPlayPoll_c (ages : List Int) (l : List VoteStep) (A' : Option Addr) (n' c' : Nat) (A : Option Addr) (n c : Nat) (w : World) (B : Nat) (ha : Mm.SlAt Mm.int w B ages A' n' c') (hl : Mm.SlAt rVoteStep w B l A n c) (hB : B ≤ w.heap.size) :
    Calls Try.prog 8 #[.slice A' n' c', .slice A n c] w (PlayAnsP (Pl.playPoll ages l) w) := by
  have hn : n ≤ maxLen := Nat.le_trans hl.2.1 hl.2.2.1
  have hlen := hl.1
  have HL := Lib.hid hl
  have HA := Lib.hid ha
  clear hl ha
  unfold maxLen at hn
  obtain ⟨gz, hgz⟩ : ∃ g, w.heap.size = g := ⟨_, rfl⟩
  obtain ⟨W0, hW0⟩ : ∃ V, w.alloc (.cells #[.slice none 0 0, .slice none 0 0, .slice none 0 0] 31) = V := ⟨_, rfl⟩
  have KS := Lib.hid (((Mm.SepF.start w).alloc' hgz 31 zPoll).atW hW0)
  have CN := specNewPoll_c ages A' n' c' W0 B (HA.out.keep fun b hb => KS.out.bel0.block b (by omega)) (Nat.le_trans hB KS.out.bel0.size)
  have HBR := Lib.hid hB
  obtain ⟨q, ok, hq⟩ : ∃ q ok, Pl.newPoll ages = (q, ok) := ⟨_, _, rfl⟩
  rw [hq] at CN
  have HQ := Lib.hid hq
  have HLN := Lib.hid hlen
  clear hq hlen
  go_enter Try.func8, Try.ntmps8
  go_upto_region 1 with fail
  clear hW0 hgz
  go_upto_region 2 with (go_at_call 36; (with_reducible refine CN.mono ?_); clear CN; rintro e w1 ⟨cs1, fp1, rfl, ho, hnd, hnew, hb⟩; obtain ⟨B0, m0, d0, B1, m1, d1, B2, m2, d2, rfl⟩ := own_formP ho; (have KS1 := Lib.hid (KS.out.add hb (t := Mm.tow rPoll q _ _) ho hnd hnew)); clear ho hnd hnew hb)
  obtain ⟨g7, hg7⟩ : ∃ g, w1.heap.size = g := ⟨_, rfl⟩
  obtain ⟨W2, hW2⟩ : ∃ V, w1.alloc (.cells #[.slice B0 m0 d0, .slice B1 m1 d1, .slice B2 m2 d2] 31) = V := ⟨_, rfl⟩
  have HSR := Lib.hid ((KS1.out.alloc' hg7 31 [.slice B0 m0 d0, .slice B1 m1 d1, .slice B2 m2 d2]).atW hW2)
  rw [hW2, hg7]
  clear hW2 hg7 KS KS1 hB
  cases ok with
  | false =>
    have HF : Hid (Pl.playPoll ages l = (Pl.zPo, [], false)) := Lib.hid (if_neg (fun hh => by have h1 := HQ.out; unfold Pl.newPoll at h1; rw [if_pos hh.1] at h1; injection h1 with _ h1; cases h1))
    have r0 := HSR.out.cell (k := 0) 2 rfl rfl
    have r1 := HSR.out.cell (k := 1) 2 rfl rfl
    have r2 := HSR.out.cell (k := 2) 2 rfl rfl
    have z0 := HSR.out.frz (k := 0) 2 rfl
    have z1 := HSR.out.frz (k := 1) 2 rfl
    have z2 := HSR.out.frz (k := 2) 2 rfl
    go_wp2
    rw [HF.out]
    have HSF := Lib.hid (((HSR.out.setBlk (k := 0) 2 rfl (.slice none 0 0)).setBlk (k := 1) 2 rfl (.slice none 0 0)).setBlk (k := 2) 2 rfl (.slice none 0 0))
    have u0 := HSF.out.cell (k := 0) 2 rfl rfl
    have u1 := HSF.out.cell (k := 1) 2 rfl rfl
    have u2 := HSF.out.cell (k := 2) 2 rfl rfl
    exact bodyPost_ret (v := .tuple #[.agg zPoll.toArray, .slice none 0 0, .bool false]) (by simp [results, Try.results8, go_sem, zPoll, u0, u1, u2]) rfl (playNoP HSF.out.bel0)
  | true =>
  have hok : Pl.agesOk ages = true := by
    have h1 := HQ.out
    unfold Pl.newPoll at h1
    split at h1
    · assumption
    · injection h1 with _ h1; cases h1
  have hqe : q = Pl.newPo ages := by
    have h1 := HQ.out
    unfold Pl.newPoll at h1
    rw [if_pos hok] at h1
    injection h1 with h1 _
    exact h1.symm
  subst hqe
  by_cases h3 : n ≤ 200
  rotate_left
  · have HF : Hid (Pl.playPoll ages l = (Pl.zPo, [], false)) := Lib.hid (if_neg (fun hh => by have := hh.2; have := HLN.out; omega))
    have fa : (200 : Int) < (n : Nat) := by omega
    have r0 := HSR.out.cell (k := 0) 2 rfl rfl
    have r1 := HSR.out.cell (k := 1) 2 rfl rfl
    have r2 := HSR.out.cell (k := 2) 2 rfl rfl
    have z0 := HSR.out.frz (k := 0) 2 rfl
    have z1 := HSR.out.frz (k := 1) 2 rfl
    have z2 := HSR.out.frz (k := 2) 2 rfl
    go_wp2
    rw [HF.out]
    have HSF := Lib.hid (((HSR.out.setBlk (k := 0) 2 rfl (.slice none 0 0)).setBlk (k := 1) 2 rfl (.slice none 0 0)).setBlk (k := 2) 2 rfl (.slice none 0 0))
    have u0 := HSF.out.cell (k := 0) 2 rfl rfl
    have u1 := HSF.out.cell (k := 1) 2 rfl rfl
    have u2 := HSF.out.cell (k := 2) 2 rfl rfl
    exact bodyPost_ret (v := .tuple #[.agg zPoll.toArray, .slice none 0 0, .bool false]) (by simp [results, Try.results8, go_sem, zPoll, u0, u1, u2]) rfl (playNoP HSF.out.bel0)
  have HF : Hid (Pl.playPoll ages l = ((Pl.playP (Pl.newPo ages) l).1, (Pl.playP (Pl.newPo ages) l).2, true)) := Lib.hid (if_pos ⟨hok, by have := HLN.out; omega⟩)
  have fa : ¬ (200 : Int) < (n : Nat) := by omega
  have HPW := fun l => Lib.hid (Pl.playP_pw hok l)
  clear hok
  obtain ⟨i0, hi, hz0, hz1, hz2⟩ := info_parts Try.infoBoolP
  have KS2 := Lib.hid (HSR.out.add (Below.refl _ _) (t := Mm.tsl Mm.bool 4 [] (.slice none 0 0) []) Mm.SlOwn.nil List.nodup_nil (fun b hb => by cases hb))
  clear HSR
  go_wp2
  go_loopg [9, 29] n (fun gg d i wr => ∃ (k : Nat) (A2' : Option Addr) (c2' : Nat) (fpt fpd : List Nat) (cx : List Value), n - k ≤ gg ∧ k ≤ n ∧ d = .slice A2' k c2' ∧ i = .int .i64 k ∧ Hid (∃ x : Poll, x = (Pl.playP (Pl.newPo ages) (l.take k)).1 ∧ Mm.SepF [] w wr [Mm.tsl Mm.bool 4 (Pl.playP (Pl.newPo ages) (l.take k)).2 (.slice A2' k c2') fpd, Mm.tblk g7 31 cx, Mm.tow rPoll x cx fpt, Mm.tblk gz 31 zPoll]))
  case atStart => exact ⟨0, none, 0, _, _, _, Nat.le_refl _, Nat.zero_le _, rfl, rfl, Lib.hid ⟨_, rfl, KS2.out⟩⟩
  case round =>
    clear KS2
    obtain ⟨k, A2', c2', fpt, fpd, cx, hgk, hk', rfl, rfl, HS'⟩ := hrel
    obtain ⟨x, hx0, hS'⟩ := HS'.out
    clear HS'
    obtain ⟨E0, s0, r0', E1, s1, r1', E2, s2, r2', rfl⟩ := own_formP (hS'.at_ 2 rfl)
    have HS := Lib.hid hS'
    clear hS'
    have hbel := HS.out.bel0
    have hwf := HPW (l.take k)
    have hlk := List.length_take_of_le (l := l) (i := k) (by rw [HLN.out]; omega)
    have hw1 := hwf.out.1
    rw [← hx0] at hw1
    have HWF := Lib.hid hw1
    have HPL := Lib.hid (hwf.out.2.trans hlk)
    clear hwf hlk hw1
    obtain ⟨dl, hp⟩ : ∃ dl, Pl.playP (Pl.newPo ages) (l.take k) = (x, dl) := ⟨_, by rw [hx0]⟩
    rw [hp] at HS HPL
    have HP := Lib.hid hp
    clear hp hx0
    by_cases hlt : k < n
    · obtain ⟨s, b0', off, hx, rfl, hb, g0', g1', e0, e1⟩ := rVoteStep_get HL.out hlt
      have HN : Hid (Pl.playP (Pl.newPo ages) (l.take (k + 1)) = ((Pl.pstep x s).1, dl ++ [(Pl.pstep x s).2])) := by
        show _ = _
        rw [Mm.take_succ_some hx, Pl.playP_snoc, HP.out]
      have HNO := Lib.hid (@Pl.pstep_no x s)
      obtain ⟨r, hr⟩ : ∃ r, Pl.pstep x s = r := ⟨_, rfl⟩
      rw [hr] at HN HNO
      have HR := Lib.hid hr
      have hlt' : ((k : Nat) : Int) < ((n : Nat) : Int) := by omega
      have hb0 : b0' < w.heap.size := by have := HBR.out; omega
      replace e0 := below_some hbel e0
      replace e1 := below_some hbel e1
      obtain ⟨t', is⟩ := r
      clear hx g0' g1' hr
      cases is with
      | true =>
        have b0 := HS.out.cell (k := 0) 1 rfl rfl
        have b1 := HS.out.cell (k := 1) 1 rfl rfl
        have b2 := HS.out.cell (k := 2) 1 rfl rfl
        go_upto_region 8 with fail
        obtain ⟨gs, hgs⟩ : ∃ gs, wr.heap.size = gs := ⟨_, rfl⟩
        obtain ⟨W1, hW1⟩ : ∃ W1, wr.alloc (.cells #[.int .i64 s.Kind, .int .i64 s.K] 56) = W1 := ⟨_, rfl⟩
        have HS1 := Lib.hid ((HS.out.alloc' hgs 56 [.int .i64 s.Kind, .int .i64 s.K]).atW hW1)
        rw [hW1, hgs]
        clear hW1 hgs e0 e1 b0 b1 b2
        have b0 := HS1.out.cell (k := 0) 2 rfl rfl
        have b1 := HS1.out.cell (k := 1) 2 rfl rfl
        have b2 := HS1.out.cell (k := 2) 2 rfl rfl
        have c0' := HS1.out.cell (k := 0) 0 rfl rfl
        have c1' := HS1.out.cell (k := 1) 0 rfl rfl
        refine Mm.wp_region_give 9 (fun i => match i with | 1 => some (gPo x) | 3 => some (gPo2 t' true) | 7 => some (Mm.gPtr 31 zPoll) | 8 => some (Mm.gSto 31) | _ => none) (fun i => match i with | 3 => [1] | 8 => [7] | _ => []) (fun _ => []) (F := []) (D := fun w' => ∃ x : Und W1, w' = und W1 x) (fun X us h => Mm.sep_und h) (by kernel_rfl) (by kernel_rfl) (by kernel_rfl) (Mm.SepF.startDrew _) ?_
        repeat (refine Mm.give_det (by rfl) (by rfl) (by rfl) (fun K hK => ?_); go_big_quiet_op; refine hK _ ?_; clear hK K)
        refine Mm.give_op0 35 (by rfl) rfl (by rfl) (by rfl) (by rfl) (by rfl) gPo_in (fun others X hX => ?_) ?_
        · go_wp2_with (go_at_call 50; refine (l8Own_c x _ X W1.heap.size (rPoll.keep (HS1.out.rd 3 rfl) (fun b hb => hX.bel0.block b hb)) hX.chg.size HWF.out).mono ?_; rintro e w5 ⟨cs5, fp5, rfl, ho, hnd, hnew, hb5⟩; obtain ⟨B0, p0, k0, B1, p1, k1, B2, p2, k2, rfl⟩ := own_formP ho)
          exact ⟨rfl, rfl, _, ⟨B0, p0, k0, B1, p1, k1, B2, p2, k2, fp5, rfl, rfl⟩, hX.add hb5 (t := Mm.tow rPoll x _ _) ho hnd hnew⟩
        rintro v ds ⟨B0, p0, k0, B1, p1, k1, B2, p2, k2, fp5, rfl, rfl⟩
        simp only [Act.put, List.setIfInBounds_toArray, List.set_cons_succ, List.set_cons_zero]
        repeat (refine Mm.give_det (by rfl) (by rfl) (by rfl) (fun K hK => ?_); go_big_quiet_op; refine hK _ ?_; clear hK K)
        refine Mm.give_op1 37 1 (by rfl) rfl (by rfl) (by rfl) (by rfl) rfl (by rfl) _ rfl gPo2_in (fun others X hX => ?_) ?_
        · go_wp2_with (go_at_call 49; refine (l8Step_c x s _ fp5 X (hX.at_ 0 rfl) (hX.ndat (i := 0) rfl) HWF.out).mono ?_; rintro e w6 ⟨cs6, fp6, rfl, hL⟩; rw [HR.out] at hL; rw [HR.out])
          have h9 := hX.call 0 rfl hL
          obtain ⟨B0, p0, k0, B1, p1, k1, B2, p2, k2, rfl⟩ := own_formP (h9.at_ 0 rfl)
          exact ⟨rfl, rfl, _, ⟨B0, p0, k0, B1, p1, k1, B2, p2, k2, fp6, rfl, rfl⟩, h9⟩
        rintro v ds ⟨B0, p0, k0, B1, p1, k1, B2, p2, k2, fp6, rfl, rfl⟩
        simp only [Act.put, List.setIfInBounds_toArray, List.set_cons_succ, List.set_cons_zero]
        repeat (refine Mm.give_det (by rfl) (by rfl) (by rfl) (fun K hK => ?_); go_big_quiet_op; refine hK _ ?_; clear hK K)
        refine Mm.give_op0 12 (by rfl) rfl (by rfl) (by rfl) (by rfl) (by rfl) Mm.gPtr_in (fun others X hX => ?_) ?_
        · go_wp2
          exact Mm.gvq_ptr hX rfl rfl rfl
        rintro v ds ⟨gp, rfl, rfl⟩
        simp only [Act.put, List.setIfInBounds_toArray, List.set_cons_succ, List.set_cons_zero]
        refine Mm.give_store 31 gp zPoll [.slice B0 p0 k0, .slice B1 p1 k1, .slice B2 p2 k2] 7 (by rfl) rfl rfl (by rfl) rfl (by rfl) rfl rfl (fun others X hX => ?_) ?_
        · have HSR := Lib.hid hX
          have r0 := HSR.out.cell (k := 0) 0 rfl rfl
          have r1 := HSR.out.cell (k := 1) 0 rfl rfl
          have r2 := HSR.out.cell (k := 2) 0 rfl rfl
          have z0 := HSR.out.frz (k := 0) 0 rfl
          have z1 := HSR.out.frz (k := 1) 0 rfl
          have z2 := HSR.out.frz (k := 2) 0 rfl
          go_wp2
          exact ⟨rfl, rfl, _, rfl, (((hX.setBlk (k := 0) 0 rfl (.slice B0 p0 k0)).setBlk (k := 1) 0 rfl (.slice B1 p1 k1)).setBlk (k := 2) 0 rfl (.slice B2 p2 k2))⟩
        refine Mm.give_nil ?_
        rintro X hX
        have HS3 := Lib.hid (HS1.out.join (us := [Mm.tow rPoll t' [.slice B0 p0 k0, .slice B1 p1 k1, .slice B2 p2 k2] fp6, Mm.tblk gp 31 [.slice B0 p0 k0, .slice B1 p1 k1, .slice B2 p2 k2]]) hX)
        clear hX b0 b1 b2 c0' c1'
        have b0 := HS3.out.cell (k := 0) 1 rfl rfl
        have b1 := HS3.out.cell (k := 1) 1 rfl rfl
        have b2 := HS3.out.cell (k := 2) 1 rfl rfl
        have r0 := HS3.out.cell (k := 0) 4 rfl rfl
        have r1 := HS3.out.cell (k := 1) 4 rfl rfl
        have r2 := HS3.out.cell (k := 2) 4 rfl rfl
        have z0 := HS3.out.frz (k := 0) 4 rfl
        have z1 := HS3.out.frz (k := 1) 4 rfl
        have z2 := HS3.out.frz (k := 2) 4 rfl
        have HS4 := Lib.hid (((HS3.out.setBlk (k := 0) 4 rfl (.slice B0 p0 k0)).setBlk (k := 1) 4 rfl (.slice B1 p1 k1)).setBlk (k := 2) 4 rfl (.slice B2 p2 k2))
        go_upto_region 11 with fail
        clear r0 r1 r2 z0 z1 z2 b0 b1 b2
        obtain ⟨W4, hW4⟩ : ∃ W4, ((X.setCell ⟨g7, 0, none⟩ (.slice B0 p0 k0)).setCell ⟨g7, 1, none⟩ (.slice B1 p1 k1)).setCell ⟨g7, 2, none⟩ (.slice B2 p2 k2) = W4 := ⟨_, rfl⟩
        rw [hW4] at HS4 ⊢
        clear hW4
        go_wp2_with (at_builtin; refine Mm.app_list HS4.out 3 rfl rfl (.tmp 42) (.tmp 44) 32 rfl i0 _ 1 Try.underlying32 hi hz0 hz1 hz2 rfl (by decide) rfl rfl (fun W => Mm.own_boolP) HPL.out (by unfold maxLen; omega) (by omega) ?_; intro g cap w' fp' hs; (have HS5 := Lib.hid hs); clear hs)
        go_roundg (n - (k + 1))
        case measure => omega
        case rel => exact ⟨k + 1, _, cap, _, fp', _, Nat.le_refl _, by omega, rfl, by go_num, Lib.hid ⟨t', by rw [HN.out], by rw [HN.out]; exact HS5.out.sel [3, 4, 0, 6] (by decide) rfl⟩⟩
      | false =>
        obtain rfl : t' = x := HNO.out rfl
        have b0 := HS.out.cell (k := 0) 1 rfl rfl
        have b1 := HS.out.cell (k := 1) 1 rfl rfl
        have b2 := HS.out.cell (k := 2) 1 rfl rfl
        go_upto_region 8 with fail
        obtain ⟨gs, hgs⟩ : ∃ gs, wr.heap.size = gs := ⟨_, rfl⟩
        obtain ⟨W1, hW1⟩ : ∃ W1, wr.alloc (.cells #[.int .i64 s.Kind, .int .i64 s.K] 56) = W1 := ⟨_, rfl⟩
        have HS1 := Lib.hid ((HS.out.alloc' hgs 56 [.int .i64 s.Kind, .int .i64 s.K]).atW hW1)
        rw [hW1, hgs]
        clear hW1 hgs e0 e1 b0 b1 b2
        have b0 := HS1.out.cell (k := 0) 2 rfl rfl
        have b1 := HS1.out.cell (k := 1) 2 rfl rfl
        have b2 := HS1.out.cell (k := 2) 2 rfl rfl
        have c0' := HS1.out.cell (k := 0) 0 rfl rfl
        have c1' := HS1.out.cell (k := 1) 0 rfl rfl
        refine Mm.wp_region_give 9 (fun i => match i with | 1 => some (gPo t') | 3 => some (gPo2 t' false) | 7 => some (Mm.gPtr 31 zPoll) | 8 => some (Mm.gSto 31) | _ => none) (fun i => match i with | 3 => [1] | 8 => [7] | _ => []) (fun _ => []) (F := []) (D := fun w' => ∃ t' : Und W1, w' = und W1 t') (fun X us h => Mm.sep_und h) (by kernel_rfl) (by kernel_rfl) (by kernel_rfl) (Mm.SepF.startDrew _) ?_
        repeat (refine Mm.give_det (by rfl) (by rfl) (by rfl) (fun K hK => ?_); go_big_quiet_op; refine hK _ ?_; clear hK K)
        refine Mm.give_op0 35 (by rfl) rfl (by rfl) (by rfl) (by rfl) (by rfl) gPo_in (fun others X hX => ?_) ?_
        · go_wp2_with (go_at_call 50; refine (l8Own_c t' _ X W1.heap.size (rPoll.keep (HS1.out.rd 3 rfl) (fun b hb => hX.bel0.block b hb)) hX.chg.size HWF.out).mono ?_; rintro e w5 ⟨cs5, fp5, rfl, ho, hnd, hnew, hb5⟩; obtain ⟨B0, p0, k0, B1, p1, k1, B2, p2, k2, rfl⟩ := own_formP ho)
          exact ⟨rfl, rfl, _, ⟨B0, p0, k0, B1, p1, k1, B2, p2, k2, fp5, rfl, rfl⟩, hX.add hb5 (t := Mm.tow rPoll t' _ _) ho hnd hnew⟩
        rintro v ds ⟨B0, p0, k0, B1, p1, k1, B2, p2, k2, fp5, rfl, rfl⟩
        simp only [Act.put, List.setIfInBounds_toArray, List.set_cons_succ, List.set_cons_zero]
        repeat (refine Mm.give_det (by rfl) (by rfl) (by rfl) (fun K hK => ?_); go_big_quiet_op; refine hK _ ?_; clear hK K)
        refine Mm.give_op1 37 1 (by rfl) rfl (by rfl) (by rfl) (by rfl) rfl (by rfl) _ rfl gPo2_in (fun others X hX => ?_) ?_
        · go_wp2_with (go_at_call 49; refine (l8Step_c t' s _ fp5 X (hX.at_ 0 rfl) (hX.ndat (i := 0) rfl) HWF.out).mono ?_; rintro e w6 ⟨cs6, fp6, rfl, hL⟩; rw [HR.out] at hL; rw [HR.out])
          have h9 := hX.call 0 rfl hL
          obtain ⟨B0, p0, k0, B1, p1, k1, B2, p2, k2, rfl⟩ := own_formP (h9.at_ 0 rfl)
          exact ⟨rfl, rfl, _, ⟨B0, p0, k0, B1, p1, k1, B2, p2, k2, fp6, rfl, rfl⟩, h9⟩
        rintro v ds ⟨B0, p0, k0, B1, p1, k1, B2, p2, k2, fp6, rfl, rfl⟩
        simp only [Act.put, List.setIfInBounds_toArray, List.set_cons_succ, List.set_cons_zero]
        repeat (refine Mm.give_det (by rfl) (by rfl) (by rfl) (fun K hK => ?_); go_big_quiet_op; refine hK _ ?_; clear hK K)
        refine Mm.give_op0 12 (by rfl) rfl (by rfl) (by rfl) (by rfl) (by rfl) Mm.gPtr_in (fun others X hX => ?_) ?_
        · go_wp2
          exact Mm.gvq_ptr hX rfl rfl rfl
        rintro v ds ⟨gp, rfl, rfl⟩
        simp only [Act.put, List.setIfInBounds_toArray, List.set_cons_succ, List.set_cons_zero]
        refine Mm.give_store 31 gp zPoll [.slice B0 p0 k0, .slice B1 p1 k1, .slice B2 p2 k2] 7 (by rfl) rfl rfl (by rfl) rfl (by rfl) rfl rfl (fun others X hX => ?_) ?_
        · have HSR := Lib.hid hX
          have r0 := HSR.out.cell (k := 0) 0 rfl rfl
          have r1 := HSR.out.cell (k := 1) 0 rfl rfl
          have r2 := HSR.out.cell (k := 2) 0 rfl rfl
          have z0 := HSR.out.frz (k := 0) 0 rfl
          have z1 := HSR.out.frz (k := 1) 0 rfl
          have z2 := HSR.out.frz (k := 2) 0 rfl
          go_wp2
          exact ⟨rfl, rfl, _, rfl, (((hX.setBlk (k := 0) 0 rfl (.slice B0 p0 k0)).setBlk (k := 1) 0 rfl (.slice B1 p1 k1)).setBlk (k := 2) 0 rfl (.slice B2 p2 k2))⟩
        refine Mm.give_nil ?_
        rintro X hX
        have HS3 := Lib.hid (HS1.out.join (us := [Mm.tow rPoll t' [.slice B0 p0 k0, .slice B1 p1 k1, .slice B2 p2 k2] fp6, Mm.tblk gp 31 [.slice B0 p0 k0, .slice B1 p1 k1, .slice B2 p2 k2]]) hX)
        clear hX b0 b1 b2 c0' c1'
        go_upto_region 11 with fail
        go_wp2_with (at_builtin; refine Mm.app_list HS3.out 3 rfl rfl (.tmp 42) (.tmp 44) 32 rfl i0 _ 1 Try.underlying32 hi hz0 hz1 hz2 rfl (by decide) rfl rfl (fun W => Mm.own_boolP) HPL.out (by unfold maxLen; omega) (by omega) ?_; intro g cap w' fp' hs; (have HS5 := Lib.hid hs); clear hs)
        go_roundg (n - (k + 1))
        case measure => omega
        case rel => exact ⟨k + 1, _, cap, _, fp', _, Nat.le_refl _, by omega, rfl, by go_num, Lib.hid ⟨t', by rw [HN.out], by rw [HN.out]; exact HS5.out.sel [3, 4, 5, 6] (by decide) rfl⟩⟩
    · obtain rfl : k = n := by omega
      have HE : Hid (l.take k = l) := List.take_of_length_le (by rw [HLN.out]; exact Nat.le_refl _)
      have hlt' : ¬ ((k : Nat) : Int) < ((k : Nat) : Int) := by omega
      rw [HE.out] at HP
      rw [HP.out] at HF
      have b0 := HS.out.cell (k := 0) 1 rfl rfl
      have b1 := HS.out.cell (k := 1) 1 rfl rfl
      have b2 := HS.out.cell (k := 2) 1 rfl rfl
      go_wp2_with (go_at_call 50; refine (l8Own_c x _ _ wr.heap.size (HS.out.rd 2 rfl) (Nat.le_refl _) HWF.out).mono ?_; rintro e w5 ⟨cs5, fp5, rfl, ho, hnd, hnew, hb5⟩; obtain ⟨B0, p0, k0, B1, p1, k1, B2, p2, k2, rfl⟩ := own_formP ho; (have HSR := Lib.hid (HS.out.add hb5 (t := Mm.tow rPoll x _ _) ho hnd hnew)); clear ho hnd hnew hb5; (have r0 := HSR.out.cell (k := 0) 4 rfl rfl); (have r1 := HSR.out.cell (k := 1) 4 rfl rfl); (have r2 := HSR.out.cell (k := 2) 4 rfl rfl); (have z0 := HSR.out.frz (k := 0) 4 rfl); (have z1 := HSR.out.frz (k := 1) 4 rfl); (have z2 := HSR.out.frz (k := 2) 4 rfl))
      have HSF := Lib.hid (((HSR.out.setBlk (k := 0) 4 rfl (.slice B0 p0 k0)).setBlk (k := 1) 4 rfl (.slice B1 p1 k1)).setBlk (k := 2) 4 rfl (.slice B2 p2 k2))
      have u0 := HSF.out.cell (k := 0) 4 rfl rfl
      have u1 := HSF.out.cell (k := 1) 4 rfl rfl
      have u2 := HSF.out.cell (k := 2) 4 rfl rfl
      exact bodyPost_ret (v := .tuple #[.agg #[.slice B0 p0 k0, .slice B1 p1 k1, .slice B2 p2 k2], .slice A2' k c2', .bool true]) (by simp [results, Try.results8, go_sem, u0, u1, u2]) rfl ⟨_, A2', k, c2', _, _, by rw [HF.out], by rw [HF.out]; exact HSF.out.sel [0, 1] (by decide) rfl⟩
end Go.Proofs.Ytkhchfbpmmiopaa

/-
  Contracts: StepPoll at drawn elections, good or not (chapter 8). No conditions beyond those named.
-/
namespace Go.Proofs.Ytkhchfbpmmiopaa
open Go.RowKit
attribute [local go_sem] und_cell cha_cell World.cell?_alloc_some
def Pl.stepPo (p : Poll) (s : VoteStep) : Poll × Bool := if Pl.pollOk p = true ∧ (Pl.pstep p s).2 = true then ((Pl.pstep p s).1, true) else (Pl.zPo, false)
set_option maxRecDepth 100000 in
set_option maxHeartbeats 2000000 in
theorem implStepPoll_c (p : Poll) (cs : List Value) (s : VoteStep) (cs2 : List Value) (w : World) (B : Nat) (ht : rPoll.at_ w B p cs) (hs : rVoteStep.at_ w B s cs2) (hB : B ≤ w.heap.size) (hp : Pl.PS p) :
    Calls Try.prog 28 #[.agg cs.toArray, .agg cs2.toArray] w (Mm.Ret2 rPoll w (Pl.stepPo p s).1 (Pl.stepPo p s).2) := by
  obtain ⟨A0, n0, c0, A1, n1, c1, A2, n2, c2, rfl, -⟩ := rPoll_at ht
  obtain ⟨rfl, hmi⟩ := rVoteStep_at hs
  have HRT := Lib.hid ht
  clear ht hs hmi
  go_enter Try.func28, Try.ntmps28
  go_upto_region 1 with fail
  obtain ⟨ga, hga⟩ : ∃ ga, w.heap.size = ga := ⟨_, rfl⟩
  obtain ⟨gs, hgs⟩ : ∃ gs, ga + 1 = gs := ⟨_, rfl⟩
  obtain ⟨gr, hgr⟩ : ∃ gr, gs + 1 = gr := ⟨_, rfl⟩
  obtain ⟨W0, hW0⟩ : ∃ W0, ((w.alloc (.cells #[.slice A0 n0 c0, .slice A1 n1 c1, .slice A2 n2 c2] 31)).alloc (.cells #[.int .i64 s.Kind, .int .i64 s.K] 56)).alloc (.cells #[.slice none 0 0, .slice none 0 0, .slice none 0 0] 31) = W0 := ⟨_, rfl⟩
  have HS := Lib.hid (((((Mm.SepF.start w).alloc' hga 31 [.slice A0 n0 c0, .slice A1 n1 c1, .slice A2 n2 c2]).alloc' (g := gs) (by rw [Mm.sz1, hga, hgs]) 56 [.int .i64 s.Kind, .int .i64 s.K]).alloc' (g := gr) (by rw [Mm.sz2, hga]; omega) 31 zPoll).atW hW0)
  rw [hW0, hga, hgs, hgr]
  have HGA := Lib.hid hga
  clear hW0 hga hgs hgr
  have HRT0 := Lib.hid (rPoll.keep HRT.out (w' := W0) fun b hb => HS.out.bel0.block b (by omega))
  have HBW := Lib.hid (Nat.le_trans hB HS.out.chg.size)
  have b0 := HS.out.cell (k := 0) 2 rfl rfl
  have b1 := HS.out.cell (k := 1) 2 rfl rfl
  have b2 := HS.out.cell (k := 2) 2 rfl rfl
  have r0 := HS.out.cell (k := 0) 0 rfl rfl
  have r1 := HS.out.cell (k := 1) 0 rfl rfl
  have r2 := HS.out.cell (k := 2) 0 rfl rfl
  have z0 := HS.out.frz (k := 0) 0 rfl
  have z1 := HS.out.frz (k := 1) 0 rfl
  have z2 := HS.out.frz (k := 2) 0 rfl
  obtain ⟨gd, hgd⟩ : ∃ gd, Pl.pollOk p = gd := ⟨_, rfl⟩
  have HGD := Lib.hid hgd
  clear hgd
  have CI := isPoll_c p _ W0 B HRT0.out HBW.out hp
  rw [HGD.out] at CI
  cases gd with
  | false =>
    have HF : Hid (Pl.stepPo p s = (Pl.zPo, false)) := if_neg (fun h => by rw [HGD.out] at h; cases h.1)
    go_wp2_with (go_at_call 52; refine CI.mono ?_; rintro e w1 ⟨rfl, hb1⟩; (have HSR := Lib.hid (HS.out.step hb1)); (clear b0 b1 b2 r0 r1 r2 z0 z1 z2); (have r0 := HSR.out.cell (k := 0) 0 rfl rfl); (have r1 := HSR.out.cell (k := 1) 0 rfl rfl); (have r2 := HSR.out.cell (k := 2) 0 rfl rfl); (have z0 := HSR.out.frz (k := 0) 0 rfl); (have z1 := HSR.out.frz (k := 1) 0 rfl); (have z2 := HSR.out.frz (k := 2) 0 rfl))
    rw [HF.out]
    have HSF := Lib.hid (((HSR.out.setBlk (k := 0) 0 rfl (.slice none 0 0)).setBlk (k := 1) 0 rfl (.slice none 0 0)).setBlk (k := 2) 0 rfl (.slice none 0 0))
    have q0 := HSF.out.cell (k := 0) 0 rfl rfl
    have q1 := HSF.out.cell (k := 1) 0 rfl rfl
    have q2 := HSF.out.cell (k := 2) 0 rfl rfl
    exact bodyPost_ret (v := .tuple #[.agg zPoll.toArray, .bool false]) (by simp [results, Try.results28, go_sem, zPoll, q0, q1, q2]) rfl (zPo_ret2 HSF.out.bel0)
  | true =>
    have HWF := Lib.hid (hp.pw HGD.out)
    obtain ⟨⟨t', is⟩, hr⟩ : ∃ q, Pl.pstep p s = q := ⟨_, rfl⟩
    have HR := Lib.hid hr
    clear hr
    have CS := fun (g : Nat) (fp : List Nat) (W : World) h1 h2 => step8_c p s g fp W h1 h2 HWF.out
    rw [HR.out] at CS
    have HCS := Lib.hid CS
    clear CS
    cases is with
    | false =>
      have HF : Hid (Pl.stepPo p s = (Pl.zPo, false)) := if_neg (fun h => by rw [HR.out] at h; cases h.2)
      go_wp2_with (first
        | (go_at_call 52; refine CI.mono ?_; rintro e w1 ⟨rfl, hb1⟩; (have HS1 := Lib.hid (HS.out.step hb1)); (have HRT1 := Lib.hid (rPoll.keep HRT0.out (w' := w1) fun b hb => hb1.block b (Nat.lt_of_lt_of_le hb HBW.out))); (have HBW1 := Lib.hid (Nat.le_trans HBW.out hb1.size)); (clear b0 b1 b2 r0 r1 r2 z0 z1 z2); clear hb1; (have b0 := HS1.out.cell (k := 0) 2 rfl rfl); (have b1 := HS1.out.cell (k := 1) 2 rfl rfl); (have b2 := HS1.out.cell (k := 2) 2 rfl rfl))
        | (go_at_call 66; refine (clonePoll_c p _ w1 B HRT1.out HBW1.out HWF.out).mono ?_; rintro e w2 ⟨cs5, fp5, rfl, ho, hnd, hnew, hb2⟩; obtain ⟨a0, b0', k0, a1, b1', k1, a2, b2', k2, rfl⟩ := own_formP ho; (have HS2 := Lib.hid (HS1.out.add hb2 (t := Mm.tow rPoll p _ _) ho hnd hnew)); clear ho hnd hnew hb2 b0 b1 b2; (have HS3 := Lib.hid ((HS2.out.alloc' rfl 31 [.slice a0 b0' k0, .slice a1 b1' k1, .slice a2 b2' k2]).toPtrP)); (have s0 := HS3.out.cell (k := 0) 2 rfl rfl); (have s1 := HS3.out.cell (k := 1) 2 rfl rfl))
        | (go_at_call 48; refine (HCS.out _ _ _ (HS3.out.at_ 0 rfl) (HS3.out.ndat (i := 0) rfl)).mono ?_; rintro e w9 ⟨rfl, fp9, hL⟩; (have HSR := Lib.hid (HS3.out.call 0 rfl hL).tail); clear hL s0 s1; (have r0 := HSR.out.cell (k := 0) 0 rfl rfl); (have r1 := HSR.out.cell (k := 1) 0 rfl rfl); (have r2 := HSR.out.cell (k := 2) 0 rfl rfl); (have z0 := HSR.out.frz (k := 0) 0 rfl); (have z1 := HSR.out.frz (k := 1) 0 rfl); (have z2 := HSR.out.frz (k := 2) 0 rfl)))
      rw [HF.out]
      have HSF := Lib.hid (((HSR.out.setBlk (k := 0) 0 rfl (.slice none 0 0)).setBlk (k := 1) 0 rfl (.slice none 0 0)).setBlk (k := 2) 0 rfl (.slice none 0 0))
      have q0 := HSF.out.cell (k := 0) 0 rfl rfl
      have q1 := HSF.out.cell (k := 1) 0 rfl rfl
      have q2 := HSF.out.cell (k := 2) 0 rfl rfl
      exact bodyPost_ret (v := .tuple #[.agg zPoll.toArray, .bool false]) (by simp [results, Try.results28, go_sem, zPoll, q0, q1, q2]) rfl (zPo_ret2 HSF.out.bel0)
    | true =>
      have HF : Hid (Pl.stepPo p s = (t', true)) := Lib.hid (by unfold Pl.stepPo; rw [if_pos (by rw [HR.out]; exact ⟨HGD.out, rfl⟩), HR.out])
      go_wp2_with (first
        | (go_at_call 52; refine CI.mono ?_; rintro e w1 ⟨rfl, hb1⟩; (have HS1 := Lib.hid (HS.out.step hb1)); (have HRT1 := Lib.hid (rPoll.keep HRT0.out (w' := w1) fun b hb => hb1.block b (Nat.lt_of_lt_of_le hb HBW.out))); (have HBW1 := Lib.hid (Nat.le_trans HBW.out hb1.size)); (clear b0 b1 b2 r0 r1 r2 z0 z1 z2); clear hb1; (have b0 := HS1.out.cell (k := 0) 2 rfl rfl); (have b1 := HS1.out.cell (k := 1) 2 rfl rfl); (have b2 := HS1.out.cell (k := 2) 2 rfl rfl))
        | (go_at_call 66; refine (clonePoll_c p _ w1 B HRT1.out HBW1.out HWF.out).mono ?_; rintro e w2 ⟨cs5, fp5, rfl, ho, hnd, hnew, hb2⟩; obtain ⟨a0, b0', k0, a1, b1', k1, a2, b2', k2, rfl⟩ := own_formP ho; (have HS2 := Lib.hid (HS1.out.add hb2 (t := Mm.tow rPoll p _ _) ho hnd hnew)); clear ho hnd hnew hb2 b0 b1 b2; (have HS3 := Lib.hid ((HS2.out.alloc' rfl 31 [.slice a0 b0' k0, .slice a1 b1' k1, .slice a2 b2' k2]).toPtrP)); (have s0 := HS3.out.cell (k := 0) 2 rfl rfl); (have s1 := HS3.out.cell (k := 1) 2 rfl rfl))
        | (go_at_call 48; refine (HCS.out _ _ _ (HS3.out.at_ 0 rfl) (HS3.out.ndat (i := 0) rfl)).mono ?_; rintro e w9 ⟨rfl, fp9, hL⟩; obtain ⟨A10, n10, c10, A11, n11, c11, A12, n12, c12, f10, f11, f12, rfl, hs9⟩ := open_Poll (HS3.out.call 0 rfl hL); (have HSR := Lib.hid hs9); clear hL hs9 s0 s1; (have b0 := HSR.out.cell (k := 0) 0 rfl rfl); (have b1 := HSR.out.cell (k := 1) 0 rfl rfl); (have b2 := HSR.out.cell (k := 2) 0 rfl rfl); (have r0 := HSR.out.cell (k := 0) 4 rfl rfl); (have r1 := HSR.out.cell (k := 1) 4 rfl rfl); (have r2 := HSR.out.cell (k := 2) 4 rfl rfl); (have z0 := HSR.out.frz (k := 0) 4 rfl); (have z1 := HSR.out.frz (k := 1) 4 rfl); (have z2 := HSR.out.frz (k := 2) 4 rfl)))
      have HSF := Lib.hid (((HSR.out.setBlk (k := 0) 4 rfl (.slice A10 n10 c10)).setBlk (k := 1) 4 rfl (.slice A11 n11 c11)).setBlk (k := 2) 4 rfl (.slice A12 n12 c12))
      have q0 := HSF.out.cell (k := 0) 4 rfl rfl
      have q1 := HSF.out.cell (k := 1) 4 rfl rfl
      have q2 := HSF.out.cell (k := 2) 4 rfl rfl
      rw [HF.out]
      exact bodyPost_ret (v := .tuple #[.agg #[.slice A10 n10 c10, .slice A11 n11 c11, .slice A12 n12 c12], .bool true]) (by simp [results, Try.results28, go_sem, q0, q1, q2]) rfl (poll_ret2 (shutv_Poll (x := t') HSF.out.tail))
set_option maxRecDepth 100000 in
set_option maxHeartbeats 4000000 in
theorem specStepPoll_c (p : Poll) (cs : List Value) (s : VoteStep) (cs2 : List Value) (w : World) (B : Nat) (ht : rPoll.at_ w B p cs) (hs : rVoteStep.at_ w B s cs2) (hB : B ≤ w.heap.size) (hp : Pl.PS p) (hq : Pl.pollOk p = true → Pl.PW (Pl.pstep p s).1) :
    Calls Try.prog 29 #[.agg cs.toArray, .agg cs2.toArray] w (Mm.Ret2 rPoll w (Pl.stepPo p s).1 (Pl.stepPo p s).2) := by
  obtain ⟨A0, n0, c0, A1, n1, c1, A2, n2, c2, rfl, -⟩ := rPoll_at ht
  obtain ⟨rfl, hmi⟩ := rVoteStep_at hs
  have HRT := Lib.hid ht
  clear ht hs hmi
  go_enter Try.func29, Try.ntmps29
  go_upto_region 1 with fail
  obtain ⟨ga, hga⟩ : ∃ ga, w.heap.size = ga := ⟨_, rfl⟩
  obtain ⟨gs, hgs⟩ : ∃ gs, ga + 1 = gs := ⟨_, rfl⟩
  obtain ⟨gr, hgr⟩ : ∃ gr, gs + 1 = gr := ⟨_, rfl⟩
  obtain ⟨W0, hW0⟩ : ∃ W0, ((w.alloc (.cells #[.slice A0 n0 c0, .slice A1 n1 c1, .slice A2 n2 c2] 31)).alloc (.cells #[.int .i64 s.Kind, .int .i64 s.K] 56)).alloc (.cells #[.slice none 0 0, .slice none 0 0, .slice none 0 0] 31) = W0 := ⟨_, rfl⟩
  have HS := Lib.hid (((((Mm.SepF.start w).alloc' hga 31 [.slice A0 n0 c0, .slice A1 n1 c1, .slice A2 n2 c2]).alloc' (g := gs) (by rw [Mm.sz1, hga, hgs]) 56 [.int .i64 s.Kind, .int .i64 s.K]).alloc' (g := gr) (by rw [Mm.sz2, hga]; omega) 31 zPoll).atW hW0)
  rw [hW0, hga, hgs, hgr]
  have HGA := Lib.hid hga
  clear hW0 hga hgs hgr
  have HRT0 := Lib.hid (rPoll.keep HRT.out (w' := W0) fun b hb => HS.out.bel0.block b (by omega))
  have HBW := Lib.hid (Nat.le_trans hB HS.out.chg.size)
  have b0 := HS.out.cell (k := 0) 2 rfl rfl
  have b1 := HS.out.cell (k := 1) 2 rfl rfl
  have b2 := HS.out.cell (k := 2) 2 rfl rfl
  have r0 := HS.out.cell (k := 0) 0 rfl rfl
  have r1 := HS.out.cell (k := 1) 0 rfl rfl
  have r2 := HS.out.cell (k := 2) 0 rfl rfl
  have z0 := HS.out.frz (k := 0) 0 rfl
  have z1 := HS.out.frz (k := 1) 0 rfl
  have z2 := HS.out.frz (k := 2) 0 rfl
  obtain ⟨gd, hgd⟩ : ∃ gd, Pl.pollOk p = gd := ⟨_, rfl⟩
  have HGD := Lib.hid hgd
  clear hgd
  have CI := specGoodPoll_c p _ W0 B HRT0.out HBW.out hp
  rw [HGD.out] at CI
  cases gd with
  | false =>
    have HF : Hid (Pl.stepPo p s = (Pl.zPo, false)) := if_neg (fun h => by rw [HGD.out] at h; cases h.1)
    clear hq
    go_wp2_with (go_at_call 30; refine CI.mono ?_; rintro e w1 ⟨rfl, hb1⟩; (have HSR := Lib.hid (HS.out.step hb1)); (clear b0 b1 b2 r0 r1 r2 z0 z1 z2); (have r0 := HSR.out.cell (k := 0) 0 rfl rfl); (have r1 := HSR.out.cell (k := 1) 0 rfl rfl); (have r2 := HSR.out.cell (k := 2) 0 rfl rfl); (have z0 := HSR.out.frz (k := 0) 0 rfl); (have z1 := HSR.out.frz (k := 1) 0 rfl); (have z2 := HSR.out.frz (k := 2) 0 rfl))
    rw [HF.out]
    have HSF := Lib.hid (((HSR.out.setBlk (k := 0) 0 rfl (.slice none 0 0)).setBlk (k := 1) 0 rfl (.slice none 0 0)).setBlk (k := 2) 0 rfl (.slice none 0 0))
    have q0 := HSF.out.cell (k := 0) 0 rfl rfl
    have q1 := HSF.out.cell (k := 1) 0 rfl rfl
    have q2 := HSF.out.cell (k := 2) 0 rfl rfl
    exact bodyPost_ret (v := .tuple #[.agg zPoll.toArray, .bool false]) (by simp [results, Try.results29, go_sem, zPoll, q0, q1, q2]) rfl (zPo_ret2 HSF.out.bel0)
  | true =>
    have HWF := Lib.hid (hp.pw HGD.out)
    have hz' := hq HGD.out
    clear hq
    obtain ⟨⟨t', is⟩, hr⟩ : ∃ q, Pl.pstep p s = q := ⟨_, rfl⟩
    have HR := Lib.hid hr
    rw [hr] at hz'
    have HZ' := Lib.hid hz'
    clear hr hz'
    cases is with
    | false =>
      have HF : Hid (Pl.stepPo p s = (Pl.zPo, false)) := if_neg (fun h => by rw [HR.out] at h; cases h.2)
      go_wp2_with (go_at_call 30; refine CI.mono ?_; rintro e W1 ⟨rfl, hb1⟩; (have HS1 := Lib.hid (HS.out.step hb1)); (have HRT1 := Lib.hid (rPoll.keep HRT0.out (w' := W1) fun b hb => hb1.block b (Nat.lt_of_lt_of_le hb HBW.out))); (have HBW1 := Lib.hid (Nat.le_trans HBW.out hb1.size)); (clear b0 b1 b2 r0 r1 r2 z0 z1 z2); clear hb1; (have b0 := HS1.out.cell (k := 0) 2 rfl rfl); (have b1 := HS1.out.cell (k := 1) 2 rfl rfl); (have b2 := HS1.out.cell (k := 2) 2 rfl rfl); (have s0 := HS1.out.cell (k := 0) 1 rfl rfl); (have s1 := HS1.out.cell (k := 1) 1 rfl rfl))
      refine Mm.wp_region_give 9 (fun i => match i with | 1 => some (gPo p) | 3 => some (gPo2 t' false) | 7 => some (Mm.gPtr 31 zPoll) | 8 => some (Mm.gSto 31) | _ => none) (fun i => match i with | 3 => [1] | 8 => [7] | _ => []) (fun _ => []) (F := []) (D := fun w' => ∃ x : Und W1, w' = und W1 x) (fun X us h => Mm.sep_und h) (by kernel_rfl) (by kernel_rfl) (by kernel_rfl) (Mm.SepF.startDrew _) ?_
      repeat (refine Mm.give_det (by rfl) (by rfl) (by rfl) (fun K hK => ?_); go_big_quiet_op; refine hK _ ?_; clear hK K)
      refine Mm.give_op0 14 (by rfl) rfl (by rfl) (by rfl) (by rfl) (by rfl) gPo_in (fun others X hX => ?_) ?_
      · go_wp2_with (go_at_call 50; refine (l8Own_c p _ X B (rPoll.keep HRT1.out (fun b hb => hX.bel0.block b (Nat.lt_of_lt_of_le hb HBW1.out))) (Nat.le_trans HBW1.out hX.chg.size) HWF.out).mono ?_; rintro e w5 ⟨cs5, fp5, rfl, ho, hnd, hnew, hb5⟩; obtain ⟨a0, b0', k0, a1, b1', k1, a2, b2', k2, rfl⟩ := own_formP ho)
        exact ⟨rfl, rfl, _, ⟨a0, b0', k0, a1, b1', k1, a2, b2', k2, fp5, rfl, rfl⟩, hX.add hb5 (t := Mm.tow rPoll p _ _) ho hnd hnew⟩
      rintro v ds ⟨a0, b0', k0, a1, b1', k1, a2, b2', k2, fp5, rfl, rfl⟩
      simp only [Act.put, List.setIfInBounds_toArray, List.set_cons_succ, List.set_cons_zero]
      repeat (refine Mm.give_det (by rfl) (by rfl) (by rfl) (fun K hK => ?_); go_big_quiet_op; refine hK _ ?_; clear hK K)
      refine Mm.give_op1 16 1 (by rfl) rfl (by rfl) (by rfl) (by rfl) rfl (by rfl) _ rfl gPo2_in (fun others X hX => ?_) ?_
      · go_wp2_with (go_at_call 49; refine (l8Step_c p s _ fp5 X (hX.at_ 0 rfl) (hX.ndat (i := 0) rfl) HWF.out).mono ?_; rintro e w6 ⟨cs6, fp6, rfl, hL⟩; rw [HR.out] at hL; rw [HR.out])
        have h9 := hX.call 0 rfl hL
        obtain ⟨a0, b0', k0, a1, b1', k1, a2, b2', k2, rfl⟩ := own_formP (h9.at_ 0 rfl)
        exact ⟨rfl, rfl, _, ⟨a0, b0', k0, a1, b1', k1, a2, b2', k2, fp6, rfl, rfl⟩, h9⟩
      rintro v ds ⟨a0, b0', k0, a1, b1', k1, a2, b2', k2, fp6, rfl, rfl⟩
      simp only [Act.put, List.setIfInBounds_toArray, List.set_cons_succ, List.set_cons_zero]
      repeat (refine Mm.give_det (by rfl) (by rfl) (by rfl) (fun K hK => ?_); go_big_quiet_op; refine hK _ ?_; clear hK K)
      refine Mm.give_op0 6 (by rfl) rfl (by rfl) (by rfl) (by rfl) (by rfl) Mm.gPtr_in (fun others X hX => ?_) ?_
      · go_wp2
        exact Mm.gvq_ptr hX rfl rfl rfl
      rintro v ds ⟨gp, rfl, rfl⟩
      simp only [Act.put, List.setIfInBounds_toArray, List.set_cons_succ, List.set_cons_zero]
      refine Mm.give_store 31 gp zPoll [.slice a0 b0' k0, .slice a1 b1' k1, .slice a2 b2' k2] 7 (by rfl) rfl rfl (by rfl) rfl (by rfl) rfl rfl (fun others X hX => ?_) ?_
      · have HSR := Lib.hid hX
        have r0 := HSR.out.cell (k := 0) 0 rfl rfl
        have r1 := HSR.out.cell (k := 1) 0 rfl rfl
        have r2 := HSR.out.cell (k := 2) 0 rfl rfl
        have z0 := HSR.out.frz (k := 0) 0 rfl
        have z1 := HSR.out.frz (k := 1) 0 rfl
        have z2 := HSR.out.frz (k := 2) 0 rfl
        go_wp2
        exact ⟨rfl, rfl, _, rfl, (((hX.setBlk (k := 0) 0 rfl (.slice a0 b0' k0)).setBlk (k := 1) 0 rfl (.slice a1 b1' k1)).setBlk (k := 2) 0 rfl (.slice a2 b2' k2))⟩
      refine Mm.give_nil ?_
      rintro X hX
      have HS3 := Lib.hid (HS1.out.join (us := [Mm.tow rPoll t' [.slice a0 b0' k0, .slice a1 b1' k1, .slice a2 b2' k2] fp6, Mm.tblk gp 31 [.slice a0 b0' k0, .slice a1 b1' k1, .slice a2 b2' k2]]) hX)
      clear hX
      have HSR := Lib.hid (HS3.out.sel [2, 3, 4] (by decide) rfl)
      clear b0 b1 b2 s0 s1
      have r0 := HSR.out.cell (k := 0) 0 rfl rfl
      have r1 := HSR.out.cell (k := 1) 0 rfl rfl
      have r2 := HSR.out.cell (k := 2) 0 rfl rfl
      have z0 := HSR.out.frz (k := 0) 0 rfl
      have z1 := HSR.out.frz (k := 1) 0 rfl
      have z2 := HSR.out.frz (k := 2) 0 rfl
      go_wp2
      rw [HF.out]
      have HSF := Lib.hid (((HSR.out.setBlk (k := 0) 0 rfl (.slice none 0 0)).setBlk (k := 1) 0 rfl (.slice none 0 0)).setBlk (k := 2) 0 rfl (.slice none 0 0))
      have q0 := HSF.out.cell (k := 0) 0 rfl rfl
      have q1 := HSF.out.cell (k := 1) 0 rfl rfl
      have q2 := HSF.out.cell (k := 2) 0 rfl rfl
      exact bodyPost_ret (v := .tuple #[.agg zPoll.toArray, .bool false]) (by simp [results, Try.results29, go_sem, zPoll, q0, q1, q2]) rfl (zPo_ret2 HSF.out.bel0)
    | true =>
      have HF : Hid (Pl.stepPo p s = (t', true)) := Lib.hid (by unfold Pl.stepPo; rw [if_pos (by rw [HR.out]; exact ⟨HGD.out, rfl⟩), HR.out])
      go_wp2_with (go_at_call 30; refine CI.mono ?_; rintro e W1 ⟨rfl, hb1⟩; (have HS1 := Lib.hid (HS.out.step hb1)); (have HRT1 := Lib.hid (rPoll.keep HRT0.out (w' := W1) fun b hb => hb1.block b (Nat.lt_of_lt_of_le hb HBW.out))); (have HBW1 := Lib.hid (Nat.le_trans HBW.out hb1.size)); (clear b0 b1 b2 r0 r1 r2 z0 z1 z2); clear hb1; (have b0 := HS1.out.cell (k := 0) 2 rfl rfl); (have b1 := HS1.out.cell (k := 1) 2 rfl rfl); (have b2 := HS1.out.cell (k := 2) 2 rfl rfl); (have s0 := HS1.out.cell (k := 0) 1 rfl rfl); (have s1 := HS1.out.cell (k := 1) 1 rfl rfl))
      refine Mm.wp_region_give 9 (fun i => match i with | 1 => some (gPo p) | 3 => some (gPo2 t' true) | 7 => some (Mm.gPtr 31 zPoll) | 8 => some (Mm.gSto 31) | _ => none) (fun i => match i with | 3 => [1] | 8 => [7] | _ => []) (fun _ => []) (F := []) (D := fun w' => ∃ x : Und W1, w' = und W1 x) (fun X us h => Mm.sep_und h) (by kernel_rfl) (by kernel_rfl) (by kernel_rfl) (Mm.SepF.startDrew _) ?_
      repeat (refine Mm.give_det (by rfl) (by rfl) (by rfl) (fun K hK => ?_); go_big_quiet_op; refine hK _ ?_; clear hK K)
      refine Mm.give_op0 14 (by rfl) rfl (by rfl) (by rfl) (by rfl) (by rfl) gPo_in (fun others X hX => ?_) ?_
      · go_wp2_with (go_at_call 50; refine (l8Own_c p _ X B (rPoll.keep HRT1.out (fun b hb => hX.bel0.block b (Nat.lt_of_lt_of_le hb HBW1.out))) (Nat.le_trans HBW1.out hX.chg.size) HWF.out).mono ?_; rintro e w5 ⟨cs5, fp5, rfl, ho, hnd, hnew, hb5⟩; obtain ⟨a0, b0', k0, a1, b1', k1, a2, b2', k2, rfl⟩ := own_formP ho)
        exact ⟨rfl, rfl, _, ⟨a0, b0', k0, a1, b1', k1, a2, b2', k2, fp5, rfl, rfl⟩, hX.add hb5 (t := Mm.tow rPoll p _ _) ho hnd hnew⟩
      rintro v ds ⟨a0, b0', k0, a1, b1', k1, a2, b2', k2, fp5, rfl, rfl⟩
      simp only [Act.put, List.setIfInBounds_toArray, List.set_cons_succ, List.set_cons_zero]
      repeat (refine Mm.give_det (by rfl) (by rfl) (by rfl) (fun K hK => ?_); go_big_quiet_op; refine hK _ ?_; clear hK K)
      refine Mm.give_op1 16 1 (by rfl) rfl (by rfl) (by rfl) (by rfl) rfl (by rfl) _ rfl gPo2_in (fun others X hX => ?_) ?_
      · go_wp2_with (go_at_call 49; refine (l8Step_c p s _ fp5 X (hX.at_ 0 rfl) (hX.ndat (i := 0) rfl) HWF.out).mono ?_; rintro e w6 ⟨cs6, fp6, rfl, hL⟩; rw [HR.out] at hL; rw [HR.out])
        have h9 := hX.call 0 rfl hL
        obtain ⟨a0, b0', k0, a1, b1', k1, a2, b2', k2, rfl⟩ := own_formP (h9.at_ 0 rfl)
        exact ⟨rfl, rfl, _, ⟨a0, b0', k0, a1, b1', k1, a2, b2', k2, fp6, rfl, rfl⟩, h9⟩
      rintro v ds ⟨a0, b0', k0, a1, b1', k1, a2, b2', k2, fp6, rfl, rfl⟩
      simp only [Act.put, List.setIfInBounds_toArray, List.set_cons_succ, List.set_cons_zero]
      repeat (refine Mm.give_det (by rfl) (by rfl) (by rfl) (fun K hK => ?_); go_big_quiet_op; refine hK _ ?_; clear hK K)
      refine Mm.give_op0 6 (by rfl) rfl (by rfl) (by rfl) (by rfl) (by rfl) Mm.gPtr_in (fun others X hX => ?_) ?_
      · go_wp2
        exact Mm.gvq_ptr hX rfl rfl rfl
      rintro v ds ⟨gp, rfl, rfl⟩
      simp only [Act.put, List.setIfInBounds_toArray, List.set_cons_succ, List.set_cons_zero]
      refine Mm.give_store 31 gp zPoll [.slice a0 b0' k0, .slice a1 b1' k1, .slice a2 b2' k2] 7 (by rfl) rfl rfl (by rfl) rfl (by rfl) rfl rfl (fun others X hX => ?_) ?_
      · have HSR := Lib.hid hX
        have r0 := HSR.out.cell (k := 0) 0 rfl rfl
        have r1 := HSR.out.cell (k := 1) 0 rfl rfl
        have r2 := HSR.out.cell (k := 2) 0 rfl rfl
        have z0 := HSR.out.frz (k := 0) 0 rfl
        have z1 := HSR.out.frz (k := 1) 0 rfl
        have z2 := HSR.out.frz (k := 2) 0 rfl
        go_wp2
        exact ⟨rfl, rfl, _, rfl, (((hX.setBlk (k := 0) 0 rfl (.slice a0 b0' k0)).setBlk (k := 1) 0 rfl (.slice a1 b1' k1)).setBlk (k := 2) 0 rfl (.slice a2 b2' k2))⟩
      refine Mm.give_nil ?_
      rintro X hX
      have HS3 := Lib.hid (HS1.out.join (us := [Mm.tow rPoll t' [.slice a0 b0' k0, .slice a1 b1' k1, .slice a2 b2' k2] fp6, Mm.tblk gp 31 [.slice a0 b0' k0, .slice a1 b1' k1, .slice a2 b2' k2]]) hX)
      clear hX
      clear b0 b1 b2 s0 s1
      have b0 := HS3.out.cell (k := 0) 1 rfl rfl
      have b1 := HS3.out.cell (k := 1) 1 rfl rfl
      have b2 := HS3.out.cell (k := 2) 1 rfl rfl
      go_wp2_with (go_at_call 50; refine (l8Own_c t' _ _ X.heap.size (HS3.out.rd 0 rfl) (Nat.le_refl _) HZ'.out).mono ?_; rintro e w5 ⟨cs5, fp5, rfl, ho, hnd, hnew, hb5⟩; obtain ⟨A10, n10, c10, A11, n11, c11, A12, n12, c12, rfl⟩ := own_formP ho; (have HSR := Lib.hid (HS3.out.add hb5 (t := Mm.tow rPoll t' _ _) ho hnd hnew)); clear ho hnd hnew hb5 b0 b1 b2; (have r0 := HSR.out.cell (k := 0) 3 rfl rfl); (have r1 := HSR.out.cell (k := 1) 3 rfl rfl); (have r2 := HSR.out.cell (k := 2) 3 rfl rfl); (have z0 := HSR.out.frz (k := 0) 3 rfl); (have z1 := HSR.out.frz (k := 1) 3 rfl); (have z2 := HSR.out.frz (k := 2) 3 rfl))
      have HSF := Lib.hid (((HSR.out.setBlk (k := 0) 3 rfl (.slice A10 n10 c10)).setBlk (k := 1) 3 rfl (.slice A11 n11 c11)).setBlk (k := 2) 3 rfl (.slice A12 n12 c12))
      have q0 := HSF.out.cell (k := 0) 3 rfl rfl
      have q1 := HSF.out.cell (k := 1) 3 rfl rfl
      have q2 := HSF.out.cell (k := 2) 3 rfl rfl
      rw [HF.out]
      exact bodyPost_ret (v := .tuple #[.agg #[.slice A10 n10 c10, .slice A11 n11 c11, .slice A12 n12 c12], .bool true]) (by simp [results, Try.results29, go_sem, q0, q1, q2]) rfl (poll_ret2 HSF.out)
end Go.Proofs.Ytkhchfbpmmiopaa

/-
  Contracts: a drawn election, good or not (chapter 8). No conditions.
-/
namespace Go.Proofs.Ytkhchfbpmmiopaa
open Go.RowKit
attribute [local go_sem] und_cell cha_cell World.cell?_alloc_some
theorem Pl.playPoll_ok {ages : List Int} {l : List VoteStep} {p : Poll} {bs : List Bool} (h : Pl.playPoll ages l = (p, bs, true)) : Pl.PW p := by
  unfold Pl.playPoll at h
  split at h
  · rename_i hh
    injection h with h1 h2
    have hi := (Pl.playP_pw hh.1 l).1
    rw [h1] at hi
    exact hi
  · injection h with _ h
    injection h with _ h
    cases h
theorem Pl.PS.first {p : Poll} (h : Pl.PS p) {x : Node} (hx : p.Nodes[0]? = some x) (t v : Int) : Pl.PS { p with Nodes := p.Nodes.set 0 ⟨t, v, x.Age, x.Heard, x.Role⟩ } := by
  have hl : (p.Nodes.set 0 ⟨t, v, x.Age, x.Heard, x.Role⟩).length = p.Nodes.length := List.length_set
  refine ⟨by show 1 ≤ (p.Nodes.set 0 _).length; rw [hl]; exact h.n1, by show (p.Nodes.set 0 _).length ≤ 5; rw [hl]; exact h.n5, h.lets, h.leads, fun k m hm => ?_, h.letr, fun l hl' => by show Pl.LeadOk (p.Nodes.set 0 _).length l; rw [hl]; exact h.lead l hl'⟩
  show Pl.NodeSemi (p.Nodes.set 0 _).length m
  rw [hl]
  rcases Pl.pset_get hm with ⟨_, rfl, _⟩ | ⟨_, hm⟩
  · have := h.node 0 x hx
    exact ⟨this.age, this.heard, this.hin, this.role, this.none⟩
  · exact h.node k m hm
theorem Pl.PW.letter {p : Poll} (h : Pl.PW p) (f t m : Int) : Pl.PS { p with Letters := p.Letters ++ [⟨f, t, m, false, 0⟩] } := by
  have hs := h.ps
  refine ⟨hs.n1, hs.n5, by have := h.lets; simp; omega, hs.leads, hs.node, fun x hx => ?_, hs.lead⟩
  rcases List.mem_append.1 hx with hx | hx
  · exact hs.letr x hx
  · rw [List.mem_singleton.1 hx]; exact ⟨⟨show (0:Int) ≤ 0 by omega, show (0:Int) ≤ 9 by omega⟩, fun _ => rfl⟩
set_option maxRecDepth 100000 in
set_option maxHeartbeats 4000000 in
theorem poll_c (code : List Int) (A : Option Addr) (n c g K : Nat) (w : World) (B : Nat) (hc : Mm.SlAt Mm.u8 w B code A n c) (hBg : B ≤ g) (h : (Mm.tcur 74 A n c g K).holds w) (hK : K < 4611686018427370000) :
    Calls Try.prog 64 #[.pointer (some ⟨g, 0, none⟩)] w fun e w' => ∃ (p : Poll) (cs : List Value) (fp : List Nat), e = .returned (.agg cs.toArray) ∧ Pl.PS p ∧ Mm.SepF [g] w w' [Mm.tow rPoll p cs fp, Mm.tcur 74 A n c g (K + 2000)] := by
  have hgw : g < w.heap.size := (Mm.tcur 74 A n c g K).lt h g (by simp [Mm.tcur])
  have HC := Lib.hid hc
  obtain ⟨gr, hgr⟩ : ∃ gr, w.heap.size = gr := ⟨_, rfl⟩
  obtain ⟨W0, hW0⟩ : ∃ W0, w.alloc (.cells #[.slice none 0 0, .slice none 0 0, .slice none 0 0] 31) = W0 := ⟨_, rfl⟩
  have H0 : Mm.SepF [g] w w [Mm.tcur 74 A n c g K] := Mm.SepF.one (Mm.tcur 74 A n c g K) w h (by simp [Mm.tcur])
  have HS := Lib.hid ((H0.alloc' hgr 31 zPoll).atW hW0)
  clear hc h H0
  go_enter Try.func64, Try.ntmps64
  go_upto_region 1 with fail
  clear hW0
  go_upto_region 2 with first
    | (go_at_call 41; refine (agesCur_c code A n c g _ _ B (HC.out.keep fun b hb => HS.out.chg.block b (by omega) (by simp; omega)) hBg (HS.out.at_ 1 rfl) (by omega)).mono ?_; rintro e w1 ⟨la, A0, m0, d0, fa, rfl, hla, hS⟩; (have HS1 := Lib.hid (HS.out.callAll 1 rfl hS)); clear hS)
    | (go_at_call 42; refine (voteSteps_c code A n c g _ _ B (HC.out.keep fun b hb => HS1.out.chg.block b (by omega) (by simp; omega)) hBg (HS1.out.at_ 3 rfl) (by omega)).mono ?_; rintro e w2 ⟨l, A1, n1, c1, fps, rfl, hl, hS⟩; (have HS2 := Lib.hid (HS1.out.callAll 3 rfl hS)); clear hS)
    | (go_at_call 8; refine (specPlayPoll_c la l A0 m0 d0 A1 n1 c1 w2 _ ((HS2.out.sl 2 rfl).weak (HS2.out.sl 2 rfl).olt) ((HS2.out.sl 4 rfl).weak (HS2.out.sl 4 rfl).olt) (Nat.le_refl _)).mono ?_; rintro e w3 ⟨cs, A2, n2, c2, fp0, fp1, rfl, hs3⟩; obtain ⟨a0, p0, k0, a1, p1, k1, a2, p2, k2, rfl⟩ := own_formP (hs3.at_ 0 rfl); (have HS3 := Lib.hid (HS2.out.join hs3)); clear hs3)
  obtain ⟨x, bs, ok, hr⟩ : ∃ x bs ok, Pl.playPoll la l = (x, bs, ok) := ⟨_, _, _, rfl⟩
  have HRR := Lib.hid hr
  rw [hr] at HS3 ⊢
  clear hr
  dsimp only at HS3 ⊢
  obtain ⟨g4, hg4⟩ : ∃ g4, w3.heap.size = g4 := ⟨_, rfl⟩
  obtain ⟨W4, hW4⟩ : ∃ W4, w3.alloc (.cells #[.slice a0 p0 k0, .slice a1 p1 k1, .slice a2 p2 k2] 31) = W4 := ⟨_, rfl⟩
  have HS4 := Lib.hid ((HS3.out.alloc' hg4 31 [.slice a0 p0 k0, .slice a1 p1 k1, .slice a2 p2 k2]).atW hW4)
  rw [hW4, hg4]
  clear hW4 hg4
  have HS5 := Lib.hid ((HS4.out.toPtrP).sel [0, 2, 7] (by decide) rfl)
  have HS6 := Lib.hid (HS4.out.sel [0, 3, 8] (by decide) rfl)
  clear HS4 HS3 HS2 HS1 HS
  go_upto_if 16 with fail
  go_cut [] (fun wx => ∃ (y : Poll) (fp : List Nat), Hid (Pl.PW y ∧ Mm.SepF [g] w wx [Mm.tptr rPoll 31 g4 y fp, Mm.tblk gr 31 zPoll, Mm.tcur 74 A n c g (K + 1100)]))
  case first =>
    cases ok with
    | true =>
      have HG := Lib.hid (Pl.playPoll_ok HRR.out)
      go_wp2_with fail
      go_meet
      exact ⟨x, _, Lib.hid ⟨HG.out, HS5.out.more 2 rfl (by omega)⟩⟩
    | false =>
      have HSL := ints_lit W4 [0, 0, 0] 3 rfl (fun x hx => by simp at hx; rw [hx]; unfold Mm.I64; omega) (by unfold maxLen; omega)
      have CN := specNewPoll_c [0, 0, 0] (some ⟨W4.heap.size, 0, none⟩) 3 3 _ _ (HSL.weak HSL.olt) (Nat.le_refl _)
      rw [show Pl.newPoll [0, 0, 0] = (Pl.newPo [0, 0, 0], true) from rfl] at CN
      have HS6A := Lib.hid (HS6.out.step (below_new (Below.refl _ _) (.cells ([0, 0, 0].map (fun x => Value.int .i64 x)).toArray 3)))
      clear HSL
      go_wp2_with (go_at_call 36; (refine CN.mono ?_); clear CN; rintro e w5 ⟨cs, fp5, rfl, ho, hnd, hnew, hb5⟩; obtain ⟨e0, q0, j0, e1, q1, j1, e2, q2, j2, rfl⟩ := own_formP ho; (have HS7 := Lib.hid (HS6A.out.add hb5 (t := Mm.tow rPoll (Pl.newPo [0, 0, 0]) _ _) ho hnd hnew)); clear ho hnd hnew hb5; (have r0 := HS7.out.cell (k := 0) 1 rfl rfl); (have r1 := HS7.out.cell (k := 1) 1 rfl rfl); (have r2 := HS7.out.cell (k := 2) 1 rfl rfl); (have z0 := HS7.out.frz (k := 0) 1 rfl); (have z1 := HS7.out.frz (k := 1) 1 rfl); (have z2 := HS7.out.frz (k := 2) 1 rfl))
      go_meet
      have HS8 := Lib.hid (((HS7.out.setBlk (k := 0) 1 rfl (.slice e0 q0 j0)).setBlk (k := 1) 1 rfl (.slice e1 q1 j1)).setBlk (k := 2) 1 rfl (.slice e2 q2 j2))
      have HS9 := Lib.hid ((HS8.out.sel [1, 0, 2, 3] (by decide) rfl).toPtrP)
      exact ⟨Pl.newPo [0, 0, 0], _, Lib.hid ⟨(Pl.playP_pw (ages := [0, 0, 0]) rfl []).1, HS9.out.more 2 rfl (by omega)⟩⟩
  case rest =>
  clear HS5 HS6 HRR
  obtain ⟨y, fp, HY⟩ := hcut
  obtain ⟨W5, rfl⟩ : ∃ W5 : World, W5 = w1 := ⟨_, rfl⟩
  have HS := Lib.hid HY.out.2
  have HGY := Lib.hid HY.out.1
  clear HY
  go_upto_block 0 with ((go_at_call 65); (refine (pick_c code A n c g _ _ _ B (HC.out.keep fun b hb => HS.out.chg.block b (by omega) (by simp; omega)) hBg (HS.out.at_ 2 rfl) (by omega) (by omega)).mono ?_); (rintro e w1 ⟨b2, rfl, b20, b2x, b21, hL⟩); ((have HS := Lib.hid (HS.out.call 2 rfl hL))); (clear hL))
  obtain ⟨A0, n0, c0, A1', n1', c1', A2', n2', c2', f0, f1, f2, rfl, hs⟩ := open_Poll HS.out
  have HSo := Lib.hid hs
  have hy1 := HGY.out.n1
  have hy60 := HGY.out.lets
  have hl0 : y.Nodes.length = n0 := by obtain ⟨A', n', c', hv, q1, _⟩ := (HSo.out.sl 1 rfl).form; injection hv with _ q2 _; omega
  have hl1 : y.Letters.length = n1' := by obtain ⟨A', n', c', hv, q1, _⟩ := (HSo.out.sl 2 rfl).form; injection hv with _ q2 _; omega
  have HL1 := Lib.hid hl1
  obtain ⟨gn, hgn, -, -⟩ := Mm.sl_addr (HSo.out.sl 1 rfl) (by omega)
  subst hgn
  obtain ⟨nd, hnd⟩ : ∃ nd, y.Nodes[0]? = some nd := ⟨_, List.getElem?_eq_getElem (by omega)⟩
  have HND := Lib.hid hnd
  have hn01 : (0 : Int) < (n0 : Nat) := by omega
  have hn02 : 0 < n0 := by omega
  have hn1 : n1' ≤ 60 := by omega
  clear hs hnd hl0 hl1
  go_cut [] (fun wx => ∃ (t : Poll) (fp : List Nat), Hid (Pl.PS t) ∧ Hid (Mm.SepF [g] w wx [Mm.tptr rPoll 31 g4 t fp, Mm.tblk gr 31 zPoll, Mm.tcur 74 A n c g (K + 1110)]))
  case first =>
    by_cases h0 : b2 = 0
    · subst h0
      have b0 := HSo.out.cell (k := 0) 0 rfl rfl
      have HA := Lib.hid ((HSo.out.alloc' rfl 3 [.int .i64 200, .int .i64 201]).step (Below.refl _ _).drew)
      go_wp2
      go_region_law (first
        | (go_simp; go_at_call 77; refine (among_c code A n c g _ [200, 201] _ 2 _ B (HC.out.keep fun b hb => HA.out.chg.block b (by omega) (by simp; omega)) hBg (HA.out.at_ 6 rfl) (by omega) (HA.out.at_ 0 rfl) (by have := HSo.out.chg.size; omega) rfl (by omega) (by omega)).mono ?_; rintro e w7 ⟨v, rfl, hv, hL⟩; (have HS2 := Lib.hid ((HA.out.call 6 rfl hL).tail)); clear hL; (obtain ⟨AH, mH, dH, u0, u1, -, -, -, -, i0, i1, -, -⟩ := node_cells (HS2.out.sl 1 rfl) (HS2.out.ndat (i := 1) rfl) HND.out); (have z0 := (HS2.out.sl 1 rfl).frozen 0); (have y0 := HS2.out.cell (k := 0) 0 rfl rfl)))
      all_goals
        have hvi : Mm.I64 v := by simp only [List.mem_cons, List.not_mem_nil, or_false] at hv; unfold Mm.I64; omega
        go_wp2
        go_meet
        have HS7 := Lib.hid (HS2.out.nodeNum (k := 0) (m := 0) (v := v) 1 rfl HND.out (by omega) (fun cs fx hh => rNode_set0 hh hvi))
        have HS8 := Lib.hid (shut_Poll (x := { y with Nodes := y.Nodes.set 0 ⟨v, nd.Voted, nd.Age, nd.Heard, nd.Role⟩ }) HS7.out)
        exact ⟨_, _, Lib.hid (HGY.out.ps.first HND.out v nd.Voted), Lib.hid (HS8.out.more 2 rfl (by omega))⟩
    have q0 : (b2 == 0) = false := by simpa using h0
    by_cases h1 : b2 = 1
    · subst h1
      have b0 := HSo.out.cell (k := 0) 0 rfl rfl
      have HA := Lib.hid (HSo.out.step (Below.refl _ _).drew)
      go_wp2
      go_region_law (first
        | (go_simp; go_at_call 65; refine (pick_c code A n c g _ _ _ B (HC.out.keep fun b hb => HA.out.chg.block b (by omega) (by simp; omega)) hBg (HA.out.at_ 5 rfl) (by omega) (by omega)).mono ?_; rintro e w7 ⟨b3, rfl, b30, b3x, b31, hL⟩; (have HS2 := Lib.hid (HA.out.call 5 rfl hL)); clear hL; (obtain ⟨AH, mH, dH, u0, u1, -, -, -, -, i0, i1, -, -⟩ := node_cells (HS2.out.sl 1 rfl) (HS2.out.ndat (i := 1) rfl) HND.out); (have z0 := (HS2.out.sl 1 rfl).frozen 1); (have y0 := HS2.out.cell (k := 0) 0 rfl rfl); (have hw3 : IntKind.i64.wrap (b3 - 1) = b3 - 1 := IntWalk.i64_in _ (by omega))))
      all_goals
        have hvi : Mm.I64 (b3 - 1) := by unfold Mm.I64; omega
        go_wp2
        go_meet
        have HS7 := Lib.hid (HS2.out.nodeNum (k := 0) (m := 1) (v := b3 - 1) 1 rfl HND.out (by omega) (fun cs fx hh => rNode_set1 hh hvi))
        have HS8 := Lib.hid (shut_Poll (x := { y with Nodes := y.Nodes.set 0 ⟨nd.Term, b3 - 1, nd.Age, nd.Heard, nd.Role⟩ }) HS7.out)
        exact ⟨_, _, Lib.hid (HGY.out.ps.first HND.out nd.Term (b3 - 1)), Lib.hid (HS8.out.more 2 rfl (by omega))⟩
    have q1 : (b2 == 1) = false := by simpa using h1
    by_cases h2 : b2 = 2
    · subst h2
      have b1 := HSo.out.cell (k := 1) 0 rfl rfl
      have HA := Lib.hid (HSo.out.step (Below.refl _ _).drew)
      obtain ⟨iT, qT, qT0, qT1, qT2⟩ := info_parts Try.infoLetter
      go_wp2
      go_region_law (first
        | (go_simp; go_at_call 65; refine (pick_c code A n c g _ _ _ B (HC.out.keep fun b hb => HP2.out.chg.block b (by omega) (by simp; omega)) hBg (HP2.out.at_ 5 rfl) (by omega) (by omega)).mono ?_; rintro e w9 ⟨c5, rfl, c50, c5x, c51, hL⟩; (have HP3 := Lib.hid (HP2.out.call 5 rfl hL)); clear hL; (have y_c5 := HP3.out.cell (k := 1) 0 rfl rfl))
        | (go_simp; go_at_call 65; refine (pick_c code A n c g _ _ _ B (HC.out.keep fun b hb => HP1.out.chg.block b (by omega) (by simp; omega)) hBg (HP1.out.at_ 5 rfl) (by omega) (by omega)).mono ?_; rintro e w8 ⟨c4, rfl, c40, c4x, c41, hL⟩; (have HP2 := Lib.hid (HP1.out.call 5 rfl hL)); clear hL; (have y_c4 := HP2.out.cell (k := 1) 0 rfl rfl))
        | (go_simp; go_at_call 65; refine (pick_c code A n c g _ _ _ B (HC.out.keep fun b hb => HA.out.chg.block b (by omega) (by simp; omega)) hBg (HA.out.at_ 5 rfl) (by omega) (by omega)).mono ?_; rintro e w7 ⟨c3, rfl, c30, c3x, c31, hL⟩; (have HP1 := Lib.hid (HA.out.call 5 rfl hL)); clear hL; (have y_c3 := HP1.out.cell (k := 1) 0 rfl rfl))
        | ((have hx5 : Mm.I64 c3 ∧ Mm.I64 c4 ∧ Mm.I64 c5 ∧ Mm.I64 0 := by unfold Mm.I64; omega); obtain ⟨l0, ho3, hnext⟩ := HP3.out.push0 (W2 := w9.alloc (.cells #[.int .i64 c3, .int .i64 c4, .int .i64 c5, .bool false, .int .i64 0] 84)) (x := (⟨c3, c4, c5, false, 0⟩ : Letter)) (cx := [.int .i64 c3, .int .i64 c4, .int .i64 c5, .bool false, .int .i64 0]) 2 rfl (below_new (Below.refl _ _) _) (rLetter_own_mk (x := ⟨c3, c4, c5, false, 0⟩) hx5); rw [HL1.out] at ho3 hnext; (have HNX := Lib.hid hnext); clear hnext; refine step_append_lies _ (by rfl) (.tmp 45) (.tmp 53) 28 (by rfl) 0 84 iT _ 5 40 Try.underlying28 qT qT0 qT1 qT2 rfl (by omega) (.slice A1' n1' c1') n1' l0 (by rfl) ho3 ⟨w9.heap.size, 0, none⟩ 1 1 [.int .i64 c3, .int .i64 c4, .int .i64 c5, .bool false, .int .i64 0] (by rfl) (by rfl) (World.news_of_block (B := w9.heap.size) (cs := #[.int .i64 c3, .int .i64 c4, .int .i64 c5, .bool false, .int .i64 0]) (t := 84) (fr := (0, 0)) (heap_alloc_new w9 _)) (by simp [Value.oneCell']) (by omega) (by unfold maxLen; omega) (by omega) (Nat.zero_le _) _ rfl ?_; intro gg cap w4 hown1 hgrow hat hlt'; obtain ⟨fp', hs4⟩ := HNX.out gg cap w4 hown1 hgrow hat; (have HS4 := Lib.hid hs4); (have y9 := HS4.out.cell (k := 1) 0 rfl rfl); (have z9 := HS4.out.frz (k := 1) 0 rfl); clear hs4 hown1 hgrow hat))
      all_goals
        go_wp2
        go_meet
        have HS7 := Lib.hid (HS4.out.setBlk (k := 1) 0 rfl (.slice (some ⟨gg, 0, none⟩) (n1' + 1) cap))
        have HS8 := Lib.hid (shut_Poll (x := { y with Letters := y.Letters ++ [⟨c3, c4, c5, false, 0⟩] }) HS7.out)
        exact ⟨_, _, Lib.hid (HGY.out.letter c3 c4 c5), Lib.hid (HS8.out.more 2 rfl (by omega))⟩
    have q2 : (b2 == 2) = false := by simpa using h2
    clear h0 h1 h2
    go_wp2_with fail
    go_meet
    exact ⟨y, _, Lib.hid HGY.out.ps, Lib.hid (HS.out.more 2 rfl (by omega))⟩
  case rest =>
  clear HSo HS
  obtain ⟨t, fp, HPS, HSC⟩ := hcut
  obtain ⟨B0, m0, u0, B1, m1, u1, B2, m2, u2, f0, f1, f2, rfl, hsp⟩ := open_Poll HSC.out
  have HSP := Lib.hid hsp
  clear hsp HSC
  have b0 := HSP.out.cell (k := 0) 0 rfl rfl
  have b1 := HSP.out.cell (k := 1) 0 rfl rfl
  have b2 := HSP.out.cell (k := 2) 0 rfl rfl
  have r0 := HSP.out.cell (k := 0) 4 rfl rfl
  have r1 := HSP.out.cell (k := 1) 4 rfl rfl
  have r2 := HSP.out.cell (k := 2) 4 rfl rfl
  have z0 := HSP.out.frz (k := 0) 4 rfl
  have z1 := HSP.out.frz (k := 1) 4 rfl
  have z2 := HSP.out.frz (k := 2) 4 rfl
  go_wp2_with fail
  have HS8 := Lib.hid (((HSP.out.setBlk (k := 0) 4 rfl (.slice B0 m0 u0)).setBlk (k := 1) 4 rfl (.slice B1 m1 u1)).setBlk (k := 2) 4 rfl (.slice B2 m2 u2))
  have s0 := HS8.out.cell (k := 0) 4 rfl rfl
  have s1 := HS8.out.cell (k := 1) 4 rfl rfl
  have s2 := HS8.out.cell (k := 2) 4 rfl rfl
  exact bodyPost_ret (v := .agg #[.slice B0 m0 u0, .slice B1 m1 u1, .slice B2 m2 u2]) (by simp [results, Try.results64, go_sem, s0, s1, s2]) rfl ⟨t, _, _, rfl, HPS.out, (shutv_Poll (x := t) (HS8.out.sel [1, 2, 3, 5] (by decide) rfl)).more 1 rfl (by omega)⟩
end Go.Proofs.Ytkhchfbpmmiopaa

/-
  Contracts: drawn elections with a step, with a term; the program's test handed on (chapter 8). No conditions beyond those named.
-/
namespace Go.Proofs.Ytkhchfbpmmiopaa
open Go.RowKit
attribute [local go_sem] und_cell cha_cell World.cell?_alloc_some
set_option maxRecDepth 100000 in
theorem implGoodPoll_c (p : Poll) (cs : List Value) (w : World) (B : Nat) (hr : rPoll.at_ w B p cs) (hB : B ≤ w.heap.size) (hp : Pl.PS p) :
    Calls Try.prog 11 #[.agg cs.toArray] w fun e w' => e = .returned (.bool (Pl.pollOk p)) ∧ Below w.heap.size w w' := by
  obtain ⟨A0, n0, c0, A1, n1, c1, A2, n2, c2, rfl, -⟩ := rPoll_at hr
  have HS := Lib.hid ((Mm.SepF.start w).alloc' rfl 31 [.slice A0 n0 c0, .slice A1 n1 c1, .slice A2 n2 c2])
  have HR := Lib.hid (rPoll.keep hr (w' := w.alloc (.cells #[.slice A0 n0 c0, .slice A1 n1 c1, .slice A2 n2 c2] 31)) fun b hb => HS.out.bel0.block b (by omega))
  have hB2 := Nat.le_trans hB HS.out.chg.size
  clear hr
  go_enter Try.func11, Try.ntmps11
  go_wp2_with (go_at_call 52; refine (isPoll_c p _ _ B HR.out hB2 hp).mono ?_; rintro e w1 ⟨rfl, hb1⟩)
  go_ret
  exact ⟨rfl, below_step HS.out.bel0 hb1⟩
set_option maxRecDepth 100000 in
set_option maxHeartbeats 2000000 in
theorem DrawLeaderOf_c (code : List Int) (A : Option Addr) (n c : Nat) (w : World) (B : Nat) (hc : Mm.SlAt Mm.u8 w B code A n c) (hB : B ≤ w.heap.size) :
    Calls Try.prog 37 #[.slice A n c] w fun e w' => ∃ (t : Poll) (cs : List Value) (fp : List Nat) (k : Int), e = .returned (.tuple #[.agg cs.toArray, .int .i64 k]) ∧ Pl.PS t ∧ Mm.SepF [] w w' [Mm.tow rPoll t cs fp] := by
  have HC := Lib.hid hc
  clear hc
  obtain ⟨gr, hgr⟩ : ∃ gr, w.heap.size = gr := ⟨_, rfl⟩
  obtain ⟨W0, hW0⟩ : ∃ W0, w.alloc (.cells #[.slice none 0 0, .slice none 0 0, .slice none 0 0] 31) = W0 := ⟨_, rfl⟩
  have HS0 := Lib.hid (((Mm.SepF.start w).alloc' hgr 31 zPoll).atW hW0)
  obtain ⟨g, hg⟩ : ∃ g, W0.heap.size = g := ⟨_, rfl⟩
  obtain ⟨W1, hW1⟩ : ∃ W1, W0.alloc (.cells #[.slice A n c, .int .i64 0, .int .u64 0] 74) = W1 := ⟨_, rfl⟩
  have HS := Lib.hid (((HS0.out.alloc' hg 74 [.slice A n c, .int .i64 0, .int .u64 0]).atW hW1).curV)
  have hBg : B ≤ g := by have := HS0.out.chg.size; omega
  go_enter Try.func37, Try.ntmps37
  go_upto_region 1 with fail
  clear hW0
  go_upto_region 2 with fail
  clear hW1
  go_wp2_with first
    | ((go_at_call 64); (refine (poll_c code A n c g 0 _ B (HC.out.keep fun b hb => HS.out.chg.block b (Nat.lt_of_lt_of_le hb hB) (by simp)) hBg (HS.out.at_ 0 rfl) (by omega)).mono ?_); (rintro e w1 ⟨t, cs, fp, rfl, ht, hS⟩); ((have HS3 := Lib.hid (HS.out.callAll 0 rfl hS))); (clear hS); (obtain ⟨a0, p0, k0, a1, p1, k1, a2, p2, k2, rfl⟩ := own_formP (HS3.out.at_ 2 rfl)))
    | (go_at_call 65; refine (pick_c code A n c g _ _ _ B (HC.out.keep fun b hb => HS3.out.chg.block b (Nat.lt_of_lt_of_le hb hB) (by simp)) hBg (HS3.out.at_ 3 rfl) (by omega) (by omega)).mono ?_; rintro e w2 ⟨x1, rfl, x10, x1x, x11, hL⟩; (have HS5 := Lib.hid (HS3.out.call 3 rfl hL)); clear hL; (have r0 := HS5.out.cell (k := 0) 1 rfl rfl); (have r1 := HS5.out.cell (k := 1) 1 rfl rfl); (have r2 := HS5.out.cell (k := 2) 1 rfl rfl); (have z0 := HS5.out.frz (k := 0) 1 rfl); (have z1 := HS5.out.frz (k := 1) 1 rfl); (have z2 := HS5.out.frz (k := 2) 1 rfl); (have hw1 : IntKind.i64.wrap (x1 - 1) = x1 - 1 := IntWalk.i64_in _ (by omega)))
  have HS8 := Lib.hid (((HS5.out.setBlk (k := 0) 1 rfl (.slice a0 p0 k0)).setBlk (k := 1) 1 rfl (.slice a1 p1 k1)).setBlk (k := 2) 1 rfl (.slice a2 p2 k2))
  have s0 := HS8.out.cell (k := 0) 1 rfl rfl
  have s1 := HS8.out.cell (k := 1) 1 rfl rfl
  have s2 := HS8.out.cell (k := 2) 1 rfl rfl
  exact bodyPost_ret (v := .tuple #[.agg #[.slice a0 p0 k0, .slice a1 p1 k1, .slice a2 p2 k2], .int .i64 (x1 - 1)]) (by simp [results, Try.results37, go_sem, s0, s1, s2, hw1]) rfl ⟨t, _, _, x1 - 1, rfl, ht, HS8.out.sel [2] (by decide) rfl⟩
set_option maxRecDepth 100000 in
set_option maxHeartbeats 4000000 in
theorem DrawStepPoll_c (code : List Int) (A : Option Addr) (n c : Nat) (w : World) (B : Nat) (hc : Mm.SlAt Mm.u8 w B code A n c) (hB : B ≤ w.heap.size) :
    Calls Try.prog 27 #[.slice A n c] w fun e w' => ∃ (t : Poll) (cs : List Value) (fp : List Nat) (s : VoteStep), e = .returned (.tuple #[.agg cs.toArray, .agg #[.int .i64 s.Kind, .int .i64 s.K]]) ∧ (Mm.I64 s.Kind ∧ Mm.I64 s.K) ∧ Pl.PS t ∧ Mm.SepF [] w w' [Mm.tow rPoll t cs fp] := by
  have HC := Lib.hid hc
  clear hc
  obtain ⟨gr, hgr⟩ : ∃ gr, w.heap.size = gr := ⟨_, rfl⟩
  obtain ⟨W0, hW0⟩ : ∃ W0, w.alloc (.cells #[.slice none 0 0, .slice none 0 0, .slice none 0 0] 31) = W0 := ⟨_, rfl⟩
  have HS0 := Lib.hid (((Mm.SepF.start w).alloc' hgr 31 zPoll).atW hW0)
  obtain ⟨gs, hgs⟩ : ∃ gs, W0.heap.size = gs := ⟨_, rfl⟩
  obtain ⟨W1, hW1⟩ : ∃ W1, W0.alloc (.cells #[.int .i64 0, .int .i64 0] 56) = W1 := ⟨_, rfl⟩
  have HS1 := Lib.hid ((HS0.out.alloc' hgs 56 [.int .i64 0, .int .i64 0]).atW hW1)
  have hne : gs ≠ gr := by
    have := (Mm.tblk gr 31 zPoll).lt (HS0.out.at_ 0 rfl) gr (by simp [Mm.tblk])
    omega
  have hne2 : gr ≠ gs := Ne.symm hne
  obtain ⟨g, hg⟩ : ∃ g, W1.heap.size = g := ⟨_, rfl⟩
  obtain ⟨W2, hW2⟩ : ∃ W2, W1.alloc (.cells #[.slice A n c, .int .i64 0, .int .u64 0] 74) = W2 := ⟨_, rfl⟩
  have HS := Lib.hid (((HS1.out.alloc' hg 74 [.slice A n c, .int .i64 0, .int .u64 0]).atW hW2).curV)
  have hBg : B ≤ g := by have := HS1.out.chg.size; omega
  go_enter Try.func27, Try.ntmps27
  go_upto_region 1 with fail
  clear hW0 hW1
  go_upto_region 2 with fail
  clear hW2
  go_upto_region 3 with ((go_at_call 64); (refine (poll_c code A n c g 0 _ B (HC.out.keep fun b hb => HS.out.chg.block b (Nat.lt_of_lt_of_le hb hB) (by simp)) hBg (HS.out.at_ 0 rfl) (by omega)).mono ?_); (rintro e w1 ⟨t, cs, fp, rfl, ht, hS⟩); ((have HS3 := Lib.hid (HS.out.callAll 0 rfl hS))); (clear hS); (obtain ⟨a0, p0, k0, a1, p1, k1, a2, p2, k2, rfl⟩ := own_formP (HS3.out.at_ 3 rfl)))
  obtain ⟨gt, hgt⟩ : ∃ gt, w1.heap.size = gt := ⟨_, rfl⟩
  obtain ⟨W3, hW3⟩ : ∃ W3, w1.alloc (.cells #[.slice a0 p0 k0, .slice a1 p1 k1, .slice a2 p2 k2] 31) = W3 := ⟨_, rfl⟩
  have HS4 := Lib.hid ((HS3.out.alloc' hgt 31 [.slice a0 p0 k0, .slice a1 p1 k1, .slice a2 p2 k2]).atW hW3)
  rw [hW3, hgt]
  clear hW3
  have ne5 : gt ≠ gr := fun e => HS4.out.apart (i := 0) (j := 3) rfl rfl (by decide) gt (by simp [Mm.tblk]) (by simp [Mm.tblk, e])
  have ne6 : gt ≠ gs := fun e => HS4.out.apart (i := 0) (j := 2) rfl rfl (by decide) gt (by simp [Mm.tblk]) (by simp [Mm.tblk, e])
  have HSD := Lib.hid (HS4.out.step (Below.refl _ _).drew)
  have b0 := HSD.out.cell (k := 0) 0 rfl rfl
  have b1 := HSD.out.cell (k := 1) 0 rfl rfl
  have b2 := HSD.out.cell (k := 2) 0 rfl rfl
  clear HS4 HS3 HS HS0 HS1
  go_region_law (first
    | (go_simp; go_at_call 65; refine (pick_c code A n c g _ _ _ B (HC.out.keep fun b hb => HP1.out.chg.block b (Nat.lt_of_lt_of_le hb hB) (by simp)) hBg (HP1.out.at_ 5 rfl) (by omega) (by omega)).mono ?_; rintro e w3 ⟨x2, rfl, x20, x2x, x21, hL⟩; (have HP2 := Lib.hid (HP1.out.call 5 rfl hL)); clear hL b0 b1 b2; (have b0 := HP2.out.cell (k := 0) 0 rfl rfl); (have b1 := HP2.out.cell (k := 1) 0 rfl rfl); (have b2 := HP2.out.cell (k := 2) 0 rfl rfl); (have r0 := HP2.out.cell (k := 0) 3 rfl rfl); (have r1 := HP2.out.cell (k := 1) 3 rfl rfl); (have r2 := HP2.out.cell (k := 2) 3 rfl rfl); (have z0 := HP2.out.frz (k := 0) 3 rfl); (have z1 := HP2.out.frz (k := 1) 3 rfl); (have z2 := HP2.out.frz (k := 2) 3 rfl); (have x0 := HP2.out.cell (k := 0) 2 rfl rfl); (have x1' := HP2.out.cell (k := 1) 2 rfl rfl); (have y0 := HP2.out.frz (k := 0) 2 rfl); (have y1 := HP2.out.frz (k := 1) 2 rfl); (have hw1 : IntKind.i64.wrap (x2 - 1) = x2 - 1 := IntWalk.i64_in _ (by omega)))
    | (go_simp; go_at_call 65; refine (pick_c code A n c g _ _ _ B (HC.out.keep fun b hb => HSD.out.chg.block b (Nat.lt_of_lt_of_le hb hB) (by simp)) hBg (HSD.out.at_ 5 rfl) (by omega) (by omega)).mono ?_; rintro e w2 ⟨x1, rfl, x10, x1x, x11, hL⟩; (have HP1 := Lib.hid (HSD.out.call 5 rfl hL)); clear hL b0 b1 b2; (have b0 := HP1.out.cell (k := 0) 0 rfl rfl); (have b1 := HP1.out.cell (k := 1) 0 rfl rfl); (have b2 := HP1.out.cell (k := 2) 0 rfl rfl)))
  all_goals
    go_wp2
    have HS8 := Lib.hid (((((HP2.out.setBlk (k := 0) 3 rfl (.slice a0 p0 k0)).setBlk (k := 1) 3 rfl (.slice a1 p1 k1)).setBlk (k := 2) 3 rfl (.slice a2 p2 k2)).setBlk (k := 0) 2 rfl (.int .i64 x1)).setBlk (k := 1) 2 rfl (.int .i64 (x2 - 1)))
    have s0 := HS8.out.cell (k := 0) 3 rfl rfl
    have s1 := HS8.out.cell (k := 1) 3 rfl rfl
    have s2 := HS8.out.cell (k := 2) 3 rfl rfl
    have s3 := HS8.out.cell (k := 0) 2 rfl rfl
    have s4 := HS8.out.cell (k := 1) 2 rfl rfl
    exact bodyPost_ret (v := .tuple #[.agg #[.slice a0 p0 k0, .slice a1 p1 k1, .slice a2 p2 k2], .agg #[Value.int .i64 x1, Value.int .i64 (x2 - 1)]]) (by simp [results, Try.results27, go_sem, s0, s1, s2, s3, s4]) rfl ⟨t, _, _, (⟨x1, x2 - 1⟩ : VoteStep), rfl, ⟨by show Mm.I64 x1; unfold Mm.I64; omega, by show Mm.I64 (x2 - 1); unfold Mm.I64; omega⟩, ht, HS8.out.sel [4] (by decide) rfl⟩
end Go.Proofs.Ytkhchfbpmmiopaa

/-
  Contracts: what two rising lists have in common (impl.meet: slices.DeleteFunc at ints), and IsOverlap (chapter 8). No conditions beyond those named.
-/
namespace Go.Proofs.Ytkhchfbpmmiopaa
open Go.RowKit
attribute [local go_sem] und_cell cha_cell World.cell?_alloc_some
theorem Mm.run_clear_i {P : Program} (w : World) (t e ty : TypeId) (z : Value) (ht : P.underlying t = some (.slice e)) (hv : ∀ w, (zeroValue e).run P w = .ok z w) (h1 : ∀ u ∈ z.cells, u.oneCell' = true) (b o c m : Nat) (hm0 : 0 < m) (zs : List Value) (hzs : zs = (Builtin.zeroCells z.cells m).toList)
    (hc : ∀ j, j < zs.length → (w.cell? ⟨b, o + j, none⟩).isSome = true) (hf : ∀ j, j < zs.length → w.frozen? ⟨b, o + j, none⟩ = false) :
    (Builtin.clear_ #[t] ty #[.slice (some ⟨b, o, none⟩) m c]).run P w = .ok (.tuple #[]) (w.setCells b o zs) := by
  have hone : ∀ u ∈ zs, u.oneCell' = true := fun u hu => by
    rw [hzs] at hu
    obtain ⟨i, hi, rfl⟩ := List.mem_iff_getElem.1 hu
    simp only [Builtin.zeroCells, Array.getElem_toList, Array.getElem_ofFn]
    have hi' : i < m * z.cells.size := by simpa [Builtin.zeroCells] using hi
    have h0 : 0 < z.cells.size := Nat.pos_of_ne_zero (fun h => by rw [h, Nat.mul_zero] at hi'; omega)
    have hlt : i % z.cells.size < z.cells.size := Nat.mod_lt _ h0
    refine h1 _ ?_
    simp [hlt]
  have hst := run_storeCells_cells (P := P) b o zs 0 w (by simpa using hc) (by simpa using hf) hone
  simp only [Nat.add_zero] at hst
  obtain ⟨m', rfl⟩ : ∃ m', m = m' + 1 := ⟨m - 1, by omega⟩
  simp [Builtin.clear_, run_underlying ht, hv, ← hzs, hst]
def Pl.meetI (l b : List Int) : List Int := l.filter (fun x => Pl.hasI b x)
theorem Pl.meetI_next {l names : List Int} {k : Nat} {x : Int} (h : l[k]? = some x) : Pl.meetI (l.take (k + 1)) names = Pl.meetI (l.take k) names ++ if Pl.hasI names x = true then [x] else [] := by
  unfold Pl.meetI
  rw [Mm.take_succ_some h, List.filter_append]
  congr 1
  cases hb : Pl.hasI names x <;> simp [hb]
theorem Pl.meetI_all {l names : List Int} (h : ∀ (j : Nat) x, l[j]? = some x → Pl.hasI names x = true) : Pl.meetI l names = l := by
  unfold Pl.meetI
  rw [List.filter_eq_self]
  intro x hx
  obtain ⟨i, hi, rfl⟩ := List.mem_iff_getElem.1 hx
  exact h i _ (List.getElem?_eq_getElem hi)
/-- what the closure holds: a list's header in its own block -/
def CapI (b : List Int) (A' : Option Addr) (n' c' gn B : Nat) (w : World) : Prop := Mm.Blk w gn 23 [.slice A' n' c'] ∧ Mm.SlAt Mm.int w B b A' n' c' ∧ B ≤ w.heap.size
theorem CapI.bel {b : List Int} {A' : Option Addr} {n' c' gn B : Nat} {w w' : World} (h : CapI b A' n' c' gn B w) (hb : Below w.heap.size w w') : CapI b A' n' c' gn B w' :=
  ⟨h.1.bel hb, h.2.1.keep fun q hq => hb.block q (Nat.lt_of_lt_of_le hq h.2.2), Nat.le_trans h.2.2 hb.size⟩
theorem CapI.chg {b : List Int} {A' : Option Addr} {n' c' gn B : Nat} {w w' : World} {fp : List Nat} (h : CapI b A' n' c' gn B w) (hc : Mm.Chg fp w w') (h1 : gn ∉ fp) (h2 : ∀ q, q ∈ fp → B ≤ q) : CapI b A' n' c' gn B w' :=
  ⟨h.1.keep (hc.block gn h.1.lt h1), h.2.1.keep fun q hq => hc.block q (Nat.lt_of_lt_of_le hq h.2.2) (fun hm => by have := h2 q hm; omega), Nat.le_trans h.2.2 hc.size⟩
def FoundI (names : List Int) (l : List Int) (i : Int) : Prop :=
  (i = -1 ∧ ∀ (j : Nat) x, l[j]? = some x → Pl.hasI names x = true) ∨ ∃ (k : Nat) (x : Int), i = k ∧ l[k]? = some x ∧ Pl.hasI names x = false ∧ ∀ (j : Nat) y, j < k → l[j]? = some y → Pl.hasI names y = true
set_option maxRecDepth 100000 in
theorem mClos_c (names : List Int) (A' : Option Addr) (n' c' gn B : Nat) (x : Int) (w : World) (h : CapI names A' n' c' gn B w) :
    Calls Try.prog 94 #[.int .i64 x, .pointer (some ⟨gn, 0, none⟩)] w fun e w' => e = .returned (.bool (!Pl.hasI names x)) ∧ Below w.heap.size w w' := by
  have C := hasI_c names x A' n' c' w B h.2.1
  have d0 := h.1.cell (i := 0) rfl
  obtain ⟨r, hr⟩ : ∃ r, Pl.hasI names x = r := ⟨_, rfl⟩
  rw [hr] at C ⊢
  clear h hr
  go_enter Try.func94, Try.ntmps94
  go_wp2_with (go_at_call 95; (with_reducible refine C.mono ?_); rintro e w1 ⟨rfl, rfl⟩)
  go_ret
  exact ⟨rfl, Below.refl _ _⟩
set_option maxRecDepth 100000 in
theorem mFind_c (names : List Int) (A' : Option Addr) (n' c' gn B : Nat) (l : List Int) (A : Option Addr) (n c : Nat) (w : World) (h : CapI names A' n' c' gn B w) (hl : Mm.SlAt Mm.int w w.heap.size l A n c) :
    Calls Try.prog 78 #[.slice A n c, .func (Fn.func 94) #[] #[.pointer (some ⟨gn, 0, none⟩)]] w fun e w' => ∃ i, e = .returned (.int .i64 i) ∧ FoundI names l i ∧ Below w.heap.size w w' := by
  have hn : n ≤ 9223372036854775807 := by have := hl.2.1; have := hl.2.2.1; unfold maxLen at this; omega
  have hlen : Hid (l.length = n) := hl.1
  have HL := Lib.hid hl
  have HC := Lib.hid h
  clear hl h
  go_enter Try.func78, Try.ntmps78
  go_wp2
  go_loopg [5, 8] n (fun g _ i wr => ∃ k : Nat, n - k ≤ g ∧ k ≤ n ∧ i = .int .i64 k ∧ Hid (∀ (j : Nat) y, j < k → l[j]? = some y → Pl.hasI names y = true) ∧ Hid (Below w.heap.size w wr))
  case atStart => exact ⟨0, Nat.le_refl _, Nat.zero_le _, rfl, fun j y hj => absurd hj (Nat.not_lt_zero _), Below.refl _ _⟩
  case round =>
    obtain ⟨k, hgk, hk, rfl, HA, HB⟩ := hrel
    obtain ⟨W, rfl⟩ : ∃ W : World, W = wr := ⟨_, rfl⟩
    by_cases hlt : k < n
    · obtain ⟨x, b, off, hx, rfl, hb, i1, e0⟩ := int_get (HL.out.keep (w' := W) fun b hb => HB.out.block b hb) hlt
      have HX := Lib.hid hx
      have C := mClos_c names A' n' c' gn B x W (HC.out.bel HB.out)
      have f1 : (k : Int) < (n : Nat) := by omega
      have f2 : (0 : Int) ≤ (k : Nat) := by omega
      have f3 : ((k : Nat) : Int).toNat = k := by omega
      clear hx i1
      cases hs : Pl.hasI names x with
      | true =>
        rw [hs] at C
        have HS := Lib.hid hs
        clear hs
        go_wp2_with (go_at_call 94; (with_reducible refine C.mono ?_); clear C; rintro e w1 ⟨rfl, hb1⟩)
        go_roundg (n - (k + 1))
        case measure => omega
        case rel => exact ⟨k + 1, Nat.le_refl _, by omega, by go_num, (fun j y hj hy => by
          rcases Nat.lt_succ_iff_lt_or_eq.1 hj with h1 | rfl
          · exact HA.out j y h1 hy
          · rw [HX.out] at hy; injection hy with hy; rw [← hy]; exact HS.out), below_step HB.out hb1⟩
      | false =>
        rw [hs] at C
        have HS := Lib.hid hs
        clear hs
        go_wp2_with (go_at_call 94; (with_reducible refine C.mono ?_); clear C; rintro e w1 ⟨rfl, hb1⟩)
        go_ret
        exact ⟨_, rfl, .inr ⟨k, x, rfl, HX.out, HS.out, HA.out⟩, below_step HB.out hb1⟩
    · go_wp2
      go_ret
      exact ⟨_, rfl, .inl ⟨rfl, fun j x hx => HA.out j x (by have := (List.getElem?_eq_some_iff.1 hx).1; have := hlen.out; omega) hx⟩, HB.out⟩
set_option maxRecDepth 100000 in
set_option maxHeartbeats 2000000 in
theorem mDel_c (names : List Int) (A' : Option Addr) (n' c' gn B : Nat) (l : List Int) (A : Option Addr) (n c : Nat) (fp : List Nat) (w : World) (h : CapI names A' n' c' gn B w) (hs : Mm.SlOwn Mm.int 3 w l (.slice A n c) fp) (hnd : fp.Nodup) (h1 : gn ∉ fp) (h2 : ∀ b, b ∈ fp → B ≤ b) (hn : n ≤ 1000) :
    Calls Try.prog 93 #[.slice A n c, .func (Fn.func 94) #[] #[.pointer (some ⟨gn, 0, none⟩)]] w fun e w' => ∃ A2 n2 c2, e = .returned (.slice A2 n2 c2) ∧ Mm.SepF fp w w' [Mm.tsl Mm.int 3 (Pl.meetI l names) (.slice A2 n2 c2) fp] := by
  have HS0 : Hid (Mm.SepF fp w w [Mm.tsl Mm.int 3 l (.slice A n c) fp]) := Mm.SepF.one (Mm.tsl Mm.int 3 l (.slice A n c) fp) w hs hnd
  have HLN : Hid (l.length = n) := by obtain ⟨_, _, _, hv, q1, _⟩ := hs.form; injection hv with _ q2 _; exact (q2.trans q1).symm
  have HC := Lib.hid h
  have HQ := Lib.hid (And.intro h1 h2)
  have CF := mFind_c names A' n' c' gn B l A n c w h (hs.weak hs.olt)
  clear h hs h1 h2
  go_enter Try.func93, Try.ntmps93
  go_upto_if 12 with (go_at_call 78; (with_reducible refine CF.mono ?_); clear CF; rintro e w1 ⟨i0, rfl, hfd, hb1⟩; (have HS := Lib.hid (HS0.out.step hb1)); clear hb1)
  rcases hfd with ⟨rfl, hall⟩ | ⟨k, x0, rfl, hx0, hno, hall⟩
  · have HK := Lib.hid (Pl.meetI_all hall)
    clear hall
    go_wp2
    go_ret
    exact ⟨_, _, _, rfl, by rw [HK.out]; exact HS.out⟩
  · have hkn : k < n := by have := (List.getElem?_eq_some_iff.1 hx0).1; have := HLN.out; omega
    obtain ⟨g, hg, -, -⟩ := Mm.sl_addr (HS.out.sl 0 rfl) (by have := HLN.out; omega)
    subst hg
    have HST : Hid (l.take k = Pl.meetI (l.take (k + 1)) names) := by
      show _ = _
      rw [Pl.meetI_next hx0, if_neg (by rw [hno]; simp), List.append_nil]
      refine (Pl.meetI_all (names := names) (fun j x hx => by
        rw [List.getElem?_take] at hx
        split at hx
        · rename_i hq
          exact hall j x hq hx
        · cases hx)).symm
    have f0 : ¬ ((k : Int) = -1) := by omega
    have f1 : IntKind.i64.wrap ((k : Int) + 1) = (k : Int) + 1 := IntWalk.i64_in _ (by omega)
    obtain ⟨fpg, rfl⟩ : ∃ q, fp = q := ⟨_, rfl⟩
    clear hall hx0 hno
    go_wp2
    go_loopg [5, 6] n (fun gg s5 s6 wr => ∃ (i j : Nat) (ys : List Int), n - j ≤ gg ∧ i < j ∧ j ≤ n ∧ s5 = .int .i64 i ∧ s6 = .int .i64 j ∧ Hid (ys.length = n) ∧ Hid (ys.take i = Pl.meetI (l.take j) names) ∧ Hid (ys.drop j = l.drop j) ∧ Hid (Mm.SepF fp w wr [Mm.tsl Mm.int 3 ys (.slice (some ⟨g, 0, none⟩) n c) fp]))
    case atStart => exact ⟨k, k + 1, l, by omega, by omega, by omega, rfl, by go_num, HLN.out, HST.out, rfl, HS.out⟩
    case round =>
      obtain ⟨i, j, ys, hgg, hij, hjn, rfl, rfl, HYL, HYT, HYD, HS⟩ := hrel
      obtain ⟨W, rfl⟩ : ∃ W : World, W = wr := ⟨_, rfl⟩
      by_cases hlt : j < n
      · obtain ⟨x, hx, hb, i1, e0⟩ := int_get' ((HS.out.sl 0 rfl).weak (HS.out.sl 0 rfl).olt) hlt
        rw [Nat.zero_add] at e0
        have hxl : l[j]? = some x := by
          have := congrArg (fun z => z[0]?) HYD.out
          simp only [List.getElem?_drop, Nat.add_zero] at this
          rw [← this]; exact hx
        have HX := Lib.hid (And.intro hx (Pl.meetI_next (names := names) hxl))
        have HIB := Lib.hid i1
        clear hx hxl i1 hb
        have f2 : (j : Int) < (n : Nat) := by omega
        have f3 : (0 : Int) ≤ (j : Nat) := by omega
        have f4 : ((j : Nat) : Int).toNat = j := by omega
        go_upto_region 8 with fail
        clear e0
        have CK := mClos_c names A' n' c' gn B x W (HC.out.chg HS.out.chg HQ.out.1 HQ.out.2)
        cases hk : Pl.hasI names x with
        | false =>
          rw [hk] at CK
          have HN : Hid (ys.take i = Pl.meetI (l.take (j + 1)) names) := by show _ = _; rw [HYT.out, HX.out.2, if_neg (by rw [hk]; simp), List.append_nil]
          have HD2 : Hid (ys.drop (j + 1) = l.drop (j + 1)) := by show _ = _; rw [← List.drop_drop, ← List.drop_drop, HYD.out]
          clear hk
          go_wp2_with (go_at_call 94; (with_reducible refine CK.mono ?_); clear CK; rintro e w3 ⟨rfl, hb3⟩; (have HS3 := Lib.hid (HS.out.step hb3)); clear hb3)
          go_roundg (n - (j + 1))
          case measure => omega
          case rel => exact ⟨i, j + 1, ys, Nat.le_refl _, by omega, by omega, rfl, by go_num, HYL.out, HN.out, HD2.out, HS3.out⟩
        | true =>
          rw [hk] at CK
          have hil : i < ys.length := by rw [HYL.out]; omega
          obtain ⟨y, hy⟩ : ∃ y, ys[i]? = some y := ⟨_, List.getElem?_eq_getElem hil⟩
          have HY := Lib.hid hy
          have HN : Hid ((ys.set i x).take (i + 1) = Pl.meetI (l.take (j + 1)) names) := by
            show _ = _
            rw [HX.out.2, if_pos hk, ← HYT.out]
            apply List.ext_getElem?
            intro q
            rw [List.getElem?_take]
            by_cases hq : q < i
            · rw [if_pos (by omega), List.getElem?_set_ne (by omega), List.getElem?_append_left (by rw [List.length_take]; omega), List.getElem?_take, if_pos hq]
            · by_cases hq2 : q = i
              · subst hq2
                rw [if_pos (by omega), List.getElem?_set_self hil, List.getElem?_append_right (by rw [List.length_take]; omega), List.length_take, Nat.min_eq_left (by omega), Nat.sub_self]
                rfl
              · rw [if_neg (by omega), List.getElem?_eq_none (by rw [List.length_append, List.length_take]; simp; omega)]
          have HD2 : Hid ((ys.set i x).drop (j + 1) = l.drop (j + 1)) := by
            show _ = _
            rw [List.drop_set_of_lt (by omega), ← List.drop_drop, ← List.drop_drop, HYD.out]
          clear hk hy
          have f5 : (0 : Int) ≤ (i : Nat) := by omega
          have f6 : ((i : Nat) : Int).toNat = i := by omega
          have f7 : (i : Int) < (n : Nat) := by omega
          have f8 : IntKind.i64.wrap ((i : Int) + 1) = (i : Int) + 1 := IntWalk.i64_in _ (by omega)
          go_upto_region 9 with (go_at_call 94; (with_reducible refine CK.mono ?_); clear CK; rintro e w3 ⟨rfl, hb3⟩; (have HS3 := Lib.hid (HS.out.step hb3)); clear hb3)
          have u0 := int_ocell (HS3.out.sl 0 rfl) (HS3.out.ndat (i := 0) rfl) HY.out
          have z0 := (HS3.out.sl 0 rfl).frozen i
          go_wp2
          have HSA := Lib.hid (HS3.out.put1 (k := i) (x' := x) (u := .int .i64 x) 0 rfl rfl HY.out (fun cs fx hh => by obtain ⟨rfl, _, rfl⟩ := hh; exact ⟨rfl, HIB.out, rfl⟩))
          go_roundg (n - (j + 1))
          case measure => omega
          case rel => exact ⟨i + 1, j + 1, ys.set i x, Nat.le_refl _, by omega, by omega, by go_num, by go_num, (by show _ = _; rw [List.length_set]; exact HYL.out), HN.out, HD2.out, HSA.out⟩
      · obtain rfl : n = j := by omega
        have HK : Hid (ys.take i = Pl.meetI l names) := by show _ = _; rw [HYT.out, List.take_of_length_le (by rw [HLN.out]; exact Nat.le_refl _)]
        obtain ⟨cur, hcur, hcl, ht, -, hnc, hcm, hfp⟩ := Mm.flatN_int'.blk (HS.out.sl 0 rfl)
        obtain ⟨-, -, hown, hlen⟩ := Mm.flatN_int'.owns (HS.out.sl 0 rfl)
        obtain ⟨iL, hiL, hL0, hLs, hLb⟩ := info_parts Try.info_clInt
        obtain ⟨zs, hzs⟩ : ∃ zs, zs = (Builtin.zeroCells (Value.int .i64 0).cells (n - i)).toList := ⟨_, rfl⟩
        have hzl : zs.length = n - i := by rw [hzs, Array.length_toList, Mm.zeroCells_len]; exact Nat.mul_one _
        have hcl2 : cur.length = c := hcl.trans (Nat.mul_one c)
        have ht2 : cur.take (n * 1) = ys.flatMap (fun x : Int => [Value.int .i64 x]) := ht
        have hcc : ∀ ty, (Builtin.clear_ #[23] ty #[.slice (some ⟨g, i, none⟩) (n - i) (c - i)]).run Try.prog W = .ok (.tuple #[]) (W.setCells g i zs) := fun ty =>
          Mm.run_clear_i W _ 3 ty _ Try.underlying23 (fun w => by simp [zeroValue, typeInfo, hiL, hL0]) (by decide) g i (c - i) (n - i) (by omega) zs hzs (fun q hq => by
            rw [hcur.cell (List.getElem?_eq_getElem (by rw [hcl2]; omega))]; rfl) (fun q hq => hcur.frozen _)
        have hb2 := Mm.setCells_blk zs _ i _ hcur
        have hso : Mm.SlOwn Mm.int 3 (W.setCells g i zs) (ys.take i) (.slice (some ⟨g, 0, none⟩) i c) [g] := by
          refine Mm.flatN_int'.of_blk hb2 (by rw [Mm.setList_len]; exact hcl) ?_ (by rw [List.length_take, HYL.out]; omega) (by omega) hcm (fun z hz => hown z (List.mem_of_mem_take hz) _)
          rw [Mm.flatMap_take (s := 1) i hlen, ← ht2]
          apply List.ext_getElem?
          intro q
          rw [List.getElem?_take, List.getElem?_take]
          show (if q < i * 1 then _ else _) = _
          by_cases hq : q < i * 1
          · rw [if_pos hq, if_pos hq, Mm.setList_get _ _ _ _ (by rw [hzl, hcl2]; omega), if_neg (by omega), List.getElem?_take]
            rw [if_pos (show q < n * 1 by omega)]
          · rw [if_neg hq, if_neg hq]
        have HF := Lib.hid (HS.out.upd (i := 0) (t := Mm.tsl Mm.int 3 ys (.slice (some ⟨g, 0, none⟩) n c) fp) (t' := Mm.tsl Mm.int 3 (ys.take i) (.slice (some ⟨g, 0, none⟩) i c) [g]) rfl (by show Mm.Chg fp _ _; rw [hfp]; exact Mm.setCells_chg g zs W i) hso (by simp [Mm.tsl]) (fun b hb => .inl (by show b ∈ fp; rw [hfp]; exact hb)))
        have HFP := Lib.hid hfp
        unfold maxLen at hcm
        have f2 : ¬ (n : Int) < (n : Nat) := by omega
        have f3 : (0 : Int) ≤ (i : Nat) := by omega
        have f4 : ((i : Nat) : Int).toNat = i := by omega
        have f5 : (i : Int) ≤ (n : Nat) := by omega
        have f6 : ¬ (c = i) := by omega
        have f7 : (i : Int) ≤ (c : Nat) := by omega
        clear hzs hzl hcl2 hcur hcl ht ht2 hfp hown hlen hb2 hso hLs hLb
        go_wp2
        go_ret
        exact ⟨_, _, _, rfl, by rw [← HK.out]; have := HF.out; rw [HFP.out] at this ⊢; exact this⟩
set_option maxRecDepth 100000 in
theorem meet_c (l : List Int) (A : Option Addr) (n c : Nat) (names : List Int) (A' : Option Addr) (n' c' : Nat) (w : World) (B : Nat) (hl : Mm.SlAt Mm.int w B l A n c) (hs : Mm.SlAt Mm.int w B names A' n' c') (hB : B ≤ w.heap.size) (hn : n ≤ 1000) :
    Calls Try.prog 72 #[.slice A n c, .slice A' n' c'] w fun e w' => ∃ A2 n2 c2, e = .returned (.slice A2 n2 c2) ∧ n2 = (Pl.meetI l names).length ∧ Below w.heap.size w w' := by
  obtain ⟨gn, hgn⟩ : ∃ gn, w.heap.size = gn := ⟨_, rfl⟩
  obtain ⟨W1, hW1⟩ : ∃ W1, w.alloc (.cells #[.slice A' n' c'] 23) = W1 := ⟨_, rfl⟩
  have hb1 : Below w.heap.size w W1 := by rw [← hW1]; exact below_new (Below.refl _ _) _
  have hnb : Mm.Blk W1 gn 23 [.slice A' n' c'] := by rw [← hW1, ← hgn]; exact Mm.Blk.new w _ _
  have hl1 := hl.keep (w' := W1) fun b hb => hb1.block b (Nat.lt_of_lt_of_le hb hB)
  have HCP := Lib.hid (show CapI names A' n' c' gn B W1 from ⟨hnb, hs.keep fun b hb => hb1.block b (Nat.lt_of_lt_of_le hb hB), Nat.le_trans hB hb1.size⟩)
  have HLN : Hid (l.length = n) := hl.1
  have CC := clInt_c l A n c W1 B hl1 (by omega)
  have HB1 := Lib.hid hb1
  clear hl hs hl1 hb1 hnb
  go_enter Try.func72, Try.ntmps72
  go_upto_region 1 with fail
  clear hW1
  go_wp2_with first
    | (go_at_call 92; (with_reducible refine CC.mono ?_); clear CC; rintro e w4 ⟨A3, n3, c3, fp3, rfl, ho, hnd, hnew, hb4⟩; (have HO := Lib.hid (And.intro ho (And.intro hnd (And.intro hnew hb4)))); (have hn3 : n3 = l.length := by obtain ⟨_, _, _, hv, q1, _⟩ := ho.form; injection hv with _ q2 _; exact q2.trans q1); (have hn3' : n3 ≤ 1000 := by have := HLN.out; omega); clear ho hnd hnew hb4 hn3)
    | (go_at_call 93; refine (mDel_c names A' n' c' gn B l A3 n3 c3 fp3 w4 (HCP.out.bel HO.out.2.2.2) HO.out.1 HO.out.2.1 (fun hm => by have h3 := HO.out.2.2.1 gn hm; have h4 := HCP.out.1.lt; omega) (fun b hb => by have h3 := HO.out.2.2.1 b hb; have h4 := HCP.out.2.2; omega) hn3').mono ?_; rintro e w5 ⟨A5, n5, c5, rfl, hS⟩; (have HS := Lib.hid hS); clear hS)
  go_ret
  refine ⟨_, _, _, rfl, ?_, ?_⟩
  · obtain ⟨_, _, _, hv, q1, _⟩ := (HS.out.sl 0 rfl).form; injection hv with _ q2 _; exact q2.trans q1
  · exact Mm.Below.chg (below_step HB1.out HO.out.2.2.2) HS.out.chg (Nat.le_trans HB1.out.size HO.out.2.2.2.size) (fun b hb => by have h3 := HO.out.2.2.1 b hb; have h4 := HB1.out.size; omega)
end Go.Proofs.Ytkhchfbpmmiopaa

/-
  Contracts: NewPoll of the program; LeaderOf, MajorityOf and IsOverlap of both (chapter 8). No conditions beyond those named.
-/
namespace Go.Proofs.Ytkhchfbpmmiopaa
open Go.RowKit
attribute [local go_sem] und_cell cha_cell World.cell?_alloc_some
set_option maxRecDepth 100000 in
set_option maxHeartbeats 2000000 in
theorem implNewPoll_c (ages : List Int) (A : Option Addr) (n c : Nat) (w : World) (B : Nat) (ha : Mm.SlAt Mm.int w B ages A n c) (hB : B ≤ w.heap.size) :
    Calls Try.prog 35 #[.slice A n c] w (Mm.Ret2 rPoll w (Pl.newPoll ages).1 (Pl.newPoll ages).2) := by
  have hn : n ≤ maxLen := Nat.le_trans ha.2.1 ha.2.2.1
  have HA := Lib.hid ha
  have HOK : Hid (Pl.agesOk ages = (Pl.isIn (n : Int) 1 5 && ages.all Pl.ageOk)) := Lib.hid (by unfold Pl.agesOk; rw [ha.1])
  clear ha
  unfold maxLen at hn
  obtain ⟨gz, hgz⟩ : ∃ g, w.heap.size = g := ⟨_, rfl⟩
  obtain ⟨W0, hW0⟩ : ∃ V, w.alloc (.cells #[.slice none 0 0, .slice none 0 0, .slice none 0 0] 31) = V := ⟨_, rfl⟩
  have KS := Lib.hid (((Mm.SepF.start w).alloc' hgz 31 zPoll).atW hW0)
  have CA := agesNew_c ages A n c W0 B (HA.out.keep fun b hb => KS.out.bel0.block b (by omega)) (Nat.le_trans hB KS.out.bel0.size)
  rw [Pl.ages_any] at CA
  go_enter Try.func35, Try.ntmps35
  go_upto_region 1 with fail
  have HGZ := Lib.hid hgz
  clear hW0 hgz
  cases h1 : Pl.isIn (n : Int) 1 5 with
  | false =>
    have HF : Hid (Pl.newPoll ages = (Pl.zPo, false)) := Lib.hid (if_neg (fun hh => by rw [HOK.out, h1] at hh; cases hh))
    have r0 := KS.out.cell (k := 0) 0 rfl rfl
    have r1 := KS.out.cell (k := 1) 0 rfl rfl
    have r2 := KS.out.cell (k := 2) 0 rfl rfl
    have z0 := KS.out.frz (k := 0) 0 rfl
    have z1 := KS.out.frz (k := 1) 0 rfl
    have z2 := KS.out.frz (k := 2) 0 rfl
    go_wp2_with (go_at_call 43; (with_reducible refine (within_c _ _ _ _).mono ?_); rintro e w5 ⟨rfl, rfl⟩)
    rw [HF.out]
    have HSF := Lib.hid (((KS.out.setBlk (k := 0) 0 rfl (.slice none 0 0)).setBlk (k := 1) 0 rfl (.slice none 0 0)).setBlk (k := 2) 0 rfl (.slice none 0 0))
    have u0 := HSF.out.cell (k := 0) 0 rfl rfl
    have u1 := HSF.out.cell (k := 1) 0 rfl rfl
    have u2 := HSF.out.cell (k := 2) 0 rfl rfl
    exact bodyPost_ret (v := .tuple #[.agg zPoll.toArray, .bool false]) (by simp [results, Try.results35, go_sem, zPoll, u0, u1, u2]) rfl (zPo_ret2 HSF.out.bel0)
  | true =>
  have hn15 := Pl.isIn_iff.1 h1
  cases h2 : ages.all Pl.ageOk with
  | false =>
    rw [h2] at CA
    have HF : Hid (Pl.newPoll ages = (Pl.zPo, false)) := Lib.hid (if_neg (fun hh => by rw [HOK.out, h1, h2] at hh; cases hh))
    go_wp2_with first
      | (go_at_call 43; (with_reducible refine (within_c _ _ _ _).mono ?_); rintro e w5 ⟨rfl, rfl⟩)
      | (go_at_call 44; (with_reducible refine CA.mono ?_); clear CA; rintro e w6 ⟨rfl, hb6⟩; (replace KS := Lib.hid (KS.out.step hb6)); clear hb6; (have r0 := KS.out.cell (k := 0) 0 rfl rfl); (have r1 := KS.out.cell (k := 1) 0 rfl rfl); (have r2 := KS.out.cell (k := 2) 0 rfl rfl); (have z0 := KS.out.frz (k := 0) 0 rfl); (have z1 := KS.out.frz (k := 1) 0 rfl); (have z2 := KS.out.frz (k := 2) 0 rfl))
    rw [HF.out]
    have HSF := Lib.hid (((KS.out.setBlk (k := 0) 0 rfl (.slice none 0 0)).setBlk (k := 1) 0 rfl (.slice none 0 0)).setBlk (k := 2) 0 rfl (.slice none 0 0))
    have u0 := HSF.out.cell (k := 0) 0 rfl rfl
    have u1 := HSF.out.cell (k := 1) 0 rfl rfl
    have u2 := HSF.out.cell (k := 2) 0 rfl rfl
    exact bodyPost_ret (v := .tuple #[.agg zPoll.toArray, .bool false]) (by simp [results, Try.results35, go_sem, zPoll, u0, u1, u2]) rfl (zPo_ret2 HSF.out.bel0)
  | true =>
  rw [h2] at CA
  have HF : Hid (Pl.newPoll ages = (Pl.newPo ages, true)) := Lib.hid (if_pos (by rw [HOK.out, h1, h2]; rfl))
  have hbw0 := KS.out.bel0
  have CN := fun W (hb : Below W0.heap.size W0 W) => newPoll_c ages A n c W B (HA.out.keep fun b hb' => (hb.block b (by have := hbw0.size; omega)).trans (hbw0.block b (by omega))) (Nat.le_trans hB (Nat.le_trans hbw0.size hb.size)) (by omega)
  have HCN := Lib.hid CN
  clear CN hbw0
  go_wp2_with first
    | (go_at_call 43; (with_reducible refine (within_c _ _ _ _).mono ?_); rintro e w5 ⟨rfl, rfl⟩)
    | (go_at_call 44; (with_reducible refine CA.mono ?_); clear CA; rintro e w6 ⟨rfl, hb6⟩; (replace KS := Lib.hid (KS.out.step hb6)); (have CN := HCN.out w6 hb6); clear hb6 HCN)
    | (go_at_call 47; (with_reducible refine CN.mono ?_); clear CN; rintro e w1 ⟨cs1, fp1, rfl, ho, hnd, hnew, hb⟩; obtain ⟨B0, m0, d0, B1, m1, d1, B2, m2, d2, rfl⟩ := own_formP ho; (have KS1 := Lib.hid (KS.out.add hb (t := Mm.tow rPoll (Pl.newPo ages) _ _) ho hnd hnew)); clear ho hnd hnew hb; (have r0 := KS1.out.cell (k := 0) 1 rfl rfl); (have r1 := KS1.out.cell (k := 1) 1 rfl rfl); (have r2 := KS1.out.cell (k := 2) 1 rfl rfl); (have z0 := KS1.out.frz (k := 0) 1 rfl); (have z1 := KS1.out.frz (k := 1) 1 rfl); (have z2 := KS1.out.frz (k := 2) 1 rfl))
  have HSF := Lib.hid (((KS1.out.setBlk (k := 0) 1 rfl (.slice B0 m0 d0)).setBlk (k := 1) 1 rfl (.slice B1 m1 d1)).setBlk (k := 2) 1 rfl (.slice B2 m2 d2))
  have u0 := HSF.out.cell (k := 0) 1 rfl rfl
  have u1 := HSF.out.cell (k := 1) 1 rfl rfl
  have u2 := HSF.out.cell (k := 2) 1 rfl rfl
  rw [HF.out]
  exact bodyPost_ret (v := .tuple #[.agg #[.slice B0 m0 d0, .slice B1 m1 d1, .slice B2 m2 d2], .bool true]) (by simp [results, Try.results35, go_sem, u0, u1, u2]) rfl (poll_ret2 HSF.out)
def Pl.findLead (t : Int) : List (List Int) → Int × Bool
  | [] => (0, false)
  | x :: l => if x.getD 0 0 = t then (x.getD 1 0, true) else Pl.findLead t l
def Pl.leaderOf (p : Poll) (t : Int) : Int × Bool := if Pl.pollOk p = true then Pl.findLead t p.Leaders else (0, false)
theorem Pl.findLead_at {t a b : Int} {l : List (List Int)} {k : Nat} (h : l[k]? = some [a, b]) : Pl.findLead t (l.drop k) = if a = t then (b, true) else Pl.findLead t (l.drop (k + 1)) := by
  obtain ⟨hi, he⟩ := List.getElem?_eq_some_iff.1 h
  rw [List.drop_eq_getElem_cons hi, he]
  rfl

set_option maxRecDepth 100000 in
set_option maxHeartbeats 1000000 in
theorem implLeader_c (p : Poll) (t : Int) (cs : List Value) (w : World) (B : Nat) (hr : rPoll.at_ w B p cs) (hB : B ≤ w.heap.size) (hp : Pl.PS p) :
    Calls Try.prog 12 #[.agg cs.toArray, .int .i64 t] w fun e w' => e = .returned (.tuple #[.int .i64 (Pl.leaderOf p t).1, .bool (Pl.leaderOf p t).2]) ∧ Below w.heap.size w w' := by
  obtain ⟨A0, n0, c0, A1, n1, c1, A2, n2, c2, rfl, r0, r1, r2⟩ := rPoll_at hr
  have l2 : n2 ≤ maxLen := Nat.le_trans r2.2.1 r2.2.2.1
  unfold maxLen at l2
  obtain ⟨ga, hga⟩ : ∃ ga, w.heap.size = ga := ⟨_, rfl⟩
  obtain ⟨W0, hW0⟩ : ∃ W0, w.alloc (.cells #[.slice A0 n0 c0, .slice A1 n1 c1, .slice A2 n2 c2] 31) = W0 := ⟨_, rfl⟩
  have HS0 := Lib.hid (((Mm.SepF.start w).alloc' hga 31 [.slice A0 n0 c0, .slice A1 n1 c1, .slice A2 n2 c2]).atW hW0)
  have HB0 := Lib.hid HS0.out.bel0
  have HBW := Lib.hid (Nat.le_trans hB HB0.out.size)
  have C := isPoll_c p [.slice A0 n0 c0, .slice A1 n1 c1, .slice A2 n2 c2] W0 B (rPoll.keep hr fun b hb => HB0.out.block b (Nat.lt_of_lt_of_le hb hB)) HBW.out hp
  have HLD := Lib.hid hp.lead
  have R2 := Lib.hid r2
  have HLN : Hid (p.Leaders.length = n2) := r2.1
  obtain ⟨gd, hgd⟩ : ∃ gd, Pl.pollOk p = gd := ⟨_, rfl⟩
  have HGD := Lib.hid hgd
  rw [hgd] at C
  have b0 := HS0.out.cell (k := 0) 0 rfl rfl
  have b1 := HS0.out.cell (k := 1) 0 rfl rfl
  have b2 := HS0.out.cell (k := 2) 0 rfl rfl
  clear hr r0 r1 r2 hp hgd
  cases gd with
  | false =>
    have HF : Hid (Pl.leaderOf p t = (0, false)) := Lib.hid (if_neg (by rw [HGD.out]; exact Bool.false_ne_true))
    go_enter Try.func12, Try.ntmps12
    go_wp2_with (go_at_call 52; (with_reducible refine C.mono ?_); clear C; rintro e w1 ⟨rfl, hb1⟩; have HX := Lib.hid hb1)
    go_ret2
    exact ⟨by rw [HF.out]; rfl, below_step HB0.out HX.out⟩
  | true =>
    have HF : Hid (Pl.leaderOf p t = Pl.findLead t p.Leaders) := Lib.hid (if_pos HGD.out)
    go_enter Try.func12, Try.ntmps12
    go_wp2_with (go_at_call 52; (with_reducible refine C.mono ?_); clear C; rintro e w1 ⟨rfl, hb1⟩; have HX := Lib.hid hb1; have b3 := below_some HX.out b2)
    clear b0 b1 b2 b3
    go_loopg [14] n2 (fun gg i wr => ∃ k : Nat, n2 - k ≤ gg ∧ k ≤ n2 ∧ i = .int .i64 k ∧ Hid (Pl.leaderOf p t = Pl.findLead t (p.Leaders.drop k)) ∧ wr = w1)
    case atStart => exact ⟨0, Nat.le_refl _, Nat.zero_le _, rfl, by rw [List.drop_zero]; exact HF.out, rfl⟩
    case round =>
      obtain ⟨k, hgk, hk, rfl, HK, rfl⟩ := hrel
      by_cases hlt : k < n2
      · obtain ⟨x, b, off, P1, p1, t1, hx, rfl, hb, uf0, uc0⟩ := ints_get (R2.out.keep (w' := wr) fun b hb => (HX.out.block b (Nat.lt_of_lt_of_le hb HBW.out)).trans (HB0.out.block b (Nat.lt_of_lt_of_le hb hB))) hlt
        obtain ⟨y, z, rfl, -⟩ := HLD.out x (List.mem_of_getElem? hx)
        obtain rfl : p1 = 2 := uf0.1.symm
        obtain ⟨x', b', off', hx', rfl, hb', i0', e0⟩ := int_get uf0 (show 0 < 2 by omega)
        obtain ⟨y', hy', _, j0, e1⟩ := int_get' uf0 (show 1 < 2 by omega)
        obtain rfl : y = x' := by injection hx'
        obtain rfl : z = y' := by injection hy'
        rw [Nat.add_zero] at e0
        have HN := Lib.hid (HK.out.trans (Pl.findLead_at (t := t) hx))
        have f1 : (k : Int) < (n2 : Nat) := by omega
        have f2 : (0 : Int) ≤ (k : Nat) := by omega
        have f3 : ((k : Nat) : Int).toNat = k := by omega
        clear hx uf0 hx' hy'
        by_cases h2 : y = t
        · subst h2
          have HV : Hid (Pl.leaderOf p y = (z, true)) := Lib.hid (by rw [HN.out, if_pos rfl])
          go_wp2_with fail
          go_ret2
          exact ⟨by rw [HV.out]; rfl, by rw [← hga]; exact below_step HB0.out HX.out⟩
        · have q1 : (y == t) = false := by simp [h2]
          have HV : Hid (Pl.leaderOf p t = Pl.findLead t (p.Leaders.drop (k + 1))) := Lib.hid (by rw [HN.out, if_neg h2])
          go_wp2_with fail
          go_roundg (n2 - (k + 1))
          case measure => omega
          case rel => exact ⟨k + 1, Nat.le_refl _, by omega, by go_num, HV.out, rfl⟩
      · have f1 : ¬ (k : Int) < (n2 : Nat) := by omega
        have HV : Hid (Pl.leaderOf p t = (0, false)) := Lib.hid (by rw [HK.out, List.drop_of_length_le (by rw [HLN.out]; omega)]; rfl)
        go_wp2
        go_ret2
        exact ⟨by rw [HV.out]; rfl, by rw [← hga]; exact below_step HB0.out HX.out⟩
set_option maxRecDepth 100000 in
set_option maxHeartbeats 1000000 in
theorem specLeader_c (p : Poll) (t : Int) (cs : List Value) (w : World) (B : Nat) (hr : rPoll.at_ w B p cs) (hB : B ≤ w.heap.size) (hp : Pl.PS p) :
    Calls Try.prog 38 #[.agg cs.toArray, .int .i64 t] w fun e w' => e = .returned (.tuple #[.int .i64 (Pl.leaderOf p t).1, .bool (Pl.leaderOf p t).2]) ∧ Below w.heap.size w w' := by
  obtain ⟨A0, n0, c0, A1, n1, c1, A2, n2, c2, rfl, r0, r1, r2⟩ := rPoll_at hr
  have l2 : n2 ≤ maxLen := Nat.le_trans r2.2.1 r2.2.2.1
  unfold maxLen at l2
  obtain ⟨ga, hga⟩ : ∃ ga, w.heap.size = ga := ⟨_, rfl⟩
  obtain ⟨W0, hW0⟩ : ∃ W0, w.alloc (.cells #[.slice A0 n0 c0, .slice A1 n1 c1, .slice A2 n2 c2] 31) = W0 := ⟨_, rfl⟩
  have HS0 := Lib.hid (((Mm.SepF.start w).alloc' hga 31 [.slice A0 n0 c0, .slice A1 n1 c1, .slice A2 n2 c2]).atW hW0)
  have HB0 := Lib.hid HS0.out.bel0
  have HBW := Lib.hid (Nat.le_trans hB HB0.out.size)
  have C := specGoodPoll_c p [.slice A0 n0 c0, .slice A1 n1 c1, .slice A2 n2 c2] W0 B (rPoll.keep hr fun b hb => HB0.out.block b (Nat.lt_of_lt_of_le hb hB)) HBW.out hp
  have HLD := Lib.hid hp.lead
  have R2 := Lib.hid r2
  have HLN : Hid (p.Leaders.length = n2) := r2.1
  obtain ⟨gd, hgd⟩ : ∃ gd, Pl.pollOk p = gd := ⟨_, rfl⟩
  have HGD := Lib.hid hgd
  rw [hgd] at C
  have b0 := HS0.out.cell (k := 0) 0 rfl rfl
  have b1 := HS0.out.cell (k := 1) 0 rfl rfl
  have b2 := HS0.out.cell (k := 2) 0 rfl rfl
  clear hr r0 r1 r2 hp hgd
  cases gd with
  | false =>
    have HF : Hid (Pl.leaderOf p t = (0, false)) := Lib.hid (if_neg (by rw [HGD.out]; exact Bool.false_ne_true))
    go_enter Try.func38, Try.ntmps38
    go_wp2_with (go_at_call 30; (with_reducible refine C.mono ?_); clear C; rintro e w1 ⟨rfl, hb1⟩; have HX := Lib.hid hb1)
    go_ret2
    exact ⟨by rw [HF.out]; rfl, below_step HB0.out HX.out⟩
  | true =>
    have HF : Hid (Pl.leaderOf p t = Pl.findLead t p.Leaders) := Lib.hid (if_pos HGD.out)
    go_enter Try.func38, Try.ntmps38
    go_wp2_with (go_at_call 30; (with_reducible refine C.mono ?_); clear C; rintro e w1 ⟨rfl, hb1⟩; have HX := Lib.hid hb1; have b3 := below_some HX.out b2)
    clear b0 b1 b2 b3
    go_loopg [14] n2 (fun gg i wr => ∃ k : Nat, n2 - k ≤ gg ∧ k ≤ n2 ∧ i = .int .i64 k ∧ Hid (Pl.leaderOf p t = Pl.findLead t (p.Leaders.drop k)) ∧ wr = w1)
    case atStart => exact ⟨0, Nat.le_refl _, Nat.zero_le _, rfl, by rw [List.drop_zero]; exact HF.out, rfl⟩
    case round =>
      obtain ⟨k, hgk, hk, rfl, HK, rfl⟩ := hrel
      by_cases hlt : k < n2
      · obtain ⟨x, b, off, P1, p1, t1, hx, rfl, hb, uf0, uc0⟩ := ints_get (R2.out.keep (w' := wr) fun b hb => (HX.out.block b (Nat.lt_of_lt_of_le hb HBW.out)).trans (HB0.out.block b (Nat.lt_of_lt_of_le hb hB))) hlt
        obtain ⟨y, z, rfl, -⟩ := HLD.out x (List.mem_of_getElem? hx)
        obtain rfl : p1 = 2 := uf0.1.symm
        obtain ⟨x', b', off', hx', rfl, hb', i0', e0⟩ := int_get uf0 (show 0 < 2 by omega)
        obtain ⟨y', hy', _, j0, e1⟩ := int_get' uf0 (show 1 < 2 by omega)
        obtain rfl : y = x' := by injection hx'
        obtain rfl : z = y' := by injection hy'
        rw [Nat.add_zero] at e0
        have HN := Lib.hid (HK.out.trans (Pl.findLead_at (t := t) hx))
        have f1 : (k : Int) < (n2 : Nat) := by omega
        have f2 : (0 : Int) ≤ (k : Nat) := by omega
        have f3 : ((k : Nat) : Int).toNat = k := by omega
        clear hx uf0 hx' hy'
        by_cases h2 : y = t
        · subst h2
          have HV : Hid (Pl.leaderOf p y = (z, true)) := Lib.hid (by rw [HN.out, if_pos rfl])
          go_wp2_with fail
          go_ret2
          exact ⟨by rw [HV.out]; rfl, by rw [← hga]; exact below_step HB0.out HX.out⟩
        · have q1 : (y == t) = false := by simp [h2]
          have HV : Hid (Pl.leaderOf p t = Pl.findLead t (p.Leaders.drop (k + 1))) := Lib.hid (by rw [HN.out, if_neg h2])
          go_wp2_with fail
          go_roundg (n2 - (k + 1))
          case measure => omega
          case rel => exact ⟨k + 1, Nat.le_refl _, by omega, by go_num, HV.out, rfl⟩
      · have f1 : ¬ (k : Int) < (n2 : Nat) := by omega
        have HV : Hid (Pl.leaderOf p t = (0, false)) := Lib.hid (by rw [HK.out, List.drop_of_length_le (by rw [HLN.out]; omega)]; rfl)
        go_wp2
        go_ret2
        exact ⟨by rw [HV.out]; rfl, by rw [← hga]; exact below_step HB0.out HX.out⟩
def Pl.majOf (n : Int) : Int × Bool := if 1 ≤ n ∧ n ≤ 100 then (n / 2 + 1, true) else (0, false)
set_option maxRecDepth 100000 in
theorem implMaj_c (n : Int) (w : World) : Calls Try.prog 13 #[.int .i64 n] w fun e w' => e = .returned (.tuple #[.int .i64 (Pl.majOf n).1, .bool (Pl.majOf n).2]) ∧ w = w' := by
  cases h1 : Pl.isIn n 1 100 with
  | true =>
    have h2 := Pl.isIn_iff.1 h1
    have HF : Hid (Pl.majOf n = (n / 2 + 1, true)) := Lib.hid (if_pos h2)
    have G1 := Lib.hid h1
    clear h1
    go_enter Try.func13, Try.ntmps13
    go_wp2_with (go_at_call 43; (with_reducible refine (within_isV G1.out _).mono ?_); rintro e w' ⟨rfl, rfl⟩)
    go_ret2
    exact ⟨by rw [HF.out]; rfl, rfl⟩
  | false =>
    have HF : Hid (Pl.majOf n = (0, false)) := Lib.hid (if_neg (fun h => by rw [Pl.isIn_iff.2 h] at h1; cases h1))
    have G1 := Lib.hid h1
    clear h1
    go_enter Try.func13, Try.ntmps13
    go_wp2_with (go_at_call 43; (with_reducible refine (within_isV G1.out _).mono ?_); rintro e w' ⟨rfl, rfl⟩)
    go_ret2
    exact ⟨by rw [HF.out]; rfl, rfl⟩
set_option maxRecDepth 100000 in
theorem specMaj_c (n : Int) (w : World) : Calls Try.prog 40 #[.int .i64 n] w fun e w' => e = .returned (.tuple #[.int .i64 (Pl.majOf n).1, .bool (Pl.majOf n).2]) ∧ w = w' := by
  cases h1 : Pl.isIn n 1 100 with
  | true =>
    have h2 := Pl.isIn_iff.1 h1
    obtain ⟨m, rfl⟩ : ∃ m : Nat, n = m := ⟨n.toNat, by omega⟩
    obtain ⟨hf, hhf⟩ : ∃ hf, m / 2 = hf := ⟨_, rfl⟩
    have HF : Hid (Pl.majOf (m : Int) = ((hf : Int) + 1, true)) := Lib.hid ((if_pos h2).trans (by rw [show (m : Int) / 2 = (hf : Int) by omega]))
    have CM := l8Majority_c m hf (by omega) hhf w
    have G1 := Lib.hid h1
    clear h1 h2 hhf
    go_enter Try.func40, Try.ntmps40
    go_wp2_with first
      | (go_at_call 67; (with_reducible refine (l1In_isV G1.out _).mono ?_); rintro e w' ⟨rfl, rfl⟩)
      | (go_at_call 73; (with_reducible refine CM.mono ?_); rintro e w' ⟨rfl, rfl⟩)
    go_ret2
    exact ⟨by rw [HF.out]; rfl, rfl⟩
  | false =>
    have HF : Hid (Pl.majOf n = (0, false)) := Lib.hid (if_neg (fun h => by rw [Pl.isIn_iff.2 h] at h1; cases h1))
    have G1 := Lib.hid h1
    clear h1
    go_enter Try.func40, Try.ntmps40
    go_wp2_with (go_at_call 67; (with_reducible refine (l1In_isV G1.out _).mono ?_); rintro e w' ⟨rfl, rfl⟩)
    go_ret2
    exact ⟨by rw [HF.out]; rfl, rfl⟩
end Go.Proofs.Ytkhchfbpmmiopaa

/-
  Contracts: IsOverlap of both at rising lists (chapter 8). No conditions beyond those named.
-/
namespace Go.Proofs.Ytkhchfbpmmiopaa
open Go.RowKit
attribute [local go_sem] und_cell cha_cell World.cell?_alloc_some
/-- both hold a majority -/
def Pl.overOf (n : Nat) (a b : List Int) : Bool := decide (n / 2 < a.length ∧ n / 2 < b.length)
theorem Pl.over_meet {n : Nat} {a b : List Int} (ha : Pl.risI (n : Int) a = true) (hb : Pl.risI (n : Int) b = true) (h : n / 2 < a.length ∧ n / 2 < b.length) : ∃ x, x ∈ a ∧ x ∈ b := by
  obtain ⟨a1, a2⟩ := Pl.risI_iff.1 ha
  obtain ⟨b1, b2⟩ := Pl.risI_iff.1 hb
  exact Pl.meet_ n a b 0 a1 b1 (fun x hx => by have := a2 x hx; omega) (fun x hx => by have := b2 x hx; omega) (by omega)
set_option maxRecDepth 100000 in
set_option maxHeartbeats 1000000 in
theorem implOver_c (n : Nat) (a b : List Int) (A : Option Addr) (m c : Nat) (A' : Option Addr) (m' c' : Nat) (w : World) (B : Nat) (ha : Mm.SlAt Mm.int w B a A m c) (hb : Mm.SlAt Mm.int w B b A' m' c') (hB : B ≤ w.heap.size) (h1 : 1 ≤ n) (h5 : n ≤ 5) (ra : Pl.risI (n : Int) a = true) (rb : Pl.risI (n : Int) b = true) (hm : m ≤ 1000) (hm' : m' ≤ 1000) :
    Calls Try.prog 32 #[.int .i64 (n : Nat), .slice A m c, .slice A' m' c'] w fun e w' => e = .returned (.tuple #[.bool (Pl.overOf n a b), .bool (Pl.overOf n a b)]) ∧ Below w.heap.size w w' := by
  have G1 : Hid (Pl.isIn (n : Int) 1 5 = true) := Lib.hid (Pl.isInY (by omega))
  obtain ⟨hf, hhf⟩ : ∃ hf, n / 2 = hf := ⟨_, rfl⟩
  have HHF := Lib.hid hhf
  have CA := areNodes_c n a A m c w B ha (by omega)
  rw [ra] at CA
  have CB := fun W (h : Below w.heap.size w W) => areNodes_c n b A' m' c' W B (hb.keep fun q hq => h.block q (Nat.lt_of_lt_of_le hq hB)) (by omega)
  rw [rb] at CB
  have HCB := Lib.hid CB
  have CM := fun W (h : Below w.heap.size w W) => meet_c a A m c b A' m' c' W B (ha.keep fun q hq => h.block q (Nat.lt_of_lt_of_le hq hB)) (hb.keep fun q hq => h.block q (Nat.lt_of_lt_of_le hq hB)) (Nat.le_trans hB h.size) hm
  have HCM := Lib.hid CM
  have HO : Hid (Pl.overOf n a b = decide (hf < m ∧ hf < m')) := Lib.hid (by unfold Pl.overOf; rw [ha.1, hb.1, hhf])
  have HX : Hid (hf < m ∧ hf < m' → 0 < (Pl.meetI a b).length) := Lib.hid (fun h => by
    obtain ⟨x, hx1, hx2⟩ := Pl.over_meet ra rb (by rw [ha.1, hb.1, hhf]; exact h)
    have : x ∈ Pl.meetI a b := List.mem_filter.2 ⟨hx1, Pl.hasI_iff.2 hx2⟩
    exact List.length_pos_of_mem this)
  have hmn : hf ≤ 2 := by omega
  clear ha hb ra rb CB CM hhf hB
  by_cases h3 : hf < m
  · have q1 : ¬ (m : Int) ≤ (n : Int) / 2 := by have := HHF.out; omega
    by_cases h4 : hf < m'
    · have q2 : ¬ (m' : Int) ≤ (n : Int) / 2 := by have := HHF.out; omega
      have HT : Hid (Pl.overOf n a b = true) := Lib.hid (by rw [HO.out]; exact decide_eq_true ⟨h3, h4⟩)
      have HP := Lib.hid (HX.out ⟨h3, h4⟩)
      go_enter Try.func32, Try.ntmps32
      go_wp2_with first
        | (go_at_call 43; (with_reducible refine (within_isV G1.out _).mono ?_); rintro e w' ⟨rfl, rfl⟩)
        | (go_at_call 71; (with_reducible refine CA.mono ?_); clear CA; rintro e w1 ⟨rfl, hb1⟩; have CB := HCB.out w1 hb1)
        | (go_at_call 71; (with_reducible refine CB.mono ?_); clear CB; rintro e w2 ⟨rfl, hb2⟩; have hb2' := below_step hb1 hb2; have CM := HCM.out w2 hb2')
        | (go_at_call 72; (with_reducible refine CM.mono ?_); clear CM; rintro e w3 ⟨A3, n3, c3, rfl, hn3, hb3⟩; (have hp3 : (0 : Int) < (n3 : Nat) := by have := HP.out; omega); (have HB3 := Lib.hid (below_step hb2' hb3)); clear hn3 hb3)
      go_ret2
      exact ⟨by rw [HT.out]; simp; omega, HB3.out⟩
    · have q2 : (m' : Int) ≤ (n : Int) / 2 := by have := HHF.out; omega
      have HT : Hid (Pl.overOf n a b = false) := Lib.hid (by rw [HO.out]; exact decide_eq_false (fun h => h4 h.2))
      go_enter Try.func32, Try.ntmps32
      go_wp2_with first
        | (go_at_call 43; (with_reducible refine (within_isV G1.out _).mono ?_); rintro e w' ⟨rfl, rfl⟩)
        | (go_at_call 71; (with_reducible refine CA.mono ?_); clear CA; rintro e w1 ⟨rfl, hb1⟩; have CB := HCB.out w1 hb1)
        | (go_at_call 71; (with_reducible refine CB.mono ?_); clear CB; rintro e w2 ⟨rfl, hb2⟩; have HB2 := Lib.hid (below_step hb1 hb2))
      go_ret2
      exact ⟨by rw [HT.out]; rfl, HB2.out⟩
  · have q1 : (m : Int) ≤ (n : Int) / 2 := by have := HHF.out; omega
    have HT : Hid (Pl.overOf n a b = false) := Lib.hid (by rw [HO.out]; exact decide_eq_false (fun h => h3 h.1))
    go_enter Try.func32, Try.ntmps32
    go_wp2_with first
      | (go_at_call 43; (with_reducible refine (within_isV G1.out _).mono ?_); rintro e w' ⟨rfl, rfl⟩)
      | (go_at_call 71; (with_reducible refine CA.mono ?_); clear CA; rintro e w1 ⟨rfl, hb1⟩; have CB := HCB.out w1 hb1)
      | (go_at_call 71; (with_reducible refine CB.mono ?_); clear CB; rintro e w2 ⟨rfl, hb2⟩; have HB2 := Lib.hid (below_step hb1 hb2))
    go_ret2
    exact ⟨by rw [HT.out]; rfl, HB2.out⟩
set_option maxRecDepth 100000 in
set_option maxHeartbeats 1000000 in
theorem specOver_c (n : Nat) (a b : List Int) (A : Option Addr) (m c : Nat) (A' : Option Addr) (m' c' : Nat) (w : World) (B : Nat) (ha : Mm.SlAt Mm.int w B a A m c) (hb : Mm.SlAt Mm.int w B b A' m' c') (hB : B ≤ w.heap.size) (h1 : 1 ≤ n) (h5 : n ≤ 5) (ra : Pl.risI (n : Int) a = true) (rb : Pl.risI (n : Int) b = true) (hm : m ≤ 1000) (hm' : m' ≤ 1000) :
    Calls Try.prog 33 #[.int .i64 (n : Nat), .slice A m c, .slice A' m' c'] w fun e w' => e = .returned (.tuple #[.bool (Pl.overOf n a b), .bool (Pl.overOf n a b)]) ∧ Below w.heap.size w w' := by
  have G1 : Hid (Pl.isIn (n : Int) 1 5 = true) := Lib.hid (Pl.isInY (by omega))
  obtain ⟨hf, hhf⟩ : ∃ hf, n / 2 = hf := ⟨_, rfl⟩
  have HMJ : Hid (∀ W, Calls Try.prog 73 #[.int .i64 (n : Nat)] W fun e w' => e = .returned (.int .i64 ((hf : Nat) + 1 : Int)) ∧ W = w') := Lib.hid (fun W => l8Majority_c n hf (by omega) hhf W)
  have CA := l8Rising_c n a A m c w B ha (by omega)
  rw [ra] at CA
  have CB := fun W (h : Below w.heap.size w W) => l8Rising_c n b A' m' c' W B (hb.keep fun q hq => h.block q (Nat.lt_of_lt_of_le hq hB)) (by omega)
  rw [rb] at CB
  have HCB := Lib.hid CB
  have HA := Lib.hid ha
  have HBB := Lib.hid hb
  have HBW := Lib.hid hB
  have HO : Hid (Pl.overOf n a b = decide (hf < m ∧ hf < m')) := Lib.hid (by unfold Pl.overOf; rw [ha.1, hb.1, hhf])
  have HX : Hid (hf < m ∧ hf < m' → ∃ x, x ∈ a ∧ x ∈ b) := Lib.hid (fun h => Pl.over_meet ra rb (by rw [ha.1, hb.1, hhf]; exact h))
  have hmn : hf ≤ 2 := by omega
  clear ha hb ra rb CB hhf hB
  by_cases h3 : hf < m
  · have q1 : ¬ (m : Int) < (hf : Nat) + 1 := by omega
    by_cases h4 : hf < m'
    · have q2 : ¬ (m' : Int) < (hf : Nat) + 1 := by omega
      have HT : Hid (Pl.overOf n a b = true) := Lib.hid (by rw [HO.out]; exact decide_eq_true ⟨h3, h4⟩)
      have HP := Lib.hid (HX.out ⟨h3, h4⟩)
      go_enter Try.func33, Try.ntmps33
      go_wp2_with first | (go_at_call 67; (with_reducible refine (l1In_isV G1.out _).mono ?_); rintro e w' ⟨rfl, rfl⟩) | (((go_at_call 68; (with_reducible refine CA.mono ?_); clear CA; rintro e w1 ⟨rfl, hb1⟩; have CB := HCB.out w1 hb1))) | (((go_at_call 68; (with_reducible refine CB.mono ?_); clear CB; rintro e w2 ⟨rfl, hb2⟩; have HB2 := Lib.hid (below_step hb1 hb2); clear hb1 hb2))) | (((go_at_call 73; (with_reducible refine (HMJ.out _).mono ?_); rintro e w' ⟨rfl, rfl⟩)))
      go_loopg [41] m (fun gg i wr => ∃ k : Nat, m - k ≤ gg ∧ k ≤ m ∧ i = .int .i64 k ∧ Hid (∀ (j : Nat) y, j < k → a[j]? = some y → y ∉ b) ∧ wr = w2)
      case atStart => exact ⟨0, Nat.le_refl _, Nat.zero_le _, rfl, fun j y hj => absurd hj (Nat.not_lt_zero _), rfl⟩
      case round =>
        obtain ⟨k, hgk, hk, rfl, HN, rfl⟩ := hrel
        by_cases hlt : k < m
        · obtain ⟨x, bk, off, hx, rfl, hbk, i1, e0⟩ := int_get (HA.out.keep (w' := wr) fun q hq => HB2.out.block q (Nat.lt_of_lt_of_le hq HBW.out)) hlt
          have CH := l1Has_c b x A' m' c' wr B (HBB.out.keep fun q hq => HB2.out.block q (Nat.lt_of_lt_of_le hq HBW.out))
          have HXX := Lib.hid hx
          have f1 : (k : Int) < (m : Nat) := by omega
          have f2 : (0 : Int) ≤ (k : Nat) := by omega
          have f3 : ((k : Nat) : Int).toNat = k := by omega
          clear hx i1
          cases hh : Pl.hasI b x with
          | true =>
            rw [hh] at CH
            clear hh
            go_wp2_with (go_at_call 74; (with_reducible refine CH.mono ?_); clear CH; rintro e w5 ⟨rfl, rfl⟩)
            go_ret2
            exact ⟨by rw [HT.out]; rfl, HB2.out⟩
          | false =>
            rw [hh] at CH
            have HH := Lib.hid hh
            clear hh
            go_wp2_with (go_at_call 74; (with_reducible refine CH.mono ?_); clear CH; rintro e w5 ⟨rfl, rfl⟩)
            go_roundg (m - (k + 1))
            case measure => omega
            case rel => exact ⟨k + 1, Nat.le_refl _, by omega, by go_num, (fun j y hj hy hyb => by
              rcases Nat.lt_succ_iff_lt_or_eq.1 hj with h1 | rfl
              · exact HN.out j y h1 hy hyb
              · rw [HXX.out] at hy; injection hy with hy; rw [← hy] at hyb; rw [Pl.hasI_iff.2 hyb] at HH; exact Bool.noConfusion HH.out), rfl⟩
        · exfalso
          obtain ⟨x, hxa, hxb⟩ := HP.out
          obtain ⟨j, hj⟩ := List.mem_iff_getElem?.1 hxa
          have hjl := (List.getElem?_eq_some_iff.1 hj).1
          exact HN.out j x (by have := HA.out.1; omega) hj hxb
    · have q2 : (m' : Int) < (hf : Nat) + 1 := by omega
      have HT : Hid (Pl.overOf n a b = false) := Lib.hid (by rw [HO.out]; exact decide_eq_false (fun h => h4 h.2))
      go_enter Try.func33, Try.ntmps33
      go_wp2_with first | (go_at_call 67; (with_reducible refine (l1In_isV G1.out _).mono ?_); rintro e w' ⟨rfl, rfl⟩) | (((go_at_call 68; (with_reducible refine CA.mono ?_); clear CA; rintro e w1 ⟨rfl, hb1⟩; have CB := HCB.out w1 hb1))) | (((go_at_call 68; (with_reducible refine CB.mono ?_); clear CB; rintro e w2 ⟨rfl, hb2⟩; have HB2 := Lib.hid (below_step hb1 hb2); clear hb1 hb2))) | (((go_at_call 73; (with_reducible refine (HMJ.out _).mono ?_); rintro e w' ⟨rfl, rfl⟩)))
      go_ret2
      exact ⟨by rw [HT.out]; rfl, HB2.out⟩
  · have q1 : (m : Int) < (hf : Nat) + 1 := by omega
    have HT : Hid (Pl.overOf n a b = false) := Lib.hid (by rw [HO.out]; exact decide_eq_false (fun h => h3 h.1))
    go_enter Try.func33, Try.ntmps33
    go_wp2_with first | (go_at_call 67; (with_reducible refine (l1In_isV G1.out _).mono ?_); rintro e w' ⟨rfl, rfl⟩) | (((go_at_call 68; (with_reducible refine CA.mono ?_); clear CA; rintro e w1 ⟨rfl, hb1⟩; have CB := HCB.out w1 hb1))) | (((go_at_call 68; (with_reducible refine CB.mono ?_); clear CB; rintro e w2 ⟨rfl, hb2⟩; have HB2 := Lib.hid (below_step hb1 hb2); clear hb1 hb2))) | (((go_at_call 73; (with_reducible refine (HMJ.out _).mono ?_); rintro e w' ⟨rfl, rfl⟩)))
    go_ret2
    exact ⟨by rw [HT.out]; rfl, HB2.out⟩
end Go.Proofs.Ytkhchfbpmmiopaa

/-
  Contracts: the laws' own comparisons, at equal data, and the number of some bytes. No conditions.
-/
namespace Go.Proofs.Ytkhchfbpmmiopaa
open Go.RowKit
attribute [local go_sem] und_cell World.cell?_alloc_some
set_option maxRecDepth 100000 in
set_option maxHeartbeats 1000000 in
theorem sameInts_c (l : List Int) (A A' : Option Addr) (n c c' : Nat) (w : World) (B : Nat) (h1 : Mm.SlAt Mm.int w B l A n c) (h2 : Mm.SlAt Mm.int w B l A' n c') (hB : B ≤ w.heap.size) :
    Calls Try.prog 51 #[.slice A n c, .slice A' n c'] w fun e w' => e = .returned (.bool true) ∧ Below w.heap.size w w' := by
  have H1 := Lib.hid h1
  have H2 := Lib.hid h2
  have hlen : n ≤ maxLen := Nat.le_trans h1.2.1 h1.2.2.1
  unfold maxLen at hlen
  clear h1 h2
  go_enter Try.func51, Try.ntmps51
  go_wp2
  go_loopg [13] n (fun gg i wr => ∃ k : Nat, n - k ≤ gg ∧ k ≤ n ∧ i = .int .i64 k ∧ Below w.heap.size w wr)
  case atStart => exact ⟨0, Nat.le_refl _, Nat.zero_le _, rfl, Below.refl _ _⟩
  case round =>
    obtain ⟨k, hgk, hk, rfl, hbel⟩ := hrel
    have HB := Lib.hid hbel
    by_cases hlt : k < n
    · obtain ⟨x, b, off, hx, rfl, hb, b1, c1⟩ := int_get (H1.out.keep fun b hb => hbel.block b (by omega)) hlt
      obtain ⟨y, b', off', hy, rfl, hb', b1', c1'⟩ := int_get (H2.out.keep fun b hb => hbel.block b (by omega)) hlt
      rw [hx] at hy
      injection hy with hy
      subst hy
      have f1 : (k : Int) < (n : Nat) := by omega
      have f2 : (0 : Int) ≤ (k : Nat) := by omega
      clear hx hbel
      go_wp2
      go_quiet (fail)
      go_wp2
      go_roundg (n - (k + 1))
      case measure => omega
      case rel => exact ⟨k + 1, Nat.le_refl _, by omega, by go_num, below_drewN HB.out _⟩
    · go_wp2
      go_ret
      exact ⟨rfl, HB.out⟩
set_option maxRecDepth 100000 in
set_option maxHeartbeats 1000000 in
theorem sameBools_c (l : List Bool) (A A' : Option Addr) (n c c' : Nat) (w : World) (B : Nat) (h1 : Mm.SlAt Mm.bool w B l A n c) (h2 : Mm.SlAt Mm.bool w B l A' n c') (hB : B ≤ w.heap.size) :
    Calls Try.prog 9 #[.slice A n c, .slice A' n c'] w fun e w' => e = .returned (.bool true) ∧ Below w.heap.size w w' := by
  have H1 := Lib.hid h1
  have H2 := Lib.hid h2
  have hlen : n ≤ maxLen := Nat.le_trans h1.2.1 h1.2.2.1
  unfold maxLen at hlen
  clear h1 h2
  go_enter Try.func9, Try.ntmps9
  go_wp2
  go_loopg [13] n (fun gg i wr => ∃ k : Nat, n - k ≤ gg ∧ k ≤ n ∧ i = .int .i64 k ∧ Below w.heap.size w wr)
  case atStart => exact ⟨0, Nat.le_refl _, Nat.zero_le _, rfl, Below.refl _ _⟩
  case round =>
    obtain ⟨k, hgk, hk, rfl, hbel⟩ := hrel
    have HB := Lib.hid hbel
    by_cases hlt : k < n
    · obtain ⟨x, b, off, hx, rfl, hb, c1⟩ := bool_get (H1.out.keep fun b hb => hbel.block b (by omega)) hlt
      obtain ⟨y, b', off', hy, rfl, hb', c1'⟩ := bool_get (H2.out.keep fun b hb => hbel.block b (by omega)) hlt
      rw [hx] at hy
      injection hy with hy
      subst hy
      have f1 : (k : Int) < (n : Nat) := by omega
      have f2 : (0 : Int) ≤ (k : Nat) := by omega
      clear hx hbel
      go_wp2
      go_quiet (fail)
      go_wp2
      go_roundg (n - (k + 1))
      case measure => omega
      case rel => exact ⟨k + 1, Nat.le_refl _, by omega, by go_num, below_drewN HB.out _⟩
    · go_wp2
      go_ret
      exact ⟨rfl, HB.out⟩
end Go.Proofs.Ytkhchfbpmmiopaa

/-
  Contracts: the laws' own comparison of elections, at equal data (chapter 8). No conditions.
-/
namespace Go.Proofs.Ytkhchfbpmmiopaa
open Go.RowKit
attribute [local go_sem] und_cell cha_cell World.cell?_alloc_some
theorem Try.stoodLetter : Try.prog.stoodInHeld 84 = false := by kernel_rfl
theorem run_neLetter (x : Letter) (W : World) : (binOp .neq 84 (.agg #[.int .i64 x.From, .int .i64 x.To, .int .i64 x.Term, .bool x.Ask, .int .i64 x.Age]) (.agg #[.int .i64 x.From, .int .i64 x.To, .int .i64 x.Term, .bool x.Ask, .int .i64 x.Age])).run Try.prog W = .ok (.bool false) W := by
  have ht : Try.prog.underlying 84 = some (.struct (Try.prog.fieldsOf 84)) := by simp [Program.fieldsOf, Try.underlying84]
  rw [run_neq_struct, run_equalIn_agg _ _ _ _ _ ht Try.stoodLetter]
  simp [Program.fieldsOf, Try.underlying84, Op.eqFields, go_sem]
set_option maxRecDepth 100000 in
set_option maxHeartbeats 4000000 in
theorem samePolls_c (p : Poll) (cs cs2 : List Value) (w : World) (B : Nat) (h1 : rPoll.at_ w B p cs) (h2 : rPoll.at_ w B p cs2) (hB : B ≤ w.heap.size) :
    Calls Try.prog 10 #[.agg cs.toArray, .agg cs2.toArray] w fun e w' => e = .returned (.bool true) ∧ Below w.heap.size w w' := by
  obtain ⟨A0, n0, c0, A1, n1, c1, A2, n2, c2, rfl, r0, r1, r2⟩ := rPoll_at h1
  obtain ⟨A0', m0, c0', A1', m1, c1', A2', m2, c2', rfl, q0, q1, q2⟩ := rPoll_at h2
  obtain rfl : n0 = m0 := r0.1.symm.trans q0.1
  obtain rfl : n1 = m1 := r1.1.symm.trans q1.1
  obtain rfl : n2 = m2 := r2.1.symm.trans q2.1
  have l0 : n0 ≤ maxLen := Nat.le_trans r0.2.1 r0.2.2.1
  have l1 : n1 ≤ maxLen := Nat.le_trans r1.2.1 r1.2.2.1
  have l2 : n2 ≤ maxLen := Nat.le_trans r2.2.1 r2.2.2.1
  unfold maxLen at l0 l1 l2
  have R0 := Lib.hid r0
  have R1 := Lib.hid r1
  have R2 := Lib.hid r2
  have Q0 := Lib.hid q0
  have Q1 := Lib.hid q1
  have Q2 := Lib.hid q2
  clear h1 h2 r0 r1 r2 q0 q1 q2
  go_enter Try.func10, Try.ntmps10
  go_upto_region 1 with fail
  obtain ⟨ga, hga⟩ : ∃ ga, w.heap.size = ga := ⟨_, rfl⟩
  obtain ⟨gb, hgb⟩ : ∃ gb, ga + 1 = gb := ⟨_, rfl⟩
  obtain ⟨W0, hW0⟩ : ∃ W0, (w.alloc (.cells #[.slice A0 n0 c0, .slice A1 n1 c1, .slice A2 n2 c2] 31)).alloc (.cells #[.slice A0' n0 c0', .slice A1' n1 c1', .slice A2' n2 c2'] 31) = W0 := ⟨_, rfl⟩
  have HS0 := Lib.hid ((((Mm.SepF.start w).alloc' hga 31 [.slice A0 n0 c0, .slice A1 n1 c1, .slice A2 n2 c2]).alloc' (g := gb) (by rw [Mm.sz1, hga, hgb]) 31 [.slice A0' n0 c0', .slice A1' n1 c1', .slice A2' n2 c2']).atW hW0)
  rw [hW0, hga, hgb]
  have HGA := Lib.hid hga
  clear hW0 hga hgb
  have HB0 := Lib.hid HS0.out.bel0
  have HBW := Lib.hid (Nat.le_trans hB HB0.out.size)
  have HX := Lib.hid (Below.refl W0.heap.size W0)
  have b0 := below_some HX.out (HS0.out.cell (k := 0) 0 rfl rfl)
  have b1 := below_some HX.out (HS0.out.cell (k := 1) 0 rfl rfl)
  have b2 := below_some HX.out (HS0.out.cell (k := 2) 0 rfl rfl)
  have d0 := below_some HX.out (HS0.out.cell (k := 0) 1 rfl rfl)
  have d1 := below_some HX.out (HS0.out.cell (k := 1) 1 rfl rfl)
  have d2 := below_some HX.out (HS0.out.cell (k := 2) 1 rfl rfl)
  go_wp2_with fail
  clear b0 b1 b2 d0 d1 d2
  have HXX := Lib.hid HX.out
  clear HX
  go_loopg [38] n0 (fun gg i wr => ∃ k : Nat, n0 - k ≤ gg ∧ k ≤ n0 ∧ i = .int .i64 k ∧ Hid (Below W0.heap.size W0 wr))
  case atStart => exact ⟨0, Nat.le_refl _, Nat.zero_le _, rfl, HXX.out⟩
  case round =>
    clear HXX
    obtain ⟨k, hgk, hk, rfl, HX⟩ := hrel
    obtain ⟨W1, rfl⟩ : ∃ W1 : World, W1 = wr := ⟨_, rfl⟩
    by_cases hlt : k < n0
    · have b0 := below_some HX.out (HS0.out.cell (k := 0) 0 rfl rfl)
      have d0 := below_some HX.out (HS0.out.cell (k := 0) 1 rfl rfl)
      have hBw : B ≤ W1.heap.size := Nat.le_trans HBW.out HX.out.size
      obtain ⟨x, b, off, P1, p1, t1, hx, rfl, hb, -, -, -, uf0, -, e0, e1, e2, e3, e4⟩ := rNode_get (R0.out.keep (w' := W1) fun b hb => (HX.out.block b (Nat.lt_of_lt_of_le hb HBW.out)).trans (HB0.out.block b (Nat.lt_of_lt_of_le hb hB))) hlt
      obtain ⟨y, b', off', P2, p2, t2, hy, rfl, hb', -, -, -, vf0, -, e0', e1', e2', e3', e4'⟩ := rNode_get (Q0.out.keep (w' := W1) fun b hb => (HX.out.block b (Nat.lt_of_lt_of_le hb HBW.out)).trans (HB0.out.block b (Nat.lt_of_lt_of_le hb hB))) hlt
      obtain rfl : x = y := by rw [hx] at hy; injection hy
      obtain rfl : p1 = p2 := uf0.1.symm.trans vf0.1
      have UF := Lib.hid uf0
      have VF := Lib.hid vf0
      have f1 : (k : Int) < (n0 : Nat) := by omega
      have f2 : (0 : Int) ≤ (k : Nat) := by omega
      have f3 : ((k : Nat) : Int).toNat = k := by omega
      clear hx hy uf0 vf0
      go_upto_region 8 with fail
      obtain ⟨gx, hgx⟩ : ∃ gx, W1.heap.size = gx := ⟨_, rfl⟩
      obtain ⟨gy, hgy⟩ : ∃ gy, gx + 1 = gy := ⟨_, rfl⟩
      obtain ⟨W2, hW2⟩ : ∃ W2, (W1.alloc (.cells #[.int .i64 x.Term, .int .i64 x.Voted, .int .i64 x.Age, .slice P1 p1 t1, .int .i64 x.Role] 42)).alloc (.cells #[.int .i64 x.Term, .int .i64 x.Voted, .int .i64 x.Age, .slice P2 p1 t2, .int .i64 x.Role] 42) = W2 := ⟨_, rfl⟩
      have HSR := Lib.hid ((((Mm.SepF.start W1).alloc' hgx 42 [.int .i64 x.Term, .int .i64 x.Voted, .int .i64 x.Age, .slice P1 p1 t1, .int .i64 x.Role]).alloc' (g := gy) (by rw [Mm.sz1, hgx, hgy]) 42 [.int .i64 x.Term, .int .i64 x.Voted, .int .i64 x.Age, .slice P2 p1 t2, .int .i64 x.Role]).atW hW2)
      rw [hW2, hgx, hgy]
      clear hW2 hgx hgy e0 e1 e2 e3 e4 e0' e1' e2' e3' e4' b0 d0
      have g0 := HSR.out.cell (k := 0) 0 rfl rfl
      have g1 := HSR.out.cell (k := 1) 0 rfl rfl
      have g2 := HSR.out.cell (k := 2) 0 rfl rfl
      have g3 := HSR.out.cell (k := 3) 0 rfl rfl
      have g4 := HSR.out.cell (k := 4) 0 rfl rfl
      have j0 := HSR.out.cell (k := 0) 1 rfl rfl
      have j1 := HSR.out.cell (k := 1) 1 rfl rfl
      have j2 := HSR.out.cell (k := 2) 1 rfl rfl
      have j3 := HSR.out.cell (k := 3) 1 rfl rfl
      have j4 := HSR.out.cell (k := 4) 1 rfl rfl
      have HB2 := Lib.hid HSR.out.bel0
      go_wp2_with (go_at_call 51; (with_reducible refine (sameInts_c x.Heard P1 P2 p1 t1 t2 W2 B (UF.out.keep (w' := W2) fun b hb => HB2.out.block b (Nat.lt_of_lt_of_le hb hBw)) (VF.out.keep (w' := W2) fun b hb => HB2.out.block b (Nat.lt_of_lt_of_le hb hBw)) (Nat.le_trans hBw HB2.out.size)).mono ?_); rintro e w3 ⟨rfl, hb3⟩)
      go_roundg (n0 - (k + 1))
      case measure => omega
      case rel => exact ⟨k + 1, Nat.le_refl _, by omega, by go_num, below_step HX.out (below_step HB2.out hb3)⟩
    have f1 : ¬ (k : Int) < (n0 : Nat) := by omega
    have b1 := below_some HX.out (HS0.out.cell (k := 1) 1 rfl rfl)
    go_wp2_with fail
    clear b1
    have HXX := Lib.hid HX.out
    clear HX
    go_loopg [89] n1 (fun gg i wr => ∃ k : Nat, n1 - k ≤ gg ∧ k ≤ n1 ∧ i = .int .i64 k ∧ Hid (Below W0.heap.size W0 wr))
    case atStart => exact ⟨0, Nat.le_refl _, Nat.zero_le _, rfl, HXX.out⟩
    case round =>
      clear HXX f1 hlt hk hgk
      obtain ⟨k, hgk, hk, rfl, HX⟩ := hrel
      obtain ⟨W1, rfl⟩ : ∃ W1 : World, W1 = wr := ⟨_, rfl⟩
      by_cases hlt : k < n1
      · have b1 := below_some HX.out (HS0.out.cell (k := 1) 0 rfl rfl)
        have d1 := below_some HX.out (HS0.out.cell (k := 1) 1 rfl rfl)
        obtain ⟨x, b, off, hx, rfl, hb, -, -, -, -, e0, e1, e2, e3, e4⟩ := rLetter_get (R1.out.keep (w' := W1) fun b hb => (HX.out.block b (Nat.lt_of_lt_of_le hb HBW.out)).trans (HB0.out.block b (Nat.lt_of_lt_of_le hb hB))) hlt
        obtain ⟨y, b', off', hy, rfl, hb', -, -, -, -, e0', e1', e2', e3', e4'⟩ := rLetter_get (Q1.out.keep (w' := W1) fun b hb => (HX.out.block b (Nat.lt_of_lt_of_le hb HBW.out)).trans (HB0.out.block b (Nat.lt_of_lt_of_le hb hB))) hlt
        obtain rfl : x = y := by rw [hx] at hy; injection hy
        have f5 := fun W => run_neLetter x W
        have f1 : (k : Int) < (n1 : Nat) := by omega
        have f2 : (0 : Int) ≤ (k : Nat) := by omega
        have f3 : ((k : Nat) : Int).toNat = k := by omega
        clear hx hy
        go_wp2
        refine wp_region_und (by kernel_rfl) (by kernel_rfl) ?_
        repeat (go_big_quiet_step ((first | fail)))
        refine wpQuiet_nil ?_
        intro X hX
        go_wp2
        go_roundg (n1 - (k + 1))
        case measure => omega
        case rel => exact ⟨k + 1, Nat.le_refl _, by omega, by go_num, below_step HX.out hX⟩
      have f1 : ¬ (k : Int) < (n1 : Nat) := by omega
      have b2 := below_some HX.out (HS0.out.cell (k := 2) 1 rfl rfl)
      go_wp2_with fail
      clear b2
      have HXX := Lib.hid HX.out
      clear HX
      go_loopg [107] n2 (fun gg i wr => ∃ k : Nat, n2 - k ≤ gg ∧ k ≤ n2 ∧ i = .int .i64 k ∧ Hid (Below W0.heap.size W0 wr))
      case atStart => exact ⟨0, Nat.le_refl _, Nat.zero_le _, rfl, HXX.out⟩
      case round =>
        clear HXX f1 hlt hk hgk
        obtain ⟨k, hgk, hk, rfl, HX⟩ := hrel
        obtain ⟨W1, rfl⟩ : ∃ W1 : World, W1 = wr := ⟨_, rfl⟩
        by_cases hlt : k < n2
        · have b2 := below_some HX.out (HS0.out.cell (k := 2) 0 rfl rfl)
          have d2 := below_some HX.out (HS0.out.cell (k := 2) 1 rfl rfl)
          obtain ⟨x, b, off, P1, p1, t1, hx, rfl, hb, uf0, uc0⟩ := ints_get (R2.out.keep (w' := W1) fun b hb => (HX.out.block b (Nat.lt_of_lt_of_le hb HBW.out)).trans (HB0.out.block b (Nat.lt_of_lt_of_le hb hB))) hlt
          obtain ⟨y, b', off', P2, p2, t2, hy, rfl, hb', vf0, vc0⟩ := ints_get (Q2.out.keep (w' := W1) fun b hb => (HX.out.block b (Nat.lt_of_lt_of_le hb HBW.out)).trans (HB0.out.block b (Nat.lt_of_lt_of_le hb hB))) hlt
          obtain rfl : x = y := by rw [hx] at hy; injection hy
          obtain rfl : p1 = p2 := uf0.1.symm.trans vf0.1
          have hBw : B ≤ W1.heap.size := Nat.le_trans HBW.out HX.out.size
          have CE := fun z : Und W1 => und_call z (sameInts_c x P1 P2 p1 t1 t2 (und W1 z) B (uf0.und hBw z) (vf0.und hBw z) (Nat.le_trans hBw (und_size z)))
          have f1 : (k : Int) < (n2 : Nat) := by omega
          have f2 : (0 : Int) ≤ (k : Nat) := by omega
          have f3 : ((k : Nat) : Int).toNat = k := by omega
          clear hx hy uf0 vf0
          go_wp2
          refine wp_region_und (by kernel_rfl) (by kernel_rfl) ?_
          repeat (go_big_quiet_step ((first | (go_at_call 51; with_reducible exact CE _))))
          refine wpQuiet_nil ?_
          intro X hX
          go_wp2
          go_roundg (n2 - (k + 1))
          case measure => omega
          case rel => exact ⟨k + 1, Nat.le_refl _, by omega, by go_num, below_step HX.out hX⟩
        · have f1 : ¬ (k : Int) < (n2 : Nat) := by omega
          go_wp2
          go_ret
          exact ⟨rfl, below_step HB0.out HX.out⟩
end Go.Proofs.Ytkhchfbpmmiopaa

/-
  What stays true while a call only makes memory: a list of facts that move on together. No program in sight. No conditions.
-/
namespace Go.Proofs.Ytkhchfbpmmiopaa
open Go.RowKit
namespace Mm
structure Fact where
  holds : World → Prop
  keep : ∀ {w w' : World}, holds w → Below w.heap.size w w' → holds w'
/-- a reading of a struct, a slice; a block known whole -/
def frd {α : Type} (R : Rep α) (x : α) (cs : List Value) : Fact := ⟨fun w => R.at_ w w.heap.size x cs, fun h hb => R.more (R.keep h fun b hb' => hb.block b hb') hb.size⟩
def fsl {α : Type} (E : Rep α) (xs : List α) (A : Option Addr) (n c : Nat) : Fact := ⟨fun w => SlAt E w w.heap.size xs A n c, fun h hb => (h.keep fun b hb' => hb.block b hb').more hb.size⟩
def fbk (g : Nat) (t : TypeId) (cs : List Value) : Fact := ⟨fun w => Blk w g t cs, fun h hb => h.bel hb⟩
structure Facts (w0 w : World) (fs : List Fact) : Prop where
  bel : Below w0.heap.size w0 w
  all : ∀ f, f ∈ fs → f.holds w
section
variable {w0 w w' : World} {fs gs : List Fact} {f : Fact}
theorem Facts.nil (w : World) : Facts w w [] := ⟨Below.refl _ _, fun f h => by cases h⟩
theorem Facts.step (h : Facts w0 w fs) (hb : Below w.heap.size w w') : Facts w0 w' fs := ⟨below_step h.bel hb, fun f hf => f.keep (h.all f hf) hb⟩
theorem Facts.add (h : Facts w0 w fs) (hb : Below w.heap.size w w') (hf : f.holds w') : Facts w0 w' (fs ++ [f]) :=
  ⟨below_step h.bel hb, fun g hg => by
    rcases List.mem_append.1 hg with hg | hg
    · exact g.keep (h.all g hg) hb
    · rw [List.mem_singleton.1 hg]; exact hf⟩
theorem Facts.put (h : Facts w0 w fs) (hf : f.holds w) : Facts w0 w (fs ++ [f]) := h.add (Below.refl _ _) hf
/-- a variable of its own: its block, laid at the world's end -/
theorem Facts.var {g : Nat} (h : Facts w0 w fs) (hg : w.heap.size = g) (t : TypeId) (cs : List Value) : Facts w0 (w.alloc (.cells cs.toArray t)) (fs ++ [fbk g t cs]) := by
  subst hg
  exact h.add (below_new (Below.refl _ _) _) (Blk.new w t cs)
theorem Facts.at_ (h : Facts w0 w fs) (i : Nat) (hi : fs[i]? = some f) : f.holds w := h.all f (List.mem_of_getElem? hi)
theorem Facts.rd {α : Type} {R : Rep α} {x : α} {cs : List Value} (h : Facts w0 w fs) (i : Nat) (hi : fs[i]? = some (frd R x cs)) : R.at_ w w.heap.size x cs := h.at_ i hi
theorem Facts.sl {α : Type} {E : Rep α} {xs : List α} {A : Option Addr} {n c : Nat} (h : Facts w0 w fs) (i : Nat) (hi : fs[i]? = some (fsl E xs A n c)) : SlAt E w w.heap.size xs A n c := h.at_ i hi
theorem Facts.cell {g k : Nat} {t : TypeId} {cs : List Value} {u : Value} (h : Facts w0 w fs) (i : Nat) (hi : fs[i]? = some (fbk g t cs)) (hu : cs[k]? = some u) : w.cell? ⟨g, k, none⟩ = some u := (show Blk w g t cs from h.at_ i hi).cell hu
theorem Facts.und (h : Facts w0 w fs) (x : Und w) : Facts w0 (und w x) fs := h.step x.h
theorem Facts.fewer (h : Facts w0 w fs) (hs : gs.Sublist fs) : Facts w0 w gs := ⟨h.bel, fun f hf => h.all f (hs.subset hf)⟩
end
end Mm
end Go.Proofs.Ytkhchfbpmmiopaa
