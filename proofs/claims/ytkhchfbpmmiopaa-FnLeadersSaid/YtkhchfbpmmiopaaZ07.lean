/-
  Joined texts, in build order: Vh, He, Hs, Ht, Mt, Hm, Hn, Hh, Os. Each part says what it proves; no conditions beyond those that a part names.
-/
import Derived.Test.YtkhchfbpmmiopaaZ01
import Derived.Test.YtkhchfbpmmiopaaZ02
import Derived.Test.YtkhchfbpmmiopaaZ03
import Derived.Test.YtkhchfbpmmiopaaZ06
import Derived.Lib.Hide
import Derived.Deep.DeepFit
import Derived.Test.YtkhchfbpmmiopaaRows
import Derived.WalkLawsBesides
import Derived.WalkSpells
import Derived.Outline
import Derived.Laws.IdiomStrings
import Derived.Laws.Concat
/-
  Contracts: an election played, the reference (chapter 8). No conditions.
-/
namespace Go.Proofs.Ytkhchfbpmmiopaa
open Go.RowKit
attribute [local go_sem] und_cell cha_cell World.cell?_alloc_some
/-- a call hands back an election by value; beside a bool -/
def gPo (x : Poll) : Mm.Rel := fun _ _ v ds => ∃ A0 n0 c0 A1 n1 c1 A2 n2 c2 fp, v = .agg #[.slice A0 n0 c0, .slice A1 n1 c1, .slice A2 n2 c2] ∧ ds = [Mm.tow rPoll x [.slice A0 n0 c0, .slice A1 n1 c1, .slice A2 n2 c2] fp]
def gPo2 (x : Poll) (b : Bool) : Mm.Rel := fun _ _ v ds => ∃ A0 n0 c0 A1 n1 c1 A2 n2 c2 fp, v = .tuple #[.agg #[.slice A0 n0 c0, .slice A1 n1 c1, .slice A2 n2 c2], .bool b] ∧ ds = [Mm.tow rPoll x [.slice A0 n0 c0, .slice A1 n1 c1, .slice A2 n2 c2] fp]
theorem gPo_in {x : Poll} {vals : List Value} {tk : List Mm.Thing} : ∃ v ds, gPo x vals tk v ds := ⟨_, _, none, 0, 0, none, 0, 0, none, 0, 0, [], rfl, rfl⟩
theorem gPo2_in {x : Poll} {b : Bool} {vals : List Value} {tk : List Mm.Thing} : ∃ v ds, gPo2 x b vals tk v ds := ⟨_, _, none, 0, 0, none, 0, 0, none, 0, 0, [], rfl, rfl⟩
set_option maxRecDepth 100000 in
set_option maxHeartbeats 4000000 in
theorem specPlayPoll_c (ages : List Int) (l : List VoteStep) (A' : Option Addr) (n' c' : Nat) (A : Option Addr) (n c : Nat) (w : World) (B : Nat) (ha : Mm.SlAt Mm.int w B ages A' n' c') (hl : Mm.SlAt rVoteStep w B l A n c) (hB : B ≤ w.heap.size) :
    Calls Try.prog 8 #[.slice A' n' c', .slice A n c] w (PlayAnsP (Pl.playPoll ages l) w) := by
  have hn : n ≤ maxLen := Nat.le_trans hl.2.1 hl.2.2.1
  have hlen := hl.1
  have HL := Lib.hid hl
  have HA := Lib.hid ha
  clear hl ha
  unfold maxLen at hn
  obtain ⟨gz, hgz⟩ : ∃ g, w.heap.size = g := ⟨_, rfl⟩
  obtain ⟨W0, hW0⟩ : ∃ V, w.alloc (.cells #[.slice none 0 0, .slice none 0 0, .slice none 0 0] 31) = V := ⟨_, rfl⟩
  have KS := Lib.hid (((Mm.SepF.start w).alloc' hgz 31 zPoll).atW hW0)
  have CN := specNewPoll_c ages A' n' c' W0 B (HA.out.keep fun b hb => KS.out.bel0.block b (by omega)) (Nat.le_trans hB KS.out.bel0.size)
  have HBR := Lib.hid hB
  obtain ⟨q, ok, hq⟩ : ∃ q ok, Pl.newPoll ages = (q, ok) := ⟨_, _, rfl⟩
  rw [hq] at CN
  have HQ := Lib.hid hq
  have HLN := Lib.hid hlen
  clear hq hlen
  go_enter Try.func8, Try.ntmps8
  go_upto_region 1 with fail
  clear hW0 hgz
  go_upto_region 2 with (go_at_call 36; (with_reducible refine CN.mono ?_); clear CN; rintro e w1 ⟨cs1, fp1, rfl, ho, hnd, hnew, hb⟩; obtain ⟨B0, m0, d0, B1, m1, d1, B2, m2, d2, rfl⟩ := own_formP ho; (have KS1 := Lib.hid (KS.out.add hb (t := Mm.tow rPoll q _ _) ho hnd hnew)); clear ho hnd hnew hb)
  obtain ⟨g7, hg7⟩ : ∃ g, w1.heap.size = g := ⟨_, rfl⟩
  obtain ⟨W2, hW2⟩ : ∃ V, w1.alloc (.cells #[.slice B0 m0 d0, .slice B1 m1 d1, .slice B2 m2 d2] 31) = V := ⟨_, rfl⟩
  have HSR := Lib.hid ((KS1.out.alloc' hg7 31 [.slice B0 m0 d0, .slice B1 m1 d1, .slice B2 m2 d2]).atW hW2)
  rw [hW2, hg7]
  clear hW2 hg7 KS KS1 hB
  cases ok with
  | false =>
    have HF : Hid (Pl.playPoll ages l = (Pl.zPo, [], false)) := Lib.hid (if_neg (fun hh => by have h1 := HQ.out; unfold Pl.newPoll at h1; rw [if_pos hh.1] at h1; injection h1 with _ h1; cases h1))
    have r0 := HSR.out.cell (k := 0) 2 rfl rfl
    have r1 := HSR.out.cell (k := 1) 2 rfl rfl
    have r2 := HSR.out.cell (k := 2) 2 rfl rfl
    have z0 := HSR.out.frz (k := 0) 2 rfl
    have z1 := HSR.out.frz (k := 1) 2 rfl
    have z2 := HSR.out.frz (k := 2) 2 rfl
    go_wp2
    rw [HF.out]
    have HSF := Lib.hid (((HSR.out.setBlk (k := 0) 2 rfl (.slice none 0 0)).setBlk (k := 1) 2 rfl (.slice none 0 0)).setBlk (k := 2) 2 rfl (.slice none 0 0))
    have u0 := HSF.out.cell (k := 0) 2 rfl rfl
    have u1 := HSF.out.cell (k := 1) 2 rfl rfl
    have u2 := HSF.out.cell (k := 2) 2 rfl rfl
    exact bodyPost_ret (v := .tuple #[.agg zPoll.toArray, .slice none 0 0, .bool false]) (by simp [results, Try.results8, go_sem, zPoll, u0, u1, u2]) rfl (playNoP HSF.out.bel0)
  | true =>
  have hok : Pl.agesOk ages = true := by
    have h1 := HQ.out
    unfold Pl.newPoll at h1
    split at h1
    · assumption
    · injection h1 with _ h1; cases h1
  have hqe : q = Pl.newPo ages := by
    have h1 := HQ.out
    unfold Pl.newPoll at h1
    rw [if_pos hok] at h1
    injection h1 with h1 _
    exact h1.symm
  subst hqe
  by_cases h3 : n ≤ 200
  rotate_left
  · have HF : Hid (Pl.playPoll ages l = (Pl.zPo, [], false)) := Lib.hid (if_neg (fun hh => by have := hh.2; have := HLN.out; omega))
    have fa : (200 : Int) < (n : Nat) := by omega
    have r0 := HSR.out.cell (k := 0) 2 rfl rfl
    have r1 := HSR.out.cell (k := 1) 2 rfl rfl
    have r2 := HSR.out.cell (k := 2) 2 rfl rfl
    have z0 := HSR.out.frz (k := 0) 2 rfl
    have z1 := HSR.out.frz (k := 1) 2 rfl
    have z2 := HSR.out.frz (k := 2) 2 rfl
    go_wp2
    rw [HF.out]
    have HSF := Lib.hid (((HSR.out.setBlk (k := 0) 2 rfl (.slice none 0 0)).setBlk (k := 1) 2 rfl (.slice none 0 0)).setBlk (k := 2) 2 rfl (.slice none 0 0))
    have u0 := HSF.out.cell (k := 0) 2 rfl rfl
    have u1 := HSF.out.cell (k := 1) 2 rfl rfl
    have u2 := HSF.out.cell (k := 2) 2 rfl rfl
    exact bodyPost_ret (v := .tuple #[.agg zPoll.toArray, .slice none 0 0, .bool false]) (by simp [results, Try.results8, go_sem, zPoll, u0, u1, u2]) rfl (playNoP HSF.out.bel0)
  have HF : Hid (Pl.playPoll ages l = ((Pl.playP (Pl.newPo ages) l).1, (Pl.playP (Pl.newPo ages) l).2, true)) := Lib.hid (if_pos ⟨hok, by have := HLN.out; omega⟩)
  have fa : ¬ (200 : Int) < (n : Nat) := by omega
  have HPW := fun l => Lib.hid (Pl.playP_pw hok l)
  clear hok
  obtain ⟨i0, hi, hz0, hz1, hz2⟩ := info_parts Try.infoBoolP
  have KS2 := Lib.hid (HSR.out.add (Below.refl _ _) (t := Mm.tsl Mm.bool 4 [] (.slice none 0 0) []) Mm.SlOwn.nil List.nodup_nil (fun b hb => by cases hb))
  clear HSR
  go_wp2
  go_loopg [9, 29] n (fun gg d i wr => ∃ (k : Nat) (A2' : Option Addr) (c2' : Nat) (fpt fpd : List Nat) (cx : List Value), n - k ≤ gg ∧ k ≤ n ∧ d = .slice A2' k c2' ∧ i = .int .i64 k ∧ Hid (∃ x : Poll, x = (Pl.playP (Pl.newPo ages) (l.take k)).1 ∧ Mm.SepF [] w wr [Mm.tsl Mm.bool 4 (Pl.playP (Pl.newPo ages) (l.take k)).2 (.slice A2' k c2') fpd, Mm.tblk g7 31 cx, Mm.tow rPoll x cx fpt, Mm.tblk gz 31 zPoll]))
  case atStart => exact ⟨0, none, 0, _, _, _, Nat.le_refl _, Nat.zero_le _, rfl, rfl, Lib.hid ⟨_, rfl, KS2.out⟩⟩
  case round =>
    clear KS2
    obtain ⟨k, A2', c2', fpt, fpd, cx, hgk, hk', rfl, rfl, HS'⟩ := hrel
    obtain ⟨x, hx0, hS'⟩ := HS'.out
    clear HS'
    obtain ⟨E0, s0, r0', E1, s1, r1', E2, s2, r2', rfl⟩ := own_formP (hS'.at_ 2 rfl)
    have HS := Lib.hid hS'
    clear hS'
    have hbel := HS.out.bel0
    have hwf := HPW (l.take k)
    have hlk := List.length_take_of_le (l := l) (i := k) (by rw [HLN.out]; omega)
    have hw1 := hwf.out.1
    rw [← hx0] at hw1
    have HWF := Lib.hid hw1
    have HPL := Lib.hid (hwf.out.2.trans hlk)
    clear hwf hlk hw1
    obtain ⟨dl, hp⟩ : ∃ dl, Pl.playP (Pl.newPo ages) (l.take k) = (x, dl) := ⟨_, by rw [hx0]⟩
    rw [hp] at HS HPL
    have HP := Lib.hid hp
    clear hp hx0
    by_cases hlt : k < n
    · obtain ⟨s, b0', off, hx, rfl, hb, g0', g1', e0, e1⟩ := rVoteStep_get HL.out hlt
      have HN : Hid (Pl.playP (Pl.newPo ages) (l.take (k + 1)) = ((Pl.pstep x s).1, dl ++ [(Pl.pstep x s).2])) := by
        show _ = _
        rw [Mm.take_succ_some hx, Pl.playP_snoc, HP.out]
      have HNO := Lib.hid (@Pl.pstep_no x s)
      obtain ⟨r, hr⟩ : ∃ r, Pl.pstep x s = r := ⟨_, rfl⟩
      rw [hr] at HN HNO
      have HR := Lib.hid hr
      have hlt' : ((k : Nat) : Int) < ((n : Nat) : Int) := by omega
      have hb0 : b0' < w.heap.size := by have := HBR.out; omega
      replace e0 := below_some hbel e0
      replace e1 := below_some hbel e1
      obtain ⟨t', is⟩ := r
      clear hx g0' g1' hr
      cases is with
      | true =>
        have b0 := HS.out.cell (k := 0) 1 rfl rfl
        have b1 := HS.out.cell (k := 1) 1 rfl rfl
        have b2 := HS.out.cell (k := 2) 1 rfl rfl
        go_upto_region 8 with fail
        obtain ⟨gs, hgs⟩ : ∃ gs, wr.heap.size = gs := ⟨_, rfl⟩
        obtain ⟨W1, hW1⟩ : ∃ W1, wr.alloc (.cells #[.int .i64 s.Kind, .int .i64 s.K] 56) = W1 := ⟨_, rfl⟩
        have HS1 := Lib.hid ((HS.out.alloc' hgs 56 [.int .i64 s.Kind, .int .i64 s.K]).atW hW1)
        rw [hW1, hgs]
        clear hW1 hgs e0 e1 b0 b1 b2
        have b0 := HS1.out.cell (k := 0) 2 rfl rfl
        have b1 := HS1.out.cell (k := 1) 2 rfl rfl
        have b2 := HS1.out.cell (k := 2) 2 rfl rfl
        have c0' := HS1.out.cell (k := 0) 0 rfl rfl
        have c1' := HS1.out.cell (k := 1) 0 rfl rfl
        refine Mm.wp_region_give 9 (fun i => match i with | 1 => some (gPo x) | 3 => some (gPo2 t' true) | 7 => some (Mm.gPtr 31 zPoll) | 8 => some (Mm.gSto 31) | _ => none) (fun i => match i with | 3 => [1] | 8 => [7] | _ => []) (fun _ => []) (F := []) (D := fun w' => ∃ x : Und W1, w' = und W1 x) (fun X us h => Mm.sep_und h) (by kernel_rfl) (by kernel_rfl) (by kernel_rfl) (Mm.SepF.startDrew _) ?_
        repeat (refine Mm.give_det (by rfl) (by rfl) (by rfl) (fun K hK => ?_); go_big_quiet_op; refine hK _ ?_; clear hK K)
        refine Mm.give_op0 35 (by rfl) rfl (by rfl) (by rfl) (by rfl) (by rfl) gPo_in (fun others X hX => ?_) ?_
        · go_wp2_with (go_at_call 50; refine (l8Own_c x _ X W1.heap.size (rPoll.keep (HS1.out.rd 3 rfl) (fun b hb => hX.bel0.block b hb)) hX.chg.size HWF.out).mono ?_; rintro e w5 ⟨cs5, fp5, rfl, ho, hnd, hnew, hb5⟩; obtain ⟨B0, p0, k0, B1, p1, k1, B2, p2, k2, rfl⟩ := own_formP ho)
          exact ⟨rfl, rfl, _, ⟨B0, p0, k0, B1, p1, k1, B2, p2, k2, fp5, rfl, rfl⟩, hX.add hb5 (t := Mm.tow rPoll x _ _) ho hnd hnew⟩
        rintro v ds ⟨B0, p0, k0, B1, p1, k1, B2, p2, k2, fp5, rfl, rfl⟩
        simp only [Act.put, List.setIfInBounds_toArray, List.set_cons_succ, List.set_cons_zero]
        repeat (refine Mm.give_det (by rfl) (by rfl) (by rfl) (fun K hK => ?_); go_big_quiet_op; refine hK _ ?_; clear hK K)
        refine Mm.give_op1 37 1 (by rfl) rfl (by rfl) (by rfl) (by rfl) rfl (by rfl) _ rfl gPo2_in (fun others X hX => ?_) ?_
        · go_wp2_with (go_at_call 49; refine (l8Step_c x s _ fp5 X (hX.at_ 0 rfl) (hX.ndat (i := 0) rfl) HWF.out).mono ?_; rintro e w6 ⟨cs6, fp6, rfl, hL⟩; rw [HR.out] at hL; rw [HR.out])
          have h9 := hX.call 0 rfl hL
          obtain ⟨B0, p0, k0, B1, p1, k1, B2, p2, k2, rfl⟩ := own_formP (h9.at_ 0 rfl)
          exact ⟨rfl, rfl, _, ⟨B0, p0, k0, B1, p1, k1, B2, p2, k2, fp6, rfl, rfl⟩, h9⟩
        rintro v ds ⟨B0, p0, k0, B1, p1, k1, B2, p2, k2, fp6, rfl, rfl⟩
        simp only [Act.put, List.setIfInBounds_toArray, List.set_cons_succ, List.set_cons_zero]
        repeat (refine Mm.give_det (by rfl) (by rfl) (by rfl) (fun K hK => ?_); go_big_quiet_op; refine hK _ ?_; clear hK K)
        refine Mm.give_op0 12 (by rfl) rfl (by rfl) (by rfl) (by rfl) (by rfl) Mm.gPtr_in (fun others X hX => ?_) ?_
        · go_wp2
          exact Mm.gvq_ptr hX rfl rfl rfl
        rintro v ds ⟨gp, rfl, rfl⟩
        simp only [Act.put, List.setIfInBounds_toArray, List.set_cons_succ, List.set_cons_zero]
        refine Mm.give_store 31 gp zPoll [.slice B0 p0 k0, .slice B1 p1 k1, .slice B2 p2 k2] 7 (by rfl) rfl rfl (by rfl) rfl (by rfl) rfl rfl (fun others X hX => ?_) ?_
        · have HSR := Lib.hid hX
          have r0 := HSR.out.cell (k := 0) 0 rfl rfl
          have r1 := HSR.out.cell (k := 1) 0 rfl rfl
          have r2 := HSR.out.cell (k := 2) 0 rfl rfl
          have z0 := HSR.out.frz (k := 0) 0 rfl
          have z1 := HSR.out.frz (k := 1) 0 rfl
          have z2 := HSR.out.frz (k := 2) 0 rfl
          go_wp2
          exact ⟨rfl, rfl, _, rfl, (((hX.setBlk (k := 0) 0 rfl (.slice B0 p0 k0)).setBlk (k := 1) 0 rfl (.slice B1 p1 k1)).setBlk (k := 2) 0 rfl (.slice B2 p2 k2))⟩
        refine Mm.give_nil ?_
        rintro X hX
        have HS3 := Lib.hid (HS1.out.join (us := [Mm.tow rPoll t' [.slice B0 p0 k0, .slice B1 p1 k1, .slice B2 p2 k2] fp6, Mm.tblk gp 31 [.slice B0 p0 k0, .slice B1 p1 k1, .slice B2 p2 k2]]) hX)
        clear hX b0 b1 b2 c0' c1'
        have b0 := HS3.out.cell (k := 0) 1 rfl rfl
        have b1 := HS3.out.cell (k := 1) 1 rfl rfl
        have b2 := HS3.out.cell (k := 2) 1 rfl rfl
        have r0 := HS3.out.cell (k := 0) 4 rfl rfl
        have r1 := HS3.out.cell (k := 1) 4 rfl rfl
        have r2 := HS3.out.cell (k := 2) 4 rfl rfl
        have z0 := HS3.out.frz (k := 0) 4 rfl
        have z1 := HS3.out.frz (k := 1) 4 rfl
        have z2 := HS3.out.frz (k := 2) 4 rfl
        have HS4 := Lib.hid (((HS3.out.setBlk (k := 0) 4 rfl (.slice B0 p0 k0)).setBlk (k := 1) 4 rfl (.slice B1 p1 k1)).setBlk (k := 2) 4 rfl (.slice B2 p2 k2))
        go_upto_region 11 with fail
        clear r0 r1 r2 z0 z1 z2 b0 b1 b2
        obtain ⟨W4, hW4⟩ : ∃ W4, ((X.setCell ⟨g7, 0, none⟩ (.slice B0 p0 k0)).setCell ⟨g7, 1, none⟩ (.slice B1 p1 k1)).setCell ⟨g7, 2, none⟩ (.slice B2 p2 k2) = W4 := ⟨_, rfl⟩
        rw [hW4] at HS4 ⊢
        clear hW4
        go_wp2_with (at_builtin; refine Mm.app_list HS4.out 3 rfl rfl (.tmp 42) (.tmp 44) 32 rfl i0 _ 1 Try.underlying32 hi hz0 hz1 hz2 rfl (by decide) rfl rfl (fun W => Mm.own_boolP) HPL.out (by unfold maxLen; omega) (by omega) ?_; intro g cap w' fp' hs; (have HS5 := Lib.hid hs); clear hs)
        go_roundg (n - (k + 1))
        case measure => omega
        case rel => exact ⟨k + 1, _, cap, _, fp', _, Nat.le_refl _, by omega, rfl, by go_num, Lib.hid ⟨t', by rw [HN.out], by rw [HN.out]; exact HS5.out.sel [3, 4, 0, 6] (by decide) rfl⟩⟩
      | false =>
        obtain rfl : t' = x := HNO.out rfl
        have b0 := HS.out.cell (k := 0) 1 rfl rfl
        have b1 := HS.out.cell (k := 1) 1 rfl rfl
        have b2 := HS.out.cell (k := 2) 1 rfl rfl
        go_upto_region 8 with fail
        obtain ⟨gs, hgs⟩ : ∃ gs, wr.heap.size = gs := ⟨_, rfl⟩
        obtain ⟨W1, hW1⟩ : ∃ W1, wr.alloc (.cells #[.int .i64 s.Kind, .int .i64 s.K] 56) = W1 := ⟨_, rfl⟩
        have HS1 := Lib.hid ((HS.out.alloc' hgs 56 [.int .i64 s.Kind, .int .i64 s.K]).atW hW1)
        rw [hW1, hgs]
        clear hW1 hgs e0 e1 b0 b1 b2
        have b0 := HS1.out.cell (k := 0) 2 rfl rfl
        have b1 := HS1.out.cell (k := 1) 2 rfl rfl
        have b2 := HS1.out.cell (k := 2) 2 rfl rfl
        have c0' := HS1.out.cell (k := 0) 0 rfl rfl
        have c1' := HS1.out.cell (k := 1) 0 rfl rfl
        refine Mm.wp_region_give 9 (fun i => match i with | 1 => some (gPo t') | 3 => some (gPo2 t' false) | 7 => some (Mm.gPtr 31 zPoll) | 8 => some (Mm.gSto 31) | _ => none) (fun i => match i with | 3 => [1] | 8 => [7] | _ => []) (fun _ => []) (F := []) (D := fun w' => ∃ t' : Und W1, w' = und W1 t') (fun X us h => Mm.sep_und h) (by kernel_rfl) (by kernel_rfl) (by kernel_rfl) (Mm.SepF.startDrew _) ?_
        repeat (refine Mm.give_det (by rfl) (by rfl) (by rfl) (fun K hK => ?_); go_big_quiet_op; refine hK _ ?_; clear hK K)
        refine Mm.give_op0 35 (by rfl) rfl (by rfl) (by rfl) (by rfl) (by rfl) gPo_in (fun others X hX => ?_) ?_
        · go_wp2_with (go_at_call 50; refine (l8Own_c t' _ X W1.heap.size (rPoll.keep (HS1.out.rd 3 rfl) (fun b hb => hX.bel0.block b hb)) hX.chg.size HWF.out).mono ?_; rintro e w5 ⟨cs5, fp5, rfl, ho, hnd, hnew, hb5⟩; obtain ⟨B0, p0, k0, B1, p1, k1, B2, p2, k2, rfl⟩ := own_formP ho)
          exact ⟨rfl, rfl, _, ⟨B0, p0, k0, B1, p1, k1, B2, p2, k2, fp5, rfl, rfl⟩, hX.add hb5 (t := Mm.tow rPoll t' _ _) ho hnd hnew⟩
        rintro v ds ⟨B0, p0, k0, B1, p1, k1, B2, p2, k2, fp5, rfl, rfl⟩
        simp only [Act.put, List.setIfInBounds_toArray, List.set_cons_succ, List.set_cons_zero]
        repeat (refine Mm.give_det (by rfl) (by rfl) (by rfl) (fun K hK => ?_); go_big_quiet_op; refine hK _ ?_; clear hK K)
        refine Mm.give_op1 37 1 (by rfl) rfl (by rfl) (by rfl) (by rfl) rfl (by rfl) _ rfl gPo2_in (fun others X hX => ?_) ?_
        · go_wp2_with (go_at_call 49; refine (l8Step_c t' s _ fp5 X (hX.at_ 0 rfl) (hX.ndat (i := 0) rfl) HWF.out).mono ?_; rintro e w6 ⟨cs6, fp6, rfl, hL⟩; rw [HR.out] at hL; rw [HR.out])
          have h9 := hX.call 0 rfl hL
          obtain ⟨B0, p0, k0, B1, p1, k1, B2, p2, k2, rfl⟩ := own_formP (h9.at_ 0 rfl)
          exact ⟨rfl, rfl, _, ⟨B0, p0, k0, B1, p1, k1, B2, p2, k2, fp6, rfl, rfl⟩, h9⟩
        rintro v ds ⟨B0, p0, k0, B1, p1, k1, B2, p2, k2, fp6, rfl, rfl⟩
        simp only [Act.put, List.setIfInBounds_toArray, List.set_cons_succ, List.set_cons_zero]
        repeat (refine Mm.give_det (by rfl) (by rfl) (by rfl) (fun K hK => ?_); go_big_quiet_op; refine hK _ ?_; clear hK K)
        refine Mm.give_op0 12 (by rfl) rfl (by rfl) (by rfl) (by rfl) (by rfl) Mm.gPtr_in (fun others X hX => ?_) ?_
        · go_wp2
          exact Mm.gvq_ptr hX rfl rfl rfl
        rintro v ds ⟨gp, rfl, rfl⟩
        simp only [Act.put, List.setIfInBounds_toArray, List.set_cons_succ, List.set_cons_zero]
        refine Mm.give_store 31 gp zPoll [.slice B0 p0 k0, .slice B1 p1 k1, .slice B2 p2 k2] 7 (by rfl) rfl rfl (by rfl) rfl (by rfl) rfl rfl (fun others X hX => ?_) ?_
        · have HSR := Lib.hid hX
          have r0 := HSR.out.cell (k := 0) 0 rfl rfl
          have r1 := HSR.out.cell (k := 1) 0 rfl rfl
          have r2 := HSR.out.cell (k := 2) 0 rfl rfl
          have z0 := HSR.out.frz (k := 0) 0 rfl
          have z1 := HSR.out.frz (k := 1) 0 rfl
          have z2 := HSR.out.frz (k := 2) 0 rfl
          go_wp2
          exact ⟨rfl, rfl, _, rfl, (((hX.setBlk (k := 0) 0 rfl (.slice B0 p0 k0)).setBlk (k := 1) 0 rfl (.slice B1 p1 k1)).setBlk (k := 2) 0 rfl (.slice B2 p2 k2))⟩
        refine Mm.give_nil ?_
        rintro X hX
        have HS3 := Lib.hid (HS1.out.join (us := [Mm.tow rPoll t' [.slice B0 p0 k0, .slice B1 p1 k1, .slice B2 p2 k2] fp6, Mm.tblk gp 31 [.slice B0 p0 k0, .slice B1 p1 k1, .slice B2 p2 k2]]) hX)
        clear hX b0 b1 b2 c0' c1'
        go_upto_region 11 with fail
        go_wp2_with (at_builtin; refine Mm.app_list HS3.out 3 rfl rfl (.tmp 42) (.tmp 44) 32 rfl i0 _ 1 Try.underlying32 hi hz0 hz1 hz2 rfl (by decide) rfl rfl (fun W => Mm.own_boolP) HPL.out (by unfold maxLen; omega) (by omega) ?_; intro g cap w' fp' hs; (have HS5 := Lib.hid hs); clear hs)
        go_roundg (n - (k + 1))
        case measure => omega
        case rel => exact ⟨k + 1, _, cap, _, fp', _, Nat.le_refl _, by omega, rfl, by go_num, Lib.hid ⟨t', by rw [HN.out], by rw [HN.out]; exact HS5.out.sel [3, 4, 5, 6] (by decide) rfl⟩⟩
    · obtain rfl : k = n := by omega
      have HE : Hid (l.take k = l) := List.take_of_length_le (by rw [HLN.out]; exact Nat.le_refl _)
      have hlt' : ¬ ((k : Nat) : Int) < ((k : Nat) : Int) := by omega
      rw [HE.out] at HP
      rw [HP.out] at HF
      have b0 := HS.out.cell (k := 0) 1 rfl rfl
      have b1 := HS.out.cell (k := 1) 1 rfl rfl
      have b2 := HS.out.cell (k := 2) 1 rfl rfl
      go_wp2_with (go_at_call 50; refine (l8Own_c x _ _ wr.heap.size (HS.out.rd 2 rfl) (Nat.le_refl _) HWF.out).mono ?_; rintro e w5 ⟨cs5, fp5, rfl, ho, hnd, hnew, hb5⟩; obtain ⟨B0, p0, k0, B1, p1, k1, B2, p2, k2, rfl⟩ := own_formP ho; (have HSR := Lib.hid (HS.out.add hb5 (t := Mm.tow rPoll x _ _) ho hnd hnew)); clear ho hnd hnew hb5; (have r0 := HSR.out.cell (k := 0) 4 rfl rfl); (have r1 := HSR.out.cell (k := 1) 4 rfl rfl); (have r2 := HSR.out.cell (k := 2) 4 rfl rfl); (have z0 := HSR.out.frz (k := 0) 4 rfl); (have z1 := HSR.out.frz (k := 1) 4 rfl); (have z2 := HSR.out.frz (k := 2) 4 rfl))
      have HSF := Lib.hid (((HSR.out.setBlk (k := 0) 4 rfl (.slice B0 p0 k0)).setBlk (k := 1) 4 rfl (.slice B1 p1 k1)).setBlk (k := 2) 4 rfl (.slice B2 p2 k2))
      have u0 := HSF.out.cell (k := 0) 4 rfl rfl
      have u1 := HSF.out.cell (k := 1) 4 rfl rfl
      have u2 := HSF.out.cell (k := 2) 4 rfl rfl
      exact bodyPost_ret (v := .tuple #[.agg #[.slice B0 p0 k0, .slice B1 p1 k1, .slice B2 p2 k2], .slice A2' k c2', .bool true]) (by simp [results, Try.results8, go_sem, u0, u1, u2]) rfl ⟨_, A2', k, c2', _, _, by rw [HF.out], by rw [HF.out]; exact HSF.out.sel [0, 1] (by decide) rfl⟩
end Go.Proofs.Ytkhchfbpmmiopaa

/-
  The laws' own comparisons answer true of two things that read alike. No conditions.
-/
namespace Go.Proofs.Ytkhchfbpmmiopaa
open Go.RowKit
attribute [local go_sem] und_cell
set_option maxHeartbeats 1000000 in
theorem eqIntS_c (l : List Int) (A A' : Option Addr) (n n' c c' : Nat) (w : World) (B : Nat) (hl : Mm.SlAt Mm.int w B l A n c) (hl' : Mm.SlAt Mm.int w B l A' n' c') (hB : B ≤ w.heap.size) :
    Calls Try.prog 19 #[.slice A n c, .slice A' n' c'] w fun e w' => e = .returned (.bool true) ∧ Below w.heap.size w w' := by
  obtain rfl : n = n' := hl.1.symm.trans hl'.1
  have hn : n ≤ 9223372036854775807 := by have := hl.2.1; have := hl.2.2.1; unfold maxLen at this; omega
  have HL : Hid (Mm.SlAt Mm.int w B l A n c ∧ Mm.SlAt Mm.int w B l A' n c') := ⟨hl, hl'⟩
  clear hl hl'
  go_enter Try.func19, Try.ntmps19
  go_wp2
  go_loopw [5] (fun i wr => ∃ k : Nat, k ≤ n ∧ i = .int .i64 k ∧ Below w.heap.size w wr) (fun i _ => n - (intOf i).toNat)
  case atStart => exact ⟨0, Nat.zero_le _, rfl, Below.refl _ _⟩
  case round =>
    obtain ⟨k, hk, rfl, hbel⟩ := hrel
    rename_i wr _
    by_cases hlt : k < n
    · obtain ⟨x, b, off, hx, rfl, hb, uf0, uc0⟩ := int_get (HL.out.1.keep (w' := wr) (fun b hb => hbel.block b (by omega))) hlt
      obtain ⟨y, b', off', hy, rfl, hb', vf0, vc0⟩ := int_get (HL.out.2.keep (w' := wr) (fun b hb => hbel.block b (by omega))) hlt
      obtain rfl : x = y := by rw [hx] at hy; injection hy
      have hBw : B ≤ wr.heap.size := Nat.le_trans hB hbel.size
      clear hx hy uf0 vf0
      go_wp2
      refine wp_region_und (by kernel_rfl) (by kernel_rfl) ?_
      repeat (go_big_quiet_step ((first | fail)))
      refine wpQuiet_nil ?_
      intro X hX
      go_wp2
      go_roundw
      case rel => exact ⟨k + 1, by omega, by go_num, below_step hbel hX⟩
      case measure => simp [intOf]; omega
    · go_wp2
      go_ret
      exact ⟨rfl, hbel⟩
set_option maxHeartbeats 1000000 in
theorem eqBoolS_c (l : List Bool) (A A' : Option Addr) (n n' c c' : Nat) (w : World) (B : Nat) (hl : Mm.SlAt Mm.bool w B l A n c) (hl' : Mm.SlAt Mm.bool w B l A' n' c') (hB : B ≤ w.heap.size) :
    Calls Try.prog 18 #[.slice A n c, .slice A' n' c'] w fun e w' => e = .returned (.bool true) ∧ Below w.heap.size w w' := by
  obtain rfl : n = n' := hl.1.symm.trans hl'.1
  have hn : n ≤ 9223372036854775807 := by have := hl.2.1; have := hl.2.2.1; unfold maxLen at this; omega
  have HL : Hid (Mm.SlAt Mm.bool w B l A n c ∧ Mm.SlAt Mm.bool w B l A' n c') := ⟨hl, hl'⟩
  clear hl hl'
  go_enter Try.func18, Try.ntmps18
  go_wp2
  go_loopw [5] (fun i wr => ∃ k : Nat, k ≤ n ∧ i = .int .i64 k ∧ Below w.heap.size w wr) (fun i _ => n - (intOf i).toNat)
  case atStart => exact ⟨0, Nat.zero_le _, rfl, Below.refl _ _⟩
  case round =>
    obtain ⟨k, hk, rfl, hbel⟩ := hrel
    rename_i wr _
    by_cases hlt : k < n
    · obtain ⟨x, b, off, hx, rfl, hb, uc0⟩ := bool_get (HL.out.1.keep (w' := wr) (fun b hb => hbel.block b (by omega))) hlt
      obtain ⟨y, b', off', hy, rfl, hb', vc0⟩ := bool_get (HL.out.2.keep (w' := wr) (fun b hb => hbel.block b (by omega))) hlt
      obtain rfl : x = y := by rw [hx] at hy; injection hy
      have hBw : B ≤ wr.heap.size := Nat.le_trans hB hbel.size
      clear hx hy
      go_wp2
      refine wp_region_und (by kernel_rfl) (by kernel_rfl) ?_
      repeat (go_big_quiet_step ((first | fail)))
      refine wpQuiet_nil ?_
      intro X hX
      go_wp2
      go_roundw
      case rel => exact ⟨k + 1, by omega, by go_num, below_step hbel hX⟩
      case measure => simp [intOf]; omega
    · go_wp2
      go_ret
      exact ⟨rfl, hbel⟩
set_option maxHeartbeats 1000000 in
theorem eqIntSS_c (l : List (List Int)) (A A' : Option Addr) (n n' c c' : Nat) (w : World) (B : Nat) (hl : Mm.SlAt ints w B l A n c) (hl' : Mm.SlAt ints w B l A' n' c') (hB : B ≤ w.heap.size) :
    Calls Try.prog 56 #[.slice A n c, .slice A' n' c'] w fun e w' => e = .returned (.bool true) ∧ Below w.heap.size w w' := by
  obtain rfl : n = n' := hl.1.symm.trans hl'.1
  have hn : n ≤ 9223372036854775807 := by have := hl.2.1; have := hl.2.2.1; unfold maxLen at this; omega
  have HL : Hid (Mm.SlAt ints w B l A n c ∧ Mm.SlAt ints w B l A' n c') := ⟨hl, hl'⟩
  clear hl hl'
  go_enter Try.func56, Try.ntmps56
  go_wp2
  go_loopw [5] (fun i wr => ∃ k : Nat, k ≤ n ∧ i = .int .i64 k ∧ Below w.heap.size w wr) (fun i _ => n - (intOf i).toNat)
  case atStart => exact ⟨0, Nat.zero_le _, rfl, Below.refl _ _⟩
  case round =>
    obtain ⟨k, hk, rfl, hbel⟩ := hrel
    rename_i wr _
    by_cases hlt : k < n
    · obtain ⟨x, b, off, P1, p1, q1, hx, rfl, hb, uf0, uc0⟩ := ints_get (HL.out.1.keep (w' := wr) (fun b hb => hbel.block b (by omega))) hlt
      obtain ⟨y, b', off', P2, p2, q2, hy, rfl, hb', vf0, vc0⟩ := ints_get (HL.out.2.keep (w' := wr) (fun b hb => hbel.block b (by omega))) hlt
      obtain rfl : x = y := by rw [hx] at hy; injection hy
      have hBw : B ≤ wr.heap.size := Nat.le_trans hB hbel.size
      have HF := Lib.hid (And.intro uf0 vf0)
      clear hx hy uf0 vf0
      go_wp2
      refine wp_region_und (by kernel_rfl) (by kernel_rfl) ?_
      repeat (go_big_quiet_step ((first | (go_at_call 19; exact und_call _ (eqIntS_c x _ _ _ _ _ _ _ B (HF.out.1.und hBw _) (HF.out.2.und hBw _) (Nat.le_trans hBw (und_size _)))))))
      refine wpQuiet_nil ?_
      intro X hX
      go_wp2
      go_roundw
      case rel => exact ⟨k + 1, by omega, by go_num, below_step hbel hX⟩
      case measure => simp [intOf]; omega
    · go_wp2
      go_ret
      exact ⟨rfl, hbel⟩
set_option maxHeartbeats 1000000 in
theorem eqLetter_c (x : Letter)  (w : World) :
    Calls Try.prog 88 #[.agg #[.int .i64 x.From, .int .i64 x.To, .int .i64 x.Term, .bool x.Ask, .int .i64 x.Age], .agg #[.int .i64 x.From, .int .i64 x.To, .int .i64 x.Term, .bool x.Ask, .int .i64 x.Age]] w fun e w' => e = .returned (.bool true) ∧ Below w.heap.size w w' := by
  go_enter Try.func88, Try.ntmps88
  go_wp2
  go_ret
  exact ⟨rfl, below_new (below_new (Below.refl _ _) _) _⟩
set_option maxHeartbeats 1000000 in
theorem eqLetterS_c (l : List Letter) (A A' : Option Addr) (n n' c c' : Nat) (w : World) (B : Nat) (hl : Mm.SlAt rLetter w B l A n c) (hl' : Mm.SlAt rLetter w B l A' n' c') (hB : B ≤ w.heap.size) :
    Calls Try.prog 55 #[.slice A n c, .slice A' n' c'] w fun e w' => e = .returned (.bool true) ∧ Below w.heap.size w w' := by
  obtain rfl : n = n' := hl.1.symm.trans hl'.1
  have hn : n ≤ 9223372036854775807 := by have := hl.2.1; have := hl.2.2.1; unfold maxLen at this; omega
  have HL : Hid (Mm.SlAt rLetter w B l A n c ∧ Mm.SlAt rLetter w B l A' n c') := ⟨hl, hl'⟩
  clear hl hl'
  go_enter Try.func55, Try.ntmps55
  go_wp2
  go_loopw [5] (fun i wr => ∃ k : Nat, k ≤ n ∧ i = .int .i64 k ∧ Below w.heap.size w wr) (fun i _ => n - (intOf i).toNat)
  case atStart => exact ⟨0, Nat.zero_le _, rfl, Below.refl _ _⟩
  case round =>
    obtain ⟨k, hk, rfl, hbel⟩ := hrel
    rename_i wr _
    by_cases hlt : k < n
    · obtain ⟨x, b, off, hx, rfl, hb, uf0, uf1, uf2, uf3, uc0, uc1, uc2, uc3, uc4⟩ := rLetter_get (HL.out.1.keep (w' := wr) (fun b hb => hbel.block b (by omega))) hlt
      obtain ⟨y, b', off', hy, rfl, hb', vf0, vf1, vf2, vf3, vc0, vc1, vc2, vc3, vc4⟩ := rLetter_get (HL.out.2.keep (w' := wr) (fun b hb => hbel.block b (by omega))) hlt
      obtain rfl : x = y := by rw [hx] at hy; injection hy
      have hBw : B ≤ wr.heap.size := Nat.le_trans hB hbel.size
      clear hx hy uf0 uf1 uf2 uf3 vf0 vf1 vf2 vf3
      go_wp2
      refine wp_region_und (by kernel_rfl) (by kernel_rfl) ?_
      repeat (go_big_quiet_step ((first | (go_at_call 88; exact und_call _ (eqLetter_c x _)))))
      refine wpQuiet_nil ?_
      intro X hX
      go_wp2
      go_roundw
      case rel => exact ⟨k + 1, by omega, by go_num, below_step hbel hX⟩
      case measure => simp [intOf]; omega
    · go_wp2
      go_ret
      exact ⟨rfl, hbel⟩
set_option maxHeartbeats 1000000 in
theorem eqVoteStep_c (x : VoteStep)  (w : World) :
    Calls Try.prog 57 #[.agg #[.int .i64 x.Kind, .int .i64 x.K], .agg #[.int .i64 x.Kind, .int .i64 x.K]] w fun e w' => e = .returned (.bool true) ∧ Below w.heap.size w w' := by
  go_enter Try.func57, Try.ntmps57
  go_wp2
  go_ret
  exact ⟨rfl, below_new (below_new (Below.refl _ _) _) _⟩
set_option maxHeartbeats 1000000 in
theorem eqVoteStepS_c (l : List VoteStep) (A A' : Option Addr) (n n' c c' : Nat) (w : World) (B : Nat) (hl : Mm.SlAt rVoteStep w B l A n c) (hl' : Mm.SlAt rVoteStep w B l A' n' c') (hB : B ≤ w.heap.size) :
    Calls Try.prog 20 #[.slice A n c, .slice A' n' c'] w fun e w' => e = .returned (.bool true) ∧ Below w.heap.size w w' := by
  obtain rfl : n = n' := hl.1.symm.trans hl'.1
  have hn : n ≤ 9223372036854775807 := by have := hl.2.1; have := hl.2.2.1; unfold maxLen at this; omega
  have HL : Hid (Mm.SlAt rVoteStep w B l A n c ∧ Mm.SlAt rVoteStep w B l A' n c') := ⟨hl, hl'⟩
  clear hl hl'
  go_enter Try.func20, Try.ntmps20
  go_wp2
  go_loopw [5] (fun i wr => ∃ k : Nat, k ≤ n ∧ i = .int .i64 k ∧ Below w.heap.size w wr) (fun i _ => n - (intOf i).toNat)
  case atStart => exact ⟨0, Nat.zero_le _, rfl, Below.refl _ _⟩
  case round =>
    obtain ⟨k, hk, rfl, hbel⟩ := hrel
    rename_i wr _
    by_cases hlt : k < n
    · obtain ⟨x, b, off, hx, rfl, hb, uf0, uf1, uc0, uc1⟩ := rVoteStep_get (HL.out.1.keep (w' := wr) (fun b hb => hbel.block b (by omega))) hlt
      obtain ⟨y, b', off', hy, rfl, hb', vf0, vf1, vc0, vc1⟩ := rVoteStep_get (HL.out.2.keep (w' := wr) (fun b hb => hbel.block b (by omega))) hlt
      obtain rfl : x = y := by rw [hx] at hy; injection hy
      have hBw : B ≤ wr.heap.size := Nat.le_trans hB hbel.size
      clear hx hy uf0 uf1 vf0 vf1
      go_wp2
      refine wp_region_und (by kernel_rfl) (by kernel_rfl) ?_
      repeat (go_big_quiet_step ((first | (go_at_call 57; exact und_call _ (eqVoteStep_c x _)))))
      refine wpQuiet_nil ?_
      intro X hX
      go_wp2
      go_roundw
      case rel => exact ⟨k + 1, by omega, by go_num, below_step hbel hX⟩
      case measure => simp [intOf]; omega
    · go_wp2
      go_ret
      exact ⟨rfl, hbel⟩
set_option maxHeartbeats 1000000 in
theorem eqNode_c (x : Node) (A : Option Addr) (n c : Nat) (A' : Option Addr) (n' c' : Nat) (w : World) (B : Nat) (g0 : Mm.SlAt Mm.int w B x.Heard A n c) (g0' : Mm.SlAt Mm.int w B x.Heard A' n' c') (hB : B ≤ w.heap.size) :
    Calls Try.prog 87 #[.agg #[.int .i64 x.Term, .int .i64 x.Voted, .int .i64 x.Age, .slice A n c, .int .i64 x.Role], .agg #[.int .i64 x.Term, .int .i64 x.Voted, .int .i64 x.Age, .slice A' n' c', .int .i64 x.Role]] w fun e w' => e = .returned (.bool true) ∧ Below w.heap.size w w' := by
  have HK1 := Lib.hid ((Mm.Blk.new w 42 [.int .i64 x.Term, .int .i64 x.Voted, .int .i64 x.Age, .slice A n c, .int .i64 x.Role]).alloc (.cells #[.int .i64 x.Term, .int .i64 x.Voted, .int .i64 x.Age, .slice A' n' c', .int .i64 x.Role] 42))
  have HK2 := Lib.hid (Mm.Blk.new' (w.alloc (.cells #[.int .i64 x.Term, .int .i64 x.Voted, .int .i64 x.Age, .slice A n c, .int .i64 x.Role] 42)) 42 [.int .i64 x.Term, .int .i64 x.Voted, .int .i64 x.Age, .slice A' n' c', .int .i64 x.Role] (Mm.sz1 _ _))
  have hb0 : Below w.heap.size w ((w.alloc (.cells #[.int .i64 x.Term, .int .i64 x.Voted, .int .i64 x.Age, .slice A n c, .int .i64 x.Role] 42)).alloc (.cells #[.int .i64 x.Term, .int .i64 x.Voted, .int .i64 x.Age, .slice A' n' c', .int .i64 x.Role] 42)) := below_new (below_new (Below.refl _ _) _) _
  have HB0 := Lib.hid hb0
  have HG := Lib.hid (And.intro hB (And.intro g0 g0'))
  clear hB g0 g0'
  clear hb0
  go_enter Try.func87, Try.ntmps87
  go_wp2_with fail
  refine (eqIntS_c x.Heard _ _ _ _ _ _ _ B (HG.out.2.1.keep fun b hb => HB0.out.block b (Nat.lt_of_lt_of_le hb HG.out.1)) (HG.out.2.2.keep fun b hb => HB0.out.block b (Nat.lt_of_lt_of_le hb HG.out.1)) (Nat.le_trans HG.out.1 HB0.out.size)).mono ?_
  rintro e w1 ⟨rfl, hb1⟩
  have HB1 := Lib.hid (below_step HB0.out hb1)
  have HK1 := Lib.hid (HK1.out.bel hb1)
  have HK2 := Lib.hid (HK2.out.bel hb1)
  have p1_4 := HK1.out.cell (i := 4) rfl
  have q1_4 := HK2.out.cell (i := 4) rfl
  clear hb1
  go_wp2
  go_ret
  exact ⟨rfl, HB1.out⟩
theorem eqNode_at (x : Node) (cs cs' : List Value) (w : World) (B : Nat) (h : rNode.at_ w B x cs) (h' : rNode.at_ w B x cs') (hB : B ≤ w.heap.size) :
    Calls Try.prog 87 #[.agg cs.toArray, .agg cs'.toArray] w fun e w' => e = .returned (.bool true) ∧ Below w.heap.size w w' := by
  obtain ⟨A, n, c, rfl, g0, g1, g2, g3, g4⟩ := rNode_at h
  obtain ⟨A', n', c', rfl, k0, k1, k2, k3, k4⟩ := rNode_at h'
  exact eqNode_c x _ _ _ _ _ _ _ B g3 k3 hB
set_option maxHeartbeats 1000000 in
theorem eqNodeS_c (l : List Node) (A A' : Option Addr) (n n' c c' : Nat) (w : World) (B : Nat) (hl : Mm.SlAt rNode w B l A n c) (hl' : Mm.SlAt rNode w B l A' n' c') (hB : B ≤ w.heap.size) :
    Calls Try.prog 54 #[.slice A n c, .slice A' n' c'] w fun e w' => e = .returned (.bool true) ∧ Below w.heap.size w w' := by
  obtain rfl : n = n' := hl.1.symm.trans hl'.1
  have hn : n ≤ 9223372036854775807 := by have := hl.2.1; have := hl.2.2.1; unfold maxLen at this; omega
  have HL : Hid (Mm.SlAt rNode w B l A n c ∧ Mm.SlAt rNode w B l A' n c') := ⟨hl, hl'⟩
  clear hl hl'
  go_enter Try.func54, Try.ntmps54
  go_wp2
  go_loopw [5] (fun i wr => ∃ k : Nat, k ≤ n ∧ i = .int .i64 k ∧ Below w.heap.size w wr) (fun i _ => n - (intOf i).toNat)
  case atStart => exact ⟨0, Nat.zero_le _, rfl, Below.refl _ _⟩
  case round =>
    obtain ⟨k, hk, rfl, hbel⟩ := hrel
    rename_i wr _
    by_cases hlt : k < n
    · obtain ⟨x, b, off, A1, n1, c1, hx, rfl, hb, uf0, uf1, uf2, uf3, uf4, uc0, uc1, uc2, uc3, uc4⟩ := rNode_get (HL.out.1.keep (w' := wr) (fun b hb => hbel.block b (by omega))) hlt
      obtain ⟨y, b', off', A2, n2, c2, hy, rfl, hb', vf0, vf1, vf2, vf3, vf4, vc0, vc1, vc2, vc3, vc4⟩ := rNode_get (HL.out.2.keep (w' := wr) (fun b hb => hbel.block b (by omega))) hlt
      obtain rfl : x = y := by rw [hx] at hy; injection hy
      have hBw : B ≤ wr.heap.size := Nat.le_trans hB hbel.size
      have HF := Lib.hid (And.intro uf3 vf3)
      clear hx hy uf0 uf1 uf2 uf3 uf4 vf0 vf1 vf2 vf3 vf4
      go_wp2
      refine wp_region_und (by kernel_rfl) (by kernel_rfl) ?_
      repeat (go_big_quiet_step ((first | (go_at_call 87; exact und_call _ (eqNode_c x _ _ _ _ _ _ _ B (HF.out.1.und hBw _) (HF.out.2.und hBw _) (Nat.le_trans hBw (und_size _)))))))
      refine wpQuiet_nil ?_
      intro X hX
      go_wp2
      go_roundw
      case rel => exact ⟨k + 1, by omega, by go_num, below_step hbel hX⟩
      case measure => simp [intOf]; omega
    · go_wp2
      go_ret
      exact ⟨rfl, hbel⟩
set_option maxHeartbeats 1000000 in
theorem eqPoll_c (x : Poll) (A0 : Option Addr) (n0 c0 : Nat) (A1 : Option Addr) (n1 c1 : Nat) (A2 : Option Addr) (n2 c2 : Nat) (A0' : Option Addr) (n0' c0' : Nat) (A1' : Option Addr) (n1' c1' : Nat) (A2' : Option Addr) (n2' c2' : Nat) (w : World) (B : Nat) (g0 : Mm.SlAt rNode w B x.Nodes A0 n0 c0) (g0' : Mm.SlAt rNode w B x.Nodes A0' n0' c0') (g1 : Mm.SlAt rLetter w B x.Letters A1 n1 c1) (g1' : Mm.SlAt rLetter w B x.Letters A1' n1' c1') (g2 : Mm.SlAt ints w B x.Leaders A2 n2 c2) (g2' : Mm.SlAt ints w B x.Leaders A2' n2' c2') (hB : B ≤ w.heap.size) :
    Calls Try.prog 17 #[.agg #[.slice A0 n0 c0, .slice A1 n1 c1, .slice A2 n2 c2], .agg #[.slice A0' n0' c0', .slice A1' n1' c1', .slice A2' n2' c2']] w fun e w' => e = .returned (.bool true) ∧ Below w.heap.size w w' := by
  have HK1 := Lib.hid ((Mm.Blk.new w 31 [.slice A0 n0 c0, .slice A1 n1 c1, .slice A2 n2 c2]).alloc (.cells #[.slice A0' n0' c0', .slice A1' n1' c1', .slice A2' n2' c2'] 31))
  have HK2 := Lib.hid (Mm.Blk.new' (w.alloc (.cells #[.slice A0 n0 c0, .slice A1 n1 c1, .slice A2 n2 c2] 31)) 31 [.slice A0' n0' c0', .slice A1' n1' c1', .slice A2' n2' c2'] (Mm.sz1 _ _))
  have hb0 : Below w.heap.size w ((w.alloc (.cells #[.slice A0 n0 c0, .slice A1 n1 c1, .slice A2 n2 c2] 31)).alloc (.cells #[.slice A0' n0' c0', .slice A1' n1' c1', .slice A2' n2' c2'] 31)) := below_new (below_new (Below.refl _ _) _) _
  have HB0 := Lib.hid hb0
  have HG := Lib.hid (And.intro hB (And.intro (And.intro g0 g0') (And.intro (And.intro g1 g1') (And.intro g2 g2'))))
  clear hB g0 g0' g1 g1' g2 g2'
  clear hb0
  go_enter Try.func17, Try.ntmps17
  go_wp2_with fail
  refine (eqNodeS_c x.Nodes _ _ _ _ _ _ _ B (HG.out.2.1.1.keep fun b hb => HB0.out.block b (Nat.lt_of_lt_of_le hb HG.out.1)) (HG.out.2.1.2.keep fun b hb => HB0.out.block b (Nat.lt_of_lt_of_le hb HG.out.1)) (Nat.le_trans HG.out.1 HB0.out.size)).mono ?_
  rintro e w1 ⟨rfl, hb1⟩
  have HB1 := Lib.hid (below_step HB0.out hb1)
  have HK1 := Lib.hid (HK1.out.bel hb1)
  have HK2 := Lib.hid (HK2.out.bel hb1)
  have p1_1 := HK1.out.cell (i := 1) rfl
  have q1_1 := HK2.out.cell (i := 1) rfl
  have p1_2 := HK1.out.cell (i := 2) rfl
  have q1_2 := HK2.out.cell (i := 2) rfl
  clear hb1
  go_wp2_with fail
  refine (eqLetterS_c x.Letters _ _ _ _ _ _ _ B (HG.out.2.2.1.1.keep fun b hb => HB1.out.block b (Nat.lt_of_lt_of_le hb HG.out.1)) (HG.out.2.2.1.2.keep fun b hb => HB1.out.block b (Nat.lt_of_lt_of_le hb HG.out.1)) (Nat.le_trans HG.out.1 HB1.out.size)).mono ?_
  rintro e w2 ⟨rfl, hb2⟩
  have HB2 := Lib.hid (below_step HB1.out hb2)
  have HK1 := Lib.hid (HK1.out.bel hb2)
  have HK2 := Lib.hid (HK2.out.bel hb2)
  have p2_2 := HK1.out.cell (i := 2) rfl
  have q2_2 := HK2.out.cell (i := 2) rfl
  clear hb2
  go_wp2_with fail
  refine (eqIntSS_c x.Leaders _ _ _ _ _ _ _ B (HG.out.2.2.2.1.keep fun b hb => HB2.out.block b (Nat.lt_of_lt_of_le hb HG.out.1)) (HG.out.2.2.2.2.keep fun b hb => HB2.out.block b (Nat.lt_of_lt_of_le hb HG.out.1)) (Nat.le_trans HG.out.1 HB2.out.size)).mono ?_
  rintro e w3 ⟨rfl, hb3⟩
  have HB3 := Lib.hid (below_step HB2.out hb3)
  have HK1 := Lib.hid (HK1.out.bel hb3)
  have HK2 := Lib.hid (HK2.out.bel hb3)
  clear hb3
  go_wp2
  go_ret
  exact ⟨rfl, HB3.out⟩
theorem eqPoll_at (x : Poll) (cs cs' : List Value) (w : World) (B : Nat) (h : rPoll.at_ w B x cs) (h' : rPoll.at_ w B x cs') (hB : B ≤ w.heap.size) :
    Calls Try.prog 17 #[.agg cs.toArray, .agg cs'.toArray] w fun e w' => e = .returned (.bool true) ∧ Below w.heap.size w w' := by
  obtain ⟨A0, n0, c0, A1, n1, c1, A2, n2, c2, rfl, g0, g1, g2⟩ := rPoll_at h
  obtain ⟨A0', n0', c0', A1', n1', c1', A2', n2', c2', rfl, k0, k1, k2⟩ := rPoll_at h'
  exact eqPoll_c x _ _ _ _ _ _ _ _ _ _ _ _ _ _ _ _ _ _ _ B g0 k0 g1 k1 g2 k2 hB
end Go.Proofs.Ytkhchfbpmmiopaa

/-
  The laws' own sizes of arguments. No conditions.
-/
namespace Go.Proofs.Ytkhchfbpmmiopaa
open Go.RowKit
attribute [local go_sem] und_cell
set_option maxHeartbeats 1000000 in
theorem szVoteStepS_c (l : List VoteStep) (A : Option Addr) (n c : Nat) (left : Int) (w : World) (B : Nat) (hl : Mm.SlAt rVoteStep w B l A n c) (hB : B ≤ w.heap.size) (h0 : 0 ≤ left) (h1 : left ≤ 1048576) :
    Calls Try.prog 14 #[.slice A n c, .int .i64 left] w fun e w' => e = .returned (.int .i64 (Pl.szRet left (Pl.szl Pl.sz0 l))) ∧ Below w.heap.size w w' := by
  have hn : n ≤ 9223372036854775807 := by have := hl.2.1; have := hl.2.2.1; unfold maxLen at this; omega
  have hlen : Hid (l.length = n) := hl.1
  have HZ : Hid (Pl.szl Pl.sz0 l = (n : Int)) := by show _ = _; rw [Pl.szl_zero, hlen.out]
  clear hl
  by_cases h : left - (n : Int) < 0
  · go_enter Try.func14, Try.ntmps14
    go_wp2
    go_ret
    exact ⟨ret_int (by rw [HZ.out, Pl.szRet_lt (by omega)]), Below.refl _ _⟩
  · go_enter Try.func14, Try.ntmps14
    go_wp2
    go_ret
    exact ⟨ret_int (by rw [HZ.out, Pl.szRet_ge (by omega)]), Below.refl _ _⟩
end Go.Proofs.Ytkhchfbpmmiopaa

/-
  The laws' own copies of arguments. No conditions.
-/
namespace Go.Proofs.Ytkhchfbpmmiopaa
open Go.RowKit
attribute [local go_sem] und_cell
theorem Try.info_Int : (Try.prog.info? 3).map (fun i => (i.zero, i.size, i.bytes)) = some (some (.int .i64 0), 1, 8) := by kernel_rfl
set_option maxHeartbeats 1000000 in
theorem toIntS_c (l : List Int) (A : Option Addr) (n c : Nat) (w : World) (B : Nat) (hl : Mm.SlAt Mm.int w B l A n c) (hB : B ≤ w.heap.size) (hsz : Pl.szl Pl.sz0 l ≤ 1048576) :
    Calls Try.prog 15 #[.slice A n c] w (Mm.NewSl Mm.int 3 w l) := by
  have hlen : Hid (l.length = n) := hl.1
  have HL := Lib.hid hl
  have HN : Hid (∀ x : Int, 0 ≤ Pl.sz0 x) := Pl.sz0_nn
  have HSZ := Lib.hid hsz
  have hn : n ≤ 1048576 := by have := Pl.szl_len HN.out l; have := hlen.out; omega
  clear hl hsz
  obtain ⟨i0, hi, hz0, hz1, hz2⟩ := info_parts Try.info_Int
  go_enter Try.func15, Try.ntmps15
  go_wp2_with (at_make; refine wpList_make_full _ rfl _ _ 23 rfl 0 3 i0 _ 1 Try.underlying23 hi hz0 hz1 _ _ _ _ n rfl rfl rfl rfl (by rw [hz2]; omega) (by unfold maxLen; omega) (Nat.zero_le _) ?_; intro w1 hown hgrow)
  go_loopw [4] (fun i wr => ∃ k : Nat, k ≤ n ∧ i = .int .i64 k ∧ Mm.Filled Mm.int 3 w l 0 n k wr) (fun i _ => n - (intOf i).toNat)
  case atStart => exact ⟨0, Nat.zero_le _, rfl, Mm.Filled.start (zv := .int .i64 0) hlen.out hown hgrow ⟨rfl, (by unfold Mm.I64; simp), rfl⟩ (by decide)⟩
  case round =>
    obtain ⟨k, hk, rfl, hfil⟩ := hrel
    rename_i wr _
    have HF : Hid (Mm.Filled Mm.int 3 w l 0 n k wr) := hfil
    clear hfil hown hgrow
    by_cases hlt : k < n
    · obtain ⟨x, b, off, hx, rfl, hb, f0, d0⟩ := int_get (HL.out.keep (w' := wr) (fun b hb => HF.out.below.block b (by omega))) hlt
      have hBw : B ≤ wr.heap.size := Nat.le_trans hB HF.out.below.size
      have hxs := Pl.szl_mem HN.out (List.mem_of_getElem? hx)
      have HX := Lib.hid (And.intro hx (And.intro hxs f0))
      have hw := HF.out.lt
      clear hx hxs f0
      obtain ⟨u0, t0⟩ := HF.out.cell hlt (j := 0) (by decide)
      have d0' : wr.cell? ⟨w.heap.size, k, none⟩ = some u0 := by have e0 : k * (Mm.int).size + 0 = k := (by show k * 1 + 0 = k; omega); rwa [e0] at t0
      have z0 := HF.out.frozen (k)
      clear t0
      go_wp2
      go_roundw
      case rel => exact ⟨k + 1, by omega, by go_num, by have e0 : k * (Mm.int).size = k := (by show k * 1 = k; omega); have hst := HF.out.step hlt HX.out.1 (Below.refl _ _) (cs := [.int .i64 x]) (show (Mm.int).own _ x _ [] from ⟨rfl, HX.out.2.2, rfl⟩) List.nodup_nil (fun b hb => by cases hb); rwa [e0] at hst⟩
      case measure => simp [intOf]; omega
    · go_wp2
      go_ret
      exact HF.out.done (by omega)
theorem toVoteStep_c (x : VoteStep) (w : World) :
    Calls Try.prog 53 #[.agg #[.int .i64 x.Kind, .int .i64 x.K]] w fun e w' => e = .returned (.agg #[.int .i64 x.Kind, .int .i64 x.K]) ∧ Below w.heap.size w w' := by
  go_enter Try.func53, Try.ntmps53
  go_wp2
  exact bodyPost_ret (v := .agg #[.int .i64 x.Kind, .int .i64 x.K]) (by simp [results, Try.results53, go_sem]) rfl ⟨rfl, below_new (below_new (below_new (Below.refl _ _) _) _) _⟩
theorem Try.info_VoteStep : (Try.prog.info? 56).map (fun i => (i.zero, i.size, i.bytes)) = some (some (.agg #[.int .i64 0, .int .i64 0]), 2, 16) := by kernel_rfl
set_option maxHeartbeats 1000000 in
theorem toVoteStepS_c (l : List VoteStep) (A : Option Addr) (n c : Nat) (w : World) (B : Nat) (hl : Mm.SlAt rVoteStep w B l A n c) (hB : B ≤ w.heap.size) (hsz : Pl.szl Pl.sz0 l ≤ 1048576) :
    Calls Try.prog 16 #[.slice A n c] w (Mm.NewSl rVoteStep 56 w l) := by
  have hlen : Hid (l.length = n) := hl.1
  have HL := Lib.hid hl
  have HN : Hid (∀ x : VoteStep, 0 ≤ Pl.sz0 x) := Pl.sz0_nn
  have HSZ := Lib.hid hsz
  have hn : n ≤ 1048576 := by have := Pl.szl_len HN.out l; have := hlen.out; omega
  clear hl hsz
  obtain ⟨i0, hi, hz0, hz1, hz2⟩ := info_parts Try.info_VoteStep
  go_enter Try.func16, Try.ntmps16
  go_wp2_with (at_make; refine wpList_make_full _ rfl _ _ 24 rfl 0 56 i0 _ 2 Try.underlying24 hi hz0 hz1 _ _ _ _ n rfl rfl rfl rfl (by rw [hz2]; omega) (by unfold maxLen; omega) (Nat.zero_le _) ?_; intro w1 hown hgrow)
  go_loopw [4] (fun i wr => ∃ k : Nat, k ≤ n ∧ i = .int .i64 k ∧ Mm.Filled rVoteStep 56 w l ⟨0, 0⟩ n k wr) (fun i _ => n - (intOf i).toNat)
  case atStart => exact ⟨0, Nat.zero_le _, rfl, Mm.Filled.start (zv := .agg #[.int .i64 0, .int .i64 0]) hlen.out hown hgrow ⟨rfl, ⟨(by unfold Mm.I64; simp), (by unfold Mm.I64; simp)⟩, rfl⟩ (by decide)⟩
  case round =>
    obtain ⟨k, hk, rfl, hfil⟩ := hrel
    rename_i wr _
    have HF : Hid (Mm.Filled rVoteStep 56 w l ⟨0, 0⟩ n k wr) := hfil
    clear hfil hown hgrow
    by_cases hlt : k < n
    · obtain ⟨x, b, off, hx, rfl, hb, f0, f1, d0, d1⟩ := rVoteStep_get (HL.out.keep (w' := wr) (fun b hb => HF.out.below.block b (by omega))) hlt
      have hBw : B ≤ wr.heap.size := Nat.le_trans hB HF.out.below.size
      have hxs := Pl.szl_mem HN.out (List.mem_of_getElem? hx)
      have HX := Lib.hid (And.intro hx (And.intro hxs (And.intro f0 f1)))
      have hw := HF.out.lt
      clear hx hxs f0 f1
      go_wp2_with fail
      refine (toVoteStep_c x _).mono ?_
      rintro e w2 ⟨rfl, hb2⟩
      have HK := Lib.hid (HF.out.keep hb2)
      obtain ⟨u0, t0⟩ := HK.out.cell hlt (j := 0) (by decide)
      have d0' : w2.cell? ⟨w.heap.size, k * 2, none⟩ = some u0 := t0
      have z0 := HK.out.frozen (k * 2)
      clear t0
      obtain ⟨u1, t1⟩ := HK.out.cell hlt (j := 1) (by decide)
      have d1' : w2.cell? ⟨w.heap.size, k * 2 + 1, none⟩ = some u1 := t1
      have z1 := HK.out.frozen (k * 2 + 1)
      clear t1
      go_wp2
      go_roundw
      case rel => exact ⟨k + 1, by omega, by go_num, HF.out.step hlt HX.out.1 hb2 (cs := [.int .i64 x.Kind, .int .i64 x.K]) (fx := []) ⟨rfl, ⟨HX.out.2.2.1, HX.out.2.2.2⟩, rfl⟩ List.nodup_nil (fun b hb => by cases hb)⟩
      case measure => simp [intOf]; omega
    · go_wp2
      go_ret
      exact HF.out.done (by omega)
end Go.Proofs.Ytkhchfbpmmiopaa

/-
  The text of a mark. No conditions.
-/
namespace Go.Proofs.Ytkhchfbpmmiopaa
open Go.RowKit
end Go.Proofs.Ytkhchfbpmmiopaa

/-
  The laws' own markings of things that are owned. No conditions.
-/
namespace Go.Proofs.Ytkhchfbpmmiopaa
open Go.RowKit
attribute [local go_sem] und_cell
set_option maxHeartbeats 2000000 in
theorem markIntS_c (l : List Int) (A : Option Addr) (n c : Nat) (fp : List Nat) (k : Int) (w : World) (ho : Mm.SlOwn Mm.int 3 w l (.slice A n c) fp) (hnd : fp.Nodup) (h0 : 1 ≤ k) (h1 : k + Mm.cntL Pl.cnt1 l ≤ 1000000000000) :
    Calls Try.prog 21 #[.slice A n c, .int .i64 k] w (Mm.MkRet Mm.int 3 Pl.mkInt Pl.cnt1 w l (.slice A n c) fp k) := by
  have hn : n ≤ 9223372036854775807 := by
    obtain ⟨_, _, _, he, _, h2, h3, _⟩ := ho.form
    injection he with _ e2 e3
    subst e2; subst e3
    unfold maxLen at h3; omega
  have hlen : Hid (l.length = n) := by
    obtain ⟨_, _, _, he, h2, _⟩ := ho.form
    injection he with _ e2
    show l.length = n
    rw [e2, h2]
  have HN : Hid (∀ x : Int, 0 ≤ Pl.cnt1 x) := Pl.cnt1_nn
  have HST := Lib.hid (Mm.MkAt.start (mk := Pl.mkInt) (cnt := Pl.cnt1) (k := k) ho hnd)
  clear ho hnd
  go_enter Try.func21, Try.ntmps21
  go_wp2
  go_loopw [1, 5] (fun kk i wr => ∃ j : Nat, j ≤ n ∧ i = .int .i64 j ∧ kk = .int .i64 (k + Mm.cntL Pl.cnt1 (l.take j)) ∧ Mm.MkAt Mm.int 3 Pl.mkInt Pl.cnt1 w l (.slice A n c) fp k j wr) (fun _ i _ => n - (intOf i).toNat)
  case atStart => exact ⟨0, Nat.zero_le _, rfl, by simp [Mm.cntL], HST.out⟩
  case round =>
    clear HST
    obtain ⟨j, hj, rfl, rfl, hm⟩ := hrel
    rename_i wr _
    by_cases hlt : j < n
    · obtain ⟨x, hx⟩ : ∃ x, l[j]? = some x := ⟨_, List.getElem?_eq_getElem (by have := hlen.out; omega)⟩
      have hc1 : Mm.cntL Pl.cnt1 (l.take (j + 1)) = Mm.cntL Pl.cnt1 (l.take j) + Pl.cnt1 x := Mm.cntL_succ hx
      have hc2 := Mm.cntL_take_le HN.out l (j + 1)
      have hc3 := Mm.cntL_nn HN.out (l.take j)
      have hc4 := HN.out x
      obtain ⟨kj, hkj⟩ : ∃ kj, k + Mm.cntL Pl.cnt1 (l.take j) = kj := ⟨_, rfl⟩
      rw [hkj]
      have hk0 : 1 ≤ kj := by omega
      have hk1 : kj + Pl.cnt1 x ≤ 1000000000000 := by omega
      have HX := Lib.hid (And.intro hx (And.intro hkj hc1))
      obtain ⟨hchg, fp0, ho0, hnd0, hsub0⟩ := hm
      have hx0 := Mm.half_get (mk := Pl.mkInt) (cnt := Pl.cnt1) (k := k) hx
      obtain ⟨g, rfl⟩ : ∃ g, A = some ⟨g, 0, none⟩ := by
        obtain ⟨_, _, hs, _⟩ := ho0
        obtain ⟨g, cap, he, _⟩ := hs.form (by rw [Mm.half_len]; have := hlen.out; omega)
        injection he with he
        exact ⟨g, he⟩
      have hgl := ho0.olt g ho0.mem_block
      have HC0 := Lib.hid hchg
      have HO0 := Lib.hid (And.intro ho0 (And.intro hnd0 (And.intro hsub0 hx0)))
      clear hchg hx hkj hc1 hc2 hc3 hx0
      have hcx : Pl.cnt1 x = 1 := rfl
      rw [hcx] at hk1
      have HCX := Lib.hid hcx
      clear hcx hc4
      have d0_0 := int_ocell HO0.out.1 HO0.out.2.1 HO0.out.2.2.2
      have e0_0 := HO0.out.1.frozen (j)
      have st0 := HO0.out.1.store HO0.out.2.1 (j := 0) (x' := kj) (u := .int .i64 (kj)) HO0.out.2.2.2 (by decide) (fun cs fx hh => by obtain ⟨rfl, _, rfl⟩ := hh; exact ⟨rfl, (by unfold Mm.I64; first | omega | (dsimp only; omega)), rfl⟩)
      rw [show j * (Mm.int).size + 0 = j from (by show j * 1 + 0 = j; omega)] at st0
      have HO0s := Lib.hid (And.intro st0 (And.intro HO0.out.2.1 (And.intro HO0.out.2.2.1 (show ((Mm.half Pl.mkInt Pl.cnt1 l k j).set j kj)[j]? = some kj from List.getElem?_set_self (by rw [Mm.half_len]; have := hlen.out; omega)))))
      have HC0s := Lib.hid (HC0.out.setCell (p := ⟨g, j, none⟩) (HO0.out.2.2.1 g HO0.out.1.mem_block) (.int .i64 (kj)))
      clear st0
      go_wp2
      go_roundw
      case rel =>
        refine ⟨j + 1, by omega, by go_num, ?_, ?_⟩
        · have h3 := HX.out.2.1; have h4 := HX.out.2.2; have h5 := HCX.out
          rw [h4]
          show Value.int .i64 _ = Value.int .i64 _
          congr 1
          omega
        · have h3 := HX.out.2.1
          refine ⟨HC0s.out, _, ?_, HO0s.out.2.1, HO0s.out.2.2.1⟩
          rw [← Mm.half_set HX.out.1, h3]
          exact HO0s.out.1
      case measure => simp [intOf]; omega
    · have HM := Lib.hid hm
      go_wp2
      go_ret
      exact HM.out.done (by have := hlen.out; omega)
set_option maxHeartbeats 2000000 in
theorem markBoolS_c (l : List Bool) (A : Option Addr) (n c : Nat) (fp : List Nat) (k : Int) (w : World) (ho : Mm.SlOwn Mm.bool 4 w l (.slice A n c) fp) (hnd : fp.Nodup) (h0 : 1 ≤ k) (h1 : k + Mm.cntL Pl.cnt1 l ≤ 1000000000000) :
    Calls Try.prog 24 #[.slice A n c, .int .i64 k] w (Mm.MkRet Mm.bool 4 Pl.mkBool Pl.cnt1 w l (.slice A n c) fp k) := by
  have hn : n ≤ 9223372036854775807 := by
    obtain ⟨_, _, _, he, _, h2, h3, _⟩ := ho.form
    injection he with _ e2 e3
    subst e2; subst e3
    unfold maxLen at h3; omega
  have hlen : Hid (l.length = n) := by
    obtain ⟨_, _, _, he, h2, _⟩ := ho.form
    injection he with _ e2
    show l.length = n
    rw [e2, h2]
  have HN : Hid (∀ x : Bool, 0 ≤ Pl.cnt1 x) := Pl.cnt1_nn
  have HST := Lib.hid (Mm.MkAt.start (mk := Pl.mkBool) (cnt := Pl.cnt1) (k := k) ho hnd)
  clear ho hnd
  go_enter Try.func24, Try.ntmps24
  go_wp2
  go_loopw [1, 5] (fun kk i wr => ∃ j : Nat, j ≤ n ∧ i = .int .i64 j ∧ kk = .int .i64 (k + Mm.cntL Pl.cnt1 (l.take j)) ∧ Mm.MkAt Mm.bool 4 Pl.mkBool Pl.cnt1 w l (.slice A n c) fp k j wr) (fun _ i _ => n - (intOf i).toNat)
  case atStart => exact ⟨0, Nat.zero_le _, rfl, by simp [Mm.cntL], HST.out⟩
  case round =>
    clear HST
    obtain ⟨j, hj, rfl, rfl, hm⟩ := hrel
    rename_i wr _
    by_cases hlt : j < n
    · obtain ⟨x, hx⟩ : ∃ x, l[j]? = some x := ⟨_, List.getElem?_eq_getElem (by have := hlen.out; omega)⟩
      have hc1 : Mm.cntL Pl.cnt1 (l.take (j + 1)) = Mm.cntL Pl.cnt1 (l.take j) + Pl.cnt1 x := Mm.cntL_succ hx
      have hc2 := Mm.cntL_take_le HN.out l (j + 1)
      have hc3 := Mm.cntL_nn HN.out (l.take j)
      have hc4 := HN.out x
      obtain ⟨kj, hkj⟩ : ∃ kj, k + Mm.cntL Pl.cnt1 (l.take j) = kj := ⟨_, rfl⟩
      rw [hkj]
      have hk0 : 1 ≤ kj := by omega
      have hk1 : kj + Pl.cnt1 x ≤ 1000000000000 := by omega
      have HX := Lib.hid (And.intro hx (And.intro hkj hc1))
      obtain ⟨hchg, fp0, ho0, hnd0, hsub0⟩ := hm
      have hx0 := Mm.half_get (mk := Pl.mkBool) (cnt := Pl.cnt1) (k := k) hx
      obtain ⟨g, rfl⟩ : ∃ g, A = some ⟨g, 0, none⟩ := by
        obtain ⟨_, _, hs, _⟩ := ho0
        obtain ⟨g, cap, he, _⟩ := hs.form (by rw [Mm.half_len]; have := hlen.out; omega)
        injection he with he
        exact ⟨g, he⟩
      have hgl := ho0.olt g ho0.mem_block
      have HC0 := Lib.hid hchg
      have HO0 := Lib.hid (And.intro ho0 (And.intro hnd0 (And.intro hsub0 hx0)))
      clear hchg hx hkj hc1 hc2 hc3 hx0
      have hcx : Pl.cnt1 x = 1 := rfl
      rw [hcx] at hk1
      have HCX := Lib.hid hcx
      clear hcx hc4
      have d0_0 := bool_ocell HO0.out.1 HO0.out.2.1 HO0.out.2.2.2
      have e0_0 := HO0.out.1.frozen (j)
      have st0 := HO0.out.1.store HO0.out.2.1 (j := 0) (x' := (kj % 3 == 0)) (u := .bool (kj % 3 == 0)) HO0.out.2.2.2 (by decide) (fun cs fx hh => by obtain ⟨rfl, _, rfl⟩ := hh; exact ⟨rfl, trivial, rfl⟩)
      rw [show j * (Mm.bool).size + 0 = j from (by show j * 1 + 0 = j; omega)] at st0
      have HO0s := Lib.hid (And.intro st0 (And.intro HO0.out.2.1 (And.intro HO0.out.2.2.1 (show ((Mm.half Pl.mkBool Pl.cnt1 l k j).set j (kj % 3 == 0))[j]? = some (kj % 3 == 0) from List.getElem?_set_self (by rw [Mm.half_len]; have := hlen.out; omega)))))
      have HC0s := Lib.hid (HC0.out.setCell (p := ⟨g, j, none⟩) (HO0.out.2.2.1 g HO0.out.1.mem_block) (.bool (kj % 3 == 0)))
      clear st0
      go_wp2
      go_roundw
      case rel =>
        refine ⟨j + 1, by omega, by go_num, ?_, ?_⟩
        · have h3 := HX.out.2.1; have h4 := HX.out.2.2; have h5 := HCX.out
          rw [h4]
          show Value.int .i64 _ = Value.int .i64 _
          congr 1
          omega
        · have h3 := HX.out.2.1
          refine ⟨HC0s.out, _, ?_, HO0s.out.2.1, HO0s.out.2.2.1⟩
          rw [← Mm.half_set HX.out.1, h3]
          exact HO0s.out.1
      case measure => simp [intOf]; omega
    · have HM := Lib.hid hm
      go_wp2
      go_ret
      exact HM.out.done (by have := hlen.out; omega)
set_option maxHeartbeats 2000000 in
theorem markIntSS_c (l : List (List Int)) (A : Option Addr) (n c : Nat) (fp : List Nat) (k : Int) (w : World) (ho : Mm.SlOwn ints 23 w l (.slice A n c) fp) (hnd : fp.Nodup) (h0 : 1 ≤ k) (h1 : k + Mm.cntL (Mm.cntL Pl.cnt1) l ≤ 1000000000000) :
    Calls Try.prog 60 #[.slice A n c, .int .i64 k] w (Mm.MkRet ints 23 (Mm.mkL Pl.mkInt Pl.cnt1) (Mm.cntL Pl.cnt1) w l (.slice A n c) fp k) := by
  have hn : n ≤ 9223372036854775807 := by
    obtain ⟨_, _, _, he, _, h2, h3, _⟩ := ho.form
    injection he with _ e2 e3
    subst e2; subst e3
    unfold maxLen at h3; omega
  have hlen : Hid (l.length = n) := by
    obtain ⟨_, _, _, he, h2, _⟩ := ho.form
    injection he with _ e2
    show l.length = n
    rw [e2, h2]
  have HN : Hid (∀ x : (List Int), 0 ≤ (Mm.cntL Pl.cnt1) x) := Mm.cntL_nn (cnt := Pl.cnt1) (Pl.cnt1_nn)
  have HST := Lib.hid (Mm.MkAt.start (mk := (Mm.mkL Pl.mkInt Pl.cnt1)) (cnt := (Mm.cntL Pl.cnt1)) (k := k) ho hnd)
  clear ho hnd
  go_enter Try.func60, Try.ntmps60
  go_wp2
  go_loopw [1, 5] (fun kk i wr => ∃ j : Nat, j ≤ n ∧ i = .int .i64 j ∧ kk = .int .i64 (k + Mm.cntL (Mm.cntL Pl.cnt1) (l.take j)) ∧ Mm.MkAt ints 23 (Mm.mkL Pl.mkInt Pl.cnt1) (Mm.cntL Pl.cnt1) w l (.slice A n c) fp k j wr) (fun _ i _ => n - (intOf i).toNat)
  case atStart => exact ⟨0, Nat.zero_le _, rfl, by simp [Mm.cntL], HST.out⟩
  case round =>
    clear HST
    obtain ⟨j, hj, rfl, rfl, hm⟩ := hrel
    rename_i wr _
    by_cases hlt : j < n
    · obtain ⟨x, hx⟩ : ∃ x, l[j]? = some x := ⟨_, List.getElem?_eq_getElem (by have := hlen.out; omega)⟩
      have hc1 : Mm.cntL (Mm.cntL Pl.cnt1) (l.take (j + 1)) = Mm.cntL (Mm.cntL Pl.cnt1) (l.take j) + (Mm.cntL Pl.cnt1) x := Mm.cntL_succ hx
      have hc2 := Mm.cntL_take_le HN.out l (j + 1)
      have hc3 := Mm.cntL_nn HN.out (l.take j)
      have hc4 := HN.out x
      obtain ⟨kj, hkj⟩ : ∃ kj, k + Mm.cntL (Mm.cntL Pl.cnt1) (l.take j) = kj := ⟨_, rfl⟩
      rw [hkj]
      have hk0 : 1 ≤ kj := by omega
      have hk1 : kj + (Mm.cntL Pl.cnt1) x ≤ 1000000000000 := by omega
      have HX := Lib.hid (And.intro hx (And.intro hkj hc1))
      obtain ⟨hchg, fp0, ho0, hnd0, hsub0⟩ := hm
      have hx0 := Mm.half_get (mk := (Mm.mkL Pl.mkInt Pl.cnt1)) (cnt := (Mm.cntL Pl.cnt1)) (k := k) hx
      obtain ⟨g, rfl⟩ : ∃ g, A = some ⟨g, 0, none⟩ := by
        obtain ⟨_, _, hs, _⟩ := ho0
        obtain ⟨g, cap, he, _⟩ := hs.form (by rw [Mm.half_len]; have := hlen.out; omega)
        injection he with he
        exact ⟨g, he⟩
      have hgl := ho0.olt g ho0.mem_block
      have HC0 := Lib.hid hchg
      have HO0 := Lib.hid (And.intro ho0 (And.intro hnd0 (And.intro hsub0 hx0)))
      clear hchg hx hkj hc1 hc2 hc3 hx0
      have hcx : (Mm.cntL Pl.cnt1) x = (Mm.cntL Pl.cnt1) x := rfl
      have HCX := Lib.hid hcx
      clear hcx
      obtain ⟨P0, p0, q0, d0_0⟩ := ints_ocell HO0.out.1 HO0.out.2.1 HO0.out.2.2.2
      have e0_0 := HO0.out.1.frozen (j)
      obtain ⟨cs0, fx0, hox0, hnx0, hsx0, hcx0, hnext0⟩ := HO0.out.1.inner HO0.out.2.1 HO0.out.2.2.2
      obtain ⟨vv0, rfl, hoi0⟩ := hox0
      obtain ⟨Pi0, pi0, qi0, rfl, -⟩ := hoi0.form
      clear d0_0
      have dd0 := Mm.cell_sp (a' := j) (hcx0 0 _ rfl) (show j * (ints).size + 0 = j from (by show j * 1 + 0 = j; omega))
      have HI0 := Lib.hid (And.intro hoi0 (And.intro hnx0 (And.intro hsx0 hnext0)))
      clear hoi0 hnx0 hsx0 hnext0 hcx0
      go_wp2_with fail
      refine (markIntS_c x _ _ _ _ _ _ HI0.out.1 HI0.out.2.1 (by omega) (by omega)).mono ?_
      rintro e v0 ⟨rfl, hch0, fn0, ho0', hnd0', hsub0'⟩
      obtain ⟨fo0, hof0, hnf0, hsf0⟩ := HI0.out.2.2.2 v0 ((Mm.mkL Pl.mkInt Pl.cnt1) x kj) fn0 hch0 (⟨_, rfl, ho0'⟩) hnd0' hsub0'
      have HO0s := Lib.hid (And.intro hof0 (And.intro hnf0 (And.intro (fun b hb => HO0.out.2.2.1 b (hsf0 b hb)) (show ((Mm.half (Mm.mkL Pl.mkInt Pl.cnt1) (Mm.cntL Pl.cnt1) l k j).set j ((Mm.mkL Pl.mkInt Pl.cnt1) x kj))[j]? = some ((Mm.mkL Pl.mkInt Pl.cnt1) x kj) from List.getElem?_set_self (by rw [Mm.half_len]; have := hlen.out; omega)))))
      have HC0s := Lib.hid (HC0.out.trans (hch0.more (fun b hb => HO0.out.2.2.1 b (HI0.out.2.2.1 b hb).1)))
      clear hch0 ho0' hnd0' hsub0' hof0 hnf0 hsf0
      obtain ⟨Pn0, pn0, qn0, dn0_0⟩ := ints_ocell HO0s.out.1 HO0s.out.2.1 HO0s.out.2.2.2
      have en0_0 := HO0s.out.1.frozen (j)
      go_wp2
      go_roundw
      case rel =>
        refine ⟨j + 1, by omega, by go_num, ?_, ?_⟩
        · have h3 := HX.out.2.1; have h4 := HX.out.2.2; have h5 := HCX.out
          rw [h4]
          show Value.int .i64 _ = Value.int .i64 _
          congr 1
          omega
        · have h3 := HX.out.2.1
          refine ⟨HC0s.out, _, ?_, HO0s.out.2.1, HO0s.out.2.2.1⟩
          rw [← Mm.half_set HX.out.1, h3]
          exact HO0s.out.1
      case measure => simp [intOf]; omega
    · have HM := Lib.hid hm
      go_wp2
      go_ret
      exact HM.out.done (by have := hlen.out; omega)
set_option maxHeartbeats 2000000 in
theorem markLetterS_c (l : List Letter) (A : Option Addr) (n c : Nat) (fp : List Nat) (k : Int) (w : World) (ho : Mm.SlOwn rLetter 84 w l (.slice A n c) fp) (hnd : fp.Nodup) (h0 : 1 ≤ k) (h1 : k + Mm.cntL Pl.cntLetter l ≤ 1000000000000) :
    Calls Try.prog 59 #[.slice A n c, .int .i64 k] w (Mm.MkRet rLetter 84 Pl.mkLetter Pl.cntLetter w l (.slice A n c) fp k) := by
  have hn : n ≤ 9223372036854775807 := by
    obtain ⟨_, _, _, he, _, h2, h3, _⟩ := ho.form
    injection he with _ e2 e3
    subst e2; subst e3
    unfold maxLen at h3; omega
  have hlen : Hid (l.length = n) := by
    obtain ⟨_, _, _, he, h2, _⟩ := ho.form
    injection he with _ e2
    show l.length = n
    rw [e2, h2]
  have HN : Hid (∀ x : Letter, 0 ≤ Pl.cntLetter x) := Pl.cntLetter_nn
  have HST := Lib.hid (Mm.MkAt.start (mk := Pl.mkLetter) (cnt := Pl.cntLetter) (k := k) ho hnd)
  clear ho hnd
  go_enter Try.func59, Try.ntmps59
  go_wp2
  go_loopw [1, 5] (fun kk i wr => ∃ j : Nat, j ≤ n ∧ i = .int .i64 j ∧ kk = .int .i64 (k + Mm.cntL Pl.cntLetter (l.take j)) ∧ Mm.MkAt rLetter 84 Pl.mkLetter Pl.cntLetter w l (.slice A n c) fp k j wr) (fun _ i _ => n - (intOf i).toNat)
  case atStart => exact ⟨0, Nat.zero_le _, rfl, by simp [Mm.cntL], HST.out⟩
  case round =>
    clear HST
    obtain ⟨j, hj, rfl, rfl, hm⟩ := hrel
    rename_i wr _
    by_cases hlt : j < n
    · obtain ⟨x, hx⟩ : ∃ x, l[j]? = some x := ⟨_, List.getElem?_eq_getElem (by have := hlen.out; omega)⟩
      have hc1 : Mm.cntL Pl.cntLetter (l.take (j + 1)) = Mm.cntL Pl.cntLetter (l.take j) + Pl.cntLetter x := Mm.cntL_succ hx
      have hc2 := Mm.cntL_take_le HN.out l (j + 1)
      have hc3 := Mm.cntL_nn HN.out (l.take j)
      have hc4 := HN.out x
      obtain ⟨kj, hkj⟩ : ∃ kj, k + Mm.cntL Pl.cntLetter (l.take j) = kj := ⟨_, rfl⟩
      rw [hkj]
      have hk0 : 1 ≤ kj := by omega
      have hk1 : kj + Pl.cntLetter x ≤ 1000000000000 := by omega
      have HX := Lib.hid (And.intro hx (And.intro hkj hc1))
      obtain ⟨hchg, fp0, ho0, hnd0, hsub0⟩ := hm
      have hx0 := Mm.half_get (mk := Pl.mkLetter) (cnt := Pl.cntLetter) (k := k) hx
      obtain ⟨g, rfl⟩ : ∃ g, A = some ⟨g, 0, none⟩ := by
        obtain ⟨_, _, hs, _⟩ := ho0
        obtain ⟨g, cap, he, _⟩ := hs.form (by rw [Mm.half_len]; have := hlen.out; omega)
        injection he with he
        exact ⟨g, he⟩
      have hgl := ho0.olt g ho0.mem_block
      have HC0 := Lib.hid hchg
      have HO0 := Lib.hid (And.intro ho0 (And.intro hnd0 (And.intro hsub0 hx0)))
      clear hchg hx hkj hc1 hc2 hc3 hx0
      have hcx : Pl.cntLetter x = 1 + 1 + 1 + 1 + 1 := rfl
      rw [hcx] at hk1 hc4
      have HCX := Lib.hid hcx
      clear hcx hc4
      obtain ⟨d0_0, d0_1, d0_2, d0_3, d0_4⟩ := rLetter_ocell HO0.out.1 HO0.out.2.1 HO0.out.2.2.2
      have e0_0 := HO0.out.1.frozen (j * 5)
      have e0_1 := HO0.out.1.frozen (j * 5 + 1)
      have e0_2 := HO0.out.1.frozen (j * 5 + 2)
      have e0_3 := HO0.out.1.frozen (j * 5 + 3)
      have e0_4 := HO0.out.1.frozen (j * 5 + 4)
      have st0 := HO0.out.1.store HO0.out.2.1 (j := 0) (x' := ⟨kj, x.To, x.Term, x.Ask, x.Age⟩) (u := .int .i64 (kj)) HO0.out.2.2.2 (by decide) (fun cs fx hh => by obtain ⟨rfl, ⟨g0, g1, g2, g3⟩, rfl⟩ := hh; exact ⟨rfl, ⟨(by unfold Mm.I64; first | omega | (dsimp only; omega)), g1, g2, g3⟩, rfl⟩)
      have HO0s := Lib.hid (And.intro st0 (And.intro HO0.out.2.1 (And.intro HO0.out.2.2.1 (show ((Mm.half Pl.mkLetter Pl.cntLetter l k j).set j ⟨kj, x.To, x.Term, x.Ask, x.Age⟩)[j]? = some ⟨kj, x.To, x.Term, x.Ask, x.Age⟩ from List.getElem?_set_self (by rw [Mm.half_len]; have := hlen.out; omega)))))
      have HC0s := Lib.hid (HC0.out.setCell (p := ⟨g, j * 5, none⟩) (HO0.out.2.2.1 g HO0.out.1.mem_block) (.int .i64 (kj)))
      clear st0
      have st1 := HO0s.out.1.store HO0s.out.2.1 (j := 1) (x' := ⟨kj, (kj + 1), x.Term, x.Ask, x.Age⟩) (u := .int .i64 ((kj + 1))) HO0s.out.2.2.2 (by decide) (fun cs fx hh => by obtain ⟨rfl, ⟨g0, g1, g2, g3⟩, rfl⟩ := hh; exact ⟨rfl, ⟨g0, (by unfold Mm.I64; first | omega | (dsimp only; omega)), g2, g3⟩, rfl⟩)
      rw [List.set_set] at st1
      have HO1s := Lib.hid (And.intro st1 (And.intro HO0s.out.2.1 (And.intro HO0s.out.2.2.1 (show ((Mm.half Pl.mkLetter Pl.cntLetter l k j).set j ⟨kj, (kj + 1), x.Term, x.Ask, x.Age⟩)[j]? = some ⟨kj, (kj + 1), x.Term, x.Ask, x.Age⟩ from List.getElem?_set_self (by rw [Mm.half_len]; have := hlen.out; omega)))))
      have HC1s := Lib.hid (HC0s.out.setCell (p := ⟨g, j * 5 + 1, none⟩) (HO0s.out.2.2.1 g HO0s.out.1.mem_block) (.int .i64 ((kj + 1))))
      clear st1
      have st2 := HO1s.out.1.store HO1s.out.2.1 (j := 2) (x' := ⟨kj, (kj + 1), ((kj + 1) + 1), x.Ask, x.Age⟩) (u := .int .i64 (((kj + 1) + 1))) HO1s.out.2.2.2 (by decide) (fun cs fx hh => by obtain ⟨rfl, ⟨g0, g1, g2, g3⟩, rfl⟩ := hh; exact ⟨rfl, ⟨g0, g1, (by unfold Mm.I64; first | omega | (dsimp only; omega)), g3⟩, rfl⟩)
      rw [List.set_set] at st2
      have HO2s := Lib.hid (And.intro st2 (And.intro HO1s.out.2.1 (And.intro HO1s.out.2.2.1 (show ((Mm.half Pl.mkLetter Pl.cntLetter l k j).set j ⟨kj, (kj + 1), ((kj + 1) + 1), x.Ask, x.Age⟩)[j]? = some ⟨kj, (kj + 1), ((kj + 1) + 1), x.Ask, x.Age⟩ from List.getElem?_set_self (by rw [Mm.half_len]; have := hlen.out; omega)))))
      have HC2s := Lib.hid (HC1s.out.setCell (p := ⟨g, j * 5 + 2, none⟩) (HO1s.out.2.2.1 g HO1s.out.1.mem_block) (.int .i64 (((kj + 1) + 1))))
      clear st2
      have st3 := HO2s.out.1.store HO2s.out.2.1 (j := 3) (x' := ⟨kj, (kj + 1), ((kj + 1) + 1), ((((kj + 1) + 1) + 1) % 3 == 0), x.Age⟩) (u := .bool ((((kj + 1) + 1) + 1) % 3 == 0)) HO2s.out.2.2.2 (by decide) (fun cs fx hh => by obtain ⟨rfl, ⟨g0, g1, g2, g3⟩, rfl⟩ := hh; exact ⟨rfl, ⟨g0, g1, g2, g3⟩, rfl⟩)
      rw [List.set_set] at st3
      have HO3s := Lib.hid (And.intro st3 (And.intro HO2s.out.2.1 (And.intro HO2s.out.2.2.1 (show ((Mm.half Pl.mkLetter Pl.cntLetter l k j).set j ⟨kj, (kj + 1), ((kj + 1) + 1), ((((kj + 1) + 1) + 1) % 3 == 0), x.Age⟩)[j]? = some ⟨kj, (kj + 1), ((kj + 1) + 1), ((((kj + 1) + 1) + 1) % 3 == 0), x.Age⟩ from List.getElem?_set_self (by rw [Mm.half_len]; have := hlen.out; omega)))))
      have HC3s := Lib.hid (HC2s.out.setCell (p := ⟨g, j * 5 + 3, none⟩) (HO2s.out.2.2.1 g HO2s.out.1.mem_block) (.bool ((((kj + 1) + 1) + 1) % 3 == 0)))
      clear st3
      have st4 := HO3s.out.1.store HO3s.out.2.1 (j := 4) (x' := ⟨kj, (kj + 1), ((kj + 1) + 1), ((((kj + 1) + 1) + 1) % 3 == 0), ((((kj + 1) + 1) + 1) + 1)⟩) (u := .int .i64 (((((kj + 1) + 1) + 1) + 1))) HO3s.out.2.2.2 (by decide) (fun cs fx hh => by obtain ⟨rfl, ⟨g0, g1, g2, g3⟩, rfl⟩ := hh; exact ⟨rfl, ⟨g0, g1, g2, (by unfold Mm.I64; first | omega | (dsimp only; omega))⟩, rfl⟩)
      rw [List.set_set] at st4
      have HO4s := Lib.hid (And.intro st4 (And.intro HO3s.out.2.1 (And.intro HO3s.out.2.2.1 (show ((Mm.half Pl.mkLetter Pl.cntLetter l k j).set j ⟨kj, (kj + 1), ((kj + 1) + 1), ((((kj + 1) + 1) + 1) % 3 == 0), ((((kj + 1) + 1) + 1) + 1)⟩)[j]? = some ⟨kj, (kj + 1), ((kj + 1) + 1), ((((kj + 1) + 1) + 1) % 3 == 0), ((((kj + 1) + 1) + 1) + 1)⟩ from List.getElem?_set_self (by rw [Mm.half_len]; have := hlen.out; omega)))))
      have HC4s := Lib.hid (HC3s.out.setCell (p := ⟨g, j * 5 + 4, none⟩) (HO3s.out.2.2.1 g HO3s.out.1.mem_block) (.int .i64 (((((kj + 1) + 1) + 1) + 1))))
      clear st4
      go_wp2
      go_roundw
      case rel =>
        refine ⟨j + 1, by omega, by go_num, ?_, ?_⟩
        · have h3 := HX.out.2.1; have h4 := HX.out.2.2; have h5 := HCX.out
          rw [h4]
          show Value.int .i64 _ = Value.int .i64 _
          congr 1
          omega
        · have h3 := HX.out.2.1
          refine ⟨HC4s.out, _, ?_, HO4s.out.2.1, HO4s.out.2.2.1⟩
          rw [← Mm.half_set HX.out.1, h3]
          exact HO4s.out.1
      case measure => simp [intOf]; omega
    · have HM := Lib.hid hm
      go_wp2
      go_ret
      exact HM.out.done (by have := hlen.out; omega)
set_option maxHeartbeats 2000000 in
theorem markVoteStepS_c (l : List VoteStep) (A : Option Addr) (n c : Nat) (fp : List Nat) (k : Int) (w : World) (ho : Mm.SlOwn rVoteStep 56 w l (.slice A n c) fp) (hnd : fp.Nodup) (h0 : 1 ≤ k) (h1 : k + Mm.cntL Pl.cntVoteStep l ≤ 1000000000000) :
    Calls Try.prog 22 #[.slice A n c, .int .i64 k] w (Mm.MkRet rVoteStep 56 Pl.mkVoteStep Pl.cntVoteStep w l (.slice A n c) fp k) := by
  have hn : n ≤ 9223372036854775807 := by
    obtain ⟨_, _, _, he, _, h2, h3, _⟩ := ho.form
    injection he with _ e2 e3
    subst e2; subst e3
    unfold maxLen at h3; omega
  have hlen : Hid (l.length = n) := by
    obtain ⟨_, _, _, he, h2, _⟩ := ho.form
    injection he with _ e2
    show l.length = n
    rw [e2, h2]
  have HN : Hid (∀ x : VoteStep, 0 ≤ Pl.cntVoteStep x) := Pl.cntVoteStep_nn
  have HST := Lib.hid (Mm.MkAt.start (mk := Pl.mkVoteStep) (cnt := Pl.cntVoteStep) (k := k) ho hnd)
  clear ho hnd
  go_enter Try.func22, Try.ntmps22
  go_wp2
  go_loopw [1, 5] (fun kk i wr => ∃ j : Nat, j ≤ n ∧ i = .int .i64 j ∧ kk = .int .i64 (k + Mm.cntL Pl.cntVoteStep (l.take j)) ∧ Mm.MkAt rVoteStep 56 Pl.mkVoteStep Pl.cntVoteStep w l (.slice A n c) fp k j wr) (fun _ i _ => n - (intOf i).toNat)
  case atStart => exact ⟨0, Nat.zero_le _, rfl, by simp [Mm.cntL], HST.out⟩
  case round =>
    clear HST
    obtain ⟨j, hj, rfl, rfl, hm⟩ := hrel
    rename_i wr _
    by_cases hlt : j < n
    · obtain ⟨x, hx⟩ : ∃ x, l[j]? = some x := ⟨_, List.getElem?_eq_getElem (by have := hlen.out; omega)⟩
      have hc1 : Mm.cntL Pl.cntVoteStep (l.take (j + 1)) = Mm.cntL Pl.cntVoteStep (l.take j) + Pl.cntVoteStep x := Mm.cntL_succ hx
      have hc2 := Mm.cntL_take_le HN.out l (j + 1)
      have hc3 := Mm.cntL_nn HN.out (l.take j)
      have hc4 := HN.out x
      obtain ⟨kj, hkj⟩ : ∃ kj, k + Mm.cntL Pl.cntVoteStep (l.take j) = kj := ⟨_, rfl⟩
      rw [hkj]
      have hk0 : 1 ≤ kj := by omega
      have hk1 : kj + Pl.cntVoteStep x ≤ 1000000000000 := by omega
      have HX := Lib.hid (And.intro hx (And.intro hkj hc1))
      obtain ⟨hchg, fp0, ho0, hnd0, hsub0⟩ := hm
      have hx0 := Mm.half_get (mk := Pl.mkVoteStep) (cnt := Pl.cntVoteStep) (k := k) hx
      obtain ⟨g, rfl⟩ : ∃ g, A = some ⟨g, 0, none⟩ := by
        obtain ⟨_, _, hs, _⟩ := ho0
        obtain ⟨g, cap, he, _⟩ := hs.form (by rw [Mm.half_len]; have := hlen.out; omega)
        injection he with he
        exact ⟨g, he⟩
      have hgl := ho0.olt g ho0.mem_block
      have HC0 := Lib.hid hchg
      have HO0 := Lib.hid (And.intro ho0 (And.intro hnd0 (And.intro hsub0 hx0)))
      clear hchg hx hkj hc1 hc2 hc3 hx0
      have hcx : Pl.cntVoteStep x = 1 + 1 := rfl
      rw [hcx] at hk1 hc4
      have HCX := Lib.hid hcx
      clear hcx hc4
      obtain ⟨d0_0, d0_1⟩ := rVoteStep_ocell HO0.out.1 HO0.out.2.1 HO0.out.2.2.2
      have e0_0 := HO0.out.1.frozen (j * 2)
      have e0_1 := HO0.out.1.frozen (j * 2 + 1)
      have st0 := HO0.out.1.store HO0.out.2.1 (j := 0) (x' := ⟨kj, x.K⟩) (u := .int .i64 (kj)) HO0.out.2.2.2 (by decide) (fun cs fx hh => by obtain ⟨rfl, ⟨g0, g1⟩, rfl⟩ := hh; exact ⟨rfl, ⟨(by unfold Mm.I64; first | omega | (dsimp only; omega)), g1⟩, rfl⟩)
      have HO0s := Lib.hid (And.intro st0 (And.intro HO0.out.2.1 (And.intro HO0.out.2.2.1 (show ((Mm.half Pl.mkVoteStep Pl.cntVoteStep l k j).set j ⟨kj, x.K⟩)[j]? = some ⟨kj, x.K⟩ from List.getElem?_set_self (by rw [Mm.half_len]; have := hlen.out; omega)))))
      have HC0s := Lib.hid (HC0.out.setCell (p := ⟨g, j * 2, none⟩) (HO0.out.2.2.1 g HO0.out.1.mem_block) (.int .i64 (kj)))
      clear st0
      have st1 := HO0s.out.1.store HO0s.out.2.1 (j := 1) (x' := ⟨kj, (kj + 1)⟩) (u := .int .i64 ((kj + 1))) HO0s.out.2.2.2 (by decide) (fun cs fx hh => by obtain ⟨rfl, ⟨g0, g1⟩, rfl⟩ := hh; exact ⟨rfl, ⟨g0, (by unfold Mm.I64; first | omega | (dsimp only; omega))⟩, rfl⟩)
      rw [List.set_set] at st1
      have HO1s := Lib.hid (And.intro st1 (And.intro HO0s.out.2.1 (And.intro HO0s.out.2.2.1 (show ((Mm.half Pl.mkVoteStep Pl.cntVoteStep l k j).set j ⟨kj, (kj + 1)⟩)[j]? = some ⟨kj, (kj + 1)⟩ from List.getElem?_set_self (by rw [Mm.half_len]; have := hlen.out; omega)))))
      have HC1s := Lib.hid (HC0s.out.setCell (p := ⟨g, j * 2 + 1, none⟩) (HO0s.out.2.2.1 g HO0s.out.1.mem_block) (.int .i64 ((kj + 1))))
      clear st1
      go_wp2
      go_roundw
      case rel =>
        refine ⟨j + 1, by omega, by go_num, ?_, ?_⟩
        · have h3 := HX.out.2.1; have h4 := HX.out.2.2; have h5 := HCX.out
          rw [h4]
          show Value.int .i64 _ = Value.int .i64 _
          congr 1
          omega
        · have h3 := HX.out.2.1
          refine ⟨HC1s.out, _, ?_, HO1s.out.2.1, HO1s.out.2.2.1⟩
          rw [← Mm.half_set HX.out.1, h3]
          exact HO1s.out.1
      case measure => simp [intOf]; omega
    · have HM := Lib.hid hm
      go_wp2
      go_ret
      exact HM.out.done (by have := hlen.out; omega)
set_option maxHeartbeats 2000000 in
theorem markNodeS_c (l : List Node) (A : Option Addr) (n c : Nat) (fp : List Nat) (k : Int) (w : World) (ho : Mm.SlOwn rNode 42 w l (.slice A n c) fp) (hnd : fp.Nodup) (h0 : 1 ≤ k) (h1 : k + Mm.cntL Pl.cntNode l ≤ 1000000000000) :
    Calls Try.prog 58 #[.slice A n c, .int .i64 k] w (Mm.MkRet rNode 42 Pl.mkNode Pl.cntNode w l (.slice A n c) fp k) := by
  have hn : n ≤ 9223372036854775807 := by
    obtain ⟨_, _, _, he, _, h2, h3, _⟩ := ho.form
    injection he with _ e2 e3
    subst e2; subst e3
    unfold maxLen at h3; omega
  have hlen : Hid (l.length = n) := by
    obtain ⟨_, _, _, he, h2, _⟩ := ho.form
    injection he with _ e2
    show l.length = n
    rw [e2, h2]
  have HN : Hid (∀ x : Node, 0 ≤ Pl.cntNode x) := Pl.cntNode_nn
  have HST := Lib.hid (Mm.MkAt.start (mk := Pl.mkNode) (cnt := Pl.cntNode) (k := k) ho hnd)
  clear ho hnd
  go_enter Try.func58, Try.ntmps58
  go_wp2
  go_loopw [1, 5] (fun kk i wr => ∃ j : Nat, j ≤ n ∧ i = .int .i64 j ∧ kk = .int .i64 (k + Mm.cntL Pl.cntNode (l.take j)) ∧ Mm.MkAt rNode 42 Pl.mkNode Pl.cntNode w l (.slice A n c) fp k j wr) (fun _ i _ => n - (intOf i).toNat)
  case atStart => exact ⟨0, Nat.zero_le _, rfl, by simp [Mm.cntL], HST.out⟩
  case round =>
    clear HST
    obtain ⟨j, hj, rfl, rfl, hm⟩ := hrel
    rename_i wr _
    by_cases hlt : j < n
    · obtain ⟨x, hx⟩ : ∃ x, l[j]? = some x := ⟨_, List.getElem?_eq_getElem (by have := hlen.out; omega)⟩
      have hc1 : Mm.cntL Pl.cntNode (l.take (j + 1)) = Mm.cntL Pl.cntNode (l.take j) + Pl.cntNode x := Mm.cntL_succ hx
      have hc2 := Mm.cntL_take_le HN.out l (j + 1)
      have hc3 := Mm.cntL_nn HN.out (l.take j)
      have hc4 := HN.out x
      obtain ⟨kj, hkj⟩ : ∃ kj, k + Mm.cntL Pl.cntNode (l.take j) = kj := ⟨_, rfl⟩
      rw [hkj]
      have hk0 : 1 ≤ kj := by omega
      have hk1 : kj + Pl.cntNode x ≤ 1000000000000 := by omega
      have HX := Lib.hid (And.intro hx (And.intro hkj hc1))
      obtain ⟨hchg, fp0, ho0, hnd0, hsub0⟩ := hm
      have hx0 := Mm.half_get (mk := Pl.mkNode) (cnt := Pl.cntNode) (k := k) hx
      obtain ⟨g, rfl⟩ : ∃ g, A = some ⟨g, 0, none⟩ := by
        obtain ⟨_, _, hs, _⟩ := ho0
        obtain ⟨g, cap, he, _⟩ := hs.form (by rw [Mm.half_len]; have := hlen.out; omega)
        injection he with he
        exact ⟨g, he⟩
      have hgl := ho0.olt g ho0.mem_block
      have HC0 := Lib.hid hchg
      have HO0 := Lib.hid (And.intro ho0 (And.intro hnd0 (And.intro hsub0 hx0)))
      clear hchg hx hkj hc1 hc2 hc3 hx0
      have hcx : Pl.cntNode x = 1 + 1 + 1 + (Mm.cntL Pl.cnt1) x.Heard + 1 := rfl
      have hq3 := Mm.cntL_nn (cnt := Pl.cnt1) (Pl.cnt1_nn) x.Heard
      obtain ⟨z3, hz3⟩ : ∃ z, (Mm.cntL Pl.cnt1) x.Heard = z := ⟨_, rfl⟩
      rw [hz3] at hcx hq3
      rw [hcx] at hk1 hc4
      have HCX := Lib.hid hcx
      clear hcx hc4
      have HZ3 := Lib.hid hz3
      clear hz3
      obtain ⟨A0, n0, c0, d0_0, d0_1, d0_2, d0_3, d0_4⟩ := rNode_ocell HO0.out.1 HO0.out.2.1 HO0.out.2.2.2
      have e0_0 := HO0.out.1.frozen (j * 5)
      have e0_1 := HO0.out.1.frozen (j * 5 + 1)
      have e0_2 := HO0.out.1.frozen (j * 5 + 2)
      have e0_3 := HO0.out.1.frozen (j * 5 + 3)
      have e0_4 := HO0.out.1.frozen (j * 5 + 4)
      have st0 := HO0.out.1.store HO0.out.2.1 (j := 0) (x' := ⟨kj, x.Voted, x.Age, x.Heard, x.Role⟩) (u := .int .i64 (kj)) HO0.out.2.2.2 (by decide) (fun cs fx hh => by obtain ⟨A, n, c, _, rfl, rfl, g0, g1, g2, g3, g4⟩ := rNode_own hh; exact rNode_own_mk (x := ⟨kj, x.Voted, x.Age, x.Heard, x.Role⟩) (by unfold Mm.I64; first | omega | (dsimp only; omega)) g1 g2 g3 g4)
      have HO0s := Lib.hid (And.intro st0 (And.intro HO0.out.2.1 (And.intro HO0.out.2.2.1 (show ((Mm.half Pl.mkNode Pl.cntNode l k j).set j ⟨kj, x.Voted, x.Age, x.Heard, x.Role⟩)[j]? = some ⟨kj, x.Voted, x.Age, x.Heard, x.Role⟩ from List.getElem?_set_self (by rw [Mm.half_len]; have := hlen.out; omega)))))
      have HC0s := Lib.hid (HC0.out.setCell (p := ⟨g, j * 5, none⟩) (HO0.out.2.2.1 g HO0.out.1.mem_block) (.int .i64 (kj)))
      clear st0
      have st1 := HO0s.out.1.store HO0s.out.2.1 (j := 1) (x' := ⟨kj, (kj + 1), x.Age, x.Heard, x.Role⟩) (u := .int .i64 ((kj + 1))) HO0s.out.2.2.2 (by decide) (fun cs fx hh => by obtain ⟨A, n, c, _, rfl, rfl, g0, g1, g2, g3, g4⟩ := rNode_own hh; exact rNode_own_mk (x := ⟨kj, (kj + 1), x.Age, x.Heard, x.Role⟩) g0 (by unfold Mm.I64; first | omega | (dsimp only; omega)) g2 g3 g4)
      rw [List.set_set] at st1
      have HO1s := Lib.hid (And.intro st1 (And.intro HO0s.out.2.1 (And.intro HO0s.out.2.2.1 (show ((Mm.half Pl.mkNode Pl.cntNode l k j).set j ⟨kj, (kj + 1), x.Age, x.Heard, x.Role⟩)[j]? = some ⟨kj, (kj + 1), x.Age, x.Heard, x.Role⟩ from List.getElem?_set_self (by rw [Mm.half_len]; have := hlen.out; omega)))))
      have HC1s := Lib.hid (HC0s.out.setCell (p := ⟨g, j * 5 + 1, none⟩) (HO0s.out.2.2.1 g HO0s.out.1.mem_block) (.int .i64 ((kj + 1))))
      clear st1
      have st2 := HO1s.out.1.store HO1s.out.2.1 (j := 2) (x' := ⟨kj, (kj + 1), ((kj + 1) + 1), x.Heard, x.Role⟩) (u := .int .i64 (((kj + 1) + 1))) HO1s.out.2.2.2 (by decide) (fun cs fx hh => by obtain ⟨A, n, c, _, rfl, rfl, g0, g1, g2, g3, g4⟩ := rNode_own hh; exact rNode_own_mk (x := ⟨kj, (kj + 1), ((kj + 1) + 1), x.Heard, x.Role⟩) g0 g1 (by unfold Mm.I64; first | omega | (dsimp only; omega)) g3 g4)
      rw [List.set_set] at st2
      have HO2s := Lib.hid (And.intro st2 (And.intro HO1s.out.2.1 (And.intro HO1s.out.2.2.1 (show ((Mm.half Pl.mkNode Pl.cntNode l k j).set j ⟨kj, (kj + 1), ((kj + 1) + 1), x.Heard, x.Role⟩)[j]? = some ⟨kj, (kj + 1), ((kj + 1) + 1), x.Heard, x.Role⟩ from List.getElem?_set_self (by rw [Mm.half_len]; have := hlen.out; omega)))))
      have HC2s := Lib.hid (HC1s.out.setCell (p := ⟨g, j * 5 + 2, none⟩) (HO1s.out.2.2.1 g HO1s.out.1.mem_block) (.int .i64 (((kj + 1) + 1))))
      clear st2
      obtain ⟨cs3, fx3, hox3, hnx3, hsx3, hcx3, hnext3⟩ := HO2s.out.1.inner HO2s.out.2.1 HO2s.out.2.2.2
      obtain ⟨Ai3, ni3, ci3, fi3, rfl, rfl, gi3_0, gi3_1, gi3_2, gi3_3, gi3_4⟩ := rNode_own hox3
      have hoi3 := gi3_3
      clear d0_3
      have dd3 := Mm.cell_sp (a' := j * 5 + 3) (hcx3 3 _ rfl) rfl
      rw [World.cell?_setCell_other _ _ _ _ (by intro e9; have e8 : j * 5 + 2 = j * 5 + 3 := congrArg Addr.off e9; omega)] at dd3
      rw [World.cell?_setCell_other _ _ _ _ (by intro e9; have e8 : j * 5 + 1 = j * 5 + 3 := congrArg Addr.off e9; omega)] at dd3
      rw [World.cell?_setCell_other _ _ _ _ (by intro e9; have e8 : j * 5 + 0 = j * 5 + 3 := congrArg Addr.off e9; omega)] at dd3
      have HI3 := Lib.hid (And.intro hoi3 (And.intro hnx3 (And.intro hsx3 hnext3)))
      have HG3 := Lib.hid (And.intro gi3_0 (And.intro gi3_1 (And.intro gi3_2 (And.intro gi3_3 gi3_4))))
      clear hoi3 hnx3 hsx3 hnext3 hcx3 gi3_0 gi3_1 gi3_2 gi3_3 gi3_4
      go_wp2_with fail
      refine (markIntS_c x.Heard _ _ _ _ _ _ HI3.out.1 HI3.out.2.1 (by omega) (by have hz9 := HZ3.out; omega)).mono ?_
      rintro e v3 ⟨rfl, hch3, fn3, ho3', hnd3', hsub3'⟩
      obtain ⟨fo3, hof3, hnf3, hsf3⟩ := HI3.out.2.2.2 v3 (⟨kj, (kj + 1), ((kj + 1) + 1), ((Mm.mkL Pl.mkInt Pl.cnt1) x.Heard (((kj + 1) + 1) + 1)), x.Role⟩ : Node) fn3 hch3 (rNode_own_mk (x := ⟨kj, (kj + 1), ((kj + 1) + 1), ((Mm.mkL Pl.mkInt Pl.cnt1) x.Heard (((kj + 1) + 1) + 1)), x.Role⟩) HG3.out.1 HG3.out.2.1 HG3.out.2.2.1 ho3' HG3.out.2.2.2.2) hnd3' hsub3'
      rw [List.set_set] at hof3
      have HO3s := Lib.hid (And.intro hof3 (And.intro hnf3 (And.intro (fun b hb => HO2s.out.2.2.1 b (hsf3 b hb)) (show ((Mm.half Pl.mkNode Pl.cntNode l k j).set j ⟨kj, (kj + 1), ((kj + 1) + 1), ((Mm.mkL Pl.mkInt Pl.cnt1) x.Heard (((kj + 1) + 1) + 1)), x.Role⟩)[j]? = some ⟨kj, (kj + 1), ((kj + 1) + 1), ((Mm.mkL Pl.mkInt Pl.cnt1) x.Heard (((kj + 1) + 1) + 1)), x.Role⟩ from List.getElem?_set_self (by rw [Mm.half_len]; have := hlen.out; omega)))))
      have HC3s := Lib.hid (HC2s.out.trans (hch3.more (fun b hb => HO2s.out.2.2.1 b (HI3.out.2.2.1 b hb).1)))
      clear hch3 ho3' hnd3' hsub3' hof3 hnf3 hsf3
      rw [HZ3.out]
      obtain ⟨An3, nn3, cn3, dn3_0, dn3_1, dn3_2, dn3_3, dn3_4⟩ := rNode_ocell HO3s.out.1 HO3s.out.2.1 HO3s.out.2.2.2
      have en3_0 := HO3s.out.1.frozen (j * 5)
      have en3_1 := HO3s.out.1.frozen (j * 5 + 1)
      have en3_2 := HO3s.out.1.frozen (j * 5 + 2)
      have en3_3 := HO3s.out.1.frozen (j * 5 + 3)
      have en3_4 := HO3s.out.1.frozen (j * 5 + 4)
      have st4 := HO3s.out.1.store HO3s.out.2.1 (j := 4) (x' := ⟨kj, (kj + 1), ((kj + 1) + 1), ((Mm.mkL Pl.mkInt Pl.cnt1) x.Heard (((kj + 1) + 1) + 1)), ((((kj + 1) + 1) + 1) + z3)⟩) (u := .int .i64 (((((kj + 1) + 1) + 1) + z3))) HO3s.out.2.2.2 (by decide) (fun cs fx hh => by obtain ⟨A, n, c, _, rfl, rfl, g0, g1, g2, g3, g4⟩ := rNode_own hh; exact rNode_own_mk (x := ⟨kj, (kj + 1), ((kj + 1) + 1), ((Mm.mkL Pl.mkInt Pl.cnt1) x.Heard (((kj + 1) + 1) + 1)), ((((kj + 1) + 1) + 1) + z3)⟩) g0 g1 g2 g3 (by unfold Mm.I64; first | omega | (dsimp only; omega)))
      rw [List.set_set] at st4
      have HO4s := Lib.hid (And.intro st4 (And.intro HO3s.out.2.1 (And.intro HO3s.out.2.2.1 (show ((Mm.half Pl.mkNode Pl.cntNode l k j).set j ⟨kj, (kj + 1), ((kj + 1) + 1), ((Mm.mkL Pl.mkInt Pl.cnt1) x.Heard (((kj + 1) + 1) + 1)), ((((kj + 1) + 1) + 1) + z3)⟩)[j]? = some ⟨kj, (kj + 1), ((kj + 1) + 1), ((Mm.mkL Pl.mkInt Pl.cnt1) x.Heard (((kj + 1) + 1) + 1)), ((((kj + 1) + 1) + 1) + z3)⟩ from List.getElem?_set_self (by rw [Mm.half_len]; have := hlen.out; omega)))))
      have HC4s := Lib.hid (HC3s.out.setCell (p := ⟨g, j * 5 + 4, none⟩) (HO3s.out.2.2.1 g HO3s.out.1.mem_block) (.int .i64 (((((kj + 1) + 1) + 1) + z3))))
      clear st4
      go_wp2
      go_roundw
      case rel =>
        refine ⟨j + 1, by omega, by go_num, ?_, ?_⟩
        · have h3 := HX.out.2.1; have h4 := HX.out.2.2; have h5 := HCX.out
          rw [h4]
          show Value.int .i64 _ = Value.int .i64 _
          congr 1
          omega
        · have h3 := HX.out.2.1
          refine ⟨HC4s.out, _, ?_, HO4s.out.2.1, HO4s.out.2.2.1⟩
          rw [← Mm.half_set HX.out.1, h3]
          exact (by rw [show Pl.mkNode x kj = ⟨kj, (kj + 1), ((kj + 1) + 1), ((Mm.mkL Pl.mkInt Pl.cnt1) x.Heard (((kj + 1) + 1) + 1)), ((((kj + 1) + 1) + 1) + z3)⟩ from (by (try rw [← HZ3.out]); rfl)]; exact HO4s.out.1)
      case measure => simp [intOf]; omega
    · have HM := Lib.hid hm
      go_wp2
      go_ret
      exact HM.out.done (by have := hlen.out; omega)
end Go.Proofs.Ytkhchfbpmmiopaa

/-
  The laws' own markings of whole structs that are owned. No conditions.
-/
namespace Go.Proofs.Ytkhchfbpmmiopaa
open Go.RowKit
attribute [local go_sem] und_cell
set_option maxHeartbeats 2000000 in
theorem markPoll_c (x : Poll) (cs : List Value) (fp : List Nat) (k : Int) (w : World) (ho : rPoll.own w x cs fp) (hnd : fp.Nodup) (h0 : 1 ≤ k) (h1 : k + Pl.ctopPoll x ≤ 1000000000000) :
    Calls Try.prog 23 #[.agg cs.toArray, .int .i64 k] w (Mm.MkTop rPoll Pl.topPoll Pl.ctopPoll w x cs fp k) := by
  obtain ⟨A0, n0, c0, A1, n1, c1, A2, n2, c2, f0, f1, f2, rfl, rfl, g0, g1, g2⟩ := rPoll_own ho
  have hq0 := Mm.cntL_nn (cnt := Pl.cntNode) (Pl.cntNode_nn) x.Nodes
  have hq1 := Mm.cntL_nn (cnt := Pl.cntLetter) (Pl.cntLetter_nn) x.Letters
  have hq2 := Mm.cntL_nn (cnt := (Mm.cntL Pl.cnt1)) (Mm.cntL_nn (cnt := Pl.cnt1) (Pl.cnt1_nn)) x.Leaders
  have hct : Pl.ctopPoll x = (Mm.cntL Pl.cntNode) x.Nodes + (Mm.cntL Pl.cntLetter) x.Letters + (Mm.cntL (Mm.cntL Pl.cnt1)) x.Leaders := rfl
  rw [hct] at h1
  have HCT := Lib.hid hct
  clear hct
  have HND := Lib.hid hnd
  have KB := Lib.hid (Mm.Blk.new w 31 [.slice A0 n0 c0, .slice A1 n1 c1, .slice A2 n2 c2])
  have CH := Lib.hid (Mm.Chg.of_below (fp := f0 ++ (f1 ++ (f2))) (below_new (Below.refl w.heap.size w) (.cells #[.slice A0 n0 c0, .slice A1 n1 c1, .slice A2 n2 c2] 31)))
  have hl0 := g0.olt
  have O0 := Lib.hid (g0.okeep (w' := (w.alloc (.cells #[.slice A0 n0 c0, .slice A1 n1 c1, .slice A2 n2 c2] 31))) fun b hb => Below.heap_alloc _ _ _ (hl0 b hb))
  have L0 := Lib.hid hl0
  clear hl0
  have hl1 := g1.olt
  have O1 := Lib.hid (g1.okeep (w' := (w.alloc (.cells #[.slice A0 n0 c0, .slice A1 n1 c1, .slice A2 n2 c2] 31))) fun b hb => Below.heap_alloc _ _ _ (hl1 b hb))
  have L1 := Lib.hid hl1
  clear hl1
  have hl2 := g2.olt
  have O2 := Lib.hid (g2.okeep (w' := (w.alloc (.cells #[.slice A0 n0 c0, .slice A1 n1 c1, .slice A2 n2 c2] 31))) fun b hb => Below.heap_alloc _ _ _ (hl2 b hb))
  have L2 := Lib.hid hl2
  clear hl2
  have D0_1 : Hid (∀ b, b ∈ f0 → b ∉ f1) := fun b hb hm => (List.nodup_append.1 HND.out).2.2 b hb b (List.mem_append_left _ hm) rfl
  have D0_2 : Hid (∀ b, b ∈ f0 → b ∉ f2) := fun b hb hm => (List.nodup_append.1 HND.out).2.2 b hb b (List.mem_append_right _ hm) rfl
  have D1_2 : Hid (∀ b, b ∈ f1 → b ∉ f2) := fun b hb hm => (List.nodup_append.1 (List.nodup_append.1 HND.out).2.1).2.2 b hb b hm rfl
  clear ho hnd g0 g1 g2
  go_enter Try.func23, Try.ntmps23
  go_wp2_with fail
  refine (markNodeS_c x.Nodes _ _ _ _ _ _ O0.out (List.nodup_append.1 HND.out).1 (by omega) (by omega)).mono ?_
  rintro e v0 ⟨rfl, hch0, fn0, ho0', hnd0', hsub0'⟩
  have CH := Lib.hid (CH.out.trans (hch0.more fun b hb => (List.mem_append_left _ hb)))
  have KB := Lib.hid (KB.out.keep (hch0.block _ KB.out.lt (fun hm => by have := L0.out _ hm; omega)))
  have O1 := Lib.hid (O1.out.okeep fun b hb => hch0.block b (O1.out.olt b hb) (fun hm => D0_1.out b hm hb))
  have O2 := Lib.hid (O2.out.okeep fun b hb => hch0.block b (O2.out.olt b hb) (fun hm => D0_2.out b hm hb))
  have O0 := Lib.hid ho0'
  have S0 := Lib.hid (And.intro hnd0' hsub0')
  clear hch0 ho0' hnd0' hsub0'
  have e0_1 := KB.out.cell (i := 1) rfl
  have e0_2 := KB.out.cell (i := 2) rfl
  go_wp2_with fail
  refine (markLetterS_c x.Letters _ _ _ _ _ _ O1.out (List.nodup_append.1 (List.nodup_append.1 HND.out).2.1).1 (by omega) (by omega)).mono ?_
  rintro e v1 ⟨rfl, hch1, fn1, ho1', hnd1', hsub1'⟩
  have CH := Lib.hid (CH.out.trans (hch1.more fun b hb => (List.mem_append_right _ (List.mem_append_left _ hb))))
  have KB := Lib.hid (KB.out.keep (hch1.block _ KB.out.lt (fun hm => by have := L1.out _ hm; omega)))
  have O0 := Lib.hid (O0.out.okeep fun b hb => hch1.block b (O0.out.olt b hb) (fun hm => D0_1.out b (S0.out.2 b hb) hm))
  have O2 := Lib.hid (O2.out.okeep fun b hb => hch1.block b (O2.out.olt b hb) (fun hm => D1_2.out b hm hb))
  have O1 := Lib.hid ho1'
  have S1 := Lib.hid (And.intro hnd1' hsub1')
  clear hch1 ho1' hnd1' hsub1'
  have e1_2 := KB.out.cell (i := 2) rfl
  go_wp2_with fail
  refine (markIntSS_c x.Leaders _ _ _ _ _ _ O2.out (List.nodup_append.1 (List.nodup_append.1 HND.out).2.1).2.1 (by omega) (by omega)).mono ?_
  rintro e v2 ⟨rfl, hch2, fn2, ho2', hnd2', hsub2'⟩
  have CH := Lib.hid (CH.out.trans (hch2.more fun b hb => (List.mem_append_right _ (List.mem_append_right _ hb))))
  have KB := Lib.hid (KB.out.keep (hch2.block _ KB.out.lt (fun hm => by have := L2.out _ hm; omega)))
  have O0 := Lib.hid (O0.out.okeep fun b hb => hch2.block b (O0.out.olt b hb) (fun hm => D0_2.out b (S0.out.2 b hb) hm))
  have O1 := Lib.hid (O1.out.okeep fun b hb => hch2.block b (O1.out.olt b hb) (fun hm => D1_2.out b (S1.out.2 b hb) hm))
  have O2 := Lib.hid ho2'
  have S2 := Lib.hid (And.intro hnd2' hsub2')
  clear hch2 ho2' hnd2' hsub2'
  go_wp2
  go_ret
  refine ⟨ret_int (by have := HCT.out; omega), CH.out, _, rPoll_own_mk (x := Pl.topPoll x k) O0.out O1.out O2.out, ?_, ?_⟩
  · exact (List.nodup_append.2 ⟨S0.out.1, (List.nodup_append.2 ⟨S1.out.1, S2.out.1, fun a ha b hb hab => by subst hab; exact D1_2.out a (S1.out.2 a ha) (S2.out.2 a hb)⟩), fun a ha b hb hab => by subst hab; exact (List.mem_append.1 hb).elim (fun hb => D0_1.out a (S0.out.2 a ha) (S1.out.2 a hb)) (fun hb => D0_2.out a (S0.out.2 a ha) (S2.out.2 a hb))⟩)
  · intro b hb
    rcases List.mem_append.1 hb with hb | hb
    · exact (List.mem_append_left _ (S0.out.2 b hb))
    · rcases List.mem_append.1 hb with hb | hb
      · exact (List.mem_append_right _ (List.mem_append_left _ (S1.out.2 b hb)))
      · exact (List.mem_append_right _ (List.mem_append_right _ (S2.out.2 b hb)))
end Go.Proofs.Ytkhchfbpmmiopaa

/-
  The laws' own looks for marks. No conditions.
-/
namespace Go.Proofs.Ytkhchfbpmmiopaa
open Go.RowKit
attribute [local go_sem] und_cell
set_option maxHeartbeats 2000000 in
theorem heldIntS_c (l : List Int) (A : Option Addr) (n c : Nat) (k : Int) (w : World) (B : Nat) (hl : Mm.SlAt Mm.int w B (Mm.mkL Pl.mkInt Pl.cnt1 l k) A n c) (hB : B ≤ w.heap.size) (h0 : 1 ≤ k) (h1 : k + Mm.cntL Pl.cnt1 l ≤ 1000000000000) :
    Calls Try.prog 89 #[.slice A n c, .int .i64 k] w fun e w' => e = .returned (.int .i64 (k + Mm.cntL Pl.cnt1 l)) ∧ Below w.heap.size w w' := by
  have hn : n ≤ 9223372036854775807 := by have := hl.2.1; have := hl.2.2.1; unfold maxLen at this; omega
  have hlen : Hid (l.length = n) := by have := hl.1; rw [Mm.mkL_len] at this; exact this
  have HL := Lib.hid hl
  have HN : Hid (∀ x : Int, 0 ≤ Pl.cnt1 x) := Pl.cnt1_nn
  clear hl
  go_enter Try.func89, Try.ntmps89
  go_wp2
  go_loopw [1, 5] (fun kk i wr => ∃ j : Nat, j ≤ n ∧ i = .int .i64 j ∧ kk = .int .i64 (k + Mm.cntL Pl.cnt1 (l.take j)) ∧ Below w.heap.size w wr) (fun _ i _ => n - (intOf i).toNat)
  case atStart => exact ⟨0, Nat.zero_le _, rfl, by simp [Mm.cntL], Below.refl _ _⟩
  case round =>
    obtain ⟨j, hj, rfl, rfl, hbel⟩ := hrel
    rename_i wr _
    by_cases hlt : j < n
    · obtain ⟨x, hx⟩ : ∃ x, l[j]? = some x := ⟨_, List.getElem?_eq_getElem (by have := hlen.out; omega)⟩
      have hc1 : Mm.cntL Pl.cnt1 (l.take (j + 1)) = Mm.cntL Pl.cnt1 (l.take j) + Pl.cnt1 x := Mm.cntL_succ hx
      have hc2 := Mm.cntL_take_le HN.out l (j + 1)
      have hc3 := Mm.cntL_nn HN.out (l.take j)
      have hc4 := HN.out x
      have hmg := Mm.mkL_get (mk := Pl.mkInt) (cnt := Pl.cnt1) (k := k) hx
      obtain ⟨kj, hkj⟩ : ∃ kj, k + Mm.cntL Pl.cnt1 (l.take j) = kj := ⟨_, rfl⟩
      rw [hkj]
      rw [hkj] at hmg
      have hk0 : 1 ≤ kj := by omega
      have hk1 : kj + Pl.cnt1 x ≤ 1000000000000 := by omega
      have HX := Lib.hid (And.intro hkj hc1)
      have hBw : B ≤ wr.heap.size := Nat.le_trans hB hbel.size
      obtain ⟨y, b, off, hy, rfl, hb, f0, d0⟩ := int_get (HL.out.keep (w' := wr) (fun b hb => hbel.block b (by omega))) hlt
      have hye : y = Pl.mkInt x kj := by rw [hy] at hmg; injection hmg
      rw [hye] at f0 d0
      clear hy hmg hkj hc1 hc2 hc3 hx hye
      have hcx : Pl.cnt1 x = 1 := rfl
      rw [hcx] at hk1
      have HCX := Lib.hid hcx
      clear hcx hc4
      have d0' : wr.cell? ⟨b, off + j, none⟩ = some (.int .i64 (kj)) := by exact d0
      clear d0
      clear f0
      go_wp2
      go_roundw
      case rel =>
        refine ⟨j + 1, by omega, by go_num, ?_, hbel⟩
        have h3 := HX.out.1; have h4 := HX.out.2; have h5 := HCX.out
        rw [h4]
        show Value.int .i64 _ = Value.int .i64 _
        congr 1
        omega
      case measure => simp [intOf]; omega
    · have HK : Hid (l.take j = l) := List.take_of_length_le (by have := hlen.out; omega)
      go_wp2
      go_ret
      exact ⟨ret_int (by rw [HK.out]), hbel⟩
set_option maxHeartbeats 2000000 in
theorem heldBoolS_c (l : List Bool) (A : Option Addr) (n c : Nat) (k : Int) (w : World) (B : Nat) (hl : Mm.SlAt Mm.bool w B (Mm.mkL Pl.mkBool Pl.cnt1 l k) A n c) (hB : B ≤ w.heap.size) (h0 : 1 ≤ k) (h1 : k + Mm.cntL Pl.cnt1 l ≤ 1000000000000) :
    Calls Try.prog 26 #[.slice A n c, .int .i64 k] w fun e w' => e = .returned (.int .i64 (k + Mm.cntL Pl.cnt1 l)) ∧ Below w.heap.size w w' := by
  have hn : n ≤ 9223372036854775807 := by have := hl.2.1; have := hl.2.2.1; unfold maxLen at this; omega
  have hlen : Hid (l.length = n) := by have := hl.1; rw [Mm.mkL_len] at this; exact this
  have HL := Lib.hid hl
  have HN : Hid (∀ x : Bool, 0 ≤ Pl.cnt1 x) := Pl.cnt1_nn
  clear hl
  go_enter Try.func26, Try.ntmps26
  go_wp2
  go_loopw [1, 5] (fun kk i wr => ∃ j : Nat, j ≤ n ∧ i = .int .i64 j ∧ kk = .int .i64 (k + Mm.cntL Pl.cnt1 (l.take j)) ∧ Below w.heap.size w wr) (fun _ i _ => n - (intOf i).toNat)
  case atStart => exact ⟨0, Nat.zero_le _, rfl, by simp [Mm.cntL], Below.refl _ _⟩
  case round =>
    obtain ⟨j, hj, rfl, rfl, hbel⟩ := hrel
    rename_i wr _
    by_cases hlt : j < n
    · obtain ⟨x, hx⟩ : ∃ x, l[j]? = some x := ⟨_, List.getElem?_eq_getElem (by have := hlen.out; omega)⟩
      have hc1 : Mm.cntL Pl.cnt1 (l.take (j + 1)) = Mm.cntL Pl.cnt1 (l.take j) + Pl.cnt1 x := Mm.cntL_succ hx
      have hc2 := Mm.cntL_take_le HN.out l (j + 1)
      have hc3 := Mm.cntL_nn HN.out (l.take j)
      have hc4 := HN.out x
      have hmg := Mm.mkL_get (mk := Pl.mkBool) (cnt := Pl.cnt1) (k := k) hx
      obtain ⟨kj, hkj⟩ : ∃ kj, k + Mm.cntL Pl.cnt1 (l.take j) = kj := ⟨_, rfl⟩
      rw [hkj]
      rw [hkj] at hmg
      have hk0 : 1 ≤ kj := by omega
      have hk1 : kj + Pl.cnt1 x ≤ 1000000000000 := by omega
      have HX := Lib.hid (And.intro hkj hc1)
      have hBw : B ≤ wr.heap.size := Nat.le_trans hB hbel.size
      obtain ⟨y, b, off, hy, rfl, hb, d0⟩ := bool_get (HL.out.keep (w' := wr) (fun b hb => hbel.block b (by omega))) hlt
      have hye : y = Pl.mkBool x kj := by rw [hy] at hmg; injection hmg
      rw [hye] at d0
      clear hy hmg hkj hc1 hc2 hc3 hx hye
      have hcx : Pl.cnt1 x = 1 := rfl
      rw [hcx] at hk1
      have HCX := Lib.hid hcx
      clear hcx hc4
      have d0' : wr.cell? ⟨b, off + j, none⟩ = some (.bool (kj % 3 == 0)) := by exact d0
      clear d0
      go_wp2
      go_roundw
      case rel =>
        refine ⟨j + 1, by omega, by go_num, ?_, hbel⟩
        have h3 := HX.out.1; have h4 := HX.out.2; have h5 := HCX.out
        rw [h4]
        show Value.int .i64 _ = Value.int .i64 _
        congr 1
        omega
      case measure => simp [intOf]; omega
    · have HK : Hid (l.take j = l) := List.take_of_length_le (by have := hlen.out; omega)
      go_wp2
      go_ret
      exact ⟨ret_int (by rw [HK.out]), hbel⟩
set_option maxHeartbeats 2000000 in
theorem heldIntSS_c (l : List (List Int)) (A : Option Addr) (n c : Nat) (k : Int) (w : World) (B : Nat) (hl : Mm.SlAt ints w B (Mm.mkL (Mm.mkL Pl.mkInt Pl.cnt1) (Mm.cntL Pl.cnt1) l k) A n c) (hB : B ≤ w.heap.size) (h0 : 1 ≤ k) (h1 : k + Mm.cntL (Mm.cntL Pl.cnt1) l ≤ 1000000000000) :
    Calls Try.prog 63 #[.slice A n c, .int .i64 k] w fun e w' => e = .returned (.int .i64 (k + Mm.cntL (Mm.cntL Pl.cnt1) l)) ∧ Below w.heap.size w w' := by
  have hn : n ≤ 9223372036854775807 := by have := hl.2.1; have := hl.2.2.1; unfold maxLen at this; omega
  have hlen : Hid (l.length = n) := by have := hl.1; rw [Mm.mkL_len] at this; exact this
  have HL := Lib.hid hl
  have HN : Hid (∀ x : (List Int), 0 ≤ (Mm.cntL Pl.cnt1) x) := Mm.cntL_nn (cnt := Pl.cnt1) (Pl.cnt1_nn)
  clear hl
  go_enter Try.func63, Try.ntmps63
  go_wp2
  go_loopw [1, 5] (fun kk i wr => ∃ j : Nat, j ≤ n ∧ i = .int .i64 j ∧ kk = .int .i64 (k + Mm.cntL (Mm.cntL Pl.cnt1) (l.take j)) ∧ Below w.heap.size w wr) (fun _ i _ => n - (intOf i).toNat)
  case atStart => exact ⟨0, Nat.zero_le _, rfl, by simp [Mm.cntL], Below.refl _ _⟩
  case round =>
    obtain ⟨j, hj, rfl, rfl, hbel⟩ := hrel
    rename_i wr _
    by_cases hlt : j < n
    · obtain ⟨x, hx⟩ : ∃ x, l[j]? = some x := ⟨_, List.getElem?_eq_getElem (by have := hlen.out; omega)⟩
      have hc1 : Mm.cntL (Mm.cntL Pl.cnt1) (l.take (j + 1)) = Mm.cntL (Mm.cntL Pl.cnt1) (l.take j) + (Mm.cntL Pl.cnt1) x := Mm.cntL_succ hx
      have hc2 := Mm.cntL_take_le HN.out l (j + 1)
      have hc3 := Mm.cntL_nn HN.out (l.take j)
      have hc4 := HN.out x
      have hmg := Mm.mkL_get (mk := (Mm.mkL Pl.mkInt Pl.cnt1)) (cnt := (Mm.cntL Pl.cnt1)) (k := k) hx
      obtain ⟨kj, hkj⟩ : ∃ kj, k + Mm.cntL (Mm.cntL Pl.cnt1) (l.take j) = kj := ⟨_, rfl⟩
      rw [hkj]
      rw [hkj] at hmg
      have hk0 : 1 ≤ kj := by omega
      have hk1 : kj + (Mm.cntL Pl.cnt1) x ≤ 1000000000000 := by omega
      have HX := Lib.hid (And.intro hkj hc1)
      have hBw : B ≤ wr.heap.size := Nat.le_trans hB hbel.size
      obtain ⟨y, b, off, P, p, q, hy, rfl, hb, f0, d0⟩ := ints_get (HL.out.keep (w' := wr) (fun b hb => hbel.block b (by omega))) hlt
      have hye : y = (Mm.mkL Pl.mkInt Pl.cnt1) x kj := by rw [hy] at hmg; injection hmg
      rw [hye] at f0
      clear hy hmg hkj hc1 hc2 hc3 hx hye
      have hcx : (Mm.cntL Pl.cnt1) x = (Mm.cntL Pl.cnt1) x := rfl
      have HCX := Lib.hid hcx
      clear hcx
      have HF := Lib.hid f0
      clear f0
      go_wp2_with fail
      refine (heldIntS_c x _ _ _ _ _ B (Mm.SlAt.keep (w' := _) HF.out (fun b hb => rfl)) (hBw) (by omega) (by omega)).mono ?_
      rintro e v1 ⟨rfl, hb1⟩
      have HB1 := Lib.hid hb1
      clear hb1
      have HW1 := Lib.hid (below_step hbel HB1.out)
      have HV1 := Lib.hid (HB1.out)
      go_wp2
      go_roundw
      case rel =>
        refine ⟨j + 1, by omega, by go_num, ?_, HW1.out⟩
        have h3 := HX.out.1; have h4 := HX.out.2; have h5 := HCX.out
        rw [h4]
        show Value.int .i64 _ = Value.int .i64 _
        congr 1
        omega
      case measure => simp [intOf]; omega
    · have HK : Hid (l.take j = l) := List.take_of_length_le (by have := hlen.out; omega)
      go_wp2
      go_ret
      exact ⟨ret_int (by rw [HK.out]), hbel⟩
set_option maxHeartbeats 2000000 in
theorem heldLetterS_c (l : List Letter) (A : Option Addr) (n c : Nat) (k : Int) (w : World) (B : Nat) (hl : Mm.SlAt rLetter w B (Mm.mkL Pl.mkLetter Pl.cntLetter l k) A n c) (hB : B ≤ w.heap.size) (h0 : 1 ≤ k) (h1 : k + Mm.cntL Pl.cntLetter l ≤ 1000000000000) :
    Calls Try.prog 62 #[.slice A n c, .int .i64 k] w fun e w' => e = .returned (.int .i64 (k + Mm.cntL Pl.cntLetter l)) ∧ Below w.heap.size w w' := by
  have hn : n ≤ 9223372036854775807 := by have := hl.2.1; have := hl.2.2.1; unfold maxLen at this; omega
  have hlen : Hid (l.length = n) := by have := hl.1; rw [Mm.mkL_len] at this; exact this
  have HL := Lib.hid hl
  have HN : Hid (∀ x : Letter, 0 ≤ Pl.cntLetter x) := Pl.cntLetter_nn
  clear hl
  go_enter Try.func62, Try.ntmps62
  go_wp2
  go_loopw [1, 5] (fun kk i wr => ∃ j : Nat, j ≤ n ∧ i = .int .i64 j ∧ kk = .int .i64 (k + Mm.cntL Pl.cntLetter (l.take j)) ∧ Below w.heap.size w wr) (fun _ i _ => n - (intOf i).toNat)
  case atStart => exact ⟨0, Nat.zero_le _, rfl, by simp [Mm.cntL], Below.refl _ _⟩
  case round =>
    obtain ⟨j, hj, rfl, rfl, hbel⟩ := hrel
    rename_i wr _
    by_cases hlt : j < n
    · obtain ⟨x, hx⟩ : ∃ x, l[j]? = some x := ⟨_, List.getElem?_eq_getElem (by have := hlen.out; omega)⟩
      have hc1 : Mm.cntL Pl.cntLetter (l.take (j + 1)) = Mm.cntL Pl.cntLetter (l.take j) + Pl.cntLetter x := Mm.cntL_succ hx
      have hc2 := Mm.cntL_take_le HN.out l (j + 1)
      have hc3 := Mm.cntL_nn HN.out (l.take j)
      have hc4 := HN.out x
      have hmg := Mm.mkL_get (mk := Pl.mkLetter) (cnt := Pl.cntLetter) (k := k) hx
      obtain ⟨kj, hkj⟩ : ∃ kj, k + Mm.cntL Pl.cntLetter (l.take j) = kj := ⟨_, rfl⟩
      rw [hkj]
      rw [hkj] at hmg
      have hk0 : 1 ≤ kj := by omega
      have hk1 : kj + Pl.cntLetter x ≤ 1000000000000 := by omega
      have HX := Lib.hid (And.intro hkj hc1)
      have hBw : B ≤ wr.heap.size := Nat.le_trans hB hbel.size
      obtain ⟨y, b, off, hy, rfl, hb, f0, f1, f2, f3, d0, d1, d2, d3, d4⟩ := rLetter_get (HL.out.keep (w' := wr) (fun b hb => hbel.block b (by omega))) hlt
      have hye : y = Pl.mkLetter x kj := by rw [hy] at hmg; injection hmg
      rw [hye] at f0 f1 f2 f3 d0 d1 d2 d3 d4
      clear hy hmg hkj hc1 hc2 hc3 hx hye
      have hcx : Pl.cntLetter x = 1 + 1 + 1 + 1 + 1 := rfl
      rw [hcx] at hk1 hc4
      have HCX := Lib.hid hcx
      clear hcx hc4
      have d0' : wr.cell? ⟨b, off + j * 5, none⟩ = some (.int .i64 (kj)) := by exact d0
      clear d0
      have d1' : wr.cell? ⟨b, off + j * 5 + 1, none⟩ = some (.int .i64 ((kj + 1))) := by exact d1
      clear d1
      have d2' : wr.cell? ⟨b, off + j * 5 + 2, none⟩ = some (.int .i64 (((kj + 1) + 1))) := by exact d2
      clear d2
      have d3' : wr.cell? ⟨b, off + j * 5 + 3, none⟩ = some (.bool ((((kj + 1) + 1) + 1) % 3 == 0)) := by exact d3
      clear d3
      have d4' : wr.cell? ⟨b, off + j * 5 + 4, none⟩ = some (.int .i64 (((((kj + 1) + 1) + 1) + 1))) := by exact d4
      clear d4
      clear f0 f1 f2 f3
      go_wp2
      go_roundw
      case rel =>
        refine ⟨j + 1, by omega, by go_num, ?_, hbel⟩
        have h3 := HX.out.1; have h4 := HX.out.2; have h5 := HCX.out
        rw [h4]
        show Value.int .i64 _ = Value.int .i64 _
        congr 1
        omega
      case measure => simp [intOf]; omega
    · have HK : Hid (l.take j = l) := List.take_of_length_le (by have := hlen.out; omega)
      go_wp2
      go_ret
      exact ⟨ret_int (by rw [HK.out]), hbel⟩
set_option maxHeartbeats 2000000 in
theorem heldNodeS_c (l : List Node) (A : Option Addr) (n c : Nat) (k : Int) (w : World) (B : Nat) (hl : Mm.SlAt rNode w B (Mm.mkL Pl.mkNode Pl.cntNode l k) A n c) (hB : B ≤ w.heap.size) (h0 : 1 ≤ k) (h1 : k + Mm.cntL Pl.cntNode l ≤ 1000000000000) :
    Calls Try.prog 61 #[.slice A n c, .int .i64 k] w fun e w' => e = .returned (.int .i64 (k + Mm.cntL Pl.cntNode l)) ∧ Below w.heap.size w w' := by
  have hn : n ≤ 9223372036854775807 := by have := hl.2.1; have := hl.2.2.1; unfold maxLen at this; omega
  have hlen : Hid (l.length = n) := by have := hl.1; rw [Mm.mkL_len] at this; exact this
  have HL := Lib.hid hl
  have HN : Hid (∀ x : Node, 0 ≤ Pl.cntNode x) := Pl.cntNode_nn
  clear hl
  go_enter Try.func61, Try.ntmps61
  go_wp2
  go_loopw [1, 5] (fun kk i wr => ∃ j : Nat, j ≤ n ∧ i = .int .i64 j ∧ kk = .int .i64 (k + Mm.cntL Pl.cntNode (l.take j)) ∧ Below w.heap.size w wr) (fun _ i _ => n - (intOf i).toNat)
  case atStart => exact ⟨0, Nat.zero_le _, rfl, by simp [Mm.cntL], Below.refl _ _⟩
  case round =>
    obtain ⟨j, hj, rfl, rfl, hbel⟩ := hrel
    rename_i wr _
    by_cases hlt : j < n
    · obtain ⟨x, hx⟩ : ∃ x, l[j]? = some x := ⟨_, List.getElem?_eq_getElem (by have := hlen.out; omega)⟩
      have hc1 : Mm.cntL Pl.cntNode (l.take (j + 1)) = Mm.cntL Pl.cntNode (l.take j) + Pl.cntNode x := Mm.cntL_succ hx
      have hc2 := Mm.cntL_take_le HN.out l (j + 1)
      have hc3 := Mm.cntL_nn HN.out (l.take j)
      have hc4 := HN.out x
      have hmg := Mm.mkL_get (mk := Pl.mkNode) (cnt := Pl.cntNode) (k := k) hx
      obtain ⟨kj, hkj⟩ : ∃ kj, k + Mm.cntL Pl.cntNode (l.take j) = kj := ⟨_, rfl⟩
      rw [hkj]
      rw [hkj] at hmg
      have hk0 : 1 ≤ kj := by omega
      have hk1 : kj + Pl.cntNode x ≤ 1000000000000 := by omega
      have HX := Lib.hid (And.intro hkj hc1)
      have hBw : B ≤ wr.heap.size := Nat.le_trans hB hbel.size
      obtain ⟨y, b, off, A, n, c, hy, rfl, hb, f0, f1, f2, f3, f4, d0, d1, d2, d3, d4⟩ := rNode_get (HL.out.keep (w' := wr) (fun b hb => hbel.block b (by omega))) hlt
      have hye : y = Pl.mkNode x kj := by rw [hy] at hmg; injection hmg
      rw [hye] at f0 f1 f2 f3 f4 d0 d1 d2 d4
      clear hy hmg hkj hc1 hc2 hc3 hx hye
      have hcx : Pl.cntNode x = 1 + 1 + 1 + (Mm.cntL Pl.cnt1) x.Heard + 1 := rfl
      have hq3 := Mm.cntL_nn (cnt := Pl.cnt1) (Pl.cnt1_nn) x.Heard
      obtain ⟨z3, hz3⟩ : ∃ z, (Mm.cntL Pl.cnt1) x.Heard = z := ⟨_, rfl⟩
      rw [hz3] at hcx hq3
      rw [hcx] at hk1 hc4
      have HCX := Lib.hid hcx
      clear hcx hc4
      have HZ3 := Lib.hid hz3
      clear hz3
      have HF := Lib.hid f3
      have d0' : wr.cell? ⟨b, off + j * 5, none⟩ = some (.int .i64 (kj)) := by exact d0
      clear d0
      have d1' : wr.cell? ⟨b, off + j * 5 + 1, none⟩ = some (.int .i64 ((kj + 1))) := by exact d1
      clear d1
      have d2' : wr.cell? ⟨b, off + j * 5 + 2, none⟩ = some (.int .i64 (((kj + 1) + 1))) := by exact d2
      clear d2
      have d4' : wr.cell? ⟨b, off + j * 5 + 4, none⟩ = some (.int .i64 (((((kj + 1) + 1) + 1) + z3))) := by rw [← HZ3.out]; exact d4
      clear d4
      clear f0 f1 f2 f3 f4
      go_wp2_with fail
      refine (heldIntS_c x.Heard _ _ _ _ _ B (Mm.SlAt.keep (w' := _) HF.out (fun b hb => rfl)) (hBw) (by omega) (by have hz9 := HZ3.out; omega)).mono ?_
      rintro e v1 ⟨rfl, hb1⟩
      rw [HZ3.out]
      have d4__1 := below_some hb1 d4'
      have HB1 := Lib.hid hb1
      clear hb1
      have HW1 := Lib.hid (below_step hbel HB1.out)
      have HV1 := Lib.hid (HB1.out)
      go_wp2
      go_roundw
      case rel =>
        refine ⟨j + 1, by omega, by go_num, ?_, HW1.out⟩
        have h3 := HX.out.1; have h4 := HX.out.2; have h5 := HCX.out
        rw [h4]
        show Value.int .i64 _ = Value.int .i64 _
        congr 1
        omega
      case measure => simp [intOf]; omega
    · have HK : Hid (l.take j = l) := List.take_of_length_le (by have := hlen.out; omega)
      go_wp2
      go_ret
      exact ⟨ret_int (by rw [HK.out]), hbel⟩
set_option maxHeartbeats 2000000 in
theorem heldPoll_c (x : Poll) (cs : List Value) (k : Int) (w : World) (B : Nat) (ha : rPoll.at_ w B (Pl.topPoll x k) cs) (hB : B ≤ w.heap.size) (h0 : 1 ≤ k) (h1 : k + Pl.ctopPoll x ≤ 1000000000000) :
    Calls Try.prog 25 #[.agg cs.toArray, .int .i64 k] w fun e w' => e = .returned (.int .i64 (k + Pl.ctopPoll x)) ∧ Below w.heap.size w w' := by
  obtain ⟨A0, n0, c0, A1, n1, c1, A2, n2, c2, rfl, g0, g1, g2⟩ := rPoll_at ha
  have hq0 := Mm.cntL_nn (cnt := Pl.cntNode) (Pl.cntNode_nn) x.Nodes
  have hq1 := Mm.cntL_nn (cnt := Pl.cntLetter) (Pl.cntLetter_nn) x.Letters
  have hq2 := Mm.cntL_nn (cnt := (Mm.cntL Pl.cnt1)) (Mm.cntL_nn (cnt := Pl.cnt1) (Pl.cnt1_nn)) x.Leaders
  have hct : Pl.ctopPoll x = (Mm.cntL Pl.cntNode) x.Nodes + (Mm.cntL Pl.cntLetter) x.Letters + (Mm.cntL (Mm.cntL Pl.cnt1)) x.Leaders := rfl
  rw [hct] at h1
  have HCT := Lib.hid hct
  clear hct
  have KB := Lib.hid (Mm.Blk.new w 31 [.slice A0 n0 c0, .slice A1 n1 c1, .slice A2 n2 c2])
  have HB := Lib.hid (below_new (Below.refl w.heap.size w) (.cells #[.slice A0 n0 c0, .slice A1 n1 c1, .slice A2 n2 c2] 31))
  have HG := Lib.hid (And.intro hB (And.intro g0 (And.intro g1 g2)))
  clear ha g0 g1 g2
  go_enter Try.func25, Try.ntmps25
  go_wp2_with fail
  refine (heldNodeS_c x.Nodes _ _ _ _ _ B (HG.out.2.1.keep fun b hb => HB.out.block b (Nat.lt_of_lt_of_le hb HG.out.1)) (Nat.le_trans HG.out.1 HB.out.size) (by omega) (by omega)).mono ?_
  rintro e v0 ⟨rfl, hb0⟩
  have HB := Lib.hid (below_step HB.out hb0)
  have KB := Lib.hid (KB.out.bel hb0)
  clear hb0
  have e0_1 := KB.out.cell (i := 1) rfl
  have e0_2 := KB.out.cell (i := 2) rfl
  go_wp2_with fail
  refine (heldLetterS_c x.Letters _ _ _ _ _ B (HG.out.2.2.1.keep fun b hb => HB.out.block b (Nat.lt_of_lt_of_le hb HG.out.1)) (Nat.le_trans HG.out.1 HB.out.size) (by omega) (by omega)).mono ?_
  rintro e v1 ⟨rfl, hb1⟩
  have HB := Lib.hid (below_step HB.out hb1)
  have KB := Lib.hid (KB.out.bel hb1)
  clear hb1
  have e1_2 := KB.out.cell (i := 2) rfl
  go_wp2_with fail
  refine (heldIntSS_c x.Leaders _ _ _ _ _ B (HG.out.2.2.2.keep fun b hb => HB.out.block b (Nat.lt_of_lt_of_le hb HG.out.1)) (Nat.le_trans HG.out.1 HB.out.size) (by omega) (by omega)).mono ?_
  rintro e v2 ⟨rfl, hb2⟩
  have HB := Lib.hid (below_step HB.out hb2)
  have KB := Lib.hid (KB.out.bel hb2)
  clear hb2
  go_wp2
  go_ret
  exact ⟨ret_int (by have := HCT.out; omega), HB.out⟩
end Go.Proofs.Ytkhchfbpmmiopaa

/-
  The laws' own types, opened. No conditions.
-/
namespace Go.Proofs.Ytkhchfbpmmiopaa
theorem opens_IntS : Mm.Opens Try.prog 23 (Mm.slice Mm.int 3) := Mm.opens_slice Try.underlying23 (by kernel_rfl) (by decide) (Mm.opens_int Try.underlying3 (by kernel_rfl))
theorem opens_BoolS : Mm.Opens Try.prog 32 (Mm.slice Mm.bool 4) := Mm.opens_slice Try.underlying32 (by kernel_rfl) (by decide) (Mm.opens_bool Try.underlying4 (by kernel_rfl))
theorem opens_IntSS : Mm.Opens Try.prog 29 (Mm.slice ints 23) := Mm.opens_slice Try.underlying29 (by kernel_rfl) (by decide) opens_IntS
theorem opens_VoteStep : Mm.Opens Try.prog 86 rVoteStep :=
  Mm.opens_map (Mm.opens_struct (E := (Mm.pair Mm.int Mm.int)) Try.underlying86 (by kernel_rfl) (Mm.opensF_cons rfl (Mm.opens_int Try.underlying3 (by kernel_rfl)) (Mm.opensF_one rfl (Mm.opens_int Try.underlying3 (by kernel_rfl))))) rfl
    (fun w B x cs h => by obtain ⟨_, _, rfl, ⟨rfl, h0⟩, ⟨rfl, h1⟩⟩ := h; exact ⟨⟨x.1, x.2⟩, rfl, ⟨h0, h1⟩⟩)
theorem opens_VoteStepS : Mm.Opens Try.prog 44 (Mm.slice rVoteStep 86) := Mm.opens_slice Try.underlying44 (by kernel_rfl) (by decide) opens_VoteStep
end Go.Proofs.Ytkhchfbpmmiopaa
