/-
  Contracts: PlayTell, the reference's (chapter 10). No conditions.
-/
import Derived.Test.YtaepohocabealaaTe
import Derived.Test.YtaepohocabealaaRs
namespace Go.Proofs.Ytaepohocabealaa
open Go.RowKit
attribute [local go_sem] und_cell cha_cell World.cell?_alloc_some
/-- a call hands back a teller by value; beside a bool -/
def gTe (x : Tell) : Mm.Rel := fun _ _ v ds => ∃ A0 c0 A1 c1 A2 c2 A3 c3 A4 c4 fp, v = .agg #[.slice A0 x.Texts.length c0, .slice A1 x.Heard.length c1, .slice A2 x.Line.length c2, .slice A3 x.Log.length c3, .slice A4 x.Next.length c4] ∧ ds = [Mm.tow rTell x [.slice A0 x.Texts.length c0, .slice A1 x.Heard.length c1, .slice A2 x.Line.length c2, .slice A3 x.Log.length c3, .slice A4 x.Next.length c4] fp]
def gTe2 (x : Tell) (b : Bool) : Mm.Rel := fun _ _ v ds => ∃ A0 c0 A1 c1 A2 c2 A3 c3 A4 c4 fp, v = .tuple #[.agg #[.slice A0 x.Texts.length c0, .slice A1 x.Heard.length c1, .slice A2 x.Line.length c2, .slice A3 x.Log.length c3, .slice A4 x.Next.length c4], .bool b] ∧ ds = [Mm.tow rTell x [.slice A0 x.Texts.length c0, .slice A1 x.Heard.length c1, .slice A2 x.Line.length c2, .slice A3 x.Log.length c3, .slice A4 x.Next.length c4] fp]
theorem gTe_in {x : Tell} {vals : List Value} {tk : List Mm.Thing} : ∃ v ds, gTe x vals tk v ds := ⟨_, _, none, 0, none, 0, none, 0, none, 0, none, 0, [], rfl, rfl⟩
theorem gTe2_in {x : Tell} {b : Bool} {vals : List Value} {tk : List Mm.Thing} : ∃ v ds, gTe2 x b vals tk v ds := ⟨_, _, none, 0, none, 0, none, 0, none, 0, none, 0, [], rfl, rfl⟩
theorem own_form {w : World} {x : Tell} {cs : List Value} {fp : List Nat} (h : rTell.own w x cs fp) : ∃ A0 c0 A1 c1 A2 c2 A3 c3 A4 c4, cs = [.slice A0 x.Texts.length c0, .slice A1 x.Heard.length c1, .slice A2 x.Line.length c2, .slice A3 x.Log.length c3, .slice A4 x.Next.length c4] := by
  obtain ⟨A0, n0, c0, A1, n1, c1, A2, n2, c2, A3, n3, c3, A4, n4, c4, f0, f1, f2, f3, f4, rfl, rfl, k0, k1, k2, k3, k4⟩ := rTell_own h
  obtain ⟨_, _, _, e0, g0, _⟩ := k0.form
  obtain ⟨_, _, _, e1, g1, _⟩ := k1.form
  obtain ⟨_, _, _, e2, g2, _⟩ := k2.form
  obtain ⟨_, _, _, e3, g3, _⟩ := k3.form
  obtain ⟨_, _, _, e4, g4, _⟩ := k4.form
  injection e0 with _ e0 _
  injection e1 with _ e1 _
  injection e2 with _ e2 _
  injection e3 with _ e3 _
  injection e4 with _ e4 _
  rw [e0, g0, e1, g1, e2, g2, e3, g3, e4, g4]
  exact ⟨_, _, _, _, _, _, _, _, _, _, rfl⟩
theorem Pl.tstep_no {t : Tell} {s : TellStep} (h : (Pl.tstep t s).2 = false) : (Pl.tstep t s).1 = t := by
  unfold Pl.tstep Pl.tput at *
  by_cases h1 : s.Kind = 1
  · rw [if_pos h1] at h ⊢
    split
    · rename_i hc; rw [if_pos hc] at h; cases h
    · rfl
  · rw [if_neg h1] at h ⊢
    by_cases h2 : s.Text.size ≠ 0 ∨ s.K < 0
    · rw [if_pos h2]
    · rw [if_neg h2] at h ⊢
      by_cases h3 : s.Kind = 2
      · rw [if_pos h3] at h ⊢
        split
        · rename_i hc; rw [if_pos hc] at h; cases h
        · rfl
      · rw [if_neg h3] at h ⊢
        split
        · rename_i hc
          rw [if_pos hc] at h
          by_cases h5 : s.Kind = 5
          · rw [if_pos h5] at h ⊢
            split
            · rfl
            · rename_i hl; rw [if_neg hl] at h; cases h
          · rw [if_neg h5] at h
            split at h <;> cases h
        · rfl
set_option maxRecDepth 100000 in
set_option maxHeartbeats 4000000 in
theorem specPlayTell_c (m : Int) (l : List TellStep) (A : Option Addr) (n c : Nat) (w : World) (B : Nat) (hl : Mm.SlAt rTellStep w B l A n c) (hB : B ≤ w.heap.size) :
    Calls Try.prog 10 #[.int .i64 m, .slice A n c] w (PlayAns (Pl.playTell m l) w) := by
  have hn : n ≤ maxLen := Nat.le_trans hl.2.1 hl.2.2.1
  have hlen := hl.1
  have HL := Lib.hid hl
  clear hl
  unfold maxLen at hn
  have KS0 := Lib.hid ((Mm.SepF.start w).alloc' rfl 31 zTell)
  by_cases hin : Pl.isIn m 1 4 = true
  · have HQ : Hid (Pl.newTell m = (Pl.newTe m.toNat, true)) := if_pos hin
    by_cases h150 : n ≤ 150
    · have HF : Hid (Pl.playTell m l = ((Pl.playL (Pl.newTe m.toNat) l).1, (Pl.playL (Pl.newTe m.toNat) l).2, true)) := if_pos ⟨hin, by omega⟩
      have hin' := hin
      unfold Pl.isIn at hin'
      simp only [Bool.and_eq_true, decide_eq_true_eq] at hin'
      obtain ⟨q, rfl⟩ : ∃ q : Nat, m = q := ⟨m.toNat, by omega⟩
      have h1 : 1 ≤ q := by omega
      have h3 : q ≤ 4 := by omega
      rw [show ((q : Nat) : Int).toNat = q by omega] at HF HQ
      clear hin'
      have f1 : decide ((150 : Int) < ((n : Nat) : Int)) = false := by simp; omega
      have HLN := Lib.hid hlen
      clear hlen
      obtain ⟨i0, hi, hz0, hz1, hz2⟩ := info_parts Try.infoBool
      have HW0 := Lib.hid (Pl.newTe_wf h3)
      go_enter Try.func10, Try.ntmps10
      go_wp2_with (go_at_call 28; (with_reducible refine (specNewTell_c _ _).mono ?_); rintro e w1 ⟨cs1, fp1, rfl, ho, hnd, hnew, hb⟩; rw [HQ.out] at ho; rw [HQ.out]; obtain ⟨A0, c0, A1, c1, A2, c2, A3, c3, A4, c4, rfl⟩ := own_form ho; (have KS1 := Lib.hid (KS0.out.add hb (t := Mm.tow rTell (Pl.newTe q) _ _) ho hnd hnew)); clear ho hnd hnew hb)
      have KS2 := Lib.hid ((KS1.out.alloc' rfl 31 [.slice A0 (Pl.newTe q).Texts.length c0, .slice A1 (Pl.newTe q).Heard.length c1, .slice A2 (Pl.newTe q).Line.length c2, .slice A3 (Pl.newTe q).Log.length c3, .slice A4 (Pl.newTe q).Next.length c4]).add (Below.refl _ _) (t := Mm.tsl Mm.bool 4 [] (.slice none 0 0) []) Mm.SlOwn.nil List.nodup_nil (fun b hb => by cases hb))
      obtain ⟨g7, hg7⟩ : ∃ g7, w1.heap.size = g7 := ⟨_, rfl⟩
      obtain ⟨gr, hgr⟩ : ∃ gr, w.heap.size = gr := ⟨_, rfl⟩
      have HBR := Lib.hid (show B ≤ w.heap.size from hB)
      rw [hg7] at KS2
      rw [hgr] at KS2
      rw [hg7, hgr]
      have HG7 := Lib.hid hg7
      have HGR := Lib.hid hgr
      clear hg7 hgr KS0 KS1 hB
      go_loopg [9, 29] n (fun g d i wr => ∃ (k : Nat) (A' : Option Addr) (c' : Nat) (fpt fpd : List Nat) (A0 : Option Addr) (c0 : Nat) (A1 : Option Addr) (c1 : Nat) (A2 : Option Addr) (c2 : Nat) (A3 : Option Addr) (c3 : Nat) (A4 : Option Addr) (c4 : Nat), n - k ≤ g ∧ k ≤ n ∧ d = .slice A' k c' ∧ i = .int .i64 k ∧ Hid (∃ x : Tell, x = (Pl.playL (Pl.newTe q) (l.take k)).1 ∧ Mm.SepF [] w wr [Mm.tsl Mm.bool 4 (Pl.playL (Pl.newTe q) (l.take k)).2 (.slice A' k c') fpd, Mm.tblk g7 31 [.slice A0 x.Texts.length c0, .slice A1 x.Heard.length c1, .slice A2 x.Line.length c2, .slice A3 x.Log.length c3, .slice A4 x.Next.length c4], Mm.tow rTell x [.slice A0 x.Texts.length c0, .slice A1 x.Heard.length c1, .slice A2 x.Line.length c2, .slice A3 x.Log.length c3, .slice A4 x.Next.length c4] fpt, Mm.tblk gr 31 zTell]))
      case atStart => exact ⟨0, none, 0, _, _, A0, c0, A1, c1, A2, c2, A3, c3, A4, c4, Nat.le_refl _, Nat.zero_le _, rfl, rfl, Lib.hid ⟨_, rfl, KS2.out⟩⟩
      case round =>
        clear KS2
        obtain ⟨k, A', c', fpt, fpd, A0, c0, A1, c1, A2, c2, A3, c3, A4, c4, hgk, hk', rfl, rfl, HS'⟩ := hrel
        obtain ⟨x, hx0, hS'⟩ := HS'.out
        clear HS'
        have HS := Lib.hid hS'
        clear hS'
        have hbel := HS.out.bel0
        have hlk := List.length_take_of_le (l := l) (i := k) (by rw [HLN.out]; omega)
        have hwf := Pl.playL_wf (Pl.newTe q) HW0.out k (l.take k) hlk
        rw [← hx0] at hwf
        have HWF := Lib.hid hwf.1
        have HPL := Lib.hid hwf.2
        clear hwf hlk
        obtain ⟨dl, hp⟩ : ∃ dl, Pl.playL (Pl.newTe q) (l.take k) = (x, dl) := ⟨_, by rw [hx0]⟩
        rw [hp] at HS HPL
        have HP := Lib.hid hp
        clear hp hx0
        by_cases hlt : k < n
        · obtain ⟨s, b0, off, hx, rfl, hb, g0', g1', g2', e0, e1, e2⟩ := rTellStep_get HL.out hlt
          have HN : Hid (Pl.playL (Pl.newTe q) (l.take (k + 1)) = ((Pl.tstep x s).1, dl ++ [(Pl.tstep x s).2])) := by
            show _ = _
            rw [Mm.take_succ_some hx, Pl.playL_snoc, HP.out]
          have HNO := Lib.hid (@Pl.tstep_no x s)
          obtain ⟨r, hr⟩ : ∃ r, Pl.tstep x s = r := ⟨_, rfl⟩
          rw [hr] at HN HNO
          have HR := Lib.hid hr
          have HSW := Lib.hid (And.intro g1' g2')
          have hlt' : ((k : Nat) : Int) < ((n : Nat) : Int) := by omega
          have hb0 : b0 < w.heap.size := by have := HBR.out; omega
          replace e0 := below_some hbel e0
          replace e1 := below_some hbel e1
          replace e2 := below_some hbel e2
          obtain ⟨t', is⟩ := r
          clear hx g0' g1' g2' hr
          cases is with
          | true =>
            have u0 := HS.out.cell (k := 0) 1 rfl rfl
            have u1 := HS.out.cell (k := 1) 1 rfl rfl
            have u2 := HS.out.cell (k := 2) 1 rfl rfl
            have u3 := HS.out.cell (k := 3) 1 rfl rfl
            have u4 := HS.out.cell (k := 4) 1 rfl rfl
            go_wp2
            obtain ⟨gs, hgs⟩ : ∃ gs, wr.heap.size = gs := ⟨_, rfl⟩
            obtain ⟨W1, hW1⟩ : ∃ W1, wr.alloc (.cells #[.int .i64 s.Kind, .int .i64 s.K, .string s.Text] 46) = W1 := ⟨_, rfl⟩
            have HS1 := Lib.hid ((HS.out.alloc' hgs 46 [.int .i64 s.Kind, .int .i64 s.K, .string s.Text]).atW hW1)
            rw [hW1, hgs]
            clear hW1 hgs e0 e1 e2 u0 u1 u2 u3 u4
            have u0 := HS1.out.cell (k := 0) 2 rfl rfl
            have u1 := HS1.out.cell (k := 1) 2 rfl rfl
            have u2 := HS1.out.cell (k := 2) 2 rfl rfl
            have u3 := HS1.out.cell (k := 3) 2 rfl rfl
            have u4 := HS1.out.cell (k := 4) 2 rfl rfl
            have c0' := HS1.out.cell (k := 0) 0 rfl rfl
            have c1' := HS1.out.cell (k := 1) 0 rfl rfl
            have c2' := HS1.out.cell (k := 2) 0 rfl rfl
            refine Mm.wp_region_give 9 (fun i => match i with | 1 => some (gTe x) | 3 => some (gTe2 t' true) | 7 => some (Mm.gPtr 31 zTell) | 8 => some (Mm.gSto 31) | _ => none) (fun i => match i with | 3 => [1] | 8 => [7] | _ => []) (fun _ => []) (F := []) (D := fun w' => ∃ x : Und W1, w' = und W1 x) (fun X us h => Mm.sep_und h) (by kernel_rfl) (by kernel_rfl) (by kernel_rfl) (Mm.SepF.startDrew _) ?_
            repeat (refine Mm.give_det (by rfl) (by rfl) (by rfl) (fun K hK => ?_); go_big_quiet_op; refine hK _ ?_; clear hK K)
            refine Mm.give_op0 35 (by rfl) rfl (by rfl) (by rfl) (by rfl) (by rfl) gTe_in (fun others X hX => ?_) ?_
            · go_wp2_with (go_at_call 51; refine (l10Own_c x _ X W1.heap.size (rTell.keep (HS1.out.rd 3 rfl) (fun b hb => hX.bel0.block b hb)) hX.chg.size HWF.out.sz).mono ?_; rintro e w5 ⟨cs5, fp5, rfl, ho, hnd, hnew, hb5⟩; obtain ⟨a0, k0, a1, k1, a2, k2, a3, k3, a4, k4, rfl⟩ := own_form ho)
              exact ⟨rfl, rfl, _, ⟨a0, k0, a1, k1, a2, k2, a3, k3, a4, k4, fp5, rfl, rfl⟩, hX.add hb5 (t := Mm.tow rTell x _ _) ho hnd hnew⟩
            rintro v ds ⟨a0, k0, a1, k1, a2, k2, a3, k3, a4, k4, fp5, rfl, rfl⟩
            simp only [Act.put, List.setIfInBounds_toArray, List.set_cons_succ, List.set_cons_zero]
            repeat (refine Mm.give_det (by rfl) (by rfl) (by rfl) (fun K hK => ?_); go_big_quiet_op; refine hK _ ?_; clear hK K)
            refine Mm.give_op1 37 1 (by rfl) rfl (by rfl) (by rfl) (by rfl) rfl (by rfl) _ rfl gTe2_in (fun others X hX => ?_) ?_
            · go_wp2_with (go_at_call 50; refine (l10Step_c x s _ fp5 X (hX.at_ 0 rfl) (hX.ndat (i := 0) rfl) HSW.out HWF.out).mono ?_; rintro e w6 ⟨cs6, fp6, rfl, hL⟩; rw [HR.out] at hL; rw [HR.out])
              have h9 := hX.call 0 rfl hL
              obtain ⟨a0, k0, a1, k1, a2, k2, a3, k3, a4, k4, rfl⟩ := own_form (h9.at_ 0 rfl)
              exact ⟨rfl, rfl, _, ⟨a0, k0, a1, k1, a2, k2, a3, k3, a4, k4, fp6, rfl, rfl⟩, h9⟩

            rintro v ds ⟨a0, k0, a1, k1, a2, k2, a3, k3, a4, k4, fp6, rfl, rfl⟩
            simp only [Act.put, List.setIfInBounds_toArray, List.set_cons_succ, List.set_cons_zero]
            repeat (refine Mm.give_det (by rfl) (by rfl) (by rfl) (fun K hK => ?_); go_big_quiet_op; refine hK _ ?_; clear hK K)
            refine Mm.give_op0 12 (by rfl) rfl (by rfl) (by rfl) (by rfl) (by rfl) Mm.gPtr_in (fun others X hX => ?_) ?_
            · go_wp2
              exact Mm.gvq_ptr hX rfl rfl rfl
            rintro v ds ⟨gp, rfl, rfl⟩
            simp only [Act.put, List.setIfInBounds_toArray, List.set_cons_succ, List.set_cons_zero]
            refine Mm.give_store 31 gp zTell [.slice a0 t'.Texts.length k0, .slice a1 t'.Heard.length k1, .slice a2 t'.Line.length k2, .slice a3 t'.Log.length k3, .slice a4 t'.Next.length k4] 7 (by rfl) rfl rfl (by rfl) rfl (by rfl) rfl rfl (fun others X hX => ?_) ?_
            · have HSR := Lib.hid hX
              have r0 := HSR.out.cell (k := 0) 0 rfl rfl
              have r1 := HSR.out.cell (k := 1) 0 rfl rfl
              have r2 := HSR.out.cell (k := 2) 0 rfl rfl
              have r3 := HSR.out.cell (k := 3) 0 rfl rfl
              have r4 := HSR.out.cell (k := 4) 0 rfl rfl
              have z0 := HSR.out.frz (k := 0) 0 rfl
              have z1 := HSR.out.frz (k := 1) 0 rfl
              have z2 := HSR.out.frz (k := 2) 0 rfl
              have z3 := HSR.out.frz (k := 3) 0 rfl
              have z4 := HSR.out.frz (k := 4) 0 rfl
              go_wp2
              exact ⟨rfl, rfl, _, rfl, (((((hX.setBlk (k := 0) 0 rfl (.slice a0 t'.Texts.length k0)).setBlk (k := 1) 0 rfl (.slice a1 t'.Heard.length k1)).setBlk (k := 2) 0 rfl (.slice a2 t'.Line.length k2)).setBlk (k := 3) 0 rfl (.slice a3 t'.Log.length k3)).setBlk (k := 4) 0 rfl (.slice a4 t'.Next.length k4))⟩
            refine Mm.give_nil ?_
            rintro X hX
            have HS3 := Lib.hid (HS1.out.join (us := [Mm.tow rTell t' [.slice a0 t'.Texts.length k0, .slice a1 t'.Heard.length k1, .slice a2 t'.Line.length k2, .slice a3 t'.Log.length k3, .slice a4 t'.Next.length k4] fp6, Mm.tblk gp 31 [.slice a0 t'.Texts.length k0, .slice a1 t'.Heard.length k1, .slice a2 t'.Line.length k2, .slice a3 t'.Log.length k3, .slice a4 t'.Next.length k4]]) hX)
            clear hX u0 u1 u2 u3 u4 c0' c1' c2'
            have u0 := HS3.out.cell (k := 0) 1 rfl rfl
            have u1 := HS3.out.cell (k := 1) 1 rfl rfl
            have u2 := HS3.out.cell (k := 2) 1 rfl rfl
            have u3 := HS3.out.cell (k := 3) 1 rfl rfl
            have u4 := HS3.out.cell (k := 4) 1 rfl rfl
            have r0 := HS3.out.cell (k := 0) 4 rfl rfl
            have r1 := HS3.out.cell (k := 1) 4 rfl rfl
            have r2 := HS3.out.cell (k := 2) 4 rfl rfl
            have r3 := HS3.out.cell (k := 3) 4 rfl rfl
            have r4 := HS3.out.cell (k := 4) 4 rfl rfl
            have z0 := HS3.out.frz (k := 0) 4 rfl
            have z1 := HS3.out.frz (k := 1) 4 rfl
            have z2 := HS3.out.frz (k := 2) 4 rfl
            have z3 := HS3.out.frz (k := 3) 4 rfl
            have z4 := HS3.out.frz (k := 4) 4 rfl
            have HS4 := Lib.hid (((((HS3.out.setBlk (k := 0) 4 rfl (.slice a0 t'.Texts.length k0)).setBlk (k := 1) 4 rfl (.slice a1 t'.Heard.length k1)).setBlk (k := 2) 4 rfl (.slice a2 t'.Line.length k2)).setBlk (k := 3) 4 rfl (.slice a3 t'.Log.length k3)).setBlk (k := 4) 4 rfl (.slice a4 t'.Next.length k4))
            go_upto_region 11 with fail
            clear r0 r1 r2 r3 r4 z0 z1 z2 z3 z4 u0 u1 u2 u3 u4
            obtain ⟨W4, hW4⟩ : ∃ W4, ((((X.setCell ⟨g7, 0, none⟩ (.slice a0 t'.Texts.length k0)).setCell ⟨g7, 1, none⟩ (.slice a1 t'.Heard.length k1)).setCell ⟨g7, 2, none⟩ (.slice a2 t'.Line.length k2)).setCell ⟨g7, 3, none⟩ (.slice a3 t'.Log.length k3)).setCell ⟨g7, 4, none⟩ (.slice a4 t'.Next.length k4) = W4 := ⟨_, rfl⟩
            rw [hW4] at HS4 ⊢
            clear hW4
            go_wp2_with (at_builtin; refine Mm.app_list HS4.out 3 rfl rfl (.tmp 42) (.tmp 44) 32 rfl i0 _ 1 Try.underlying32 hi hz0 hz1 hz2 rfl (by decide) rfl rfl (fun W => Mm.own_bool) HPL.out (by unfold maxLen; omega) (by omega) ?_; intro g cap w' fp' hs; (have HS5 := Lib.hid hs); clear hs)
            go_roundg (n - (k + 1))
            case measure => omega
            case rel => exact ⟨k + 1, _, cap, _, fp', a0, k0, a1, k1, a2, k2, a3, k3, a4, k4, Nat.le_refl _, by omega, rfl, by go_num, Lib.hid ⟨t', by rw [HN.out], by rw [HN.out]; exact HS5.out.sel [3, 4, 0, 6] (by decide) rfl⟩⟩
          | false =>
            obtain rfl : t' = x := HNO.out rfl
            have u0 := HS.out.cell (k := 0) 1 rfl rfl
            have u1 := HS.out.cell (k := 1) 1 rfl rfl
            have u2 := HS.out.cell (k := 2) 1 rfl rfl
            have u3 := HS.out.cell (k := 3) 1 rfl rfl
            have u4 := HS.out.cell (k := 4) 1 rfl rfl
            go_wp2
            obtain ⟨gs, hgs⟩ : ∃ gs, wr.heap.size = gs := ⟨_, rfl⟩
            obtain ⟨W1, hW1⟩ : ∃ W1, wr.alloc (.cells #[.int .i64 s.Kind, .int .i64 s.K, .string s.Text] 46) = W1 := ⟨_, rfl⟩
            have HS1 := Lib.hid ((HS.out.alloc' hgs 46 [.int .i64 s.Kind, .int .i64 s.K, .string s.Text]).atW hW1)
            rw [hW1, hgs]
            clear hW1 hgs e0 e1 e2 u0 u1 u2 u3 u4
            have u0 := HS1.out.cell (k := 0) 2 rfl rfl
            have u1 := HS1.out.cell (k := 1) 2 rfl rfl
            have u2 := HS1.out.cell (k := 2) 2 rfl rfl
            have u3 := HS1.out.cell (k := 3) 2 rfl rfl
            have u4 := HS1.out.cell (k := 4) 2 rfl rfl
            have c0' := HS1.out.cell (k := 0) 0 rfl rfl
            have c1' := HS1.out.cell (k := 1) 0 rfl rfl
            have c2' := HS1.out.cell (k := 2) 0 rfl rfl
            refine Mm.wp_region_give 9 (fun i => match i with | 1 => some (gTe t') | 3 => some (gTe2 t' false) | 7 => some (Mm.gPtr 31 zTell) | 8 => some (Mm.gSto 31) | _ => none) (fun i => match i with | 3 => [1] | 8 => [7] | _ => []) (fun _ => []) (F := []) (D := fun w' => ∃ t' : Und W1, w' = und W1 t') (fun X us h => Mm.sep_und h) (by kernel_rfl) (by kernel_rfl) (by kernel_rfl) (Mm.SepF.startDrew _) ?_
            repeat (refine Mm.give_det (by rfl) (by rfl) (by rfl) (fun K hK => ?_); go_big_quiet_op; refine hK _ ?_; clear hK K)
            refine Mm.give_op0 35 (by rfl) rfl (by rfl) (by rfl) (by rfl) (by rfl) gTe_in (fun others X hX => ?_) ?_
            · go_wp2_with (go_at_call 51; refine (l10Own_c t' _ X W1.heap.size (rTell.keep (HS1.out.rd 3 rfl) (fun b hb => hX.bel0.block b hb)) hX.chg.size HWF.out.sz).mono ?_; rintro e w5 ⟨cs5, fp5, rfl, ho, hnd, hnew, hb5⟩; obtain ⟨a0, k0, a1, k1, a2, k2, a3, k3, a4, k4, rfl⟩ := own_form ho)
              exact ⟨rfl, rfl, _, ⟨a0, k0, a1, k1, a2, k2, a3, k3, a4, k4, fp5, rfl, rfl⟩, hX.add hb5 (t := Mm.tow rTell t' _ _) ho hnd hnew⟩
            rintro v ds ⟨a0, k0, a1, k1, a2, k2, a3, k3, a4, k4, fp5, rfl, rfl⟩
            simp only [Act.put, List.setIfInBounds_toArray, List.set_cons_succ, List.set_cons_zero]
            repeat (refine Mm.give_det (by rfl) (by rfl) (by rfl) (fun K hK => ?_); go_big_quiet_op; refine hK _ ?_; clear hK K)
            refine Mm.give_op1 37 1 (by rfl) rfl (by rfl) (by rfl) (by rfl) rfl (by rfl) _ rfl gTe2_in (fun others X hX => ?_) ?_
            · go_wp2_with (go_at_call 50; refine (l10Step_c t' s _ fp5 X (hX.at_ 0 rfl) (hX.ndat (i := 0) rfl) HSW.out HWF.out).mono ?_; rintro e w6 ⟨cs6, fp6, rfl, hL⟩; rw [HR.out] at hL; rw [HR.out])
              have h9 := hX.call 0 rfl hL
              obtain ⟨a0, k0, a1, k1, a2, k2, a3, k3, a4, k4, rfl⟩ := own_form (h9.at_ 0 rfl)
              exact ⟨rfl, rfl, _, ⟨a0, k0, a1, k1, a2, k2, a3, k3, a4, k4, fp6, rfl, rfl⟩, h9⟩

            rintro v ds ⟨a0, k0, a1, k1, a2, k2, a3, k3, a4, k4, fp6, rfl, rfl⟩
            simp only [Act.put, List.setIfInBounds_toArray, List.set_cons_succ, List.set_cons_zero]
            repeat (refine Mm.give_det (by rfl) (by rfl) (by rfl) (fun K hK => ?_); go_big_quiet_op; refine hK _ ?_; clear hK K)
            refine Mm.give_op0 12 (by rfl) rfl (by rfl) (by rfl) (by rfl) (by rfl) Mm.gPtr_in (fun others X hX => ?_) ?_
            · go_wp2
              exact Mm.gvq_ptr hX rfl rfl rfl
            rintro v ds ⟨gp, rfl, rfl⟩
            simp only [Act.put, List.setIfInBounds_toArray, List.set_cons_succ, List.set_cons_zero]
            refine Mm.give_store 31 gp zTell [.slice a0 t'.Texts.length k0, .slice a1 t'.Heard.length k1, .slice a2 t'.Line.length k2, .slice a3 t'.Log.length k3, .slice a4 t'.Next.length k4] 7 (by rfl) rfl rfl (by rfl) rfl (by rfl) rfl rfl (fun others X hX => ?_) ?_
            · have HSR := Lib.hid hX
              have r0 := HSR.out.cell (k := 0) 0 rfl rfl
              have r1 := HSR.out.cell (k := 1) 0 rfl rfl
              have r2 := HSR.out.cell (k := 2) 0 rfl rfl
              have r3 := HSR.out.cell (k := 3) 0 rfl rfl
              have r4 := HSR.out.cell (k := 4) 0 rfl rfl
              have z0 := HSR.out.frz (k := 0) 0 rfl
              have z1 := HSR.out.frz (k := 1) 0 rfl
              have z2 := HSR.out.frz (k := 2) 0 rfl
              have z3 := HSR.out.frz (k := 3) 0 rfl
              have z4 := HSR.out.frz (k := 4) 0 rfl
              go_wp2
              exact ⟨rfl, rfl, _, rfl, (((((hX.setBlk (k := 0) 0 rfl (.slice a0 t'.Texts.length k0)).setBlk (k := 1) 0 rfl (.slice a1 t'.Heard.length k1)).setBlk (k := 2) 0 rfl (.slice a2 t'.Line.length k2)).setBlk (k := 3) 0 rfl (.slice a3 t'.Log.length k3)).setBlk (k := 4) 0 rfl (.slice a4 t'.Next.length k4))⟩
            refine Mm.give_nil ?_
            rintro X hX
            have HS3 := Lib.hid (HS1.out.join (us := [Mm.tow rTell t' [.slice a0 t'.Texts.length k0, .slice a1 t'.Heard.length k1, .slice a2 t'.Line.length k2, .slice a3 t'.Log.length k3, .slice a4 t'.Next.length k4] fp6, Mm.tblk gp 31 [.slice a0 t'.Texts.length k0, .slice a1 t'.Heard.length k1, .slice a2 t'.Line.length k2, .slice a3 t'.Log.length k3, .slice a4 t'.Next.length k4]]) hX)
            clear hX u0 u1 u2 u3 u4 c0' c1' c2'
            go_upto_region 11 with fail
            go_wp2_with (at_builtin; refine Mm.app_list HS3.out 3 rfl rfl (.tmp 42) (.tmp 44) 32 rfl i0 _ 1 Try.underlying32 hi hz0 hz1 hz2 rfl (by decide) rfl rfl (fun W => Mm.own_bool) HPL.out (by unfold maxLen; omega) (by omega) ?_; intro g cap w' fp' hs; (have HS5 := Lib.hid hs); clear hs)
            go_roundg (n - (k + 1))
            case measure => omega
            case rel => exact ⟨k + 1, _, cap, _, fp', A0, c0, A1, c1, A2, c2, A3, c3, A4, c4, Nat.le_refl _, by omega, rfl, by go_num, Lib.hid ⟨t', by rw [HN.out], by rw [HN.out]; exact HS5.out.sel [3, 4, 5, 6] (by decide) rfl⟩⟩
        · obtain rfl : k = n := by omega
          have HE : Hid (l.take k = l) := List.take_of_length_le (by rw [HLN.out]; exact Nat.le_refl _)
          have hlt' : ¬ ((k : Nat) : Int) < ((k : Nat) : Int) := by omega
          rw [HE.out] at HP
          rw [HP.out] at HF
          have u0 := HS.out.cell (k := 0) 1 rfl rfl
          have u1 := HS.out.cell (k := 1) 1 rfl rfl
          have u2 := HS.out.cell (k := 2) 1 rfl rfl
          have u3 := HS.out.cell (k := 3) 1 rfl rfl
          have u4 := HS.out.cell (k := 4) 1 rfl rfl
          go_wp2_with (go_at_call 51; refine (l10Own_c x _ _ wr.heap.size (HS.out.rd 2 rfl) (Nat.le_refl _) HWF.out.sz).mono ?_; rintro e w5 ⟨cs5, fp5, rfl, ho, hnd, hnew, hb5⟩; obtain ⟨a0, k0, a1, k1, a2, k2, a3, k3, a4, k4, rfl⟩ := own_form ho; (have HSR := Lib.hid (HS.out.add hb5 (t := Mm.tow rTell x _ _) ho hnd hnew)); clear ho hnd hnew hb5; (have r0 := HSR.out.cell (k := 0) 4 rfl rfl); (have r1 := HSR.out.cell (k := 1) 4 rfl rfl); (have r2 := HSR.out.cell (k := 2) 4 rfl rfl); (have r3 := HSR.out.cell (k := 3) 4 rfl rfl); (have r4 := HSR.out.cell (k := 4) 4 rfl rfl); (have z0 := HSR.out.frz (k := 0) 4 rfl); (have z1 := HSR.out.frz (k := 1) 4 rfl); (have z2 := HSR.out.frz (k := 2) 4 rfl); (have z3 := HSR.out.frz (k := 3) 4 rfl); (have z4 := HSR.out.frz (k := 4) 4 rfl))
          have HSF := Lib.hid (((((HSR.out.setBlk (k := 0) 4 rfl (.slice a0 x.Texts.length k0)).setBlk (k := 1) 4 rfl (.slice a1 x.Heard.length k1)).setBlk (k := 2) 4 rfl (.slice a2 x.Line.length k2)).setBlk (k := 3) 4 rfl (.slice a3 x.Log.length k3)).setBlk (k := 4) 4 rfl (.slice a4 x.Next.length k4))
          have q0 := HSF.out.cell (k := 0) 4 rfl rfl
          have q1 := HSF.out.cell (k := 1) 4 rfl rfl
          have q2 := HSF.out.cell (k := 2) 4 rfl rfl
          have q3 := HSF.out.cell (k := 3) 4 rfl rfl
          have q4 := HSF.out.cell (k := 4) 4 rfl rfl
          exact bodyPost_ret (v := .tuple #[.agg #[.slice a0 x.Texts.length k0, .slice a1 x.Heard.length k1, .slice a2 x.Line.length k2, .slice a3 x.Log.length k3, .slice a4 x.Next.length k4], .slice A' k c', .bool true]) (by simp [results, Try.results10, go_sem, q0, q1, q2, q3, q4]) rfl ⟨_, A', k, c', _, _, by rw [HF.out], by rw [HF.out]; exact HSF.out.sel [0, 1] (by decide) rfl⟩
    · have HF : Hid (Pl.playTell m l = (Pl.zTe, [], false)) := if_neg (by omega)
      have f1 : decide ((150 : Int) < ((n : Nat) : Int)) = true := by simp; omega
      have HLN := Lib.hid hlen
      clear hlen
      go_enter Try.func10, Try.ntmps10
      go_wp2_with (go_at_call 28; (with_reducible refine (specNewTell_c _ _).mono ?_); rintro e w1 ⟨cs1, fp1, rfl, ho, hnd, hnew, hb⟩; rw [HQ.out] at ho; rw [HQ.out]; obtain ⟨A0, c0, A1, c1, A2, c2, A3, c3, A4, c4, rfl⟩ := own_form ho; (have HSR := Lib.hid ((KS0.out.add hb (t := Mm.tow rTell (Pl.newTe m.toNat) _ _) ho hnd hnew).alloc' rfl 31 [.slice A0 (Pl.newTe m.toNat).Texts.length c0, .slice A1 (Pl.newTe m.toNat).Heard.length c1, .slice A2 (Pl.newTe m.toNat).Line.length c2, .slice A3 (Pl.newTe m.toNat).Log.length c3, .slice A4 (Pl.newTe m.toNat).Next.length c4])); clear ho hnd hnew hb; (have r0 := HSR.out.cell (k := 0) 2 rfl rfl); (have r1 := HSR.out.cell (k := 1) 2 rfl rfl); (have r2 := HSR.out.cell (k := 2) 2 rfl rfl); (have r3 := HSR.out.cell (k := 3) 2 rfl rfl); (have r4 := HSR.out.cell (k := 4) 2 rfl rfl); (have z0 := HSR.out.frz (k := 0) 2 rfl); (have z1 := HSR.out.frz (k := 1) 2 rfl); (have z2 := HSR.out.frz (k := 2) 2 rfl); (have z3 := HSR.out.frz (k := 3) 2 rfl); (have z4 := HSR.out.frz (k := 4) 2 rfl))
      rw [HF.out]
      have HSF := Lib.hid (((((HSR.out.setBlk (k := 0) 2 rfl (.slice none 0 0)).setBlk (k := 1) 2 rfl (.slice none 0 0)).setBlk (k := 2) 2 rfl (.slice none 0 0)).setBlk (k := 3) 2 rfl (.slice none 0 0)).setBlk (k := 4) 2 rfl (.slice none 0 0))
      have q0 := HSF.out.cell (k := 0) 2 rfl rfl
      have q1 := HSF.out.cell (k := 1) 2 rfl rfl
      have q2 := HSF.out.cell (k := 2) 2 rfl rfl
      have q3 := HSF.out.cell (k := 3) 2 rfl rfl
      have q4 := HSF.out.cell (k := 4) 2 rfl rfl
      exact bodyPost_ret (v := .tuple #[.agg zTell.toArray, .slice none 0 0, .bool false]) (by simp [results, Try.results10, go_sem, zTell, q0, q1, q2, q3, q4]) rfl (playNo HSF.out.bel0)
  · have HQ : Hid (Pl.newTell m = (Pl.zTe, false)) := if_neg hin
    have HF : Hid (Pl.playTell m l = (Pl.zTe, [], false)) := if_neg (fun h => hin h.1)
    have HLN := Lib.hid hlen
    clear hlen hin
    go_enter Try.func10, Try.ntmps10
    go_wp2_with (go_at_call 28; (with_reducible refine (specNewTell_c _ _).mono ?_); rintro e w1 ⟨cs1, fp1, rfl, ho, hnd, hnew, hb⟩; rw [HQ.out] at ho; rw [HQ.out]; obtain ⟨A0, c0, A1, c1, A2, c2, A3, c3, A4, c4, rfl⟩ := own_form ho; (have HSR := Lib.hid ((KS0.out.add hb (t := Mm.tow rTell Pl.zTe _ _) ho hnd hnew).alloc' rfl 31 [.slice A0 Pl.zTe.Texts.length c0, .slice A1 Pl.zTe.Heard.length c1, .slice A2 Pl.zTe.Line.length c2, .slice A3 Pl.zTe.Log.length c3, .slice A4 Pl.zTe.Next.length c4])); clear ho hnd hnew hb; (have r0 := HSR.out.cell (k := 0) 2 rfl rfl); (have r1 := HSR.out.cell (k := 1) 2 rfl rfl); (have r2 := HSR.out.cell (k := 2) 2 rfl rfl); (have r3 := HSR.out.cell (k := 3) 2 rfl rfl); (have r4 := HSR.out.cell (k := 4) 2 rfl rfl); (have z0 := HSR.out.frz (k := 0) 2 rfl); (have z1 := HSR.out.frz (k := 1) 2 rfl); (have z2 := HSR.out.frz (k := 2) 2 rfl); (have z3 := HSR.out.frz (k := 3) 2 rfl); (have z4 := HSR.out.frz (k := 4) 2 rfl))
    rw [HF.out]
    have HSF := Lib.hid (((((HSR.out.setBlk (k := 0) 2 rfl (.slice none 0 0)).setBlk (k := 1) 2 rfl (.slice none 0 0)).setBlk (k := 2) 2 rfl (.slice none 0 0)).setBlk (k := 3) 2 rfl (.slice none 0 0)).setBlk (k := 4) 2 rfl (.slice none 0 0))
    have q0 := HSF.out.cell (k := 0) 2 rfl rfl
    have q1 := HSF.out.cell (k := 1) 2 rfl rfl
    have q2 := HSF.out.cell (k := 2) 2 rfl rfl
    have q3 := HSF.out.cell (k := 3) 2 rfl rfl
    have q4 := HSF.out.cell (k := 4) 2 rfl rfl
    exact bodyPost_ret (v := .tuple #[.agg zTell.toArray, .slice none 0 0, .bool false]) (by simp [results, Try.results10, go_sem, zTell, q0, q1, q2, q3, q4]) rfl (playNo HSF.out.bel0)
end Go.Proofs.Ytaepohocabealaa
