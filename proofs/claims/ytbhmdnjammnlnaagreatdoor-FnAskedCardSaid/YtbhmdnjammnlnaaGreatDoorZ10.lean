/-
  Joined texts, in build order: Y2, M7, Y3, Y4, Y5, Y6, Y7, Y8, Y9, Yb, Ya, Yc, Yd, LwN, Yf, Yg, Ye. Each part says what it proves; no conditions beyond those that a part names.
-/
import Derived.Test.YtbhmdnjammnlnaaGreatDoorZ01
import Derived.Test.YtbhmdnjammnlnaaGreatDoorZ03
import Derived.Test.YtbhmdnjammnlnaaGreatDoorZ04
import Derived.Test.YtbhmdnjammnlnaaGreatDoorZ09
import Derived.Deep.DeepCutAuto
import Derived.Deep.CutBlock
set_option linter.unusedVariables false
set_option linter.unusedSimpArgs false
namespace Go.Proofs.YtbhmdnjammnlnaaGreatDoor
open Go.RowKit
attribute [local go_sem] und_cell cha_cell World.cell?_alloc_some
def HoAns (x : House) (b : Bool) (w : World) (e : Ending) (w' : World) : Prop :=
  ∃ cs fp, e = .returned (.tuple #[.agg cs.toArray, .bool b]) ∧ Mm.SepF [] w w' [Mm.tow rHouse x cs fp]
def Pl.stepOf (b : Bool) (h : House) (s : HouseStep) : House × Bool := if b = true ∧ (Pl.stepS h s).2 = true then ((Pl.stepS h s).1, true) else (zHo, false)
theorem hoNo {w w' : World} (hb : Below w.heap.size w w') : HoAns zHo false w (.returned (.tuple #[.agg #[.slice none 0 0, .slice none 0 0, .slice none 0 0], .bool false])) w' :=
  ⟨[.slice none 0 0, .slice none 0 0, .slice none 0 0], [], rfl, (Mm.SepF.start w).add hb (t := Mm.tow rHouse zHo _ []) (zHo_own w') List.nodup_nil (fun b hb => by cases hb)⟩
def gHoA (h : House) : Mm.Rel := fun _ _ v ds => ∃ A0 n0 c0 A1 n1 c1 A2 n2 c2 f, v = .agg #[.slice A0 n0 c0, .slice A1 n1 c1, .slice A2 n2 c2] ∧ ds = [Mm.tow rHouse h [.slice A0 n0 c0, .slice A1 n1 c1, .slice A2 n2 c2] f]
theorem gHoA_in {h : House} {vals : List Value} {tk : List Mm.Thing} : ∃ v ds, gHoA h vals tk v ds := ⟨_, _, none, 0, 0, none, 0, 0, none, 0, 0, [], rfl, rfl⟩
def gHoS (h : House) (b : Bool) : Mm.Rel := fun _ _ v ds => ∃ A0 n0 c0 A1 n1 c1 A2 n2 c2 f, v = .tuple #[.agg #[.slice A0 n0 c0, .slice A1 n1 c1, .slice A2 n2 c2], .bool b] ∧ ds = [Mm.tow rHouse h [.slice A0 n0 c0, .slice A1 n1 c1, .slice A2 n2 c2] f]
theorem gHoS_in {h : House} {b : Bool} {vals : List Value} {tk : List Mm.Thing} : ∃ v ds, gHoS h b vals tk v ds := ⟨_, _, none, 0, 0, none, 0, 0, none, 0, 0, [], rfl, rfl⟩
set_option maxRecDepth 100000 in
set_option maxHeartbeats 4000000 in
theorem implStepHouse0_c (h : House) (b : Bool) (hb : b = true ↔ Pl.HouseOk h) (Bt : Nat) (cs : List Value) (s : HouseStep) (cs2 : List Value) (w : World) (B : Nat) (hh : rHouse.at_ w B h cs) (hst : rHouseStep.at_ w B s cs2) (hB : B ≤ w.heap.size) (ht : Tab Bt w) :
    Calls Tryz.prog 29 #[.agg cs.toArray, .agg cs2.toArray] w (HoAns (Pl.stepOf b h s).1 (Pl.stepOf b h s).2 w) := by
  obtain ⟨A0, n0, c0, A1, n1, c1, A2, n2, c2, rfl, -, -, -⟩ := rHouse_at hh
  obtain ⟨rfl, g0, g1, g2, g3, g4⟩ := rHouseStep_at hst
  have HR := Lib.hid hh
  have HSI : Hid (StepI s) := ⟨g0, g1, g2, g3, g4⟩
  have HBW := Lib.hid hB
  obtain ⟨ga, hga⟩ : ∃ g, w.heap.size = g := ⟨_, rfl⟩
  obtain ⟨gs, hgs⟩ : ∃ g, ga + 1 = g := ⟨_, rfl⟩
  obtain ⟨gz, hgz⟩ : ∃ g, gs + 1 = g := ⟨_, rfl⟩
  obtain ⟨W0, hW0⟩ : ∃ W, ((w.alloc (.cells #[.slice A0 n0 c0, .slice A1 n1 c1, .slice A2 n2 c2] 27)).alloc (.cells #[.int .i64 s.Kind, .int .i64 s.Part, .string s.What.Name, .int .i64 s.What.At, .int .i64 s.What.Value] 57)).alloc (.cells #[.slice none 0 0, .slice none 0 0, .slice none 0 0] 27) = W := ⟨_, rfl⟩
  have KS0 := Lib.hid (((((Mm.SepF.start w).alloc' hga 27 [.slice A0 n0 c0, .slice A1 n1 c1, .slice A2 n2 c2]).alloc' (g := gs) (by rw [Mm.sz1, hga, hgs]) 57 [.int .i64 s.Kind, .int .i64 s.Part, .string s.What.Name, .int .i64 s.What.At, .int .i64 s.What.Value]).alloc' (g := gz) (by rw [Mm.sz1, Mm.sz1, hga, hgs, hgz]) 27 [.slice none 0 0, .slice none 0 0, .slice none 0 0]).atW hW0)
  have d0 := KS0.out.cell (k := 0) 2 rfl rfl
  have d1 := KS0.out.cell (k := 1) 2 rfl rfl
  have d2 := KS0.out.cell (k := 2) 2 rfl rfl
  have CI := (BoolAns.fix hb (isHouse_c h _ W0 B Bt (rHouse.keep hh fun b hb => KS0.out.bel0.block b (by omega)) (by have := KS0.out.bel0.size; omega) (ht.on KS0.out.bel0)))
  have HBO := Lib.hid hb
  clear hh hB hb hst g0 g1 g2 g3 g4
  go_enter Tryz.func29, Tryz.ntmps29
  go_wp2_with fail
  refine CI.mono ?_
  rintro e w1 ⟨rfl, hb1⟩
  obtain ⟨W1, rfl⟩ : ∃ W : World, W = w1 := ⟨_, rfl⟩
  have HS1 := Lib.hid (KS0.out.step hb1)
  clear CI d0 d1 d2 hb1 KS0 hW0 hga hgz hgs
  cases b with
  | false =>
    have HF : Hid (Pl.stepOf false h s = (zHo, false)) := if_neg (fun hh => by cases hh.1)
    obtain ⟨WR, hWR⟩ : ∃ V, ((W1.setCell ⟨gz, 0, none⟩ (.slice none 0 0)).setCell ⟨gz, 1, none⟩ (.slice none 0 0)).setCell ⟨gz, 2, none⟩ (.slice none 0 0) = V := ⟨_, rfl⟩
    have HSF := Lib.hid ((((HS1.out.setBlk (k := 0) 0 rfl (.slice none 0 0)).setBlk (k := 1) 0 rfl (.slice none 0 0)).setBlk (k := 2) 0 rfl (.slice none 0 0)).atW hWR)
    have u0 := HSF.out.cell (k := 0) 0 rfl rfl
    have u1 := HSF.out.cell (k := 1) 0 rfl rfl
    have u2 := HSF.out.cell (k := 2) 0 rfl rfl
    have z0 := HS1.out.cell (k := 0) 0 rfl rfl
    have z1 := HS1.out.cell (k := 1) 0 rfl rfl
    have z2 := HS1.out.cell (k := 2) 0 rfl rfl
    have y0 := HS1.out.frz (k := 0) 0 rfl
    have y1 := HS1.out.frz (k := 1) 0 rfl
    have y2 := HS1.out.frz (k := 2) 0 rfl
    go_wp2
    rw [HF.out]
    exact bodyPost_ret (v := .tuple #[.agg #[.slice none 0 0, .slice none 0 0, .slice none 0 0], .bool false]) (by simp [results, Tryz.results29, go_sem, u0, u1, u2]) rfl (hoNo HSF.out.bel0)
  | true =>
    have HHO := Lib.hid (HBO.out.1 rfl)
    have HT := Lib.hid ht
    have d0 := HS1.out.cell (k := 0) 2 rfl rfl
    have d1 := HS1.out.cell (k := 1) 2 rfl rfl
    have d2 := HS1.out.cell (k := 2) 2 rfl rfl
    have CC := cloneHouse_c h _ W1 B (rHouse.keep HR.out fun b hb => HS1.out.bel0.block b (by have := HBW.out; omega)) (by have := HBW.out; have := HS1.out.bel0.size; omega) HHO.out.hos
    go_wp2_with fail
    refine CC.mono ?_
    rintro e w2 ⟨csc, fpc, rfl, hoc, hndc, hnewc, hbc⟩
    clear CC d0 d1 d2 ht
    obtain ⟨Wc, rfl⟩ : ∃ W : World, W = w2 := ⟨_, rfl⟩
    obtain ⟨A3, m3, k3, A4, m4, k4, A5, m5, k5, f3, f4, f5, rfl, l3, l4, l5, hso⟩ := Mm.SepF.hoOpen (h := h) (HS1.out.add hbc (t := Mm.tow rHouse h csc fpc) hoc hndc hnewc)
    obtain rfl : m4 = m3 := by have := HHO.out.hdn; omega
    obtain rfl : m5 = m4 := by have := HHO.out.kpn; omega
    have HS2 := Lib.hid hso
    clear hso hbc hoc hndc hnewc l3 l4 l5
    obtain ⟨gp, hgp⟩ : ∃ g, Wc.heap.size = g := ⟨_, rfl⟩
    obtain ⟨Wd, hWd⟩ : ∃ W, Wc.alloc (.cells #[.slice none 0 0, .slice none 0 0, .slice none 0 0] 27) = W := ⟨_, rfl⟩
    have HS3 := Lib.hid ((HS2.out.alloc' hgp 27 [.slice none 0 0, .slice none 0 0, .slice none 0 0]).atW hWd)
    have q0 := HS3.out.cell (k := 0) 0 rfl rfl
    have q1 := HS3.out.cell (k := 1) 0 rfl rfl
    have q2 := HS3.out.cell (k := 2) 0 rfl rfl
    have y0 := HS3.out.frz (k := 0) 0 rfl
    have y1 := HS3.out.frz (k := 1) 0 rfl
    have y2 := HS3.out.frz (k := 2) 0 rfl
    go_upto_region 4 with fail
    obtain ⟨WF, hWF⟩ : ∃ V, ((Wd.setCell ⟨gp, 0, none⟩ (.slice A3 m5 k3)).setCell ⟨gp, 1, none⟩ (.slice A4 m5 k4)).setCell ⟨gp, 2, none⟩ (.slice A5 m5 k5) = V := ⟨_, rfl⟩
    have HS4 := Lib.hid ((((HS3.out.setBlk (k := 0) 0 rfl (.slice A3 m5 k3)).setBlk (k := 1) 0 rfl (.slice A4 m5 k4)).setBlk (k := 2) 0 rfl (.slice A5 m5 k5)).atW hWF)
    rw [hWF]
    clear hWF hWd hgp q0 q1 q2 y0 y1 y2 HS3 HS2 HS1
    have s0 := HS4.out.cell (k := 0) 5 rfl rfl
    have s1 := HS4.out.cell (k := 1) 5 rfl rfl
    have s2 := HS4.out.cell (k := 2) 5 rfl rfl
    have s3 := HS4.out.cell (k := 3) 5 rfl rfl
    have s4 := HS4.out.cell (k := 4) 5 rfl rfl
    have CU := step_c h s gp Bt [Mm.tblk gz 27 [.slice none 0 0, .slice none 0 0, .slice none 0 0]] HHO.out HSI.out w WF HT.out ⟨m5, A3, k3, f3, A4, k4, f4, A5, k5, f5, HS4.out.sel [1, 2, 3, 0, 4] (by decide) rfl⟩
    obtain ⟨ok, hok⟩ : ∃ b, (Pl.stepS h s).2 = b := ⟨_, rfl⟩
    rw [hok] at CU
    have HOK := Lib.hid hok
    clear hok
    go_wp2_with fail
    refine CU.mono ?_
    rintro e w5 ⟨rfl, n, AL, cL, fL, AH, cH, fH, AK, cK, fK, hS⟩
    obtain ⟨W5, rfl⟩ : ∃ W : World, W = w5 := ⟨_, rfl⟩
    have HS5 := Lib.hid hS
    clear CU hS HS4 s0 s1 s2 s3 s4
    cases ok with
    | false =>
      have HF : Hid (Pl.stepOf true h s = (zHo, false)) := if_neg (fun hh => by have := HOK.out.symm.trans hh.2; cases this)
      obtain ⟨WR, hWR⟩ : ∃ V, ((W5.setCell ⟨gz, 0, none⟩ (.slice none 0 0)).setCell ⟨gz, 1, none⟩ (.slice none 0 0)).setCell ⟨gz, 2, none⟩ (.slice none 0 0) = V := ⟨_, rfl⟩
      have HSF := Lib.hid ((((HS5.out.setBlk (k := 0) 4 rfl (.slice none 0 0)).setBlk (k := 1) 4 rfl (.slice none 0 0)).setBlk (k := 2) 4 rfl (.slice none 0 0)).atW hWR)
      have u0 := HSF.out.cell (k := 0) 4 rfl rfl
      have u1 := HSF.out.cell (k := 1) 4 rfl rfl
      have u2 := HSF.out.cell (k := 2) 4 rfl rfl
      have z0 := HS5.out.cell (k := 0) 4 rfl rfl
      have z1 := HS5.out.cell (k := 1) 4 rfl rfl
      have z2 := HS5.out.cell (k := 2) 4 rfl rfl
      have y0 := HS5.out.frz (k := 0) 4 rfl
      have y1 := HS5.out.frz (k := 1) 4 rfl
      have y2 := HS5.out.frz (k := 2) 4 rfl
      go_wp2
      rw [HF.out]
      exact bodyPost_ret (v := .tuple #[.agg #[.slice none 0 0, .slice none 0 0, .slice none 0 0], .bool false]) (by simp [results, Tryz.results29, go_sem, u0, u1, u2]) rfl (hoNo HSF.out.bel0)
    | true =>
      have HF : Hid (Pl.stepOf true h s = ((Pl.stepS h s).1, true)) := if_pos ⟨rfl, HOK.out⟩
      have p0 := HS5.out.cell (k := 0) 3 rfl rfl
      have p1 := HS5.out.cell (k := 1) 3 rfl rfl
      have p2 := HS5.out.cell (k := 2) 3 rfl rfl
      obtain ⟨WR, hWR⟩ : ∃ V, ((W5.setCell ⟨gz, 0, none⟩ (.slice AL n cL)).setCell ⟨gz, 1, none⟩ (.slice AH n cH)).setCell ⟨gz, 2, none⟩ (.slice AK n cK) = V := ⟨_, rfl⟩
      have HSF := Lib.hid ((((HS5.out.setBlk (k := 0) 4 rfl (.slice AL n cL)).setBlk (k := 1) 4 rfl (.slice AH n cH)).setBlk (k := 2) 4 rfl (.slice AK n cK)).atW hWR)
      have u0 := HSF.out.cell (k := 0) 4 rfl rfl
      have u1 := HSF.out.cell (k := 1) 4 rfl rfl
      have u2 := HSF.out.cell (k := 2) 4 rfl rfl
      have z0 := HS5.out.cell (k := 0) 4 rfl rfl
      have z1 := HS5.out.cell (k := 1) 4 rfl rfl
      have z2 := HS5.out.cell (k := 2) 4 rfl rfl
      have y0 := HS5.out.frz (k := 0) 4 rfl
      have y1 := HS5.out.frz (k := 1) 4 rfl
      have y2 := HS5.out.frz (k := 2) 4 rfl
      go_wp2
      rw [HF.out]
      exact bodyPost_ret (v := .tuple #[.agg #[.slice AL n cL, .slice AH n cH, .slice AK n cK], .bool true]) (by simp [results, Tryz.results29, go_sem, u0, u1, u2]) rfl ⟨_, _, rfl, (HSF.out.hoShut (h := (Pl.stepS h s).1)).sel [0] (by decide) rfl⟩
set_option maxRecDepth 100000 in
set_option maxHeartbeats 4000000 in
theorem specStepHouse0_c (h : House) (b : Bool) (hb : b = true ↔ Pl.HouseOk h) (hsz : Pl.szHouse h ≤ 1048576) (cs : List Value) (s : HouseStep) (cs2 : List Value) (w : World) (B : Nat) (hh : rHouse.at_ w B h cs) (hst : rHouseStep.at_ w B s cs2) (hB : B ≤ w.heap.size) :
    Calls Tryz.prog 27 #[.agg cs.toArray, .agg cs2.toArray] w (HoAns (Pl.stepOf b h s).1 (Pl.stepOf b h s).2 w) := by
  obtain ⟨A0, n0, c0, A1, n1, c1, A2, n2, c2, rfl, -, -, -⟩ := rHouse_at hh
  obtain ⟨rfl, g0, g1, g2, g3, g4⟩ := rHouseStep_at hst
  have HR := Lib.hid hh
  have HSI : Hid (StepI s) := ⟨g0, g1, g2, g3, g4⟩
  have HBW := Lib.hid hB
  obtain ⟨ga, hga⟩ : ∃ g, w.heap.size = g := ⟨_, rfl⟩
  obtain ⟨gs, hgs⟩ : ∃ g, ga + 1 = g := ⟨_, rfl⟩
  obtain ⟨gz, hgz⟩ : ∃ g, gs + 1 = g := ⟨_, rfl⟩
  obtain ⟨W0, hW0⟩ : ∃ W, ((w.alloc (.cells #[.slice A0 n0 c0, .slice A1 n1 c1, .slice A2 n2 c2] 27)).alloc (.cells #[.int .i64 s.Kind, .int .i64 s.Part, .string s.What.Name, .int .i64 s.What.At, .int .i64 s.What.Value] 57)).alloc (.cells #[.slice none 0 0, .slice none 0 0, .slice none 0 0] 27) = W := ⟨_, rfl⟩
  have KS0 := Lib.hid (((((Mm.SepF.start w).alloc' hga 27 [.slice A0 n0 c0, .slice A1 n1 c1, .slice A2 n2 c2]).alloc' (g := gs) (by rw [Mm.sz1, hga, hgs]) 57 [.int .i64 s.Kind, .int .i64 s.Part, .string s.What.Name, .int .i64 s.What.At, .int .i64 s.What.Value]).alloc' (g := gz) (by rw [Mm.sz1, Mm.sz1, hga, hgs, hgz]) 27 [.slice none 0 0, .slice none 0 0, .slice none 0 0]).atW hW0)
  have d0 := KS0.out.cell (k := 0) 2 rfl rfl
  have d1 := KS0.out.cell (k := 1) 2 rfl rfl
  have d2 := KS0.out.cell (k := 2) 2 rfl rfl
  have CI := (specGoodHouse_c h b hb hsz _ W0 B (rHouse.keep hh fun b hb => KS0.out.bel0.block b (by omega)) (by have := KS0.out.bel0.size; omega))
  have HBO := Lib.hid hb
  clear hh hB hb hst g0 g1 g2 g3 g4
  go_enter Tryz.func27, Tryz.ntmps27
  go_wp2_with fail
  refine CI.mono ?_
  rintro e w1 ⟨rfl, hb1⟩
  obtain ⟨W1, rfl⟩ : ∃ W : World, W = w1 := ⟨_, rfl⟩
  have HS1 := Lib.hid (KS0.out.step hb1)
  clear CI d0 d1 d2 hb1 KS0 hW0 hga hgz hgs
  cases b with
  | false =>
    have HF : Hid (Pl.stepOf false h s = (zHo, false)) := if_neg (fun hh => by cases hh.1)
    obtain ⟨WR, hWR⟩ : ∃ V, ((W1.setCell ⟨gz, 0, none⟩ (.slice none 0 0)).setCell ⟨gz, 1, none⟩ (.slice none 0 0)).setCell ⟨gz, 2, none⟩ (.slice none 0 0) = V := ⟨_, rfl⟩
    have HSF := Lib.hid ((((HS1.out.setBlk (k := 0) 0 rfl (.slice none 0 0)).setBlk (k := 1) 0 rfl (.slice none 0 0)).setBlk (k := 2) 0 rfl (.slice none 0 0)).atW hWR)
    have u0 := HSF.out.cell (k := 0) 0 rfl rfl
    have u1 := HSF.out.cell (k := 1) 0 rfl rfl
    have u2 := HSF.out.cell (k := 2) 0 rfl rfl
    have z0 := HS1.out.cell (k := 0) 0 rfl rfl
    have z1 := HS1.out.cell (k := 1) 0 rfl rfl
    have z2 := HS1.out.cell (k := 2) 0 rfl rfl
    have y0 := HS1.out.frz (k := 0) 0 rfl
    have y1 := HS1.out.frz (k := 1) 0 rfl
    have y2 := HS1.out.frz (k := 2) 0 rfl
    go_wp2
    rw [HF.out]
    exact bodyPost_ret (v := .tuple #[.agg #[.slice none 0 0, .slice none 0 0, .slice none 0 0], .bool false]) (by simp [results, Tryz.results27, go_sem, u0, u1, u2]) rfl (hoNo HSF.out.bel0)
  | true =>
    have HHO := Lib.hid (HBO.out.1 rfl)
    have d0 := HS1.out.cell (k := 0) 2 rfl rfl
    have d1 := HS1.out.cell (k := 1) 2 rfl rfl
    have d2 := HS1.out.cell (k := 2) 2 rfl rfl
    have s0 := HS1.out.cell (k := 0) 1 rfl rfl
    have s1 := HS1.out.cell (k := 1) 1 rfl rfl
    have s2 := HS1.out.cell (k := 2) 1 rfl rfl
    have s3 := HS1.out.cell (k := 3) 1 rfl rfl
    have s4 := HS1.out.cell (k := 4) 1 rfl rfl
    have HAT := Lib.hid (rHouse.keep (w' := W1) HR.out fun b hb => HS1.out.bel0.block b (by have := HBW.out; omega))
    have hBW1 : B ≤ W1.heap.size := by have := HBW.out; have := HS1.out.bel0.size; omega
    obtain ⟨ok, hok⟩ : ∃ b, (Pl.stepS h s).2 = b := ⟨_, rfl⟩
    obtain ⟨h2, hh2⟩ : ∃ x, (Pl.stepS h s).1 = x := ⟨_, rfl⟩
    have HOK := Lib.hid hok
    have HH2 := Lib.hid hh2
    have HO2 : Hid (Pl.HouseOk h2) := by show _; rw [← hh2]; exact HHO.out.step s
    clear hok hh2
    go_wp2_with fail
    refine Mm.wp_region_give 9 (fun i => match i with | 1 => some (gHoA h) | 3 => some (gHoS h2 ok) | 7 => some (Mm.gPtr 27 [.slice none 0 0, .slice none 0 0, .slice none 0 0]) | 8 => some (Mm.gSto 27) | _ => none) (fun i => match i with | 3 => [1] | 8 => [7] | _ => []) (fun _ => []) (F := []) (D := fun w' => ∃ x : Und W1, w' = und W1 x) (fun X us h => Mm.sep_und h) (by kernel_rfl) (by kernel_rfl) (by kernel_rfl) (Mm.SepF.startDrew _) ?_
    repeat (refine Mm.give_det (by rfl) (by rfl) (by rfl) (fun K hK => ?_); go_big_quiet_op; refine hK _ ?_; clear hK K)
    refine Mm.give_op0 14 (by rfl) rfl (by rfl) (by rfl) (by rfl) (by rfl) gHoA_in (fun others X hX => ?_) ?_
    · go_wp2_with (go_at_call 54; refine (l17Own_c h _ X B (rHouse.keep HAT.out fun b hb => hX.bel0.block b (by omega)) (Nat.le_trans hBW1 hX.bel0.size) HHO.out.hos).mono ?_; rintro e w5 ⟨cs5, f5, rfl, ho5, hnd5, hnew5, hb5⟩; obtain ⟨B0, r0, j0, B1, r1, j1, B2, r2, j2, z0, z1, z2, rfl, rfl, -, -, -⟩ := rHouse_own ho5)
      exact ⟨rfl, rfl, _, ⟨B0, r0, j0, B1, r1, j1, B2, r2, j2, _, rfl, rfl⟩, hX.add hb5 (t := Mm.tow rHouse h _ _) ho5 hnd5 hnew5⟩
    rintro v ds ⟨B0, r0, j0, B1, r1, j1, B2, r2, j2, f5, rfl, rfl⟩
    simp only [Act.put, List.setIfInBounds_toArray, List.set_cons_succ, List.set_cons_zero]
    repeat (refine Mm.give_det (by rfl) (by rfl) (by rfl) (fun K hK => ?_); go_big_quiet_op; refine hK _ ?_; clear hK K)
    refine Mm.give_op1 16 1 (by rfl) rfl (by rfl) (by rfl) (by rfl) rfl (by rfl) _ rfl gHoS_in (fun others X hX => ?_) ?_
    · obtain ⟨E0, u0, i0, E1, u1, i1, E2, u2, i2, z0, z1, z2, hcs, l0, l1, l2, hso⟩ := Mm.SepF.hoOpen (h := h) (rest := others) hX
      simp only [List.cons.injEq, Value.slice.injEq, and_true] at hcs
      obtain ⟨⟨rfl, rfl, rfl⟩, ⟨rfl, rfl, rfl⟩, rfl, rfl, rfl⟩ := hcs
      obtain rfl : r1 = r0 := by have := HHO.out.hdn; omega
      obtain rfl : r2 = r1 := by have := HHO.out.kpn; omega
      have CS := l17Step_c h s others HHO.out HSI.out _ W1 X ⟨r2, _, _, _, _, _, _, _, _, _, rfl, hso⟩
      rw [HOK.out, HH2.out] at CS
      go_wp2_with (go_at_call 53; refine CS.mono ?_; rintro e w6 ⟨rfl, hv6⟩; obtain ⟨x0, x1, x2, hs6⟩ := hv6.sep)
      exact ⟨rfl, rfl, _, ⟨_, _, _, _, _, _, _, _, _, _, rfl, rfl⟩, hs6.hoShut⟩
    rintro v ds ⟨C0, t0, k0, C1, t1, k1, C2, t2, k2, f6, rfl, rfl⟩
    simp only [Act.put, List.setIfInBounds_toArray, List.set_cons_succ, List.set_cons_zero]
    repeat (refine Mm.give_det (by rfl) (by rfl) (by rfl) (fun K hK => ?_); go_big_quiet_op; refine hK _ ?_; clear hK K)
    refine Mm.give_op0 6 (by rfl) rfl (by rfl) (by rfl) (by rfl) (by rfl) Mm.gPtr_in (fun others X hX => ?_) ?_
    · go_wp2
      exact Mm.gvq_ptr hX rfl rfl rfl
    rintro v ds ⟨gp, rfl, rfl⟩
    simp only [Act.put, List.setIfInBounds_toArray, List.set_cons_succ, List.set_cons_zero]
    refine Mm.give_store 27 gp [.slice none 0 0, .slice none 0 0, .slice none 0 0] [.slice C0 t0 k0, .slice C1 t1 k1, .slice C2 t2 k2] 7 (by rfl) rfl rfl (by rfl) rfl (by rfl) rfl rfl (fun others X hX => ?_) ?_
    · have y0 := hX.cell (k := 0) 0 rfl rfl
      have y1 := hX.cell (k := 1) 0 rfl rfl
      have y2 := hX.cell (k := 2) 0 rfl rfl
      have x0 := hX.frz (k := 0) 0 rfl
      have x1 := hX.frz (k := 1) 0 rfl
      have x2 := hX.frz (k := 2) 0 rfl
      have hX9 := ((hX.setBlk (k := 0) 0 rfl (.slice C0 t0 k0)).setBlk (k := 1) 0 rfl (.slice C1 t1 k1)).setBlk (k := 2) 0 rfl (.slice C2 t2 k2)
      go_wp2
      exact ⟨rfl, rfl, _, rfl, hX9⟩
    refine Mm.give_nil ?_
    rintro X2 hX
    have HS2 := Lib.hid (HS1.out.join (us := [Mm.tow rHouse h2 [.slice C0 t0 k0, .slice C1 t1 k1, .slice C2 t2 k2] f6, Mm.tblk gp 27 [.slice C0 t0 k0, .slice C1 t1 k1, .slice C2 t2 k2]]) hX)
    clear hX d0 d1 d2 s0 s1 s2 s3 s4 HS1 HAT
    go_upto_region 4 with fail
    cases ok with
    | false =>
      have HF : Hid (Pl.stepOf true h s = (zHo, false)) := if_neg (fun hh => by have := HOK.out.symm.trans hh.2; cases this)
      obtain ⟨WR, hWR⟩ : ∃ V, ((X2.setCell ⟨gz, 0, none⟩ (.slice none 0 0)).setCell ⟨gz, 1, none⟩ (.slice none 0 0)).setCell ⟨gz, 2, none⟩ (.slice none 0 0) = V := ⟨_, rfl⟩
      have HSF := Lib.hid ((((HS2.out.setBlk (k := 0) 2 rfl (.slice none 0 0)).setBlk (k := 1) 2 rfl (.slice none 0 0)).setBlk (k := 2) 2 rfl (.slice none 0 0)).atW hWR)
      have u0 := HSF.out.cell (k := 0) 2 rfl rfl
      have u1 := HSF.out.cell (k := 1) 2 rfl rfl
      have u2 := HSF.out.cell (k := 2) 2 rfl rfl
      have z0 := HS2.out.cell (k := 0) 2 rfl rfl
      have z1 := HS2.out.cell (k := 1) 2 rfl rfl
      have z2 := HS2.out.cell (k := 2) 2 rfl rfl
      have y0 := HS2.out.frz (k := 0) 2 rfl
      have y1 := HS2.out.frz (k := 1) 2 rfl
      have y2 := HS2.out.frz (k := 2) 2 rfl
      go_wp2
      rw [HF.out]
      exact bodyPost_ret (v := .tuple #[.agg #[.slice none 0 0, .slice none 0 0, .slice none 0 0], .bool false]) (by simp [results, Tryz.results27, go_sem, u0, u1, u2]) rfl (hoNo HSF.out.bel0)
    | true =>
      have HF : Hid (Pl.stepOf true h s = (h2, true)) := by show _ = _; rw [← HH2.out]; exact if_pos ⟨rfl, HOK.out⟩
      have p0 := HS2.out.cell (k := 0) 1 rfl rfl
      have p1 := HS2.out.cell (k := 1) 1 rfl rfl
      have p2 := HS2.out.cell (k := 2) 1 rfl rfl
      have how : rHouse.own X2 h2 [.slice C0 t0 k0, .slice C1 t1 k1, .slice C2 t2 k2] f6 := HS2.out.at_ 0 rfl
      have CO := l17Own_c h2 [.slice C0 t0 k0, .slice C1 t1 k1, .slice C2 t2 k2] X2 X2.heap.size (rHouse.weak how (rHouse.olt how)) (Nat.le_refl _) HO2.out.hos
      clear how
      go_wp2_with fail
      refine CO.mono ?_
      rintro e w9 ⟨cs9, fp9, rfl, ho9, hnd9, hnew9, hb9⟩
      obtain ⟨W9, rfl⟩ : ∃ W : World, W = w9 := ⟨_, rfl⟩
      have hs9 := HS2.out.add hb9 (t := Mm.tow rHouse h2 cs9 fp9) ho9 hnd9 hnew9
      obtain ⟨B0, r0, e0, B1, r1, e1, B2, r2, e2, j0, j1, j2, rfl, -, -, -, hs9⟩ := hs9.hoOpen
      have HS9 := Lib.hid hs9
      clear CO ho9 hnd9 hnew9 hb9 hs9 p0 p1 p2 HS2
      obtain ⟨WR, hWR⟩ : ∃ V, ((W9.setCell ⟨gz, 0, none⟩ (.slice B0 r0 e0)).setCell ⟨gz, 1, none⟩ (.slice B1 r1 e1)).setCell ⟨gz, 2, none⟩ (.slice B2 r2 e2) = V := ⟨_, rfl⟩
      have HSF := Lib.hid ((((HS9.out.setBlk (k := 0) 5 rfl (.slice B0 r0 e0)).setBlk (k := 1) 5 rfl (.slice B1 r1 e1)).setBlk (k := 2) 5 rfl (.slice B2 r2 e2)).atW hWR)
      have u0 := HSF.out.cell (k := 0) 5 rfl rfl
      have u1 := HSF.out.cell (k := 1) 5 rfl rfl
      have u2 := HSF.out.cell (k := 2) 5 rfl rfl
      have z0 := HS9.out.cell (k := 0) 5 rfl rfl
      have z1 := HS9.out.cell (k := 1) 5 rfl rfl
      have z2 := HS9.out.cell (k := 2) 5 rfl rfl
      have y0 := HS9.out.frz (k := 0) 5 rfl
      have y1 := HS9.out.frz (k := 1) 5 rfl
      have y2 := HS9.out.frz (k := 2) 5 rfl
      go_wp2
      rw [HF.out]
      exact bodyPost_ret (v := .tuple #[.agg #[.slice B0 r0 e0, .slice B1 r1 e1, .slice B2 r2 e2], .bool true]) (by simp [results, Tryz.results27, go_sem, u0, u1, u2]) rfl ⟨_, _, rfl, (HSF.out.hoShut (h := h2)).sel [0] (by decide) rfl⟩
theorem HoAns.ret2 {x : House} {b : Bool} {w : World} {e : Ending} {w' : World} (h : HoAns x b w e w') : Mm.Ret2 rHouse w x b e w' := by
  obtain ⟨cs, fp, rfl, hS⟩ := h
  exact ⟨cs, fp, rfl, hS.at_ 0 rfl, hS.ndat (i := 0) rfl, fun b hb => (hS.new b (Mm.SepF.mem (i := 0) rfl hb)).resolve_left (fun h => by cases h), hS.bel0⟩
theorem implStepHouse_c (h : House) (b : Bool) (hb : b = true ↔ Pl.HouseOk h) (Bt : Nat) (cs : List Value) (s : HouseStep) (cs2 : List Value) (w : World) (B : Nat) (hh : rHouse.at_ w B h cs) (hst : rHouseStep.at_ w B s cs2) (hB : B ≤ w.heap.size) (ht : Tab Bt w) :
    Calls Tryz.prog 29 #[.agg cs.toArray, .agg cs2.toArray] w (Mm.Ret2 rHouse w (Pl.stepOf b h s).1 (Pl.stepOf b h s).2) :=
  (implStepHouse0_c h b hb Bt cs s cs2 w B hh hst hB ht).mono fun _ _ k => k.ret2
theorem specStepHouse_c (h : House) (b : Bool) (hb : b = true ↔ Pl.HouseOk h) (hsz : Pl.szHouse h ≤ 1048576) (cs : List Value) (s : HouseStep) (cs2 : List Value) (w : World) (B : Nat) (hh : rHouse.at_ w B h cs) (hst : rHouseStep.at_ w B s cs2) (hB : B ≤ w.heap.size) :
    Calls Tryz.prog 27 #[.agg cs.toArray, .agg cs2.toArray] w (Mm.Ret2 rHouse w (Pl.stepOf b h s).1 (Pl.stepOf b h s).2) :=
  (specStepHouse0_c h b hb hsz cs s cs2 w B hh hst hB).mono fun _ _ k => k.ret2
end Go.Proofs.YtbhmdnjammnlnaaGreatDoor

namespace Go.Proofs.YtbhmdnjammnlnaaGreatDoor
open Go.RowKit
theorem cntL_leH {α : Type} {f : α → Int} {c : Int} : ∀ l : List α, (∀ x, x ∈ l → f x ≤ c) → Mm.cntL f l ≤ c * (l.length : Int)
  | [], _ => by simp [Mm.cntL]
  | x :: t, h => by
    have h1 := cntL_leH t (fun y hy => h y (List.mem_cons_of_mem _ hy))
    have h2 := h x List.mem_cons_self
    rw [Mm.cntL_cons, List.length_cons]
    have : c * ((t.length + 1 : Nat) : Int) = c * (t.length : Int) + c := by push_cast; rw [Int.mul_add, Int.mul_one]
    omega
theorem Pl.HeadOk.cnt {h : Head} (k : Pl.HeadOk h) : Pl.cntHead h ≤ 1000 := by
  have h0 : Mm.cntL Pl.cntRow h.Rows ≤ 100 * (h.Rows.length : Int) := cntL_leH _ (fun x hx => by
    have h1 := cntL_leH (f := Pl.cntSample) (c := 2) x.Samples (fun y _ => by unfold Pl.cntSample; omega)
    have h2 := Pl.samplesOk_len (k.row x hx).2.2
    unfold Pl.cntRow
    omega)
  have := k.len
  unfold Pl.cntHead
  omega
theorem Pl.LogOk.cnt {g : Log} (k : Pl.LogOk g) : Pl.cntLog g ≤ 2000 := by
  have h0 : Mm.cntL Pl.cntPiece g.Pieces ≤ 70 * (g.Pieces.length : Int) := cntL_leH _ (fun x hx => by
    have h1 := cntL_leH (f := Pl.cnt1) (c := 1) x.Index (fun y _ => by unfold Pl.cnt1; omega)
    obtain ⟨i, hi⟩ := List.getElem?_of_mem hx
    have h2 := (k.pc i x hi).1
    have h3 := (Pl.pieceOk_whole h2).2
    have h4 := Pl.idx3_len (Pl.starts x.Bytes)
    have h5 := Pl.starts_len x.Bytes
    have h6 := Pl.records_len x.Bytes
    have h7 := k.sizes x hx
    rw [← h3] at h4
    unfold Pl.cntPiece
    omega)
  have := k.len.2
  unfold Pl.cntLog
  omega
theorem Pl.HouseOk.cnt {h : House} (k : Pl.HouseOk h) : Pl.ctopHouse h ≤ 50000000 := by
  have part : ∀ i, i < h.Logs.length → ∃ g a b l, h.Logs[i]? = some g ∧ h.Heads[i]? = some a ∧ h.Kept[i]? = some b ∧ Pl.PartOk h.Logs.length i g a b l := fun i hi => k.ex hi
  have h0 : Mm.cntL Pl.cntLog h.Logs ≤ 2000 * (h.Logs.length : Int) := cntL_leH _ (fun x hx => by
    obtain ⟨i, hi⟩ := List.getElem?_of_mem hx
    obtain ⟨g, a, b, l, h1, h2, h3, h4⟩ := part i (List.getElem?_eq_some_iff.1 hi).1
    rw [hi] at h1; injection h1 with h1; subst h1
    exact h4.log.cnt)
  have h1 : Mm.cntL Pl.cntHead h.Heads ≤ 1000 * (h.Heads.length : Int) := cntL_leH _ (fun x hx => by
    obtain ⟨i, hi⟩ := List.getElem?_of_mem hx
    obtain ⟨g, a, b, l, h1, h2, h3, h4⟩ := part i (by have := (List.getElem?_eq_some_iff.1 hi).1; rw [k.hdn] at this; exact this)
    rw [hi] at h2; injection h2 with h2; subst h2
    exact h4.head.cnt)
  have h2 : Mm.cntL Pl.cntHead h.Kept ≤ 1000 * (h.Kept.length : Int) := cntL_leH _ (fun x hx => by
    obtain ⟨i, hi⟩ := List.getElem?_of_mem hx
    obtain ⟨g, a, b, l, h1, h2, h3, h4⟩ := part i (by have := (List.getElem?_eq_some_iff.1 hi).1; rw [k.kpn] at this; exact this)
    rw [hi] at h3; injection h3 with h3; subst h3
    exact h4.kept.cnt)
  have e1 := k.n3
  have e2 := k.hdn
  have e3 := k.kpn
  unfold Pl.ctopHouse
  omega
end Go.Proofs.YtbhmdnjammnlnaaGreatDoor

namespace Go.Proofs.YtbhmdnjammnlnaaGreatDoor
open Go.RowKit
attribute [local go_sem] und_cell cha_cell World.cell?_alloc_some
namespace Pl
def runH (h : House) (l : List HouseStep) : House := l.foldl (fun h s => (stepS h s).1) h
def runD (h : House) : List HouseStep → List Bool
  | [] => []
  | s :: t => (stepS h s).2 :: runD (stepS h s).1 t
theorem runH_snoc (h : House) (l : List HouseStep) (s : HouseStep) : runH h (l ++ [s]) = (stepS (runH h l) s).1 := by unfold runH; rw [List.foldl_append]; rfl
theorem runD_snoc (l : List HouseStep) (s : HouseStep) : ∀ h, runD h (l ++ [s]) = runD h l ++ [(stepS (runH h l) s).2] := by
  induction l with
  | nil => intro h; rfl
  | cons x l ih => intro h; show _ :: runD _ (l ++ [s]) = _; rw [ih]; rfl
theorem runD_len (l : List HouseStep) : ∀ h, (runD h l).length = l.length := by
  induction l with
  | nil => intro h; rfl
  | cons x l ih => intro h; show (runD _ l).length + 1 = _; rw [ih]; rfl
theorem HouseOk.run {h : House} (H : HouseOk h) (l : List HouseStep) : HouseOk (runH h l) := by
  induction l generalizing h with
  | nil => exact H
  | cons s l ih => exact ih (H.step s)
theorem LogOk.zero : LogOk log0 := by
  refine ⟨by decide, by decide, fun i p hp => ?_, by decide, by decide⟩
  cases i with
  | zero =>
    have h1 : (⟨0, ⟨#[]⟩, []⟩ : Piece) = p := by injection hp
    subst h1
    exact ⟨by decide, by decide, fun h => absurd h (by decide)⟩
  | succ i =>
    have := (List.getElem?_eq_some_iff.1 hp).1
    exact absurd this (by show ¬ i + 1 < 1; omega)
theorem newHo_ok {n : Nat} (h1 : 1 ≤ n) (h3 : n ≤ 3) : HouseOk (newHo n) := by
  refine ⟨by show 1 ≤ (List.replicate n _).length; rw [List.length_replicate]; exact h1, by show (List.replicate n _).length ≤ 3; rw [List.length_replicate]; exact h3, by show (List.replicate n _).length = (List.replicate n _).length; simp, by show (List.replicate n _).length = (List.replicate n _).length; simp, fun k g a b hg ha hb => ⟨[], ?_⟩⟩
  have eg : g = log0 := List.eq_of_mem_replicate (List.mem_of_getElem? hg)
  have ea : a = head0 := List.eq_of_mem_replicate (List.mem_of_getElem? ha)
  have eb : b = head0 := List.eq_of_mem_replicate (List.mem_of_getElem? hb)
  subst eg ea eb
  exact ⟨LogOk.zero, rfl, rfl, saysOf_iff.2 ⟨rfl, fun x hx => by cases hx⟩, ⟨0, Nat.le_refl _, rfl⟩, ⟨0, Nat.le_refl _, rfl⟩, Int.le_refl _⟩
def playHo (parts : Int) (l : List HouseStep) : House × List Bool × Bool :=
  if isIn parts 1 3 = true ∧ l.length ≤ 60 then (runH (newHo parts.toNat) l, runD (newHo parts.toNat) l, true) else (zHo, [], false)
end Pl
def PlayAnsH (r : House × List Bool × Bool) (w : World) (e : Ending) (w' : World) : Prop :=
  ∃ cs A n c fp0 fp1, e = .returned (.tuple #[.agg cs.toArray, .slice A n c, .bool r.2.2]) ∧ Mm.SepF [] w w' [Mm.tow rHouse r.1 cs fp0, Mm.tsl Mm.bool 4 r.2.1 (.slice A n c) fp1]
theorem playNoH {w w' : World} (h : Below w.heap.size w w') : PlayAnsH (zHo, [], false) w (.returned (.tuple #[.agg #[.slice none 0 0, .slice none 0 0, .slice none 0 0], .slice none 0 0, .bool false])) w' :=
  ⟨[.slice none 0 0, .slice none 0 0, .slice none 0 0], none, 0, 0, [], [], rfl, ⟨Mm.Chg.of_below h, by simp [Mm.tow, Mm.tsl], by simp [Mm.tow, Mm.tsl], List.forall_mem_cons.2 ⟨zHo_own w', List.forall_mem_cons.2 ⟨Mm.SlOwn.nil, fun u hu => by cases hu⟩⟩⟩⟩
theorem Tryz.infoBoolY : (Tryz.prog.info? 4).map (fun i => (i.zero, i.size, i.bytes)) = some (some (.bool false), 1, 1) := by kernel_rfl
end Go.Proofs.YtbhmdnjammnlnaaGreatDoor

namespace Go.Proofs.YtbhmdnjammnlnaaGreatDoor
open Go.RowKit
attribute [local go_sem] und_cell cha_cell World.cell?_alloc_some
theorem Pl.followS_no {h : House} {k : Nat} (e : (Pl.followS h k).2 = false) : (Pl.followS h k).1 = h := by
  unfold Pl.followS at e ⊢
  split at e
  · cases e
  · rename_i hc; rw [if_neg hc]
theorem Pl.stepS_no {h : House} {s : HouseStep} (e : (Pl.stepS h s).2 = false) : (Pl.stepS h s).1 = h := by
  unfold Pl.stepS at e ⊢
  by_cases c0 : 0 ≤ s.Part ∧ s.Part < h.Logs.length
  · rw [if_pos c0] at e ⊢
    by_cases c1 : s.Kind = 1
    · rw [if_pos c1] at e ⊢
      split at e
      · cases e
      · rename_i hc; rw [if_neg hc]
    · rw [if_neg c1] at e ⊢
      by_cases c2 : Pl.noSay s.What = true
      · rw [if_pos c2] at e ⊢
        by_cases c3 : s.Kind = 2
        · rw [if_pos c3] at e ⊢; exact Pl.followS_no e
        · rw [if_neg c3] at e ⊢
          by_cases c4 : s.Kind = 3
          · rw [if_pos c4] at e; cases e
          · rw [if_neg c4] at e ⊢
            by_cases c5 : s.Kind = 4
            · rw [if_pos c5] at e; cases e
            · rw [if_neg c5]
      · rw [if_neg c2]
  · rw [if_neg c0]
set_option maxRecDepth 100000 in
set_option maxHeartbeats 8000000 in
theorem specPlayHouse_c (parts : Int) (l : List HouseStep) (A : Option Addr) (n c : Nat) (w : World) (B : Nat) (hl : Mm.SlAt rHouseStep w B l A n c) (hB : B ≤ w.heap.size) :
    Calls Tryz.prog 11 #[.int .i64 parts, .slice A n c] w (PlayAnsH (Pl.playHo parts l) w) := by
  have HL := Lib.hid hl
  have HLN : Hid (l.length = n) := hl.1
  have hnm : n ≤ 9223372036854775807 := by have := hl.2.1; have := hl.2.2.1; unfold maxLen at this; omega
  have HBW := Lib.hid hB
  clear hl hB
  obtain ⟨gz, hgz⟩ : ∃ g, w.heap.size = g := ⟨_, rfl⟩
  obtain ⟨W0, hW0⟩ : ∃ W, w.alloc (.cells #[.slice none 0 0, .slice none 0 0, .slice none 0 0] 27) = W := ⟨_, rfl⟩
  have HS1 := Lib.hid (((Mm.SepF.start w).alloc' hgz 27 [.slice none 0 0, .slice none 0 0, .slice none 0 0]).atW hW0)
  obtain ⟨inb, hin⟩ : ∃ b, Pl.isIn parts 1 3 = b := ⟨_, rfl⟩
  have HIN := Lib.hid hin
  clear hin
  obtain ⟨h, hh0⟩ : ∃ h, (Pl.newHouse parts).1 = h := ⟨_, rfl⟩
  have CN := specNewHouse_c parts W0
  rw [hh0] at CN
  have HH0 := Lib.hid hh0
  have hok : (Pl.newHouse parts).2 = inb := by
    unfold Pl.newHouse
    rw [HIN.out]
    cases inb <;> rfl
  rw [hok] at CN
  clear hh0 hok
  go_enter Tryz.func11, Tryz.ntmps11
  go_upto_region 1 with fail
  clear hW0 hgz
  go_wp2_with fail
  refine CN.mono ?_
  rintro e w2 ⟨csc, fpc, rfl, hoc, hndc, hnewc, hbc⟩
  clear CN
  obtain ⟨Wc, rfl⟩ : ∃ W : World, W = w2 := ⟨_, rfl⟩
  obtain ⟨A3, m3, k3, A4, m4, k4, A5, m5, k5, f3, f4, f5, rfl, l3, l4, l5, hso⟩ := Mm.SepF.hoOpen (h := h) (HS1.out.add hbc (t := Mm.tow rHouse h csc fpc) hoc hndc hnewc)
  have HS2 := Lib.hid hso
  clear hso hbc hoc hndc hnewc
  obtain ⟨gp, hgp⟩ : ∃ g, Wc.heap.size = g := ⟨_, rfl⟩
  obtain ⟨Wd, hWd⟩ : ∃ W, Wc.alloc (.cells #[.slice none 0 0, .slice none 0 0, .slice none 0 0] 27) = W := ⟨_, rfl⟩
  have HS3 := Lib.hid ((HS2.out.alloc' hgp 27 [.slice none 0 0, .slice none 0 0, .slice none 0 0]).atW hWd)
  have q0 := HS3.out.cell (k := 0) 0 rfl rfl
  have q1 := HS3.out.cell (k := 1) 0 rfl rfl
  have q2 := HS3.out.cell (k := 2) 0 rfl rfl
  have y0 := HS3.out.frz (k := 0) 0 rfl
  have y1 := HS3.out.frz (k := 1) 0 rfl
  have y2 := HS3.out.frz (k := 2) 0 rfl
  go_upto_region 2 with fail
  obtain ⟨WF, hWF⟩ : ∃ V, ((Wd.setCell ⟨gp, 0, none⟩ (.slice A3 m3 k3)).setCell ⟨gp, 1, none⟩ (.slice A4 m4 k4)).setCell ⟨gp, 2, none⟩ (.slice A5 m5 k5) = V := ⟨_, rfl⟩
  have HS4 := Lib.hid ((((HS3.out.setBlk (k := 0) 0 rfl (.slice A3 m3 k3)).setBlk (k := 1) 0 rfl (.slice A4 m4 k4)).setBlk (k := 2) 0 rfl (.slice A5 m5 k5)).atW hWF)
  rw [hWF]
  clear hWF hWd hgp q0 q1 q2 y0 y1 y2 HS3 HS2 HS1
  cases inb with
  | false =>
    have HF : Hid (Pl.playHo parts l = (zHo, [], false)) := if_neg (fun hh => by have := HIN.out.symm.trans hh.1; cases this)
    go_upto_region 3 with fail
    obtain ⟨WR, hWR⟩ : ∃ V, ((WF.setCell ⟨gz, 0, none⟩ (.slice none 0 0)).setCell ⟨gz, 1, none⟩ (.slice none 0 0)).setCell ⟨gz, 2, none⟩ (.slice none 0 0) = V := ⟨_, rfl⟩
    have HSF := Lib.hid ((((HS4.out.setBlk (k := 0) 4 rfl (.slice none 0 0)).setBlk (k := 1) 4 rfl (.slice none 0 0)).setBlk (k := 2) 4 rfl (.slice none 0 0)).atW hWR)
    have u0 := HSF.out.cell (k := 0) 4 rfl rfl
    have u1 := HSF.out.cell (k := 1) 4 rfl rfl
    have u2 := HSF.out.cell (k := 2) 4 rfl rfl
    have z0 := HS4.out.cell (k := 0) 4 rfl rfl
    have z1 := HS4.out.cell (k := 1) 4 rfl rfl
    have z2 := HS4.out.cell (k := 2) 4 rfl rfl
    have y0 := HS4.out.frz (k := 0) 4 rfl
    have y1 := HS4.out.frz (k := 1) 4 rfl
    have y2 := HS4.out.frz (k := 2) 4 rfl
    go_wp2
    rw [HF.out]
    exact bodyPost_ret (v := .tuple #[.agg #[.slice none 0 0, .slice none 0 0, .slice none 0 0], .slice none 0 0, .bool false]) (by simp [results, Tryz.results11, go_sem, u0, u1, u2]) rfl (playNoH HSF.out.bel0)
  | true =>
    by_cases h60 : 60 < n
    · have h60' : decide ((60 : Int) < (n : Nat)) = true := decide_eq_true (by omega)
      have HF : Hid (Pl.playHo parts l = (zHo, [], false)) := if_neg (fun hh => by have := HLN.out; omega)
      go_upto_region 3 with fail
      obtain ⟨WR, hWR⟩ : ∃ V, ((WF.setCell ⟨gz, 0, none⟩ (.slice none 0 0)).setCell ⟨gz, 1, none⟩ (.slice none 0 0)).setCell ⟨gz, 2, none⟩ (.slice none 0 0) = V := ⟨_, rfl⟩
      have HSF := Lib.hid ((((HS4.out.setBlk (k := 0) 4 rfl (.slice none 0 0)).setBlk (k := 1) 4 rfl (.slice none 0 0)).setBlk (k := 2) 4 rfl (.slice none 0 0)).atW hWR)
      have u0 := HSF.out.cell (k := 0) 4 rfl rfl
      have u1 := HSF.out.cell (k := 1) 4 rfl rfl
      have u2 := HSF.out.cell (k := 2) 4 rfl rfl
      have z0 := HS4.out.cell (k := 0) 4 rfl rfl
      have z1 := HS4.out.cell (k := 1) 4 rfl rfl
      have z2 := HS4.out.cell (k := 2) 4 rfl rfl
      have y0 := HS4.out.frz (k := 0) 4 rfl
      have y1 := HS4.out.frz (k := 1) 4 rfl
      have y2 := HS4.out.frz (k := 2) 4 rfl
      go_wp2
      rw [HF.out]
      exact bodyPost_ret (v := .tuple #[.agg #[.slice none 0 0, .slice none 0 0, .slice none 0 0], .slice none 0 0, .bool false]) (by simp [results, Tryz.results11, go_sem, u0, u1, u2]) rfl (playNoH HSF.out.bel0)
    · have h60' : decide ((60 : Int) < (n : Nat)) = false := decide_eq_false (by omega)
      have h60'' : ¬ (60 : Int) < (n : Nat) := by omega
      obtain ⟨m, rfl⟩ : ∃ m : Nat, parts = m := ⟨parts.toNat, by have := Pl.isIn_iff.1 HIN.out; omega⟩
      have hm : 1 ≤ m ∧ m ≤ 3 := by have := Pl.isIn_iff.1 HIN.out; omega
      have hhm : h = Pl.newHo m := by
        rw [← HH0.out]
        unfold Pl.newHouse
        rw [if_pos HIN.out, Int.toNat_natCast]
      have HHO : Hid (Pl.HouseOk h) := by show _; rw [hhm]; exact Pl.newHo_ok hm.1 hm.2
      have HF : Hid (Pl.playHo m l = (Pl.runH h l, Pl.runD h l, true)) := by
        show _ = _
        unfold Pl.playHo
        rw [if_pos ⟨HIN.out, by have := HLN.out; omega⟩, Int.toNat_natCast, hhm]
      obtain rfl : m4 = m3 := by have := HHO.out.hdn; omega
      obtain rfl : m5 = m4 := by have := HHO.out.kpn; omega
      clear hhm hm l3 l4 l5
      obtain ⟨iB, qB, qB0, qB1, qB2⟩ := info_parts Tryz.infoBoolY
      have HSA : Hid (HoSep w WF h gp [Mm.tsl Mm.bool 4 [] (.slice none 0 0) [], Mm.tblk gz 27 [.slice none 0 0, .slice none 0 0, .slice none 0 0]]) :=
        ⟨m5, A3, k3, f3, A4, k4, f4, A5, k5, f5, (HS4.out.add (Below.refl _ _) (t := Mm.tsl Mm.bool 4 [] (.slice none 0 0) []) Mm.SlOwn.nil List.nodup_nil (fun b hb => by cases hb)).sel [2, 3, 4, 1, 0, 5] (by decide) rfl⟩
      clear HS4
      go_upto_region 6 with fail
      go_loopg [9, 29] n (fun gg d_ i_ wr => ∃ (k : Nat) (A' : Option Addr) (c' : Nat) (fq : List Nat), n - k ≤ gg ∧ k ≤ n ∧ i_ = .int .i64 (k : Nat) ∧ d_ = .slice A' k c' ∧ Hid (HoSep w wr (Pl.runH h (l.take k)) gp [Mm.tsl Mm.bool 4 (Pl.runD h (l.take k)) (.slice A' k c') fq, Mm.tblk gz 27 [.slice none 0 0, .slice none 0 0, .slice none 0 0]]))
      case atStart => exact ⟨0, none, 0, [], by omega, by omega, rfl, rfl, HSA.out⟩
      case round =>
        clear HSA
        obtain ⟨k, A', c', fq, hgk, hk', rfl, rfl, HS⟩ := hrel
        obtain ⟨W, rfl⟩ : ∃ W : World, W = wr := ⟨_, rfl⟩
        by_cases hlt : k < n
        · have fc : (k : Int) < (n : Nat) := by omega
          obtain ⟨n1, AL, cL, fL, AH, cH, fH, AK, cK, fK, hS⟩ := HS.out
          have HSB := Lib.hid hS
          clear hS HS
          obtain ⟨x, bx, ox, hx, rfl, hbx, ik, ip, inm, iat, ivl, e0, e1, e2, e3, e4⟩ := rHouseStep_get (HL.out.keep (w' := W) fun b hb => HSB.out.bel0.block b (by have := HBW.out; omega)) hlt
          have HNX := Lib.hid (Mm.take_succ_some hx)
          have HXI : Hid (StepI x) := ⟨ik, ip, inm, iat, ivl⟩
          clear ik ip inm iat ivl hx
          obtain ⟨gx, hgx⟩ : ∃ g, W.heap.size = g := ⟨_, rfl⟩
          obtain ⟨W1, hW1⟩ : ∃ V, W.alloc (.cells #[.int .i64 x.Kind, .int .i64 x.Part, .string x.What.Name, .int .i64 x.What.At, .int .i64 x.What.Value] 57) = V := ⟨_, rfl⟩
          have HS1 := Lib.hid ((HSB.out.alloc' hgx 57 [.int .i64 x.Kind, .int .i64 x.Part, .string x.What.Name, .int .i64 x.What.At, .int .i64 x.What.Value]).atW hW1)
          go_upto_region 8 with fail
          clear hW1 hgx HSB e0 e1 e2 e3 e4
          have s0 := HS1.out.cell (k := 0) 0 rfl rfl
          have s1 := HS1.out.cell (k := 1) 0 rfl rfl
          have s2 := HS1.out.cell (k := 2) 0 rfl rfl
          have s3 := HS1.out.cell (k := 3) 0 rfl rfl
          have s4 := HS1.out.cell (k := 4) 0 rfl rfl
          have d0 := HS1.out.cell (k := 0) 4 rfl rfl
          have d1 := HS1.out.cell (k := 1) 4 rfl rfl
          have d2 := HS1.out.cell (k := 2) 4 rfl rfl
          have HKO := Lib.hid (HHO.out.run (l.take k))
          obtain ⟨hk, hhk⟩ : ∃ x, Pl.runH h (l.take k) = x := ⟨_, rfl⟩
          have HHK := Lib.hid hhk
          rw [hhk] at HS1 HKO
          have how : rHouse.own W1 hk [.slice AL n1 cL, .slice AH n1 cH, .slice AK n1 cK] (fL ++ (fH ++ fK)) := rHouse_own_mk (HS1.out.sl 1 rfl) (HS1.out.sl 2 rfl) (HS1.out.sl 3 rfl)
          have HAT := Lib.hid (rHouse.weak how (rHouse.olt how) (B := W1.heap.size))
          obtain ⟨ok, hok⟩ : ∃ b, (Pl.stepS hk x).2 = b := ⟨_, rfl⟩
          obtain ⟨h2, hh2⟩ : ∃ y, (Pl.stepS hk x).1 = y := ⟨_, rfl⟩
          have HOK := Lib.hid hok
          have HH2 := Lib.hid hh2
          clear hok hh2 how hhk
          refine Mm.wp_region_give 9 (fun i => match i with | 1 => some (gHoA hk) | 3 => some (gHoS h2 ok) | 7 => some (Mm.gPtr 27 [.slice none 0 0, .slice none 0 0, .slice none 0 0]) | 8 => some (Mm.gSto 27) | _ => none) (fun i => match i with | 3 => [1] | 8 => [7] | _ => []) (fun _ => []) (F := []) (D := fun w' => ∃ x : Und W1, w' = und W1 x) (fun X us h => Mm.sep_und h) (by kernel_rfl) (by kernel_rfl) (by kernel_rfl) (Mm.SepF.startDrew _) ?_
          repeat (refine Mm.give_det (by rfl) (by rfl) (by rfl) (fun K hK => ?_); go_big_quiet_op; refine hK _ ?_; clear hK K)
          refine Mm.give_op0 35 (by rfl) rfl (by rfl) (by rfl) (by rfl) (by rfl) gHoA_in (fun others X hX => ?_) ?_
          · go_wp2_with (go_at_call 54; refine (l17Own_c hk _ X W1.heap.size (rHouse.keep HAT.out fun b hb => hX.bel0.block b hb) hX.bel0.size HKO.out.hos).mono ?_; rintro e w5 ⟨cs5, f5, rfl, ho5, hnd5, hnew5, hb5⟩; obtain ⟨B0, r0, j0, B1, r1, j1, B2, r2, j2, z0, z1, z2, rfl, rfl, -, -, -⟩ := rHouse_own ho5)
            exact ⟨rfl, rfl, _, ⟨B0, r0, j0, B1, r1, j1, B2, r2, j2, _, rfl, rfl⟩, hX.add hb5 (t := Mm.tow rHouse hk _ _) ho5 hnd5 hnew5⟩
          rintro v ds ⟨B0, r0, j0, B1, r1, j1, B2, r2, j2, f5, rfl, rfl⟩
          simp only [Act.put, List.setIfInBounds_toArray, List.set_cons_succ, List.set_cons_zero]
          repeat (refine Mm.give_det (by rfl) (by rfl) (by rfl) (fun K hK => ?_); go_big_quiet_op; refine hK _ ?_; clear hK K)
          refine Mm.give_op1 37 1 (by rfl) rfl (by rfl) (by rfl) (by rfl) rfl (by rfl) _ rfl gHoS_in (fun others X hX => ?_) ?_
          · obtain ⟨E0, u0, i0, E1, u1, i1, E2, u2, i2, z0, z1, z2, hcs, l0, l1, l2, hso⟩ := Mm.SepF.hoOpen (h := hk) (rest := others) hX
            simp only [List.cons.injEq, Value.slice.injEq, and_true] at hcs
            obtain ⟨⟨rfl, rfl, rfl⟩, ⟨rfl, rfl, rfl⟩, rfl, rfl, rfl⟩ := hcs
            obtain rfl : r1 = r0 := by have := HKO.out.hdn; omega
            obtain rfl : r2 = r1 := by have := HKO.out.kpn; omega
            have CS := l17Step_c hk x others HKO.out HXI.out _ W1 X ⟨r2, _, _, _, _, _, _, _, _, _, rfl, hso⟩
            rw [HOK.out, HH2.out] at CS
            go_wp2_with (go_at_call 53; refine CS.mono ?_; rintro e w6 ⟨rfl, hv6⟩; obtain ⟨x0, x1, x2, hs6⟩ := hv6.sep)
            exact ⟨rfl, rfl, _, ⟨_, _, _, _, _, _, _, _, _, _, rfl, rfl⟩, hs6.hoShut⟩
          rintro v ds ⟨C0, t0, k0, C1, t1, k1, C2, t2, k2, f6, rfl, rfl⟩
          simp only [Act.put, List.setIfInBounds_toArray, List.set_cons_succ, List.set_cons_zero]
          repeat (refine Mm.give_det (by rfl) (by rfl) (by rfl) (fun K hK => ?_); go_big_quiet_op; refine hK _ ?_; clear hK K)
          refine Mm.give_op0 12 (by rfl) rfl (by rfl) (by rfl) (by rfl) (by rfl) Mm.gPtr_in (fun others X hX => ?_) ?_
          · go_wp2
            exact Mm.gvq_ptr hX rfl rfl rfl
          rintro v ds ⟨gq, rfl, rfl⟩
          simp only [Act.put, List.setIfInBounds_toArray, List.set_cons_succ, List.set_cons_zero]
          refine Mm.give_store 27 gq [.slice none 0 0, .slice none 0 0, .slice none 0 0] [.slice C0 t0 k0, .slice C1 t1 k1, .slice C2 t2 k2] 7 (by rfl) rfl rfl (by rfl) rfl (by rfl) rfl rfl (fun others X hX => ?_) ?_
          · have y0 := hX.cell (k := 0) 0 rfl rfl
            have y1 := hX.cell (k := 1) 0 rfl rfl
            have y2 := hX.cell (k := 2) 0 rfl rfl
            have x0 := hX.frz (k := 0) 0 rfl
            have x1 := hX.frz (k := 1) 0 rfl
            have x2 := hX.frz (k := 2) 0 rfl
            have hX9 := ((hX.setBlk (k := 0) 0 rfl (.slice C0 t0 k0)).setBlk (k := 1) 0 rfl (.slice C1 t1 k1)).setBlk (k := 2) 0 rfl (.slice C2 t2 k2)
            go_wp2
            exact ⟨rfl, rfl, _, rfl, hX9⟩
          refine Mm.give_nil ?_
          rintro X2 hX
          have HS2 := Lib.hid (HS1.out.join (us := [Mm.tow rHouse h2 [.slice C0 t0 k0, .slice C1 t1 k1, .slice C2 t2 k2] f6, Mm.tblk gq 27 [.slice C0 t0 k0, .slice C1 t1 k1, .slice C2 t2 k2]]) hX)
          clear hX d0 d1 d2 s0 s1 s2 s3 s4 HS1 HAT
          go_upto_region 9 with fail
          cases ok with
          | false =>
            have e2 : h2 = hk := by rw [← HH2.out]; exact Pl.stepS_no HOK.out
            have HS5 := Lib.hid (HS2.out.sel [3, 4, 5, 6, 7, 8] (by decide) rfl)
            have HNE : Hid (Pl.runH h (l.take (k + 1)) = hk) := by show _ = _; rw [HNX.out, Pl.runH_snoc, HHK.out, HH2.out, e2]
            have HND : Hid (Pl.runD h (l.take (k + 1)) = Pl.runD h (l.take k) ++ [false]) := by show _ = _; rw [HNX.out, Pl.runD_snoc, HHK.out, HOK.out]
            clear HS2 e2
            have HPL : Hid ((Pl.runD h (l.take k)).length = k) := by show _ = _; rw [Pl.runD_len, List.length_take]; have := HLN.out; omega
            go_wp2_with (at_builtin; refine Mm.app_list HS5.out 4 rfl rfl (.tmp 42) (.tmp 44) 28 rfl iB _ 1 Tryz.underlying28 qB qB0 qB1 qB2 rfl (by decide) rfl rfl (fun W => ⟨rfl, trivial, rfl⟩) HPL.out (by unfold maxLen; omega) (by omega) ?_; intro g cap w' fp' hs; (have HS6 := Lib.hid hs); clear hs)
            go_roundg (n - (k + 1))
            case measure => omega
            case rel =>
              refine ⟨k + 1, _, cap, fp', Nat.le_refl _, by omega, by go_num, rfl, ?_⟩
              rw [HNE.out, HND.out]
              exact ⟨n1, AL, cL, fL, AH, cH, fH, AK, cK, fK, HS6.out⟩
          | true =>
            have q0 := HS2.out.cell (k := 0) 1 rfl rfl
            have q1 := HS2.out.cell (k := 1) 1 rfl rfl
            have q2 := HS2.out.cell (k := 2) 1 rfl rfl
            have d0 := HS2.out.cell (k := 0) 6 rfl rfl
            have d1 := HS2.out.cell (k := 1) 6 rfl rfl
            have d2 := HS2.out.cell (k := 2) 6 rfl rfl
            have y0 := HS2.out.frz (k := 0) 6 rfl
            have y1 := HS2.out.frz (k := 1) 6 rfl
            have y2 := HS2.out.frz (k := 2) 6 rfl
            go_upto_region 11 with fail
            obtain ⟨X3, hX3⟩ : ∃ V, ((X2.setCell ⟨gp, 0, none⟩ (.slice C0 t0 k0)).setCell ⟨gp, 1, none⟩ (.slice C1 t1 k1)).setCell ⟨gp, 2, none⟩ (.slice C2 t2 k2) = V := ⟨_, rfl⟩
            have hs3 := (((HS2.out.setBlk (k := 0) 6 rfl (.slice C0 t0 k0)).setBlk (k := 1) 6 rfl (.slice C1 t1 k1)).setBlk (k := 2) 6 rfl (.slice C2 t2 k2)).atW hX3
            rw [hX3]
            obtain ⟨E0, u0, i0, E1, u1, i1, E2, u2, i2, fa, fb, fc', hcs, l0, l1, l2, hs4⟩ := Mm.SepF.hoOpen (h := h2) (hs3.sel [0, 6, 7, 8] (by decide) rfl)
            simp only [List.cons.injEq, Value.slice.injEq, and_true] at hcs
            obtain ⟨⟨rfl, rfl, rfl⟩, ⟨rfl, rfl, rfl⟩, rfl, rfl, rfl⟩ := hcs
            have HO2 : Pl.HouseOk h2 := by rw [← HH2.out]; exact HKO.out.step x
            obtain rfl : t1 = t0 := by have := HO2.hdn; omega
            obtain rfl : t2 = t1 := by have := HO2.kpn; omega
            have HS5 := Lib.hid hs4
            have HNE : Hid (Pl.runH h (l.take (k + 1)) = h2) := by show _ = _; rw [HNX.out, Pl.runH_snoc, HHK.out, HH2.out]
            have HND : Hid (Pl.runD h (l.take (k + 1)) = Pl.runD h (l.take k) ++ [true]) := by show _ = _; rw [HNX.out, Pl.runD_snoc, HHK.out, HOK.out]
            clear hs3 hs4 hX3 q0 q1 q2 d0 d1 d2 y0 y1 y2 HS2 HO2 l0 l1 l2
            have HPL : Hid ((Pl.runD h (l.take k)).length = k) := by show _ = _; rw [Pl.runD_len, List.length_take]; have := HLN.out; omega
            go_wp2_with (at_builtin; refine Mm.app_list HS5.out 4 rfl rfl (.tmp 42) (.tmp 44) 28 rfl iB _ 1 Tryz.underlying28 qB qB0 qB1 qB2 rfl (by decide) rfl rfl (fun W => ⟨rfl, trivial, rfl⟩) HPL.out (by unfold maxLen; omega) (by omega) ?_; intro g cap w' fp' hs; (have HS6 := Lib.hid hs); clear hs)
            go_roundg (n - (k + 1))
            case measure => omega
            case rel =>
              refine ⟨k + 1, _, cap, fp', Nat.le_refl _, by omega, by go_num, rfl, ?_⟩
              rw [HNE.out, HND.out]
              exact ⟨t2, C0, k0, fa, C1, k1, fb, C2, k2, fc', HS6.out⟩
        · obtain rfl : k = n := by omega
          have fc : ¬ ((k : Nat) : Int) < (k : Nat) := by omega
          rw [List.take_of_length_le (by have := HLN.out; omega)] at HS
          obtain ⟨n1, AL, cL, fL, AH, cH, fH, AK, cK, fK, hS⟩ := HS.out
          have HSV := Lib.hid hS
          clear hS HS
          have p0 := HSV.out.cell (k := 0) 3 rfl rfl
          have p1 := HSV.out.cell (k := 1) 3 rfl rfl
          have p2 := HSV.out.cell (k := 2) 3 rfl rfl
          have HXO := Lib.hid (HHO.out.run l)
          obtain ⟨hx, hhx⟩ : ∃ x, Pl.runH h l = x := ⟨_, rfl⟩
          rw [hhx] at HSV HXO HF
          have how : rHouse.own W hx [.slice AL n1 cL, .slice AH n1 cH, .slice AK n1 cK] (fL ++ (fH ++ fK)) := rHouse_own_mk (HSV.out.sl 0 rfl) (HSV.out.sl 1 rfl) (HSV.out.sl 2 rfl)
          have CO := l17Own_c hx _ W W.heap.size (rHouse.weak how (rHouse.olt how)) (Nat.le_refl _) HXO.out.hos
          clear how hhx
          go_wp2_with fail
          refine CO.mono ?_
          rintro e w9 ⟨cs9, fp9, rfl, ho9, hnd9, hnew9, hb9⟩
          obtain ⟨W9, rfl⟩ : ∃ W : World, W = w9 := ⟨_, rfl⟩
          have hs9 := HSV.out.add hb9 (t := Mm.tow rHouse hx cs9 fp9) ho9 hnd9 hnew9
          obtain ⟨B0, r0, e0, B1, r1, e1, B2, r2, e2, j0, j1, j2, rfl, -, -, -, hs9⟩ := hs9.hoOpen
          have HS9 := Lib.hid hs9
          clear CO ho9 hnd9 hnew9 hb9 hs9 p0 p1 p2 HSV
          obtain ⟨WR, hWR⟩ : ∃ V, ((W9.setCell ⟨gz, 0, none⟩ (.slice B0 r0 e0)).setCell ⟨gz, 1, none⟩ (.slice B1 r1 e1)).setCell ⟨gz, 2, none⟩ (.slice B2 r2 e2) = V := ⟨_, rfl⟩
          have HSF := Lib.hid ((((HS9.out.setBlk (k := 0) 8 rfl (.slice B0 r0 e0)).setBlk (k := 1) 8 rfl (.slice B1 r1 e1)).setBlk (k := 2) 8 rfl (.slice B2 r2 e2)).atW hWR)
          have u0 := HSF.out.cell (k := 0) 8 rfl rfl
          have u1 := HSF.out.cell (k := 1) 8 rfl rfl
          have u2 := HSF.out.cell (k := 2) 8 rfl rfl
          have z0 := HS9.out.cell (k := 0) 8 rfl rfl
          have z1 := HS9.out.cell (k := 1) 8 rfl rfl
          have z2 := HS9.out.cell (k := 2) 8 rfl rfl
          have y0 := HS9.out.frz (k := 0) 8 rfl
          have y1 := HS9.out.frz (k := 1) 8 rfl
          have y2 := HS9.out.frz (k := 2) 8 rfl
          go_wp2
          rw [HF.out]
          exact bodyPost_ret (v := .tuple #[.agg #[.slice B0 r0 e0, .slice B1 r1 e1, .slice B2 r2 e2], .slice A' k c', .bool true]) (by simp [results, Tryz.results11, go_sem, u0, u1, u2]) rfl ⟨_, A', k, c', _, _, rfl, (HSF.out.hoShut (h := hx)).sel [0, 5] (by decide) rfl⟩
end Go.Proofs.YtbhmdnjammnlnaaGreatDoor

namespace Go.Proofs.YtbhmdnjammnlnaaGreatDoor
open Go.RowKit
namespace Pl
end Pl
end Go.Proofs.YtbhmdnjammnlnaaGreatDoor

namespace Go.Proofs.YtbhmdnjammnlnaaGreatDoor
open Go.RowKit
namespace Pl
def saysK (h : House) (k : Nat) : List Say := (saysOf (h.Logs.length : Int) (k : Int) (lRecs (logK h k).Pieces)).getD []
theorem saysK_of {h : House} {k : Nat} {g : Log} {a b : Head} {l : List Say} (hg : h.Logs[k]? = some g) (p : PartOk h.Logs.length k g a b l) : saysK h k = l := by
  unfold saysK
  rw [logK_of hg, p.txt]; rfl
theorem HouseOk.says {h : House} (H : HouseOk h) {k : Nat} (hk : k < h.Logs.length) : ∃ g a b, h.Logs[k]? = some g ∧ h.Heads[k]? = some a ∧ h.Kept[k]? = some b ∧ PartOk h.Logs.length k g a b (saysK h k) := by
  obtain ⟨g, a, b, l, h1, h2, h3, h4⟩ := H.ex hk
  exact ⟨g, a, b, h1, h2, h3, by rw [saysK_of h1 h4]; exact h4⟩
theorem saysK_logs {h h' : House} (e : h'.Logs = h.Logs) (k : Nat) : saysK h' k = saysK h k := by unfold saysK logK; rw [e]
def told (h : House) (s : HouseStep) : Bool := (stepS h s).2 && decide (s.Kind = 1)
theorem told_iff {h : House} {s : HouseStep} : told h s = true ↔ s.Kind = 1 ∧ (0 ≤ s.Part ∧ s.Part < h.Logs.length) ∧ sayOk s.What = true ∧ partN h.Logs.length s.What.Name = s.Part ∧ appOk (logK h s.Part.toNat) (sayTxt s.What) = true := by
  unfold told
  rw [Bool.and_eq_true, decide_eq_true_eq]
  constructor
  · rintro ⟨h1, h2⟩
    unfold stepS at h1
    by_cases c0 : 0 ≤ s.Part ∧ s.Part < h.Logs.length
    · rw [if_pos c0, if_pos h2] at h1
      split at h1
      · rename_i hc; exact ⟨h2, c0, hc⟩
      · cases h1
    · rw [if_neg c0] at h1; cases h1
  · rintro ⟨h1, h2, h3⟩
    refine ⟨?_, h1⟩
    unfold stepS
    rw [if_pos h2, if_pos h1, if_pos h3]
theorem step_logs {h : House} {s : HouseStep} (ht : told h s = false) : (stepS h s).1.Logs = h.Logs := by
  unfold stepS
  split
  · rename_i c0
    split
    · rename_i c1
      split
      · rename_i c2
        have := told_iff.2 ⟨c1, c0, c2⟩
        rw [ht] at this; cases this
      · rfl
    · split
      · split
        · exact (followS_len _ _).1
        · split
          · rfl
          · split <;> rfl
      · rfl
  · rfl
theorem step_len (h : House) (s : HouseStep) : (stepS h s).1.Logs.length = h.Logs.length := by
  cases ht : told h s with
  | false => rw [step_logs ht]
  | true =>
    obtain ⟨h1, h2, h3, h4, h5⟩ := told_iff.1 ht
    unfold stepS
    rw [if_pos h2, if_pos h1, if_pos ⟨h3, h4, h5⟩]
    exact List.length_set
end Pl
end Go.Proofs.YtbhmdnjammnlnaaGreatDoor

namespace Go.Proofs.YtbhmdnjammnlnaaGreatDoor
open Go.RowKit
namespace Pl
theorem follow_other {h : House} {k i : Nat} (hi : i ≠ k) : headK (followS h k).1 i = headK h i := by
  unfold followS
  split
  · unfold headK
    rw [List.getD_eq_getElem?_getD, List.getElem?_set_ne (fun e => hi e.symm), ← List.getD_eq_getElem?_getD]
  · rfl
theorem folN_other {h : House} {k i : Nat} (hi : i ≠ k) : ∀ j, headK (folN h k j) i = headK h i
  | 0 => rfl
  | j + 1 => (follow_other hi).trans (folN_other hi j)
theorem many_end {h : House} (H : HouseOk h) {k : Nat} (hk : k < h.Logs.length) : (headK (folN h k (manyN h k)) k).Offset = ((saysK h k).length : Int) := by
  obtain ⟨g, a, b, g1, g2, g3, g4⟩ := H.says hk
  have h1 := folN_off H hk (j := manyN h k) (Nat.le_refl _)
  have hm := g4.mo
  have hle := (g4.hdf.ok g4.sayOk (by have := g4.len; omega)).2.1
  have hr : (lRecs g.Pieces).length = (saysK h k).length := by rw [g4.says.1, List.length_map]
  have hM : manyN h k = ((lRecs (logK h k).Pieces).length : Int).toNat - (headK h k).Offset.toNat := rfl
  rw [headK_of g2, logK_of g1] at hM
  rw [h1, headK_of g2]
  omega
theorem catch_off {h : House} (H : HouseOk h) : ∀ k, k ≤ h.Logs.length → ∀ i, i < k → (headK (catchN h k).1 i).Offset = ((saysK h i).length : Int)
  | 0, _, i, hi => absurd hi (by omega)
  | k + 1, hk, i, hi => by
    have hl := catchN_len h k
    have HC := H.catchN k
    show (headK (folN (catchN h k).1 k (manyN (catchN h k).1 k)) i).Offset = _
    by_cases e : i = k
    · subst e
      rw [many_end HC (by rw [hl]; omega), saysK_logs hl]
    · rw [folN_other e, catch_off H k (by omega) i (by omega)]
end Pl
end Go.Proofs.YtbhmdnjammnlnaaGreatDoor

namespace Go.Proofs.YtbhmdnjammnlnaaGreatDoor
open Go.RowKit
namespace Pl
end Pl
end Go.Proofs.YtbhmdnjammnlnaaGreatDoor

namespace Go.Proofs.YtbhmdnjammnlnaaGreatDoor
open Go.RowKit
namespace Pl
end Pl
end Go.Proofs.YtbhmdnjammnlnaaGreatDoor

namespace Go.Proofs.YtbhmdnjammnlnaaGreatDoor
open Go.RowKit
namespace Pl
theorem catch_part {h : House} (H : HouseOk h) {k : Nat} (hk : k < h.Logs.length) : ∃ g a, (catchN h h.Logs.length).1.Logs[k]? = some g ∧ (catchN h h.Logs.length).1.Heads[k]? = some a ∧ LogOk g ∧ endOf g = ((saysK h k).length : Int) ∧ a.Offset = endOf g ∧ headK (catchN h h.Logs.length).1 k = a := by
  have hl := catchN_len h h.Logs.length
  obtain ⟨g, a, b, g1, g2, g3, g4⟩ := (H.catchN h.Logs.length).says (k := k) (by rw [hl]; exact hk)
  have ho := catch_off H _ (Nat.le_refl _) k hk
  rw [saysK_logs hl] at g4
  have he : endOf g = ((saysK h k).length : Int) := by
    rw [g4.log.end_, g4.fr, g4.says.1, List.length_map]; omega
  refine ⟨g, a, g1, g2, g4.log, he, ?_, headK_of g2⟩
  rw [he, ← ho, headK_of g2]
theorem step_mono {h : House} (H : HouseOk h) (s : HouseStep) (hk4 : s.Kind ≠ 4) (k : Nat) : (headK h k).Offset ≤ (headK (stepS h s).1 k).Offset := by
  unfold stepS
  split
  · rename_i hp
    split
    · split <;> exact Int.le_refl _
    · split
      · split
        · by_cases e : k = s.Part.toNat
          · subst e
            unfold followS
            split
            · unfold headK
              rw [List.getD_eq_getElem?_getD, List.getD_eq_getElem?_getD, List.getElem?_set_self (by rw [H.hdn]; omega)]
              show _ ≤ (takeS _ _).1.Offset
              rw [takeS_off]; omega
            · exact Int.le_refl _
          · rw [follow_other e]; exact Int.le_refl _
        · split
          · exact Int.le_refl _
          · exact Int.le_refl _
      · exact Int.le_refl _
  · exact Int.le_refl _
theorem tell_end {h : House} (H : HouseOk h) {s : HouseStep} (hk : s.Kind = 1) (hs : (stepS h s).2 = true) :
    ∃ (k : Nat) (g : Log) (a : Head), s.Part = (k : Int) ∧ k < h.Logs.length ∧ (stepS h s).1.Logs[k]? = some g ∧ (stepS h s).1.Heads[k]? = some a ∧ LogOk g ∧ 0 ≤ endOf g ∧ endOf g ≤ 60 ∧ a.Offset ≤ endOf g ∧
      word false s.What.Name.data.toList = true ∧ askHd (stepS h s).1 s.What.Name = a ∧ (askHd (catchN (stepS h s).1 (stepS h s).1.Logs.length).1 s.What.Name).Offset = endOf g := by
  have ht : told h s = true := by unfold told; rw [hs, decide_eq_true hk]; rfl
  obtain ⟨-, hp, hso, hpn, -⟩ := told_iff.1 ht
  have HX := H.step s
  have hl := step_len h s
  obtain ⟨k, hkp⟩ : ∃ k : Nat, s.Part = (k : Int) := ⟨s.Part.toNat, by omega⟩
  have hkl : k < h.Logs.length := by omega
  obtain ⟨g, a, b, g1, g2, g3, g4⟩ := HX.says (k := k) (by rw [hl]; exact hkl)
  have he : endOf g = ((saysK (stepS h s).1 k).length : Int) := by
    rw [g4.log.end_, g4.fr, g4.says.1, List.length_map]; omega
  have hle := (g4.hdf.ok g4.sayOk (by have := g4.len; omega)).2.1
  have hn := g4.len
  have hpx : partN ((stepS h s).1.Logs.length : Int) s.What.Name = (k : Nat) := by rw [hl, hpn, hkp]
  obtain ⟨g', a', c1, c2, c3, c4, c5, c6⟩ := catch_part HX (k := k) (by rw [hl]; exact hkl)
  have hlc := catchN_len (stepS h s).1 (stepS h s).1.Logs.length
  refine ⟨k, g, a, hkp, hkl, g1, g2, g4.log, by omega, by omega, by omega, sayOk_word hso, askHd_at hpx g2, ?_⟩
  rw [askHd_at (k := k) (by rw [hlc]; exact hpx) c2, c5, c4, he]
end Pl
end Go.Proofs.YtbhmdnjammnlnaaGreatDoor

namespace Go.Proofs.YtbhmdnjammnlnaaGreatDoor
open Go.RowKit
attribute [local go_sem] und_cell World.cell?_alloc_some
def Pl.drawnN : List ByteArray := [⟨#[99, 112, 117]⟩, ⟨#[109, 101, 109]⟩, ⟨#[110, 101, 116]⟩, ⟨#[105, 111]⟩, ⟨#[100, 105, 115, 107]⟩, ⟨#[120]⟩]
structure Pl.SayD (x : Say) : Prop where
  nm : x.Name.size ≤ 20
  at_ : -100 ≤ x.At ∧ x.At ≤ 2000000000
  vl : -2000000000 ≤ x.Value ∧ x.Value ≤ 2000000000
  wd : Pl.word false x.Name.data.toList = true → x.Name ∈ Pl.drawnN
theorem Pl.SayD.of1 {s : ByteArray} {a b : Int} (h1 : s ∈ ([⟨#[99, 112, 117]⟩, ⟨#[109, 101, 109]⟩, ⟨#[100, 105, 115, 107]⟩, ⟨#[110, 101, 116]⟩] : List ByteArray)) (h2 : 0 ≤ a ∧ a ≤ 60) (h3 : -20 ≤ b ∧ b ≤ 80) : Pl.SayD ⟨s, a, b⟩ := by
  have h4 : s ∈ Pl.drawnN ∧ s.size ≤ 20 := by
    unfold Pl.drawnN
    simp only [List.mem_cons, List.not_mem_nil, or_false] at h1 ⊢
    rcases h1 with h | h | h | h <;> (rw [h]; exact ⟨by simp, by decide⟩)
  exact ⟨h4.2, by show -100 ≤ a ∧ a ≤ _; omega, by show _ ≤ b ∧ b ≤ _; omega, fun _ => h4.1⟩
theorem Pl.SayD.of2 {s : ByteArray} {a b : Int} (h1 : s ∈ ([⟨#[]⟩, ⟨#[65]⟩, ⟨#[116, 111, 111, 108, 111, 110, 103, 110, 97, 109, 101]⟩, ⟨#[120]⟩] : List ByteArray)) (h2 : a ∈ ([-1, 1000000000, 1000000001] : List Int)) (h3 : b ∈ ([-1000000000, 1000000001] : List Int)) : Pl.SayD ⟨s, a, b⟩ := by
  have h4 : (Pl.word false s.data.toList = true → s ∈ Pl.drawnN) ∧ s.size ≤ 20 := by
    simp only [List.mem_cons, List.not_mem_nil, or_false] at h1
    rcases h1 with h | h | h | h <;> rw [h]
    · exact ⟨fun h => absurd h (by decide), by decide⟩
    · exact ⟨fun h => absurd h (by decide), by decide⟩
    · exact ⟨fun h => absurd h (by decide), by decide⟩
    · exact ⟨fun _ => by unfold Pl.drawnN; simp, by decide⟩
  simp only [List.mem_cons, List.not_mem_nil, or_false] at h2 h3
  exact ⟨h4.2, by show -100 ≤ a ∧ a ≤ _; omega, by show _ ≤ b ∧ b ≤ _; omega, h4.1⟩
set_option maxRecDepth 100000 in
set_option maxHeartbeats 4000000 in
theorem say_c (code : List Int) (A : Option Addr) (n c g K : Nat) (w : World) (B : Nat) (hc : Mm.SlAt Mm.u8 w B code A n c) (hBg : B ≤ g) (h : (Mm.tcur 128 A n c g K).holds w) (hK : K < 4611686018427370000) :
    Calls Tryz.prog 136 #[.pointer (some ⟨g, 0, none⟩)] w fun e w' => ∃ x : Say, e = .returned (.agg #[.string x.Name, .int .i64 x.At, .int .i64 x.Value]) ∧ Pl.SayD x ∧ Mm.Left [g] w w' (Mm.tcur 128 A n c g (K + 10)) := by
  have hgw : g < w.heap.size := (Mm.tcur 128 A n c g K).lt h g (by simp [Mm.tcur])
  have HC := Lib.hid hc
  obtain ⟨gz, hgz⟩ : ∃ g, w.heap.size = g := ⟨_, rfl⟩
  obtain ⟨W0, hW0⟩ : ∃ W, w.alloc (.cells #[.string ⟨#[]⟩, .int .i64 0, .int .i64 0] 55) = W := ⟨_, rfl⟩
  have H0 : Mm.SepF [g] w w [Mm.tcur 128 A n c g K] := Mm.SepF.one (Mm.tcur 128 A n c g K) w h (by simp [Mm.tcur])
  have HS0 := Lib.hid ((H0.alloc' hgz 55 [.string ⟨#[]⟩, .int .i64 0, .int .i64 0]).atW hW0)
  clear hc h H0
  go_enter Tryz.func136, Tryz.ntmps136
  go_upto_region 1 with fail
  clear hW0
  go_upto_if 4 with ((go_at_call 135); (refine (one_c code A n c g _ _ _ B (HC.out.keep fun b hb => HS0.out.chg.block b (by omega) (by simp; omega)) hBg (HS0.out.at_ 1 rfl) (by omega) (by omega)).mono ?_); (rintro e w1 ⟨b1, rfl, hL⟩); ((have HS := Lib.hid (HS0.out.call 1 rfl hL))); (clear hL))
  obtain ⟨W1, rfl⟩ : ∃ W : World, W = w1 := ⟨_, rfl⟩
  cases b1
  · have HA := Lib.hid (HS.out.alloc' rfl 9 [.string ⟨#[99, 112, 117]⟩, .string ⟨#[109, 101, 109]⟩, .string ⟨#[100, 105, 115, 107]⟩, .string ⟨#[110, 101, 116]⟩])
    go_wp2_with fail
    (go_at_call 100); (refine (of_c code A n c g _ ([⟨#[99, 112, 117]⟩, ⟨#[109, 101, 109]⟩, ⟨#[100, 105, 115, 107]⟩, ⟨#[110, 101, 116]⟩]) _ 4 _ B (HC.out.keep fun b hb => HA.out.chg.block b (by omega) (by simp; omega)) hBg (HA.out.at_ 2 rfl) (by omega) (HA.out.at_ 0 rfl) (by have := HS.out.chg.size; omega) rfl (by omega) (by omega)).mono ?_); (rintro e w1 ⟨s, rfl, hs, hL⟩); ((have HS2 := Lib.hid ((HA.out.call 2 rfl hL).tail))); (clear hL)
    go_wp2_with fail
    (go_at_call 88); (refine (pick_c code A n c g _ _ _ B (HC.out.keep fun b hb => HS2.out.chg.block b (by omega) (by simp; omega)) hBg (HS2.out.at_ 1 rfl) (by omega) (by omega)).mono ?_); (rintro e w1 ⟨a1, rfl, a10, a1x, a11, hL⟩); ((have HS := Lib.hid (HS2.out.call 1 rfl hL))); (clear hL)
    go_wp2_with fail
    (go_at_call 88); (refine (pick_c code A n c g _ _ _ B (HC.out.keep fun b hb => HS.out.chg.block b (by omega) (by simp; omega)) hBg (HS.out.at_ 1 rfl) (by omega) (by omega)).mono ?_); (rintro e w1 ⟨a2, rfl, a20, a2x, a21, hL⟩); ((have HS := Lib.hid (HS.out.call 1 rfl hL))); (clear hL)
    obtain ⟨W2, rfl⟩ : ∃ W : World, W = w1 := ⟨_, rfl⟩
    have hw : IntKind.i64.wrap (a2 - 20) = a2 - 20 := IntWalk.i64_in _ (by omega)
    have hd := Lib.hid (Pl.SayD.of1 hs (a := a1) (b := a2 - 20) ⟨a10, by have := a11 (by omega); omega⟩ ⟨by omega, by have := a21 (by omega); omega⟩)
    have c0 := HS.out.cell (k := 0) 0 rfl rfl
    have c1 := HS.out.cell (k := 1) 0 rfl rfl
    have c2 := HS.out.cell (k := 2) 0 rfl rfl
    have z0 := HS.out.frz (k := 0) 0 rfl
    have z1 := HS.out.frz (k := 1) 0 rfl
    have z2 := HS.out.frz (k := 2) 0 rfl
    have HSF := Lib.hid (((HS.out.setBlk (k := 0) 0 rfl (.string s)).setBlk (k := 1) 0 rfl (.int .i64 a1)).setBlk (k := 2) 0 rfl (.int .i64 (a2 - 20)))
    go_wp2_with fail
    have r0 := HSF.out.cell (k := 0) 0 rfl rfl
    have r1 := HSF.out.cell (k := 1) 0 rfl rfl
    have r2 := HSF.out.cell (k := 2) 0 rfl rfl
    exact bodyPost_ret (v := .agg #[.string s, .int .i64 a1, .int .i64 (a2 - 20)]) (by simp [results, Tryz.results136, go_sem, r0, r1, r2]) rfl ⟨⟨s, a1, a2 - 20⟩, rfl, hd.out, (HSF.out.tail.more 0 rfl (by omega)).left⟩
  · have HA := Lib.hid (HS.out.alloc' rfl 9 [.string ⟨#[]⟩, .string ⟨#[65]⟩, .string ⟨#[116, 111, 111, 108, 111, 110, 103, 110, 97, 109, 101]⟩, .string ⟨#[120]⟩])
    go_wp2_with fail
    (go_at_call 100); (refine (of_c code A n c g _ ([⟨#[]⟩, ⟨#[65]⟩, ⟨#[116, 111, 111, 108, 111, 110, 103, 110, 97, 109, 101]⟩, ⟨#[120]⟩]) _ 4 _ B (HC.out.keep fun b hb => HA.out.chg.block b (by omega) (by simp; omega)) hBg (HA.out.at_ 2 rfl) (by omega) (HA.out.at_ 0 rfl) (by have := HS.out.chg.size; omega) rfl (by omega) (by omega)).mono ?_); (rintro e w1 ⟨s, rfl, hs, hL⟩); ((have HS2 := Lib.hid ((HA.out.call 2 rfl hL).tail))); (clear hL)
    have HA2 := Lib.hid (HS2.out.alloc' rfl 3 [.int .i64 (-1), .int .i64 1000000000, .int .i64 1000000001])
    have gw2 : g < w1.heap.size := Nat.lt_of_lt_of_le hgw HS2.out.chg.size
    go_wp2_with fail
    (go_at_call 101); (refine (among_c code A n c g _ ([-1, 1000000000, 1000000001]) _ 3 _ B (HC.out.keep fun b hb => HA2.out.chg.block b (by omega) (by simp; omega)) hBg (HA2.out.at_ 2 rfl) (by omega) (HA2.out.at_ 0 rfl) (by have := HS2.out.chg.size; omega) rfl (by omega) (by omega)).mono ?_); (rintro e w1 ⟨a1, rfl, ha1, hL⟩); ((have HS3 := Lib.hid ((HA2.out.call 2 rfl hL).tail))); (clear hL)
    have HA3 := Lib.hid (HS3.out.alloc' rfl 3 [.int .i64 (-1000000000), .int .i64 1000000001])
    have gw3 : g < w1.heap.size := Nat.lt_of_lt_of_le hgw HS3.out.chg.size
    go_wp2_with fail
    (go_at_call 101); (refine (among_c code A n c g _ ([-1000000000, 1000000001]) _ 2 _ B (HC.out.keep fun b hb => HA3.out.chg.block b (by omega) (by simp; omega)) hBg (HA3.out.at_ 2 rfl) (by omega) (HA3.out.at_ 0 rfl) (by have := HS3.out.chg.size; omega) rfl (by omega) (by omega)).mono ?_); (rintro e w1 ⟨a2, rfl, ha2, hL⟩); ((have HS := Lib.hid ((HA3.out.call 2 rfl hL).tail))); (clear hL)
    obtain ⟨W2, rfl⟩ : ∃ W : World, W = w1 := ⟨_, rfl⟩
    have hd := Lib.hid (Pl.SayD.of2 hs ha1 ha2)
    have c0 := HS.out.cell (k := 0) 0 rfl rfl
    have c1 := HS.out.cell (k := 1) 0 rfl rfl
    have c2 := HS.out.cell (k := 2) 0 rfl rfl
    have z0 := HS.out.frz (k := 0) 0 rfl
    have z1 := HS.out.frz (k := 1) 0 rfl
    have z2 := HS.out.frz (k := 2) 0 rfl
    have HSF := Lib.hid (((HS.out.setBlk (k := 0) 0 rfl (.string s)).setBlk (k := 1) 0 rfl (.int .i64 a1)).setBlk (k := 2) 0 rfl (.int .i64 a2))
    clear ha1 ha2
    go_wp2_with fail
    have r0 := HSF.out.cell (k := 0) 0 rfl rfl
    have r1 := HSF.out.cell (k := 1) 0 rfl rfl
    have r2 := HSF.out.cell (k := 2) 0 rfl rfl
    exact bodyPost_ret (v := .agg #[.string s, .int .i64 a1, .int .i64 a2]) (by simp [results, Tryz.results136, go_sem, r0, r1, r2]) rfl ⟨⟨s, a1, a2⟩, rfl, hd.out, (HSF.out.tail.more 0 rfl (by omega)).left⟩
structure Pl.StepD (s : HouseStep) : Prop where
  kd : 0 ≤ s.Kind ∧ s.Kind ≤ 6
  pt : -1 ≤ s.Part ∧ s.Part ≤ 5
  say : Pl.SayD s.What
theorem Pl.SayD.zero : Pl.SayD ⟨⟨#[]⟩, 0, 0⟩ := ⟨by decide, by decide, by decide, fun h => absurd h (by decide)⟩
theorem Pl.SayD.tell {s : ByteArray} {a b : Int} (h1 : s ∈ ([⟨#[99, 112, 117]⟩, ⟨#[109, 101, 109]⟩, ⟨#[110, 101, 116]⟩, ⟨#[105, 111]⟩] : List ByteArray)) (h2 : -1 ≤ a ∧ a ≤ 1000) (h3 : -20 ≤ b ∧ b ≤ 80) : Pl.SayD ⟨s, a, b⟩ := by
  have h4 : s ∈ Pl.drawnN ∧ s.size ≤ 20 := by
    unfold Pl.drawnN
    simp only [List.mem_cons, List.not_mem_nil, or_false] at h1 ⊢
    rcases h1 with h | h | h | h <;> (rw [h]; exact ⟨by simp, by decide⟩)
  exact ⟨h4.2, by show -100 ≤ a ∧ a ≤ _; omega, by show _ ≤ b ∧ b ≤ _; omega, fun _ => h4.1⟩
theorem Tryz.infoHStep : (Tryz.prog.info? 57).map (fun i => (i.zero, i.size, i.bytes)) = some (some (.agg #[.int .i64 0, .int .i64 0, .string ⟨#[]⟩, .int .i64 0, .int .i64 0]), 5, 48) := by kernel_rfl
set_option maxRecDepth 100000 in
set_option maxHeartbeats 4000000 in
theorem houseSteps_c (code : List Int) (A : Option Addr) (n c g K : Nat) (q : Int) (w : World) (B : Nat) (hc : Mm.SlAt Mm.u8 w B code A n c) (hBg : B ≤ g) (h : (Mm.tcur 128 A n c g K).holds w) (hK : K < 4611686018427360000) (hq : 1 ≤ q ∧ q ≤ 3) :
    Calls Tryz.prog 89 #[.pointer (some ⟨g, 0, none⟩), .int .i64 q] w fun e w' => ∃ (l : List HouseStep) (A1 : Option Addr) (n1 c1 : Nat) (fp : List Nat), e = .returned (.slice A1 n1 c1) ∧ l.length ≤ 61 ∧ (∀ x, x ∈ l → Pl.StepD x) ∧ Mm.SepF [g] w w' [Mm.tsl rHouseStep 57 l (.slice A1 n1 c1) fp, Mm.tcur 128 A n c g (K + 3000)] := by
  have hgw : g < w.heap.size := (Mm.tcur 128 A n c g K).lt h g (by simp [Mm.tcur])
  have HC := Lib.hid hc
  have HS : Hid (Mm.SepF [g] w w [Mm.tcur 128 A n c g K]) := Mm.SepF.one (Mm.tcur 128 A n c g K) w h (by simp [Mm.tcur])
  clear hc h
  go_enter Tryz.func89, Tryz.ntmps89
  go_upto_if 12 with first
    | ((go_at_call 88); (refine (pick_c code A n c g _ _ _ B (HC.out.keep fun b hb => HS.out.chg.block b (by omega) (by simp; omega)) hBg (HS.out.at_ 0 rfl) (by omega) (by omega)).mono ?_); (rintro e w1 ⟨b1, rfl, b10, b1x, b11, hL⟩); ((have HS := Lib.hid (HS.out.call 0 rfl hL))); (clear hL))
    | ((go_at_call 135); (refine (one_c code A n c g _ _ _ B (HC.out.keep fun b hb => HS.out.chg.block b (by omega) (by simp; omega)) hBg (HS.out.at_ 0 rfl) (by omega) (by omega)).mono ?_); (rintro e w1 ⟨b9, rfl, hL⟩); ((have HS := Lib.hid (HS.out.call 0 rfl hL))); (clear hL))
  have b12 := b11 (by omega)
  clear b11
  go_cut [6] (fun s6 wx => ∃ m : Int, s6 = .int .i64 m ∧ 0 ≤ m ∧ m ≤ 61 ∧ Mm.SepF [g] w wx [Mm.tcur 128 A n c g (K + 3)])
  case first =>
    cases b9
    · go_wp2_with fail
      go_meet
      exact ⟨_, rfl, b10, by omega, HS.out.more 0 rfl (by omega)⟩
    · go_wp2_with ((go_at_call 88); (refine (pick_c code A n c g _ _ _ B (HC.out.keep fun b hb => HS.out.chg.block b (by omega) (by simp; omega)) hBg (HS.out.at_ 0 rfl) (by omega) (by omega)).mono ?_); (rintro e w1 ⟨b2, rfl, b20, b2x, b21, hL⟩); ((have HS := Lib.hid (HS.out.call 0 rfl hL))); (clear hL); have b22 := b21 (by omega))
      go_meet
      exact ⟨_, rfl, by omega, by omega, HS.out.more 0 rfl (by omega)⟩
  case rest =>
  obtain ⟨m, rfl, hm0, hm1, HS⟩ := hcut
  have HS := Lib.hid ((HS.add (Below.refl _ _) (t := Mm.tsl rHouseStep 57 [] (.slice none 0 0) []) Mm.SlOwn.nil List.nodup_nil (fun b hb => by cases hb)))
  go_wp2_with fail
  go_loopg [5, 6, 7] 61 (fun gg l nn at_ wr => ∃ (k mm : Nat) (ls : List HouseStep) (A1 : Option Addr) (c1 : Nat) (fp : List Nat) (Kc : Nat) (ta : Int), k ≤ gg ∧ nn = .int .i64 k ∧ Hid (mm = ls.length) ∧ k + mm ≤ 61 ∧ l = .slice A1 mm c1 ∧ at_ = .int .i64 ta ∧ 0 ≤ ta ∧ ta ≤ 4 * mm ∧ Kc + 40 * k ≤ K + 2900 ∧ Hid (∀ x, x ∈ ls → Pl.StepD x) ∧ Hid (Mm.SepF [g] w wr [Mm.tsl rHouseStep 57 ls (.slice A1 mm c1) fp, Mm.tcur 128 A n c g Kc]))
  case atStart => exact ⟨m.toNat, 0, [], none, 0, [], K + 3, 0, by omega, by rw [Int.toNat_of_nonneg hm0], rfl, by omega, rfl, rfl, by omega, by omega, by omega, (fun x hx => by cases hx), HS⟩
  case round =>
    obtain ⟨k, mm, ls, A1, c1, fp, Kc, ta, hkg, rfl, hml, hkm, rfl, rfl, hta0, hta1, hKc, HD, HS⟩ := hrel
    obtain ⟨Wr, rfl⟩ : ∃ Wr : World, Wr = wr := ⟨_, rfl⟩
    by_cases hk0 : 0 < k
    · have hk1 : (0 : Int) < (k : Nat) := by omega
      have HA := Lib.hid (HS.out.alloc' rfl 3 [.int .i64 1, .int .i64 1, .int .i64 1, .int .i64 1, .int .i64 2, .int .i64 2, .int .i64 2, .int .i64 3, .int .i64 4])
      have hgW : g < Wr.heap.size := Nat.lt_of_lt_of_le hgw HS.out.chg.size
      go_wp2_with fail
      (go_at_call 101); (refine (among_c code A n c g _ ([1, 1, 1, 1, 2, 2, 2, 3, 4]) _ 9 _ B (HC.out.keep fun b hb => HA.out.chg.block b (by omega) (by simp; omega)) hBg (HA.out.at_ 2 rfl) (by omega) (HA.out.at_ 0 rfl) (by have := HS.out.chg.size; omega) rfl (by omega) (by omega)).mono ?_); (rintro e w1 ⟨kd, rfl, hkd, hL⟩); ((have HS1 := Lib.hid ((HA.out.call 2 rfl hL).tail))); (clear hL)
      go_wp2_with fail
      (go_at_call 88); (refine (pick_c code A n c g _ _ _ B (HC.out.keep fun b hb => HS1.out.chg.block b (by omega) (by simp; omega)) hBg (HS1.out.at_ 1 rfl) (by omega) (by omega)).mono ?_); (rintro e w1 ⟨pt, rfl, pt0, ptx, pt1, hL⟩); ((have HS := Lib.hid (HS1.out.call 1 rfl hL))); (clear hL)
      obtain ⟨W2, rfl⟩ : ∃ W : World, W = w1 := ⟨_, rfl⟩
      have pt2 := pt1 (by omega)
      clear pt1
      have hkd2 : 1 ≤ kd ∧ kd ≤ 4 := by simp only [List.mem_cons, List.not_mem_nil, or_false] at hkd; omega
      go_upto_region 9 with fail
      obtain ⟨gs, hgs⟩ : ∃ g, W2.heap.size = g := ⟨_, rfl⟩
      obtain ⟨W3, hW3⟩ : ∃ W, W2.alloc (.cells #[.int .i64 kd, .int .i64 pt, .string ⟨#[]⟩, .int .i64 0, .int .i64 0] 57) = W := ⟨_, rfl⟩
      have HSA := Lib.hid ((HS.out.alloc' hgs 57 [.int .i64 kd, .int .i64 pt, .string ⟨#[]⟩, .int .i64 0, .int .i64 0]).atW hW3)
      rw [hW3, hgs]
      clear hW3 hgs hkd HS HS1 HA
      have gw3 : g < W3.heap.size := Nat.lt_of_lt_of_le hgw HSA.out.chg.size
      have s0 := HSA.out.cell (k := 0) 0 rfl rfl
      go_upto_if 29 with fail
      clear s0
      go_cut [7] (fun s7 wx => ∃ (x : HouseStep) (tb : Int), s7 = .int .i64 tb ∧ 0 ≤ tb ∧ tb ≤ ta + 4 ∧ Hid (Pl.StepD x ∧ Mm.SepF [g] w wx [Mm.tblk gs 57 [.int .i64 x.Kind, .int .i64 x.Part, .string x.What.Name, .int .i64 x.What.At, .int .i64 x.What.Value], Mm.tsl rHouseStep 57 ls (.slice A1 mm c1) fp, Mm.tcur 128 A n c g (Kc + 12)]))
      case first =>
        by_cases h1 : kd = 1
        · subst h1
          go_upto_region 11 with ((go_at_call 88); (refine (pick_c code A n c g _ _ _ B (HC.out.keep fun b hb => HSA.out.chg.block b (by omega) (by simp; omega)) hBg (HSA.out.at_ 2 rfl) (by omega) (by omega)).mono ?_); (rintro e w1 ⟨b3, rfl, b30, b3x, b31, hL⟩); ((have HS := Lib.hid (HSA.out.call 2 rfl hL))); (clear hL))
          have b32 := b31 (by omega)
          clear b31
          obtain ⟨W4, rfl⟩ : ∃ W : World, W = w1 := ⟨_, rfl⟩
          obtain ⟨tb, htb⟩ : ∃ tb : Int, ta + b3 = tb := ⟨_, rfl⟩
          have HA := Lib.hid (HS.out.alloc' rfl 9 [.string ⟨#[99, 112, 117]⟩, .string ⟨#[109, 101, 109]⟩, .string ⟨#[110, 101, 116]⟩, .string ⟨#[105, 111]⟩])
          have gw4 : g < W4.heap.size := Nat.lt_of_lt_of_le hgw HS.out.chg.size
          go_wp2_with fail
          (go_at_call 100); (refine (of_c code A n c g _ ([⟨#[99, 112, 117]⟩, ⟨#[109, 101, 109]⟩, ⟨#[110, 101, 116]⟩, ⟨#[105, 111]⟩]) _ 4 _ B (HC.out.keep fun b hb => HA.out.chg.block b (by omega) (by simp; omega)) hBg (HA.out.at_ 3 rfl) (by omega) (HA.out.at_ 0 rfl) (by have := HS.out.chg.size; omega) rfl (by omega) (by omega)).mono ?_); (rintro e w1 ⟨sn, rfl, hsn, hL⟩); ((have HS2 := Lib.hid ((HA.out.call 3 rfl hL).tail))); (clear hL)
          go_wp2_with fail
          (go_at_call 88); (refine (pick_c code A n c g _ _ _ B (HC.out.keep fun b hb => HS2.out.chg.block b (by omega) (by simp; omega)) hBg (HS2.out.at_ 2 rfl) (by omega) (by omega)).mono ?_); (rintro e w1 ⟨b4, rfl, b40, b4x, b41, hL⟩); ((have HS := Lib.hid (HS2.out.call 2 rfl hL))); (clear hL)
          have b42 := b41 (by omega)
          clear b41
          obtain ⟨av, hav⟩ : ∃ av : Int, tb - b4 / 8 = av := ⟨_, rfl⟩
          have hav1 : tb - 2 < av ∧ av ≤ tb := by omega
          go_wp2_with fail
          (go_at_call 88); (refine (pick_c code A n c g _ _ _ B (HC.out.keep fun b hb => HS.out.chg.block b (by omega) (by simp; omega)) hBg (HS.out.at_ 2 rfl) (by omega) (by omega)).mono ?_); (rintro e w1 ⟨b5, rfl, b50, b5x, b51, hL⟩); ((have HS := Lib.hid (HS.out.call 2 rfl hL))); (clear hL)
          have b52 := b51 (by omega)
          clear b51
          have hw5 : IntKind.i64.wrap (b5 - 10) = b5 - 10 := IntWalk.i64_in _ (by omega)
          obtain ⟨W5, rfl⟩ : ∃ W : World, W = w1 := ⟨_, rfl⟩
          have c2 := HS.out.cell (k := 2) 0 rfl rfl
          have c3 := HS.out.cell (k := 3) 0 rfl rfl
          have c4 := HS.out.cell (k := 4) 0 rfl rfl
          have z2 := HS.out.frz (k := 2) 0 rfl
          have z3 := HS.out.frz (k := 3) 0 rfl
          have z4 := HS.out.frz (k := 4) 0 rfl
          go_upto_region 12 with fail
          obtain ⟨W6, hW6⟩ : ∃ W, ((W5.setCell ⟨gs, 2, none⟩ (.string sn)).setCell ⟨gs, 3, none⟩ (.int .i64 av)).setCell ⟨gs, 4, none⟩ (.int .i64 (b5 - 10)) = W := ⟨_, rfl⟩
          have HS6 := Lib.hid ((((HS.out.setBlk (k := 2) 0 rfl (.string sn)).setBlk (k := 3) 0 rfl (.int .i64 av)).setBlk (k := 4) 0 rfl (.int .i64 (b5 - 10))).atW hW6)
          rw [hW6]
          clear hW6 c2 c3 c4 z2 z3 z4 hav
          have hsz : sn.size ≤ maxLen := by
            have h4 : sn.size ≤ 3 := by
              simp only [List.mem_cons, List.not_mem_nil, or_false] at hsn
              rcases hsn with h | h | h | h <;> (rw [h]; decide)
            unfold maxLen; omega
          have hq0 : q ≠ 0 := by omega
          have d1 := HS6.out.cell (k := 1) 0 rfl rfl
          have d2 := HS6.out.cell (k := 2) 0 rfl rfl
          have y1 := HS6.out.frz (k := 1) 0 rfl
          obtain ⟨hv, hhv⟩ : ∃ hv, Pl.hash sn.data.toList = hv := ⟨_, rfl⟩
          have hhb := Pl.hash_bd sn.data.toList
          have CH := l3Hash_c sn W6 hsz
          rw [hhv] at hhb CH
          have htm : hv.tmod q = hv % q := Int.tmod_eq_emod_of_nonneg hhb.1
          obtain ⟨pv, hpv⟩ : ∃ pv : Int, hv % q = pv := ⟨_, rfl⟩
          have hpv0 := Int.emod_nonneg hv hq0
          have hpv1 := Int.emod_lt_of_pos hv (show (0 : Int) < q by omega)
          rw [hpv] at htm hpv0 hpv1
          clear hhv hpv
          go_upto_region 13 with (go_at_call 83; (with_reducible refine CH.mono ?_); rintro e w' ⟨rfl, rfl⟩)
          obtain ⟨W7, hW7⟩ : ∃ W, W6.setCell ⟨gs, 1, none⟩ (.int .i64 pv) = W := ⟨_, rfl⟩
          have HS7 := Lib.hid ((HS6.out.setBlk (k := 1) 0 rfl (.int .i64 pv)).atW hW7)
          rw [hW7]
          clear hW7 d1 d2 y1 HS6 HS CH htm
          have e3 := HS7.out.cell (k := 3) 0 rfl rfl
          have x3 := HS7.out.frz (k := 3) 0 rfl
          by_cases hneg : av < 0
          · have HD1 : Hid (Pl.StepD ⟨1, pv, ⟨sn, 0, b5 - 10⟩⟩) := ⟨⟨by show (0 : Int) ≤ 1; omega, by show (1 : Int) ≤ 6; omega⟩, ⟨by show (-1 : Int) ≤ pv; omega, by show pv ≤ 5; omega⟩, Pl.SayD.tell hsn ⟨by omega, by omega⟩ ⟨by omega, by omega⟩⟩
            go_wp2_with fail
            go_meet
            exact ⟨⟨1, pv, ⟨sn, 0, b5 - 10⟩⟩, tb, rfl, by omega, by omega, ⟨HD1.out, (HS7.out.setBlk (k := 3) 0 rfl (.int .i64 0)).more 2 rfl (by omega)⟩⟩
          · have HD1 : Hid (Pl.StepD ⟨1, pv, ⟨sn, av, b5 - 10⟩⟩) := ⟨⟨by show (0 : Int) ≤ 1; omega, by show (1 : Int) ≤ 6; omega⟩, ⟨by show (-1 : Int) ≤ pv; omega, by show pv ≤ 5; omega⟩, Pl.SayD.tell hsn ⟨by omega, by omega⟩ ⟨by omega, by omega⟩⟩
            go_wp2_with fail
            go_meet
            exact ⟨⟨1, pv, ⟨sn, av, b5 - 10⟩⟩, tb, rfl, by omega, by omega, ⟨HD1.out, HS7.out.more 2 rfl (by omega)⟩⟩
        · have n1 : (kd == 1) = false := by simpa using h1
          go_wp2_with fail
          go_meet
          exact ⟨⟨kd, pt, ⟨⟨#[]⟩, 0, 0⟩⟩, ta, rfl, hta0, by omega, ⟨⟨⟨by show (0 : Int) ≤ kd; omega, by show kd ≤ 6; omega⟩, ⟨by show (-1 : Int) ≤ pt; omega, by show pt ≤ 5; omega⟩, Pl.SayD.zero⟩, HSA.out.more 2 rfl (by omega)⟩⟩
      case rest =>
      clear HSA
      obtain ⟨x, tb, rfl, htb0, htb1, HX⟩ := hcut
      obtain ⟨W8, rfl⟩ : ∃ W : World, W = wc := ⟨_, rfl⟩
      have HS := Lib.hid HX.out.2
      have HDX := Lib.hid HX.out.1
      clear HX
      go_upto_if 61 with ((go_at_call 135); (refine (one_c code A n c g _ _ _ B (HC.out.keep fun b hb => HS.out.chg.block b (by omega) (by simp; omega)) hBg (HS.out.at_ 2 rfl) (by omega) (by omega)).mono ?_); (rintro e w1 ⟨b9, rfl, hL⟩); ((have HS := Lib.hid (HS.out.call 2 rfl hL))); (clear hL))
      go_cut [] (fun wx => ∃ (x : HouseStep), Hid (Pl.StepD x ∧ Mm.SepF [g] w wx [Mm.tblk gs 57 [.int .i64 x.Kind, .int .i64 x.Part, .string x.What.Name, .int .i64 x.What.At, .int .i64 x.What.Value], Mm.tsl rHouseStep 57 ls (.slice A1 mm c1) fp, Mm.tcur 128 A n c g (Kc + 32)]))
      case first =>
        cases b9
        · go_wp2_with fail
          go_meet
          exact ⟨x, ⟨HDX.out, HS.out.more 2 rfl (by omega)⟩⟩
        · go_wp2_with fail
          (go_at_call 88); (refine (pick_c code A n c g _ _ _ B (HC.out.keep fun b hb => HS.out.chg.block b (by omega) (by simp; omega)) hBg (HS.out.at_ 2 rfl) (by omega) (by omega)).mono ?_); (rintro e w1 ⟨k1, rfl, k10, k1x, k11, hL⟩); ((have HS := Lib.hid (HS.out.call 2 rfl hL))); (clear hL)
          have k12 := k11 (by omega)
          clear k11
          go_wp2_with fail
          (go_at_call 88); (refine (pick_c code A n c g _ _ _ B (HC.out.keep fun b hb => HS.out.chg.block b (by omega) (by simp; omega)) hBg (HS.out.at_ 2 rfl) (by omega) (by omega)).mono ?_); (rintro e w1 ⟨k2, rfl, k20, k2x, k21, hL⟩); ((have HS := Lib.hid (HS.out.call 2 rfl hL))); (clear hL)
          have k22 := k21 (by omega)
          clear k21
          have hw5 : IntKind.i64.wrap (k2 - 1) = k2 - 1 := IntWalk.i64_in _ (by omega)
          go_wp2_with fail
          refine (say_c code A n c g _ _ B (HC.out.keep fun b hb => HS.out.chg.block b (by omega) (by simp; omega)) hBg (HS.out.at_ 2 rfl) (by omega)).mono ?_
          rintro e w1 ⟨y, rfl, hy, hL⟩
          have HS2 := Lib.hid (HS.out.call 2 rfl hL)
          clear hL
          obtain ⟨W9, rfl⟩ : ∃ W : World, W = w1 := ⟨_, rfl⟩
          have HY := Lib.hid hy
          clear hy
          have c0 := HS2.out.cell (k := 0) 0 rfl rfl
          have c1' := HS2.out.cell (k := 1) 0 rfl rfl
          have c2 := HS2.out.cell (k := 2) 0 rfl rfl
          have c3 := HS2.out.cell (k := 3) 0 rfl rfl
          have c4 := HS2.out.cell (k := 4) 0 rfl rfl
          have z0 := HS2.out.frz (k := 0) 0 rfl
          have z1 := HS2.out.frz (k := 1) 0 rfl
          have z2 := HS2.out.frz (k := 2) 0 rfl
          have z3 := HS2.out.frz (k := 3) 0 rfl
          have z4 := HS2.out.frz (k := 4) 0 rfl
          have HD1 : Hid (Pl.StepD ⟨k1, k2 - 1, y⟩) := ⟨⟨by show (0 : Int) ≤ k1; omega, by show k1 ≤ 6; omega⟩, ⟨by show (-1 : Int) ≤ k2 - 1; omega, by show k2 - 1 ≤ 5; omega⟩, HY.out⟩
          have HSF := Lib.hid (((((HS2.out.setBlk (k := 0) 0 rfl (.int .i64 k1)).setBlk (k := 1) 0 rfl (.int .i64 (k2 - 1))).setBlk (k := 2) 0 rfl (.string y.Name)).setBlk (k := 3) 0 rfl (.int .i64 y.At)).setBlk (k := 4) 0 rfl (.int .i64 y.Value))
          obtain ⟨WF, hWF⟩ : ∃ W, ((((W9.setCell ⟨gs, 0, none⟩ (.int .i64 k1)).setCell ⟨gs, 1, none⟩ (.int .i64 (k2 - 1))).setCell ⟨gs, 2, none⟩ (.string y.Name)).setCell ⟨gs, 3, none⟩ (.int .i64 y.At)).setCell ⟨gs, 4, none⟩ (.int .i64 y.Value) = W := ⟨_, rfl⟩
          replace HSF := Lib.hid (HSF.out.atW hWF)
          go_wp2_with fail
          go_meet
          exact ⟨⟨k1, k2 - 1, y⟩, ⟨HD1.out, HSF.out.more 2 rfl (by omega)⟩⟩
      case rest =>
      clear HS HDX
      obtain ⟨x, HX⟩ := hcut
      obtain ⟨WA, rfl⟩ : ∃ W : World, W = wc := ⟨_, rfl⟩
      have HS := Lib.hid HX.out.2
      have HDX := Lib.hid HX.out.1
      clear HX
      have s0 := HS.out.cell (k := 0) 0 rfl rfl
      have s1 := HS.out.cell (k := 1) 0 rfl rfl
      have s2 := HS.out.cell (k := 2) 0 rfl rfl
      have s3 := HS.out.cell (k := 3) 0 rfl rfl
      have s4 := HS.out.cell (k := 4) 0 rfl rfl
      have HXO : Hid (Mm.I64 x.Kind ∧ Mm.I64 x.Part ∧ x.What.Name.size ≤ maxLen ∧ Mm.I64 x.What.At ∧ Mm.I64 x.What.Value) := by
        have h := HDX.out
        have h1 := h.kd
        have h2 := h.pt
        have h3 := h.say.nm
        have h4 := h.say.at_
        have h5 := h.say.vl
        refine ⟨?_, ?_, ?_, ?_, ?_⟩ <;> first | (unfold Mm.I64; omega) | (unfold maxLen; omega)
      obtain ⟨i0, hi, hz0, hz1, hz2⟩ := info_parts Tryz.infoHStep
      go_wp2_with (at_builtin; refine Mm.app_list (x := x) HS.out 1 rfl rfl (.tmp 70) (.tmp 72) 31 rfl i0 _ 48 Tryz.underlying31 hi hz0 hz1 hz2 rfl (by decide) rfl rfl (fun W => rHouseStep_own_mk HXO.out) hml.out.symm (by unfold maxLen; omega) (by omega) ?_; intro ga cap w' fp' hs; (have HS4 := Lib.hid hs); clear hs)
      go_roundg (k - 1)
      case measure => omega
      case rel =>
        refine ⟨k - 1, mm + 1, _, _, cap, fp', Kc + 32, tb, Nat.le_refl _, by go_num, by show _ = _; rw [List.length_append, hml.out]; rfl, by omega, rfl, rfl, by omega, by omega, by omega, ?_, HS4.out.tail⟩
        intro z hz
        rcases List.mem_append.1 hz with h | h
        · exact HD.out z h
        · rw [List.mem_singleton.1 h]; exact HDX.out
    · have hk1 : ¬ (0 : Int) < (k : Nat) := by omega
      go_wp2_with fail
      go_ret
      first
        | exact ⟨ls, _, _, _, fp, rfl, by rw [← hml.out]; omega, HD.out, HS.out.more 1 rfl (by omega)⟩
        | exact ⟨ls, _, _, _, rfl, by rw [← hml.out]; omega, HD.out, fp, HS.out.more 1 rfl (by omega)⟩
end Go.Proofs.YtbhmdnjammnlnaaGreatDoor

namespace Go.Proofs.YtbhmdnjammnlnaaGreatDoor
open Go.RowKit
attribute [local go_sem] und_cell cha_cell World.cell?_alloc_some
namespace Pl
theorem sumI_leY {α : Type} {f : α → Int} {c : Int} : ∀ l : List α, (∀ x, x ∈ l → f x ≤ c) → sumI f l ≤ c * (l.length : Int)
  | [], _ => by simp [sumI]
  | x :: t, h => by
    have h1 := sumI_leY t (fun y hy => h y (List.mem_cons_of_mem _ hy))
    have h2 := h x List.mem_cons_self
    show f x + sumI f t ≤ _
    rw [List.length_cons]
    have : c * ((t.length + 1 : Nat) : Int) = c * (t.length : Int) + c := by push_cast; rw [Int.mul_add, Int.mul_one]
    omega
theorem sumI_set {α : Type} {f : α → Int} {y : α} : ∀ {l : List α} {k : Nat} {x : α}, l[k]? = some x → f y = f x → sumI f (l.set k y) = sumI f l
  | [], _, _, h, _ => by cases h
  | z :: t, 0, x, h, e => by
    have : z = x := by simpa using h
    subst this
    show f y + sumI f t = f z + sumI f t
    rw [e]
  | z :: t, k + 1, x, h, e => by
    have h' : t[k]? = some x := by simpa using h
    show f z + sumI f (t.set k y) = f z + sumI f t
    rw [sumI_set h' e]
theorem szl_set {α : Type} {f : α → Int} {y : α} {l : List α} {k : Nat} {x : α} (h : l[k]? = some x) (e : f y = f x) : szl f (l.set k y) = szl f l := by
  unfold szl
  rw [sumI_set h e, List.length_set]
theorem HeadOk.szY {h : Head} (k : HeadOk h) : szHead h ≤ 1000 := by
  have h0 : sumI szRow h.Rows ≤ 60 * (h.Rows.length : Int) := sumI_leY _ (fun x hx => by
    have h1 := sumI_leY (f := sz0) (c := 0) x.Samples (fun y _ => Int.le_refl _)
    have h2 := samplesOk_len (k.row x hx).2.2
    have h3 := (word_len (k.row x hx).1)
    have h4 : x.Name.size = x.Name.data.toList.length := by show x.Name.data.size = _; exact Array.length_toList.symm
    unfold szRow szl szStr
    omega)
  have := k.len
  unfold szHead szl
  omega
theorem LogOk.szY {g : Log} (k : LogOk g) : szLog g ≤ 4000 := by
  have h0 : sumI szPiece g.Pieces ≤ 150 * (g.Pieces.length : Int) := sumI_leY _ (fun x hx => by
    have h1 := sumI_leY (f := sz0) (c := 0) x.Index (fun y _ => Int.le_refl _)
    obtain ⟨i, hi⟩ := List.getElem?_of_mem hx
    have h2 := (k.pc i x hi).1
    have h3 := (pieceOk_whole h2).2
    have h4 := idx3_len (starts x.Bytes)
    have h5 := starts_len x.Bytes
    have h6 := records_len x.Bytes
    have h7 := k.sizes x hx
    rw [← h3] at h4
    unfold szPiece szl szStr
    omega)
  have := k.len.2
  unfold szLog szl
  omega
theorem HouseOk.szY {h : House} (k : HouseOk h) : szHouse h ≤ 50000 := by
  have part : ∀ i, i < h.Logs.length → ∃ g a b l, h.Logs[i]? = some g ∧ h.Heads[i]? = some a ∧ h.Kept[i]? = some b ∧ PartOk h.Logs.length i g a b l := fun i hi => k.ex hi
  have h0 : sumI szLog h.Logs ≤ 4000 * (h.Logs.length : Int) := sumI_leY _ (fun x hx => by
    obtain ⟨i, hi⟩ := List.getElem?_of_mem hx
    obtain ⟨g, a, b, l, h1, h2, h3, h4⟩ := part i (List.getElem?_eq_some_iff.1 hi).1
    rw [hi] at h1; injection h1 with h1; subst h1
    exact h4.log.szY)
  have h1 : sumI szHead h.Heads ≤ 1000 * (h.Heads.length : Int) := sumI_leY _ (fun x hx => by
    obtain ⟨i, hi⟩ := List.getElem?_of_mem hx
    obtain ⟨g, a, b, l, h1, h2, h3, h4⟩ := part i (by have := (List.getElem?_eq_some_iff.1 hi).1; rw [k.hdn] at this; exact this)
    rw [hi] at h2; injection h2 with h2; subst h2
    exact h4.head.szY)
  have h2 : sumI szHead h.Kept ≤ 1000 * (h.Kept.length : Int) := sumI_leY _ (fun x hx => by
    obtain ⟨i, hi⟩ := List.getElem?_of_mem hx
    obtain ⟨g, a, b, l, h1, h2, h3, h4⟩ := part i (by have := (List.getElem?_eq_some_iff.1 hi).1; rw [k.kpn] at this; exact this)
    rw [hi] at h3; injection h3 with h3; subst h3
    exact h4.kept.szY)
  have e1 := k.n3
  have e2 := k.hdn
  have e3 := k.kpn
  unfold szHouse szl
  omega
structure HoD (h : House) : Prop where
  n1 : 1 ≤ h.Logs.length
  n3 : h.Logs.length ≤ 3
  hd : h.Heads.length = h.Logs.length
  sz : szHouse h ≤ 50000
theorem HouseOk.hoD {h : House} (k : HouseOk h) : HoD h := ⟨k.n1, k.n3, k.hdn, k.szY⟩
theorem HoD.head {h : House} (k : HoD h) {a b : Head} (ha : h.Heads[0]? = some a) (e : b.Rows = a.Rows) : HoD ⟨h.Logs, h.Heads.set 0 b, h.Kept⟩ :=
  ⟨k.n1, k.n3, by show (h.Heads.set 0 b).length = _; rw [List.length_set]; exact k.hd, by
    have h1 := szl_set (f := szHead) (y := b) ha (by unfold szHead; rw [e])
    have h2 := k.sz
    unfold szHouse at h2 ⊢
    dsimp only
    rw [h1]; exact h2⟩
theorem HoD.log {h : House} (k : HoD h) {a b : Log} (ha : h.Logs[0]? = some a) (e : b.Pieces = a.Pieces) : HoD ⟨h.Logs.set 0 b, h.Heads, h.Kept⟩ :=
  ⟨by show 1 ≤ (h.Logs.set 0 b).length; rw [List.length_set]; exact k.n1, by show (h.Logs.set 0 b).length ≤ 3; rw [List.length_set]; exact k.n3, by show _ = (h.Logs.set 0 b).length; rw [List.length_set]; exact k.hd, by
    have h1 := szl_set (f := szLog) (y := b) ha (by unfold szLog; rw [e])
    have h2 := k.sz
    unfold szHouse at h2 ⊢
    dsimp only
    rw [h1]; exact h2⟩
theorem HoD.kept {h : House} (k : HoD h) : HoD ⟨h.Logs, h.Heads, []⟩ :=
  ⟨k.n1, k.n3, k.hd, by
    have h2 := k.sz
    have h3 := szl_nn (f := szHead) szHead_nn h.Kept
    unfold szHouse at h2 ⊢
    dsimp only
    have e : szl szHead [] = 0 := rfl
    rw [e]
    omega⟩
end Pl
def HouseDrawn (code : List Int) (A : Option Addr) (n c g K : Nat) (w : World) (e : Ending) (w' : World) : Prop :=
  ∃ (h : House) (A0 : Option Addr) (n0 c0 : Nat) (A1 : Option Addr) (n1 c1 : Nat) (A2 : Option Addr) (n2 c2 : Nat) (fp : List Nat), e = .returned (.agg #[.slice A0 n0 c0, .slice A1 n1 c1, .slice A2 n2 c2]) ∧ Pl.HoD h ∧ Mm.SepF [g] w w' [Mm.tow rHouse h [.slice A0 n0 c0, .slice A1 n1 c1, .slice A2 n2 c2] fp, Mm.tcur 128 A n c g (K + 3100)]
set_option maxRecDepth 100000 in
set_option maxHeartbeats 4000000 in
theorem house_c (code : List Int) (A : Option Addr) (n c g K : Nat) (w : World) (B : Nat) (hc : Mm.SlAt Mm.u8 w B code A n c) (hBg : B ≤ g) (h : (Mm.tcur 128 A n c g K).holds w) (hK : K < 4611686018427350000) :
    Calls Tryz.prog 99 #[.pointer (some ⟨g, 0, none⟩)] w (HouseDrawn code A n c g K w) := by
  have hgw : g < w.heap.size := (Mm.tcur 128 A n c g K).lt h g (by simp [Mm.tcur])
  have HC := Lib.hid hc
  obtain ⟨gr, hgr⟩ : ∃ gr, w.heap.size = gr := ⟨_, rfl⟩
  obtain ⟨W0, hW0⟩ : ∃ W0, w.alloc (.cells #[.slice none 0 0, .slice none 0 0, .slice none 0 0] 27) = W0 := ⟨_, rfl⟩
  have H0 : Mm.SepF [g] w w [Mm.tcur 128 A n c g K] := Mm.SepF.one (Mm.tcur 128 A n c g K) w h (by simp [Mm.tcur])
  have HS := Lib.hid ((H0.alloc' hgr 27 [.slice none 0 0, .slice none 0 0, .slice none 0 0]).atW hW0)
  clear hc h H0
  go_enter Tryz.func99, Tryz.ntmps99
  go_upto_region 1 with fail
  clear hW0
  go_upto_region 2 with ((go_at_call 88); (refine (pick_c code A n c g _ _ _ B (HC.out.keep fun b hb => HS.out.chg.block b (by omega) (by simp; omega)) hBg (HS.out.at_ 1 rfl) (by omega) (by omega)).mono ?_); (rintro e w1 ⟨b1, rfl, b10, b1x, b11, hL⟩); ((have HS := Lib.hid (HS.out.call 1 rfl hL))); (clear hL))
  have b12 := b11 (by omega)
  clear b11
  obtain ⟨mm, hmm⟩ : ∃ mm : Int, 1 + b1 = mm := ⟨_, rfl⟩
  have hmm1 : 1 ≤ mm ∧ mm ≤ 3 := by omega
  go_upto_region 3 with first
    | (go_at_call 89; refine (houseSteps_c code A n c g _ _ _ B (HC.out.keep fun b hb => HS.out.chg.block b (by omega) (by simp; omega)) hBg (HS.out.at_ 1 rfl) (by omega) (by omega)).mono ?_; rintro e w2 ⟨l, A1, n1, c1, fps, rfl, hl, hld, hS⟩; (have HS2 := Lib.hid (HS.out.callAll 1 rfl hS)); clear hS)
    | (go_at_call 11; refine (specPlayHouse_c _ l A1 n1 c1 w2 _ ((HS2.out.sl 2 rfl).weak (HS2.out.sl 2 rfl).olt) (Nat.le_refl _)).mono ?_; rintro e w3 ⟨cs, A2, n2, c2, fp0, fp1, rfl, hs3⟩; obtain ⟨a0, p0, k0, a1, p1, k1, a2, p2, k2, f0, f1, f2, rfl, e0, e1, e2, hs4⟩ := hs3.hoOpen; (have HS3 := Lib.hid (HS2.out.join hs4)); clear hs3 hs4)
  obtain ⟨x, bs, ok, hr⟩ : ∃ x bs ok, Pl.playHo mm l = (x, bs, ok) := ⟨_, _, _, rfl⟩
  have HRR := Lib.hid hr
  rw [hr] at HS3 e0 e1 e2 ⊢
  clear hr
  dsimp only at HS3 e0 e1 e2 ⊢
  obtain ⟨g4, hg4⟩ : ∃ g4, w3.heap.size = g4 := ⟨_, rfl⟩
  obtain ⟨W4, hW4⟩ : ∃ W4, w3.alloc (.cells #[.slice a0 p0 k0, .slice a1 p1 k1, .slice a2 p2 k2] 27) = W4 := ⟨_, rfl⟩
  have HS4 := Lib.hid ((HS3.out.alloc' hg4 27 [.slice a0 p0 k0, .slice a1 p1 k1, .slice a2 p2 k2]).atW hW4)
  rw [hW4, hg4]
  clear hW4 hg4
  have HS5 := Lib.hid (HS4.out.sel [0, 1, 2, 3, 5, 8] (by decide) rfl)
  have HS6 := Lib.hid (HS4.out.sel [0, 5, 8] (by decide) rfl)
  clear HS4 HS3 HS2 HS
  go_upto_if 20 with fail
  go_cut [] (fun wx => ∃ (y : House) (A0 : Option Addr) (n0 c0 : Nat) (A1 : Option Addr) (n1 c1 : Nat) (A2 : Option Addr) (n2 c2 : Nat) (f0 f1 f2 : List Nat), Hid (Pl.HouseOk y) ∧ Hid (Mm.SepF [g] w wx [Mm.tblk g4 27 [.slice A0 n0 c0, .slice A1 n1 c1, .slice A2 n2 c2], Mm.tsl rLog 80 y.Logs (.slice A0 n0 c0) f0, Mm.tsl rHead 73 y.Heads (.slice A1 n1 c1) f1, Mm.tsl rHead 73 y.Kept (.slice A2 n2 c2) f2, Mm.tblk gr 27 [.slice none 0 0, .slice none 0 0, .slice none 0 0], Mm.tcur 128 A n c g (K + 3001)]))
  case first =>
    cases ok with
    | true =>
      have HG : Hid (Pl.HouseOk x) := by
        have h := HRR.out
        unfold Pl.playHo at h
        split at h
        · rename_i hh
          injection h with h1 h2
          have hb := Pl.isIn_iff.1 hh.1
          have h3 := (Pl.newHo_ok (n := mm.toNat) (by omega) (by omega)).run l
          rw [h1] at h3
          exact h3
        · injection h with _ h
          injection h with _ h
          cases h
      go_wp2_with fail
      go_meet
      exact ⟨x, _, _, _, _, _, _, _, _, _, _, _, _, HG, HS5⟩
    | false =>
      have CN := specNewHouse_yes 1 W4 (by omega) (by omega)
      have c0' := HS6.out.cell (k := 0) 0 rfl rfl
      have c1' := HS6.out.cell (k := 1) 0 rfl rfl
      have c2' := HS6.out.cell (k := 2) 0 rfl rfl
      go_wp2_with fail
      refine CN.mono ?_
      clear CN
      rintro e w5 ⟨cs, fp5, rfl, ho, hnd, hnew, hb5⟩
      have HS7 := Lib.hid (HS6.out.add hb5 (t := Mm.tow rHouse (Pl.newHo 1) _ _) ho hnd hnew)
      clear ho hnd hnew hb5
      obtain ⟨q0, j0, u0, q1, j1, u1, q2, j2, u2, f0', f1', f2', rfl, e3, e4, e5, hs8⟩ := HS7.out.hoOpen
      have HS8 := Lib.hid hs8
      clear hs8 e3 e4 e5 c0' c1' c2'
      have d0 := HS8.out.cell (k := 0) 3 rfl rfl
      have d1 := HS8.out.cell (k := 1) 3 rfl rfl
      have d2 := HS8.out.cell (k := 2) 3 rfl rfl
      have z0 := HS8.out.frz (k := 0) 3 rfl
      have z1 := HS8.out.frz (k := 1) 3 rfl
      have z2 := HS8.out.frz (k := 2) 3 rfl
      go_wp2_with fail
      go_meet
      have HS9 := Lib.hid ((((HS8.out.setBlk (k := 0) 3 rfl (.slice q0 j0 u0)).setBlk (k := 1) 3 rfl (.slice q1 j1 u1)).setBlk (k := 2) 3 rfl (.slice q2 j2 u2)).sel [3, 0, 1, 2, 4, 5] (by decide) rfl)
      exact ⟨Pl.newHo 1, _, _, _, _, _, _, _, _, _, _, _, _, Lib.hid (Pl.newHo_ok (n := 1) (by omega) (by omega)), HS9⟩
  case rest =>
  clear HS5 HS6 HRR e0 e1 e2
  obtain ⟨y, A0, n0, c0, A1', n1', c1', A2', n2', c2', f0, f1, f2, HGY, HS⟩ := hcut
  obtain ⟨W5, rfl⟩ : ∃ W5 : World, W5 = wc := ⟨_, rfl⟩
  go_upto_block 0 with ((go_at_call 88); (refine (pick_c code A n c g _ _ _ B (HC.out.keep fun b hb => HS.out.chg.block b (by omega) (by simp; omega)) hBg (HS.out.at_ 5 rfl) (by omega) (by omega)).mono ?_); (rintro e w1 ⟨b2, rfl, b20, b2x, b21, hL⟩); ((have HS := Lib.hid (HS.out.call 5 rfl hL))); (clear hL))
  obtain ⟨W6, rfl⟩ : ∃ W : World, W = w1 := ⟨_, rfl⟩
  have hn1 := HGY.out.n1
  have hd1 := HGY.out.hdn
  have c0' := HS.out.cell (k := 0) 0 rfl rfl
  have c1' := HS.out.cell (k := 1) 0 rfl rfl
  have c2' := HS.out.cell (k := 2) 0 rfl rfl
  go_cut [] (fun wx => ∃ (y : House) (A0 : Option Addr) (n0 c0 : Nat) (A1 : Option Addr) (n1 c1 : Nat) (A2 : Option Addr) (n2 c2 : Nat) (f0 f1 f2 : List Nat), Hid (Pl.HoD y) ∧ Hid (Mm.SepF [g] w wx [Mm.tblk g4 27 [.slice A0 n0 c0, .slice A1 n1 c1, .slice A2 n2 c2], Mm.tsl rLog 80 y.Logs (.slice A0 n0 c0) f0, Mm.tsl rHead 73 y.Heads (.slice A1 n1 c1) f1, Mm.tsl rHead 73 y.Kept (.slice A2 n2 c2) f2, Mm.tblk gr 27 [.slice none 0 0, .slice none 0 0, .slice none 0 0], Mm.tcur 128 A n c g (K + 3002)]))
  case first =>
    by_cases h0 : b2 = 0
    · subst h0
      have hl1 : y.Heads.length = n1' := (HS.out.sl 2 rfl).nlen
      obtain ⟨a, ha⟩ : ∃ a, y.Heads[0]? = some a := ⟨_, List.getElem?_eq_getElem (by omega)⟩
      obtain ⟨ga, hga, -, -⟩ := Mm.sl_addr (HS.out.sl 2 rfl) (by omega)
      subst hga
      obtain ⟨cs, fx, ho, -, -, hcell, -⟩ := HS.out.putIn 2 rfl ha
      obtain ⟨RA, rn, rc, fr, rfl, rfl, hrow, hoi⟩ := rHead_own ho
      have e1 : W6.cell? ⟨ga, 1, none⟩ = some (.int .i64 a.Offset) := hcell 1 _ rfl
      have z1 : W6.frozen? ⟨ga, 1, none⟩ = false := (HS.out.sl 2 rfl).frozen 1
      have hoff := (HGY.out.head ha).off
      have hw : IntKind.i64.wrap (a.Offset + 1) = a.Offset + 1 := IntWalk.i64_in _ (by omega)
      have f0' : (0 : Int) < (n1' : Nat) := by omega
      clear hcell hrow ho
      go_wp2_with fail
      go_meet
      have HX := Lib.hid (HS.out.putSl (k := 0) (m := 1) (x' := (⟨a.Rows, a.Offset + 1⟩ : Head)) (u := .int .i64 (a.Offset + 1)) 2 rfl ha (by decide) (fun cs fx hh => by obtain ⟨A, n, c, f, rfl, rfl, q1, q2⟩ := rHead_own hh; exact rHead_own_mk (x := ⟨a.Rows, a.Offset + 1⟩) q1 (by unfold Mm.I64; show _ ≤ a.Offset + 1 ∧ a.Offset + 1 ≤ _; omega)))
      exact ⟨⟨y.Logs, y.Heads.set 0 ⟨a.Rows, a.Offset + 1⟩, y.Kept⟩, _, _, _, _, _, _, _, _, _, _, _, _, Lib.hid (HGY.out.hoD.head ha rfl), HX⟩
    have g0 : (b2 == 0) = false := by simpa using h0
    by_cases h1 : b2 = 1
    · subst h1
      have hl1 : y.Logs.length = n0 := (HS.out.sl 1 rfl).nlen
      obtain ⟨a, ha⟩ : ∃ a, y.Logs[0]? = some a := ⟨_, List.getElem?_eq_getElem (by omega)⟩
      obtain ⟨ga, hga, -, -⟩ := Mm.sl_addr (HS.out.sl 1 rfl) (by omega)
      subst hga
      obtain ⟨cs, fx, ho, -, -, hcell, -⟩ := HS.out.putIn 1 rfl ha
      obtain ⟨RA, rn, rc, fr, rfl, rfl, hrow, hoi⟩ := rLog_own ho
      have hbg : a.Begin = 0 := by
        obtain ⟨g', a', b', l', q1, q2, q3, q4⟩ := HGY.out.ex (i := 0) (by omega)
        rw [ha] at q1; injection q1 with q1; subst q1; exact q4.bg
      have e1 : W6.cell? ⟨ga, 1, none⟩ = some (.int .i64 a.Begin) := hcell 1 _ rfl
      rw [hbg] at e1
      have z1 : W6.frozen? ⟨ga, 1, none⟩ = false := (HS.out.sl 1 rfl).frozen 1
      have f0' : (0 : Int) < (n0 : Nat) := by omega
      clear hcell hrow ho
      go_wp2_with fail
      go_meet
      have HX := Lib.hid (HS.out.putSl (k := 0) (m := 1) (x' := (⟨a.Pieces, 1⟩ : Log)) (u := .int .i64 1) 1 rfl ha (by decide) (fun cs fx hh => by obtain ⟨A, n, c, f, rfl, rfl, q1, q2⟩ := rLog_own hh; exact rLog_own_mk (x := ⟨a.Pieces, 1⟩) q1 (by unfold Mm.I64; show _ ≤ (1 : Int) ∧ (1 : Int) ≤ _; omega)))
      exact ⟨⟨y.Logs.set 0 ⟨a.Pieces, 1⟩, y.Heads, y.Kept⟩, _, _, _, _, _, _, _, _, _, _, _, _, Lib.hid (HGY.out.hoD.log ha rfl), HX⟩
    have g1 : (b2 == 1) = false := by simpa using h1
    by_cases h2 : b2 = 2
    · subst h2
      have z2 := HS.out.frz (k := 2) 0 rfl
      go_wp2_with fail
      go_meet
      have HX := HS.out.setBlk (k := 2) 0 rfl (.slice none 0 0)
      have HX2 := (HX.sel [0, 1, 2, 4, 5] (by decide) rfl).add (Below.refl _ _) (t := Mm.tsl rHead 73 [] (.slice none 0 0) []) Mm.SlOwn.nil List.nodup_nil (fun b hb => by cases hb)
      exact ⟨⟨y.Logs, y.Heads, []⟩, _, _, _, _, _, _, _, _, _, _, _, _, Lib.hid HGY.out.hoD.kept, Lib.hid (HX2.sel [1, 2, 3, 0, 4, 5] (by decide) rfl)⟩
    have g2 : (b2 == 2) = false := by simpa using h2
    clear h0 h1 h2
    go_wp2_with fail
    go_meet
    exact ⟨y, _, _, _, _, _, _, _, _, _, _, _, _, Lib.hid HGY.out.hoD, HS⟩
  case rest =>
  clear HS c0' c1' c2'
  obtain ⟨t, A0, n0, c0, A1', n1', c1', A2', n2', c2', f0, f1, f2, HD, HS⟩ := hcut
  have s0 := HS.out.cell (k := 0) 0 rfl rfl
  have s1 := HS.out.cell (k := 1) 0 rfl rfl
  have s2 := HS.out.cell (k := 2) 0 rfl rfl
  have d0 := HS.out.cell (k := 0) 4 rfl rfl
  have d1 := HS.out.cell (k := 1) 4 rfl rfl
  have d2 := HS.out.cell (k := 2) 4 rfl rfl
  have z0 := HS.out.frz (k := 0) 4 rfl
  have z1 := HS.out.frz (k := 1) 4 rfl
  have z2 := HS.out.frz (k := 2) 4 rfl
  have HS8 := Lib.hid (((HS.out.setBlk (k := 0) 4 rfl (.slice A0 n0 c0)).setBlk (k := 1) 4 rfl (.slice A1' n1' c1')).setBlk (k := 2) 4 rfl (.slice A2' n2' c2'))
  go_wp2_with fail
  clear s0 s1 s2
  have s0 := HS8.out.cell (k := 0) 4 rfl rfl
  have s1 := HS8.out.cell (k := 1) 4 rfl rfl
  have s2 := HS8.out.cell (k := 2) 4 rfl rfl
  exact bodyPost_ret (v := .agg #[.slice A0 n0 c0, .slice A1' n1' c1', .slice A2' n2' c2']) (by simp [results, Tryz.results99, go_sem, s0, s1, s2]) rfl ⟨t, _, _, _, _, _, _, _, _, _, _, rfl, HD.out, ((HS8.out.sel [1, 2, 3, 5] (by decide) rfl).hoShut).more 1 rfl (by omega)⟩
end Go.Proofs.YtbhmdnjammnlnaaGreatDoor

namespace Go.Proofs.YtbhmdnjammnlnaaGreatDoor
open Go.RowKit
attribute [local go_sem] und_cell cha_cell World.cell?_alloc_some
theorem Mm.SepF.cur {F : List Nat} {w0 wr : World} {ts : List Mm.Thing} {A : Option Addr} {n c g : Nat} (h : Mm.SepF F w0 wr (Mm.tblk g 128 [.slice A n c, .int .i64 0, .int .u64 0] :: ts)) : Mm.SepF F w0 wr (Mm.tcur 128 A n c g 0 :: ts) :=
  h.conv (by simp [Mm.tcur, Mm.tblk]) fun u hu => by
    rcases List.mem_cons.1 hu with rfl | hu
    · exact ⟨0, 0, h.at_ 0 rfl, by omega, by omega⟩
    · exact h.hold u (List.mem_cons_of_mem _ hu)
def HouseRd (w : World) (e : Ending) (w' : World) : Prop :=
  ∃ (h : House) (A0 : Option Addr) (n0 c0 : Nat) (A1 : Option Addr) (n1 c1 : Nat) (A2 : Option Addr) (n2 c2 : Nat) (fp : List Nat), e = .returned (.agg #[.slice A0 n0 c0, .slice A1 n1 c1, .slice A2 n2 c2]) ∧ Pl.HoD h ∧ Mm.SepF [] w w' [Mm.tow rHouse h [.slice A0 n0 c0, .slice A1 n1 c1, .slice A2 n2 c2] fp]
set_option maxRecDepth 100000 in
theorem DrawGoodHouse_c (code : List Int) (A : Option Addr) (n c : Nat) (w : World) (B : Nat) (hc : Mm.SlAt Mm.u8 w B code A n c) (hB : B ≤ w.heap.size) :
    Calls Tryz.prog 102 #[.slice A n c] w (HouseRd w) := by
  have HC := Lib.hid hc
  obtain ⟨gr, hgr⟩ : ∃ g, w.heap.size = g := ⟨_, rfl⟩
  obtain ⟨WR, hWR⟩ : ∃ W, w.alloc (.cells #[.slice none 0 0, .slice none 0 0, .slice none 0 0] 27) = W := ⟨_, rfl⟩
  have HSR := Lib.hid (((Mm.SepF.start w).alloc' hgr 27 [.slice none 0 0, .slice none 0 0, .slice none 0 0]).atW hWR)
  obtain ⟨g, hg⟩ : ∃ g, WR.heap.size = g := ⟨_, rfl⟩
  obtain ⟨W0, hW0⟩ : ∃ W, WR.alloc (.cells #[.slice A n c, .int .i64 0, .int .u64 0] 128) = W := ⟨_, rfl⟩
  have HS := Lib.hid ((HSR.out.alloc' hg 128 [.slice A n c, .int .i64 0, .int .u64 0]).atW hW0).cur
  have hBg : B ≤ g := by have := HSR.out.bel0.size; omega
  clear hc HSR
  go_enter Tryz.func102, Tryz.ntmps102
  go_upto_region 2 with fail
  clear hW0 hWR
  go_wp2_with fail
  refine (house_c code A n c g _ _ B (HC.out.keep fun b hb => HS.out.bel0.block b (by omega)) hBg (HS.out.at_ 0 rfl) (by omega)).mono ?_
  rintro e w2 ⟨h, A0, n0, c0, A1, n1, c1, A2, n2, c2, fp, rfl, hh, hS⟩
  have HS2 := Lib.hid (HS.out.callAll 0 rfl hS)
  clear hS
  have d0 := HS2.out.cell (k := 0) 1 rfl rfl
  have d1 := HS2.out.cell (k := 1) 1 rfl rfl
  have d2 := HS2.out.cell (k := 2) 1 rfl rfl
  have z0 := HS2.out.frz (k := 0) 1 rfl
  have z1 := HS2.out.frz (k := 1) 1 rfl
  have z2 := HS2.out.frz (k := 2) 1 rfl
  have HSF := Lib.hid (((HS2.out.setBlk (k := 0) 1 rfl (.slice A0 n0 c0)).setBlk (k := 1) 1 rfl (.slice A1 n1 c1)).setBlk (k := 2) 1 rfl (.slice A2 n2 c2))
  go_wp2_with fail
  have s0 := HSF.out.cell (k := 0) 1 rfl rfl
  have s1 := HSF.out.cell (k := 1) 1 rfl rfl
  have s2 := HSF.out.cell (k := 2) 1 rfl rfl
  exact bodyPost_ret (v := .agg #[.slice A0 n0 c0, .slice A1 n1 c1, .slice A2 n2 c2]) (by simp [results, Tryz.results102, go_sem, s0, s1, s2]) rfl ⟨h, _, _, _, _, _, _, _, _, _, _, rfl, hh, HSF.out.sel [2] (by decide) rfl⟩
set_option maxRecDepth 100000 in
theorem DrawCatchUp_c (code : List Int) (A : Option Addr) (n c : Nat) (w : World) (B : Nat) (hc : Mm.SlAt Mm.u8 w B code A n c) (hB : B ≤ w.heap.size) :
    Calls Tryz.prog 46 #[.slice A n c] w (HouseRd w) := by
  have HC := Lib.hid hc
  obtain ⟨gr, hgr⟩ : ∃ g, w.heap.size = g := ⟨_, rfl⟩
  obtain ⟨WR, hWR⟩ : ∃ W, w.alloc (.cells #[.slice none 0 0, .slice none 0 0, .slice none 0 0] 27) = W := ⟨_, rfl⟩
  have HSR := Lib.hid (((Mm.SepF.start w).alloc' hgr 27 [.slice none 0 0, .slice none 0 0, .slice none 0 0]).atW hWR)
  clear hc
  go_enter Tryz.func46, Tryz.ntmps46
  go_upto_region 1 with fail
  clear hWR
  go_wp2_with fail
  refine (DrawGoodHouse_c code A n c WR B (HC.out.keep fun b hb => HSR.out.bel0.block b (by omega)) (by have := HSR.out.bel0.size; omega)).mono ?_
  rintro e w2 ⟨h, A0, n0, c0, A1, n1, c1, A2, n2, c2, fp, rfl, hh, hs⟩
  have HS2 := Lib.hid (HSR.out.join hs)
  clear hs
  have d0 := HS2.out.cell (k := 0) 1 rfl rfl
  have d1 := HS2.out.cell (k := 1) 1 rfl rfl
  have d2 := HS2.out.cell (k := 2) 1 rfl rfl
  have z0 := HS2.out.frz (k := 0) 1 rfl
  have z1 := HS2.out.frz (k := 1) 1 rfl
  have z2 := HS2.out.frz (k := 2) 1 rfl
  have HSF := Lib.hid (((HS2.out.setBlk (k := 0) 1 rfl (.slice A0 n0 c0)).setBlk (k := 1) 1 rfl (.slice A1 n1 c1)).setBlk (k := 2) 1 rfl (.slice A2 n2 c2))
  go_wp2_with fail
  have s0 := HSF.out.cell (k := 0) 1 rfl rfl
  have s1 := HSF.out.cell (k := 1) 1 rfl rfl
  have s2 := HSF.out.cell (k := 2) 1 rfl rfl
  exact bodyPost_ret (v := .agg #[.slice A0 n0 c0, .slice A1 n1 c1, .slice A2 n2 c2]) (by simp [results, Tryz.results46, go_sem, s0, s1, s2]) rfl ⟨h, _, _, _, _, _, _, _, _, _, _, rfl, hh, HSF.out.sel [0] (by decide) rfl⟩
def DrawnAsk (w : World) (e : Ending) (w' : World) : Prop :=
  ∃ (h : House) (s : ByteArray) (k : Int) (A0 : Option Addr) (n0 c0 : Nat) (A1 : Option Addr) (n1 c1 : Nat) (A2 : Option Addr) (n2 c2 : Nat) (fp : List Nat), e = .returned (.tuple #[.agg #[.slice A0 n0 c0, .slice A1 n1 c1, .slice A2 n2 c2], .string s, .int .i64 k]) ∧ Pl.HoD h ∧ s.size ≤ 10 ∧ 0 ≤ k ∧ k ≤ 61 ∧ Mm.SepF [] w w' [Mm.tow rHouse h [.slice A0 n0 c0, .slice A1 n1 c1, .slice A2 n2 c2] fp]
set_option maxRecDepth 100000 in
theorem DrawAskHouse_c (code : List Int) (A : Option Addr) (n c : Nat) (w : World) (B : Nat) (hc : Mm.SlAt Mm.u8 w B code A n c) (hB : B ≤ w.heap.size) :
    Calls Tryz.prog 45 #[.slice A n c] w (DrawnAsk w) := by
  have HC := Lib.hid hc
  obtain ⟨gr, hgr⟩ : ∃ g, w.heap.size = g := ⟨_, rfl⟩
  obtain ⟨WR, hWR⟩ : ∃ W, w.alloc (.cells #[.slice none 0 0, .slice none 0 0, .slice none 0 0] 27) = W := ⟨_, rfl⟩
  have HSR := Lib.hid (((Mm.SepF.start w).alloc' hgr 27 [.slice none 0 0, .slice none 0 0, .slice none 0 0]).atW hWR)
  obtain ⟨g, hg⟩ : ∃ g, WR.heap.size = g := ⟨_, rfl⟩
  obtain ⟨W0, hW0⟩ : ∃ W, WR.alloc (.cells #[.slice A n c, .int .i64 0, .int .u64 0] 128) = W := ⟨_, rfl⟩
  have HS := Lib.hid ((HSR.out.alloc' hg 128 [.slice A n c, .int .i64 0, .int .u64 0]).atW hW0).cur
  have hBg : B ≤ g := by have := HSR.out.bel0.size; omega
  clear hc HSR
  go_enter Tryz.func45, Tryz.ntmps45
  go_upto_region 2 with fail
  clear hW0 hWR
  go_wp2_with fail
  refine (house_c code A n c g _ _ B (HC.out.keep fun b hb => HS.out.bel0.block b (by omega)) hBg (HS.out.at_ 0 rfl) (by omega)).mono ?_
  rintro e w2 ⟨h, A0, n0, c0, A1, n1, c1, A2, n2, c2, fp, rfl, hh, hS⟩
  have HS2 := Lib.hid ((HS.out.callAll 0 rfl hS).sel [2, 1, 3] (by decide) rfl)
  clear hS HS
  have HA := Lib.hid (HS2.out.alloc' rfl 9 [.string ⟨#[99, 112, 117]⟩, .string ⟨#[109, 101, 109]⟩, .string ⟨#[110, 101, 116]⟩, .string ⟨#[105, 111]⟩, .string ⟨#[110, 111, 110, 101]⟩])
  go_wp2_with fail
  (go_at_call 100); (refine (of_c code A n c g _ ([⟨#[99, 112, 117]⟩, ⟨#[109, 101, 109]⟩, ⟨#[110, 101, 116]⟩, ⟨#[105, 111]⟩, ⟨#[110, 111, 110, 101]⟩]) _ 5 _ B (HC.out.keep fun b hb => HA.out.bel0.block b (by omega)) hBg (HA.out.at_ 3 rfl) (by omega) (HA.out.at_ 0 rfl) (by have := HS2.out.lt g (by simp [Mm.tcur]); omega) rfl (by omega) (by omega)).mono ?_); (rintro e w1 ⟨s, rfl, hs, hL⟩); ((have HS3 := Lib.hid ((HA.out.call 3 rfl hL).tail))); (clear hL)
  have HA3 := Lib.hid (HS3.out.alloc' rfl 3 [.int .i64 0, .int .i64 0, .int .i64 1, .int .i64 2, .int .i64 5, .int .i64 60, .int .i64 61])
  go_wp2_with fail
  (go_at_call 101); (refine (among_c code A n c g _ ([0, 0, 1, 2, 5, 60, 61]) _ 7 _ B (HC.out.keep fun b hb => HA3.out.bel0.block b (by omega)) hBg (HA3.out.at_ 3 rfl) (by omega) (HA3.out.at_ 0 rfl) (by have := HS3.out.lt g (by simp [Mm.tcur]); omega) rfl (by omega) (by omega)).mono ?_); (rintro e w1 ⟨k, rfl, hk, hL⟩); ((have HS4 := Lib.hid ((HA3.out.call 3 rfl hL).tail))); (clear hL)
  have hs2 : s.size ≤ 10 := by simp only [List.mem_cons, List.not_mem_nil, or_false] at hs; rcases hs with h | h | h | h | h <;> (rw [h]; decide)
  have hk2 : 0 ≤ k ∧ k ≤ 61 := by simp only [List.mem_cons, List.not_mem_nil, or_false] at hk; omega
  clear hs hk
  have d0 := HS4.out.cell (k := 0) 1 rfl rfl
  have d1 := HS4.out.cell (k := 1) 1 rfl rfl
  have d2 := HS4.out.cell (k := 2) 1 rfl rfl
  have z0 := HS4.out.frz (k := 0) 1 rfl
  have z1 := HS4.out.frz (k := 1) 1 rfl
  have z2 := HS4.out.frz (k := 2) 1 rfl
  have HSF := Lib.hid (((HS4.out.setBlk (k := 0) 1 rfl (.slice A0 n0 c0)).setBlk (k := 1) 1 rfl (.slice A1 n1 c1)).setBlk (k := 2) 1 rfl (.slice A2 n2 c2))
  go_wp2_with fail
  have s0 := HSF.out.cell (k := 0) 1 rfl rfl
  have s1 := HSF.out.cell (k := 1) 1 rfl rfl
  have s2 := HSF.out.cell (k := 2) 1 rfl rfl
  exact bodyPost_ret (v := .tuple #[.agg #[.slice A0 n0 c0, .slice A1 n1 c1, .slice A2 n2 c2], .string s, .int .i64 k]) (by simp [results, Tryz.results45, go_sem, s0, s1, s2]) rfl ⟨h, s, k, _, _, _, _, _, _, _, _, _, _, rfl, hh, hs2, hk2.1, hk2.2, HSF.out.sel [0] (by decide) rfl⟩
set_option maxRecDepth 100000 in
theorem DrawPartOf_c (code : List Int) (A : Option Addr) (n c : Nat) (w : World) (B : Nat) (hc : Mm.SlAt Mm.u8 w B code A n c) (hB : B ≤ w.heap.size) :
    Calls Tryz.prog 47 #[.slice A n c] w fun e w' => ∃ (k : Int) (s : ByteArray), e = .returned (.tuple #[.int .i64 k, .string s]) ∧ -1 ≤ k ∧ k ≤ 5 ∧ s.size ≤ 4 ∧ Below w.heap.size w w' := by
  have HC := Lib.hid hc
  obtain ⟨g, hg⟩ : ∃ g, w.heap.size = g := ⟨_, rfl⟩
  obtain ⟨W0, hW0⟩ : ∃ W, w.alloc (.cells #[.slice A n c, .int .i64 0, .int .u64 0] 128) = W := ⟨_, rfl⟩
  have HS := Lib.hid (((Mm.SepF.start w).alloc' hg 128 [.slice A n c, .int .i64 0, .int .u64 0]).atW hW0).cur
  have hBg : B ≤ g := by omega
  clear hc
  go_enter Tryz.func47, Tryz.ntmps47
  go_upto_region 2 with fail
  clear hW0
  go_wp2_with fail
  (go_at_call 88); (refine (pick_c code A n c g _ _ _ B (HC.out.keep fun b hb => HS.out.bel0.block b (by omega)) hBg (HS.out.at_ 0 rfl) (by omega) (by omega)).mono ?_); (rintro e w1 ⟨b1, rfl, b10, b1x, b11, hL⟩); ((have HS := Lib.hid (HS.out.call 0 rfl hL))); (clear hL)
  have b12 := b11 (by omega)
  clear b11
  have HA := Lib.hid (HS.out.alloc' rfl 9 [.string ⟨#[99, 112, 117]⟩, .string ⟨#[109, 101, 109]⟩, .string ⟨#[110, 101, 116]⟩, .string ⟨#[]⟩, .string ⟨#[65]⟩])
  go_wp2_with fail
  (go_at_call 100); (refine (of_c code A n c g _ ([⟨#[99, 112, 117]⟩, ⟨#[109, 101, 109]⟩, ⟨#[110, 101, 116]⟩, ⟨#[]⟩, ⟨#[65]⟩]) _ 5 _ B (HC.out.keep fun b hb => HA.out.bel0.block b (by omega)) hBg (HA.out.at_ 1 rfl) (by omega) (HA.out.at_ 0 rfl) (by have := HS.out.lt g (by simp [Mm.tcur]); omega) rfl (by omega) (by omega)).mono ?_); (rintro e w1 ⟨s, rfl, hs, hL⟩); ((have HS3 := Lib.hid ((HA.out.call 1 rfl hL).tail))); (clear hL)
  have hs2 : s.size ≤ 4 := by simp only [List.mem_cons, List.not_mem_nil, or_false] at hs; rcases hs with h | h | h | h | h <;> (rw [h]; decide)
  clear hs
  go_wp2_with fail
  go_ret2
  exact ⟨_, s, rfl, by omega, by omega, hs2, HS3.out.bel0⟩
set_option maxRecDepth 100000 in
theorem DrawNewHouse_c (code : List Int) (A : Option Addr) (n c : Nat) (w : World) (B : Nat) (hc : Mm.SlAt Mm.u8 w B code A n c) (hB : B ≤ w.heap.size) :
    Calls Tryz.prog 50 #[.slice A n c] w fun e w' => ∃ k : Int, e = .returned (.int .i64 k) ∧ -1 ≤ k ∧ k ≤ 5 ∧ Below w.heap.size w w' := by
  have HC := Lib.hid hc
  obtain ⟨g, hg⟩ : ∃ g, w.heap.size = g := ⟨_, rfl⟩
  obtain ⟨W0, hW0⟩ : ∃ W, w.alloc (.cells #[.slice A n c, .int .i64 0, .int .u64 0] 128) = W := ⟨_, rfl⟩
  have HS := Lib.hid (((Mm.SepF.start w).alloc' hg 128 [.slice A n c, .int .i64 0, .int .u64 0]).atW hW0).cur
  have hBg : B ≤ g := by omega
  clear hc
  go_enter Tryz.func50, Tryz.ntmps50
  go_upto_region 2 with fail
  clear hW0
  go_wp2_with fail
  (go_at_call 88); (refine (pick_c code A n c g _ _ _ B (HC.out.keep fun b hb => HS.out.bel0.block b (by omega)) hBg (HS.out.at_ 0 rfl) (by omega) (by omega)).mono ?_); (rintro e w1 ⟨b1, rfl, b10, b1x, b11, hL⟩); ((have HS := Lib.hid (HS.out.call 0 rfl hL))); (clear hL)
  have b12 := b11 (by omega)
  clear b11
  go_wp2_with fail
  go_ret
  exact ⟨_, rfl, by omega, by omega, HS.out.bel0⟩
end Go.Proofs.YtbhmdnjammnlnaaGreatDoor

namespace Go.Proofs.YtbhmdnjammnlnaaGreatDoor
open Go.RowKit
attribute [local go_sem] und_cell World.cell?_alloc_some
set_option maxRecDepth 100000 in
set_option maxHeartbeats 1000000 in
theorem sameSamples_c (l : List Sample) (A A' : Option Addr) (n c c' : Nat) (w : World) (B : Nat) (h1 : Mm.SlAt smp w B l A n c) (h2 : Mm.SlAt smp w B l A' n c') (hB : B ≤ w.heap.size) :
    Calls Tryz.prog 42 #[.slice A n c, .slice A' n c'] w fun e w' => e = .returned (.bool true) ∧ Below w.heap.size w w' := by
  have H1 := Lib.hid h1
  have H2 := Lib.hid h2
  have hlen : n ≤ maxLen := Nat.le_trans h1.2.1 h1.2.2.1
  unfold maxLen at hlen
  clear h1 h2
  go_enter Tryz.func42, Tryz.ntmps42
  go_wp2
  go_loopg [13] n (fun gg i wr => ∃ k : Nat, n - k ≤ gg ∧ k ≤ n ∧ i = .int .i64 k ∧ Below w.heap.size w wr)
  case atStart => exact ⟨0, Nat.le_refl _, Nat.zero_le _, rfl, Below.refl _ _⟩
  case round =>
    obtain ⟨k, hgk, hk, rfl, hbel⟩ := hrel
    have HB := Lib.hid hbel
    by_cases hlt : k < n
    · obtain ⟨x, b, off, hx, rfl, hb, b1, b2, c1, c2⟩ := smp_get (H1.out.keep fun b hb => hbel.block b (by omega)) hlt
      obtain ⟨y, b', off', hy, rfl, hb', b1', b2', c1', c2'⟩ := smp_get (H2.out.keep fun b hb => hbel.block b (by omega)) hlt
      rw [hx] at hy
      injection hy with hy
      subst hy
      have f1 : (k : Int) < (n : Nat) := by omega
      have f2 : (0 : Int) ≤ (k : Nat) := by omega
      clear hx hbel
      go_wp2
      go_quiet (fail)
      go_wp2
      go_roundg (n - (k + 1))
      case measure => omega
      case rel => exact ⟨k + 1, Nat.le_refl _, by omega, by go_num, Go.below_drewN HB.out _⟩
    · go_wp2
      go_ret
      exact ⟨rfl, HB.out⟩
set_option maxRecDepth 100000 in
set_option maxHeartbeats 1000000 in
theorem sameInts_c (l : List Int) (A A' : Option Addr) (n c c' : Nat) (w : World) (B : Nat) (h1 : Mm.SlAt Mm.int w B l A n c) (h2 : Mm.SlAt Mm.int w B l A' n c') (hB : B ≤ w.heap.size) :
    Calls Tryz.prog 137 #[.slice A n c, .slice A' n c'] w fun e w' => e = .returned (.bool true) ∧ Below w.heap.size w w' := by
  have H1 := Lib.hid h1
  have H2 := Lib.hid h2
  have hlen : n ≤ maxLen := Nat.le_trans h1.2.1 h1.2.2.1
  unfold maxLen at hlen
  clear h1 h2
  go_enter Tryz.func137, Tryz.ntmps137
  go_wp2
  go_loopg [13] n (fun gg i wr => ∃ k : Nat, n - k ≤ gg ∧ k ≤ n ∧ i = .int .i64 k ∧ Below w.heap.size w wr)
  case atStart => exact ⟨0, Nat.le_refl _, Nat.zero_le _, rfl, Below.refl _ _⟩
  case round =>
    obtain ⟨k, hgk, hk, rfl, hbel⟩ := hrel
    have HB := Lib.hid hbel
    by_cases hlt : k < n
    · obtain ⟨x, b, off, hx, rfl, hb, b1, c1⟩ := int_get (H1.out.keep fun b hb => hbel.block b (by omega)) hlt
      obtain ⟨y, b', off', hy, rfl, hb', b1', c1'⟩ := int_get (H2.out.keep fun b hb => hbel.block b (by omega)) hlt
      rw [hx] at hy
      injection hy with hy
      subst hy
      have f1 : (k : Int) < (n : Nat) := by omega
      have f2 : (0 : Int) ≤ (k : Nat) := by omega
      clear hx hbel
      go_wp2
      go_quiet (fail)
      go_wp2
      go_roundg (n - (k + 1))
      case measure => omega
      case rel => exact ⟨k + 1, Nat.le_refl _, by omega, by go_num, Go.below_drewN HB.out _⟩
    · go_wp2
      go_ret
      exact ⟨rfl, HB.out⟩
end Go.Proofs.YtbhmdnjammnlnaaGreatDoor

namespace Go.Proofs.YtbhmdnjammnlnaaGreatDoor
open Go.RowKit
attribute [local go_sem] und_cell cha_cell World.cell?_alloc_some
set_option maxRecDepth 100000 in
set_option maxHeartbeats 2000000 in
theorem samePieces_c (g : Log) (cs cs2 : List Value) (w : World) (B : Nat) (h1 : rLog.at_ w B g cs) (h2 : rLog.at_ w B g cs2) (hB : B ≤ w.heap.size) :
    Calls Tryz.prog 90 #[.agg cs.toArray, .agg cs2.toArray] w fun e w' => e = .returned (.bool true) ∧ Below w.heap.size w w' := by
  obtain ⟨A0, n0, c0, rfl, r0, i0⟩ := rLog_at h1
  obtain ⟨A0', m0, c0', rfl, q0, -⟩ := rLog_at h2
  obtain rfl : n0 = m0 := r0.1.symm.trans q0.1
  have l0 : n0 ≤ maxLen := Nat.le_trans r0.2.1 r0.2.2.1
  unfold maxLen at l0
  have R0 := Lib.hid r0
  have Q0 := Lib.hid q0
  have e0 : (g.Begin != g.Begin) = false := by simp
  clear h1 h2 r0 q0 i0
  go_enter Tryz.func90, Tryz.ntmps90
  go_upto_region 1 with fail
  obtain ⟨ga, hga⟩ : ∃ ga, w.heap.size = ga := ⟨_, rfl⟩
  obtain ⟨gb, hgb⟩ : ∃ gb, ga + 1 = gb := ⟨_, rfl⟩
  obtain ⟨W0, hW0⟩ : ∃ W0, (w.alloc (.cells (List.toArray ([.slice A0 n0 c0, .int .i64 g.Begin])) 80)).alloc (.cells (List.toArray ([.slice A0' n0 c0', .int .i64 g.Begin])) 80) = W0 := ⟨_, rfl⟩
  have HS0 := Lib.hid ((((Mm.SepF.start w).alloc' hga 80 ([.slice A0 n0 c0, .int .i64 g.Begin])).alloc' (g := gb) (by rw [Mm.sz1, hga, hgb]) 80 ([.slice A0' n0 c0', .int .i64 g.Begin])).atW hW0)
  rw [hW0, hga, hgb]
  have HGA := Lib.hid hga
  clear hW0 hga hgb
  have HB0 := Lib.hid HS0.out.bel0
  have HBW := Lib.hid (Nat.le_trans hB HB0.out.size)
  have HX := Lib.hid (Below.refl W0.heap.size W0)
  have b0 := below_some HX.out (HS0.out.cell (k := 0) 0 rfl rfl)
  have b1 := below_some HX.out (HS0.out.cell (k := 1) 0 rfl rfl)
  have d0 := below_some HX.out (HS0.out.cell (k := 0) 1 rfl rfl)
  have d1 := below_some HX.out (HS0.out.cell (k := 1) 1 rfl rfl)
  go_wp2_with fail
  clear b0 b1 d0 d1 e0
  have HXX := Lib.hid HX.out
  clear HX
  go_loopg [23] n0 (fun gg i wr => ∃ k : Nat, n0 - k ≤ gg ∧ k ≤ n0 ∧ i = .int .i64 k ∧ Hid (Below W0.heap.size W0 wr))
  case atStart => exact ⟨0, Nat.le_refl _, Nat.zero_le _, rfl, HXX.out⟩
  case round =>
    clear HXX
    obtain ⟨k, hgk, hk, rfl, HX⟩ := hrel
    obtain ⟨W1, rfl⟩ : ∃ W1 : World, W1 = wr := ⟨_, rfl⟩
    by_cases hlt : k < n0
    · have b0 := below_some HX.out (HS0.out.cell (k := 0) 0 rfl rfl)
      have d0 := below_some HX.out (HS0.out.cell (k := 0) 1 rfl rfl)
      obtain ⟨x, b, off, P1, p1, t1, hx, rfl, hb, -, -, uf0, uc0, uc1, uc2⟩ := rPiece_get (R0.out.keep (w' := W1) fun b hb => (HX.out.block b (Nat.lt_of_lt_of_le hb HBW.out)).trans (HB0.out.block b (Nat.lt_of_lt_of_le hb hB))) hlt
      obtain ⟨y, b', off', P2, p2, t2, hy, rfl, hb', -, -, vf0, vc0, vc1, vc2⟩ := rPiece_get (Q0.out.keep (w' := W1) fun b hb => (HX.out.block b (Nat.lt_of_lt_of_le hb HBW.out)).trans (HB0.out.block b (Nat.lt_of_lt_of_le hb hB))) hlt
      obtain rfl : x = y := by rw [hx] at hy; injection hy
      obtain rfl : p1 = p2 := uf0.1.symm.trans vf0.1
      have hBw : B ≤ W1.heap.size := Nat.le_trans HBW.out HX.out.size
      have CE := fun z : Und W1 => und_call z (sameInts_c x.Index P1 P2 p1 t1 t2 (und W1 z) B (uf0.und hBw z) (vf0.und hBw z) (Nat.le_trans hBw (und_size z)))
      have f1 : (k : Int) < (n0 : Nat) := by omega
      have f2 : (0 : Int) ≤ (k : Nat) := by omega
      have f3 : ((k : Nat) : Int).toNat = k := by omega
      have e1 : (x.From != x.From) = false := by simp
      clear hx hy uf0 vf0
      go_wp2
      refine wp_region_und (by kernel_rfl) (by kernel_rfl) ?_
      repeat (go_big_quiet_step ((first | (go_at_call 137; with_reducible exact CE _))))
      refine wpQuiet_nil ?_
      intro X hX
      go_wp2
      go_roundg (n0 - (k + 1))
      case measure => omega
      case rel => exact ⟨k + 1, Nat.le_refl _, by omega, by go_num, below_step HX.out hX⟩
    · have f1 : ¬ (k : Int) < (n0 : Nat) := by omega
      go_wp2
      go_ret
      exact ⟨rfl, below_step HB0.out HX.out⟩
set_option maxRecDepth 100000 in
set_option maxHeartbeats 2000000 in
theorem sameHeads_c (g : Head) (cs cs2 : List Value) (w : World) (B : Nat) (h1 : rHead.at_ w B g cs) (h2 : rHead.at_ w B g cs2) (hB : B ≤ w.heap.size) :
    Calls Tryz.prog 91 #[.agg cs.toArray, .agg cs2.toArray] w fun e w' => e = .returned (.bool true) ∧ Below w.heap.size w w' := by
  obtain ⟨A0, n0, c0, rfl, r0, i0⟩ := rHead_at h1
  obtain ⟨A0', m0, c0', rfl, q0, -⟩ := rHead_at h2
  obtain rfl : n0 = m0 := r0.1.symm.trans q0.1
  have l0 : n0 ≤ maxLen := Nat.le_trans r0.2.1 r0.2.2.1
  unfold maxLen at l0
  have R0 := Lib.hid r0
  have Q0 := Lib.hid q0
  have e0 : (g.Offset != g.Offset) = false := by simp
  clear h1 h2 r0 q0 i0
  go_enter Tryz.func91, Tryz.ntmps91
  go_upto_region 1 with fail
  obtain ⟨ga, hga⟩ : ∃ ga, w.heap.size = ga := ⟨_, rfl⟩
  obtain ⟨gb, hgb⟩ : ∃ gb, ga + 1 = gb := ⟨_, rfl⟩
  obtain ⟨W0, hW0⟩ : ∃ W0, (w.alloc (.cells (List.toArray ([.slice A0 n0 c0, .int .i64 g.Offset])) 73)).alloc (.cells (List.toArray ([.slice A0' n0 c0', .int .i64 g.Offset])) 73) = W0 := ⟨_, rfl⟩
  have HS0 := Lib.hid ((((Mm.SepF.start w).alloc' hga 73 ([.slice A0 n0 c0, .int .i64 g.Offset])).alloc' (g := gb) (by rw [Mm.sz1, hga, hgb]) 73 ([.slice A0' n0 c0', .int .i64 g.Offset])).atW hW0)
  rw [hW0, hga, hgb]
  have HGA := Lib.hid hga
  clear hW0 hga hgb
  have HB0 := Lib.hid HS0.out.bel0
  have HBW := Lib.hid (Nat.le_trans hB HB0.out.size)
  have HX := Lib.hid (Below.refl W0.heap.size W0)
  have b0 := below_some HX.out (HS0.out.cell (k := 0) 0 rfl rfl)
  have b1 := below_some HX.out (HS0.out.cell (k := 1) 0 rfl rfl)
  have d0 := below_some HX.out (HS0.out.cell (k := 0) 1 rfl rfl)
  have d1 := below_some HX.out (HS0.out.cell (k := 1) 1 rfl rfl)
  go_wp2_with fail
  clear b0 b1 d0 d1 e0
  have HXX := Lib.hid HX.out
  clear HX
  go_loopg [23] n0 (fun gg i wr => ∃ k : Nat, n0 - k ≤ gg ∧ k ≤ n0 ∧ i = .int .i64 k ∧ Hid (Below W0.heap.size W0 wr))
  case atStart => exact ⟨0, Nat.le_refl _, Nat.zero_le _, rfl, HXX.out⟩
  case round =>
    clear HXX
    obtain ⟨k, hgk, hk, rfl, HX⟩ := hrel
    obtain ⟨W1, rfl⟩ : ∃ W1 : World, W1 = wr := ⟨_, rfl⟩
    by_cases hlt : k < n0
    · have b0 := below_some HX.out (HS0.out.cell (k := 0) 0 rfl rfl)
      have d0 := below_some HX.out (HS0.out.cell (k := 0) 1 rfl rfl)
      obtain ⟨x, b, off, P1, p1, t1, hx, rfl, hb, -, uf0, uc0, uc1⟩ := rRow_get (R0.out.keep (w' := W1) fun b hb => (HX.out.block b (Nat.lt_of_lt_of_le hb HBW.out)).trans (HB0.out.block b (Nat.lt_of_lt_of_le hb hB))) hlt
      obtain ⟨y, b', off', P2, p2, t2, hy, rfl, hb', -, vf0, vc0, vc1⟩ := rRow_get (Q0.out.keep (w' := W1) fun b hb => (HX.out.block b (Nat.lt_of_lt_of_le hb HBW.out)).trans (HB0.out.block b (Nat.lt_of_lt_of_le hb hB))) hlt
      obtain rfl : x = y := by rw [hx] at hy; injection hy
      obtain rfl : p1 = p2 := uf0.1.symm.trans vf0.1
      have hBw : B ≤ W1.heap.size := Nat.le_trans HBW.out HX.out.size
      have CE := fun z : Und W1 => und_call z (sameSamples_c x.Samples P1 P2 p1 t1 t2 (und W1 z) B (uf0.und hBw z) (vf0.und hBw z) (Nat.le_trans hBw (und_size z)))
      have f1 : (k : Int) < (n0 : Nat) := by omega
      have f2 : (0 : Int) ≤ (k : Nat) := by omega
      have f3 : ((k : Nat) : Int).toNat = k := by omega
      clear hx hy uf0 vf0
      go_wp2
      refine wp_region_und (by kernel_rfl) (by kernel_rfl) ?_
      repeat (go_big_quiet_step ((first | (go_at_call 42; with_reducible exact CE _))))
      refine wpQuiet_nil ?_
      intro X hX
      go_wp2
      go_roundg (n0 - (k + 1))
      case measure => omega
      case rel => exact ⟨k + 1, Nat.le_refl _, by omega, by go_num, below_step HX.out hX⟩
    · have f1 : ¬ (k : Int) < (n0 : Nat) := by omega
      go_wp2
      go_ret
      exact ⟨rfl, below_step HB0.out HX.out⟩
set_option maxRecDepth 100000 in
set_option maxHeartbeats 2000000 in
theorem sameHouses_c (h : House) (cs cs2 : List Value) (w : World) (B : Nat) (h1 : rHouse.at_ w B h cs) (h2 : rHouse.at_ w B h cs2) (hB : B ≤ w.heap.size) (hl1 : h.Heads.length = h.Logs.length) (hl2 : h.Kept.length = h.Logs.length) :
    Calls Tryz.prog 39 #[.agg cs.toArray, .agg cs2.toArray] w fun e w' => e = .returned (.bool true) ∧ Below w.heap.size w w' := by
  obtain ⟨A0, n0, c0, A1, n1, c1, A2, n2, c2, rfl, r0, r1, r2⟩ := rHouse_at h1
  obtain ⟨A0', m0, c0', A1', m1, c1', A2', m2, c2', rfl, q0, q1, q2⟩ := rHouse_at h2
  obtain rfl : n0 = m0 := r0.1.symm.trans q0.1
  obtain rfl : n1 = m1 := r1.1.symm.trans q1.1
  obtain rfl : n2 = m2 := r2.1.symm.trans q2.1
  obtain rfl : n0 = n1 := by rw [← r0.1, ← r1.1, hl1]
  obtain rfl : n0 = n2 := by rw [← r0.1, ← r2.1, hl2]
  have l0 : n0 ≤ maxLen := Nat.le_trans r0.2.1 r0.2.2.1
  unfold maxLen at l0
  have R0 := Lib.hid r0
  have R1 := Lib.hid r1
  have R2 := Lib.hid r2
  have Q0 := Lib.hid q0
  have Q1 := Lib.hid q1
  have Q2 := Lib.hid q2
  clear h1 h2 r0 r1 r2 q0 q1 q2 hl1 hl2
  go_enter Tryz.func39, Tryz.ntmps39
  go_upto_region 1 with fail
  obtain ⟨ga, hga⟩ : ∃ ga, w.heap.size = ga := ⟨_, rfl⟩
  obtain ⟨gb, hgb⟩ : ∃ gb, ga + 1 = gb := ⟨_, rfl⟩
  obtain ⟨W0, hW0⟩ : ∃ W0, (w.alloc (.cells (List.toArray ([.slice A0 n0 c0, .slice A1 n0 c1, .slice A2 n0 c2])) 27)).alloc (.cells (List.toArray ([.slice A0' n0 c0', .slice A1' n0 c1', .slice A2' n0 c2'])) 27) = W0 := ⟨_, rfl⟩
  have HS0 := Lib.hid ((((Mm.SepF.start w).alloc' hga 27 ([.slice A0 n0 c0, .slice A1 n0 c1, .slice A2 n0 c2])).alloc' (g := gb) (by rw [Mm.sz1, hga, hgb]) 27 ([.slice A0' n0 c0', .slice A1' n0 c1', .slice A2' n0 c2'])).atW hW0)
  rw [hW0, hga, hgb]
  have HGA := Lib.hid hga
  clear hW0 hga hgb
  have HB0 := Lib.hid HS0.out.bel0
  have HBW := Lib.hid (Nat.le_trans hB HB0.out.size)
  have HX := Lib.hid (Below.refl W0.heap.size W0)
  have b0 := below_some HX.out (HS0.out.cell (k := 0) 0 rfl rfl)
  have b1 := below_some HX.out (HS0.out.cell (k := 1) 0 rfl rfl)
  have d0 := below_some HX.out (HS0.out.cell (k := 0) 1 rfl rfl)
  have d1 := below_some HX.out (HS0.out.cell (k := 1) 1 rfl rfl)
  have b2 := below_some HX.out (HS0.out.cell (k := 2) 0 rfl rfl)
  have d2 := below_some HX.out (HS0.out.cell (k := 2) 1 rfl rfl)
  go_wp2_with fail
  clear b0 b1 b2 d0 d1 d2
  have HXX := Lib.hid HX.out
  clear HX
  go_loopg [34] n0 (fun gg i wr => ∃ k : Nat, n0 - k ≤ gg ∧ k ≤ n0 ∧ i = .int .i64 k ∧ Hid (Below W0.heap.size W0 wr))
  case atStart => exact ⟨0, Nat.le_refl _, Nat.zero_le _, rfl, HXX.out⟩
  case round =>
    clear HXX
    obtain ⟨k, hgk, hk, rfl, HX⟩ := hrel
    obtain ⟨W1, rfl⟩ : ∃ W1 : World, W1 = wr := ⟨_, rfl⟩
    by_cases hlt : k < n0
    · skip
      have b0 := below_some HX.out (HS0.out.cell (k := 0) 0 rfl rfl)
      have b1 := below_some HX.out (HS0.out.cell (k := 1) 0 rfl rfl)
      have d0 := below_some HX.out (HS0.out.cell (k := 0) 1 rfl rfl)
      have d1 := below_some HX.out (HS0.out.cell (k := 1) 1 rfl rfl)
      have b2 := below_some HX.out (HS0.out.cell (k := 2) 0 rfl rfl)
      have d2 := below_some HX.out (HS0.out.cell (k := 2) 1 rfl rfl)
      obtain ⟨x, b, off, P1, p1, t1, hx, rfl, hb, uf0, ui0, uc0, uc1⟩ := rLog_get (R0.out.keep (w' := W1) fun b hb => (HX.out.block b (Nat.lt_of_lt_of_le hb HBW.out)).trans (HB0.out.block b (Nat.lt_of_lt_of_le hb hB))) hlt
      obtain ⟨y, b', off', P2, p2, t2, hy, rfl, hb', vf0, vi0, vc0, vc1⟩ := rLog_get (Q0.out.keep (w' := W1) fun b hb => (HX.out.block b (Nat.lt_of_lt_of_le hb HBW.out)).trans (HB0.out.block b (Nat.lt_of_lt_of_le hb hB))) hlt
      obtain rfl : x = y := by rw [hx] at hy; injection hy
      have hBw : B ≤ W1.heap.size := Nat.le_trans HBW.out HX.out.size
      have CE := fun z : Und W1 => und_call z (samePieces_c x _ _ (und W1 z) B (rLog_at_mk (uf0.und hBw z) ui0) (rLog_at_mk (vf0.und hBw z) vi0) (Nat.le_trans hBw (und_size z)))
      clear hx hy uf0 vf0
      obtain ⟨x', ba, oa, P3, p3, t3, hx, rfl, hba, uf0, uj0, ud0, ud1⟩ := rHead_get (R1.out.keep (w' := W1) fun b hb => (HX.out.block b (Nat.lt_of_lt_of_le hb HBW.out)).trans (HB0.out.block b (Nat.lt_of_lt_of_le hb hB))) hlt
      obtain ⟨y', bb, ob, P4, p4, t4, hy, rfl, hbb, vf0, vj0, vd0, vd1⟩ := rHead_get (Q1.out.keep (w' := W1) fun b hb => (HX.out.block b (Nat.lt_of_lt_of_le hb HBW.out)).trans (HB0.out.block b (Nat.lt_of_lt_of_le hb hB))) hlt
      obtain rfl : x' = y' := by rw [hx] at hy; injection hy
      have CF := fun z : Und W1 => und_call z (sameHeads_c x' _ _ (und W1 z) B (rHead_at_mk (uf0.und hBw z) uj0) (rHead_at_mk (vf0.und hBw z) vj0) (Nat.le_trans hBw (und_size z)))
      clear hx hy uf0 vf0
      obtain ⟨x'', bc, oc, P5, p5, t5, hx, rfl, hbc, uf0, uk0, ue0, ue1⟩ := rHead_get (R2.out.keep (w' := W1) fun b hb => (HX.out.block b (Nat.lt_of_lt_of_le hb HBW.out)).trans (HB0.out.block b (Nat.lt_of_lt_of_le hb hB))) hlt
      obtain ⟨y'', bd, od, P6, p6, t6, hy, rfl, hbd, vf0, vk0, ve0, ve1⟩ := rHead_get (Q2.out.keep (w' := W1) fun b hb => (HX.out.block b (Nat.lt_of_lt_of_le hb HBW.out)).trans (HB0.out.block b (Nat.lt_of_lt_of_le hb hB))) hlt
      obtain rfl : x'' = y'' := by rw [hx] at hy; injection hy
      have CG := fun z : Und W1 => und_call z (sameHeads_c x'' _ _ (und W1 z) B (rHead_at_mk (uf0.und hBw z) uk0) (rHead_at_mk (vf0.und hBw z) vk0) (Nat.le_trans hBw (und_size z)))
      clear hx hy uf0 vf0
      have f1 : (k : Int) < (n0 : Nat) := by omega
      have f2 : (0 : Int) ≤ (k : Nat) := by omega
      have f3 : ((k : Nat) : Int).toNat = k := by omega
      go_wp2
      refine wp_region_und (by kernel_rfl) (by kernel_rfl) ?_
      repeat (go_big_quiet_step ((first | (first | (go_at_call 90; with_reducible exact CE _) | (go_at_call 91; with_reducible exact CF _) | (go_at_call 91; with_reducible exact CG _)))))
      refine wpQuiet_nil ?_
      intro X hX
      go_wp2
      go_roundg (n0 - (k + 1))
      case measure => omega
      case rel => exact ⟨k + 1, Nat.le_refl _, by omega, by go_num, below_step HX.out hX⟩
    · have f1 : ¬ (k : Int) < (n0 : Nat) := by omega
      go_wp2
      go_ret
      exact ⟨rfl, below_step HB0.out HX.out⟩
end Go.Proofs.YtbhmdnjammnlnaaGreatDoor

namespace Go.Proofs.YtbhmdnjammnlnaaGreatDoor
open Go.RowKit
attribute [local go_sem] und_cell cha_cell World.cell?_alloc_some
set_option maxRecDepth 100000 in
set_option maxHeartbeats 2000000 in
theorem logEnd_c (g : Log) (cs : List Value) (w : World) (B : Nat) (hh : rLog.at_ w B g cs) (hB : B ≤ w.heap.size) (hg : Pl.LogOk g) :
    Calls Tryz.prog 98 #[.agg cs.toArray] w fun e w' => e = .returned (.int .i64 (Pl.endOf g)) ∧ Below w.heap.size w w' := by
  obtain ⟨A0, n0, c0, rfl, r0, io⟩ := rLog_at hh
  have hn20 : n0 ≤ 20 := by have := hg.len.2; have := r0.1; omega
  have hn1 : 1 ≤ n0 := by have := hg.len.1; have := r0.1; omega
  have HSZ : Hid (∀ p, p ∈ g.Pieces → p.Bytes.size ≤ 60) := fun p hp => hg.sizes p hp
  have HEND : Hid (Pl.endOf g = Pl.from0 g.Pieces + ((Pl.lRecs g.Pieces).length : Int)) := hg.end_
  have hsum := hg.sum
  have hf0 := hg.from0
  have HR := Lib.hid r0
  clear hh r0
  obtain ⟨ga, hga⟩ : ∃ g, w.heap.size = g := ⟨_, rfl⟩
  obtain ⟨W0, hW0⟩ : ∃ W, w.alloc (.cells #[.slice A0 n0 c0, .int .i64 g.Begin] 80) = W := ⟨_, rfl⟩
  have HS0 := Lib.hid (((Mm.SepF.start w).alloc' hga 80 [.slice A0 n0 c0, .int .i64 g.Begin]).atW hW0)
  go_enter Tryz.func98, Tryz.ntmps98
  go_upto_region 1 with fail
  clear hW0
  obtain ⟨f0, hf0e⟩ : ∃ f, Pl.from0 g.Pieces = f := ⟨_, rfl⟩
  obtain ⟨m, hm⟩ : ∃ m, (Pl.lRecs g.Pieces).length = m := ⟨_, rfl⟩
  have d0 := HS0.out.cell (k := 0) 0 rfl rfl
  have d1 := HS0.out.cell (k := 1) 0 rfl rfl
  have hsl := HR.out.keep (w' := W0) fun b hb => HS0.out.bel0.block b (by omega)
  have hf1 : (0 : Int) < (n0 : Nat) := by omega
  obtain ⟨x, b, off, AI, mI, dI, hx, rfl, hbX, i0, i1, hri, e0, e1, e2⟩ := rPiece_get hsl (show 0 < n0 by omega)
  have hxf : x.From = f0 := (Pl.from0_get hx).symm.trans hf0e
  rw [hxf, show off + 0 * 3 = off by omega] at e0
  rw [hf0e] at hf0
  rw [hm] at hsum
  have HM := Lib.hid hm
  have HF0 := Lib.hid hf0e
  have HBW := Lib.hid HS0.out.bel0
  clear hsl hx hxf hm hf0e hri i0 i1 e1 e2
  refine Mm.wp_region_give_all (fun i => match i with | 6 => some (Mm.gSl Mm.str 9 (Pl.lRecs g.Pieces)) | _ => none) (fun i => []) (fun _ => []) (F := []) (D := fun w' => ∃ z : Und W0, w' = und W0 z) (fun X us h => Mm.sep_und h) (by kernel_rfl) (by kernel_rfl) (by kernel_rfl) (Mm.SepF.startDrew _) ?_
  repeat (refine Mm.give_det (by rfl) (by rfl) (by rfl) (fun K hK => ?_); go_big_quiet_op; refine hK _ ?_; clear hK K)
  refine Mm.give_op0 9 (by rfl) rfl (by rfl) (by rfl) (by rfl) (by rfl) Mm.gSl_in (fun others X hX => ?_) ?_
  · go_wp2_with (go_at_call 146; refine (logAll_c g.Pieces g.Begin _ n0 c0 X B (HR.out.keep fun b hb => (hX.bel0.block b (by have := HBW.out.size; omega)).trans (HBW.out.block b (by omega))) (by have := hX.chg.size; have := HBW.out.size; omega) hn20 HSZ.out).mono ?_; rintro e w5 ⟨A5, n5, c5, f5, rfl, hn5, hs5⟩; (have HN5 := Lib.hid hn5); clear hn5)
    exact ⟨rfl, rfl, _, ⟨A5, n5, c5, f5, rfl, rfl, HN5⟩, hX.join hs5⟩
  rintro v ds ⟨A5, n5, c5, f5, rfl, rfl, hn5⟩
  obtain rfl : m = n5 := by rw [hn5.out, HM.out]
  clear hn5
  simp only [Act.put, List.setIfInBounds_toArray, List.set_cons_succ, List.set_cons_zero]
  repeat (refine Mm.give_det (by rfl) (by rfl) (by rfl) (fun K hK => ?_); go_big_quiet_op; refine hK _ ?_; clear hK K)
  refine Mm.give_nil ?_
  rintro X hX
  have HXX := Lib.hid (below_step HBW.out hX.bel0)
  clear hX
  go_wp2
  go_ret
  have e := HEND.out
  rw [HF0.out, HM.out] at e
  rw [e]
  exact ⟨rfl, HXX.out⟩
set_option maxRecDepth 100000 in
set_option maxHeartbeats 2000000 in
theorem implEndOf_c (g : Log) (cs : List Value) (w : World) (B : Nat) (hh : rLog.at_ w B g cs) (hB : B ≤ w.heap.size) (hg : Pl.LogOk g) :
    Calls Tryz.prog 43 #[.agg cs.toArray] w fun e w' => e = .returned (.tuple #[.int .i64 (Pl.endOf g), .bool true]) ∧ Below w.heap.size w w' := by
  obtain ⟨A0, n0, c0, rfl, r0, io⟩ := rLog_at hh
  have HR := Lib.hid r0
  have HG := Lib.hid hg
  have HI := Lib.hid io
  clear hh r0 hg io
  obtain ⟨ga, hga⟩ : ∃ g, w.heap.size = g := ⟨_, rfl⟩
  obtain ⟨W0, hW0⟩ : ∃ W, w.alloc (.cells #[.slice A0 n0 c0, .int .i64 g.Begin] 80) = W := ⟨_, rfl⟩
  have HS0 := Lib.hid (((Mm.SepF.start w).alloc' hga 80 [.slice A0 n0 c0, .int .i64 g.Begin]).atW hW0)
  go_enter Tryz.func43, Tryz.ntmps43
  go_upto_region 1 with fail
  clear hW0
  have d0 := HS0.out.cell (k := 0) 0 rfl rfl
  have d1 := HS0.out.cell (k := 1) 0 rfl rfl
  go_wp2_with fail
  refine (isLog_c g.Pieces g.Begin A0 n0 c0 W0 B (HR.out.keep fun b hb => HS0.out.bel0.block b (by omega)) (by have := HS0.out.bel0.size; omega) HI.out).mono ?_
  rintro e w1 ⟨b, rfl, hb, hbel⟩
  obtain rfl : b = true := hb.2 HG.out
  have HS1 := Lib.hid (HS0.out.step hbel)
  clear hbel d0 d1 hb
  have d0 := HS1.out.cell (k := 0) 0 rfl rfl
  have d1 := HS1.out.cell (k := 1) 0 rfl rfl
  go_wp2_with fail
  refine (logEnd_c g [.slice A0 n0 c0, .int .i64 g.Begin] _ B (rLog_at_mk (HR.out.keep fun b hb => HS1.out.bel0.block b (by omega)) HI.out) (by have := HS1.out.bel0.size; omega) HG.out).mono ?_
  rintro e w2 ⟨rfl, hb2⟩
  have HS2 := Lib.hid (HS1.out.step hb2)
  clear hb2 d0 d1
  go_wp2_with fail
  go_ret2
  exact ⟨rfl, HS2.out.bel0⟩
end Go.Proofs.YtbhmdnjammnlnaaGreatDoor

namespace Go.Proofs.YtbhmdnjammnlnaaGreatDoor
open Go.RowKit
attribute [local go_sem] und_cell World.cell?_alloc_some
def DrawnStep (w : World) (e : Ending) (w' : World) : Prop :=
  ∃ (h : House) (s : HouseStep) (A0 : Option Addr) (n0 c0 : Nat) (A1 : Option Addr) (n1 c1 : Nat) (A2 : Option Addr) (n2 c2 : Nat) (fp : List Nat), e = .returned (.tuple #[.agg #[.slice A0 n0 c0, .slice A1 n1 c1, .slice A2 n2 c2], .agg #[.int .i64 s.Kind, .int .i64 s.Part, .string s.What.Name, .int .i64 s.What.At, .int .i64 s.What.Value]]) ∧ Pl.HoD h ∧ Pl.StepD s ∧ Mm.SepF [] w w' [Mm.tow rHouse h [.slice A0 n0 c0, .slice A1 n1 c1, .slice A2 n2 c2] fp]
set_option maxRecDepth 100000 in
set_option maxHeartbeats 4000000 in
theorem DrawStepHouse_c (code : List Int) (A : Option Addr) (n c : Nat) (w : World) (B : Nat) (hc : Mm.SlAt Mm.u8 w B code A n c) (hB : B ≤ w.heap.size) :
    Calls Tryz.prog 44 #[.slice A n c] w (DrawnStep w) := by
  have HC := Lib.hid hc
  clear hc
  obtain ⟨gr, hgr⟩ : ∃ gr, w.heap.size = gr := ⟨_, rfl⟩
  obtain ⟨W0, hW0⟩ : ∃ W0, w.alloc (.cells #[.slice none 0 0, .slice none 0 0, .slice none 0 0] 27) = W0 := ⟨_, rfl⟩
  have HS0 := Lib.hid (((Mm.SepF.start w).alloc' hgr 27 [.slice none 0 0, .slice none 0 0, .slice none 0 0]).atW hW0)
  obtain ⟨gs, hgs⟩ : ∃ gs, W0.heap.size = gs := ⟨_, rfl⟩
  obtain ⟨W1, hW1⟩ : ∃ W1, W0.alloc (.cells #[.int .i64 0, .int .i64 0, .string ⟨#[]⟩, .int .i64 0, .int .i64 0] 57) = W1 := ⟨_, rfl⟩
  have HS1 := Lib.hid ((HS0.out.alloc' hgs 57 [.int .i64 0, .int .i64 0, .string ⟨#[]⟩, .int .i64 0, .int .i64 0]).atW hW1)
  have hne : gs ≠ gr := by
    have := (Mm.tblk gr 27 [.slice none 0 0, .slice none 0 0, .slice none 0 0]).lt (HS0.out.at_ 0 rfl) gr (by simp [Mm.tblk])
    omega
  have hne2 : gr ≠ gs := Ne.symm hne
  obtain ⟨g, hg⟩ : ∃ g, W1.heap.size = g := ⟨_, rfl⟩
  obtain ⟨W2, hW2⟩ : ∃ W2, W1.alloc (.cells #[.slice A n c, .int .i64 0, .int .u64 0] 128) = W2 := ⟨_, rfl⟩
  have HS := Lib.hid (((HS1.out.alloc' hg 128 [.slice A n c, .int .i64 0, .int .u64 0]).atW hW2).cur)
  have hBg : B ≤ g := by have := HS1.out.chg.size; omega
  go_enter Tryz.func44, Tryz.ntmps44
  go_upto_region 1 with fail
  clear hW0 hW1
  go_upto_region 2 with fail
  clear hW2
  go_upto_region 3 with (go_at_call 99; refine (house_c code A n c g _ _ B (HC.out.keep fun b hb => HS.out.bel0.block b (by omega)) hBg (HS.out.at_ 0 rfl) (by omega)).mono ?_; rintro e w1 ⟨h, A0, n0, c0, A1, n1, c1, A2, n2, c2, fp, rfl, hh, hS⟩; (have HS3 := Lib.hid ((HS.out.callAll 0 rfl hS).sel [3, 1, 2, 4] (by decide) rfl)); clear hS)
  obtain ⟨gt, hgt⟩ : ∃ gt, w1.heap.size = gt := ⟨_, rfl⟩
  obtain ⟨W3, hW3⟩ : ∃ W3, w1.alloc (.cells #[.slice A0 n0 c0, .slice A1 n1 c1, .slice A2 n2 c2] 27) = W3 := ⟨_, rfl⟩
  have HS4 := Lib.hid ((HS3.out.alloc' hgt 27 [.slice A0 n0 c0, .slice A1 n1 c1, .slice A2 n2 c2]).atW hW3)
  rw [hW3, hgt]
  clear hW3
  have hp0 : 1 ≤ n0 ∧ n0 ≤ 3 := by
    obtain ⟨A0', m0, c0', A1', m1, c1', A2', m2, c2', hcs, r0, -⟩ := rHouse_at (rHouse.weak (HS4.out.at_ 1 rfl) (rHouse.olt (HS4.out.at_ 1 rfl)))
    simp only [List.cons.injEq, Value.slice.injEq] at hcs
    have h1 := r0.1; have h2 := hh.n1; have h3 := hh.n3; omega
  have q0 := HS4.out.cell (k := 0) 0 rfl rfl
  go_upto_if 19 with (go_at_call 89; refine (houseSteps_c code A n c g _ _ _ B (HC.out.keep fun b hb => HS4.out.bel0.block b (by omega)) hBg (HS4.out.at_ 4 rfl) (by omega) (by omega)).mono ?_; rintro e w4 ⟨l, A3, n3, c3, fl, rfl, hl, hld, hS⟩; (have HS5 := Lib.hid ((HS4.out.callAll 4 rfl hS).sel [0, 1, 2, 3, 5] (by decide) rfl)); clear hS q0)
  have hn3 : n3 = l.length := (HS5.out.sl 4 rfl).nlen.symm
  have d0 := HS5.out.cell (k := 0) 0 rfl rfl
  have d1 := HS5.out.cell (k := 1) 0 rfl rfl
  have d2 := HS5.out.cell (k := 2) 0 rfl rfl
  have u0 := HS5.out.cell (k := 0) 3 rfl rfl
  have u1 := HS5.out.cell (k := 1) 3 rfl rfl
  have u2 := HS5.out.cell (k := 2) 3 rfl rfl
  have v0 := HS5.out.frz (k := 0) 3 rfl
  have v1 := HS5.out.frz (k := 1) 3 rfl
  have v2 := HS5.out.frz (k := 2) 3 rfl
  have y0 := HS5.out.frz (k := 0) 2 rfl
  have y1 := HS5.out.frz (k := 1) 2 rfl
  have y2 := HS5.out.frz (k := 2) 2 rfl
  have y3 := HS5.out.frz (k := 3) 2 rfl
  have y4 := HS5.out.frz (k := 4) 2 rfl
  have x0 := HS5.out.cell (k := 0) 2 rfl rfl
  have x1 := HS5.out.cell (k := 1) 2 rfl rfl
  have x2 := HS5.out.cell (k := 2) 2 rfl rfl
  have x3 := HS5.out.cell (k := 3) 2 rfl rfl
  have x4 := HS5.out.cell (k := 4) 2 rfl rfl
  by_cases h0 : n3 = 0
  · clear hn3
    subst h0
    go_wp2
    have HS8 := Lib.hid ((((((((HS5.out.setBlk (k := 0) 3 rfl (.slice A0 n0 c0)).setBlk (k := 1) 3 rfl (.slice A1 n1 c1)).setBlk (k := 2) 3 rfl (.slice A2 n2 c2)).setBlk (k := 0) 2 rfl (.int .i64 3)).setBlk (k := 1) 2 rfl (.int .i64 0)).setBlk (k := 2) 2 rfl (.string ⟨#[]⟩)).setBlk (k := 3) 2 rfl (.int .i64 0)).setBlk (k := 4) 2 rfl (.int .i64 0))
    clear d0 d1 d2
    (have d0 := HS8.out.cell (k := 0) 3 rfl rfl); (have d1 := HS8.out.cell (k := 1) 3 rfl rfl); (have d2 := HS8.out.cell (k := 2) 3 rfl rfl)
    (have b0 := HS8.out.cell (k := 0) 2 rfl rfl); (have b1 := HS8.out.cell (k := 1) 2 rfl rfl); (have b2 := HS8.out.cell (k := 2) 2 rfl rfl); (have b3 := HS8.out.cell (k := 3) 2 rfl rfl); (have b4 := HS8.out.cell (k := 4) 2 rfl rfl)
    exact bodyPost_ret (v := .tuple #[.agg #[.slice A0 n0 c0, .slice A1 n1 c1, .slice A2 n2 c2], .agg #[Value.int .i64 3, Value.int .i64 0, Value.string (⟨#[]⟩ : ByteArray), Value.int .i64 0, Value.int .i64 0]]) (by simp [results, Tryz.results44, go_sem, d0, d1, d2, b0, b1, b2, b3, b4]) rfl ⟨h, (⟨3, 0, ⟨⟨#[]⟩, 0, 0⟩⟩ : HouseStep), _, _, _, _, _, _, _, _, _, _, rfl, hh, ⟨⟨by decide, by decide⟩, ⟨by decide, by decide⟩, Pl.SayD.zero⟩, HS8.out.sel [1] (by decide) rfl⟩
  · obtain ⟨ge, hge, -, -⟩ := Mm.sl_addr (HS5.out.sl 4 rfl) (by omega)
    subst hge
    obtain ⟨s, hs⟩ : ∃ s, l[0]? = some s := ⟨_, List.getElem?_eq_getElem (by omega)⟩
    obtain ⟨e0, e1, e2, e3, e4⟩ := rHouseStep_ocell (HS5.out.sl 4 rfl) (HS5.out.ndat (i := 4) rfl) hs
    simp only [Nat.zero_mul, Nat.zero_add] at e0 e1 e2 e3 e4
    have HST := Lib.hid (hld s (List.mem_of_getElem? hs))
    have f1 : (0 : Int) < (n3 : Nat) := by omega
    have f2 : ((n3 : Nat) : Int) ≠ 0 := by omega
    clear hs hld
    go_wp2
    clear hn3
    have ne3 : ge ≠ gr := fun e => HS5.out.apart (i := 4) (j := 3) rfl rfl (by decide) ge (HS5.out.sl 4 rfl).mem_block (by simp [Mm.tblk, e])
    have ne4 : ge ≠ gs := fun e => HS5.out.apart (i := 4) (j := 2) rfl rfl (by decide) ge (HS5.out.sl 4 rfl).mem_block (by simp [Mm.tblk, e])
    have ne5 : gt ≠ gr := fun e => HS5.out.apart (i := 0) (j := 3) rfl rfl (by decide) gt (by simp [Mm.tblk]) (by simp [Mm.tblk, e])
    have ne6 : gt ≠ gs := fun e => HS5.out.apart (i := 0) (j := 2) rfl rfl (by decide) gt (by simp [Mm.tblk]) (by simp [Mm.tblk, e])
    have HS8 := Lib.hid ((((((((HS5.out.setBlk (k := 0) 3 rfl (.slice A0 n0 c0)).setBlk (k := 1) 3 rfl (.slice A1 n1 c1)).setBlk (k := 2) 3 rfl (.slice A2 n2 c2)).setBlk (k := 0) 2 rfl (.int .i64 s.Kind)).setBlk (k := 1) 2 rfl (.int .i64 s.Part)).setBlk (k := 2) 2 rfl (.string s.What.Name)).setBlk (k := 3) 2 rfl (.int .i64 s.What.At)).setBlk (k := 4) 2 rfl (.int .i64 s.What.Value))
    go_region
    all_goals go_wp2
    · obtain ⟨WA, hWA⟩ : ∃ WA, ((((((((w4.setCell ⟨gr, 0, none⟩ (.slice A0 n0 c0)).setCell ⟨gr, 1, none⟩ (.slice A1 n1 c1)).setCell ⟨gr, 2, none⟩ (.slice A2 n2 c2)).setCell ⟨gs, 0, none⟩ (.int .i64 s.Kind)).setCell ⟨gs, 1, none⟩ (.int .i64 s.Part)).setCell ⟨gs, 2, none⟩ (.string s.What.Name)).setCell ⟨gs, 3, none⟩ (.int .i64 s.What.At)).setCell ⟨gs, 4, none⟩ (.int .i64 s.What.Value)).drew = WA := ⟨_, rfl⟩
      replace HS8 := Lib.hid ((HS8.out.step (Below.refl _ _).drew).atW hWA)
      rw [hWA]
      clear hWA d0 d1 d2
      (have d0 := HS8.out.cell (k := 0) 3 rfl rfl); (have d1 := HS8.out.cell (k := 1) 3 rfl rfl); (have d2 := HS8.out.cell (k := 2) 3 rfl rfl)
      (have b0 := HS8.out.cell (k := 0) 2 rfl rfl); (have b1 := HS8.out.cell (k := 1) 2 rfl rfl); (have b2 := HS8.out.cell (k := 2) 2 rfl rfl); (have b3 := HS8.out.cell (k := 3) 2 rfl rfl); (have b4 := HS8.out.cell (k := 4) 2 rfl rfl)
      exact bodyPost_ret (v := .tuple #[.agg #[.slice A0 n0 c0, .slice A1 n1 c1, .slice A2 n2 c2], .agg #[Value.int .i64 s.Kind, Value.int .i64 s.Part, Value.string s.What.Name, Value.int .i64 s.What.At, Value.int .i64 s.What.Value]]) (by simp [results, Tryz.results44, go_sem, d0, d1, d2, b0, b1, b2, b3, b4]) rfl ⟨h, s, _, _, _, _, _, _, _, _, _, _, rfl, hh, HST.out, HS8.out.sel [1] (by decide) rfl⟩
end Go.Proofs.YtbhmdnjammnlnaaGreatDoor

