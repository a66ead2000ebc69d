/-
  Joined texts, in build order: M4, M5, M6, M9, Y0, M8, Y1. Each part says what it proves; no conditions beyond those that a part names.
-/
import Derived.Test.YtbhmdnjammnlnaaGreatDoorZ07
import Derived.Test.YtbhmdnjammnlnaaGreatDoorZ08
set_option linter.unusedVariables false
set_option linter.unusedSimpArgs false
namespace Go.Proofs.YtbhmdnjammnlnaaGreatDoor
open Go.RowKit
attribute [local go_sem] und_cell cha_cell World.cell?_alloc_some
theorem Mm.SepF.hoShut {F : List Nat} {w0 w : World} {h : House} {A0 : Option Addr} {n0 c0 : Nat} {A1 : Option Addr} {n1 c1 : Nat} {A2 : Option Addr} {n2 c2 : Nat} {f0 f1 f2 : List Nat} {rest : List Mm.Thing}
    (k : Mm.SepF F w0 w (Mm.tsl rLog 80 h.Logs (.slice A0 n0 c0) f0 :: Mm.tsl rHead 73 h.Heads (.slice A1 n1 c1) f1 :: Mm.tsl rHead 73 h.Kept (.slice A2 n2 c2) f2 :: rest)) :
    Mm.SepF F w0 w (Mm.tow rHouse h [.slice A0 n0 c0, .slice A1 n1 c1, .slice A2 n2 c2] (f0 ++ (f1 ++ f2)) :: rest) := by
  refine k.conv (by simp [Mm.tow, Mm.tsl]) fun u hu => ?_
  rcases List.mem_cons.1 hu with rfl | hu
  · exact rHouse_own_mk (k.sl 0 rfl) (k.sl 1 rfl) (k.sl 2 rfl)
  · exact k.hold u (by simp [hu])
theorem Mm.SepF.hoOpen {F : List Nat} {w0 w : World} {h : House} {cs : List Value} {fp : List Nat} {rest : List Mm.Thing} (k : Mm.SepF F w0 w (Mm.tow rHouse h cs fp :: rest)) :
    ∃ A0 n0 c0 A1 n1 c1 A2 n2 c2 f0 f1 f2, cs = [.slice A0 n0 c0, .slice A1 n1 c1, .slice A2 n2 c2] ∧ h.Logs.length = n0 ∧ h.Heads.length = n1 ∧ h.Kept.length = n2 ∧
      Mm.SepF F w0 w (Mm.tsl rLog 80 h.Logs (.slice A0 n0 c0) f0 :: Mm.tsl rHead 73 h.Heads (.slice A1 n1 c1) f1 :: Mm.tsl rHead 73 h.Kept (.slice A2 n2 c2) f2 :: rest) := by
  obtain ⟨A0, n0, c0, A1, n1, c1, A2, n2, c2, f0, f1, f2, rfl, rfl, h0, h1, h2⟩ := rHouse_own (k.at_ 0 rfl)
  refine ⟨A0, n0, c0, A1, n1, c1, A2, n2, c2, f0, f1, f2, rfl, h0.nlen, h1.nlen, h2.nlen, k.conv (by simp [Mm.tow, Mm.tsl]) fun u hu => ?_⟩
  rcases List.mem_cons.1 hu with rfl | hu
  · exact h0
  · rcases List.mem_cons.1 hu with rfl | hu
    · exact h1
    · rcases List.mem_cons.1 hu with rfl | hu
      · exact h2
      · exact k.hold u (List.mem_cons_of_mem _ hu)
def zHo : House := ⟨[], [], []⟩
theorem zHo_own (w : World) : rHouse.own w zHo [.slice none 0 0, .slice none 0 0, .slice none 0 0] [] := by
  have h := rHouse_own_mk (w := w) (x := zHo) Mm.SlOwn.nil Mm.SlOwn.nil Mm.SlOwn.nil
  simpa using h
def CatAns (x : House × Nat × Bool) (w : World) (e : Ending) (w' : World) : Prop :=
  ∃ cs fp, e = .returned (.tuple #[.agg cs.toArray, .int .i64 (x.2.1 : Nat), .bool x.2.2]) ∧ Mm.SepF [] w w' [Mm.tow rHouse x.1 cs fp]
def Pl.catchOf (b : Bool) (h : House) : House × Nat × Bool := if b = true then ((Pl.catchN h h.Logs.length).1, (Pl.catchN h h.Logs.length).2, true) else (zHo, 0, false)
theorem catNo {h : House} {w w' : World} (hb : Below w.heap.size w w') : CatAns (Pl.catchOf false h) w (.returned (.tuple #[.agg #[.slice none 0 0, .slice none 0 0, .slice none 0 0], .int .i64 (0 : Nat), .bool false])) w' :=
  ⟨[.slice none 0 0, .slice none 0 0, .slice none 0 0], [], rfl, (Mm.SepF.start w).add hb (t := Mm.tow rHouse zHo _ []) (zHo_own w') List.nodup_nil (fun b hb => by cases hb)⟩
set_option maxRecDepth 100000 in
set_option maxHeartbeats 4000000 in
theorem implCatchUp_c (h : House) (b : Bool) (hb : b = true ↔ Pl.HouseOk h) (Bt : Nat) (cs : List Value) (w : World) (B : Nat) (hh : rHouse.at_ w B h cs) (hB : B ≤ w.heap.size) (ht : Tab Bt w) :
    Calls Tryz.prog 31 #[.agg cs.toArray] w (CatAns (Pl.catchOf b h) w) := by
  obtain ⟨A0, n0, c0, A1, n1, c1, A2, n2, c2, rfl, -, -, -⟩ := rHouse_at hh
  have HR := Lib.hid hh
  have HBW := Lib.hid hB
  have HT := Lib.hid ht
  obtain ⟨ga, hga⟩ : ∃ g, w.heap.size = g := ⟨_, rfl⟩
  obtain ⟨gz, hgz⟩ : ∃ g, ga + 1 = g := ⟨_, rfl⟩
  obtain ⟨W0, hW0⟩ : ∃ W, (w.alloc (.cells #[.slice A0 n0 c0, .slice A1 n1 c1, .slice A2 n2 c2] 27)).alloc (.cells #[.slice none 0 0, .slice none 0 0, .slice none 0 0] 27) = W := ⟨_, rfl⟩
  have KS0 := Lib.hid ((((Mm.SepF.start w).alloc' hga 27 [.slice A0 n0 c0, .slice A1 n1 c1, .slice A2 n2 c2]).alloc' (g := gz) (by rw [Mm.sz1, hga, hgz]) 27 [.slice none 0 0, .slice none 0 0, .slice none 0 0]).atW hW0)
  have d0 := KS0.out.cell (k := 0) 1 rfl rfl
  have d1 := KS0.out.cell (k := 1) 1 rfl rfl
  have d2 := KS0.out.cell (k := 2) 1 rfl rfl
  have CI := BoolAns.fix hb (isHouse_c h _ W0 B Bt (rHouse.keep hh fun b hb => KS0.out.bel0.block b (by omega)) (by have := KS0.out.bel0.size; omega) (ht.on KS0.out.bel0))
  have HBO := Lib.hid hb
  clear hh hB ht hb
  go_enter Tryz.func31, Tryz.ntmps31
  go_wp2_with fail
  refine CI.mono ?_
  rintro e w1 ⟨rfl, hb1⟩
  obtain ⟨W1, rfl⟩ : ∃ W : World, W = w1 := ⟨_, rfl⟩
  have HS1 := Lib.hid (KS0.out.step hb1)
  clear CI d0 d1 d2 hb1 KS0 hW0 hga hgz
  cases b with
  | false =>
    obtain ⟨WR, hWR⟩ : ∃ V, ((W1.setCell ⟨gz, 0, none⟩ (.slice none 0 0)).setCell ⟨gz, 1, none⟩ (.slice none 0 0)).setCell ⟨gz, 2, none⟩ (.slice none 0 0) = V := ⟨_, rfl⟩
    have HSF := Lib.hid ((((HS1.out.setBlk (k := 0) 0 rfl (.slice none 0 0)).setBlk (k := 1) 0 rfl (.slice none 0 0)).setBlk (k := 2) 0 rfl (.slice none 0 0)).atW hWR)
    have u0 := HSF.out.cell (k := 0) 0 rfl rfl
    have u1 := HSF.out.cell (k := 1) 0 rfl rfl
    have u2 := HSF.out.cell (k := 2) 0 rfl rfl
    have z0 := HS1.out.cell (k := 0) 0 rfl rfl
    have z1 := HS1.out.cell (k := 1) 0 rfl rfl
    have z2 := HS1.out.cell (k := 2) 0 rfl rfl
    have y0 := HS1.out.frz (k := 0) 0 rfl
    have y1 := HS1.out.frz (k := 1) 0 rfl
    have y2 := HS1.out.frz (k := 2) 0 rfl
    go_wp2
    exact bodyPost_ret (v := .tuple #[.agg #[.slice none 0 0, .slice none 0 0, .slice none 0 0], .int .i64 (0 : Nat), .bool false]) (by simp [results, Tryz.results31, go_sem, u0, u1, u2]) rfl (catNo HSF.out.bel0)
  | true =>
    have HHO := Lib.hid (HBO.out.1 rfl)
    have d0 := HS1.out.cell (k := 0) 1 rfl rfl
    have d1 := HS1.out.cell (k := 1) 1 rfl rfl
    have d2 := HS1.out.cell (k := 2) 1 rfl rfl
    have CC := cloneHouse_c h _ W1 B (rHouse.keep HR.out fun b hb => HS1.out.bel0.block b (by have := HBW.out; omega)) (by have := HBW.out; have := HS1.out.bel0.size; omega) HHO.out.hos
    go_wp2_with fail
    refine CC.mono ?_
    rintro e w2 ⟨csc, fpc, rfl, hoc, hndc, hnewc, hbc⟩
    clear CC d0 d1 d2
    obtain ⟨Wc, rfl⟩ : ∃ W : World, W = w2 := ⟨_, rfl⟩
    obtain ⟨A3, m3, k3, A4, m4, k4, A5, m5, k5, f3, f4, f5, rfl, l3, l4, l5, hso⟩ := Mm.SepF.hoOpen (h := h) (HS1.out.add hbc (t := Mm.tow rHouse h csc fpc) hoc hndc hnewc)
    obtain rfl : m4 = m3 := by have := HHO.out.hdn; omega
    obtain rfl : m5 = m4 := by have := HHO.out.kpn; omega
    have HS2 := Lib.hid hso
    clear hso hbc hoc hndc hnewc l3 l4 l5
    obtain ⟨gp, hgp⟩ : ∃ g, Wc.heap.size = g := ⟨_, rfl⟩
    obtain ⟨Wd, hWd⟩ : ∃ W, Wc.alloc (.cells #[.slice none 0 0, .slice none 0 0, .slice none 0 0] 27) = W := ⟨_, rfl⟩
    have HS3 := Lib.hid ((HS2.out.alloc' hgp 27 [.slice none 0 0, .slice none 0 0, .slice none 0 0]).atW hWd)
    have q0 := HS3.out.cell (k := 0) 0 rfl rfl
    have q1 := HS3.out.cell (k := 1) 0 rfl rfl
    have q2 := HS3.out.cell (k := 2) 0 rfl rfl
    have y0 := HS3.out.frz (k := 0) 0 rfl
    have y1 := HS3.out.frz (k := 1) 0 rfl
    have y2 := HS3.out.frz (k := 2) 0 rfl
    go_upto_region 4 with fail
    obtain ⟨WF, hWF⟩ : ∃ V, ((Wd.setCell ⟨gp, 0, none⟩ (.slice A3 m5 k3)).setCell ⟨gp, 1, none⟩ (.slice A4 m5 k4)).setCell ⟨gp, 2, none⟩ (.slice A5 m5 k5) = V := ⟨_, rfl⟩
    have HS4 := Lib.hid ((((HS3.out.setBlk (k := 0) 0 rfl (.slice A3 m5 k3)).setBlk (k := 1) 0 rfl (.slice A4 m5 k4)).setBlk (k := 2) 0 rfl (.slice A5 m5 k5)).atW hWF)
    rw [hWF]
    clear hWF hWd hgp q0 q1 q2 y0 y1 y2 HS3 HS2 HS1
    have CU := catchUp_c h gp Bt [Mm.tblk gz 27 [.slice none 0 0, .slice none 0 0, .slice none 0 0], Mm.tblk ga 27 [.slice A0 n0 c0, .slice A1 n1 c1, .slice A2 n2 c2]] HHO.out w WF HT.out ⟨m5, A3, k3, f3, A4, k4, f4, A5, k5, f5, HS4.out.sel [1, 2, 3, 0, 4, 5] (by decide) rfl⟩
    go_wp2_with fail
    refine CU.mono ?_
    rintro e w5 ⟨rfl, n, AL, cL, fL, AH, cH, fH, AK, cK, fK, hS⟩
    obtain ⟨W5, rfl⟩ : ∃ W : World, W = w5 := ⟨_, rfl⟩
    have HS5 := Lib.hid hS
    clear CU hS HS4
    have p0 := HS5.out.cell (k := 0) 3 rfl rfl
    have p1 := HS5.out.cell (k := 1) 3 rfl rfl
    have p2 := HS5.out.cell (k := 2) 3 rfl rfl
    obtain ⟨WR, hWR⟩ : ∃ V, ((W5.setCell ⟨gz, 0, none⟩ (.slice AL n cL)).setCell ⟨gz, 1, none⟩ (.slice AH n cH)).setCell ⟨gz, 2, none⟩ (.slice AK n cK) = V := ⟨_, rfl⟩
    have HSF := Lib.hid ((((HS5.out.setBlk (k := 0) 4 rfl (.slice AL n cL)).setBlk (k := 1) 4 rfl (.slice AH n cH)).setBlk (k := 2) 4 rfl (.slice AK n cK)).atW hWR)
    have u0 := HSF.out.cell (k := 0) 4 rfl rfl
    have u1 := HSF.out.cell (k := 1) 4 rfl rfl
    have u2 := HSF.out.cell (k := 2) 4 rfl rfl
    have z0 := HS5.out.cell (k := 0) 4 rfl rfl
    have z1 := HS5.out.cell (k := 1) 4 rfl rfl
    have z2 := HS5.out.cell (k := 2) 4 rfl rfl
    have y0 := HS5.out.frz (k := 0) 4 rfl
    have y1 := HS5.out.frz (k := 1) 4 rfl
    have y2 := HS5.out.frz (k := 2) 4 rfl
    go_wp2
    exact bodyPost_ret (v := .tuple #[.agg #[.slice AL n cL, .slice AH n cH, .slice AK n cK], .int .i64 ((Pl.catchN h h.Logs.length).2 : Nat), .bool true]) (by simp [results, Tryz.results31, go_sem, u0, u1, u2]) rfl ⟨_, _, rfl, (HSF.out.hoShut (h := (Pl.catchN h h.Logs.length).1)).sel [0] (by decide) rfl⟩
end Go.Proofs.YtbhmdnjammnlnaaGreatDoor

namespace Go.Proofs.YtbhmdnjammnlnaaGreatDoor
open Go.RowKit
attribute [local go_sem] und_cell cha_cell World.cell?_alloc_some
def HoVal (w0 w : World) (h : House) (cs : List Value) (rest : List Mm.Thing) : Prop :=
  ∃ (n : Nat) (AL : Option Addr) (cL : Nat) (fL : List Nat) (AH : Option Addr) (cH : Nat) (fH : List Nat) (AK : Option Addr) (cK : Nat) (fK : List Nat), cs = [.slice AL n cL, .slice AH n cH, .slice AK n cK] ∧
    Mm.SepF [] w0 w (Mm.tsl rLog 80 h.Logs (.slice AL n cL) fL :: Mm.tsl rHead 73 h.Heads (.slice AH n cH) fH :: Mm.tsl rHead 73 h.Kept (.slice AK n cK) fK :: rest)
def gTk (h : Head) (x : Say) : Mm.Rel := fun _ _ v ds => ∃ A m d f, v = .tuple #[.agg #[.slice A m d, .int .i64 (h.Offset + 1)], .int .i64 (Pl.takeS h x).2] ∧ ds = [Mm.tsl rRow 139 (Pl.takeS h x).1.Rows (.slice A m d) f]
theorem gTk_in {h : Head} {x : Say} {vals : List Value} {tk : List Mm.Thing} : ∃ v ds, gTk h x vals tk v ds := ⟨_, _, none, 0, 0, [], rfl, rfl⟩
set_option maxRecDepth 100000 in
set_option maxHeartbeats 8000000 in
theorem l17Follow_c (h : House) (k : Nat) (rest : List Mm.Thing) (g : Log) (a b : Head) (l : List Say) (at_ : HoAt h k g a b l) (cs : List Value) (w0 w : World) (hs : HoVal w0 w h cs rest) :
    Calls Tryz.prog 80 #[.agg cs.toArray, .int .i64 (k : Nat)] w fun e w' => e = .returned (.tuple #[.agg cs.toArray, .bool (Pl.followS h k).2]) ∧ HoVal w0 w' (Pl.followS h k).1 cs rest := by
  obtain ⟨n, AL, cL, fL, AH, cH, fH, AK, cK, fK, rfl, hS⟩ := hs
  have HNN : Hid (h.Logs.length = n) := (hS.sl 0 rfl).nlen
  have HNH : Hid (h.Heads.length = n) := (hS.sl 1 rfl).nlen
  have hkn : k < n := by have := (List.getElem?_eq_some_iff.1 at_.lg).1; have := HNN.out; omega
  obtain ⟨gH, rfl, -, -⟩ := Mm.sl_addr (hS.sl 1 rfl) (by have := HNH.out; omega)
  have HA := Lib.hid at_
  have fk0 : (0 : Int) ≤ (k : Nat) := by omega
  have fkt : ((k : Nat) : Int).toNat = k := by omega
  have fkn : (k : Int) < (n : Nat) := by omega
  obtain ⟨gb, hgb⟩ : ∃ g, w.heap.size = g := ⟨_, rfl⟩
  obtain ⟨gz, hgz⟩ : ∃ g, gb + 1 = g := ⟨_, rfl⟩
  obtain ⟨W0, hW0⟩ : ∃ W, (w.alloc (.cells #[.slice AL n cL, .slice (some ⟨gH, 0, none⟩) n cH, .slice AK n cK] 27)).alloc (.cells #[.slice none 0 0, .slice none 0 0, .slice none 0 0] 27) = W := ⟨_, rfl⟩
  have HS := Lib.hid (((hS.alloc' hgb 27 [.slice AL n cL, .slice (some ⟨gH, 0, none⟩) n cH, .slice AK n cK]).alloc' (g := gz) (by rw [Mm.sz1, hgb, hgz]) 27 [.slice none 0 0, .slice none 0 0, .slice none 0 0]).atW hW0)
  clear hS at_
  have p0 := HS.out.cell (k := 0) 1 rfl rfl
  have p1 := HS.out.cell (k := 1) 1 rfl rfl
  obtain ⟨x, bX, oX, AP, mP, cP, hx, rfl, hbX, hrp, hbg, e0, e1⟩ := rLog_get (HS.out.rdSl 2 rfl) hkn
  obtain rfl : x = g := by have := HA.out.lg; rw [hx] at this; injection this
  have CA := l6All_c x [.slice AP mP cP, .int .i64 x.Begin] W0 W0.heap.size (rLog_at_mk hrp hbg) (Nat.le_refl _) HA.out.p.log HA.out.p.bg
  clear hx hrp hbg
  go_enter Tryz.func80, Tryz.ntmps80
  go_wp2_with fail
  refine CA.mono ?_
  rintro e w1 ⟨A5, m5, c5, f5, rfl, hm5, hS5⟩
  obtain ⟨W1, rfl⟩ : ∃ W : World, W = w1 := ⟨_, rfl⟩
  have HS1 := Lib.hid (HS.out.join hS5)
  have HM5 : Hid (m5 = (Pl.lRecs x.Pieces).length) := hm5
  clear CA p0 p1 e0 e1 hS5 hm5 HS hW0 hgb hgz
  obtain ⟨A6, m6, c6, q0, q1⟩ := rHead_ocell (HS1.out.sl 4 rfl) (HS1.out.ndat (i := 4) rfl) HA.out.hd
  clear q0
  have p1 := HS1.out.cell (k := 1) 2 rfl rfl
  have ho := HA.out.p.mo
  obtain ⟨m, hm⟩ : ∃ m : Nat, a.Offset = m := ⟨a.Offset.toNat, by omega⟩
  have HMO := Lib.hid hm
  have hm60 : m ≤ 60 := by omega
  rw [hm] at q1
  clear ho hm
  go_upto_region 3 with fail
  clear p1 q1
  by_cases hc : m < m5
  · have hc1 : ¬ ((m5 : Nat) : Int) ≤ (m : Nat) := by omega
    have f2 : (0 : Int) ≤ (m : Nat) := by omega
    have f3 : ((m : Nat) : Int).toNat = m := by omega
    have f4 : (m : Int) < (m5 : Nat) := by omega
    obtain ⟨y, hy, hsay, hrec, hrd⟩ := Pl.sayAt_of HA.out.p (m := m) (by have := HM5.out; omega)
    have HF : Hid (Pl.followS h k = (⟨h.Logs, h.Heads.set k (Pl.takeS a y).1, h.Kept⟩, true)) := by
      show _ = _
      unfold Pl.followS
      rw [Pl.headK_of HA.out.hd, Pl.logK_of HA.out.lg, HMO.out, Int.toNat_natCast, hsay, if_pos (by have := HM5.out; omega)]
    have HRD := Lib.hid hrd
    have HYI : Hid (y.Name.size ≤ maxLen ∧ Mm.I64 y.At ∧ Mm.I64 y.Value) := by
      have hyo := HA.out.p.sayOk y (List.mem_of_getElem? hy)
      have h1 := Pl.sayOk_bounds hyo
      have h2 := Pl.sayOk_name hyo
      exact ⟨by unfold maxLen; omega, by unfold Mm.I64; omega, by unfold Mm.I64; omega⟩
    obtain ⟨s, bs, os, cs0, hs, hA5, -, hat, hcell⟩ := (HS1.out.rdSl 0 rfl).get hc
    subst hA5
    obtain ⟨rfl, -⟩ := hat
    have r0 := hcell 0 _ rfl
    rw [show os + m * Mm.str.size + 0 = os + m from by show os + m * 1 + 0 = _; omega] at r0
    obtain rfl : s = Pl.sayTxt y := by rw [hs] at hrec; injection hrec
    obtain ⟨s, hsx⟩ : ∃ s, Pl.sayTxt y = s := ⟨_, rfl⟩
    rw [hsx] at r0 HRD hs
    have hs20 : s.size ≤ 20 := Pl.lRecs_size (List.mem_of_getElem? hs)
    have CR := l13Read_c s hs20 W1
    clear hy hsay hrec hrd hs hcell hsx
    go_wp2_with fail
    refine CR.mono ?_
    rintro e w2 ⟨z, ok, rfl, hb2, hzi, hz⟩
    rw [HRD.out] at hz
    obtain ⟨rfl, rfl⟩ : ok = true ∧ z = y := by
      cases ok with
      | true => injection (by simpa using hz : some y = some z) with hz; exact ⟨rfl, hz.symm⟩
      | false => simp at hz
    obtain ⟨W2, rfl⟩ : ∃ W : World, W = w2 := ⟨_, rfl⟩
    have HS2 := Lib.hid (HS1.out.step hb2)
    clear CR r0 hb2 hz hzi HS1 HRD
    obtain ⟨gs, hgs⟩ : ∃ g, W2.heap.size = g := ⟨_, rfl⟩
    obtain ⟨W3, hW3⟩ : ∃ W, W2.alloc (.cells #[.string z.Name, .int .i64 z.At, .int .i64 z.Value] 55) = W := ⟨_, rfl⟩
    have HS3 := Lib.hid ((HS2.out.alloc' hgs 55 [.string z.Name, .int .i64 z.At, .int .i64 z.Value]).atW hW3)
    go_upto_region 6 with fail
    clear hW3 hgs HS2
    have s0 := HS3.out.cell (k := 0) 0 rfl rfl
    have s1 := HS3.out.cell (k := 1) 0 rfl rfl
    have s2 := HS3.out.cell (k := 2) 0 rfl rfl
    have p1 := HS3.out.cell (k := 1) 3 rfl rfl
    obtain ⟨Ar, mr, dr, fx, t0, t1, hml, hso, hfn, hfs, -, hmain, -⟩ := HS3.out.headRows 5 rfl HA.out.hd
    have HMAIN := Lib.hid hmain
    have HSO := Lib.hid (And.intro hso hfn)
    have nS : gs ∉ fx := fun hh => HS3.out.apart (i := 0) (j := 5) rfl rfl (by decide) gs (by simp [Mm.tblk]) (hfs _ hh).1
    have nB : gb ∉ fx := fun hh => HS3.out.apart (i := 3) (j := 5) rfl rfl (by decide) gb (by simp [Mm.tblk]) (hfs _ hh).1
    have nH : gH ∉ fx := fun hh => (hfs _ hh).2 rfl
    have hgHl : gH < W3.heap.size := (HS3.out.sl 5 rfl).olt _ (HS3.out.sl 5 rfl).mem_block
    have hgBl : gb < W3.heap.size := (HS3.out.blk 3 rfl).1
    have zf := (HS3.out.sl 5 rfl).frozen
    have HHW := Lib.hid HA.out.p.head.hw
    have ho2 : 0 ≤ a.Offset ∧ a.Offset ≤ 1000000 := by rw [HMO.out]; omega
    have HO2 := Lib.hid ho2
    have HZF := Lib.hid zf
    clear hmain hso hfn hfs hml ho2 zf
    refine Mm.wp_region_give 12 (fun i => match i with | 6 => some (gTk a z) | 10 => some (Mm.gPtr 73 [.slice none 0 0, .int .i64 0]) | 11 => some (Mm.gSto 73) | _ => none) (fun i => match i with | 6 => [13] | 11 => [10] | _ => []) (fun i => match i with | 13 => [Mm.tsl rRow 139 a.Rows (.slice Ar mr dr) fx] | _ => []) (F := fx) (D := fun w' => ∃ q : Cha fx W3, w' = cha fx W3 q) (fun X us h => Mm.sep_cha h) (by kernel_rfl) (by kernel_rfl) (by kernel_rfl) (Mm.sep_eq ((Mm.SepF.one (Mm.tsl rRow 139 a.Rows (.slice Ar mr dr) fx) W3 HSO.out.1 HSO.out.2).step (Below.refl _ _).drew) rfl) ?_
    repeat (refine Mm.give_det (by rfl) (by rfl) (by rfl) (fun K hK => ?_); go_big_quiet_op; refine hK _ ?_; clear hK K)
    refine Mm.give_op1 44 13 (by rfl) rfl (by rfl) (by rfl) (by rfl) rfl (by rfl) _ rfl gTk_in (fun others X hX => ?_) ?_
    · go_wp2_with (go_at_call 128; refine (l13Take_c a z Ar mr dr fx X (hX.sl 0 rfl) (hX.ndat (i := 0) rfl) HHW.out HO2.out HYI.out.1 HYI.out.2.1 HYI.out.2.2).mono ?_; rintro e w5 ⟨A2, m2, d2, f2, rfl, hS9⟩)
      exact ⟨rfl, rfl, _, ⟨A2, m2, d2, f2, rfl, rfl⟩, hX.call 0 rfl hS9.left⟩
    rintro v ds ⟨A2, m2, d2, fr, rfl, rfl⟩
    simp only [Act.put, List.setIfInBounds_toArray, List.set_cons_succ, List.set_cons_zero]
    repeat (refine Mm.give_det (by rfl) (by rfl) (by rfl) (fun K hK => ?_); go_big_quiet_op; refine hK _ ?_; clear hK K)
    refine Mm.give_op0 10 (by rfl) rfl (by rfl) (by rfl) (by rfl) (by rfl) Mm.gPtr_in (fun others X hX => ?_) ?_
    · go_wp2
      exact Mm.gvq_ptr hX rfl rfl rfl
    rintro v ds ⟨gy, rfl, rfl⟩
    simp only [Act.put, List.setIfInBounds_toArray, List.set_cons_succ, List.set_cons_zero]
    refine Mm.give_store 73 gy [.slice none 0 0, .int .i64 0] [.slice A2 m2 d2, .int .i64 (a.Offset + 1)] 10 (by rfl) rfl rfl (by rfl) rfl (by rfl) rfl rfl (fun others X hX => ?_) ?_
    · have y0 := hX.cell (k := 0) 0 rfl rfl
      have y1 := hX.cell (k := 1) 0 rfl rfl
      have x0 := hX.frz (k := 0) 0 rfl
      have x1 := hX.frz (k := 1) 0 rfl
      have hX9 := (hX.setBlk (k := 0) 0 rfl (.slice A2 m2 d2)).setBlk (k := 1) 0 rfl (.int .i64 (a.Offset + 1))
      go_wp2
      exact ⟨rfl, rfl, _, rfl, hX9⟩
    refine Mm.give_nil ?_
    rintro X2 hX
    have HX2 : Hid (Mm.SepF fx W3 X2 [Mm.tsl rRow 139 (Pl.takeS a z).1.Rows (.slice A2 m2 d2) fr, Mm.tblk gy 73 [.slice A2 m2 d2, .int .i64 (a.Offset + 1)]]) := Mm.sep_eq hX rfl
    clear hX s0 s1 s2 p1 t0 t1
    go_upto_region 7 with fail
    have y0 := HX2.out.cell (k := 0) 1 rfl rfl
    have y1 := HX2.out.cell (k := 1) 1 rfl rfl
    have p1 := (World.cell?_of_block (a := ⟨gb, 1, none⟩) (HX2.out.chg.block gb hgBl nB)).trans (HS3.out.cell (k := 1) 3 rfl rfl)
    obtain ⟨A7, m7, c7, v0, v1⟩ := rHead_ocell (HS3.out.sl 5 rfl) (HS3.out.ndat (i := 5) rfl) HA.out.hd
    have t0 := (World.cell?_of_block (a := ⟨gH, k * 2, none⟩) (HX2.out.chg.block gH hgHl nH)).trans v0
    have t1 := (World.cell?_of_block (a := ⟨gH, k * 2 + 1, none⟩) (HX2.out.chg.block gH hgHl nH)).trans v1
    have z0 := (World.frozen?_of_block (a := ⟨gH, k * 2, none⟩) (HX2.out.chg.block gH hgHl nH)).trans (HZF.out _)
    have z1 := (World.frozen?_of_block (a := ⟨gH, k * 2 + 1, none⟩) (HX2.out.chg.block gH hgHl nH)).trans (HZF.out _)
    clear v0 v1
    obtain ⟨fp', hM⟩ := HMAIN.out X2 _ A2 m2 d2 fr (HX2.out.sel [0] (by decide) rfl)
    have hM2 := hM.headOff (k := k) (v := a.Offset + 1) 5 rfl (List.getElem?_set_self (List.getElem?_eq_some_iff.1 HA.out.hd).1) (by have := HO2.out; unfold Mm.I64; omega)
    have hE : (⟨(Pl.takeS a z).1.Rows, a.Offset + 1⟩ : Head) = (Pl.takeS a z).1 := by rw [← Pl.takeS_off a z]
    obtain ⟨X3, hX3⟩ : ∃ W, (X2.setCell ⟨gH, k * 2, none⟩ (.slice A2 m2 d2)).setCell ⟨gH, k * 2 + 1, none⟩ (.int .i64 (a.Offset + 1)) = W := ⟨_, rfl⟩
    have HS7 := Lib.hid (hM2.atW hX3)
    clear hM hM2
    go_upto_region 8 with fail
    clear hX3 y0 y1 p1 t0 t1 z0 z1
    have HS8 : Hid (Mm.SepF [] w0 X3 (Mm.tblk gs 55 [.string z.Name, .int .i64 z.At, .int .i64 z.Value] :: Mm.tsl Mm.str 9 (Pl.lRecs x.Pieces) (.slice (some ⟨bs, os, none⟩) m5 c5) f5 :: Mm.tblk gz 27 [.slice none 0 0, .slice none 0 0, .slice none 0 0] :: Mm.tblk gb 27 [.slice (some ⟨bX, oX, none⟩) n cL, .slice (some ⟨gH, 0, none⟩) n cH, .slice AK n cK] :: Mm.tsl rLog 80 h.Logs (.slice (some ⟨bX, oX, none⟩) n cL) fL :: Mm.tsl rHead 73 (h.Heads.set k (Pl.takeS a z).1) (.slice (some ⟨gH, 0, none⟩) n cH) fp' :: Mm.tsl rHead 73 h.Kept (.slice AK n cK) fK :: rest)) := by
      have h9 := HS7.out
      simp only [List.set_cons_zero, List.set_cons_succ, List.cons_append, List.nil_append, List.set_set, hE] at h9
      exact h9
    clear HS7 hE
    have p0 := HS8.out.cell (k := 0) 3 rfl rfl
    have p1 := HS8.out.cell (k := 1) 3 rfl rfl
    have p2 := HS8.out.cell (k := 2) 3 rfl rfl
    obtain ⟨WR, hWR⟩ : ∃ V, ((X3.setCell ⟨gz, 0, none⟩ (.slice (some ⟨bX, oX, none⟩) n cL)).setCell ⟨gz, 1, none⟩ (.slice (some ⟨gH, 0, none⟩) n cH)).setCell ⟨gz, 2, none⟩ (.slice AK n cK) = V := ⟨_, rfl⟩
    have HSF := Lib.hid ((((HS8.out.setBlk (k := 0) 2 rfl (.slice (some ⟨bX, oX, none⟩) n cL)).setBlk (k := 1) 2 rfl (.slice (some ⟨gH, 0, none⟩) n cH)).setBlk (k := 2) 2 rfl (.slice AK n cK)).atW hWR)
    have u0 := HSF.out.cell (k := 0) 2 rfl rfl
    have u1 := HSF.out.cell (k := 1) 2 rfl rfl
    have u2 := HSF.out.cell (k := 2) 2 rfl rfl
    have z0 := HS8.out.cell (k := 0) 2 rfl rfl
    have z1 := HS8.out.cell (k := 1) 2 rfl rfl
    have z2 := HS8.out.cell (k := 2) 2 rfl rfl
    have y0 := HS8.out.frz (k := 0) 2 rfl
    have y1 := HS8.out.frz (k := 1) 2 rfl
    have y2 := HS8.out.frz (k := 2) 2 rfl
    go_wp2
    rw [HF.out]
    exact bodyPost_ret (v := .tuple #[.agg #[.slice (some ⟨bX, oX, none⟩) n cL, .slice (some ⟨gH, 0, none⟩) n cH, .slice AK n cK], .bool true]) (by simp [results, Tryz.results80, go_sem, u0, u1, u2]) rfl ⟨rfl, n, _, cL, fL, _, cH, fp', AK, cK, fK, rfl, HSF.out.tail.tail.tail.tail⟩
  · have hc1 : ((m5 : Nat) : Int) ≤ (m : Nat) := by omega
    have HF : Hid (Pl.followS h k = (h, false)) := by
      show _ = _
      unfold Pl.followS
      rw [Pl.headK_of HA.out.hd, Pl.logK_of HA.out.lg, HMO.out, if_neg (by have := HM5.out; omega)]
    have p0 := HS1.out.cell (k := 0) 2 rfl rfl
    have p1 := HS1.out.cell (k := 1) 2 rfl rfl
    have p2 := HS1.out.cell (k := 2) 2 rfl rfl
    obtain ⟨WR, hWR⟩ : ∃ V, ((W1.setCell ⟨gz, 0, none⟩ (.slice (some ⟨bX, oX, none⟩) n cL)).setCell ⟨gz, 1, none⟩ (.slice (some ⟨gH, 0, none⟩) n cH)).setCell ⟨gz, 2, none⟩ (.slice AK n cK) = V := ⟨_, rfl⟩
    have HSF := Lib.hid ((((HS1.out.setBlk (k := 0) 1 rfl (.slice (some ⟨bX, oX, none⟩) n cL)).setBlk (k := 1) 1 rfl (.slice (some ⟨gH, 0, none⟩) n cH)).setBlk (k := 2) 1 rfl (.slice AK n cK)).atW hWR)
    have u0 := HSF.out.cell (k := 0) 1 rfl rfl
    have u1 := HSF.out.cell (k := 1) 1 rfl rfl
    have u2 := HSF.out.cell (k := 2) 1 rfl rfl
    have z0 := HS1.out.cell (k := 0) 1 rfl rfl
    have z1 := HS1.out.cell (k := 1) 1 rfl rfl
    have z2 := HS1.out.cell (k := 2) 1 rfl rfl
    have y0 := HS1.out.frz (k := 0) 1 rfl
    have y1 := HS1.out.frz (k := 1) 1 rfl
    have y2 := HS1.out.frz (k := 2) 1 rfl
    go_wp2
    rw [HF.out]
    exact bodyPost_ret (v := .tuple #[.agg #[.slice (some ⟨bX, oX, none⟩) n cL, .slice (some ⟨gH, 0, none⟩) n cH, .slice AK n cK], .bool false]) (by simp [results, Tryz.results80, go_sem, u0, u1, u2]) rfl ⟨rfl, n, _, cL, fL, _, cH, fH, AK, cK, fK, rfl, HSF.out.tail.tail.tail⟩
end Go.Proofs.YtbhmdnjammnlnaaGreatDoor

namespace Go.Proofs.YtbhmdnjammnlnaaGreatDoor
open Go.RowKit
attribute [local go_sem] und_cell cha_cell World.cell?_alloc_some
theorem HoSep.val {w0 w : World} {h : House} {gp : Nat} {rest : List Mm.Thing} (k : HoSep w0 w h gp rest) : ∃ (n : Nat) (AL : Option Addr) (cL : Nat) (AH : Option Addr) (cH : Nat) (AK : Option Addr) (cK : Nat), HoVal w0 w h [.slice AL n cL, .slice AH n cH, .slice AK n cK] (Mm.tblk gp 27 [.slice AL n cL, .slice AH n cH, .slice AK n cK] :: rest) := by
  obtain ⟨n, AL, cL, fL, AH, cH, fH, AK, cK, fK, hS⟩ := k
  exact ⟨n, AL, cL, AH, cH, AK, cK, n, AL, cL, fL, AH, cH, fH, AK, cK, fK, rfl, hS⟩
theorem HoVal.sep {w0 w : World} {h : House} {n : Nat} {AL : Option Addr} {cL : Nat} {AH : Option Addr} {cH : Nat} {AK : Option Addr} {cK : Nat} {rest : List Mm.Thing} (k : HoVal w0 w h [.slice AL n cL, .slice AH n cH, .slice AK n cK] rest) :
    ∃ fL fH fK, Mm.SepF [] w0 w (Mm.tsl rLog 80 h.Logs (.slice AL n cL) fL :: Mm.tsl rHead 73 h.Heads (.slice AH n cH) fH :: Mm.tsl rHead 73 h.Kept (.slice AK n cK) fK :: rest) := by
  obtain ⟨n', AL', cL', fL, AH', cH', fH, AK', cK', fK, hcs, hS⟩ := k
  simp only [List.cons.injEq, Value.slice.injEq, and_true] at hcs
  obtain ⟨⟨rfl, rfl, rfl⟩, ⟨rfl, -, rfl⟩, rfl, -, rfl⟩ := hcs
  exact ⟨fL, fH, fK, hS⟩
set_option maxRecDepth 100000 in
set_option maxHeartbeats 4000000 in
theorem specCatchUp_c (h : House) (b : Bool) (hb : b = true ↔ Pl.HouseOk h) (hsz : Pl.szHouse h ≤ 1048576) (cs : List Value) (w : World) (B : Nat) (hh : rHouse.at_ w B h cs) (hB : B ≤ w.heap.size) :
    Calls Tryz.prog 30 #[.agg cs.toArray] w (CatAns (Pl.catchOf b h) w) := by
  obtain ⟨A0, n0, c0, A1, n1, c1, A2, n2, c2, rfl, -, -, -⟩ := rHouse_at hh
  have HR := Lib.hid hh
  have HBW := Lib.hid hB
  obtain ⟨ga, hga⟩ : ∃ g, w.heap.size = g := ⟨_, rfl⟩
  obtain ⟨gz, hgz⟩ : ∃ g, ga + 1 = g := ⟨_, rfl⟩
  obtain ⟨W0, hW0⟩ : ∃ W, (w.alloc (.cells #[.slice A0 n0 c0, .slice A1 n1 c1, .slice A2 n2 c2] 27)).alloc (.cells #[.slice none 0 0, .slice none 0 0, .slice none 0 0] 27) = W := ⟨_, rfl⟩
  have KS0 := Lib.hid ((((Mm.SepF.start w).alloc' hga 27 [.slice A0 n0 c0, .slice A1 n1 c1, .slice A2 n2 c2]).alloc' (g := gz) (by rw [Mm.sz1, hga, hgz]) 27 [.slice none 0 0, .slice none 0 0, .slice none 0 0]).atW hW0)
  have d0 := KS0.out.cell (k := 0) 1 rfl rfl
  have d1 := KS0.out.cell (k := 1) 1 rfl rfl
  have d2 := KS0.out.cell (k := 2) 1 rfl rfl
  have CI := specGoodHouse_c h b hb hsz _ W0 B (rHouse.keep hh fun b hb => KS0.out.bel0.block b (by omega)) (by have := KS0.out.bel0.size; omega)
  have HBO := Lib.hid hb
  clear hh hB hb hsz
  go_enter Tryz.func30, Tryz.ntmps30
  go_wp2_with fail
  refine CI.mono ?_
  rintro e w1 ⟨rfl, hb1⟩
  obtain ⟨W1, rfl⟩ : ∃ W : World, W = w1 := ⟨_, rfl⟩
  have HS1 := Lib.hid (KS0.out.step hb1)
  clear CI d0 d1 d2 hb1 KS0 hW0 hga hgz
  cases b with
  | false =>
    obtain ⟨WR, hWR⟩ : ∃ V, ((W1.setCell ⟨gz, 0, none⟩ (.slice none 0 0)).setCell ⟨gz, 1, none⟩ (.slice none 0 0)).setCell ⟨gz, 2, none⟩ (.slice none 0 0) = V := ⟨_, rfl⟩
    have HSF := Lib.hid ((((HS1.out.setBlk (k := 0) 0 rfl (.slice none 0 0)).setBlk (k := 1) 0 rfl (.slice none 0 0)).setBlk (k := 2) 0 rfl (.slice none 0 0)).atW hWR)
    have u0 := HSF.out.cell (k := 0) 0 rfl rfl
    have u1 := HSF.out.cell (k := 1) 0 rfl rfl
    have u2 := HSF.out.cell (k := 2) 0 rfl rfl
    have z0 := HS1.out.cell (k := 0) 0 rfl rfl
    have z1 := HS1.out.cell (k := 1) 0 rfl rfl
    have z2 := HS1.out.cell (k := 2) 0 rfl rfl
    have y0 := HS1.out.frz (k := 0) 0 rfl
    have y1 := HS1.out.frz (k := 1) 0 rfl
    have y2 := HS1.out.frz (k := 2) 0 rfl
    go_wp2
    exact bodyPost_ret (v := .tuple #[.agg #[.slice none 0 0, .slice none 0 0, .slice none 0 0], .int .i64 (0 : Nat), .bool false]) (by simp [results, Tryz.results30, go_sem, u0, u1, u2]) rfl (catNo HSF.out.bel0)
  | true =>
    have HHO := Lib.hid (HBO.out.1 rfl)
    have d0 := HS1.out.cell (k := 0) 1 rfl rfl
    have d1 := HS1.out.cell (k := 1) 1 rfl rfl
    have d2 := HS1.out.cell (k := 2) 1 rfl rfl
    have CC := l17Own_c h _ W1 B (rHouse.keep HR.out fun b hb => HS1.out.bel0.block b (by have := HBW.out; omega)) (by have := HBW.out; have := HS1.out.bel0.size; omega) HHO.out.hos
    go_wp2_with fail
    refine CC.mono ?_
    rintro e w2 ⟨csc, fpc, rfl, hoc, hndc, hnewc, hbc⟩
    clear CC d0 d1 d2
    obtain ⟨Wc, rfl⟩ : ∃ W : World, W = w2 := ⟨_, rfl⟩
    obtain ⟨A3, m3, k3, A4, m4, k4, A5, m5, k5, f3, f4, f5, rfl, l3, l4, l5, hso⟩ := Mm.SepF.hoOpen (h := h) (HS1.out.add hbc (t := Mm.tow rHouse h csc fpc) hoc hndc hnewc)
    obtain rfl : m4 = m3 := by have := HHO.out.hdn; omega
    obtain rfl : m5 = m4 := by have := HHO.out.kpn; omega
    have HS2 := Lib.hid hso
    clear hso hbc hoc hndc hnewc l3 l4 l5
    obtain ⟨gp, hgp⟩ : ∃ g, Wc.heap.size = g := ⟨_, rfl⟩
    obtain ⟨Wd, hWd⟩ : ∃ W, Wc.alloc (.cells #[.slice none 0 0, .slice none 0 0, .slice none 0 0] 27) = W := ⟨_, rfl⟩
    have HS3 := Lib.hid ((HS2.out.alloc' hgp 27 [.slice none 0 0, .slice none 0 0, .slice none 0 0]).atW hWd)
    have q0 := HS3.out.cell (k := 0) 0 rfl rfl
    have q1 := HS3.out.cell (k := 1) 0 rfl rfl
    have q2 := HS3.out.cell (k := 2) 0 rfl rfl
    have y0 := HS3.out.frz (k := 0) 0 rfl
    have y1 := HS3.out.frz (k := 1) 0 rfl
    have y2 := HS3.out.frz (k := 2) 0 rfl
    go_upto_region 4 with fail
    obtain ⟨WF, hWF⟩ : ∃ V, ((Wd.setCell ⟨gp, 0, none⟩ (.slice A3 m5 k3)).setCell ⟨gp, 1, none⟩ (.slice A4 m5 k4)).setCell ⟨gp, 2, none⟩ (.slice A5 m5 k5) = V := ⟨_, rfl⟩
    have HS4 := Lib.hid ((((HS3.out.setBlk (k := 0) 0 rfl (.slice A3 m5 k3)).setBlk (k := 1) 0 rfl (.slice A4 m5 k4)).setBlk (k := 2) 0 rfl (.slice A5 m5 k5)).atW hWF)
    rw [hWF]
    clear hWF hWd hgp q0 q1 q2 y0 y1 y2 HS3 HS2 HS1
    obtain ⟨rest, hrest⟩ : ∃ r, [Mm.tblk gz 27 [.slice none 0 0, .slice none 0 0, .slice none 0 0], Mm.tblk ga 27 [.slice A0 n0 c0, .slice A1 n1 c1, .slice A2 n2 c2]] = r := ⟨_, rfl⟩
    have HREST := Lib.hid hrest
    have HNN : Hid (h.Logs.length = m5) := (HS4.out.sl 1 rfl).nlen
    have hn3 : m5 ≤ 3 := by have := HHO.out.n3; have := HNN.out; omega
    have HLE := Lib.hid (Pl.catchN_le HHO.out)
    have p0 := HS4.out.cell (k := 0) 0 rfl rfl
    have HSA : Hid (HoSep w WF h gp rest) := by
      show HoSep w WF h gp rest
      rw [← hrest]
      exact ⟨m5, A3, k3, f3, A4, k4, f4, A5, k5, f5, HS4.out.sel [1, 2, 3, 0, 4, 5] (by decide) rfl⟩
    go_upto_region 6 with fail
    clear p0 HS4 hrest
    go_loopg [6, 19] m5 (fun gg c_ i_ wr => ∃ (k : Nat), m5 - k ≤ gg ∧ k ≤ m5 ∧ i_ = .int .i64 (k : Nat) ∧ (∃ c : Nat, c_ = .int .i64 (c : Nat) ∧ Hid (c = (Pl.catchN h k).2)) ∧ Hid (HoSep w wr (Pl.catchN h k).1 gp rest))
    case atStart => exact ⟨0, by omega, by omega, rfl, ⟨0, rfl, rfl⟩, HSA.out⟩
    case round =>
      clear HSA
      obtain ⟨k, hgk, hk', rfl, ⟨c, rfl, HC⟩, HS⟩ := hrel
      obtain ⟨Wo, rfl⟩ : ∃ W : World, W = wr := ⟨_, rfl⟩
      by_cases hlt : k < m5
      · have fc : (k : Int) < (m5 : Nat) := by omega
        obtain ⟨hx, hhx⟩ : ∃ x, (Pl.catchN h k).1 = x := ⟨_, rfl⟩
        have HX := Lib.hid hhx
        have HXO : Hid (Pl.HouseOk hx) := by show _; rw [← hhx]; exact HHO.out.catchN k
        have HXL : Hid (k < hx.Logs.length) := by show _ < _; rw [← hhx, Pl.catchN_len, HNN.out]; exact hlt
        rw [hhx] at HS
        obtain ⟨mm, hmm⟩ : ∃ m, Pl.manyN hx k = m := ⟨_, rfl⟩
        have HM := Lib.hid hmm
        have hm60 : mm ≤ 60 := by rw [← hmm]; exact Pl.many_le HXO.out HXL.out
        have hc180 : c ≤ 180 := by have := HLE.out k (by rw [HNN.out]; omega); have := HC.out; omega
        clear hhx hmm
        go_upto_region 8 with fail
        go_loopg [6] mm (fun gi c_ wr => ∃ (j : Nat), mm - j ≤ gi ∧ j ≤ mm ∧ c_ = .int .i64 ((c + j : Nat) : Nat) ∧ Hid (HoSep w wr (Pl.folN hx k j) gp rest))
        case atStart => exact ⟨0, by omega, by omega, rfl, HS.out⟩
        case round =>
          clear HS
          obtain ⟨j, hgj, hj', rfl, HS⟩ := hrel
          obtain ⟨W, rfl⟩ : ∃ W : World, W = wr := ⟨_, rfl⟩
          obtain ⟨g, a, b, l, hat⟩ := (HXO.out.folN k j).at_ (k := k) (by rw [(Pl.folN_len hx k j).1]; exact HXL.out)
          obtain ⟨n9, AL, cL, AH, cH, AK, cK, hv⟩ := HS.out.val
          have HV := Lib.hid hv
          obtain ⟨_, _, _, hsv⟩ := hv.sep
          have p0 := hsv.cell (k := 0) 3 rfl rfl
          have p1 := hsv.cell (k := 1) 3 rfl rfl
          have p2 := hsv.cell (k := 2) 3 rfl rfl
          have CF := l17Follow_c (Pl.folN hx k j) k _ g a b l hat _ w W HV.out
          clear hat hsv hv HS
          by_cases hjm : j < mm
          · rw [Pl.fol_yes HXO.out HXL.out (j := j) (by rw [HM.out]; exact hjm)] at CF
            go_wp2_with fail
            refine CF.mono ?_
            rintro e w1 ⟨rfl, hS1⟩
            obtain ⟨W1, rfl⟩ : ∃ W : World, W = w1 := ⟨_, rfl⟩
            obtain ⟨fL, fH, fK, hS2⟩ := hS1.sep
            clear CF hS1 p0 p1 p2 HV
            obtain ⟨gx, hgx⟩ : ∃ g, W1.heap.size = g := ⟨_, rfl⟩
            obtain ⟨W2, hW2⟩ : ∃ W, W1.alloc (.cells #[.slice none 0 0, .slice none 0 0, .slice none 0 0] 27) = W := ⟨_, rfl⟩
            have HS2 := Lib.hid ((hS2.alloc' hgx 27 [.slice none 0 0, .slice none 0 0, .slice none 0 0]).atW hW2)
            have q0 := HS2.out.cell (k := 0) 0 rfl rfl
            have q1 := HS2.out.cell (k := 1) 0 rfl rfl
            have q2 := HS2.out.cell (k := 2) 0 rfl rfl
            have y0 := HS2.out.frz (k := 0) 0 rfl
            have y1 := HS2.out.frz (k := 1) 0 rfl
            have y2 := HS2.out.frz (k := 2) 0 rfl
            go_upto_region 9 with fail
            clear hS2
            obtain ⟨W3, hW3⟩ : ∃ V, ((W2.setCell ⟨gx, 0, none⟩ (.slice AL n9 cL)).setCell ⟨gx, 1, none⟩ (.slice AH n9 cH)).setCell ⟨gx, 2, none⟩ (.slice AK n9 cK) = V := ⟨_, rfl⟩
            have HS3 := Lib.hid ((((HS2.out.setBlk (k := 0) 0 rfl (.slice AL n9 cL)).setBlk (k := 1) 0 rfl (.slice AH n9 cH)).setBlk (k := 2) 0 rfl (.slice AK n9 cK)).atW hW3)
            rw [hW3]
            clear hW3 hW2 hgx q0 q1 q2 y0 y1 y2 HS2
            have q0 := HS3.out.cell (k := 0) 0 rfl rfl
            have q1 := HS3.out.cell (k := 1) 0 rfl rfl
            have q2 := HS3.out.cell (k := 2) 0 rfl rfl
            have p0 := HS3.out.cell (k := 0) 4 rfl rfl
            have p1 := HS3.out.cell (k := 1) 4 rfl rfl
            have p2 := HS3.out.cell (k := 2) 4 rfl rfl
            have y0 := HS3.out.frz (k := 0) 4 rfl
            have y1 := HS3.out.frz (k := 1) 4 rfl
            have y2 := HS3.out.frz (k := 2) 4 rfl
            obtain ⟨W4, hW4⟩ : ∃ V, ((W3.setCell ⟨gp, 0, none⟩ (.slice AL n9 cL)).setCell ⟨gp, 1, none⟩ (.slice AH n9 cH)).setCell ⟨gp, 2, none⟩ (.slice AK n9 cK) = V := ⟨_, rfl⟩
            have HS4 := Lib.hid ((((HS3.out.setBlk (k := 0) 4 rfl (.slice AL n9 cL)).setBlk (k := 1) 4 rfl (.slice AH n9 cH)).setBlk (k := 2) 4 rfl (.slice AK n9 cK)).atW hW4)
            have HS5 : Hid (HoSep w W4 (Pl.folN hx k (j + 1)) gp rest) := ⟨n9, AL, cL, fL, AH, cH, fH, AK, cK, fK, HS4.out.tail⟩
            clear HS4
            go_wp2
            go_roundg (mm - (j + 1))
            case measure => omega
            case rel => exact ⟨j + 1, Nat.le_refl _, by omega, by go_num, HS5.out⟩
          · obtain rfl : j = mm := by omega
            have e9 := Pl.fol_no HXO.out HXL.out
            rw [HM.out] at e9
            rw [e9] at CF
            clear e9
            go_wp2_with fail
            refine CF.mono ?_
            rintro e w1 ⟨rfl, hS1⟩
            obtain ⟨W1, rfl⟩ : ∃ W : World, W = w1 := ⟨_, rfl⟩
            obtain ⟨fL, fH, fK, hS2⟩ := hS1.sep
            clear CF hS1 p0 p1 p2 HV
            obtain ⟨gx, hgx⟩ : ∃ g, W1.heap.size = g := ⟨_, rfl⟩
            obtain ⟨W2, hW2⟩ : ∃ W, W1.alloc (.cells #[.slice none 0 0, .slice none 0 0, .slice none 0 0] 27) = W := ⟨_, rfl⟩
            have HS2 := Lib.hid ((hS2.alloc' hgx 27 [.slice none 0 0, .slice none 0 0, .slice none 0 0]).atW hW2)
            have q0 := HS2.out.cell (k := 0) 0 rfl rfl
            have q1 := HS2.out.cell (k := 1) 0 rfl rfl
            have q2 := HS2.out.cell (k := 2) 0 rfl rfl
            have y0 := HS2.out.frz (k := 0) 0 rfl
            have y1 := HS2.out.frz (k := 1) 0 rfl
            have y2 := HS2.out.frz (k := 2) 0 rfl
            go_upto_region 9 with fail
            clear hS2
            obtain ⟨W3, hW3⟩ : ∃ V, ((W2.setCell ⟨gx, 0, none⟩ (.slice AL n9 cL)).setCell ⟨gx, 1, none⟩ (.slice AH n9 cH)).setCell ⟨gx, 2, none⟩ (.slice AK n9 cK) = V := ⟨_, rfl⟩
            have HS3 := Lib.hid ((((HS2.out.setBlk (k := 0) 0 rfl (.slice AL n9 cL)).setBlk (k := 1) 0 rfl (.slice AH n9 cH)).setBlk (k := 2) 0 rfl (.slice AK n9 cK)).atW hW3)
            rw [hW3]
            clear hW3 hW2 hgx q0 q1 q2 y0 y1 y2 HS2
            have HS5 : Hid (HoSep w W3 (Pl.catchN h (k + 1)).1 gp rest) := by
              show HoSep w W3 (Pl.folN (Pl.catchN h k).1 k (Pl.manyN (Pl.catchN h k).1 k)) gp rest
              rw [HX.out, HM.out]
              exact ⟨n9, AL, cL, fL, AH, cH, fH, AK, cK, fK, HS3.out.tail⟩
            have HC1 : Hid (c + j = (Pl.catchN h (k + 1)).2) := by
              show c + j = (Pl.catchN h k).2 + Pl.manyN (Pl.catchN h k).1 k
              rw [HX.out, HM.out, HC.out]
            clear HS3
            go_wp2
            go_roundg (m5 - (k + 1))
            case measure => omega
            case rel => exact ⟨k + 1, Nat.le_refl _, by omega, by go_num, ⟨c + j, rfl, HC1.out⟩, HS5.out⟩
      · obtain rfl : k = m5 := by omega
        have fc : ¬ ((k : Nat) : Int) < (k : Nat) := by omega
        obtain ⟨n9, AL, cL, AH, cH, AK, cK, hv⟩ := HS.out.val
        obtain ⟨fL, fH, fK, hsv⟩ := hv.sep
        have HSV := Lib.hid hsv
        have p0 := hsv.cell (k := 0) 3 rfl rfl
        have p1 := hsv.cell (k := 1) 3 rfl rfl
        have p2 := hsv.cell (k := 2) 3 rfl rfl
        have HXO : Hid (Pl.HouseOk (Pl.catchN h k).1) := HHO.out.catchN k
        obtain ⟨hx, hhx⟩ : ∃ x, (Pl.catchN h k).1 = x := ⟨_, rfl⟩
        have HX := Lib.hid hhx
        rw [hhx] at HSV HXO
        have CO := l17Own_c hx [.slice AL n9 cL, .slice AH n9 cH, .slice AK n9 cK] Wo Wo.heap.size (rHouse.weak (rHouse_own_mk (x := hx) (HSV.out.sl 0 rfl) (HSV.out.sl 1 rfl) (HSV.out.sl 2 rfl)) (rHouse.olt (rHouse_own_mk (x := hx) (HSV.out.sl 0 rfl) (HSV.out.sl 1 rfl) (HSV.out.sl 2 rfl)))) (Nat.le_refl _) HXO.out.hos
        clear hv hsv HS hhx
        go_wp2_with fail
        refine CO.mono ?_
        rintro e w9 ⟨cs9, fp9, rfl, ho9, hnd9, hnew9, hb9⟩
        obtain ⟨W9, rfl⟩ : ∃ W : World, W = w9 := ⟨_, rfl⟩
        have hs9 := HSV.out.add hb9 (t := Mm.tow rHouse hx cs9 fp9) ho9 hnd9 hnew9
        obtain ⟨B0, r0, e0, B1, r1, e1, B2, r2, e2, j0, j1, j2, rfl, -, -, -, hs9⟩ := hs9.hoOpen
        rw [← HREST.out] at hs9
        have HS9 := Lib.hid hs9
        clear CO ho9 hnd9 hnew9 hb9 hs9 p0 p1 p2 HSV
        obtain ⟨WR, hWR⟩ : ∃ V, ((W9.setCell ⟨gz, 0, none⟩ (.slice B0 r0 e0)).setCell ⟨gz, 1, none⟩ (.slice B1 r1 e1)).setCell ⟨gz, 2, none⟩ (.slice B2 r2 e2) = V := ⟨_, rfl⟩
        have HSF := Lib.hid ((((HS9.out.setBlk (k := 0) 7 rfl (.slice B0 r0 e0)).setBlk (k := 1) 7 rfl (.slice B1 r1 e1)).setBlk (k := 2) 7 rfl (.slice B2 r2 e2)).atW hWR)
        have u0 := HSF.out.cell (k := 0) 7 rfl rfl
        have u1 := HSF.out.cell (k := 1) 7 rfl rfl
        have u2 := HSF.out.cell (k := 2) 7 rfl rfl
        have z0 := HS9.out.cell (k := 0) 7 rfl rfl
        have z1 := HS9.out.cell (k := 1) 7 rfl rfl
        have z2 := HS9.out.cell (k := 2) 7 rfl rfl
        have y0 := HS9.out.frz (k := 0) 7 rfl
        have y1 := HS9.out.frz (k := 1) 7 rfl
        have y2 := HS9.out.frz (k := 2) 7 rfl
        go_wp2
        have e5 := HC.out
        subst e5
        exact bodyPost_ret (v := .tuple #[.agg #[.slice B0 r0 e0, .slice B1 r1 e1, .slice B2 r2 e2], .int .i64 ((Pl.catchN h k).2 : Nat), .bool true]) (by simp [results, Tryz.results30, go_sem, u0, u1, u2]) rfl (by
          unfold Pl.catchOf
          rw [if_pos rfl, HNN.out, HX.out]
          exact ⟨_, _, rfl, (HSF.out.hoShut (h := hx)).sel [0] (by decide) rfl⟩)
end Go.Proofs.YtbhmdnjammnlnaaGreatDoor

namespace Go.Proofs.YtbhmdnjammnlnaaGreatDoor
open Go.RowKit
attribute [local go_sem] und_cell cha_cell World.cell?_alloc_some
theorem putLogEl {F : List Nat} {w0 W X : World} {ts : List Mm.Thing} {xs : List Log} {fp f : List Nat} {gl n c k : Nat} {x y : Log} {A : Option Addr} {n' c' : Nat} (h : Mm.SepF F w0 W ts) (i : Nat) (hi : ts[i]? = some (Mm.tsl rLog 80 xs (.slice (some ⟨gl, 0, none⟩) n c) fp)) (hk : xs[k]? = some x)
    (hX : Mm.SepF [] W X [Mm.tow rLog y [.slice A n' c', .int .i64 y.Begin] f]) :
    ∃ fp', Mm.SepF F w0 ((X.setCell ⟨gl, k * 2, none⟩ (.slice A n' c')).setCell ⟨gl, k * 2 + 1, none⟩ (.int .i64 y.Begin)) (ts.set i (Mm.tsl rLog 80 (xs.set k y) (.slice (some ⟨gl, 0, none⟩) n c) fp')) := by
  have hy : rLog.own X y _ f := hX.at_ 0 rfl
  have hyx := rLog_own hy
  obtain ⟨A1, n1, c1, f1, h1, rfl, g0, g1⟩ := hyx
  simp only [List.cons.injEq, Value.slice.injEq, and_true, true_and] at h1
  obtain ⟨rfl, rfl, rfl⟩ := h1
  obtain ⟨cs, fx, ho, hfn, hfs, hc, hnext⟩ := h.swap i hi hk
  obtain ⟨A2, n2, c2, f2, rfl, rfl, q0, q1⟩ := rLog_own ho
  have hnew : ∀ b, b ∈ f → b ∈ fx ∨ W.heap.size ≤ b := fun b hb => .inr ((hX.new b (by simpa [Mm.tow] using hb)).resolve_left (fun h => by cases h))
  obtain ⟨fp1, hs1⟩ := hnext X ⟨y.Pieces, x.Begin⟩ 0 (.slice A n' c') f (hX.chg.more (fun b hb => by cases hb)) (by decide) (rLog_own_mk (x := ⟨y.Pieces, x.Begin⟩) g0 q1) (by simpa [Mm.tow] using hX.nd) hnew
  rw [show k * rLog.size + 0 = k * 2 from rfl] at hs1
  have hlt := (List.getElem?_eq_some_iff.1 hk).1
  have hil := (List.getElem?_eq_some_iff.1 hi).1
  have hs2 := hs1.putSl (k := k) (m := 1) (u := .int .i64 y.Begin) (x := ⟨y.Pieces, x.Begin⟩) (x' := ⟨y.Pieces, y.Begin⟩) i (List.getElem?_set_self hil) (List.getElem?_set_self hlt) (by decide) (fun cs fx ho => by
    obtain ⟨A9, n9, c9, f9, rfl, rfl, r0, r1⟩ := rLog_own ho
    exact rLog_own_mk (x := ⟨y.Pieces, y.Begin⟩) r0 g1)
  rw [show k * rLog.size + 1 = k * 2 + 1 from rfl] at hs2
  rw [List.set_set, List.set_set] at hs2
  exact ⟨_, hs2⟩
theorem putHeadEl {F : List Nat} {w0 W X : World} {ts : List Mm.Thing} {xs : List Head} {fp f : List Nat} {gl n c k : Nat} {x y : Head} {A : Option Addr} {n' c' : Nat} (h : Mm.SepF F w0 W ts) (i : Nat) (hi : ts[i]? = some (Mm.tsl rHead 73 xs (.slice (some ⟨gl, 0, none⟩) n c) fp)) (hk : xs[k]? = some x)
    (hX : Mm.SepF [] W X [Mm.tow rHead y [.slice A n' c', .int .i64 y.Offset] f]) :
    ∃ fp', Mm.SepF F w0 ((X.setCell ⟨gl, k * 2, none⟩ (.slice A n' c')).setCell ⟨gl, k * 2 + 1, none⟩ (.int .i64 y.Offset)) (ts.set i (Mm.tsl rHead 73 (xs.set k y) (.slice (some ⟨gl, 0, none⟩) n c) fp')) := by
  have hy : rHead.own X y _ f := hX.at_ 0 rfl
  have hyx := rHead_own hy
  obtain ⟨A1, n1, c1, f1, h1, rfl, g0, g1⟩ := hyx
  simp only [List.cons.injEq, Value.slice.injEq, and_true, true_and] at h1
  obtain ⟨rfl, rfl, rfl⟩ := h1
  obtain ⟨cs, fx, ho, hfn, hfs, hc, hnext⟩ := h.swap i hi hk
  obtain ⟨A2, n2, c2, f2, rfl, rfl, q0, q1⟩ := rHead_own ho
  have hnew : ∀ b, b ∈ f → b ∈ fx ∨ W.heap.size ≤ b := fun b hb => .inr ((hX.new b (by simpa [Mm.tow] using hb)).resolve_left (fun h => by cases h))
  obtain ⟨fp1, hs1⟩ := hnext X ⟨y.Rows, x.Offset⟩ 0 (.slice A n' c') f (hX.chg.more (fun b hb => by cases hb)) (by decide) (rHead_own_mk (x := ⟨y.Rows, x.Offset⟩) g0 q1) (by simpa [Mm.tow] using hX.nd) hnew
  rw [show k * rHead.size + 0 = k * 2 from rfl] at hs1
  have hlt := (List.getElem?_eq_some_iff.1 hk).1
  have hil := (List.getElem?_eq_some_iff.1 hi).1
  have hs2 := hs1.putSl (k := k) (m := 1) (u := .int .i64 y.Offset) (x := ⟨y.Rows, x.Offset⟩) (x' := ⟨y.Rows, y.Offset⟩) i (List.getElem?_set_self hil) (List.getElem?_set_self hlt) (by decide) (fun cs fx ho => by
    obtain ⟨A9, n9, c9, f9, rfl, rfl, r0, r1⟩ := rHead_own ho
    exact rHead_own_mk (x := ⟨y.Rows, y.Offset⟩) r0 g1)
  rw [show k * rHead.size + 1 = k * 2 + 1 from rfl] at hs2
  rw [List.set_set, List.set_set] at hs2
  exact ⟨_, hs2⟩
theorem Tryz.stoodSay : Tryz.prog.stoodInHeld 55 = false := by kernel_rfl
theorem run_neSay (x : Say) (W : World) : (binOp .neq 55 (.agg #[.string x.Name, .int .i64 x.At, .int .i64 x.Value]) (.agg #[.string ⟨#[]⟩, .int .i64 0, .int .i64 0])).run Tryz.prog W = .ok (.bool (!Pl.noSay x)) W := by
  have ht : Tryz.prog.underlying 55 = some (.struct (Tryz.prog.fieldsOf 55)) := by simp [Program.fieldsOf, Tryz.underlying55]
  rw [run_neq_struct, run_equalIn_agg _ _ _ _ _ ht Tryz.stoodSay]
  have hq : (x.Name.toList == (⟨#[]⟩ : ByteArray).toList) = decide (x.Name.size = 0) := by
    have h4 := isEmpty_bytes x.Name
    have h5 : (⟨#[]⟩ : ByteArray).toList = [] := by rw [Lib.toList_data]
    rw [h5, ← h4]
    cases x.Name.toList <;> rfl
  have h3 : Pl.noSay x = ((x.Name.toList == (⟨#[]⟩ : ByteArray).toList) && decide (x.At = 0) && decide (x.Value = 0)) := by rw [hq]; rfl
  rw [h3]
  cases h0 : (x.Name.toList == (⟨#[]⟩ : ByteArray).toList) <;> cases h1 : decide (x.At = 0) <;> cases h2 : decide (x.Value = 0) <;>
    simp [Program.fieldsOf, Tryz.underlying55, Op.eqFields, go_sem] <;> simp_all
end Go.Proofs.YtbhmdnjammnlnaaGreatDoor

namespace Go.Proofs.YtbhmdnjammnlnaaGreatDoor
open Go.RowKit
attribute [local go_sem] und_cell cha_cell World.cell?_alloc_some
structure StepI (s : HouseStep) : Prop where
  kd : Mm.I64 s.Kind
  pt : Mm.I64 s.Part
  nm : s.What.Name.size ≤ maxLen
  at_ : Mm.I64 s.What.At
  vl : Mm.I64 s.What.Value
theorem Pl.sayTxt_size {x : Say} (h : Pl.sayOk x = true) : (Pl.sayTxt x).size ≤ 1000 := by
  have h1 := Pl.sayOk_name h
  have h2 := Pl.sayOk_bounds h
  have h3 := Pl.itoaB_size (n := x.At) (by omega) (by omega)
  have h4 := Pl.itoaB_size (n := x.Value) (by omega) (by omega)
  have h5 : Pl.spB.size = 1 := rfl
  unfold Pl.sayTxt
  rw [ByteArray.size_append, ByteArray.size_append, ByteArray.size_append, ByteArray.size_append]
  omega
def gAL (g : Log) (s : ByteArray) : Mm.Rel := fun _ _ v ds => ∃ A n c f, v = .tuple #[.agg #[.slice A n c, .int .i64 (Pl.appL g s).1.Begin], .bool (Pl.appL g s).2] ∧ ds = [Mm.tow rLog (Pl.appL g s).1 [.slice A n c, .int .i64 (Pl.appL g s).1.Begin] f]
theorem gAL_in {g : Log} {s : ByteArray} {vals : List Value} {tk : List Mm.Thing} : ∃ v ds, gAL g s vals tk v ds := ⟨_, _, none, 0, 0, [], rfl, rfl⟩
set_option maxRecDepth 100000 in
set_option maxHeartbeats 8000000 in
theorem step_c (h : House) (s : HouseStep) (gp Bt : Nat) (rest : List Mm.Thing) (H : Pl.HouseOk h) (hi : StepI s) (w0 w : World) (ht : Tab Bt w0) (hs : HoSep w0 w h gp rest) :
    Calls Tryz.prog 57 #[.pointer (some ⟨gp, 0, none⟩), .agg #[.int .i64 s.Kind, .int .i64 s.Part, .string s.What.Name, .int .i64 s.What.At, .int .i64 s.What.Value]] w fun e w' => e = .returned (.bool (Pl.stepS h s).2) ∧ HoSep w0 w' (Pl.stepS h s).1 gp rest := by
  obtain ⟨n, AL, cL, fL, AH, cH, fH, AK, cK, fK, hS⟩ := hs
  have HNN : Hid (h.Logs.length = n) := (hS.sl 0 rfl).nlen
  have hn1 : 1 ≤ n ∧ n ≤ 3 := by have h1 := H.n1; have h2 := H.n3; have h3 := HNN.out; omega
  obtain ⟨hn1, hn3⟩ := hn1
  obtain ⟨gL, rfl, -, -⟩ := Mm.sl_addr (hS.sl 0 rfl) (by have := HNN.out; omega)
  obtain ⟨gH, rfl, -, -⟩ := Mm.sl_addr (hS.sl 1 rfl) (by have := HNN.out; have := H.hdn; omega)
  obtain ⟨gK, rfl, -, -⟩ := Mm.sl_addr (hS.sl 2 rfl) (by have := HNN.out; have := H.kpn; omega)
  obtain ⟨kd, pt, x⟩ := s
  obtain ⟨ik, ip, inm, iat, ivl⟩ := hi
  dsimp only at ik ip inm iat ivl ⊢
  have HK := Lib.hid H
  have HT := Lib.hid ht
  have HIK := Lib.hid (And.intro ik ip)
  obtain ⟨ga, hga⟩ : ∃ g, w.heap.size = g := ⟨_, rfl⟩
  obtain ⟨W0, hW0⟩ : ∃ W, w.alloc (.cells #[.int .i64 kd, .int .i64 pt, .string x.Name, .int .i64 x.At, .int .i64 x.Value] 57) = W := ⟨_, rfl⟩
  have HS0 := Lib.hid ((hS.alloc' hga 57 [.int .i64 kd, .int .i64 pt, .string x.Name, .int .i64 x.At, .int .i64 x.Value]).atW hW0)
  clear hS H ht ik ip
  go_enter Tryz.func57, Tryz.ntmps57
  go_upto_region 1 with fail
  clear hW0 hga
  have d0 := HS0.out.cell (k := 0) 0 rfl rfl
  have d1 := HS0.out.cell (k := 1) 0 rfl rfl
  have d2 := HS0.out.cell (k := 2) 0 rfl rfl
  have d3 := HS0.out.cell (k := 3) 0 rfl rfl
  have d4 := HS0.out.cell (k := 4) 0 rfl rfl
  have p0 := HS0.out.cell (k := 0) 4 rfl rfl
  obtain ⟨inb, hin⟩ : ∃ b, Pl.isIn pt 0 ((n : Int) - 1) = b := ⟨_, rfl⟩
  have CI := fun z : Und W0 => und_same z (within_isJ hin (und W0 z))
  have HIN := Lib.hid hin
  have hnn1 : (1 : Int) ≤ (n : Nat) := by omega
  clear hin
  cases inb with
  | false =>
    have HF : Hid (Pl.stepS h ⟨kd, pt, x⟩ = (h, false)) := by
      show _ = _
      unfold Pl.stepS
      rw [if_neg (fun hh => by
        have h1 := HIN.out
        have h2 := Pl.isIn_no.1 h1
        have h3 := HNN.out
        dsimp only at hh
        omega)]
    refine wp_region_und (by kernel_rfl) (by kernel_rfl) ?_
    repeat (go_big_quiet_step ((first | (go_at_call 55; with_reducible exact CI _))))
    refine wpQuiet_nil ?_
    intro X hX
    have HS1 := Lib.hid (HS0.out.step hX)
    clear hX HS0 d0 d1 d2 d3 d4 p0 CI
    go_wp2
    go_ret
    rw [HF.out]
    exact ⟨rfl, n, _, cL, fL, _, cH, fH, _, cK, fK, HS1.out.tail⟩
  | true =>
    obtain ⟨k, rfl⟩ : ∃ k : Nat, pt = k := ⟨pt.toNat, by have := Pl.isIn_iff.1 HIN.out; omega⟩
    have hkn : k < n := by have := Pl.isIn_iff.1 HIN.out; omega
    have HPT : Hid (0 ≤ ((k : Nat) : Int) ∧ ((k : Nat) : Int) < h.Logs.length) := by have := HNN.out; constructor <;> omega
    by_cases hk1 : kd = 1
    · subst hk1
      refine wp_region_und (by kernel_rfl) (by kernel_rfl) ?_
      repeat (go_big_quiet_step ((first | (go_at_call 55; with_reducible exact CI _))))
      refine wpQuiet_nil ?_
      intro X hX
      have HS1 := Lib.hid (HS0.out.step hX)
      clear hX HS0 d0 d1 d2 d3 d4 p0 CI
      obtain ⟨W1, rfl⟩ : ∃ W : World, W = X := ⟨_, rfl⟩
      obtain ⟨g, a, b, l, hat⟩ := HK.out.at_ (k := k) (by have := HNN.out; omega)
      have HAT := Lib.hid hat
      clear hat
      have d0 := HS1.out.cell (k := 0) 0 rfl rfl
      have d1 := HS1.out.cell (k := 1) 0 rfl rfl
      have d2 := HS1.out.cell (k := 2) 0 rfl rfl
      have d3 := HS1.out.cell (k := 3) 0 rfl rfl
      have d4 := HS1.out.cell (k := 4) 0 rfl rfl
      have p0 := HS1.out.cell (k := 0) 4 rfl rfl
      have hnn1 : (1 : Int) ≤ (n : Nat) := by omega
      have CS := fun z : Und W1 => und_call z (isSay_c x (und W1 z) inm)
      obtain ⟨so, hso⟩ : ∃ b, Pl.sayOk x = b := ⟨_, rfl⟩
      rw [hso] at CS
      have HSO := Lib.hid hso
      clear hso
      have CH := fun z : Und W1 => und_same z (hashText_c x.Name (und W1 z) inm)
      have hh := Pl.hash_bd x.Name.data.toList
      have HPN : Hid (Pl.partN (n : Int) x.Name = Pl.hash x.Name.data.toList % (n : Int)) := rfl
      obtain ⟨hv, hhv⟩ : ∃ v, Pl.hash x.Name.data.toList = v := ⟨_, rfl⟩
      rw [hhv] at CH hh HPN
      obtain ⟨hh1, hh2⟩ := hh
      have htm : hv.tmod (n : Int) = hv % (n : Int) := Int.tmod_eq_emod_of_nonneg hh1
      obtain ⟨pv, hpv⟩ : ∃ v, hv % (n : Int) = v := ⟨_, rfl⟩
      rw [hpv] at htm HPN
      have hn0 : ¬ ((n : Nat) : Int) = 0 := by omega
      clear hhv hpv
      cases so with
      | false =>
        have HF : Hid (Pl.stepS h ⟨1, k, x⟩ = (h, false)) := by
          show _ = _
          unfold Pl.stepS
          rw [if_pos HPT.out, if_pos rfl, if_neg (fun hh => by have := HSO.out.symm.trans hh.1; cases this)]
        go_wp2_with fail
        refine wp_region_und (by kernel_rfl) (by kernel_rfl) ?_
        repeat (go_big_quiet_step ((first | (first | (go_at_call 92; with_reducible exact CS _) | (go_at_call 86; with_reducible exact CH _)))))
        refine wpQuiet_nil ?_
        intro X hX
        replace HS1 := Lib.hid (HS1.out.step hX)
        clear hX d0 d1 d2 d3 d4 p0 CS CH
        go_wp2
        go_ret
        rw [HF.out]
        exact ⟨rfl, n, _, cL, fL, _, cH, fH, _, cK, fK, HS1.out.tail⟩
      | true =>
        by_cases hpk : pv = k
        · have hpk' : (pv != (k : Int)) = false := by simp [hpk]
          have HPK : Hid (Pl.partN h.Logs.length x.Name = k) := by show _ = _; rw [HNN.out]; exact HPN.out.trans hpk
          clear hpk
          go_wp2_with fail
          refine wp_region_und (by kernel_rfl) (by kernel_rfl) ?_
          repeat (go_big_quiet_step ((first | (first | (go_at_call 92; with_reducible exact CS _) | (go_at_call 86; with_reducible exact CH _)))))
          refine wpQuiet_nil ?_
          intro X hX
          replace HS1 := Lib.hid (HS1.out.step hX)
          clear hX d0 d1 d2 d3 d4 p0 CS CH
          obtain ⟨W2, rfl⟩ : ∃ W : World, W = X := ⟨_, rfl⟩
          go_upto_region 7 with fail
          have d1 := HS1.out.cell (k := 1) 0 rfl rfl
          have d2 := HS1.out.cell (k := 2) 0 rfl rfl
          have d3 := HS1.out.cell (k := 3) 0 rfl rfl
          have d4 := HS1.out.cell (k := 4) 0 rfl rfl
          have p0 := HS1.out.cell (k := 0) 4 rfl rfl
          obtain ⟨g', A6, m6, c6, hx6, -, hrd6, hof6, e0, e1⟩ := rLog_get' (HS1.out.rdSl 1 rfl) hkn
          obtain rfl : g' = g := by have := HAT.out.lg; rw [hx6] at this; injection this
          rw [Nat.zero_add] at e0 e1
          have HRD := Lib.hid (rLog_at_mk hrd6 hof6)
          clear hx6 hrd6 hof6
          have hsb := Pl.sayOk_bounds HSO.out
          have hsn := Pl.sayOk_name HSO.out
          obtain ⟨tx, htx⟩ : ∃ t, Pl.sayTxt x = t := ⟨_, rfl⟩
          have HTX := Lib.hid htx
          have htz : tx.size ≤ 1000 := by rw [← htx]; exact Pl.sayTxt_size HSO.out
          have CT := fun (z : World) (hz : Tab Bt z) => sayText_c x (by omega) (by omega) (by omega) Bt z hz
          rw [htx] at CT
          clear htx
          refine Mm.wp_region_give 17 (fun i => match i with | 10 => some (Mm.gVal (.string tx)) | 11 => some (gAL g' tx) | 15 => some (Mm.gPtr 80 [.slice none 0 0, .int .i64 0]) | 16 => some (Mm.gSto 80) | _ => none) (fun i => match i with | 16 => [15] | _ => []) (fun _ => []) (F := []) (D := fun w' => ∃ z : Und W2, w' = und W2 z) (fun X us h => Mm.sep_und h) (by kernel_rfl) (by kernel_rfl) (by kernel_rfl) (Mm.SepF.startDrew _) ?_
          repeat (refine Mm.give_det (by rfl) (by rfl) (by rfl) (fun K hK => ?_); go_big_quiet_op; refine hK _ ?_; clear hK K)
          refine Mm.give_op0 62 (by rfl) rfl (by rfl) (by rfl) (by rfl) (by rfl) Mm.gVal_in (fun others X hX => ?_) ?_
          · go_wp2_with (go_at_call 111; refine (CT _ (HT.out.on (HS1.out.step hX.bel0).bel0)).mono ?_; rintro e w7 ⟨rfl, hb7⟩)
            exact Mm.gvq_val hX hb7 rfl rfl
          rintro v ds ⟨rfl, rfl⟩
          simp only [Act.put, List.setIfInBounds_toArray, List.set_cons_succ, List.set_cons_zero]
          repeat (refine Mm.give_det (by rfl) (by rfl) (by rfl) (fun K hK => ?_); go_big_quiet_op; refine hK _ ?_; clear hK K)
          refine Mm.give_op0 63 (by rfl) rfl (by rfl) (by rfl) (by rfl) (by rfl) gAL_in (fun others X hX => ?_) ?_
          · go_wp2_with (go_at_call 110; refine (appendLog_c g' tx [.slice A6 m6 c6, .int .i64 g'.Begin] X W2.heap.size (rLog.keep HRD.out fun b hb => hX.bel0.block b hb) hX.bel0.size HAT.out.p.log htz).mono ?_; rintro e w5 ⟨cs5, f5, rfl, ho5, hnd5, hnew5, hb5⟩; obtain ⟨A5, n5, c5, g5, rfl, rfl, -, -⟩ := rLog_own ho5)
            exact ⟨rfl, rfl, _, ⟨A5, n5, c5, _, rfl, rfl⟩, hX.add hb5 (t := Mm.tow rLog (Pl.appL g' tx).1 [.slice A5 n5 c5, .int .i64 (Pl.appL g' tx).1.Begin] _) ho5 hnd5 hnew5⟩
          rintro v ds ⟨A3, m3, c3, f3, rfl, rfl⟩
          simp only [Act.put, List.setIfInBounds_toArray, List.set_cons_succ, List.set_cons_zero]
          repeat (refine Mm.give_det (by rfl) (by rfl) (by rfl) (fun K hK => ?_); go_big_quiet_op; refine hK _ ?_; clear hK K)
          refine Mm.give_op0 5 (by rfl) rfl (by rfl) (by rfl) (by rfl) (by rfl) Mm.gPtr_in (fun others X hX => ?_) ?_
          · go_wp2
            exact Mm.gvq_ptr hX rfl rfl rfl
          rintro v ds ⟨gy, rfl, rfl⟩
          simp only [Act.put, List.setIfInBounds_toArray, List.set_cons_succ, List.set_cons_zero]
          refine Mm.give_store 80 gy [.slice none 0 0, .int .i64 0] [.slice A3 m3 c3, .int .i64 (Pl.appL g' tx).1.Begin] 15 (by rfl) rfl rfl (by rfl) rfl (by rfl) rfl rfl (fun others X hX => ?_) ?_
          · have y0 := hX.cell (k := 0) 0 rfl rfl
            have y1 := hX.cell (k := 1) 0 rfl rfl
            have x0 := hX.frz (k := 0) 0 rfl
            have x1 := hX.frz (k := 1) 0 rfl
            have hX9 := (hX.setBlk (k := 0) 0 rfl (.slice A3 m3 c3)).setBlk (k := 1) 0 rfl (.int .i64 (Pl.appL g' tx).1.Begin)
            go_wp2
            exact ⟨rfl, rfl, _, rfl, hX9⟩
          refine Mm.give_nil ?_
          rintro X2 hX
          have HX2 : Hid (Mm.SepF [] W2 X2 [Mm.tow rLog (Pl.appL g' tx).1 [.slice A3 m3 c3, .int .i64 (Pl.appL g' tx).1.Begin] f3, Mm.tblk gy 80 [.slice A3 m3 c3, .int .i64 (Pl.appL g' tx).1.Begin]]) := Mm.sep_eq hX rfl
          clear hX d1 d2 d3 d4 p0 e0 e1
          by_cases hok : Pl.appOk g' tx = true
          · have hAL : Pl.appL g' tx = (Pl.logOut g' tx, true) := if_pos hok
            have HF : Hid (Pl.stepS h ⟨1, k, x⟩ = (⟨h.Logs.set k (Pl.logOut g' tx), h.Heads, h.Kept⟩, true)) := by
              show _ = _
              unfold Pl.stepS
              rw [if_pos HPT.out, if_pos rfl, Int.toNat_natCast, Pl.logK_of HAT.out.lg, HTX.out, if_pos ⟨HSO.out, HPK.out, hok⟩]
            rw [hAL] at HX2 ⊢
            clear hok hAL
            obtain ⟨z, hz⟩ : ∃ z, Pl.logOut g' tx = z := ⟨_, rfl⟩
            rw [hz] at HF HX2 ⊢
            clear hz
            have hbX := HX2.out.bel0
            have y0 := HX2.out.cell (k := 0) 1 rfl rfl
            have y1 := HX2.out.cell (k := 1) 1 rfl rfl
            have d1 := (HS1.out.step hbX).cell (k := 1) 0 rfl rfl
            have p0 := (HS1.out.step hbX).cell (k := 0) 4 rfl rfl
            go_upto_region 9 with fail
            refine wp_region_und_tail 8 (by kernel_rfl) (by kernel_rfl) ?_
            simp only [List.take_succ_cons, List.take_zero, List.drop_succ_cons, List.drop_zero]
            repeat (go_big_quiet_step ((first | fail)))
            refine wpQuiet_nil ?_
            intro X hX
            obtain ⟨X3, rfl⟩ : ∃ W : World, W = X := ⟨_, rfl⟩
            have HX3 := Lib.hid ((HX2.out.step hX).sel [0] (by decide) rfl)
            have hb3 := HX3.out.bel0
            obtain ⟨_, _, _, v0, v1⟩ := rLog_ocell (HS1.out.sl 1 rfl) (HS1.out.ndat (i := 1) rfl) HAT.out.lg
            have q0 := below_some hb3 v0
            have q1 := below_some hb3 v1
            have fl0 := ((HS1.out.step hb3).sl 1 rfl).frozen (k * 2)
            have fl1 := ((HS1.out.step hb3).sl 1 rfl).frozen (k * 2 + 1)
            obtain ⟨fp9, hs9⟩ := putLogEl HS1.out 1 rfl HAT.out.lg HX3.out
            obtain ⟨W9, hW9⟩ : ∃ W, (X3.setCell ⟨gL, k * 2, none⟩ (.slice A3 m3 c3)).setCell ⟨gL, k * 2 + 1, none⟩ (.int .i64 z.Begin) = W := ⟨_, rfl⟩
            have HS9 := Lib.hid (hs9.atW hW9)
            clear hs9 hb3 v0 v1 y0 y1 d1 p0 HX2 HX3 hX hbX
            go_upto_region 10 with fail
            clear hW9 q0 q1 fl0 fl1
            go_wp2
            go_ret
            rw [HF.out]
            exact ⟨rfl, n, _, cL, fp9, _, cH, fH, _, cK, fK, HS9.out.tail⟩
          · have hAL : Pl.appL g' tx = (⟨[], 0⟩, false) := if_neg hok
            have HF : Hid (Pl.stepS h ⟨1, k, x⟩ = (h, false)) := by
              show _ = _
              unfold Pl.stepS
              rw [if_pos HPT.out, if_pos rfl, Int.toNat_natCast, Pl.logK_of HAT.out.lg, HTX.out, if_neg (fun hh => hok hh.2.2)]
            rw [hAL] at HX2 ⊢
            replace HS1 := Lib.hid (HS1.out.step HX2.out.bel0)
            clear hok hAL HX2
            go_wp2
            go_ret
            rw [HF.out]
            exact ⟨rfl, n, _, cL, fL, _, cH, fH, _, cK, fK, HS1.out.tail⟩
        · have hpk' : (pv != (k : Int)) = true := by simpa using hpk
          have HF : Hid (Pl.stepS h ⟨1, k, x⟩ = (h, false)) := by
            show _ = _
            unfold Pl.stepS
            rw [if_pos HPT.out, if_pos rfl, if_neg (fun hh => hpk (HPN.out.symm.trans (by rw [← HNN.out]; exact hh.2.1)))]
          clear hpk
          go_wp2_with fail
          refine wp_region_und (by kernel_rfl) (by kernel_rfl) ?_
          repeat (go_big_quiet_step ((first | (first | (go_at_call 92; with_reducible exact CS _) | (go_at_call 86; with_reducible exact CH _)))))
          refine wpQuiet_nil ?_
          intro X hX
          replace HS1 := Lib.hid (HS1.out.step hX)
          clear hX d0 d1 d2 d3 d4 p0 CS CH
          go_wp2
          go_ret
          rw [HF.out]
          exact ⟨rfl, n, _, cL, fL, _, cH, fH, _, cK, fK, HS1.out.tail⟩
    · have hk1' : ((kd : Int) != 1) = true := by simpa using hk1
      have hk1'' : ((kd : Int) == 1) = false := by simpa using hk1
      have CN := fun W => run_neSay x W
      obtain ⟨ns, hns⟩ : ∃ b, Pl.noSay x = b := ⟨_, rfl⟩
      rw [hns] at CN
      have HNS := Lib.hid hns
      clear hns
      cases ns with
      | false =>
        have HF : Hid (Pl.stepS h ⟨kd, k, x⟩ = (h, false)) := by
          show _ = _
          unfold Pl.stepS
          rw [if_pos HPT.out, if_neg hk1, if_neg (by rw [HNS.out]; simp)]
        refine wp_region_und (by kernel_rfl) (by kernel_rfl) ?_
        repeat (go_big_quiet_step ((first | (go_at_call 55; with_reducible exact CI _))))
        refine wpQuiet_nil ?_
        intro X hX
        have HS1 := Lib.hid (HS0.out.step hX)
        clear hX HS0 d0 d1 d2 d3 d4 p0 CI
        go_wp2
        go_ret
        rw [HF.out]
        exact ⟨rfl, n, _, cL, fL, _, cH, fH, _, cK, fK, HS1.out.tail⟩
      | true =>
        have HSTP : Hid (Pl.stepS h ⟨kd, k, x⟩ = if kd = 2 then Pl.followS h k else if kd = 3 then (⟨h.Logs, h.Heads, h.Kept.set k (Pl.headK h k)⟩, true) else if kd = 4 then (⟨h.Logs, h.Heads.set k (Pl.keptK h k), h.Kept⟩, true) else (h, false)) := by
          show _ = _
          unfold Pl.stepS
          rw [if_pos HPT.out, if_neg hk1, if_pos (by rw [HNS.out]), Int.toNat_natCast]
        refine wp_region_und (by kernel_rfl) (by kernel_rfl) ?_
        repeat (go_big_quiet_step ((first | (go_at_call 55; with_reducible exact CI _))))
        refine wpQuiet_nil ?_
        intro X hX
        have HS1 := Lib.hid (HS0.out.step hX)
        clear hX HS0 d0 d1 d2 d3 d4 p0 CI CN
        obtain ⟨W1, rfl⟩ : ∃ W : World, W = X := ⟨_, rfl⟩
        obtain ⟨g, a, b, l, hat⟩ := HK.out.at_ (k := k) (by have := HNN.out; omega)
        have HAT := Lib.hid hat
        clear hat
        have d0 := HS1.out.cell (k := 0) 0 rfl rfl
        by_cases h2 : kd = 2
        · subst h2
          have HF : Hid (Pl.stepS h ⟨2, k, x⟩ = Pl.followS h k) := by show _ = _; rw [HSTP.out, if_pos rfl]
          have d1 := HS1.out.cell (k := 1) 0 rfl rfl
          have CF := follow_c h k gp Bt rest g a b l HAT.out w0 W1 HT.out ⟨n, _, cL, fL, _, cH, fH, _, cK, fK, HS1.out.tail⟩
          go_wp2_with fail
          refine CF.mono ?_
          rintro e w2 ⟨rfl, hS2⟩
          have HS2 := Lib.hid hS2
          clear CF hS2 d0 d1
          go_wp2
          go_ret
          rw [HF.out]
          exact ⟨rfl, HS2.out⟩
        · have h2' : ((kd : Int) == 2) = false := by simpa using h2
          by_cases h3 : kd = 3
          · subst h3
            have HF : Hid (Pl.stepS h ⟨3, k, x⟩ = (⟨h.Logs, h.Heads, h.Kept.set k a⟩, true)) := by show _ = _; rw [HSTP.out, if_neg h2, if_pos rfl, Pl.headK_of HAT.out.hd]
            have d1 := HS1.out.cell (k := 1) 0 rfl rfl
            have p1 := HS1.out.cell (k := 1) 4 rfl rfl
            have p2 := HS1.out.cell (k := 2) 4 rfl rfl
            obtain ⟨a', A6, m6, c6, hx6, -, hrd6, hof6, e0, e1⟩ := rHead_get' (HS1.out.rdSl 2 rfl) hkn
            obtain rfl : a' = a := by have := HAT.out.hd; rw [hx6] at this; injection this
            rw [Nat.zero_add] at e0 e1
            have HRD := Lib.hid (rHead_at_mk hrd6 hof6)
            have HWK := Lib.hid HAT.out.p.head.hw
            clear hx6 hrd6 hof6
            go_wp2_with fail
            refine Mm.wp_region_give 16 (fun i => match i with | 14 => some (gFoldH a') | _ => none) (fun _ => []) (fun _ => []) (F := []) (D := fun w' => ∃ z : Und W1, w' = und W1 z) (fun X us h => Mm.sep_und h) (by kernel_rfl) (by kernel_rfl) (by kernel_rfl) (Mm.SepF.startDrew _) ?_
            repeat (refine Mm.give_det (by rfl) (by rfl) (by rfl) (fun K hK => ?_); go_big_quiet_op; refine hK _ ?_; clear hK K)
            refine Mm.give_op0 98 (by rfl) rfl (by rfl) (by rfl) (by rfl) (by rfl) gFoldH_in (fun others X hX => ?_) ?_
            · have CC := cloneHead_c a' [.slice A6 m6 c6, .int .i64 a'.Offset] X W1.heap.size (rHead.keep HRD.out fun b hb => hX.bel0.block b hb) hX.bel0.size HWK.out
              go_wp2_with (go_at_call 113; refine CC.mono ?_; rintro e w5 ⟨cs5, f5, rfl, ho5, hnd5, hnew5, hb5⟩; obtain ⟨A5, n5, c5, g5, rfl, rfl, -, -⟩ := rHead_own ho5)
              exact ⟨rfl, rfl, _, ⟨A5, n5, c5, _, rfl, rfl⟩, hX.add hb5 (t := Mm.tow rHead a' [.slice A5 n5 c5, .int .i64 a'.Offset] _) ho5 hnd5 hnew5⟩
            rintro v ds ⟨A3, m3, c3, f3, rfl, rfl⟩
            simp only [Act.put, List.setIfInBounds_toArray, List.set_cons_succ, List.set_cons_zero]
            repeat (refine Mm.give_det (by rfl) (by rfl) (by rfl) (fun K hK => ?_); go_big_quiet_op; refine hK _ ?_; clear hK K)
            refine Mm.give_nil ?_
            rintro X8 hX8
            have hx8 : Mm.SepF [] W1 X8 [Mm.tow rHead a' [.slice A3 m3 c3, .int .i64 a'.Offset] f3] := Mm.sep_eq hX8 rfl
            clear hX8 d1 p1 p2 e0 e1
            have hb8 := hx8.bel0
            obtain ⟨_, _, _, v0, v1⟩ := rHead_ocell (HS1.out.sl 3 rfl) (HS1.out.ndat (i := 3) rfl) HAT.out.kp
            have q0 := below_some hb8 v0
            have q1 := below_some hb8 v1
            have fl0 := ((HS1.out.step hb8).sl 3 rfl).frozen (k * 2)
            have fl1 := ((HS1.out.step hb8).sl 3 rfl).frozen (k * 2 + 1)
            obtain ⟨fp9, hs9⟩ := putHeadEl HS1.out 3 rfl HAT.out.kp hx8
            obtain ⟨W9, hW9⟩ : ∃ W, (X8.setCell ⟨gK, k * 2, none⟩ (.slice A3 m3 c3)).setCell ⟨gK, k * 2 + 1, none⟩ (.int .i64 a'.Offset) = W := ⟨_, rfl⟩
            have HS9 := Lib.hid (hs9.atW hW9)
            clear hs9 hx8 hb8 v0 v1
            go_upto_region 15 with fail
            clear hW9 q0 q1 fl0 fl1
            go_wp2
            go_ret
            rw [HF.out]
            exact ⟨rfl, n, _, cL, fL, _, cH, fH, _, cK, fp9, HS9.out.tail⟩
          · have h3' : ((kd : Int) == 3) = false := by simpa using h3
            by_cases h4 : kd = 4
            · subst h4
              have HF : Hid (Pl.stepS h ⟨4, k, x⟩ = (⟨h.Logs, h.Heads.set k b, h.Kept⟩, true)) := by show _ = _; rw [HSTP.out, if_neg h2, if_neg h3, if_pos rfl, Pl.keptK_of HAT.out.kp]
              have d1 := HS1.out.cell (k := 1) 0 rfl rfl
              have p1 := HS1.out.cell (k := 1) 4 rfl rfl
              have p2 := HS1.out.cell (k := 2) 4 rfl rfl
              obtain ⟨a', A6, m6, c6, hx6, -, hrd6, hof6, e0, e1⟩ := rHead_get' (HS1.out.rdSl 3 rfl) hkn
              obtain rfl : a' = b := by have := HAT.out.kp; rw [hx6] at this; injection this
              rw [Nat.zero_add] at e0 e1
              have HRD := Lib.hid (rHead_at_mk hrd6 hof6)
              have HWK := Lib.hid HAT.out.p.kept.hw
              clear hx6 hrd6 hof6
              go_wp2_with fail
              refine Mm.wp_region_give 16 (fun i => match i with | 14 => some (gFoldH a') | _ => none) (fun _ => []) (fun _ => []) (F := []) (D := fun w' => ∃ z : Und W1, w' = und W1 z) (fun X us h => Mm.sep_und h) (by kernel_rfl) (by kernel_rfl) (by kernel_rfl) (Mm.SepF.startDrew _) ?_
              repeat (refine Mm.give_det (by rfl) (by rfl) (by rfl) (fun K hK => ?_); go_big_quiet_op; refine hK _ ?_; clear hK K)
              refine Mm.give_op0 116 (by rfl) rfl (by rfl) (by rfl) (by rfl) (by rfl) gFoldH_in (fun others X hX => ?_) ?_
              · have CC := cloneHead_c a' [.slice A6 m6 c6, .int .i64 a'.Offset] X W1.heap.size (rHead.keep HRD.out fun b hb => hX.bel0.block b hb) hX.bel0.size HWK.out
                go_wp2_with (go_at_call 113; refine CC.mono ?_; rintro e w5 ⟨cs5, f5, rfl, ho5, hnd5, hnew5, hb5⟩; obtain ⟨A5, n5, c5, g5, rfl, rfl, -, -⟩ := rHead_own ho5)
                exact ⟨rfl, rfl, _, ⟨A5, n5, c5, _, rfl, rfl⟩, hX.add hb5 (t := Mm.tow rHead a' [.slice A5 n5 c5, .int .i64 a'.Offset] _) ho5 hnd5 hnew5⟩
              rintro v ds ⟨A3, m3, c3, f3, rfl, rfl⟩
              simp only [Act.put, List.setIfInBounds_toArray, List.set_cons_succ, List.set_cons_zero]
              repeat (refine Mm.give_det (by rfl) (by rfl) (by rfl) (fun K hK => ?_); go_big_quiet_op; refine hK _ ?_; clear hK K)
              refine Mm.give_nil ?_
              rintro X8 hX8
              have hx8 : Mm.SepF [] W1 X8 [Mm.tow rHead a' [.slice A3 m3 c3, .int .i64 a'.Offset] f3] := Mm.sep_eq hX8 rfl
              clear hX8 d1 p1 p2 e0 e1
              have hb8 := hx8.bel0
              obtain ⟨_, _, _, v0, v1⟩ := rHead_ocell (HS1.out.sl 2 rfl) (HS1.out.ndat (i := 2) rfl) HAT.out.hd
              have q0 := below_some hb8 v0
              have q1 := below_some hb8 v1
              have fl0 := ((HS1.out.step hb8).sl 2 rfl).frozen (k * 2)
              have fl1 := ((HS1.out.step hb8).sl 2 rfl).frozen (k * 2 + 1)
              obtain ⟨fp9, hs9⟩ := putHeadEl HS1.out 2 rfl HAT.out.hd hx8
              obtain ⟨W9, hW9⟩ : ∃ W, (X8.setCell ⟨gH, k * 2, none⟩ (.slice A3 m3 c3)).setCell ⟨gH, k * 2 + 1, none⟩ (.int .i64 a'.Offset) = W := ⟨_, rfl⟩
              have HS9 := Lib.hid (hs9.atW hW9)
              clear hs9 hx8 hb8 v0 v1
              go_upto_region 18 with fail
              clear hW9 q0 q1 fl0 fl1
              go_wp2
              go_ret
              rw [HF.out]
              exact ⟨rfl, n, _, cL, fL, _, cH, fp9, _, cK, fK, HS9.out.tail⟩
            · have h4' : ((kd : Int) == 4) = false := by simpa using h4
              have HF : Hid (Pl.stepS h ⟨kd, k, x⟩ = (h, false)) := by show _ = _; rw [HSTP.out, if_neg h2, if_neg h3, if_neg h4]
              go_wp2
              go_ret
              rw [HF.out]
              exact ⟨rfl, n, _, cL, fL, _, cH, fH, _, cK, fK, HS1.out.tail⟩
end Go.Proofs.YtbhmdnjammnlnaaGreatDoor

namespace Go.Proofs.YtbhmdnjammnlnaaGreatDoor
open Go.RowKit
attribute [local go_sem] und_cell cha_cell World.cell?_alloc_some
def Pl.appG (g : Log) (s : ByteArray) : Log := if Pl.appOk g s = true then Pl.logOut g s else g
def Pl.endOf (g : Log) : Int := (Pl.lastP g.Pieces).From + ((Pl.records (Pl.lastP g.Pieces).Bytes).length : Int)
theorem Pl.LogOk.end_ {g : Log} (k : Pl.LogOk g) : Pl.endOf g = Pl.from0 g.Pieces + ((Pl.lRecs g.Pieces).length : Int) := by
  unfold Pl.endOf
  have e : Pl.lRecs g.Pieces = Pl.lRecs (g.Pieces.take (g.Pieces.length - 1)) ++ Pl.records (Pl.lastP g.Pieces).Bytes := by
    conv => lhs; rw [Pl.split_last k.len.1]
    rw [Pl.lRecs_append]
    congr 1
    unfold Pl.lRecs
    rw [List.flatMap_cons, List.flatMap_nil, List.append_nil]
  rw [k.last.2, e, List.length_append]
  omega
set_option maxRecDepth 100000 in
set_option maxHeartbeats 4000000 in
theorem l6End_c (g : Log) (cs : List Value) (w : World) (B : Nat) (hh : rLog.at_ w B g cs) (hB : B ≤ w.heap.size) (hg : Pl.LogOk g) :
    Calls Tryz.prog 147 #[.agg cs.toArray] w fun e w' => e = .returned (.int .i64 (Pl.endOf g)) ∧ Below w.heap.size w w' := by
  obtain ⟨A0, n0, c0, rfl, r0, io⟩ := rLog_at hh
  have hn20 : n0 ≤ 20 := by have := hg.len.2; have := r0.1; omega
  obtain ⟨m, rfl⟩ : ∃ m, n0 = m + 1 := ⟨n0 - 1, by have := hg.len.1; have := r0.1; omega⟩
  have HN0 : Hid (m + 1 = g.Pieces.length) := r0.1.symm
  have R0 := Lib.hid r0
  have HG := Lib.hid hg
  obtain ⟨ga, hga⟩ : ∃ g, w.heap.size = g := ⟨_, rfl⟩
  obtain ⟨W0, hW0⟩ : ∃ W, w.alloc (.cells #[.slice A0 (m + 1) c0, .int .i64 g.Begin] 80) = W := ⟨_, rfl⟩
  have KS0 := Lib.hid (((Mm.SepF.start w).alloc' hga 80 [.slice A0 (m + 1) c0, .int .i64 g.Begin]).atW hW0)
  have d0 := KS0.out.cell (k := 0) 0 rfl rfl
  obtain ⟨x, bX, oX, AI, mI, dI, hx, rfl, hbX, i0, i1, hri, e0, e1, e2⟩ := rPiece_get (R0.out.keep (w' := W0) fun b hb => KS0.out.bel0.block b (by omega)) (show m < m + 1 by omega)
  obtain rfl : x = Pl.lastP g.Pieces := by
    have h1 := Pl.lastP_get hg.len.1
    rw [show g.Pieces.length - 1 = m by have := HN0.out; omega, hx] at h1
    injection h1
  have hPO := hg.last
  have hEN := hg.end_
  have hsum := hg.sum
  have hfr := hg.from0
  obtain ⟨P, hP⟩ : ∃ P, Pl.lastP g.Pieces = P := ⟨_, rfl⟩
  have hend : Pl.endOf g = P.From + Pl.manyP P := by unfold Pl.endOf Pl.manyP; rw [hP, if_pos (by rw [← hP]; exact hPO.1)]
  rw [hP] at i0 i1 hri e0 e1
  have HEND := Lib.hid hend
  have hmb := Pl.manyP_bd P
  have hPF : P.From = Pl.endOf g - Pl.manyP P := by omega
  have hP60 : P.Bytes.size ≤ 60 := by rw [← hP]; exact Pl.pieceOk_size hPO.1
  have HRI := Lib.hid (rPiece_at_mk i0 i1 hri)
  have hBW : B ≤ W0.heap.size := by have := KS0.out.bel0.size; omega
  obtain ⟨mv, hmv⟩ : ∃ v, Pl.manyP P = v := ⟨_, rfl⟩
  have hfb : -1000000 ≤ P.From ∧ P.From ≤ 1000000 := by omega
  have HMV := Lib.hid hmv
  rw [hmv] at hmb
  have hfm : -1000000 ≤ P.From + mv ∧ P.From + mv ≤ 1000000 := by omega
  have fm1 : (0 : Int) ≤ ((m + 1 : Nat) : Int) - 1 := by omega
  have fm2 : ((m + 1 : Nat) : Int) - 1 < ((m + 1 : Nat) : Int) := by omega
  have fm3 : (((m + 1 : Nat) : Int) - 1).toNat = m := by omega
  have fm4 : IntKind.i64.wrap (((m + 1 : Nat) : Int) - 1) = ((m + 1 : Nat) : Int) - 1 := IntWalk.i64_in _ (by omega)
  clear hh r0 io hx hg hPO hEN hsum hfr hP hend hPF hmv i0 i1 hri
  go_enter Tryz.func147, Tryz.ntmps147
  obtain ⟨gp, hgp⟩ : ∃ g, W0.heap.size = g := ⟨_, rfl⟩
  obtain ⟨W1, hW1⟩ : ∃ W, W0.alloc (.cells #[.int .i64 P.From, .string P.Bytes, .slice AI mI dI] 164) = W := ⟨_, rfl⟩
  have KS1 := Lib.hid ((KS0.out.alloc' hgp 164 [.int .i64 P.From, .string P.Bytes, .slice AI mI dI]).atW hW1)
  have hb1 : Below W0.heap.size W0 W1 := by rw [← hW1]; exact below_new (Below.refl _ _) _
  go_upto_region 2 with fail
  have q0 := KS1.out.cell (k := 0) 0 rfl rfl
  have q1 := KS1.out.cell (k := 1) 0 rfl rfl
  have q2 := KS1.out.cell (k := 2) 0 rfl rfl
  have CM := fun z : Und W1 => und_call z (l6Many_c P [.int .i64 P.From, .string P.Bytes, .slice AI mI dI] (und W1 z) B (rPiece.keep (rPiece.keep HRI.out fun b hb => hb1.block b (Nat.lt_of_lt_of_le hb hBW)) fun b hb => (z.h).block b (Nat.lt_of_lt_of_le hb (Nat.le_trans hBW hb1.size))) (Nat.le_trans (Nat.le_trans hBW hb1.size) (und_size z)) (by omega))
  rw [HMV.out] at CM
  have HB1 := Lib.hid KS1.out.bel0
  clear hW1 hgp hW0 hga d0 e0 e1 e2 KS0 KS1 hb1
  refine wp_region_und (by kernel_rfl) (by kernel_rfl) ?_
  repeat (go_big_quiet_step ((first | (go_at_call 123; with_reducible exact CM _))))
  refine wpQuiet_nil ?_
  intro X hX
  have HBX := Lib.hid (below_step HB1.out hX)
  clear hX CM
  go_wp2
  go_ret
  exact ⟨by rw [HEND.out, HMV.out]; rfl, HBX.out⟩
def L6Ans (g : Log) (s : ByteArray) (fp : List Nat) (w : World) (e : Ending) (w' : World) : Prop :=
  ∃ A n c fp', e = .returned (.tuple #[.agg #[.slice A n c, .int .i64 g.Begin], .bool (Pl.appOk g s)]) ∧ Mm.SepF fp w w' [Mm.tsl rPiece 164 (Pl.appG g s).Pieces (.slice A n c) fp']
set_option maxRecDepth 100000 in
set_option maxHeartbeats 8000000 in
theorem l6Append_c (g : Log) (s : ByteArray) (A : Option Addr) (n c0 : Nat) (fp : List Nat) (w : World) (hso : Mm.SlOwn rPiece 164 w g.Pieces (.slice A n c0) fp) (hnd : fp.Nodup) (hg : Pl.LogOk g) (hb0 : Mm.I64 g.Begin) (hs : s.size ≤ 1000) :
    Calls Tryz.prog 105 #[.agg #[.slice A n c0, .int .i64 g.Begin], .string s] w (L6Ans g s fp w) := by
  have hnl := hso.nlen
  have hn20 : n ≤ 20 := by have := hg.len.2; omega
  obtain ⟨m, rfl⟩ : ∃ m, n = m + 1 := ⟨n - 1, by have := hg.len.1; omega⟩
  have HN0 : Hid (m + 1 = g.Pieces.length) := hnl.symm
  obtain ⟨gl, rfl, -, -⟩ := Mm.sl_addr hso (by have := hg.len.1; omega)
  have HG := Lib.hid hg
  have HB0 := Lib.hid hb0
  obtain ⟨bgn, hbgn⟩ : ∃ z, g.Begin = z := ⟨_, rfl⟩
  have HBG : Hid (bgn = g.Begin) := hbgn.symm
  rw [hbgn]
  clear hbgn hnl hb0
  obtain ⟨gb, hgb⟩ : ∃ g, w.heap.size = g := ⟨_, rfl⟩
  obtain ⟨gz, hgz⟩ : ∃ g, gb + 1 = g := ⟨_, rfl⟩
  obtain ⟨W0, hW0⟩ : ∃ W, (w.alloc (.cells #[.slice (some ⟨gl, 0, none⟩) (m + 1) c0, .int .i64 bgn] 80)).alloc (.cells #[.slice none 0 0, .int .i64 0] 80) = W := ⟨_, rfl⟩
  have KS0 := Lib.hid ((((Mm.SepF.one (Mm.tsl rPiece 164 g.Pieces (.slice (some ⟨gl, 0, none⟩) (m + 1) c0) fp) w hso hnd).alloc' hgb 80 [.slice (some ⟨gl, 0, none⟩) (m + 1) c0, .int .i64 bgn]).alloc' (g := gz) (by rw [Mm.sz1, hgb, hgz]) 80 [.slice none 0 0, .int .i64 0]).atW hW0)
  clear hso hnd hg
  have hlast : g.Pieces[m]? = some (Pl.lastP g.Pieces) := by
    have := Pl.lastP_get HG.out.len.1
    rw [show g.Pieces.length - 1 = m by have := HN0.out; omega] at this
    exact this
  have HLAST := Lib.hid hlast
  have HPO := Lib.hid HG.out.last
  have HEN := Lib.hid HG.out.end_
  have hfr := HG.out.from0
  have hsum := HG.out.sum
  obtain ⟨P, hP⟩ : ∃ P, Pl.lastP g.Pieces = P := ⟨_, rfl⟩
  have HP := Lib.hid hP
  rw [hP] at HLAST HPO
  have hP60 := Pl.pieceOk_size HPO.out.1
  obtain ⟨rt, hrt⟩ : ∃ r : Nat, (Pl.lRecs g.Pieces).length = r := ⟨_, rfl⟩
  obtain ⟨f0, hf0⟩ : ∃ f : Int, Pl.from0 g.Pieces = f := ⟨_, rfl⟩
  have HRT := Lib.hid hrt
  have HF0 := Lib.hid hf0
  rw [hrt] at hsum
  rw [hf0] at hfr
  have HEND : Hid (Pl.endOf g = f0 + (rt : Int)) := by show _ = _; rw [HEN.out, hf0, hrt]
  obtain ⟨p0v, hp0⟩ : ∃ p, g.Pieces[0]? = some p ∧ p.From = f0 := by
    cases hgp : g.Pieces with
    | nil => have := HN0.out; rw [hgp] at this; simp at this
    | cons p t => exact ⟨p, rfl, by rw [← hf0, hgp]; rfl⟩
  have HP0 := Lib.hid hp0
  have hpfb : P.From + ((Pl.records P.Bytes).length : Int) = f0 + (rt : Int) := by have := HEND.out; unfold Pl.endOf at this; rw [hP] at this; exact this
  have hrl := Pl.records_len P.Bytes
  obtain ⟨rn, hrn⟩ : ∃ r : Nat, (Pl.records P.Bytes).length = r := ⟨_, rfl⟩
  have HRN : Hid (rn = (Pl.records P.Bytes).length) := hrn.symm
  rw [hrn] at hpfb hrl
  obtain ⟨pf, hpf'⟩ : ∃ pf, P.From = pf := ⟨_, rfl⟩
  have HPF := Lib.hid hpf'
  rw [hpf'] at hpfb
  have hne := Pl.records_ne (Pl.pieceOk_whole HPO.out.1).1
  rw [hrn] at hne
  have HNE := Lib.hid hne
  obtain ⟨hfr1, hfr2⟩ := hfr
  have hpfB : -1000 ≤ pf ∧ pf ≤ 200000 := by omega
  obtain ⟨hpf1, hpf2⟩ := hpfB
  clear hP hlast hrt hf0 hp0 hrn hpf' hne
  go_enter Tryz.func105, Tryz.ntmps105
  go_upto_region 1 with fail
  clear hW0 hgb hgz
  have d0 := KS0.out.cell (k := 0) 1 rfl rfl
  have d1 := KS0.out.cell (k := 1) 1 rfl rfl
  by_cases hs20 : s.size ≤ 20
  · have hs20d : decide ((20 : Int) < (s.size : Nat)) = false := decide_eq_false (by omega)
    have CE := fun z : Und W0 => und_call z (l6End_c g [.slice (some ⟨gl, 0, none⟩) (m + 1) c0, .int .i64 bgn] (und W0 z) (und W0 z).heap.size (rLog_at_mk (x := g) ((KS0.out.step z.h).rdSl 2 rfl) HB0.out |> fun h => by rw [HBG.out]; exact h) (Nat.le_refl _) HG.out)
    rw [HEND.out] at CE
    obtain ⟨_, _, _, v0, -, -⟩ := rPiece_ocell (KS0.out.sl 2 rfl) (KS0.out.ndat (i := 2) rfl) HP0.out.1
    rw [show 0 * 3 = 0 from rfl, HP0.out.2] at v0
    have few : IntKind.i64.wrap (f0 + (rt : Int) - f0) = (rt : Int) := by rw [show f0 + (rt : Int) - f0 = (rt : Int) by omega]; exact IntWalk.i64_in _ (by omega)
    have fes : f0 + (rt : Int) - f0 = (rt : Int) := by omega
    have fm0 : (0 : Int) < ((m + 1 : Nat) : Int) := by omega
    by_cases h60 : rt = 60
    · have hre : ((rt : Int) == 60) = true := by simp [h60]
      have HOK : Hid (Pl.appOk g s = false) := by
        show _ = _
        unfold Pl.appOk
        rw [HRT.out, h60]; simp
      have HOUT : Hid (Pl.appG g s = g) := if_neg (by rw [HOK.out]; simp)
      clear h60
      refine wp_region_und (by kernel_rfl) (by kernel_rfl) ?_
      repeat (go_big_quiet_step ((first | (go_at_call 147; with_reducible exact CE _))))
      refine wpQuiet_nil ?_
      intro X hX
      have KS1 := Lib.hid (KS0.out.step hX)
      clear hX KS0 d0 d1 v0 CE
      have d0 := KS1.out.cell (k := 0) 1 rfl rfl
      have d1 := KS1.out.cell (k := 1) 1 rfl rfl
      have z0 := KS1.out.cell (k := 0) 0 rfl rfl
      have z1 := KS1.out.cell (k := 1) 0 rfl rfl
      have y0 := KS1.out.frz (k := 0) 0 rfl
      have y1 := KS1.out.frz (k := 1) 0 rfl
      have HSF := Lib.hid ((KS1.out.setBlk (k := 0) 0 rfl (.slice (some ⟨gl, 0, none⟩) (m + 1) c0)).setBlk (k := 1) 0 rfl (.int .i64 bgn))
      have u0 := HSF.out.cell (k := 0) 0 rfl rfl
      have u1 := HSF.out.cell (k := 1) 0 rfl rfl
      go_wp2
      exact bodyPost_ret (v := .tuple #[.agg #[.slice (some ⟨gl, 0, none⟩) (m + 1) c0, .int .i64 bgn], .bool false]) (by simp [results, Tryz.results105, go_sem, u0, u1]) rfl ⟨(some ⟨gl, 0, none⟩), (m + 1), c0, _, by rw [HOK.out, HBG.out], by rw [HOUT.out]; exact HSF.out.sel [2] (by decide) rfl⟩
    · have hre : ((rt : Int) == 60) = false := by
        rw [beq_eq_false_iff_ne]; omega
      have H60 := Lib.hid h60
      clear h60
      refine wp_region_und (by kernel_rfl) (by kernel_rfl) ?_
      repeat (go_big_quiet_step ((first | (go_at_call 147; with_reducible exact CE _))))
      refine wpQuiet_nil ?_
      intro X hX
      obtain ⟨W1, rfl⟩ : ∃ W : World, W = X := ⟨_, rfl⟩
      have KS1 := Lib.hid (KS0.out.step hX)
      clear hX KS0 d0 d1 v0 CE hre few fes
      have CV := l1Varint_c (s.size : Int) (by omega) (by omega) W1
      go_wp2_with fail
      refine CV.mono ?_
      rintro e w2 ⟨vs, rfl, -, hvs, hb2⟩
      obtain rfl := hvs (by omega) (by omega)
      rw [Int.toNat_natCast]
      have hrs := Pl.rtext_size s
      have hvz : (Pl.vtxt s.size).size + s.size ≤ 100 := by show 1 + s.size ≤ 100; omega
      have hvr : Pl.vtxt s.size ++ s = Pl.rtext s := rfl
      obtain ⟨W2, rfl⟩ : ∃ W : World, W = w2 := ⟨_, rfl⟩
      have KS2 := Lib.hid (KS1.out.step hb2)
      clear hb2 KS1 CV
      go_upto_region 4 with fail
      have d0 := KS2.out.cell (k := 0) 1 rfl rfl
      obtain ⟨AI, mI, dI, v0, v1, v2⟩ := rPiece_ocell (KS2.out.sl 2 rfl) (KS2.out.ndat (i := 2) rfl) HLAST.out
      rw [HPF.out] at v0
      obtain ⟨gp, hgp⟩ : ∃ g, W2.heap.size = g := ⟨_, rfl⟩
      obtain ⟨W3, hW3⟩ : ∃ W, W2.alloc (.cells #[.int .i64 pf, .string P.Bytes, .slice AI mI dI] 164) = W := ⟨_, rfl⟩
      have KS3 := Lib.hid ((KS2.out.alloc' hgp 164 [.int .i64 pf, .string P.Bytes, .slice AI mI dI]).atW hW3)
      have fm1 : (0 : Int) ≤ ((m + 1 : Nat) : Int) - 1 := by omega
      have fm2 : ((m + 1 : Nat) : Int) - 1 < ((m + 1 : Nat) : Int) := by omega
      have fm3 : (((m + 1 : Nat) : Int) - 1).toNat = m := by omega
      have fm4 : IntKind.i64.wrap (((m + 1 : Nat) : Int) - 1) = ((m + 1 : Nat) : Int) - 1 := IntWalk.i64_in _ (by omega)
      go_upto_region 5 with fail
      clear hW3 hgp d0 v0 v1 v2 KS2
      have q0 := KS3.out.cell (k := 0) 0 rfl rfl
      have q1 := KS3.out.cell (k := 1) 0 rfl rfl
      have q2 := KS3.out.cell (k := 2) 0 rfl rfl
      have hem := isEmpty_bytes P.Bytes
      by_cases hp0 : P.Bytes.size = 0
      · have he1 : P.Bytes.toList.isEmpty = true := by rw [hem, decide_eq_true hp0]
        have he2 : P.Bytes.toList = [] := List.isEmpty_iff.1 he1
        have HOK : Hid (Pl.appOk g s = true) := by
          show _ = _
          unfold Pl.appOk
          rw [decide_eq_true hs20, HRT.out, decide_eq_true H60.out, HP.out, ← HRN.out, HNE.out.2 hp0]; simp
        have HOUT : Hid (Pl.appG g s = ⟨g.Pieces.set m (Pl.pieceOf pf (P.Bytes ++ Pl.rtext s)), bgn⟩) := by
          show _ = _
          unfold Pl.appG Pl.logOut
          rw [if_pos HOK.out, if_neg (by rw [HP.out, ← HRN.out]; exact fun h => h.1 (HNE.out.2 hp0)), HP.out, HPF.out, show g.Pieces.length - 1 = m by have := HN0.out; omega, ← HBG.out]
        obtain ⟨W5, rfl⟩ : ∃ W : World, W = W3 := ⟨_, rfl⟩
        have KS5 := KS3
        clear KS3 hem
        go_upto_region 10 with fail
        clear he1 he2 q2
        have d0 := KS5.out.cell (k := 0) 2 rfl rfl
        have hsz : (P.Bytes ++ Pl.rtext s).size ≤ 1000 := by rw [ByteArray.size_append, hrs]; omega
        have hadd : (P.Bytes.size : Int) + ((s.size : Int) + 1) ≤ 1000 := by omega
        have q0 := KS5.out.cell (k := 0) 0 rfl rfl
        have q1 := KS5.out.cell (k := 1) 0 rfl rfl
        refine Mm.wp_region_give 14 (fun i => match i with | 12 => some (gPcA (Pl.pieceOf pf (P.Bytes ++ Pl.rtext s))) | _ => none) (fun _ => []) (fun _ => []) (F := []) (D := fun w' => ∃ z : Und W5, w' = und W5 z) (fun X us h => Mm.sep_und h) (by kernel_rfl) (by kernel_rfl) (by kernel_rfl) (Mm.SepF.startDrew _) ?_
        repeat (refine Mm.give_det (by rfl) (by rfl) (by rfl) (fun K hK => ?_); go_big_quiet_op; refine hK _ ?_; clear hK K)
        refine Mm.give_op0 75 (by rfl) rfl (by rfl) (by rfl) (by rfl) (by rfl) gPcA_in (fun others X hX => ?_) ?_
        · go_wp2_with (go_at_call 149; refine (l6Piece_c pf _ hsz _).mono ?_; rintro e w7 ⟨A7, n7, c7, f7, rfl, -, hs7⟩)
          exact ⟨rfl, rfl, _, ⟨A7, n7, c7, f7, rfl, rfl⟩, (hX.join hs7).toOw (R := rPiece) (x := Pl.pieceOf pf (P.Bytes ++ Pl.rtext s)) (cs := [.int .i64 pf, .string (P.Bytes ++ Pl.rtext s), .slice A7 n7 c7]) (fun W hw => rPiece_own_mk (x := Pl.pieceOf pf (P.Bytes ++ Pl.rtext s)) (by show Mm.I64 pf; unfold Mm.I64; omega) (by show (P.Bytes ++ Pl.rtext s).size ≤ maxLen; unfold maxLen; omega) hw)⟩
        rintro v ds ⟨A7, n7, c7, f7, rfl, rfl⟩
        simp only [Act.put, List.setIfInBounds_toArray, List.set_cons_succ, List.set_cons_zero]
        repeat (refine Mm.give_det (by rfl) (by rfl) (by rfl) (fun K hK => ?_); go_big_quiet_op; refine hK _ ?_; clear hK K)
        refine Mm.give_nil ?_
        rintro X8 hX8
        have hx8 : Mm.SepF [] W5 X8 [Mm.tow rPiece (Pl.pieceOf pf (P.Bytes ++ Pl.rtext s)) [.int .i64 pf, .string (P.Bytes ++ Pl.rtext s), .slice A7 n7 c7] f7] := Mm.sep_eq hX8 rfl
        clear hX8
        have hb8 := hx8.bel0
        obtain ⟨_, _, _, v0, v1, v2⟩ := rPiece_ocell (KS5.out.sl 3 rfl) (KS5.out.ndat (i := 3) rfl) HLAST.out
        have p0 := below_some hb8 v0
        have p1 := below_some hb8 v1
        have p2 := below_some hb8 v2
        have fl0 := ((KS5.out.step hb8).sl 3 rfl).frozen (m * 3)
        have fl1 := ((KS5.out.step hb8).sl 3 rfl).frozen (m * 3 + 1)
        have fl2 := ((KS5.out.step hb8).sl 3 rfl).frozen (m * 3 + 2)
        obtain ⟨fp9, hs9⟩ := putPiece KS5.out 3 rfl HLAST.out hx8
        have HS9 := Lib.hid hs9
        clear hs9 hx8 hb8 d0 KS5 v0 v1 v2 q0 q1
        go_upto_region 11 with fail
        obtain ⟨W9, hW9⟩ : ∃ W, ((X8.setCell ⟨gl, m * 3, none⟩ (.int .i64 (Pl.pieceOf pf (P.Bytes ++ Pl.rtext s)).From)).setCell ⟨gl, m * 3 + 1, none⟩ (.string (Pl.pieceOf pf (P.Bytes ++ Pl.rtext s)).Bytes)).setCell ⟨gl, m * 3 + 2, none⟩ (.slice A7 n7 c7) = W := ⟨_, rfl⟩
        have KS9 := Lib.hid ((HS9.out.atW hW9).sel [1, 2, 3] (by decide) rfl)
        rw [hW9]
        clear hW9 HS9 p0 p1 p2 fl0 fl1 fl2
        have d0 := KS9.out.cell (k := 0) 1 rfl rfl
        have d1 := KS9.out.cell (k := 1) 1 rfl rfl
        have z0 := KS9.out.cell (k := 0) 0 rfl rfl
        have z1 := KS9.out.cell (k := 1) 0 rfl rfl
        have y0 := KS9.out.frz (k := 0) 0 rfl
        have y1 := KS9.out.frz (k := 1) 0 rfl
        have HSF := Lib.hid ((KS9.out.setBlk (k := 0) 0 rfl (.slice (some ⟨gl, 0, none⟩) (m + 1) c0)).setBlk (k := 1) 0 rfl (.int .i64 bgn))
        have u0 := HSF.out.cell (k := 0) 0 rfl rfl
        have u1 := HSF.out.cell (k := 1) 0 rfl rfl
        go_wp2
        exact bodyPost_ret (v := .tuple #[.agg #[.slice (some ⟨gl, 0, none⟩) (m + 1) c0, .int .i64 bgn], .bool true]) (by simp [results, Tryz.results105, go_sem, u0, u1]) rfl ⟨(some ⟨gl, 0, none⟩), (m + 1), c0, _, by rw [HOK.out, HBG.out], by rw [HOUT.out]; exact HSF.out.sel [2] (by decide) rfl⟩
      · have he1 : P.Bytes.toList.isEmpty = false := by rw [hem, decide_eq_false hp0]
        have he2 : ¬ P.Bytes.toList = [] := fun h => by rw [h] at he1; cases he1
        by_cases hd : P.Bytes.size + (s.size + 1) ≤ 60
        · have hd60 : decide ((60 : Int) < (P.Bytes.size : Int) + ((s.size : Int) + 1)) = false := decide_eq_false (by omega)
          have HOK : Hid (Pl.appOk g s = true) := by
            show _ = _
            unfold Pl.appOk
            rw [decide_eq_true hs20, HRT.out, decide_eq_true H60.out, HP.out, decide_eq_false (show ¬ 60 < P.Bytes.size + (s.size + 1) by omega)]; simp
          have HOUT : Hid (Pl.appG g s = ⟨g.Pieces.set m (Pl.pieceOf pf (P.Bytes ++ Pl.rtext s)), bgn⟩) := by
            show _ = _
            unfold Pl.appG Pl.logOut
            rw [if_pos HOK.out, if_neg (by rw [HP.out]; exact fun h => absurd h.2 (by omega)), HP.out, HPF.out, show g.Pieces.length - 1 = m by have := HN0.out; omega, ← HBG.out]
          obtain ⟨W5, rfl⟩ : ∃ W : World, W = W3 := ⟨_, rfl⟩
          have KS5 := KS3
          clear KS3 hem
          go_upto_region 10 with fail
          clear he1 he2 q2
          have d0 := KS5.out.cell (k := 0) 2 rfl rfl
          have hsz : (P.Bytes ++ Pl.rtext s).size ≤ 1000 := by rw [ByteArray.size_append, hrs]; omega
          have hadd : (P.Bytes.size : Int) + ((s.size : Int) + 1) ≤ 1000 := by omega
          have q0 := KS5.out.cell (k := 0) 0 rfl rfl
          have q1 := KS5.out.cell (k := 1) 0 rfl rfl
          refine Mm.wp_region_give 14 (fun i => match i with | 12 => some (gPcA (Pl.pieceOf pf (P.Bytes ++ Pl.rtext s))) | _ => none) (fun _ => []) (fun _ => []) (F := []) (D := fun w' => ∃ z : Und W5, w' = und W5 z) (fun X us h => Mm.sep_und h) (by kernel_rfl) (by kernel_rfl) (by kernel_rfl) (Mm.SepF.startDrew _) ?_
          repeat (refine Mm.give_det (by rfl) (by rfl) (by rfl) (fun K hK => ?_); go_big_quiet_op; refine hK _ ?_; clear hK K)
          refine Mm.give_op0 75 (by rfl) rfl (by rfl) (by rfl) (by rfl) (by rfl) gPcA_in (fun others X hX => ?_) ?_
          · go_wp2_with (go_at_call 149; refine (l6Piece_c pf _ hsz _).mono ?_; rintro e w7 ⟨A7, n7, c7, f7, rfl, -, hs7⟩)
            exact ⟨rfl, rfl, _, ⟨A7, n7, c7, f7, rfl, rfl⟩, (hX.join hs7).toOw (R := rPiece) (x := Pl.pieceOf pf (P.Bytes ++ Pl.rtext s)) (cs := [.int .i64 pf, .string (P.Bytes ++ Pl.rtext s), .slice A7 n7 c7]) (fun W hw => rPiece_own_mk (x := Pl.pieceOf pf (P.Bytes ++ Pl.rtext s)) (by show Mm.I64 pf; unfold Mm.I64; omega) (by show (P.Bytes ++ Pl.rtext s).size ≤ maxLen; unfold maxLen; omega) hw)⟩
          rintro v ds ⟨A7, n7, c7, f7, rfl, rfl⟩
          simp only [Act.put, List.setIfInBounds_toArray, List.set_cons_succ, List.set_cons_zero]
          repeat (refine Mm.give_det (by rfl) (by rfl) (by rfl) (fun K hK => ?_); go_big_quiet_op; refine hK _ ?_; clear hK K)
          refine Mm.give_nil ?_
          rintro X8 hX8
          have hx8 : Mm.SepF [] W5 X8 [Mm.tow rPiece (Pl.pieceOf pf (P.Bytes ++ Pl.rtext s)) [.int .i64 pf, .string (P.Bytes ++ Pl.rtext s), .slice A7 n7 c7] f7] := Mm.sep_eq hX8 rfl
          clear hX8
          have hb8 := hx8.bel0
          obtain ⟨_, _, _, v0, v1, v2⟩ := rPiece_ocell (KS5.out.sl 3 rfl) (KS5.out.ndat (i := 3) rfl) HLAST.out
          have p0 := below_some hb8 v0
          have p1 := below_some hb8 v1
          have p2 := below_some hb8 v2
          have fl0 := ((KS5.out.step hb8).sl 3 rfl).frozen (m * 3)
          have fl1 := ((KS5.out.step hb8).sl 3 rfl).frozen (m * 3 + 1)
          have fl2 := ((KS5.out.step hb8).sl 3 rfl).frozen (m * 3 + 2)
          obtain ⟨fp9, hs9⟩ := putPiece KS5.out 3 rfl HLAST.out hx8
          have HS9 := Lib.hid hs9
          clear hs9 hx8 hb8 d0 KS5 v0 v1 v2 q0 q1
          go_upto_region 11 with fail
          obtain ⟨W9, hW9⟩ : ∃ W, ((X8.setCell ⟨gl, m * 3, none⟩ (.int .i64 (Pl.pieceOf pf (P.Bytes ++ Pl.rtext s)).From)).setCell ⟨gl, m * 3 + 1, none⟩ (.string (Pl.pieceOf pf (P.Bytes ++ Pl.rtext s)).Bytes)).setCell ⟨gl, m * 3 + 2, none⟩ (.slice A7 n7 c7) = W := ⟨_, rfl⟩
          have KS9 := Lib.hid ((HS9.out.atW hW9).sel [1, 2, 3] (by decide) rfl)
          rw [hW9]
          clear hW9 HS9 p0 p1 p2 fl0 fl1 fl2
          have d0 := KS9.out.cell (k := 0) 1 rfl rfl
          have d1 := KS9.out.cell (k := 1) 1 rfl rfl
          have z0 := KS9.out.cell (k := 0) 0 rfl rfl
          have z1 := KS9.out.cell (k := 1) 0 rfl rfl
          have y0 := KS9.out.frz (k := 0) 0 rfl
          have y1 := KS9.out.frz (k := 1) 0 rfl
          have HSF := Lib.hid ((KS9.out.setBlk (k := 0) 0 rfl (.slice (some ⟨gl, 0, none⟩) (m + 1) c0)).setBlk (k := 1) 0 rfl (.int .i64 bgn))
          have u0 := HSF.out.cell (k := 0) 0 rfl rfl
          have u1 := HSF.out.cell (k := 1) 0 rfl rfl
          go_wp2
          exact bodyPost_ret (v := .tuple #[.agg #[.slice (some ⟨gl, 0, none⟩) (m + 1) c0, .int .i64 bgn], .bool true]) (by simp [results, Tryz.results105, go_sem, u0, u1]) rfl ⟨(some ⟨gl, 0, none⟩), (m + 1), c0, _, by rw [HOK.out, HBG.out], by rw [HOUT.out]; exact HSF.out.sel [2] (by decide) rfl⟩
        · have hd60 : decide ((60 : Int) < (P.Bytes.size : Int) + ((s.size : Int) + 1)) = true := decide_eq_true (by omega)
          have d0 := KS3.out.cell (k := 0) 2 rfl rfl
          by_cases h20 : m = 19
          · have h20' : (((m + 1 : Nat) : Int) == 20) = true := by simp [h20]
            have HOK : Hid (Pl.appOk g s = false) := by
              show _ = _
              unfold Pl.appOk
              rw [HP.out, ← HRN.out, decide_eq_true (show rn ≠ 0 from fun e => hp0 (HNE.out.1 e)), decide_eq_true (show 60 < P.Bytes.size + (s.size + 1) by omega), decide_eq_true (show g.Pieces.length = 20 by have := HN0.out; omega)]; simp
            have HOUT : Hid (Pl.appG g s = g) := if_neg (by rw [HOK.out]; simp)
            clear hem h20
            go_upto_region 7 with fail
            have KS9 := Lib.hid (KS3.out.tail)
            clear q0 q1 q2 d0
            have d0 := KS9.out.cell (k := 0) 1 rfl rfl
            have d1 := KS9.out.cell (k := 1) 1 rfl rfl
            have z0 := KS9.out.cell (k := 0) 0 rfl rfl
            have z1 := KS9.out.cell (k := 1) 0 rfl rfl
            have y0 := KS9.out.frz (k := 0) 0 rfl
            have y1 := KS9.out.frz (k := 1) 0 rfl
            have HSF := Lib.hid ((KS9.out.setBlk (k := 0) 0 rfl (.slice (some ⟨gl, 0, none⟩) (m + 1) c0)).setBlk (k := 1) 0 rfl (.int .i64 bgn))
            have u0 := HSF.out.cell (k := 0) 0 rfl rfl
            have u1 := HSF.out.cell (k := 1) 0 rfl rfl
            go_wp2
            exact bodyPost_ret (v := .tuple #[.agg #[.slice (some ⟨gl, 0, none⟩) (m + 1) c0, .int .i64 bgn], .bool false]) (by simp [results, Tryz.results105, go_sem, u0, u1]) rfl ⟨(some ⟨gl, 0, none⟩), (m + 1), c0, _, by rw [HOK.out, HBG.out], by rw [HOUT.out]; exact HSF.out.sel [2] (by decide) rfl⟩
          · have h20' : (((m + 1 : Nat) : Int) == 20) = false := by rw [beq_eq_false_iff_ne]; omega
            have HOK : Hid (Pl.appOk g s = true) := by
              show _ = _
              unfold Pl.appOk
              rw [decide_eq_true hs20, HRT.out, decide_eq_true H60.out, decide_eq_false (show ¬ g.Pieces.length = 20 by have := HN0.out; omega)]; simp
            have HOUT : Hid (Pl.appG g s = ⟨g.Pieces ++ [Pl.pieceOf (f0 + (rt : Int)) (Pl.rtext s)], bgn⟩) := by
              show _ = _
              unfold Pl.appG Pl.logOut
              rw [if_pos HOK.out, if_pos (by rw [HP.out, ← HRN.out]; exact ⟨fun e => hp0 (HNE.out.1 e), by omega⟩), HP.out, HPF.out, ← HRN.out, hpfb, ← HBG.out]
            clear hem h20
            go_upto_region 8 with fail
            obtain ⟨W5, rfl⟩ : ∃ W : World, W = W3 := ⟨_, rfl⟩
            have KS5 := KS3
            have d1 := KS5.out.cell (k := 1) 2 rfl rfl
            have nG : gb ∉ fp := fun hh => KS5.out.apart (i := 2) (j := 3) rfl rfl (by decide) gb (by simp [Mm.tblk]) hh
            have hPl : g.Pieces.length = m + 1 := HN0.out.symm
            have HPL := Lib.hid hPl
            clear KS3 hPl he1 he2 hd hd60 h20' q0 q1 q2
            obtain ⟨Y, hY⟩ : ∃ Y, Pl.pieceOf (f0 + (rt : Int)) (Pl.rtext s) = Y := ⟨_, rfl⟩
            have hY0 : Y.From = f0 + (rt : Int) := by rw [← hY]; rfl
            have hY1 : Y.Bytes = Pl.rtext s := by rw [← hY]; rfl
            have HY := Lib.hid (And.intro hY (And.intro hY0 hY1))
            rw [hY] at HOUT
            clear hY hY0 hY1
            obtain ⟨iR, qR, qR0, qR1, qR2⟩ := info_parts Tryz.infoPcJ
            refine Mm.wp_region_give 9 (fun i => match i with | 3 => some (gPass (.int .i64 (f0 + (rt : Int)))) | 5 => some (gPcP Y) | 6 => some gPcQ | 7 => some (Mm.gSl rPiece 164 (g.Pieces ++ [Y])) | _ => none) (fun i => match i with | 3 => [10] | 5 => [3] | 6 => [5] | 7 => [6] | _ => []) (fun i => match i with | 10 => [Mm.tsl rPiece 164 g.Pieces (.slice (some ⟨gl, 0, none⟩) (m + 1) c0) fp] | _ => []) (F := fp) (D := fun w' => ∃ z : Cha fp W5, w' = cha fp W5 z) (fun X us h => Mm.sep_cha h) (by kernel_rfl) (by kernel_rfl) (by kernel_rfl) (Mm.sep_eq ((Mm.SepF.one (Mm.tsl rPiece 164 g.Pieces (.slice (some ⟨gl, 0, none⟩) (m + 1) c0) fp) W5 (KS5.out.sl 3 rfl) (KS5.out.ndat (i := 3) rfl)).step (Below.refl _ _).drew) rfl) ?_
            repeat (refine Mm.give_det (by rfl) (by rfl) (by rfl) (fun K hK => ?_); go_big_quiet_op; refine hK _ ?_; clear hK K)
            refine Mm.give_op1 56 10 (by rfl) rfl (by rfl) (by rfl) (by rfl) rfl (by rfl) _ rfl ⟨_, _, rfl, rfl⟩ (fun others X hX => ?_) ?_
            · have CE := l6End_c g [.slice (some ⟨gl, 0, none⟩) (m + 1) c0, .int .i64 bgn] X X.heap.size (rLog_at_mk (x := g) (hX.rdSl 0 rfl) HB0.out |> fun h => by rw [HBG.out]; exact h) (Nat.le_refl _) HG.out
              rw [HEND.out] at CE
              go_wp2_with (go_at_call 147; refine CE.mono ?_; rintro e w7 ⟨rfl, hb7⟩)
              exact ⟨rfl, rfl, _, ⟨rfl, rfl⟩, hX.step hb7⟩
            rintro v ds ⟨rfl, rfl⟩
            simp only [Act.put, List.setIfInBounds_toArray, List.set_cons_succ, List.set_cons_zero]
            repeat (refine Mm.give_det (by rfl) (by rfl) (by rfl) (fun K hK => ?_); go_big_quiet_op; refine hK _ ?_; clear hK K)
            refine Mm.give_op1 58 3 (by rfl) rfl (by rfl) (by rfl) (by rfl) rfl (by rfl) _ rfl gPcP_in (fun others X hX => ?_) ?_
            · go_wp2_with (go_at_call 149; refine (l6Piece_c (f0 + (rt : Int)) (Pl.rtext s) (by omega) _).mono ?_; rintro e w7 ⟨A7, n7, c7, f7, rfl, -, hs7⟩)
              refine ⟨rfl, rfl, _, ⟨A7, n7, c7, f7, ?_, rfl⟩, (hX.join hs7).toOw (R := rPiece) (x := Y) (cs := [.int .i64 Y.From, .string Y.Bytes, .slice A7 n7 c7]) (fun W hw => rPiece_own_mk (by rw [HY.out.2.1]; unfold Mm.I64; omega) (by rw [HY.out.2.2]; unfold maxLen; omega) (by rw [← HY.out.1]; exact hw))⟩
              rw [HY.out.2.1, HY.out.2.2]; rfl
            rintro v ds ⟨A7, n7, c7, f7, rfl, rfl⟩
            simp only [Act.put, List.setIfInBounds_toArray, List.set_cons_succ, List.set_cons_zero]
            repeat (refine Mm.give_det (by rfl) (by rfl) (by rfl) (fun K hK => ?_); go_big_quiet_op; refine hK _ ?_; clear hK K)
            refine Mm.give_op1 59 5 (by rfl) rfl (by rfl) (by rfl) (by rfl) rfl (by rfl) _ rfl gPcQ_in (fun others X hX => ?_) ?_
            · go_wp2
              exact ⟨rfl, rfl, _, ⟨_, rfl, rfl⟩, hX.alloc' rfl 164 [.int .i64 Y.From, .string Y.Bytes, .slice A7 n7 c7]⟩
            rintro v ds ⟨ge, rfl, rfl⟩
            simp only [Act.put, List.setIfInBounds_toArray, List.set_cons_succ, List.set_cons_zero]
            repeat (refine Mm.give_det (by rfl) (by rfl) (by rfl) (fun K hK => ?_); go_big_quiet_op; refine hK _ ?_; clear hK K)
            refine Mm.give_op1 60 6 (by rfl) rfl (by rfl) (by rfl) (by rfl) rfl (by rfl) _ rfl Mm.gSl_in (fun others X6 hX6 => Mm.app_gve rfl (.tmp 54) (.tmp 59) 78 rfl 60 rfl (by rfl) iR _ 48 Tryz.underlying78 qR qR0 qR1 qR2 rfl (by decide) rfl rfl HPL.out (by unfold maxLen; omega) (by omega) hX6) ?_
            rintro v ds ⟨Ad, nd, cap, fp9, rfl, rfl, hnd⟩
            simp only [Act.put, List.setIfInBounds_toArray, List.set_cons_succ, List.set_cons_zero]
            repeat (refine Mm.give_det (by rfl) (by rfl) (by rfl) (fun K hK => ?_); go_big_quiet_op; refine hK _ ?_; clear hK K)
            refine Mm.give_nil ?_
            rintro X7 hX7
            have hx7 : Mm.SepF fp W5 X7 [Mm.tsl rPiece 164 (g.Pieces ++ [Y]) (.slice Ad nd cap) fp9] := Mm.sep_eq hX7 rfl
            obtain rfl : nd = m + 2 := by have h1 := hnd.out; rw [List.length_append, HPL.out] at h1; simpa using h1
            have HS7 := Lib.hid ((KS5.out.sel [3, 1, 2] (by decide) rfl).callSome (us := [Mm.tsl rPiece 164 g.Pieces (.slice (some ⟨gl, 0, none⟩) (m + 1) c0) fp]) (rest := _) (by simpa [Mm.tsl] using hx7))
            clear hX7 hnd hx7 d0 d1 KS5 nG
            have d0 := HS7.out.cell (k := 0) 2 rfl rfl
            have y0 := HS7.out.frz (k := 0) 2 rfl
            go_upto_region 9 with fail
            obtain ⟨W9, hW9⟩ : ∃ W, X7.setCell ⟨gb, 0, none⟩ (.slice Ad (m + 2) cap) = W := ⟨_, rfl⟩
            have KS9 := Lib.hid (((HS7.out.setBlk (k := 0) 2 rfl (.slice Ad (m + 2) cap)).atW hW9).sel [1, 2, 0] (by decide) rfl)
            rw [hW9]
            clear hW9 HS7 d0 y0
            have d0 := KS9.out.cell (k := 0) 1 rfl rfl
            have d1 := KS9.out.cell (k := 1) 1 rfl rfl
            have z0 := KS9.out.cell (k := 0) 0 rfl rfl
            have z1 := KS9.out.cell (k := 1) 0 rfl rfl
            have y0 := KS9.out.frz (k := 0) 0 rfl
            have y1 := KS9.out.frz (k := 1) 0 rfl
            have HSF := Lib.hid ((KS9.out.setBlk (k := 0) 0 rfl (.slice Ad (m + 2) cap)).setBlk (k := 1) 0 rfl (.int .i64 bgn))
            have u0 := HSF.out.cell (k := 0) 0 rfl rfl
            have u1 := HSF.out.cell (k := 1) 0 rfl rfl
            go_wp2
            exact bodyPost_ret (v := .tuple #[.agg #[.slice Ad (m + 2) cap, .int .i64 bgn], .bool true]) (by simp [results, Tryz.results105, go_sem, u0, u1]) rfl ⟨Ad, (m + 2), cap, _, by rw [HOK.out, HBG.out], by rw [HOUT.out]; exact HSF.out.sel [2] (by decide) rfl⟩
  · have hs20d : decide ((20 : Int) < (s.size : Nat)) = true := decide_eq_true (by omega)
    have hs20' : (20 : Int) < (s.size : Nat) := by omega
    have HOK : Hid (Pl.appOk g s = false) := by
      show _ = _
      unfold Pl.appOk
      rw [decide_eq_false hs20]; simp
    have HOUT : Hid (Pl.appG g s = g) := if_neg (by rw [HOK.out]; simp)
    refine wp_region_und (by kernel_rfl) (by kernel_rfl) ?_
    repeat (go_big_quiet_step ((first | fail)))
    refine wpQuiet_nil ?_
    intro X hX
    have KS1 := Lib.hid (KS0.out.step hX)
    clear hX KS0 d0 d1
    have d0 := KS1.out.cell (k := 0) 1 rfl rfl
    have d1 := KS1.out.cell (k := 1) 1 rfl rfl
    have z0 := KS1.out.cell (k := 0) 0 rfl rfl
    have z1 := KS1.out.cell (k := 1) 0 rfl rfl
    have y0 := KS1.out.frz (k := 0) 0 rfl
    have y1 := KS1.out.frz (k := 1) 0 rfl
    have HSF := Lib.hid ((KS1.out.setBlk (k := 0) 0 rfl (.slice (some ⟨gl, 0, none⟩) (m + 1) c0)).setBlk (k := 1) 0 rfl (.int .i64 bgn))
    have u0 := HSF.out.cell (k := 0) 0 rfl rfl
    have u1 := HSF.out.cell (k := 1) 0 rfl rfl
    go_wp2
    exact bodyPost_ret (v := .tuple #[.agg #[.slice (some ⟨gl, 0, none⟩) (m + 1) c0, .int .i64 bgn], .bool false]) (by simp [results, Tryz.results105, go_sem, u0, u1]) rfl ⟨(some ⟨gl, 0, none⟩), (m + 1), c0, _, by rw [HOK.out, HBG.out], by rw [HOUT.out]; exact HSF.out.sel [2] (by decide) rfl⟩
end Go.Proofs.YtbhmdnjammnlnaaGreatDoor

namespace Go.Proofs.YtbhmdnjammnlnaaGreatDoor
open Go.RowKit
attribute [local go_sem] und_cell cha_cell World.cell?_alloc_some
theorem Mm.SepF.logPieces {F : List Nat} {w0 wr : World} {ts : List Mm.Thing} {xs : List Log} {g n c k : Nat} {x : Log} {fp : List Nat} (h : Mm.SepF F w0 wr ts) (i : Nat) (hi : ts[i]? = some (Mm.tsl rLog 80 xs (.slice (some ⟨g, 0, none⟩) n c) fp)) (hk : xs[k]? = some x) :
    ∃ A m d fx, wr.cell? ⟨g, k * 2, none⟩ = some (.slice A m d) ∧ wr.cell? ⟨g, k * 2 + 1, none⟩ = some (.int .i64 x.Begin) ∧ Mm.SlOwn rPiece 164 wr x.Pieces (.slice A m d) fx ∧ fx.Nodup ∧ (∀ b, b ∈ fx → b ∈ fp ∧ b ≠ g) ∧ Mm.I64 x.Begin ∧
      (∀ W l A' m' d' fx', Mm.SepF fx wr W [Mm.tsl rPiece 164 l (.slice A' m' d') fx'] →
        ∃ fp', Mm.SepF F w0 ((W.setCell ⟨g, k * 2, none⟩ (.slice A' m' d')).setCell ⟨g, k * 2 + 1, none⟩ (.int .i64 x.Begin)) (ts.set i (Mm.tsl rLog 80 (xs.set k ⟨l, x.Begin⟩) (.slice (some ⟨g, 0, none⟩) n c) fp'))) := by
  obtain ⟨cs, fx, hown, hfn, hfs, hc, hnext⟩ := h.swap i hi hk
  obtain ⟨A, m, d, f, rfl, rfl, h0, h1⟩ := rLog_own hown
  refine ⟨A, m, d, fx, hc 0 _ rfl, hc 1 _ rfl, h0, hfn, hfs, h1, fun W l A' m' d' fx' hS => ?_⟩
  obtain ⟨fp1, hs1⟩ := hnext W ⟨l, x.Begin⟩ 0 (.slice A' m' d') fx' hS.chg (by decide) (rLog_own_mk (x := ⟨l, x.Begin⟩) (hS.sl 0 rfl) h1) (hS.ndat (i := 0) rfl) (fun b hb => hS.new b (Mm.SepF.mem (i := 0) rfl hb))
  have hlt := (List.getElem?_eq_some_iff.1 hk).1
  have hil := (List.getElem?_eq_some_iff.1 hi).1
  have hs2 := hs1.putSl (k := k) (m := 1) (u := .int .i64 x.Begin) (x := ⟨l, x.Begin⟩) (x' := ⟨l, x.Begin⟩) i (List.getElem?_set_self hil) (List.getElem?_set_self hlt) (by decide) (fun cs fx ho => by
    obtain ⟨A9, n9, c9, f9, rfl, rfl, r0, r1⟩ := rLog_own ho
    exact rLog_own_mk (x := ⟨l, x.Begin⟩) r0 h1)
  rw [show k * rLog.size + 1 = k * 2 + 1 from rfl] at hs2
  rw [List.set_set, List.set_set] at hs2
  exact ⟨_, hs2⟩
def gL6 (g : Log) (s : ByteArray) : Mm.Rel := fun _ _ v ds => ∃ A n c f, v = .tuple #[.agg #[.slice A n c, .int .i64 g.Begin], .bool (Pl.appOk g s)] ∧ ds = [Mm.tsl rPiece 164 (Pl.appG g s).Pieces (.slice A n c) f]
theorem gL6_in {g : Log} {s : ByteArray} {vals : List Value} {tk : List Mm.Thing} : ∃ v ds, gL6 g s vals tk v ds := ⟨_, _, none, 0, 0, [], rfl, rfl⟩
theorem Pl.appG_eta (g : Log) (s : ByteArray) : (⟨(Pl.appG g s).Pieces, g.Begin⟩ : Log) = Pl.appG g s := by
  unfold Pl.appG
  split
  · rw [← Pl.logOut_bg g s]
  · rfl
theorem Pl.set_same {α : Type} {l : List α} {k : Nat} {x : α} (h : l[k]? = some x) : l.set k x = l := by
  apply List.ext_getElem?
  intro i
  by_cases hi : k = i
  · subst hi; rw [List.getElem?_set_self (List.getElem?_eq_some_iff.1 h).1, h]
  · rw [List.getElem?_set_ne hi]
theorem Mm.SepF.rot {F : List Nat} {w0 w : World} {xs ys r : List Mm.Thing} (h : Mm.SepF F w0 w (xs ++ (ys ++ r))) : Mm.SepF F w0 w (ys ++ (xs ++ r)) :=
  have hp : (ys ++ (xs ++ r)).Perm (xs ++ (ys ++ r)) := by
    rw [← List.append_assoc, ← List.append_assoc]
    exact List.perm_append_comm.append_right r
  h.conv (hp.flatMap_right _) fun u hu => h.hold u (hp.mem_iff.1 hu)
set_option maxRecDepth 100000 in
set_option maxHeartbeats 8000000 in
theorem l17Step_c (h : House) (s : HouseStep) (rest : List Mm.Thing) (H : Pl.HouseOk h) (hi : StepI s) (cs : List Value) (w0 w : World) (hs : HoVal w0 w h cs rest) :
    Calls Tryz.prog 53 #[.agg cs.toArray, .agg #[.int .i64 s.Kind, .int .i64 s.Part, .string s.What.Name, .int .i64 s.What.At, .int .i64 s.What.Value]] w fun e w' => e = .returned (.tuple #[.agg cs.toArray, .bool (Pl.stepS h s).2]) ∧ HoVal w0 w' (Pl.stepS h s).1 cs rest := by
  obtain ⟨n, AL, cL, fL, AH, cH, fH, AK, cK, fK, rfl, hS⟩ := hs
  have HNN : Hid (h.Logs.length = n) := (hS.sl 0 rfl).nlen
  have hn1 : 1 ≤ n ∧ n ≤ 3 := by have h1 := H.n1; have h2 := H.n3; have h3 := HNN.out; omega
  obtain ⟨hn1, hn3⟩ := hn1
  obtain ⟨gL, rfl, -, -⟩ := Mm.sl_addr (hS.sl 0 rfl) (by have := HNN.out; omega)
  obtain ⟨gH, rfl, -, -⟩ := Mm.sl_addr (hS.sl 1 rfl) (by have := HNN.out; have := H.hdn; omega)
  obtain ⟨gK, rfl, -, -⟩ := Mm.sl_addr (hS.sl 2 rfl) (by have := HNN.out; have := H.kpn; omega)
  obtain ⟨kd, pt, x⟩ := s
  obtain ⟨ik, ip, inm, iat, ivl⟩ := hi
  dsimp only at ik ip inm iat ivl ⊢
  have HK := Lib.hid H
  have HIK := Lib.hid (And.intro ik ip)
  obtain ⟨gb, hgb⟩ : ∃ g, w.heap.size = g := ⟨_, rfl⟩
  obtain ⟨ga, hga⟩ : ∃ g, gb + 1 = g := ⟨_, rfl⟩
  obtain ⟨gz, hgz⟩ : ∃ g, ga + 1 = g := ⟨_, rfl⟩
  obtain ⟨W1, hW1⟩ : ∃ W, ((w.alloc (.cells #[.slice (some ⟨gL, 0, none⟩) n cL, .slice (some ⟨gH, 0, none⟩) n cH, .slice (some ⟨gK, 0, none⟩) n cK] 27)).alloc (.cells #[.int .i64 kd, .int .i64 pt, .string x.Name, .int .i64 x.At, .int .i64 x.Value] 57)).alloc (.cells #[.slice none 0 0, .slice none 0 0, .slice none 0 0] 27) = W := ⟨_, rfl⟩
  have HS1 := Lib.hid ((((hS.alloc' hgb 27 [.slice (some ⟨gL, 0, none⟩) n cL, .slice (some ⟨gH, 0, none⟩) n cH, .slice (some ⟨gK, 0, none⟩) n cK]).alloc' (g := ga) (by rw [Mm.sz1, hgb, hga]) 57 [.int .i64 kd, .int .i64 pt, .string x.Name, .int .i64 x.At, .int .i64 x.Value]).alloc' (g := gz) (by rw [Mm.sz1, Mm.sz1, hgb, hga, hgz]) 27 [.slice none 0 0, .slice none 0 0, .slice none 0 0]).atW hW1)
  clear hS H ik ip
  go_enter Tryz.func53, Tryz.ntmps53
  go_upto_region 1 with fail
  clear hW1 hgb hga hgz
  have d0 := HS1.out.cell (k := 0) 1 rfl rfl
  have d1 := HS1.out.cell (k := 1) 1 rfl rfl
  have d2 := HS1.out.cell (k := 2) 1 rfl rfl
  have d3 := HS1.out.cell (k := 3) 1 rfl rfl
  have d4 := HS1.out.cell (k := 4) 1 rfl rfl
  have p0 := HS1.out.cell (k := 0) 2 rfl rfl
  by_cases hpt : pt < 0
  · have hpd : decide (pt < 0) = true := decide_eq_true hpt
    have HF : Hid (Pl.stepS h ⟨kd, pt, x⟩ = (h, false)) := by
      show _ = _
      unfold Pl.stepS
      rw [if_neg (fun hh => by dsimp only at hh; omega)]
    go_upto_region 3 with fail
    have p0 := HS1.out.cell (k := 0) 2 rfl rfl
    have p1 := HS1.out.cell (k := 1) 2 rfl rfl
    have p2 := HS1.out.cell (k := 2) 2 rfl rfl
    obtain ⟨WR, hWR⟩ : ∃ V, ((W1.setCell ⟨gz, 0, none⟩ (.slice (some ⟨gL, 0, none⟩) n cL)).setCell ⟨gz, 1, none⟩ (.slice (some ⟨gH, 0, none⟩) n cH)).setCell ⟨gz, 2, none⟩ (.slice (some ⟨gK, 0, none⟩) n cK) = V := ⟨_, rfl⟩
    have HSF := Lib.hid ((((HS1.out.setBlk (k := 0) 0 rfl (.slice (some ⟨gL, 0, none⟩) n cL)).setBlk (k := 1) 0 rfl (.slice (some ⟨gH, 0, none⟩) n cH)).setBlk (k := 2) 0 rfl (.slice (some ⟨gK, 0, none⟩) n cK)).atW hWR)
    have u0 := HSF.out.cell (k := 0) 0 rfl rfl
    have u1 := HSF.out.cell (k := 1) 0 rfl rfl
    have u2 := HSF.out.cell (k := 2) 0 rfl rfl
    have z0 := HS1.out.cell (k := 0) 0 rfl rfl
    have z1 := HS1.out.cell (k := 1) 0 rfl rfl
    have z2 := HS1.out.cell (k := 2) 0 rfl rfl
    have y0 := HS1.out.frz (k := 0) 0 rfl
    have y1 := HS1.out.frz (k := 1) 0 rfl
    have y2 := HS1.out.frz (k := 2) 0 rfl
    go_wp2
    rw [HF.out]
    exact bodyPost_ret (v := .tuple #[.agg #[.slice (some ⟨gL, 0, none⟩) n cL, .slice (some ⟨gH, 0, none⟩) n cH, .slice (some ⟨gK, 0, none⟩) n cK], .bool false]) (by simp [results, Tryz.results53, go_sem, u0, u1, u2]) rfl ⟨rfl, n, _, cL, _, _, cH, _, _, cK, _, rfl, HSF.out.tail.tail.tail⟩
  · have hpd : decide (pt < 0) = false := decide_eq_false hpt
    by_cases hpn : (n : Int) ≤ pt
    · have hpd2 : decide ((n : Int) ≤ pt) = true := decide_eq_true hpn
      have HF : Hid (Pl.stepS h ⟨kd, pt, x⟩ = (h, false)) := by
        show _ = _
        unfold Pl.stepS
        rw [if_neg (fun hh => by dsimp only at hh; have := HNN.out; omega)]
      go_upto_region 3 with fail
      have p0 := HS1.out.cell (k := 0) 2 rfl rfl
      have p1 := HS1.out.cell (k := 1) 2 rfl rfl
      have p2 := HS1.out.cell (k := 2) 2 rfl rfl
      obtain ⟨WR, hWR⟩ : ∃ V, ((W1.setCell ⟨gz, 0, none⟩ (.slice (some ⟨gL, 0, none⟩) n cL)).setCell ⟨gz, 1, none⟩ (.slice (some ⟨gH, 0, none⟩) n cH)).setCell ⟨gz, 2, none⟩ (.slice (some ⟨gK, 0, none⟩) n cK) = V := ⟨_, rfl⟩
      have HSF := Lib.hid ((((HS1.out.setBlk (k := 0) 0 rfl (.slice (some ⟨gL, 0, none⟩) n cL)).setBlk (k := 1) 0 rfl (.slice (some ⟨gH, 0, none⟩) n cH)).setBlk (k := 2) 0 rfl (.slice (some ⟨gK, 0, none⟩) n cK)).atW hWR)
      have u0 := HSF.out.cell (k := 0) 0 rfl rfl
      have u1 := HSF.out.cell (k := 1) 0 rfl rfl
      have u2 := HSF.out.cell (k := 2) 0 rfl rfl
      have z0 := HS1.out.cell (k := 0) 0 rfl rfl
      have z1 := HS1.out.cell (k := 1) 0 rfl rfl
      have z2 := HS1.out.cell (k := 2) 0 rfl rfl
      have y0 := HS1.out.frz (k := 0) 0 rfl
      have y1 := HS1.out.frz (k := 1) 0 rfl
      have y2 := HS1.out.frz (k := 2) 0 rfl
      go_wp2
      rw [HF.out]
      exact bodyPost_ret (v := .tuple #[.agg #[.slice (some ⟨gL, 0, none⟩) n cL, .slice (some ⟨gH, 0, none⟩) n cH, .slice (some ⟨gK, 0, none⟩) n cK], .bool false]) (by simp [results, Tryz.results53, go_sem, u0, u1, u2]) rfl ⟨rfl, n, _, cL, _, _, cH, _, _, cK, _, rfl, HSF.out.tail.tail.tail⟩
    · have hpd2 : decide ((n : Int) ≤ pt) = false := decide_eq_false hpn
      obtain ⟨k, rfl⟩ : ∃ k : Nat, pt = k := ⟨pt.toNat, by omega⟩
      have hkn : k < n := by omega
      have HPT : Hid (0 ≤ ((k : Nat) : Int) ∧ ((k : Nat) : Int) < h.Logs.length) := by have := HNN.out; constructor <;> omega
      obtain ⟨g, a, b, l, hat⟩ := HK.out.at_ (k := k) (by have := HNN.out; omega)
      have HAT := Lib.hid hat
      have fk0 : (0 : Int) ≤ (k : Nat) := by omega
      have fkt : ((k : Nat) : Int).toNat = k := by omega
      have fkn : (k : Int) < (n : Nat) := by omega
      clear hat hpt hpn
      by_cases hk1 : kd = 1
      · subst hk1
        have hnn1 : (1 : Int) ≤ (n : Nat) := by omega
        have CS := fun z : Und W1 => und_call z (l13Say_c x (und W1 z) inm)
        obtain ⟨so, hso⟩ : ∃ b, Pl.sayOk x = b := ⟨_, rfl⟩
        rw [hso] at CS
        have HSO := Lib.hid hso
        clear hso
        have CH := fun z : Und W1 => und_same z (l3Hash_c x.Name (und W1 z) inm)
        have hh := Pl.hash_bd x.Name.data.toList
        have HPN : Hid (Pl.partN (n : Int) x.Name = Pl.hash x.Name.data.toList % (n : Int)) := rfl
        obtain ⟨hv, hhv⟩ : ∃ v, Pl.hash x.Name.data.toList = v := ⟨_, rfl⟩
        rw [hhv] at CH hh HPN
        obtain ⟨hh1, hh2⟩ := hh
        have htm : hv.tmod (n : Int) = hv % (n : Int) := Int.tmod_eq_emod_of_nonneg hh1
        obtain ⟨pv, hpv⟩ : ∃ v, hv % (n : Int) = v := ⟨_, rfl⟩
        rw [hpv] at htm HPN
        have hn0 : ¬ ((n : Nat) : Int) = 0 := by omega
        clear hhv hpv
        go_upto_region 5 with fail
        cases so with
        | false =>
          have HF : Hid (Pl.stepS h ⟨1, k, x⟩ = (h, false)) := by
            show _ = _
            unfold Pl.stepS
            rw [if_pos HPT.out, if_pos rfl, if_neg (fun hh => by have := HSO.out.symm.trans hh.1; cases this)]
          refine wp_region_und (by kernel_rfl) (by kernel_rfl) ?_
          repeat (go_big_quiet_step ((first | (first | (go_at_call 104; with_reducible exact CS _) | (go_at_call 83; with_reducible exact CH _)))))
          refine wpQuiet_nil ?_
          intro X hX
          replace HS1 := Lib.hid (HS1.out.step hX)
          clear hX d0 d1 d2 d3 d4 p0 CS CH
          go_upto_region 6 with fail
          have p0 := HS1.out.cell (k := 0) 2 rfl rfl
          have p1 := HS1.out.cell (k := 1) 2 rfl rfl
          have p2 := HS1.out.cell (k := 2) 2 rfl rfl
          obtain ⟨WR, hWR⟩ : ∃ V, ((X.setCell ⟨gz, 0, none⟩ (.slice (some ⟨gL, 0, none⟩) n cL)).setCell ⟨gz, 1, none⟩ (.slice (some ⟨gH, 0, none⟩) n cH)).setCell ⟨gz, 2, none⟩ (.slice (some ⟨gK, 0, none⟩) n cK) = V := ⟨_, rfl⟩
          have HSF := Lib.hid ((((HS1.out.setBlk (k := 0) 0 rfl (.slice (some ⟨gL, 0, none⟩) n cL)).setBlk (k := 1) 0 rfl (.slice (some ⟨gH, 0, none⟩) n cH)).setBlk (k := 2) 0 rfl (.slice (some ⟨gK, 0, none⟩) n cK)).atW hWR)
          have u0 := HSF.out.cell (k := 0) 0 rfl rfl
          have u1 := HSF.out.cell (k := 1) 0 rfl rfl
          have u2 := HSF.out.cell (k := 2) 0 rfl rfl
          have z0 := HS1.out.cell (k := 0) 0 rfl rfl
          have z1 := HS1.out.cell (k := 1) 0 rfl rfl
          have z2 := HS1.out.cell (k := 2) 0 rfl rfl
          have y0 := HS1.out.frz (k := 0) 0 rfl
          have y1 := HS1.out.frz (k := 1) 0 rfl
          have y2 := HS1.out.frz (k := 2) 0 rfl
          go_wp2
          rw [HF.out]
          exact bodyPost_ret (v := .tuple #[.agg #[.slice (some ⟨gL, 0, none⟩) n cL, .slice (some ⟨gH, 0, none⟩) n cH, .slice (some ⟨gK, 0, none⟩) n cK], .bool false]) (by simp [results, Tryz.results53, go_sem, u0, u1, u2]) rfl ⟨rfl, n, _, cL, _, _, cH, _, _, cK, _, rfl, HSF.out.tail.tail.tail⟩
        | true =>
          by_cases hpk : pv = k
          · have hpk' : (pv != (k : Int)) = false := by simp [hpk]
            have HPK : Hid (Pl.partN h.Logs.length x.Name = k) := by show _ = _; rw [HNN.out]; exact HPN.out.trans hpk
            clear hpk
            refine wp_region_und (by kernel_rfl) (by kernel_rfl) ?_
            repeat (go_big_quiet_step ((first | (first | (go_at_call 104; with_reducible exact CS _) | (go_at_call 83; with_reducible exact CH _)))))
            refine wpQuiet_nil ?_
            intro X hX
            replace HS1 := Lib.hid (HS1.out.step hX)
            clear hX d0 d1 d2 d3 d4 p0 CS CH
            obtain ⟨W2, rfl⟩ : ∃ W : World, W = X := ⟨_, rfl⟩
            go_upto_region 7 with fail
            have d2 := HS1.out.cell (k := 2) 1 rfl rfl
            have d3 := HS1.out.cell (k := 3) 1 rfl rfl
            have d4 := HS1.out.cell (k := 4) 1 rfl rfl
            have p0 := HS1.out.cell (k := 0) 2 rfl rfl
            obtain ⟨Ap, mp, dp, fx, e0, e1, hso, hfn, hfs, hbi, hmain⟩ := HS1.out.logPieces 3 rfl HAT.out.lg
            have HMAIN := Lib.hid hmain
            have HSO9 := Lib.hid (And.intro hso hfn)
            have HBI := Lib.hid hbi
            have nA : ga ∉ fx := fun hh => HS1.out.apart (i := 1) (j := 3) rfl rfl (by decide) ga (by simp [Mm.tblk]) (hfs _ hh).1
            have nB : gb ∉ fx := fun hh => HS1.out.apart (i := 2) (j := 3) rfl rfl (by decide) gb (by simp [Mm.tblk]) (hfs _ hh).1
            have nL : gL ∉ fx := fun hh => (hfs _ hh).2 rfl
            have hgLl : gL < W2.heap.size := (HS1.out.sl 3 rfl).olt _ (HS1.out.sl 3 rfl).mem_block
            have hgBl : gb < W2.heap.size := (HS1.out.blk 2 rfl).1
            have HZF := Lib.hid (HS1.out.sl 3 rfl).frozen
            clear hmain hso hfn hfs hbi
            have hsb := Pl.sayOk_bounds HSO.out
            have hsn := Pl.sayOk_name HSO.out
            obtain ⟨tx, htx⟩ : ∃ t, Pl.sayTxt x = t := ⟨_, rfl⟩
            have HTX := Lib.hid htx
            have htz : tx.size ≤ 1000 := by rw [← htx]; exact Pl.sayTxt_size HSO.out
            have CT := l13Text_c x (by omega) (by omega) (by omega)
            rw [htx] at CT
            clear htx
            refine Mm.wp_region_give 14 (fun i => match i with | 7 => some (Mm.gVal (.string tx)) | 8 => some (gL6 g tx) | 12 => some (Mm.gPtr 80 [.slice none 0 0, .int .i64 0]) | 13 => some (Mm.gSto 80) | _ => none) (fun i => match i with | 8 => [15] | 13 => [12] | _ => []) (fun i => match i with | 15 => [Mm.tsl rPiece 164 g.Pieces (.slice Ap mp dp) fx] | _ => []) (F := fx) (D := fun w' => ∃ q : Cha fx W2, w' = cha fx W2 q) (fun X us h => Mm.sep_cha h) (by kernel_rfl) (by kernel_rfl) (by kernel_rfl) (Mm.sep_eq ((Mm.SepF.one (Mm.tsl rPiece 164 g.Pieces (.slice Ap mp dp) fx) W2 HSO9.out.1 HSO9.out.2).step (Below.refl _ _).drew) rfl) ?_
            repeat (refine Mm.give_det (by rfl) (by rfl) (by rfl) (fun K hK => ?_); go_big_quiet_op; refine hK _ ?_; clear hK K)
            refine Mm.give_op0 49 (by rfl) rfl (by rfl) (by rfl) (by rfl) (by rfl) Mm.gVal_in (fun others X hX => ?_) ?_
            · go_wp2_with (go_at_call 106; refine (CT _).mono ?_; rintro e w7 ⟨rfl, hb7⟩)
              exact Mm.gvq_val hX hb7 rfl rfl
            rintro v ds ⟨rfl, rfl⟩
            simp only [Act.put, List.setIfInBounds_toArray, List.set_cons_succ, List.set_cons_zero]
            repeat (refine Mm.give_det (by rfl) (by rfl) (by rfl) (fun K hK => ?_); go_big_quiet_op; refine hK _ ?_; clear hK K)
            refine Mm.give_op1 50 15 (by rfl) rfl (by rfl) (by rfl) (by rfl) rfl (by rfl) _ rfl gL6_in (fun others X hX => ?_) ?_
            · go_wp2_with (go_at_call 105; refine (l6Append_c g tx Ap mp dp fx X (hX.sl 0 rfl) (hX.ndat (i := 0) rfl) HAT.out.p.log HBI.out htz).mono ?_; rintro e w5 ⟨A2, m2, d9, f2, rfl, hS9⟩)
              exact ⟨rfl, rfl, _, ⟨A2, m2, d9, f2, rfl, rfl⟩, hX.call 0 rfl hS9.left⟩
            rintro v ds ⟨A3, m3, c3, f3, rfl, rfl⟩
            simp only [Act.put, List.setIfInBounds_toArray, List.set_cons_succ, List.set_cons_zero]
            repeat (refine Mm.give_det (by rfl) (by rfl) (by rfl) (fun K hK => ?_); go_big_quiet_op; refine hK _ ?_; clear hK K)
            refine Mm.give_op0 7 (by rfl) rfl (by rfl) (by rfl) (by rfl) (by rfl) Mm.gPtr_in (fun others X hX => ?_) ?_
            · go_wp2
              exact Mm.gvq_ptr hX rfl rfl rfl
            rintro v ds ⟨gy, rfl, rfl⟩
            simp only [Act.put, List.setIfInBounds_toArray, List.set_cons_succ, List.set_cons_zero]
            refine Mm.give_store 80 gy [.slice none 0 0, .int .i64 0] [.slice A3 m3 c3, .int .i64 g.Begin] 12 (by rfl) rfl rfl (by rfl) rfl (by rfl) rfl rfl (fun others X hX => ?_) ?_
            · have y0 := hX.cell (k := 0) 0 rfl rfl
              have y1 := hX.cell (k := 1) 0 rfl rfl
              have x0 := hX.frz (k := 0) 0 rfl
              have x1 := hX.frz (k := 1) 0 rfl
              have hX9 := (hX.setBlk (k := 0) 0 rfl (.slice A3 m3 c3)).setBlk (k := 1) 0 rfl (.int .i64 g.Begin)
              go_wp2
              exact ⟨rfl, rfl, _, rfl, hX9⟩
            refine Mm.give_nil ?_
            rintro X2 hX
            have HX2 : Hid (Mm.SepF fx W2 X2 [Mm.tsl rPiece 164 (Pl.appG g tx).Pieces (.slice A3 m3 c3) f3, Mm.tblk gy 80 [.slice A3 m3 c3, .int .i64 g.Begin]]) := Mm.sep_eq hX rfl
            clear hX d2 d3 d4 p0 e0 e1
            go_upto_region 8 with fail
            have y0 := HX2.out.cell (k := 0) 1 rfl rfl
            have y1 := HX2.out.cell (k := 1) 1 rfl rfl
            have p0 := (World.cell?_of_block (a := ⟨gb, 0, none⟩) (HX2.out.chg.block gb hgBl nB)).trans (HS1.out.cell (k := 0) 2 rfl rfl)
            obtain ⟨_, _, _, v0, v1⟩ := rLog_ocell (HS1.out.sl 3 rfl) (HS1.out.ndat (i := 3) rfl) HAT.out.lg
            have t0 := (World.cell?_of_block (a := ⟨gL, k * 2, none⟩) (HX2.out.chg.block gL hgLl nL)).trans v0
            have t1 := (World.cell?_of_block (a := ⟨gL, k * 2 + 1, none⟩) (HX2.out.chg.block gL hgLl nL)).trans v1
            have z0 := (World.frozen?_of_block (a := ⟨gL, k * 2, none⟩) (HX2.out.chg.block gL hgLl nL)).trans (HZF.out _)
            have z1 := (World.frozen?_of_block (a := ⟨gL, k * 2 + 1, none⟩) (HX2.out.chg.block gL hgLl nL)).trans (HZF.out _)
            clear v0 v1
            obtain ⟨fp', hM⟩ := HMAIN.out X2 _ A3 m3 c3 f3 (HX2.out.sel [0] (by decide) rfl)
            rw [Pl.appG_eta] at hM
            obtain ⟨X3, hX3⟩ : ∃ W, (X2.setCell ⟨gL, k * 2, none⟩ (.slice A3 m3 c3)).setCell ⟨gL, k * 2 + 1, none⟩ (.int .i64 g.Begin) = W := ⟨_, rfl⟩
            have HS9 := Lib.hid (hM.atW hX3)
            clear hM
            obtain ⟨ok, hok⟩ : ∃ b, Pl.appOk g tx = b := ⟨_, rfl⟩
            have HF : Hid (Pl.stepS h ⟨1, k, x⟩ = (⟨h.Logs.set k (Pl.appG g tx), h.Heads, h.Kept⟩, ok)) := by
              show _ = _
              unfold Pl.stepS
              rw [if_pos HPT.out, if_pos rfl, Int.toNat_natCast, Pl.logK_of HAT.out.lg, HTX.out]
              cases ok with
              | true => rw [if_pos ⟨HSO.out, HPK.out, hok⟩, show Pl.appG g tx = Pl.logOut g tx from if_pos hok]
              | false =>
                rw [if_neg (fun hh => by have := hok.symm.trans hh.2.2; cases this), show Pl.appG g tx = g from if_neg (by rw [hok]; simp), Pl.set_same HAT.out.lg]
            rw [hok]
            clear hok
            go_upto_region 9 with fail
            clear hX3 y0 y1 p0 t0 t1 z0 z1
            have p0 := HS9.out.cell (k := 0) 2 rfl rfl
            have p1 := HS9.out.cell (k := 1) 2 rfl rfl
            have p2 := HS9.out.cell (k := 2) 2 rfl rfl
            obtain ⟨WR, hWR⟩ : ∃ V, ((X3.setCell ⟨gz, 0, none⟩ (.slice (some ⟨gL, 0, none⟩) n cL)).setCell ⟨gz, 1, none⟩ (.slice (some ⟨gH, 0, none⟩) n cH)).setCell ⟨gz, 2, none⟩ (.slice (some ⟨gK, 0, none⟩) n cK) = V := ⟨_, rfl⟩
            have HSF := Lib.hid ((((HS9.out.setBlk (k := 0) 0 rfl (.slice (some ⟨gL, 0, none⟩) n cL)).setBlk (k := 1) 0 rfl (.slice (some ⟨gH, 0, none⟩) n cH)).setBlk (k := 2) 0 rfl (.slice (some ⟨gK, 0, none⟩) n cK)).atW hWR)
            have u0 := HSF.out.cell (k := 0) 0 rfl rfl
            have u1 := HSF.out.cell (k := 1) 0 rfl rfl
            have u2 := HSF.out.cell (k := 2) 0 rfl rfl
            have z0 := HS9.out.cell (k := 0) 0 rfl rfl
            have z1 := HS9.out.cell (k := 1) 0 rfl rfl
            have z2 := HS9.out.cell (k := 2) 0 rfl rfl
            have y0 := HS9.out.frz (k := 0) 0 rfl
            have y1 := HS9.out.frz (k := 1) 0 rfl
            have y2 := HS9.out.frz (k := 2) 0 rfl
            go_wp2
            rw [HF.out]
            exact bodyPost_ret (v := .tuple #[.agg #[.slice (some ⟨gL, 0, none⟩) n cL, .slice (some ⟨gH, 0, none⟩) n cH, .slice (some ⟨gK, 0, none⟩) n cK], .bool ok]) (by simp [results, Tryz.results53, go_sem, u0, u1, u2]) rfl ⟨rfl, n, _, cL, _, _, cH, _, _, cK, _, rfl, HSF.out.tail.tail.tail⟩
          · have hpk' : (pv != (k : Int)) = true := by simpa using hpk
            have HF : Hid (Pl.stepS h ⟨1, k, x⟩ = (h, false)) := by
              show _ = _
              unfold Pl.stepS
              rw [if_pos HPT.out, if_pos rfl, if_neg (fun hh => hpk (HPN.out.symm.trans (by rw [← HNN.out]; exact hh.2.1)))]
            clear hpk
            refine wp_region_und (by kernel_rfl) (by kernel_rfl) ?_
            repeat (go_big_quiet_step ((first | (first | (go_at_call 104; with_reducible exact CS _) | (go_at_call 83; with_reducible exact CH _)))))
            refine wpQuiet_nil ?_
            intro X hX
            replace HS1 := Lib.hid (HS1.out.step hX)
            clear hX d0 d1 d2 d3 d4 p0 CS CH
            go_upto_region 6 with fail
            have p0 := HS1.out.cell (k := 0) 2 rfl rfl
            have p1 := HS1.out.cell (k := 1) 2 rfl rfl
            have p2 := HS1.out.cell (k := 2) 2 rfl rfl
            obtain ⟨WR, hWR⟩ : ∃ V, ((X.setCell ⟨gz, 0, none⟩ (.slice (some ⟨gL, 0, none⟩) n cL)).setCell ⟨gz, 1, none⟩ (.slice (some ⟨gH, 0, none⟩) n cH)).setCell ⟨gz, 2, none⟩ (.slice (some ⟨gK, 0, none⟩) n cK) = V := ⟨_, rfl⟩
            have HSF := Lib.hid ((((HS1.out.setBlk (k := 0) 0 rfl (.slice (some ⟨gL, 0, none⟩) n cL)).setBlk (k := 1) 0 rfl (.slice (some ⟨gH, 0, none⟩) n cH)).setBlk (k := 2) 0 rfl (.slice (some ⟨gK, 0, none⟩) n cK)).atW hWR)
            have u0 := HSF.out.cell (k := 0) 0 rfl rfl
            have u1 := HSF.out.cell (k := 1) 0 rfl rfl
            have u2 := HSF.out.cell (k := 2) 0 rfl rfl
            have z0 := HS1.out.cell (k := 0) 0 rfl rfl
            have z1 := HS1.out.cell (k := 1) 0 rfl rfl
            have z2 := HS1.out.cell (k := 2) 0 rfl rfl
            have y0 := HS1.out.frz (k := 0) 0 rfl
            have y1 := HS1.out.frz (k := 1) 0 rfl
            have y2 := HS1.out.frz (k := 2) 0 rfl
            go_wp2
            rw [HF.out]
            exact bodyPost_ret (v := .tuple #[.agg #[.slice (some ⟨gL, 0, none⟩) n cL, .slice (some ⟨gH, 0, none⟩) n cH, .slice (some ⟨gK, 0, none⟩) n cK], .bool false]) (by simp [results, Tryz.results53, go_sem, u0, u1, u2]) rfl ⟨rfl, n, _, cL, _, _, cH, _, _, cK, _, rfl, HSF.out.tail.tail.tail⟩
      · have hk1' : ((kd : Int) == 1) = false := by simpa using hk1
        have CN := fun W => run_neSay x W
        obtain ⟨ns, hns⟩ : ∃ b, Pl.noSay x = b := ⟨_, rfl⟩
        rw [hns] at CN
        have HNS := Lib.hid hns
        clear hns
        cases ns with
        | false =>
          have HF : Hid (Pl.stepS h ⟨kd, k, x⟩ = (h, false)) := by
            show _ = _
            unfold Pl.stepS
            rw [if_pos HPT.out, if_neg hk1, if_neg (by rw [HNS.out]; simp)]
          go_upto_region 11 with fail
          have p0 := HS1.out.cell (k := 0) 2 rfl rfl
          have p1 := HS1.out.cell (k := 1) 2 rfl rfl
          have p2 := HS1.out.cell (k := 2) 2 rfl rfl
          obtain ⟨WR, hWR⟩ : ∃ V, ((W1.setCell ⟨gz, 0, none⟩ (.slice (some ⟨gL, 0, none⟩) n cL)).setCell ⟨gz, 1, none⟩ (.slice (some ⟨gH, 0, none⟩) n cH)).setCell ⟨gz, 2, none⟩ (.slice (some ⟨gK, 0, none⟩) n cK) = V := ⟨_, rfl⟩
          have HSF := Lib.hid ((((HS1.out.setBlk (k := 0) 0 rfl (.slice (some ⟨gL, 0, none⟩) n cL)).setBlk (k := 1) 0 rfl (.slice (some ⟨gH, 0, none⟩) n cH)).setBlk (k := 2) 0 rfl (.slice (some ⟨gK, 0, none⟩) n cK)).atW hWR)
          have u0 := HSF.out.cell (k := 0) 0 rfl rfl
          have u1 := HSF.out.cell (k := 1) 0 rfl rfl
          have u2 := HSF.out.cell (k := 2) 0 rfl rfl
          have z0 := HS1.out.cell (k := 0) 0 rfl rfl
          have z1 := HS1.out.cell (k := 1) 0 rfl rfl
          have z2 := HS1.out.cell (k := 2) 0 rfl rfl
          have y0 := HS1.out.frz (k := 0) 0 rfl
          have y1 := HS1.out.frz (k := 1) 0 rfl
          have y2 := HS1.out.frz (k := 2) 0 rfl
          go_wp2
          rw [HF.out]
          exact bodyPost_ret (v := .tuple #[.agg #[.slice (some ⟨gL, 0, none⟩) n cL, .slice (some ⟨gH, 0, none⟩) n cH, .slice (some ⟨gK, 0, none⟩) n cK], .bool false]) (by simp [results, Tryz.results53, go_sem, u0, u1, u2]) rfl ⟨rfl, n, _, cL, _, _, cH, _, _, cK, _, rfl, HSF.out.tail.tail.tail⟩
        | true =>
          have HSTP : Hid (Pl.stepS h ⟨kd, k, x⟩ = if kd = 2 then Pl.followS h k else if kd = 3 then (⟨h.Logs, h.Heads, h.Kept.set k (Pl.headK h k)⟩, true) else if kd = 4 then (⟨h.Logs, h.Heads.set k (Pl.keptK h k), h.Kept⟩, true) else (h, false)) := by
            show _ = _
            unfold Pl.stepS
            rw [if_pos HPT.out, if_neg hk1, if_pos (by rw [HNS.out]), Int.toNat_natCast]
          by_cases h2 : kd = 2
          · subst h2
            have HF : Hid (Pl.stepS h ⟨2, k, x⟩ = Pl.followS h k) := by show _ = _; rw [HSTP.out, if_pos rfl]
            have p1 := HS1.out.cell (k := 1) 2 rfl rfl
            have p2 := HS1.out.cell (k := 2) 2 rfl rfl
            obtain ⟨tz, htz⟩ : ∃ t, Mm.tblk gz 27 [.slice none 0 0, .slice none 0 0, .slice none 0 0] = t := ⟨_, rfl⟩
            obtain ⟨ta, hta⟩ : ∃ t, Mm.tblk ga 57 [.int .i64 2, .int .i64 (k : Nat), .string x.Name, .int .i64 x.At, .int .i64 x.Value] = t := ⟨_, rfl⟩
            obtain ⟨tb, htb⟩ : ∃ t, Mm.tblk gb 27 [.slice (some ⟨gL, 0, none⟩) n cL, .slice (some ⟨gH, 0, none⟩) n cH, .slice (some ⟨gK, 0, none⟩) n cK] = t := ⟨_, rfl⟩
            have hr := Mm.SepF.rot (xs := [tz, ta, tb]) (ys := [Mm.tsl rLog 80 h.Logs (.slice (some ⟨gL, 0, none⟩) n cL) fL, Mm.tsl rHead 73 h.Heads (.slice (some ⟨gH, 0, none⟩) n cH) fH, Mm.tsl rHead 73 h.Kept (.slice (some ⟨gK, 0, none⟩) n cK) fK]) (r := rest) (by rw [← htz, ← hta, ← htb]; exact HS1.out)
            have CF := l17Follow_c h k (tz :: ta :: tb :: rest) g a b l HAT.out [.slice (some ⟨gL, 0, none⟩) n cL, .slice (some ⟨gH, 0, none⟩) n cH, .slice (some ⟨gK, 0, none⟩) n cK] w0 W1 ⟨n, _, cL, fL, _, cH, fH, _, cK, fK, rfl, hr⟩
            have HTZ := Lib.hid htz
            have HTA := Lib.hid hta
            have HTB := Lib.hid htb
            clear hr htz hta htb
            go_wp2_with fail
            refine CF.mono ?_
            rintro e w2 ⟨rfl, hv2⟩
            obtain ⟨W2, rfl⟩ : ∃ W : World, W = w2 := ⟨_, rfl⟩
            obtain ⟨f2L, f2H, f2K, hs2⟩ := hv2.sep
            have hr2 := Mm.SepF.rot (xs := [Mm.tsl rLog 80 (Pl.followS h k).1.Logs (.slice (some ⟨gL, 0, none⟩) n cL) f2L, Mm.tsl rHead 73 (Pl.followS h k).1.Heads (.slice (some ⟨gH, 0, none⟩) n cH) f2H, Mm.tsl rHead 73 (Pl.followS h k).1.Kept (.slice (some ⟨gK, 0, none⟩) n cK) f2K]) (ys := [tz, ta, tb]) (r := rest) hs2
            rw [← HTZ.out, ← HTA.out, ← HTB.out] at hr2
            have HS2 := Lib.hid hr2
            clear CF hv2 hs2 hr2 d0 d1 d2 d3 d4 p0 p1 p2
            obtain ⟨WR, hWR⟩ : ∃ V, ((W2.setCell ⟨gz, 0, none⟩ (.slice (some ⟨gL, 0, none⟩) n cL)).setCell ⟨gz, 1, none⟩ (.slice (some ⟨gH, 0, none⟩) n cH)).setCell ⟨gz, 2, none⟩ (.slice (some ⟨gK, 0, none⟩) n cK) = V := ⟨_, rfl⟩
            have HSF := Lib.hid ((((HS2.out.setBlk (k := 0) 0 rfl (.slice (some ⟨gL, 0, none⟩) n cL)).setBlk (k := 1) 0 rfl (.slice (some ⟨gH, 0, none⟩) n cH)).setBlk (k := 2) 0 rfl (.slice (some ⟨gK, 0, none⟩) n cK)).atW hWR)
            have u0 := HSF.out.cell (k := 0) 0 rfl rfl
            have u1 := HSF.out.cell (k := 1) 0 rfl rfl
            have u2 := HSF.out.cell (k := 2) 0 rfl rfl
            have z0 := HS2.out.cell (k := 0) 0 rfl rfl
            have z1 := HS2.out.cell (k := 1) 0 rfl rfl
            have z2 := HS2.out.cell (k := 2) 0 rfl rfl
            have y0 := HS2.out.frz (k := 0) 0 rfl
            have y1 := HS2.out.frz (k := 1) 0 rfl
            have y2 := HS2.out.frz (k := 2) 0 rfl
            go_wp2
            rw [HF.out]
            exact bodyPost_ret (v := .tuple #[.agg #[.slice (some ⟨gL, 0, none⟩) n cL, .slice (some ⟨gH, 0, none⟩) n cH, .slice (some ⟨gK, 0, none⟩) n cK], .bool (Pl.followS h k).2]) (by simp [results, Tryz.results53, go_sem, u0, u1, u2]) rfl ⟨rfl, n, _, cL, _, _, cH, _, _, cK, _, rfl, HSF.out.tail.tail.tail⟩
          · have h2' : ((kd : Int) == 2) = false := by simpa using h2
            by_cases h3 : kd = 3
            · subst h3
              have HF : Hid (Pl.stepS h ⟨3, k, x⟩ = (⟨h.Logs, h.Heads, h.Kept.set k a⟩, true)) := by show _ = _; rw [HSTP.out, if_neg h2, if_pos rfl, Pl.headK_of HAT.out.hd]
              have p1 := HS1.out.cell (k := 1) 2 rfl rfl
              have p2 := HS1.out.cell (k := 2) 2 rfl rfl
              obtain ⟨a', A6, m6, c6, hx6, -, hrd6, hof6, e0, e1⟩ := rHead_get' (HS1.out.rdSl 4 rfl) hkn
              obtain rfl : a' = a := by have := HAT.out.hd; rw [hx6] at this; injection this
              rw [Nat.zero_add] at e0 e1
              have HRD := Lib.hid (rHead_at_mk hrd6 hof6)
              have HWK := Lib.hid HAT.out.p.head.hw
              clear hx6 hrd6 hof6
              go_wp2_with fail
              refine Mm.wp_region_give 10 (fun i => match i with | 8 => some (gFoldH a') | _ => none) (fun _ => []) (fun _ => []) (F := []) (D := fun w' => ∃ z : Und W1, w' = und W1 z) (fun X us h => Mm.sep_und h) (by kernel_rfl) (by kernel_rfl) (by kernel_rfl) (Mm.SepF.startDrew _) ?_
              repeat (refine Mm.give_det (by rfl) (by rfl) (by rfl) (fun K hK => ?_); go_big_quiet_op; refine hK _ ?_; clear hK K)
              refine Mm.give_op0 85 (by rfl) rfl (by rfl) (by rfl) (by rfl) (by rfl) gFoldH_in (fun others X hX => ?_) ?_
              · have CC := l13Own_c a' [.slice A6 m6 c6, .int .i64 a'.Offset] X W1.heap.size (rHead.keep HRD.out fun b hb => hX.bel0.block b hb) hX.bel0.size HWK.out
                go_wp2_with (go_at_call 107; refine CC.mono ?_; rintro e w5 ⟨cs5, f5, rfl, ho5, hnd5, hnew5, hb5⟩; obtain ⟨A5, n5, c5, g5, rfl, rfl, -, -⟩ := rHead_own ho5)
                exact ⟨rfl, rfl, _, ⟨A5, n5, c5, _, rfl, rfl⟩, hX.add hb5 (t := Mm.tow rHead a' [.slice A5 n5 c5, .int .i64 a'.Offset] _) ho5 hnd5 hnew5⟩
              rintro v ds ⟨A3, m3, c3, f3, rfl, rfl⟩
              simp only [Act.put, List.setIfInBounds_toArray, List.set_cons_succ, List.set_cons_zero]
              repeat (refine Mm.give_det (by rfl) (by rfl) (by rfl) (fun K hK => ?_); go_big_quiet_op; refine hK _ ?_; clear hK K)
              refine Mm.give_nil ?_
              rintro X8 hX8
              have hx8 : Mm.SepF [] W1 X8 [Mm.tow rHead a' [.slice A3 m3 c3, .int .i64 a'.Offset] f3] := Mm.sep_eq hX8 rfl
              clear hX8 p1 p2 e0 e1
              have hb8 := hx8.bel0
              obtain ⟨_, _, _, v0, v1⟩ := rHead_ocell (HS1.out.sl 5 rfl) (HS1.out.ndat (i := 5) rfl) HAT.out.kp
              have q0 := below_some hb8 v0
              have q1 := below_some hb8 v1
              have fl0 := ((HS1.out.step hb8).sl 5 rfl).frozen (k * 2)
              have fl1 := ((HS1.out.step hb8).sl 5 rfl).frozen (k * 2 + 1)
              obtain ⟨fp9, hs9⟩ := putHeadEl HS1.out 5 rfl HAT.out.kp hx8
              obtain ⟨W9, hW9⟩ : ∃ W, (X8.setCell ⟨gK, k * 2, none⟩ (.slice A3 m3 c3)).setCell ⟨gK, k * 2 + 1, none⟩ (.int .i64 a'.Offset) = W := ⟨_, rfl⟩
              have HS9 := Lib.hid (hs9.atW hW9)
              clear hs9 hx8 hb8 v0 v1
              go_upto_region 20 with fail
              clear hW9 q0 q1 fl0 fl1
              have p0 := HS9.out.cell (k := 0) 2 rfl rfl
              have p1 := HS9.out.cell (k := 1) 2 rfl rfl
              have p2 := HS9.out.cell (k := 2) 2 rfl rfl
              obtain ⟨WR, hWR⟩ : ∃ V, ((W9.setCell ⟨gz, 0, none⟩ (.slice (some ⟨gL, 0, none⟩) n cL)).setCell ⟨gz, 1, none⟩ (.slice (some ⟨gH, 0, none⟩) n cH)).setCell ⟨gz, 2, none⟩ (.slice (some ⟨gK, 0, none⟩) n cK) = V := ⟨_, rfl⟩
              have HSF := Lib.hid ((((HS9.out.setBlk (k := 0) 0 rfl (.slice (some ⟨gL, 0, none⟩) n cL)).setBlk (k := 1) 0 rfl (.slice (some ⟨gH, 0, none⟩) n cH)).setBlk (k := 2) 0 rfl (.slice (some ⟨gK, 0, none⟩) n cK)).atW hWR)
              have u0 := HSF.out.cell (k := 0) 0 rfl rfl
              have u1 := HSF.out.cell (k := 1) 0 rfl rfl
              have u2 := HSF.out.cell (k := 2) 0 rfl rfl
              have z0 := HS9.out.cell (k := 0) 0 rfl rfl
              have z1 := HS9.out.cell (k := 1) 0 rfl rfl
              have z2 := HS9.out.cell (k := 2) 0 rfl rfl
              have y0 := HS9.out.frz (k := 0) 0 rfl
              have y1 := HS9.out.frz (k := 1) 0 rfl
              have y2 := HS9.out.frz (k := 2) 0 rfl
              go_wp2
              rw [HF.out]
              exact bodyPost_ret (v := .tuple #[.agg #[.slice (some ⟨gL, 0, none⟩) n cL, .slice (some ⟨gH, 0, none⟩) n cH, .slice (some ⟨gK, 0, none⟩) n cK], .bool true]) (by simp [results, Tryz.results53, go_sem, u0, u1, u2]) rfl ⟨rfl, n, _, cL, _, _, cH, _, _, cK, _, rfl, HSF.out.tail.tail.tail⟩
            · have h3' : ((kd : Int) == 3) = false := by simpa using h3
              by_cases h4 : kd = 4
              · subst h4
                have HF : Hid (Pl.stepS h ⟨4, k, x⟩ = (⟨h.Logs, h.Heads.set k b, h.Kept⟩, true)) := by show _ = _; rw [HSTP.out, if_neg h2, if_neg h3, if_pos rfl, Pl.keptK_of HAT.out.kp]
                have p1 := HS1.out.cell (k := 1) 2 rfl rfl
                have p2 := HS1.out.cell (k := 2) 2 rfl rfl
                obtain ⟨a', A6, m6, c6, hx6, -, hrd6, hof6, e0, e1⟩ := rHead_get' (HS1.out.rdSl 5 rfl) hkn
                obtain rfl : a' = b := by have := HAT.out.kp; rw [hx6] at this; injection this
                rw [Nat.zero_add] at e0 e1
                have HRD := Lib.hid (rHead_at_mk hrd6 hof6)
                have HWK := Lib.hid HAT.out.p.kept.hw
                clear hx6 hrd6 hof6
                go_wp2_with fail
                refine Mm.wp_region_give 10 (fun i => match i with | 8 => some (gFoldH a') | _ => none) (fun _ => []) (fun _ => []) (F := []) (D := fun w' => ∃ z : Und W1, w' = und W1 z) (fun X us h => Mm.sep_und h) (by kernel_rfl) (by kernel_rfl) (by kernel_rfl) (Mm.SepF.startDrew _) ?_
                repeat (refine Mm.give_det (by rfl) (by rfl) (by rfl) (fun K hK => ?_); go_big_quiet_op; refine hK _ ?_; clear hK K)
                refine Mm.give_op0 97 (by rfl) rfl (by rfl) (by rfl) (by rfl) (by rfl) gFoldH_in (fun others X hX => ?_) ?_
                · have CC := l13Own_c a' [.slice A6 m6 c6, .int .i64 a'.Offset] X W1.heap.size (rHead.keep HRD.out fun b hb => hX.bel0.block b hb) hX.bel0.size HWK.out
                  go_wp2_with (go_at_call 107; refine CC.mono ?_; rintro e w5 ⟨cs5, f5, rfl, ho5, hnd5, hnew5, hb5⟩; obtain ⟨A5, n5, c5, g5, rfl, rfl, -, -⟩ := rHead_own ho5)
                  exact ⟨rfl, rfl, _, ⟨A5, n5, c5, _, rfl, rfl⟩, hX.add hb5 (t := Mm.tow rHead a' [.slice A5 n5 c5, .int .i64 a'.Offset] _) ho5 hnd5 hnew5⟩
                rintro v ds ⟨A3, m3, c3, f3, rfl, rfl⟩
                simp only [Act.put, List.setIfInBounds_toArray, List.set_cons_succ, List.set_cons_zero]
                repeat (refine Mm.give_det (by rfl) (by rfl) (by rfl) (fun K hK => ?_); go_big_quiet_op; refine hK _ ?_; clear hK K)
                refine Mm.give_nil ?_
                rintro X8 hX8
                have hx8 : Mm.SepF [] W1 X8 [Mm.tow rHead a' [.slice A3 m3 c3, .int .i64 a'.Offset] f3] := Mm.sep_eq hX8 rfl
                clear hX8 p1 p2 e0 e1
                have hb8 := hx8.bel0
                obtain ⟨_, _, _, v0, v1⟩ := rHead_ocell (HS1.out.sl 4 rfl) (HS1.out.ndat (i := 4) rfl) HAT.out.hd
                have q0 := below_some hb8 v0
                have q1 := below_some hb8 v1
                have fl0 := ((HS1.out.step hb8).sl 4 rfl).frozen (k * 2)
                have fl1 := ((HS1.out.step hb8).sl 4 rfl).frozen (k * 2 + 1)
                obtain ⟨fp9, hs9⟩ := putHeadEl HS1.out 4 rfl HAT.out.hd hx8
                obtain ⟨W9, hW9⟩ : ∃ W, (X8.setCell ⟨gH, k * 2, none⟩ (.slice A3 m3 c3)).setCell ⟨gH, k * 2 + 1, none⟩ (.int .i64 a'.Offset) = W := ⟨_, rfl⟩
                have HS9 := Lib.hid (hs9.atW hW9)
                clear hs9 hx8 hb8 v0 v1
                go_upto_region 20 with fail
                clear hW9 q0 q1 fl0 fl1
                have p0 := HS9.out.cell (k := 0) 2 rfl rfl
                have p1 := HS9.out.cell (k := 1) 2 rfl rfl
                have p2 := HS9.out.cell (k := 2) 2 rfl rfl
                obtain ⟨WR, hWR⟩ : ∃ V, ((W9.setCell ⟨gz, 0, none⟩ (.slice (some ⟨gL, 0, none⟩) n cL)).setCell ⟨gz, 1, none⟩ (.slice (some ⟨gH, 0, none⟩) n cH)).setCell ⟨gz, 2, none⟩ (.slice (some ⟨gK, 0, none⟩) n cK) = V := ⟨_, rfl⟩
                have HSF := Lib.hid ((((HS9.out.setBlk (k := 0) 0 rfl (.slice (some ⟨gL, 0, none⟩) n cL)).setBlk (k := 1) 0 rfl (.slice (some ⟨gH, 0, none⟩) n cH)).setBlk (k := 2) 0 rfl (.slice (some ⟨gK, 0, none⟩) n cK)).atW hWR)
                have u0 := HSF.out.cell (k := 0) 0 rfl rfl
                have u1 := HSF.out.cell (k := 1) 0 rfl rfl
                have u2 := HSF.out.cell (k := 2) 0 rfl rfl
                have z0 := HS9.out.cell (k := 0) 0 rfl rfl
                have z1 := HS9.out.cell (k := 1) 0 rfl rfl
                have z2 := HS9.out.cell (k := 2) 0 rfl rfl
                have y0 := HS9.out.frz (k := 0) 0 rfl
                have y1 := HS9.out.frz (k := 1) 0 rfl
                have y2 := HS9.out.frz (k := 2) 0 rfl
                go_wp2
                rw [HF.out]
                exact bodyPost_ret (v := .tuple #[.agg #[.slice (some ⟨gL, 0, none⟩) n cL, .slice (some ⟨gH, 0, none⟩) n cH, .slice (some ⟨gK, 0, none⟩) n cK], .bool true]) (by simp [results, Tryz.results53, go_sem, u0, u1, u2]) rfl ⟨rfl, n, _, cL, _, _, cH, _, _, cK, _, rfl, HSF.out.tail.tail.tail⟩
              · have h4' : ((kd : Int) == 4) = false := by simpa using h4
                have HF : Hid (Pl.stepS h ⟨kd, k, x⟩ = (h, false)) := by show _ = _; rw [HSTP.out, if_neg h2, if_neg h3, if_neg h4]
                go_upto_region 13 with fail
                have p0 := HS1.out.cell (k := 0) 2 rfl rfl
                have p1 := HS1.out.cell (k := 1) 2 rfl rfl
                have p2 := HS1.out.cell (k := 2) 2 rfl rfl
                obtain ⟨WR, hWR⟩ : ∃ V, ((W1.setCell ⟨gz, 0, none⟩ (.slice (some ⟨gL, 0, none⟩) n cL)).setCell ⟨gz, 1, none⟩ (.slice (some ⟨gH, 0, none⟩) n cH)).setCell ⟨gz, 2, none⟩ (.slice (some ⟨gK, 0, none⟩) n cK) = V := ⟨_, rfl⟩
                have HSF := Lib.hid ((((HS1.out.setBlk (k := 0) 0 rfl (.slice (some ⟨gL, 0, none⟩) n cL)).setBlk (k := 1) 0 rfl (.slice (some ⟨gH, 0, none⟩) n cH)).setBlk (k := 2) 0 rfl (.slice (some ⟨gK, 0, none⟩) n cK)).atW hWR)
                have u0 := HSF.out.cell (k := 0) 0 rfl rfl
                have u1 := HSF.out.cell (k := 1) 0 rfl rfl
                have u2 := HSF.out.cell (k := 2) 0 rfl rfl
                have z0 := HS1.out.cell (k := 0) 0 rfl rfl
                have z1 := HS1.out.cell (k := 1) 0 rfl rfl
                have z2 := HS1.out.cell (k := 2) 0 rfl rfl
                have y0 := HS1.out.frz (k := 0) 0 rfl
                have y1 := HS1.out.frz (k := 1) 0 rfl
                have y2 := HS1.out.frz (k := 2) 0 rfl
                go_wp2
                rw [HF.out]
                exact bodyPost_ret (v := .tuple #[.agg #[.slice (some ⟨gL, 0, none⟩) n cL, .slice (some ⟨gH, 0, none⟩) n cH, .slice (some ⟨gK, 0, none⟩) n cK], .bool false]) (by simp [results, Tryz.results53, go_sem, u0, u1, u2]) rfl ⟨rfl, n, _, cL, _, _, cH, _, _, cK, _, rfl, HSF.out.tail.tail.tail⟩
end Go.Proofs.YtbhmdnjammnlnaaGreatDoor

