/-
  Joined texts, in build order: M6, M7, He, Hs, Ht, Mt. Each part says what it proves; no conditions beyond those that a part names.
-/
import Derived.Test.YtbhmdnjammnlnaaGreatDoorZ01
import Derived.Test.YtbhmdnjammnlnaaGreatDoorZ02
import Derived.Test.YtbhmdnjammnlnaaGreatDoorZ07
import Derived.Lib.Hide
import Derived.Deep.DeepFit
import Derived.Test.YtbhmdnjammnlnaaGreatDoorRows
import Derived.WalkLawsBesides
import Derived.WalkSpells
import Derived.Outline
import Derived.Laws.IdiomStrings
import Derived.Laws.Concat
set_option linter.unusedVariables false
set_option linter.unusedSimpArgs false
/-
  Contract: the reference's CatchUp. No conditions beyond those named.
-/
namespace Go.Proofs.YtbhmdnjammnlnaaGreatDoor
open Go.RowKit
attribute [local go_sem] und_cell cha_cell World.cell?_alloc_some
theorem HoSep.val {w0 w : World} {h : House} {gp : Nat} {rest : List Mm.Thing} (k : HoSep w0 w h gp rest) : ∃ (n : Nat) (AL : Option Addr) (cL : Nat) (AH : Option Addr) (cH : Nat) (AK : Option Addr) (cK : Nat), HoVal w0 w h [.slice AL n cL, .slice AH n cH, .slice AK n cK] (Mm.tblk gp 27 [.slice AL n cL, .slice AH n cH, .slice AK n cK] :: rest) := by
  obtain ⟨n, AL, cL, fL, AH, cH, fH, AK, cK, fK, hS⟩ := k
  exact ⟨n, AL, cL, AH, cH, AK, cK, n, AL, cL, fL, AH, cH, fH, AK, cK, fK, rfl, hS⟩
theorem HoVal.sep {w0 w : World} {h : House} {n : Nat} {AL : Option Addr} {cL : Nat} {AH : Option Addr} {cH : Nat} {AK : Option Addr} {cK : Nat} {rest : List Mm.Thing} (k : HoVal w0 w h [.slice AL n cL, .slice AH n cH, .slice AK n cK] rest) :
    ∃ fL fH fK, Mm.SepF [] w0 w (Mm.tsl rLog 80 h.Logs (.slice AL n cL) fL :: Mm.tsl rHead 73 h.Heads (.slice AH n cH) fH :: Mm.tsl rHead 73 h.Kept (.slice AK n cK) fK :: rest) := by
  obtain ⟨n', AL', cL', fL, AH', cH', fH, AK', cK', fK, hcs, hS⟩ := k
  simp only [List.cons.injEq, Value.slice.injEq, and_true] at hcs
  obtain ⟨⟨rfl, rfl, rfl⟩, ⟨rfl, -, rfl⟩, rfl, -, rfl⟩ := hcs
  exact ⟨fL, fH, fK, hS⟩
set_option maxRecDepth 100000 in
set_option maxHeartbeats 4000000 in
theorem specCatchUp_c (h : House) (b : Bool) (hb : b = true ↔ Pl.HouseOk h) (hsz : Pl.szHouse h ≤ 1048576) (cs : List Value) (w : World) (B : Nat) (hh : rHouse.at_ w B h cs) (hB : B ≤ w.heap.size) :
    Calls Tryz.prog 30 #[.agg cs.toArray] w (CatAns (Pl.catchOf b h) w) := by
  obtain ⟨A0, n0, c0, A1, n1, c1, A2, n2, c2, rfl, -, -, -⟩ := rHouse_at hh
  have HR := Lib.hid hh
  have HBW := Lib.hid hB
  obtain ⟨ga, hga⟩ : ∃ g, w.heap.size = g := ⟨_, rfl⟩
  obtain ⟨gz, hgz⟩ : ∃ g, ga + 1 = g := ⟨_, rfl⟩
  obtain ⟨W0, hW0⟩ : ∃ W, (w.alloc (.cells #[.slice A0 n0 c0, .slice A1 n1 c1, .slice A2 n2 c2] 27)).alloc (.cells #[.slice none 0 0, .slice none 0 0, .slice none 0 0] 27) = W := ⟨_, rfl⟩
  have KS0 := Lib.hid ((((Mm.SepF.start w).alloc' hga 27 [.slice A0 n0 c0, .slice A1 n1 c1, .slice A2 n2 c2]).alloc' (g := gz) (by rw [Mm.sz1, hga, hgz]) 27 [.slice none 0 0, .slice none 0 0, .slice none 0 0]).atW hW0)
  have d0 := KS0.out.cell (k := 0) 1 rfl rfl
  have d1 := KS0.out.cell (k := 1) 1 rfl rfl
  have d2 := KS0.out.cell (k := 2) 1 rfl rfl
  have CI := specGoodHouse_c h b hb hsz _ W0 B (rHouse.keep hh fun b hb => KS0.out.bel0.block b (by omega)) (by have := KS0.out.bel0.size; omega)
  have HBO := Lib.hid hb
  clear hh hB hb hsz
  go_enter Tryz.func30, Tryz.ntmps30
  go_wp2_with fail
  refine CI.mono ?_
  rintro e w1 ⟨rfl, hb1⟩
  obtain ⟨W1, rfl⟩ : ∃ W : World, W = w1 := ⟨_, rfl⟩
  have HS1 := Lib.hid (KS0.out.step hb1)
  clear CI d0 d1 d2 hb1 KS0 hW0 hga hgz
  cases b with
  | false =>
    obtain ⟨WR, hWR⟩ : ∃ V, ((W1.setCell ⟨gz, 0, none⟩ (.slice none 0 0)).setCell ⟨gz, 1, none⟩ (.slice none 0 0)).setCell ⟨gz, 2, none⟩ (.slice none 0 0) = V := ⟨_, rfl⟩
    have HSF := Lib.hid ((((HS1.out.setBlk (k := 0) 0 rfl (.slice none 0 0)).setBlk (k := 1) 0 rfl (.slice none 0 0)).setBlk (k := 2) 0 rfl (.slice none 0 0)).atW hWR)
    have u0 := HSF.out.cell (k := 0) 0 rfl rfl
    have u1 := HSF.out.cell (k := 1) 0 rfl rfl
    have u2 := HSF.out.cell (k := 2) 0 rfl rfl
    have z0 := HS1.out.cell (k := 0) 0 rfl rfl
    have z1 := HS1.out.cell (k := 1) 0 rfl rfl
    have z2 := HS1.out.cell (k := 2) 0 rfl rfl
    have y0 := HS1.out.frz (k := 0) 0 rfl
    have y1 := HS1.out.frz (k := 1) 0 rfl
    have y2 := HS1.out.frz (k := 2) 0 rfl
    go_wp2
    exact bodyPost_ret (v := .tuple #[.agg #[.slice none 0 0, .slice none 0 0, .slice none 0 0], .int .i64 (0 : Nat), .bool false]) (by simp [results, Tryz.results30, go_sem, u0, u1, u2]) rfl (catNo HSF.out.bel0)
  | true =>
    have HHO := Lib.hid (HBO.out.1 rfl)
    have d0 := HS1.out.cell (k := 0) 1 rfl rfl
    have d1 := HS1.out.cell (k := 1) 1 rfl rfl
    have d2 := HS1.out.cell (k := 2) 1 rfl rfl
    have CC := l17Own_c h _ W1 B (rHouse.keep HR.out fun b hb => HS1.out.bel0.block b (by have := HBW.out; omega)) (by have := HBW.out; have := HS1.out.bel0.size; omega) HHO.out.hos
    go_wp2_with fail
    refine CC.mono ?_
    rintro e w2 ⟨csc, fpc, rfl, hoc, hndc, hnewc, hbc⟩
    clear CC d0 d1 d2
    obtain ⟨Wc, rfl⟩ : ∃ W : World, W = w2 := ⟨_, rfl⟩
    obtain ⟨A3, m3, k3, A4, m4, k4, A5, m5, k5, f3, f4, f5, rfl, l3, l4, l5, hso⟩ := Mm.SepF.hoOpen (h := h) (HS1.out.add hbc (t := Mm.tow rHouse h csc fpc) hoc hndc hnewc)
    obtain rfl : m4 = m3 := by have := HHO.out.hdn; omega
    obtain rfl : m5 = m4 := by have := HHO.out.kpn; omega
    have HS2 := Lib.hid hso
    clear hso hbc hoc hndc hnewc l3 l4 l5
    obtain ⟨gp, hgp⟩ : ∃ g, Wc.heap.size = g := ⟨_, rfl⟩
    obtain ⟨Wd, hWd⟩ : ∃ W, Wc.alloc (.cells #[.slice none 0 0, .slice none 0 0, .slice none 0 0] 27) = W := ⟨_, rfl⟩
    have HS3 := Lib.hid ((HS2.out.alloc' hgp 27 [.slice none 0 0, .slice none 0 0, .slice none 0 0]).atW hWd)
    have q0 := HS3.out.cell (k := 0) 0 rfl rfl
    have q1 := HS3.out.cell (k := 1) 0 rfl rfl
    have q2 := HS3.out.cell (k := 2) 0 rfl rfl
    have y0 := HS3.out.frz (k := 0) 0 rfl
    have y1 := HS3.out.frz (k := 1) 0 rfl
    have y2 := HS3.out.frz (k := 2) 0 rfl
    go_upto_region 4 with fail
    obtain ⟨WF, hWF⟩ : ∃ V, ((Wd.setCell ⟨gp, 0, none⟩ (.slice A3 m5 k3)).setCell ⟨gp, 1, none⟩ (.slice A4 m5 k4)).setCell ⟨gp, 2, none⟩ (.slice A5 m5 k5) = V := ⟨_, rfl⟩
    have HS4 := Lib.hid ((((HS3.out.setBlk (k := 0) 0 rfl (.slice A3 m5 k3)).setBlk (k := 1) 0 rfl (.slice A4 m5 k4)).setBlk (k := 2) 0 rfl (.slice A5 m5 k5)).atW hWF)
    rw [hWF]
    clear hWF hWd hgp q0 q1 q2 y0 y1 y2 HS3 HS2 HS1
    obtain ⟨rest, hrest⟩ : ∃ r, [Mm.tblk gz 27 [.slice none 0 0, .slice none 0 0, .slice none 0 0], Mm.tblk ga 27 [.slice A0 n0 c0, .slice A1 n1 c1, .slice A2 n2 c2]] = r := ⟨_, rfl⟩
    have HREST := Lib.hid hrest
    have HNN : Hid (h.Logs.length = m5) := (HS4.out.sl 1 rfl).nlen
    have hn3 : m5 ≤ 3 := by have := HHO.out.n3; have := HNN.out; omega
    have HLE := Lib.hid (Pl.catchN_le HHO.out)
    have p0 := HS4.out.cell (k := 0) 0 rfl rfl
    have HSA : Hid (HoSep w WF h gp rest) := by
      show HoSep w WF h gp rest
      rw [← hrest]
      exact ⟨m5, A3, k3, f3, A4, k4, f4, A5, k5, f5, HS4.out.sel [1, 2, 3, 0, 4, 5] (by decide) rfl⟩
    go_upto_region 6 with fail
    clear p0 HS4 hrest
    go_loopg [6, 19] m5 (fun gg c_ i_ wr => ∃ (k : Nat), m5 - k ≤ gg ∧ k ≤ m5 ∧ i_ = .int .i64 (k : Nat) ∧ (∃ c : Nat, c_ = .int .i64 (c : Nat) ∧ Hid (c = (Pl.catchN h k).2)) ∧ Hid (HoSep w wr (Pl.catchN h k).1 gp rest))
    case atStart => exact ⟨0, by omega, by omega, rfl, ⟨0, rfl, rfl⟩, HSA.out⟩
    case round =>
      clear HSA
      obtain ⟨k, hgk, hk', rfl, ⟨c, rfl, HC⟩, HS⟩ := hrel
      obtain ⟨Wo, rfl⟩ : ∃ W : World, W = wr := ⟨_, rfl⟩
      by_cases hlt : k < m5
      · have fc : (k : Int) < (m5 : Nat) := by omega
        obtain ⟨hx, hhx⟩ : ∃ x, (Pl.catchN h k).1 = x := ⟨_, rfl⟩
        have HX := Lib.hid hhx
        have HXO : Hid (Pl.HouseOk hx) := by show _; rw [← hhx]; exact HHO.out.catchN k
        have HXL : Hid (k < hx.Logs.length) := by show _ < _; rw [← hhx, Pl.catchN_len, HNN.out]; exact hlt
        rw [hhx] at HS
        obtain ⟨mm, hmm⟩ : ∃ m, Pl.manyN hx k = m := ⟨_, rfl⟩
        have HM := Lib.hid hmm
        have hm60 : mm ≤ 60 := by rw [← hmm]; exact Pl.many_le HXO.out HXL.out
        have hc180 : c ≤ 180 := by have := HLE.out k (by rw [HNN.out]; omega); have := HC.out; omega
        clear hhx hmm
        go_upto_region 8 with fail
        go_loopg [6] mm (fun gi c_ wr => ∃ (j : Nat), mm - j ≤ gi ∧ j ≤ mm ∧ c_ = .int .i64 ((c + j : Nat) : Nat) ∧ Hid (HoSep w wr (Pl.folN hx k j) gp rest))
        case atStart => exact ⟨0, by omega, by omega, rfl, HS.out⟩
        case round =>
          clear HS
          obtain ⟨j, hgj, hj', rfl, HS⟩ := hrel
          obtain ⟨W, rfl⟩ : ∃ W : World, W = wr := ⟨_, rfl⟩
          obtain ⟨g, a, b, l, hat⟩ := (HXO.out.folN k j).at_ (k := k) (by rw [(Pl.folN_len hx k j).1]; exact HXL.out)
          obtain ⟨n9, AL, cL, AH, cH, AK, cK, hv⟩ := HS.out.val
          have HV := Lib.hid hv
          obtain ⟨_, _, _, hsv⟩ := hv.sep
          have p0 := hsv.cell (k := 0) 3 rfl rfl
          have p1 := hsv.cell (k := 1) 3 rfl rfl
          have p2 := hsv.cell (k := 2) 3 rfl rfl
          have CF := l17Follow_c (Pl.folN hx k j) k _ g a b l hat _ w W HV.out
          clear hat hsv hv HS
          by_cases hjm : j < mm
          · rw [Pl.fol_yes HXO.out HXL.out (j := j) (by rw [HM.out]; exact hjm)] at CF
            go_wp2_with fail
            refine CF.mono ?_
            rintro e w1 ⟨rfl, hS1⟩
            obtain ⟨W1, rfl⟩ : ∃ W : World, W = w1 := ⟨_, rfl⟩
            obtain ⟨fL, fH, fK, hS2⟩ := hS1.sep
            clear CF hS1 p0 p1 p2 HV
            obtain ⟨gx, hgx⟩ : ∃ g, W1.heap.size = g := ⟨_, rfl⟩
            obtain ⟨W2, hW2⟩ : ∃ W, W1.alloc (.cells #[.slice none 0 0, .slice none 0 0, .slice none 0 0] 27) = W := ⟨_, rfl⟩
            have HS2 := Lib.hid ((hS2.alloc' hgx 27 [.slice none 0 0, .slice none 0 0, .slice none 0 0]).atW hW2)
            have q0 := HS2.out.cell (k := 0) 0 rfl rfl
            have q1 := HS2.out.cell (k := 1) 0 rfl rfl
            have q2 := HS2.out.cell (k := 2) 0 rfl rfl
            have y0 := HS2.out.frz (k := 0) 0 rfl
            have y1 := HS2.out.frz (k := 1) 0 rfl
            have y2 := HS2.out.frz (k := 2) 0 rfl
            go_upto_region 9 with fail
            clear hS2
            obtain ⟨W3, hW3⟩ : ∃ V, ((W2.setCell ⟨gx, 0, none⟩ (.slice AL n9 cL)).setCell ⟨gx, 1, none⟩ (.slice AH n9 cH)).setCell ⟨gx, 2, none⟩ (.slice AK n9 cK) = V := ⟨_, rfl⟩
            have HS3 := Lib.hid ((((HS2.out.setBlk (k := 0) 0 rfl (.slice AL n9 cL)).setBlk (k := 1) 0 rfl (.slice AH n9 cH)).setBlk (k := 2) 0 rfl (.slice AK n9 cK)).atW hW3)
            rw [hW3]
            clear hW3 hW2 hgx q0 q1 q2 y0 y1 y2 HS2
            have q0 := HS3.out.cell (k := 0) 0 rfl rfl
            have q1 := HS3.out.cell (k := 1) 0 rfl rfl
            have q2 := HS3.out.cell (k := 2) 0 rfl rfl
            have p0 := HS3.out.cell (k := 0) 4 rfl rfl
            have p1 := HS3.out.cell (k := 1) 4 rfl rfl
            have p2 := HS3.out.cell (k := 2) 4 rfl rfl
            have y0 := HS3.out.frz (k := 0) 4 rfl
            have y1 := HS3.out.frz (k := 1) 4 rfl
            have y2 := HS3.out.frz (k := 2) 4 rfl
            obtain ⟨W4, hW4⟩ : ∃ V, ((W3.setCell ⟨gp, 0, none⟩ (.slice AL n9 cL)).setCell ⟨gp, 1, none⟩ (.slice AH n9 cH)).setCell ⟨gp, 2, none⟩ (.slice AK n9 cK) = V := ⟨_, rfl⟩
            have HS4 := Lib.hid ((((HS3.out.setBlk (k := 0) 4 rfl (.slice AL n9 cL)).setBlk (k := 1) 4 rfl (.slice AH n9 cH)).setBlk (k := 2) 4 rfl (.slice AK n9 cK)).atW hW4)
            have HS5 : Hid (HoSep w W4 (Pl.folN hx k (j + 1)) gp rest) := ⟨n9, AL, cL, fL, AH, cH, fH, AK, cK, fK, HS4.out.tail⟩
            clear HS4
            go_wp2
            go_roundg (mm - (j + 1))
            case measure => omega
            case rel => exact ⟨j + 1, Nat.le_refl _, by omega, by go_num, HS5.out⟩
          · obtain rfl : j = mm := by omega
            have e9 := Pl.fol_no HXO.out HXL.out
            rw [HM.out] at e9
            rw [e9] at CF
            clear e9
            go_wp2_with fail
            refine CF.mono ?_
            rintro e w1 ⟨rfl, hS1⟩
            obtain ⟨W1, rfl⟩ : ∃ W : World, W = w1 := ⟨_, rfl⟩
            obtain ⟨fL, fH, fK, hS2⟩ := hS1.sep
            clear CF hS1 p0 p1 p2 HV
            obtain ⟨gx, hgx⟩ : ∃ g, W1.heap.size = g := ⟨_, rfl⟩
            obtain ⟨W2, hW2⟩ : ∃ W, W1.alloc (.cells #[.slice none 0 0, .slice none 0 0, .slice none 0 0] 27) = W := ⟨_, rfl⟩
            have HS2 := Lib.hid ((hS2.alloc' hgx 27 [.slice none 0 0, .slice none 0 0, .slice none 0 0]).atW hW2)
            have q0 := HS2.out.cell (k := 0) 0 rfl rfl
            have q1 := HS2.out.cell (k := 1) 0 rfl rfl
            have q2 := HS2.out.cell (k := 2) 0 rfl rfl
            have y0 := HS2.out.frz (k := 0) 0 rfl
            have y1 := HS2.out.frz (k := 1) 0 rfl
            have y2 := HS2.out.frz (k := 2) 0 rfl
            go_upto_region 9 with fail
            clear hS2
            obtain ⟨W3, hW3⟩ : ∃ V, ((W2.setCell ⟨gx, 0, none⟩ (.slice AL n9 cL)).setCell ⟨gx, 1, none⟩ (.slice AH n9 cH)).setCell ⟨gx, 2, none⟩ (.slice AK n9 cK) = V := ⟨_, rfl⟩
            have HS3 := Lib.hid ((((HS2.out.setBlk (k := 0) 0 rfl (.slice AL n9 cL)).setBlk (k := 1) 0 rfl (.slice AH n9 cH)).setBlk (k := 2) 0 rfl (.slice AK n9 cK)).atW hW3)
            rw [hW3]
            clear hW3 hW2 hgx q0 q1 q2 y0 y1 y2 HS2
            have HS5 : Hid (HoSep w W3 (Pl.catchN h (k + 1)).1 gp rest) := by
              show HoSep w W3 (Pl.folN (Pl.catchN h k).1 k (Pl.manyN (Pl.catchN h k).1 k)) gp rest
              rw [HX.out, HM.out]
              exact ⟨n9, AL, cL, fL, AH, cH, fH, AK, cK, fK, HS3.out.tail⟩
            have HC1 : Hid (c + j = (Pl.catchN h (k + 1)).2) := by
              show c + j = (Pl.catchN h k).2 + Pl.manyN (Pl.catchN h k).1 k
              rw [HX.out, HM.out, HC.out]
            clear HS3
            go_wp2
            go_roundg (m5 - (k + 1))
            case measure => omega
            case rel => exact ⟨k + 1, Nat.le_refl _, by omega, by go_num, ⟨c + j, rfl, HC1.out⟩, HS5.out⟩
      · obtain rfl : k = m5 := by omega
        have fc : ¬ ((k : Nat) : Int) < (k : Nat) := by omega
        obtain ⟨n9, AL, cL, AH, cH, AK, cK, hv⟩ := HS.out.val
        obtain ⟨fL, fH, fK, hsv⟩ := hv.sep
        have HSV := Lib.hid hsv
        have p0 := hsv.cell (k := 0) 3 rfl rfl
        have p1 := hsv.cell (k := 1) 3 rfl rfl
        have p2 := hsv.cell (k := 2) 3 rfl rfl
        have HXO : Hid (Pl.HouseOk (Pl.catchN h k).1) := HHO.out.catchN k
        obtain ⟨hx, hhx⟩ : ∃ x, (Pl.catchN h k).1 = x := ⟨_, rfl⟩
        have HX := Lib.hid hhx
        rw [hhx] at HSV HXO
        have CO := l17Own_c hx [.slice AL n9 cL, .slice AH n9 cH, .slice AK n9 cK] Wo Wo.heap.size (rHouse.weak (rHouse_own_mk (x := hx) (HSV.out.sl 0 rfl) (HSV.out.sl 1 rfl) (HSV.out.sl 2 rfl)) (rHouse.olt (rHouse_own_mk (x := hx) (HSV.out.sl 0 rfl) (HSV.out.sl 1 rfl) (HSV.out.sl 2 rfl)))) (Nat.le_refl _) HXO.out.hos
        clear hv hsv HS hhx
        go_wp2_with fail
        refine CO.mono ?_
        rintro e w9 ⟨cs9, fp9, rfl, ho9, hnd9, hnew9, hb9⟩
        obtain ⟨W9, rfl⟩ : ∃ W : World, W = w9 := ⟨_, rfl⟩
        have hs9 := HSV.out.add hb9 (t := Mm.tow rHouse hx cs9 fp9) ho9 hnd9 hnew9
        obtain ⟨B0, r0, e0, B1, r1, e1, B2, r2, e2, j0, j1, j2, rfl, -, -, -, hs9⟩ := hs9.hoOpen
        rw [← HREST.out] at hs9
        have HS9 := Lib.hid hs9
        clear CO ho9 hnd9 hnew9 hb9 hs9 p0 p1 p2 HSV
        obtain ⟨WR, hWR⟩ : ∃ V, ((W9.setCell ⟨gz, 0, none⟩ (.slice B0 r0 e0)).setCell ⟨gz, 1, none⟩ (.slice B1 r1 e1)).setCell ⟨gz, 2, none⟩ (.slice B2 r2 e2) = V := ⟨_, rfl⟩
        have HSF := Lib.hid ((((HS9.out.setBlk (k := 0) 7 rfl (.slice B0 r0 e0)).setBlk (k := 1) 7 rfl (.slice B1 r1 e1)).setBlk (k := 2) 7 rfl (.slice B2 r2 e2)).atW hWR)
        have u0 := HSF.out.cell (k := 0) 7 rfl rfl
        have u1 := HSF.out.cell (k := 1) 7 rfl rfl
        have u2 := HSF.out.cell (k := 2) 7 rfl rfl
        have z0 := HS9.out.cell (k := 0) 7 rfl rfl
        have z1 := HS9.out.cell (k := 1) 7 rfl rfl
        have z2 := HS9.out.cell (k := 2) 7 rfl rfl
        have y0 := HS9.out.frz (k := 0) 7 rfl
        have y1 := HS9.out.frz (k := 1) 7 rfl
        have y2 := HS9.out.frz (k := 2) 7 rfl
        go_wp2
        have e5 := HC.out
        subst e5
        exact bodyPost_ret (v := .tuple #[.agg #[.slice B0 r0 e0, .slice B1 r1 e1, .slice B2 r2 e2], .int .i64 ((Pl.catchN h k).2 : Nat), .bool true]) (by simp [results, Tryz.results30, go_sem, u0, u1, u2]) rfl (by
          unfold Pl.catchOf
          rw [if_pos rfl, HNN.out, HX.out]
          exact ⟨_, _, rfl, (HSF.out.hoShut (h := hx)).sel [0] (by decide) rfl⟩)
end Go.Proofs.YtbhmdnjammnlnaaGreatDoor

/-
  Plain: a good store is small. No program in sight. No conditions.
-/
namespace Go.Proofs.YtbhmdnjammnlnaaGreatDoor
open Go.RowKit
theorem cntL_leH {α : Type} {f : α → Int} {c : Int} : ∀ l : List α, (∀ x, x ∈ l → f x ≤ c) → Mm.cntL f l ≤ c * (l.length : Int)
  | [], _ => by simp [Mm.cntL]
  | x :: t, h => by
    have h1 := cntL_leH t (fun y hy => h y (List.mem_cons_of_mem _ hy))
    have h2 := h x List.mem_cons_self
    rw [Mm.cntL_cons, List.length_cons]
    have : c * ((t.length + 1 : Nat) : Int) = c * (t.length : Int) + c := by push_cast; rw [Int.mul_add, Int.mul_one]
    omega
theorem Pl.HeadOk.cnt {h : Head} (k : Pl.HeadOk h) : Pl.cntHead h ≤ 1000 := by
  have h0 : Mm.cntL Pl.cntRow h.Rows ≤ 100 * (h.Rows.length : Int) := cntL_leH _ (fun x hx => by
    have h1 := cntL_leH (f := Pl.cntSample) (c := 2) x.Samples (fun y _ => by unfold Pl.cntSample; omega)
    have h2 := Pl.samplesOk_len (k.row x hx).2.2
    unfold Pl.cntRow
    omega)
  have := k.len
  unfold Pl.cntHead
  omega
theorem Pl.LogOk.cnt {g : Log} (k : Pl.LogOk g) : Pl.cntLog g ≤ 2000 := by
  have h0 : Mm.cntL Pl.cntPiece g.Pieces ≤ 70 * (g.Pieces.length : Int) := cntL_leH _ (fun x hx => by
    have h1 := cntL_leH (f := Pl.cnt1) (c := 1) x.Index (fun y _ => by unfold Pl.cnt1; omega)
    obtain ⟨i, hi⟩ := List.getElem?_of_mem hx
    have h2 := (k.pc i x hi).1
    have h3 := (Pl.pieceOk_whole h2).2
    have h4 := Pl.idx3_len (Pl.starts x.Bytes)
    have h5 := Pl.starts_len x.Bytes
    have h6 := Pl.records_len x.Bytes
    have h7 := k.sizes x hx
    rw [← h3] at h4
    unfold Pl.cntPiece
    omega)
  have := k.len.2
  unfold Pl.cntLog
  omega
theorem Pl.HouseOk.cnt {h : House} (k : Pl.HouseOk h) : Pl.ctopHouse h ≤ 50000000 := by
  have part : ∀ i, i < h.Logs.length → ∃ g a b l, h.Logs[i]? = some g ∧ h.Heads[i]? = some a ∧ h.Kept[i]? = some b ∧ Pl.PartOk h.Logs.length i g a b l := fun i hi => k.ex hi
  have h0 : Mm.cntL Pl.cntLog h.Logs ≤ 2000 * (h.Logs.length : Int) := cntL_leH _ (fun x hx => by
    obtain ⟨i, hi⟩ := List.getElem?_of_mem hx
    obtain ⟨g, a, b, l, h1, h2, h3, h4⟩ := part i (List.getElem?_eq_some_iff.1 hi).1
    rw [hi] at h1; injection h1 with h1; subst h1
    exact h4.log.cnt)
  have h1 : Mm.cntL Pl.cntHead h.Heads ≤ 1000 * (h.Heads.length : Int) := cntL_leH _ (fun x hx => by
    obtain ⟨i, hi⟩ := List.getElem?_of_mem hx
    obtain ⟨g, a, b, l, h1, h2, h3, h4⟩ := part i (by have := (List.getElem?_eq_some_iff.1 hi).1; rw [k.hdn] at this; exact this)
    rw [hi] at h2; injection h2 with h2; subst h2
    exact h4.head.cnt)
  have h2 : Mm.cntL Pl.cntHead h.Kept ≤ 1000 * (h.Kept.length : Int) := cntL_leH _ (fun x hx => by
    obtain ⟨i, hi⟩ := List.getElem?_of_mem hx
    obtain ⟨g, a, b, l, h1, h2, h3, h4⟩ := part i (by have := (List.getElem?_eq_some_iff.1 hi).1; rw [k.kpn] at this; exact this)
    rw [hi] at h3; injection h3 with h3; subst h3
    exact h4.kept.cnt)
  have e1 := k.n3
  have e2 := k.hdn
  have e3 := k.kpn
  unfold Pl.ctopHouse
  omega
theorem zHo_cnt : Pl.ctopHouse zHo ≤ 50000000 := by decide
theorem Pl.catch_cnt {b : Bool} {h : House} (hb : b = true ↔ Pl.HouseOk h) : Pl.ctopHouse (Pl.catchOf b h).1 ≤ 50000000 := by
  unfold Pl.catchOf
  split
  · rename_i k
    exact ((hb.1 k).catchN _).cnt
  · exact zHo_cnt
end Go.Proofs.YtbhmdnjammnlnaaGreatDoor

/-
  The laws' own comparisons answer true of two things that read alike. No conditions.
-/
namespace Go.Proofs.YtbhmdnjammnlnaaGreatDoor
open Go.RowKit
attribute [local go_sem] und_cell
set_option maxHeartbeats 1000000 in
theorem eqIntS_c (l : List Int) (A A' : Option Addr) (n n' c c' : Nat) (w : World) (B : Nat) (hl : Mm.SlAt Mm.int w B l A n c) (hl' : Mm.SlAt Mm.int w B l A' n' c') (hB : B ≤ w.heap.size) :
    Calls Tryz.prog 199 #[.slice A n c, .slice A' n' c'] w fun e w' => e = .returned (.bool true) ∧ Below w.heap.size w w' := by
  obtain rfl : n = n' := hl.1.symm.trans hl'.1
  have hn : n ≤ 9223372036854775807 := by have := hl.2.1; have := hl.2.2.1; unfold maxLen at this; omega
  have HL : Hid (Mm.SlAt Mm.int w B l A n c ∧ Mm.SlAt Mm.int w B l A' n c') := ⟨hl, hl'⟩
  clear hl hl'
  go_enter Tryz.func199, Tryz.ntmps199
  go_wp2
  go_loopw [5] (fun i wr => ∃ k : Nat, k ≤ n ∧ i = .int .i64 k ∧ Below w.heap.size w wr) (fun i _ => n - (intOf i).toNat)
  case atStart => exact ⟨0, Nat.zero_le _, rfl, Below.refl _ _⟩
  case round =>
    obtain ⟨k, hk, rfl, hbel⟩ := hrel
    rename_i wr _
    by_cases hlt : k < n
    · obtain ⟨x, b, off, hx, rfl, hb, uf0, uc0⟩ := int_get (HL.out.1.keep (w' := wr) (fun b hb => hbel.block b (by omega))) hlt
      obtain ⟨y, b', off', hy, rfl, hb', vf0, vc0⟩ := int_get (HL.out.2.keep (w' := wr) (fun b hb => hbel.block b (by omega))) hlt
      obtain rfl : x = y := by rw [hx] at hy; injection hy
      have hBw : B ≤ wr.heap.size := Nat.le_trans hB hbel.size
      clear hx hy uf0 vf0
      go_wp2
      refine wp_region_und (by kernel_rfl) (by kernel_rfl) ?_
      repeat (go_big_quiet_step ((first | fail)))
      refine wpQuiet_nil ?_
      intro X hX
      go_wp2
      go_roundw
      case rel => exact ⟨k + 1, by omega, by go_num, below_step hbel hX⟩
      case measure => simp [intOf]; omega
    · go_wp2
      go_ret
      exact ⟨rfl, hbel⟩
set_option maxHeartbeats 1000000 in
theorem eqSample_c (x : Sample)  (w : World) :
    Calls Tryz.prog 87 #[.agg #[.int .i64 x.At, .int .i64 x.Value], .agg #[.int .i64 x.At, .int .i64 x.Value]] w fun e w' => e = .returned (.bool true) ∧ Below w.heap.size w w' := by
  go_enter Tryz.func87, Tryz.ntmps87
  go_wp2
  go_ret
  exact ⟨rfl, below_new (below_new (Below.refl _ _) _) _⟩
set_option maxHeartbeats 1000000 in
theorem eqSampleS_c (l : List Sample) (A A' : Option Addr) (n n' c c' : Nat) (w : World) (B : Nat) (hl : Mm.SlAt smp w B l A n c) (hl' : Mm.SlAt smp w B l A' n' c') (hB : B ≤ w.heap.size) :
    Calls Tryz.prog 34 #[.slice A n c, .slice A' n' c'] w fun e w' => e = .returned (.bool true) ∧ Below w.heap.size w w' := by
  obtain rfl : n = n' := hl.1.symm.trans hl'.1
  have hn : n ≤ 9223372036854775807 := by have := hl.2.1; have := hl.2.2.1; unfold maxLen at this; omega
  have HL : Hid (Mm.SlAt smp w B l A n c ∧ Mm.SlAt smp w B l A' n c') := ⟨hl, hl'⟩
  clear hl hl'
  go_enter Tryz.func34, Tryz.ntmps34
  go_wp2
  go_loopw [5] (fun i wr => ∃ k : Nat, k ≤ n ∧ i = .int .i64 k ∧ Below w.heap.size w wr) (fun i _ => n - (intOf i).toNat)
  case atStart => exact ⟨0, Nat.zero_le _, rfl, Below.refl _ _⟩
  case round =>
    obtain ⟨k, hk, rfl, hbel⟩ := hrel
    rename_i wr _
    by_cases hlt : k < n
    · obtain ⟨x, b, off, hx, rfl, hb, uf0, uf1, uc0, uc1⟩ := smp_get (HL.out.1.keep (w' := wr) (fun b hb => hbel.block b (by omega))) hlt
      obtain ⟨y, b', off', hy, rfl, hb', vf0, vf1, vc0, vc1⟩ := smp_get (HL.out.2.keep (w' := wr) (fun b hb => hbel.block b (by omega))) hlt
      obtain rfl : x = y := by rw [hx] at hy; injection hy
      have hBw : B ≤ wr.heap.size := Nat.le_trans hB hbel.size
      clear hx hy uf0 uf1 vf0 vf1
      go_wp2
      refine wp_region_und (by kernel_rfl) (by kernel_rfl) ?_
      repeat (go_big_quiet_step ((first | (go_at_call 87; exact und_call _ (eqSample_c x _)))))
      refine wpQuiet_nil ?_
      intro X hX
      go_wp2
      go_roundw
      case rel => exact ⟨k + 1, by omega, by go_num, below_step hbel hX⟩
      case measure => simp [intOf]; omega
    · go_wp2
      go_ret
      exact ⟨rfl, hbel⟩
set_option maxHeartbeats 1000000 in
theorem eqRow_c (x : Row) (A : Option Addr) (n c : Nat) (A' : Option Addr) (n' c' : Nat) (w : World) (B : Nat) (g0 : Mm.SlAt smp w B x.Samples A n c) (g0' : Mm.SlAt smp w B x.Samples A' n' c') (hB : B ≤ w.heap.size) :
    Calls Tryz.prog 182 #[.agg #[.string x.Name, .slice A n c], .agg #[.string x.Name, .slice A' n' c']] w fun e w' => e = .returned (.bool true) ∧ Below w.heap.size w w' := by
  have HK1 := Lib.hid ((Mm.Blk.new w 139 [.string x.Name, .slice A n c]).alloc (.cells #[.string x.Name, .slice A' n' c'] 139))
  have HK2 := Lib.hid (Mm.Blk.new' (w.alloc (.cells #[.string x.Name, .slice A n c] 139)) 139 [.string x.Name, .slice A' n' c'] (Mm.sz1 _ _))
  have hb0 : Below w.heap.size w ((w.alloc (.cells #[.string x.Name, .slice A n c] 139)).alloc (.cells #[.string x.Name, .slice A' n' c'] 139)) := below_new (below_new (Below.refl _ _) _) _
  have HB0 := Lib.hid hb0
  have HG := Lib.hid (And.intro hB (And.intro g0 g0'))
  clear hB g0 g0'
  clear hb0
  go_enter Tryz.func182, Tryz.ntmps182
  go_wp2_with fail
  refine (eqSampleS_c x.Samples _ _ _ _ _ _ _ B (HG.out.2.1.keep fun b hb => HB0.out.block b (Nat.lt_of_lt_of_le hb HG.out.1)) (HG.out.2.2.keep fun b hb => HB0.out.block b (Nat.lt_of_lt_of_le hb HG.out.1)) (Nat.le_trans HG.out.1 HB0.out.size)).mono ?_
  rintro e w1 ⟨rfl, hb1⟩
  have HB1 := Lib.hid (below_step HB0.out hb1)
  have HK1 := Lib.hid (HK1.out.bel hb1)
  have HK2 := Lib.hid (HK2.out.bel hb1)
  clear hb1
  go_wp2
  go_ret
  exact ⟨rfl, HB1.out⟩
set_option maxHeartbeats 1000000 in
theorem eqRowS_c (l : List Row) (A A' : Option Addr) (n n' c c' : Nat) (w : World) (B : Nat) (hl : Mm.SlAt rRow w B l A n c) (hl' : Mm.SlAt rRow w B l A' n' c') (hB : B ≤ w.heap.size) :
    Calls Tryz.prog 157 #[.slice A n c, .slice A' n' c'] w fun e w' => e = .returned (.bool true) ∧ Below w.heap.size w w' := by
  obtain rfl : n = n' := hl.1.symm.trans hl'.1
  have hn : n ≤ 9223372036854775807 := by have := hl.2.1; have := hl.2.2.1; unfold maxLen at this; omega
  have HL : Hid (Mm.SlAt rRow w B l A n c ∧ Mm.SlAt rRow w B l A' n c') := ⟨hl, hl'⟩
  clear hl hl'
  go_enter Tryz.func157, Tryz.ntmps157
  go_wp2
  go_loopw [5] (fun i wr => ∃ k : Nat, k ≤ n ∧ i = .int .i64 k ∧ Below w.heap.size w wr) (fun i _ => n - (intOf i).toNat)
  case atStart => exact ⟨0, Nat.zero_le _, rfl, Below.refl _ _⟩
  case round =>
    obtain ⟨k, hk, rfl, hbel⟩ := hrel
    rename_i wr _
    by_cases hlt : k < n
    · obtain ⟨x, b, off, A1, n1, c1, hx, rfl, hb, uf0, uf1, uc0, uc1⟩ := rRow_get (HL.out.1.keep (w' := wr) (fun b hb => hbel.block b (by omega))) hlt
      obtain ⟨y, b', off', A2, n2, c2, hy, rfl, hb', vf0, vf1, vc0, vc1⟩ := rRow_get (HL.out.2.keep (w' := wr) (fun b hb => hbel.block b (by omega))) hlt
      obtain rfl : x = y := by rw [hx] at hy; injection hy
      have hBw : B ≤ wr.heap.size := Nat.le_trans hB hbel.size
      have HF := Lib.hid (And.intro uf1 vf1)
      clear hx hy uf0 uf1 vf0 vf1
      go_wp2
      refine wp_region_und (by kernel_rfl) (by kernel_rfl) ?_
      repeat (go_big_quiet_step ((first | (go_at_call 182; exact und_call _ (eqRow_c x _ _ _ _ _ _ _ B (HF.out.1.und hBw _) (HF.out.2.und hBw _) (Nat.le_trans hBw (und_size _)))))))
      refine wpQuiet_nil ?_
      intro X hX
      go_wp2
      go_roundw
      case rel => exact ⟨k + 1, by omega, by go_num, below_step hbel hX⟩
      case measure => simp [intOf]; omega
    · go_wp2
      go_ret
      exact ⟨rfl, hbel⟩
set_option maxHeartbeats 1000000 in
theorem eqHead_c (x : Head) (A : Option Addr) (n c : Nat) (A' : Option Addr) (n' c' : Nat) (w : World) (B : Nat) (g0 : Mm.SlAt rRow w B x.Rows A n c) (g0' : Mm.SlAt rRow w B x.Rows A' n' c') (hB : B ≤ w.heap.size) :
    Calls Tryz.prog 115 #[.agg #[.slice A n c, .int .i64 x.Offset], .agg #[.slice A' n' c', .int .i64 x.Offset]] w fun e w' => e = .returned (.bool true) ∧ Below w.heap.size w w' := by
  have HK1 := Lib.hid ((Mm.Blk.new w 73 [.slice A n c, .int .i64 x.Offset]).alloc (.cells #[.slice A' n' c', .int .i64 x.Offset] 73))
  have HK2 := Lib.hid (Mm.Blk.new' (w.alloc (.cells #[.slice A n c, .int .i64 x.Offset] 73)) 73 [.slice A' n' c', .int .i64 x.Offset] (Mm.sz1 _ _))
  have hb0 : Below w.heap.size w ((w.alloc (.cells #[.slice A n c, .int .i64 x.Offset] 73)).alloc (.cells #[.slice A' n' c', .int .i64 x.Offset] 73)) := below_new (below_new (Below.refl _ _) _) _
  have HB0 := Lib.hid hb0
  have HG := Lib.hid (And.intro hB (And.intro g0 g0'))
  clear hB g0 g0'
  clear hb0
  go_enter Tryz.func115, Tryz.ntmps115
  go_wp2_with fail
  refine (eqRowS_c x.Rows _ _ _ _ _ _ _ B (HG.out.2.1.keep fun b hb => HB0.out.block b (Nat.lt_of_lt_of_le hb HG.out.1)) (HG.out.2.2.keep fun b hb => HB0.out.block b (Nat.lt_of_lt_of_le hb HG.out.1)) (Nat.le_trans HG.out.1 HB0.out.size)).mono ?_
  rintro e w1 ⟨rfl, hb1⟩
  have HB1 := Lib.hid (below_step HB0.out hb1)
  have HK1 := Lib.hid (HK1.out.bel hb1)
  have HK2 := Lib.hid (HK2.out.bel hb1)
  have p1_1 := HK1.out.cell (i := 1) rfl
  have q1_1 := HK2.out.cell (i := 1) rfl
  clear hb1
  go_wp2
  go_ret
  exact ⟨rfl, HB1.out⟩
set_option maxHeartbeats 1000000 in
theorem eqHeadS_c (l : List Head) (A A' : Option Addr) (n n' c c' : Nat) (w : World) (B : Nat) (hl : Mm.SlAt rHead w B l A n c) (hl' : Mm.SlAt rHead w B l A' n' c') (hB : B ≤ w.heap.size) :
    Calls Tryz.prog 59 #[.slice A n c, .slice A' n' c'] w fun e w' => e = .returned (.bool true) ∧ Below w.heap.size w w' := by
  obtain rfl : n = n' := hl.1.symm.trans hl'.1
  have hn : n ≤ 9223372036854775807 := by have := hl.2.1; have := hl.2.2.1; unfold maxLen at this; omega
  have HL : Hid (Mm.SlAt rHead w B l A n c ∧ Mm.SlAt rHead w B l A' n c') := ⟨hl, hl'⟩
  clear hl hl'
  go_enter Tryz.func59, Tryz.ntmps59
  go_wp2
  go_loopw [5] (fun i wr => ∃ k : Nat, k ≤ n ∧ i = .int .i64 k ∧ Below w.heap.size w wr) (fun i _ => n - (intOf i).toNat)
  case atStart => exact ⟨0, Nat.zero_le _, rfl, Below.refl _ _⟩
  case round =>
    obtain ⟨k, hk, rfl, hbel⟩ := hrel
    rename_i wr _
    by_cases hlt : k < n
    · obtain ⟨x, b, off, A1, n1, c1, hx, rfl, hb, uf0, uf1, uc0, uc1⟩ := rHead_get (HL.out.1.keep (w' := wr) (fun b hb => hbel.block b (by omega))) hlt
      obtain ⟨y, b', off', A2, n2, c2, hy, rfl, hb', vf0, vf1, vc0, vc1⟩ := rHead_get (HL.out.2.keep (w' := wr) (fun b hb => hbel.block b (by omega))) hlt
      obtain rfl : x = y := by rw [hx] at hy; injection hy
      have hBw : B ≤ wr.heap.size := Nat.le_trans hB hbel.size
      have HF := Lib.hid (And.intro uf0 vf0)
      clear hx hy uf0 uf1 vf0 vf1
      go_wp2
      refine wp_region_und (by kernel_rfl) (by kernel_rfl) ?_
      repeat (go_big_quiet_step ((first | (go_at_call 115; exact und_call _ (eqHead_c x _ _ _ _ _ _ _ B (HF.out.1.und hBw _) (HF.out.2.und hBw _) (Nat.le_trans hBw (und_size _)))))))
      refine wpQuiet_nil ?_
      intro X hX
      go_wp2
      go_roundw
      case rel => exact ⟨k + 1, by omega, by go_num, below_step hbel hX⟩
      case measure => simp [intOf]; omega
    · go_wp2
      go_ret
      exact ⟨rfl, hbel⟩
set_option maxHeartbeats 1000000 in
theorem eqPiece_c (x : Piece) (A : Option Addr) (n c : Nat) (A' : Option Addr) (n' c' : Nat) (w : World) (B : Nat) (g0 : Mm.SlAt Mm.int w B x.Index A n c) (g0' : Mm.SlAt Mm.int w B x.Index A' n' c') (hB : B ≤ w.heap.size) :
    Calls Tryz.prog 181 #[.agg #[.int .i64 x.From, .string x.Bytes, .slice A n c], .agg #[.int .i64 x.From, .string x.Bytes, .slice A' n' c']] w fun e w' => e = .returned (.bool true) ∧ Below w.heap.size w w' := by
  have HK1 := Lib.hid ((Mm.Blk.new w 164 [.int .i64 x.From, .string x.Bytes, .slice A n c]).alloc (.cells #[.int .i64 x.From, .string x.Bytes, .slice A' n' c'] 164))
  have HK2 := Lib.hid (Mm.Blk.new' (w.alloc (.cells #[.int .i64 x.From, .string x.Bytes, .slice A n c] 164)) 164 [.int .i64 x.From, .string x.Bytes, .slice A' n' c'] (Mm.sz1 _ _))
  have hb0 : Below w.heap.size w ((w.alloc (.cells #[.int .i64 x.From, .string x.Bytes, .slice A n c] 164)).alloc (.cells #[.int .i64 x.From, .string x.Bytes, .slice A' n' c'] 164)) := below_new (below_new (Below.refl _ _) _) _
  have HB0 := Lib.hid hb0
  have HG := Lib.hid (And.intro hB (And.intro g0 g0'))
  clear hB g0 g0'
  clear hb0
  go_enter Tryz.func181, Tryz.ntmps181
  go_wp2_with fail
  refine (eqIntS_c x.Index _ _ _ _ _ _ _ B (HG.out.2.1.keep fun b hb => HB0.out.block b (Nat.lt_of_lt_of_le hb HG.out.1)) (HG.out.2.2.keep fun b hb => HB0.out.block b (Nat.lt_of_lt_of_le hb HG.out.1)) (Nat.le_trans HG.out.1 HB0.out.size)).mono ?_
  rintro e w1 ⟨rfl, hb1⟩
  have HB1 := Lib.hid (below_step HB0.out hb1)
  have HK1 := Lib.hid (HK1.out.bel hb1)
  have HK2 := Lib.hid (HK2.out.bel hb1)
  clear hb1
  go_wp2
  go_ret
  exact ⟨rfl, HB1.out⟩
set_option maxHeartbeats 1000000 in
theorem eqPieceS_c (l : List Piece) (A A' : Option Addr) (n n' c c' : Nat) (w : World) (B : Nat) (hl : Mm.SlAt rPiece w B l A n c) (hl' : Mm.SlAt rPiece w B l A' n' c') (hB : B ≤ w.heap.size) :
    Calls Tryz.prog 156 #[.slice A n c, .slice A' n' c'] w fun e w' => e = .returned (.bool true) ∧ Below w.heap.size w w' := by
  obtain rfl : n = n' := hl.1.symm.trans hl'.1
  have hn : n ≤ 9223372036854775807 := by have := hl.2.1; have := hl.2.2.1; unfold maxLen at this; omega
  have HL : Hid (Mm.SlAt rPiece w B l A n c ∧ Mm.SlAt rPiece w B l A' n c') := ⟨hl, hl'⟩
  clear hl hl'
  go_enter Tryz.func156, Tryz.ntmps156
  go_wp2
  go_loopw [5] (fun i wr => ∃ k : Nat, k ≤ n ∧ i = .int .i64 k ∧ Below w.heap.size w wr) (fun i _ => n - (intOf i).toNat)
  case atStart => exact ⟨0, Nat.zero_le _, rfl, Below.refl _ _⟩
  case round =>
    obtain ⟨k, hk, rfl, hbel⟩ := hrel
    rename_i wr _
    by_cases hlt : k < n
    · obtain ⟨x, b, off, A1, n1, c1, hx, rfl, hb, uf0, uf1, uf2, uc0, uc1, uc2⟩ := rPiece_get (HL.out.1.keep (w' := wr) (fun b hb => hbel.block b (by omega))) hlt
      obtain ⟨y, b', off', A2, n2, c2, hy, rfl, hb', vf0, vf1, vf2, vc0, vc1, vc2⟩ := rPiece_get (HL.out.2.keep (w' := wr) (fun b hb => hbel.block b (by omega))) hlt
      obtain rfl : x = y := by rw [hx] at hy; injection hy
      have hBw : B ≤ wr.heap.size := Nat.le_trans hB hbel.size
      have HF := Lib.hid (And.intro uf2 vf2)
      clear hx hy uf0 uf1 uf2 vf0 vf1 vf2
      go_wp2
      refine wp_region_und (by kernel_rfl) (by kernel_rfl) ?_
      repeat (go_big_quiet_step ((first | (go_at_call 181; exact und_call _ (eqPiece_c x _ _ _ _ _ _ _ B (HF.out.1.und hBw _) (HF.out.2.und hBw _) (Nat.le_trans hBw (und_size _)))))))
      refine wpQuiet_nil ?_
      intro X hX
      go_wp2
      go_roundw
      case rel => exact ⟨k + 1, by omega, by go_num, below_step hbel hX⟩
      case measure => simp [intOf]; omega
    · go_wp2
      go_ret
      exact ⟨rfl, hbel⟩
set_option maxHeartbeats 1000000 in
theorem eqLog_c (x : Log) (A : Option Addr) (n c : Nat) (A' : Option Addr) (n' c' : Nat) (w : World) (B : Nat) (g0 : Mm.SlAt rPiece w B x.Pieces A n c) (g0' : Mm.SlAt rPiece w B x.Pieces A' n' c') (hB : B ≤ w.heap.size) :
    Calls Tryz.prog 114 #[.agg #[.slice A n c, .int .i64 x.Begin], .agg #[.slice A' n' c', .int .i64 x.Begin]] w fun e w' => e = .returned (.bool true) ∧ Below w.heap.size w w' := by
  have HK1 := Lib.hid ((Mm.Blk.new w 80 [.slice A n c, .int .i64 x.Begin]).alloc (.cells #[.slice A' n' c', .int .i64 x.Begin] 80))
  have HK2 := Lib.hid (Mm.Blk.new' (w.alloc (.cells #[.slice A n c, .int .i64 x.Begin] 80)) 80 [.slice A' n' c', .int .i64 x.Begin] (Mm.sz1 _ _))
  have hb0 : Below w.heap.size w ((w.alloc (.cells #[.slice A n c, .int .i64 x.Begin] 80)).alloc (.cells #[.slice A' n' c', .int .i64 x.Begin] 80)) := below_new (below_new (Below.refl _ _) _) _
  have HB0 := Lib.hid hb0
  have HG := Lib.hid (And.intro hB (And.intro g0 g0'))
  clear hB g0 g0'
  clear hb0
  go_enter Tryz.func114, Tryz.ntmps114
  go_wp2_with fail
  refine (eqPieceS_c x.Pieces _ _ _ _ _ _ _ B (HG.out.2.1.keep fun b hb => HB0.out.block b (Nat.lt_of_lt_of_le hb HG.out.1)) (HG.out.2.2.keep fun b hb => HB0.out.block b (Nat.lt_of_lt_of_le hb HG.out.1)) (Nat.le_trans HG.out.1 HB0.out.size)).mono ?_
  rintro e w1 ⟨rfl, hb1⟩
  have HB1 := Lib.hid (below_step HB0.out hb1)
  have HK1 := Lib.hid (HK1.out.bel hb1)
  have HK2 := Lib.hid (HK2.out.bel hb1)
  have p1_1 := HK1.out.cell (i := 1) rfl
  have q1_1 := HK2.out.cell (i := 1) rfl
  clear hb1
  go_wp2
  go_ret
  exact ⟨rfl, HB1.out⟩
set_option maxHeartbeats 1000000 in
theorem eqLogS_c (l : List Log) (A A' : Option Addr) (n n' c c' : Nat) (w : World) (B : Nat) (hl : Mm.SlAt rLog w B l A n c) (hl' : Mm.SlAt rLog w B l A' n' c') (hB : B ≤ w.heap.size) :
    Calls Tryz.prog 58 #[.slice A n c, .slice A' n' c'] w fun e w' => e = .returned (.bool true) ∧ Below w.heap.size w w' := by
  obtain rfl : n = n' := hl.1.symm.trans hl'.1
  have hn : n ≤ 9223372036854775807 := by have := hl.2.1; have := hl.2.2.1; unfold maxLen at this; omega
  have HL : Hid (Mm.SlAt rLog w B l A n c ∧ Mm.SlAt rLog w B l A' n c') := ⟨hl, hl'⟩
  clear hl hl'
  go_enter Tryz.func58, Tryz.ntmps58
  go_wp2
  go_loopw [5] (fun i wr => ∃ k : Nat, k ≤ n ∧ i = .int .i64 k ∧ Below w.heap.size w wr) (fun i _ => n - (intOf i).toNat)
  case atStart => exact ⟨0, Nat.zero_le _, rfl, Below.refl _ _⟩
  case round =>
    obtain ⟨k, hk, rfl, hbel⟩ := hrel
    rename_i wr _
    by_cases hlt : k < n
    · obtain ⟨x, b, off, A1, n1, c1, hx, rfl, hb, uf0, uf1, uc0, uc1⟩ := rLog_get (HL.out.1.keep (w' := wr) (fun b hb => hbel.block b (by omega))) hlt
      obtain ⟨y, b', off', A2, n2, c2, hy, rfl, hb', vf0, vf1, vc0, vc1⟩ := rLog_get (HL.out.2.keep (w' := wr) (fun b hb => hbel.block b (by omega))) hlt
      obtain rfl : x = y := by rw [hx] at hy; injection hy
      have hBw : B ≤ wr.heap.size := Nat.le_trans hB hbel.size
      have HF := Lib.hid (And.intro uf0 vf0)
      clear hx hy uf0 uf1 vf0 vf1
      go_wp2
      refine wp_region_und (by kernel_rfl) (by kernel_rfl) ?_
      repeat (go_big_quiet_step ((first | (go_at_call 114; exact und_call _ (eqLog_c x _ _ _ _ _ _ _ B (HF.out.1.und hBw _) (HF.out.2.und hBw _) (Nat.le_trans hBw (und_size _)))))))
      refine wpQuiet_nil ?_
      intro X hX
      go_wp2
      go_roundw
      case rel => exact ⟨k + 1, by omega, by go_num, below_step hbel hX⟩
      case measure => simp [intOf]; omega
    · go_wp2
      go_ret
      exact ⟨rfl, hbel⟩
set_option maxHeartbeats 1000000 in
theorem eqHouse_c (x : House) (A0 : Option Addr) (n0 c0 : Nat) (A1 : Option Addr) (n1 c1 : Nat) (A2 : Option Addr) (n2 c2 : Nat) (A0' : Option Addr) (n0' c0' : Nat) (A1' : Option Addr) (n1' c1' : Nat) (A2' : Option Addr) (n2' c2' : Nat) (w : World) (B : Nat) (g0 : Mm.SlAt rLog w B x.Logs A0 n0 c0) (g0' : Mm.SlAt rLog w B x.Logs A0' n0' c0') (g1 : Mm.SlAt rHead w B x.Heads A1 n1 c1) (g1' : Mm.SlAt rHead w B x.Heads A1' n1' c1') (g2 : Mm.SlAt rHead w B x.Kept A2 n2 c2) (g2' : Mm.SlAt rHead w B x.Kept A2' n2' c2') (hB : B ≤ w.heap.size) :
    Calls Tryz.prog 14 #[.agg #[.slice A0 n0 c0, .slice A1 n1 c1, .slice A2 n2 c2], .agg #[.slice A0' n0' c0', .slice A1' n1' c1', .slice A2' n2' c2']] w fun e w' => e = .returned (.bool true) ∧ Below w.heap.size w w' := by
  have HK1 := Lib.hid ((Mm.Blk.new w 27 [.slice A0 n0 c0, .slice A1 n1 c1, .slice A2 n2 c2]).alloc (.cells #[.slice A0' n0' c0', .slice A1' n1' c1', .slice A2' n2' c2'] 27))
  have HK2 := Lib.hid (Mm.Blk.new' (w.alloc (.cells #[.slice A0 n0 c0, .slice A1 n1 c1, .slice A2 n2 c2] 27)) 27 [.slice A0' n0' c0', .slice A1' n1' c1', .slice A2' n2' c2'] (Mm.sz1 _ _))
  have hb0 : Below w.heap.size w ((w.alloc (.cells #[.slice A0 n0 c0, .slice A1 n1 c1, .slice A2 n2 c2] 27)).alloc (.cells #[.slice A0' n0' c0', .slice A1' n1' c1', .slice A2' n2' c2'] 27)) := below_new (below_new (Below.refl _ _) _) _
  have HB0 := Lib.hid hb0
  have HG := Lib.hid (And.intro hB (And.intro (And.intro g0 g0') (And.intro (And.intro g1 g1') (And.intro g2 g2'))))
  clear hB g0 g0' g1 g1' g2 g2'
  clear hb0
  go_enter Tryz.func14, Tryz.ntmps14
  go_wp2_with fail
  refine (eqLogS_c x.Logs _ _ _ _ _ _ _ B (HG.out.2.1.1.keep fun b hb => HB0.out.block b (Nat.lt_of_lt_of_le hb HG.out.1)) (HG.out.2.1.2.keep fun b hb => HB0.out.block b (Nat.lt_of_lt_of_le hb HG.out.1)) (Nat.le_trans HG.out.1 HB0.out.size)).mono ?_
  rintro e w1 ⟨rfl, hb1⟩
  have HB1 := Lib.hid (below_step HB0.out hb1)
  have HK1 := Lib.hid (HK1.out.bel hb1)
  have HK2 := Lib.hid (HK2.out.bel hb1)
  have p1_1 := HK1.out.cell (i := 1) rfl
  have q1_1 := HK2.out.cell (i := 1) rfl
  have p1_2 := HK1.out.cell (i := 2) rfl
  have q1_2 := HK2.out.cell (i := 2) rfl
  clear hb1
  go_wp2_with fail
  refine (eqHeadS_c x.Heads _ _ _ _ _ _ _ B (HG.out.2.2.1.1.keep fun b hb => HB1.out.block b (Nat.lt_of_lt_of_le hb HG.out.1)) (HG.out.2.2.1.2.keep fun b hb => HB1.out.block b (Nat.lt_of_lt_of_le hb HG.out.1)) (Nat.le_trans HG.out.1 HB1.out.size)).mono ?_
  rintro e w2 ⟨rfl, hb2⟩
  have HB2 := Lib.hid (below_step HB1.out hb2)
  have HK1 := Lib.hid (HK1.out.bel hb2)
  have HK2 := Lib.hid (HK2.out.bel hb2)
  have p2_2 := HK1.out.cell (i := 2) rfl
  have q2_2 := HK2.out.cell (i := 2) rfl
  clear hb2
  go_wp2_with fail
  refine (eqHeadS_c x.Kept _ _ _ _ _ _ _ B (HG.out.2.2.2.1.keep fun b hb => HB2.out.block b (Nat.lt_of_lt_of_le hb HG.out.1)) (HG.out.2.2.2.2.keep fun b hb => HB2.out.block b (Nat.lt_of_lt_of_le hb HG.out.1)) (Nat.le_trans HG.out.1 HB2.out.size)).mono ?_
  rintro e w3 ⟨rfl, hb3⟩
  have HB3 := Lib.hid (below_step HB2.out hb3)
  have HK1 := Lib.hid (HK1.out.bel hb3)
  have HK2 := Lib.hid (HK2.out.bel hb3)
  clear hb3
  go_wp2
  go_ret
  exact ⟨rfl, HB3.out⟩
theorem eqHouse_at (x : House) (cs cs' : List Value) (w : World) (B : Nat) (h : rHouse.at_ w B x cs) (h' : rHouse.at_ w B x cs') (hB : B ≤ w.heap.size) :
    Calls Tryz.prog 14 #[.agg cs.toArray, .agg cs'.toArray] w fun e w' => e = .returned (.bool true) ∧ Below w.heap.size w w' := by
  obtain ⟨A0, n0, c0, A1, n1, c1, A2, n2, c2, rfl, g0, g1, g2⟩ := rHouse_at h
  obtain ⟨A0', n0', c0', A1', n1', c1', A2', n2', c2', rfl, k0, k1, k2⟩ := rHouse_at h'
  exact eqHouse_c x _ _ _ _ _ _ _ _ _ _ _ _ _ _ _ _ _ _ _ B g0 k0 g1 k1 g2 k2 hB
end Go.Proofs.YtbhmdnjammnlnaaGreatDoor

/-
  The laws' own sizes of arguments. No conditions.
-/
namespace Go.Proofs.YtbhmdnjammnlnaaGreatDoor
open Go.RowKit
attribute [local go_sem] und_cell
set_option maxHeartbeats 1000000 in
theorem szIntS_c (l : List Int) (A : Option Addr) (n c : Nat) (left : Int) (w : World) (B : Nat) (hl : Mm.SlAt Mm.int w B l A n c) (_hB : B ≤ w.heap.size) (h0 : 0 ≤ left) (h1 : left ≤ 1048576) :
    Calls Tryz.prog 200 #[.slice A n c, .int .i64 left] w fun e w' => e = .returned (.int .i64 (Pl.szRet left (Pl.szl Pl.sz0 l))) ∧ Below w.heap.size w w' := by
  have hn : n ≤ 9223372036854775807 := by have := hl.2.1; have := hl.2.2.1; unfold maxLen at this; omega
  have hlen : Hid (l.length = n) := hl.1
  have HZ : Hid (Pl.szl Pl.sz0 l = (n : Int)) := by show _ = _; rw [Pl.szl_zero, hlen.out]
  clear hl
  by_cases h : left - (n : Int) < 0
  · go_enter Tryz.func200, Tryz.ntmps200
    go_wp2
    go_ret
    exact ⟨ret_int (by rw [HZ.out, Pl.szRet_lt (by omega)]), Below.refl _ _⟩
  · go_enter Tryz.func200, Tryz.ntmps200
    go_wp2
    go_ret
    exact ⟨ret_int (by rw [HZ.out, Pl.szRet_ge (by omega)]), Below.refl _ _⟩
set_option maxHeartbeats 1000000 in
theorem szSampleS_c (l : List Sample) (A : Option Addr) (n c : Nat) (left : Int) (w : World) (B : Nat) (hl : Mm.SlAt smp w B l A n c) (hB : B ≤ w.heap.size) (h0 : 0 ≤ left) (h1 : left ≤ 1048576) :
    Calls Tryz.prog 201 #[.slice A n c, .int .i64 left] w fun e w' => e = .returned (.int .i64 (Pl.szRet left (Pl.szl Pl.sz0 l))) ∧ Below w.heap.size w w' := by
  have hn : n ≤ 9223372036854775807 := by have := hl.2.1; have := hl.2.2.1; unfold maxLen at this; omega
  have hlen : Hid (l.length = n) := hl.1
  have HZ : Hid (Pl.szl Pl.sz0 l = (n : Int)) := by show _ = _; rw [Pl.szl_zero, hlen.out]
  clear hl
  by_cases h : left - (n : Int) < 0
  · go_enter Tryz.func201, Tryz.ntmps201
    go_wp2
    go_ret
    exact ⟨ret_int (by rw [HZ.out, Pl.szRet_lt (by omega)]), Below.refl _ _⟩
  · go_enter Tryz.func201, Tryz.ntmps201
    go_wp2
    go_ret
    exact ⟨ret_int (by rw [HZ.out, Pl.szRet_ge (by omega)]), Below.refl _ _⟩
set_option maxHeartbeats 1000000 in
theorem szRow_c (x : Row) (A : Option Addr) (n c : Nat) (left : Int) (w : World) (B : Nat) (g0 : Mm.SlAt smp w B x.Samples A n c) (s0 : x.Name.size ≤ maxLen) (hB : B ≤ w.heap.size) (h0 : 0 ≤ left) (h1 : left ≤ 1048576) :
    Calls Tryz.prog 184 #[.agg #[.string x.Name, .slice A n c], .int .i64 left] w fun e w' => e = .returned (.int .i64 (Pl.szRet left (Pl.szRow x))) ∧ Below w.heap.size w w' := by
  unfold maxLen at s0
  have HK := Lib.hid (Mm.Blk.new w 221 [.string x.Name, .slice A n c])
  have hb0 : Below w.heap.size w (w.alloc (.cells #[.string x.Name, .slice A n c] 221)) := below_new (Below.refl _ _) _
  have HB0 := Lib.hid hb0
  clear hb0
  have HG := Lib.hid (And.intro hB g0)
  clear g0
  have zn0 := Pl.szStr_nn x.Name
  have e0 : Pl.szStr x.Name = (x.Name.size : Int) := rfl
  have zn1 := Pl.szl_nn (f := Pl.sz0) (Pl.sz0_nn) x.Samples
  have hz : Pl.szRow x = Pl.szStr x.Name + (Pl.szl Pl.sz0) x.Samples := rfl
  have HZ := Lib.hid hz
  clear hz
  have E0 := Lib.hid e0
  clear e0
  by_cases t0 : left - Pl.szStr x.Name < 0
  · have t0' := t0
    rw [E0.out] at t0'
    go_enter Tryz.func184, Tryz.ntmps184
    go_wp2
    go_ret
    exact ⟨ret_int (by rw [HZ.out, Pl.szRet_lt (by omega)]), HB0.out⟩
  · skip
    by_cases t1 : left - Pl.szStr x.Name - (Pl.szl Pl.sz0) x.Samples < 0
    · have t0' := t0
      rw [E0.out] at t0'
      have t1' := t1
      rw [E0.out] at t1'
      go_enter Tryz.func184, Tryz.ntmps184
      go_wp2_with fail
      refine (szSampleS_c x.Samples _ _ _ _ _ B (HG.out.2.keep fun b hb => HB0.out.block b (Nat.lt_of_lt_of_le hb HG.out.1)) (Nat.le_trans HG.out.1 HB0.out.size) (by omega) (by omega)).mono ?_
      rintro e w1 ⟨rfl, hb1⟩
      rw [Pl.szRet_lt (by omega)]
      have HB1 := Lib.hid (below_step HB0.out hb1)
      have HK := Lib.hid (HK.out.bel hb1)
      clear hb1
      go_wp2
      go_ret
      exact ⟨ret_int (by rw [HZ.out, Pl.szRet_lt (by omega)]), HB1.out⟩
    · have t0' := t0
      rw [E0.out] at t0'
      have t1' := t1
      rw [E0.out] at t1'
      go_enter Tryz.func184, Tryz.ntmps184
      go_wp2_with fail
      refine (szSampleS_c x.Samples _ _ _ _ _ B (HG.out.2.keep fun b hb => HB0.out.block b (Nat.lt_of_lt_of_le hb HG.out.1)) (Nat.le_trans HG.out.1 HB0.out.size) (by omega) (by omega)).mono ?_
      rintro e w1 ⟨rfl, hb1⟩
      rw [Pl.szRet_ge (by omega)]
      have HB1 := Lib.hid (below_step HB0.out hb1)
      have HK := Lib.hid (HK.out.bel hb1)
      clear hb1
      go_wp2
      go_ret
      exact ⟨ret_int (by have hh : Pl.szRet left (Pl.szRow x) = left - Pl.szRow x := Pl.szRet_ge (by rw [HZ.out]; omega); have h2 := HZ.out; have := E0.out; omega), HB1.out⟩
set_option maxHeartbeats 1000000 in
theorem szRowS_c (l : List Row) (A : Option Addr) (n c : Nat) (left : Int) (w : World) (B : Nat) (hl : Mm.SlAt rRow w B l A n c) (hB : B ≤ w.heap.size) (h0 : 0 ≤ left) (h1 : left ≤ 1048576) :
    Calls Tryz.prog 161 #[.slice A n c, .int .i64 left] w fun e w' => e = .returned (.int .i64 (Pl.szRet left (Pl.szl Pl.szRow l))) ∧ Below w.heap.size w w' := by
  have hn : n ≤ 9223372036854775807 := by have := hl.2.1; have := hl.2.2.1; unfold maxLen at this; omega
  have hlen : Hid (l.length = n) := hl.1
  have HL := Lib.hid hl
  have HZ : Hid (Pl.szl Pl.szRow l = (n : Int) + Pl.sumI Pl.szRow l) := by show _ = _; unfold Pl.szl; rw [hlen.out]
  have HN : Hid (∀ x : Row, 0 ≤ Pl.szRow x) := Pl.szRow_nn
  have hs0 := Pl.sumI_nn HN.out l
  clear hl
  by_cases h : left - (n : Int) < 0
  · go_enter Tryz.func161, Tryz.ntmps161
    go_wp2
    go_ret
    exact ⟨ret_int (by rw [HZ.out, Pl.szRet_lt (by omega)]), Below.refl _ _⟩
  · go_enter Tryz.func161, Tryz.ntmps161
    go_wp2
    go_loopw [1, 5] (fun lf i wr => ∃ k : Nat, k ≤ n ∧ i = .int .i64 k ∧ (∃ s : Int, 0 ≤ s ∧ s ≤ left ∧ s = left - n - Pl.sumI Pl.szRow (l.take k) ∧ lf = .int .i64 s) ∧ Below w.heap.size w wr) (fun _ i _ => n - (intOf i).toNat)
    case atStart => exact ⟨0, Nat.zero_le _, rfl, ⟨_, by omega, by omega, by simp [Pl.sumI], rfl⟩, Below.refl _ _⟩
    case round =>
      obtain ⟨k, hk, rfl, ⟨s, hs1, hs2, hs3, rfl⟩, hbel⟩ := hrel
      rename_i wr _
      have HS := Lib.hid hs3
      clear hs3
      by_cases hlt : k < n
      · obtain ⟨x, b, off, A, n, c, hx, rfl, hb, f0, f1, d0, d1⟩ := rRow_get (HL.out.keep (w' := wr) (fun b hb => hbel.block b (by omega))) hlt
        have hBw : B ≤ wr.heap.size := Nat.le_trans hB hbel.size
        have hx0 := HN.out x
        have hsn : Pl.sumI Pl.szRow (l.take (k + 1)) = Pl.sumI Pl.szRow (l.take k) + Pl.szRow x := Pl.sumI_succ hx
        have hst := Pl.sumI_take HN.out l (k + 1)
        have HA := Lib.hid (And.intro hsn hst)
        clear hsn hst hx
        have HF := Lib.hid (And.intro f1 f0)
        clear f0 f1
        by_cases hneg : s - Pl.szRow x < 0
        · go_wp2_with fail
          refine (szRow_c x _ _ _ _ _ B HF.out.1 HF.out.2 hBw (by omega) (by omega)).mono ?_
          rintro e w1 ⟨rfl, hb1⟩
          rw [Pl.szRet_lt hneg]
          go_wp2
          go_ret
          exact ⟨ret_int (by rw [HZ.out, Pl.szRet_lt (by have := HA.out.1; have := HA.out.2; have := HS.out; omega)]), below_step hbel hb1⟩
        · go_wp2_with fail
          refine (szRow_c x _ _ _ _ _ B HF.out.1 HF.out.2 hBw (by omega) (by omega)).mono ?_
          rintro e w1 ⟨rfl, hb1⟩
          rw [Pl.szRet_ge (by omega)]
          go_wp2
          go_roundw
          case rel => exact ⟨k + 1, by omega, by go_num, ⟨_, by omega, by omega, by have := HA.out.1; have := HS.out; omega, rfl⟩, below_step hbel hb1⟩
          case measure => simp [intOf]; omega
      · have HK : Hid (l.take k = l) := List.take_of_length_le (by have := hlen.out; omega)
        go_wp2
        go_ret
        exact ⟨ret_int (by have := HS.out; rw [HK.out] at this; rw [HZ.out, Pl.szRet_ge (by omega)]; omega), hbel⟩
set_option maxHeartbeats 1000000 in
theorem szHead_c (x : Head) (A : Option Addr) (n c : Nat) (left : Int) (w : World) (B : Nat) (g0 : Mm.SlAt rRow w B x.Rows A n c) (hB : B ≤ w.heap.size) (h0 : 0 ≤ left) (h1 : left ≤ 1048576) :
    Calls Tryz.prog 122 #[.agg #[.slice A n c, .int .i64 x.Offset], .int .i64 left] w fun e w' => e = .returned (.int .i64 (Pl.szRet left (Pl.szHead x))) ∧ Below w.heap.size w w' := by
  have HK := Lib.hid (Mm.Blk.new w 162 [.slice A n c, .int .i64 x.Offset])
  have hb0 : Below w.heap.size w (w.alloc (.cells #[.slice A n c, .int .i64 x.Offset] 162)) := below_new (Below.refl _ _) _
  have HB0 := Lib.hid hb0
  clear hb0
  have HG := Lib.hid (And.intro hB g0)
  clear g0
  have zn0 := Pl.szl_nn (f := Pl.szRow) (Pl.szRow_nn) x.Rows
  have hz : Pl.szHead x = (Pl.szl Pl.szRow) x.Rows := rfl
  have HZ := Lib.hid hz
  clear hz
  by_cases t0 : left - (Pl.szl Pl.szRow) x.Rows < 0
  · go_enter Tryz.func122, Tryz.ntmps122
    go_wp2_with fail
    refine (szRowS_c x.Rows _ _ _ _ _ B (HG.out.2.keep fun b hb => HB0.out.block b (Nat.lt_of_lt_of_le hb HG.out.1)) (Nat.le_trans HG.out.1 HB0.out.size) (by omega) (by omega)).mono ?_
    rintro e w1 ⟨rfl, hb1⟩
    rw [Pl.szRet_lt (by omega)]
    have HB1 := Lib.hid (below_step HB0.out hb1)
    have HK := Lib.hid (HK.out.bel hb1)
    clear hb1
    go_wp2
    go_ret
    exact ⟨ret_int (by rw [HZ.out, Pl.szRet_lt (by omega)]), HB1.out⟩
  · go_enter Tryz.func122, Tryz.ntmps122
    go_wp2_with fail
    refine (szRowS_c x.Rows _ _ _ _ _ B (HG.out.2.keep fun b hb => HB0.out.block b (Nat.lt_of_lt_of_le hb HG.out.1)) (Nat.le_trans HG.out.1 HB0.out.size) (by omega) (by omega)).mono ?_
    rintro e w1 ⟨rfl, hb1⟩
    rw [Pl.szRet_ge (by omega)]
    have HB1 := Lib.hid (below_step HB0.out hb1)
    have HK := Lib.hid (HK.out.bel hb1)
    clear hb1
    go_wp2
    go_ret
    exact ⟨ret_int (by have hh : Pl.szRet left (Pl.szHead x) = left - Pl.szHead x := Pl.szRet_ge (by rw [HZ.out]; omega); have h2 := HZ.out; omega), HB1.out⟩
set_option maxHeartbeats 1000000 in
theorem szHeadS_c (l : List Head) (A : Option Addr) (n c : Nat) (left : Int) (w : World) (B : Nat) (hl : Mm.SlAt rHead w B l A n c) (hB : B ≤ w.heap.size) (h0 : 0 ≤ left) (h1 : left ≤ 1048576) :
    Calls Tryz.prog 67 #[.slice A n c, .int .i64 left] w fun e w' => e = .returned (.int .i64 (Pl.szRet left (Pl.szl Pl.szHead l))) ∧ Below w.heap.size w w' := by
  have hn : n ≤ 9223372036854775807 := by have := hl.2.1; have := hl.2.2.1; unfold maxLen at this; omega
  have hlen : Hid (l.length = n) := hl.1
  have HL := Lib.hid hl
  have HZ : Hid (Pl.szl Pl.szHead l = (n : Int) + Pl.sumI Pl.szHead l) := by show _ = _; unfold Pl.szl; rw [hlen.out]
  have HN : Hid (∀ x : Head, 0 ≤ Pl.szHead x) := Pl.szHead_nn
  have hs0 := Pl.sumI_nn HN.out l
  clear hl
  by_cases h : left - (n : Int) < 0
  · go_enter Tryz.func67, Tryz.ntmps67
    go_wp2
    go_ret
    exact ⟨ret_int (by rw [HZ.out, Pl.szRet_lt (by omega)]), Below.refl _ _⟩
  · go_enter Tryz.func67, Tryz.ntmps67
    go_wp2
    go_loopw [1, 5] (fun lf i wr => ∃ k : Nat, k ≤ n ∧ i = .int .i64 k ∧ (∃ s : Int, 0 ≤ s ∧ s ≤ left ∧ s = left - n - Pl.sumI Pl.szHead (l.take k) ∧ lf = .int .i64 s) ∧ Below w.heap.size w wr) (fun _ i _ => n - (intOf i).toNat)
    case atStart => exact ⟨0, Nat.zero_le _, rfl, ⟨_, by omega, by omega, by simp [Pl.sumI], rfl⟩, Below.refl _ _⟩
    case round =>
      obtain ⟨k, hk, rfl, ⟨s, hs1, hs2, hs3, rfl⟩, hbel⟩ := hrel
      rename_i wr _
      have HS := Lib.hid hs3
      clear hs3
      by_cases hlt : k < n
      · obtain ⟨x, b, off, A, n, c, hx, rfl, hb, f0, f1, d0, d1⟩ := rHead_get (HL.out.keep (w' := wr) (fun b hb => hbel.block b (by omega))) hlt
        have hBw : B ≤ wr.heap.size := Nat.le_trans hB hbel.size
        have hx0 := HN.out x
        have hsn : Pl.sumI Pl.szHead (l.take (k + 1)) = Pl.sumI Pl.szHead (l.take k) + Pl.szHead x := Pl.sumI_succ hx
        have hst := Pl.sumI_take HN.out l (k + 1)
        have HA := Lib.hid (And.intro hsn hst)
        clear hsn hst hx
        have HF := Lib.hid f0
        clear f0 f1
        by_cases hneg : s - Pl.szHead x < 0
        · go_wp2_with fail
          refine (szHead_c x _ _ _ _ _ B HF.out hBw (by omega) (by omega)).mono ?_
          rintro e w1 ⟨rfl, hb1⟩
          rw [Pl.szRet_lt hneg]
          go_wp2
          go_ret
          exact ⟨ret_int (by rw [HZ.out, Pl.szRet_lt (by have := HA.out.1; have := HA.out.2; have := HS.out; omega)]), below_step hbel hb1⟩
        · go_wp2_with fail
          refine (szHead_c x _ _ _ _ _ B HF.out hBw (by omega) (by omega)).mono ?_
          rintro e w1 ⟨rfl, hb1⟩
          rw [Pl.szRet_ge (by omega)]
          go_wp2
          go_roundw
          case rel => exact ⟨k + 1, by omega, by go_num, ⟨_, by omega, by omega, by have := HA.out.1; have := HS.out; omega, rfl⟩, below_step hbel hb1⟩
          case measure => simp [intOf]; omega
      · have HK : Hid (l.take k = l) := List.take_of_length_le (by have := hlen.out; omega)
        go_wp2
        go_ret
        exact ⟨ret_int (by have := HS.out; rw [HK.out] at this; rw [HZ.out, Pl.szRet_ge (by omega)]; omega), hbel⟩
set_option maxHeartbeats 1000000 in
theorem szPiece_c (x : Piece) (A : Option Addr) (n c : Nat) (left : Int) (w : World) (B : Nat) (g0 : Mm.SlAt Mm.int w B x.Index A n c) (s0 : x.Bytes.size ≤ maxLen) (hB : B ≤ w.heap.size) (h0 : 0 ≤ left) (h1 : left ≤ 1048576) :
    Calls Tryz.prog 183 #[.agg #[.int .i64 x.From, .string x.Bytes, .slice A n c], .int .i64 left] w fun e w' => e = .returned (.int .i64 (Pl.szRet left (Pl.szPiece x))) ∧ Below w.heap.size w w' := by
  unfold maxLen at s0
  have HK := Lib.hid (Mm.Blk.new w 217 [.int .i64 x.From, .string x.Bytes, .slice A n c])
  have hb0 : Below w.heap.size w (w.alloc (.cells #[.int .i64 x.From, .string x.Bytes, .slice A n c] 217)) := below_new (Below.refl _ _) _
  have HB0 := Lib.hid hb0
  clear hb0
  have HG := Lib.hid (And.intro hB g0)
  clear g0
  have zn0 := Pl.szStr_nn x.Bytes
  have e0 : Pl.szStr x.Bytes = (x.Bytes.size : Int) := rfl
  have zn1 := Pl.szl_nn (f := Pl.sz0) (Pl.sz0_nn) x.Index
  have hz : Pl.szPiece x = Pl.szStr x.Bytes + (Pl.szl Pl.sz0) x.Index := rfl
  have HZ := Lib.hid hz
  clear hz
  have E0 := Lib.hid e0
  clear e0
  by_cases t0 : left - Pl.szStr x.Bytes < 0
  · have t0' := t0
    rw [E0.out] at t0'
    go_enter Tryz.func183, Tryz.ntmps183
    go_wp2
    go_ret
    exact ⟨ret_int (by rw [HZ.out, Pl.szRet_lt (by omega)]), HB0.out⟩
  · skip
    by_cases t1 : left - Pl.szStr x.Bytes - (Pl.szl Pl.sz0) x.Index < 0
    · have t0' := t0
      rw [E0.out] at t0'
      have t1' := t1
      rw [E0.out] at t1'
      go_enter Tryz.func183, Tryz.ntmps183
      go_wp2_with fail
      refine (szIntS_c x.Index _ _ _ _ _ B (HG.out.2.keep fun b hb => HB0.out.block b (Nat.lt_of_lt_of_le hb HG.out.1)) (Nat.le_trans HG.out.1 HB0.out.size) (by omega) (by omega)).mono ?_
      rintro e w1 ⟨rfl, hb1⟩
      rw [Pl.szRet_lt (by omega)]
      have HB1 := Lib.hid (below_step HB0.out hb1)
      have HK := Lib.hid (HK.out.bel hb1)
      clear hb1
      go_wp2
      go_ret
      exact ⟨ret_int (by rw [HZ.out, Pl.szRet_lt (by omega)]), HB1.out⟩
    · have t0' := t0
      rw [E0.out] at t0'
      have t1' := t1
      rw [E0.out] at t1'
      go_enter Tryz.func183, Tryz.ntmps183
      go_wp2_with fail
      refine (szIntS_c x.Index _ _ _ _ _ B (HG.out.2.keep fun b hb => HB0.out.block b (Nat.lt_of_lt_of_le hb HG.out.1)) (Nat.le_trans HG.out.1 HB0.out.size) (by omega) (by omega)).mono ?_
      rintro e w1 ⟨rfl, hb1⟩
      rw [Pl.szRet_ge (by omega)]
      have HB1 := Lib.hid (below_step HB0.out hb1)
      have HK := Lib.hid (HK.out.bel hb1)
      clear hb1
      go_wp2
      go_ret
      exact ⟨ret_int (by have hh : Pl.szRet left (Pl.szPiece x) = left - Pl.szPiece x := Pl.szRet_ge (by rw [HZ.out]; omega); have h2 := HZ.out; have := E0.out; omega), HB1.out⟩
set_option maxHeartbeats 1000000 in
theorem szPieceS_c (l : List Piece) (A : Option Addr) (n c : Nat) (left : Int) (w : World) (B : Nat) (hl : Mm.SlAt rPiece w B l A n c) (hB : B ≤ w.heap.size) (h0 : 0 ≤ left) (h1 : left ≤ 1048576) :
    Calls Tryz.prog 160 #[.slice A n c, .int .i64 left] w fun e w' => e = .returned (.int .i64 (Pl.szRet left (Pl.szl Pl.szPiece l))) ∧ Below w.heap.size w w' := by
  have hn : n ≤ 9223372036854775807 := by have := hl.2.1; have := hl.2.2.1; unfold maxLen at this; omega
  have hlen : Hid (l.length = n) := hl.1
  have HL := Lib.hid hl
  have HZ : Hid (Pl.szl Pl.szPiece l = (n : Int) + Pl.sumI Pl.szPiece l) := by show _ = _; unfold Pl.szl; rw [hlen.out]
  have HN : Hid (∀ x : Piece, 0 ≤ Pl.szPiece x) := Pl.szPiece_nn
  have hs0 := Pl.sumI_nn HN.out l
  clear hl
  by_cases h : left - (n : Int) < 0
  · go_enter Tryz.func160, Tryz.ntmps160
    go_wp2
    go_ret
    exact ⟨ret_int (by rw [HZ.out, Pl.szRet_lt (by omega)]), Below.refl _ _⟩
  · go_enter Tryz.func160, Tryz.ntmps160
    go_wp2
    go_loopw [1, 5] (fun lf i wr => ∃ k : Nat, k ≤ n ∧ i = .int .i64 k ∧ (∃ s : Int, 0 ≤ s ∧ s ≤ left ∧ s = left - n - Pl.sumI Pl.szPiece (l.take k) ∧ lf = .int .i64 s) ∧ Below w.heap.size w wr) (fun _ i _ => n - (intOf i).toNat)
    case atStart => exact ⟨0, Nat.zero_le _, rfl, ⟨_, by omega, by omega, by simp [Pl.sumI], rfl⟩, Below.refl _ _⟩
    case round =>
      obtain ⟨k, hk, rfl, ⟨s, hs1, hs2, hs3, rfl⟩, hbel⟩ := hrel
      rename_i wr _
      have HS := Lib.hid hs3
      clear hs3
      by_cases hlt : k < n
      · obtain ⟨x, b, off, A, n, c, hx, rfl, hb, f0, f1, f2, d0, d1, d2⟩ := rPiece_get (HL.out.keep (w' := wr) (fun b hb => hbel.block b (by omega))) hlt
        have hBw : B ≤ wr.heap.size := Nat.le_trans hB hbel.size
        have hx0 := HN.out x
        have hsn : Pl.sumI Pl.szPiece (l.take (k + 1)) = Pl.sumI Pl.szPiece (l.take k) + Pl.szPiece x := Pl.sumI_succ hx
        have hst := Pl.sumI_take HN.out l (k + 1)
        have HA := Lib.hid (And.intro hsn hst)
        clear hsn hst hx
        have HF := Lib.hid (And.intro f2 f1)
        clear f0 f1 f2
        by_cases hneg : s - Pl.szPiece x < 0
        · go_wp2_with fail
          refine (szPiece_c x _ _ _ _ _ B HF.out.1 HF.out.2 hBw (by omega) (by omega)).mono ?_
          rintro e w1 ⟨rfl, hb1⟩
          rw [Pl.szRet_lt hneg]
          go_wp2
          go_ret
          exact ⟨ret_int (by rw [HZ.out, Pl.szRet_lt (by have := HA.out.1; have := HA.out.2; have := HS.out; omega)]), below_step hbel hb1⟩
        · go_wp2_with fail
          refine (szPiece_c x _ _ _ _ _ B HF.out.1 HF.out.2 hBw (by omega) (by omega)).mono ?_
          rintro e w1 ⟨rfl, hb1⟩
          rw [Pl.szRet_ge (by omega)]
          go_wp2
          go_roundw
          case rel => exact ⟨k + 1, by omega, by go_num, ⟨_, by omega, by omega, by have := HA.out.1; have := HS.out; omega, rfl⟩, below_step hbel hb1⟩
          case measure => simp [intOf]; omega
      · have HK : Hid (l.take k = l) := List.take_of_length_le (by have := hlen.out; omega)
        go_wp2
        go_ret
        exact ⟨ret_int (by have := HS.out; rw [HK.out] at this; rw [HZ.out, Pl.szRet_ge (by omega)]; omega), hbel⟩
set_option maxHeartbeats 1000000 in
theorem szLog_c (x : Log) (A : Option Addr) (n c : Nat) (left : Int) (w : World) (B : Nat) (g0 : Mm.SlAt rPiece w B x.Pieces A n c) (hB : B ≤ w.heap.size) (h0 : 0 ≤ left) (h1 : left ≤ 1048576) :
    Calls Tryz.prog 121 #[.agg #[.slice A n c, .int .i64 x.Begin], .int .i64 left] w fun e w' => e = .returned (.int .i64 (Pl.szRet left (Pl.szLog x))) ∧ Below w.heap.size w w' := by
  have HK := Lib.hid (Mm.Blk.new w 158 [.slice A n c, .int .i64 x.Begin])
  have hb0 : Below w.heap.size w (w.alloc (.cells #[.slice A n c, .int .i64 x.Begin] 158)) := below_new (Below.refl _ _) _
  have HB0 := Lib.hid hb0
  clear hb0
  have HG := Lib.hid (And.intro hB g0)
  clear g0
  have zn0 := Pl.szl_nn (f := Pl.szPiece) (Pl.szPiece_nn) x.Pieces
  have hz : Pl.szLog x = (Pl.szl Pl.szPiece) x.Pieces := rfl
  have HZ := Lib.hid hz
  clear hz
  by_cases t0 : left - (Pl.szl Pl.szPiece) x.Pieces < 0
  · go_enter Tryz.func121, Tryz.ntmps121
    go_wp2_with fail
    refine (szPieceS_c x.Pieces _ _ _ _ _ B (HG.out.2.keep fun b hb => HB0.out.block b (Nat.lt_of_lt_of_le hb HG.out.1)) (Nat.le_trans HG.out.1 HB0.out.size) (by omega) (by omega)).mono ?_
    rintro e w1 ⟨rfl, hb1⟩
    rw [Pl.szRet_lt (by omega)]
    have HB1 := Lib.hid (below_step HB0.out hb1)
    have HK := Lib.hid (HK.out.bel hb1)
    clear hb1
    go_wp2
    go_ret
    exact ⟨ret_int (by rw [HZ.out, Pl.szRet_lt (by omega)]), HB1.out⟩
  · go_enter Tryz.func121, Tryz.ntmps121
    go_wp2_with fail
    refine (szPieceS_c x.Pieces _ _ _ _ _ B (HG.out.2.keep fun b hb => HB0.out.block b (Nat.lt_of_lt_of_le hb HG.out.1)) (Nat.le_trans HG.out.1 HB0.out.size) (by omega) (by omega)).mono ?_
    rintro e w1 ⟨rfl, hb1⟩
    rw [Pl.szRet_ge (by omega)]
    have HB1 := Lib.hid (below_step HB0.out hb1)
    have HK := Lib.hid (HK.out.bel hb1)
    clear hb1
    go_wp2
    go_ret
    exact ⟨ret_int (by have hh : Pl.szRet left (Pl.szLog x) = left - Pl.szLog x := Pl.szRet_ge (by rw [HZ.out]; omega); have h2 := HZ.out; omega), HB1.out⟩
set_option maxHeartbeats 1000000 in
theorem szLogS_c (l : List Log) (A : Option Addr) (n c : Nat) (left : Int) (w : World) (B : Nat) (hl : Mm.SlAt rLog w B l A n c) (hB : B ≤ w.heap.size) (h0 : 0 ≤ left) (h1 : left ≤ 1048576) :
    Calls Tryz.prog 66 #[.slice A n c, .int .i64 left] w fun e w' => e = .returned (.int .i64 (Pl.szRet left (Pl.szl Pl.szLog l))) ∧ Below w.heap.size w w' := by
  have hn : n ≤ 9223372036854775807 := by have := hl.2.1; have := hl.2.2.1; unfold maxLen at this; omega
  have hlen : Hid (l.length = n) := hl.1
  have HL := Lib.hid hl
  have HZ : Hid (Pl.szl Pl.szLog l = (n : Int) + Pl.sumI Pl.szLog l) := by show _ = _; unfold Pl.szl; rw [hlen.out]
  have HN : Hid (∀ x : Log, 0 ≤ Pl.szLog x) := Pl.szLog_nn
  have hs0 := Pl.sumI_nn HN.out l
  clear hl
  by_cases h : left - (n : Int) < 0
  · go_enter Tryz.func66, Tryz.ntmps66
    go_wp2
    go_ret
    exact ⟨ret_int (by rw [HZ.out, Pl.szRet_lt (by omega)]), Below.refl _ _⟩
  · go_enter Tryz.func66, Tryz.ntmps66
    go_wp2
    go_loopw [1, 5] (fun lf i wr => ∃ k : Nat, k ≤ n ∧ i = .int .i64 k ∧ (∃ s : Int, 0 ≤ s ∧ s ≤ left ∧ s = left - n - Pl.sumI Pl.szLog (l.take k) ∧ lf = .int .i64 s) ∧ Below w.heap.size w wr) (fun _ i _ => n - (intOf i).toNat)
    case atStart => exact ⟨0, Nat.zero_le _, rfl, ⟨_, by omega, by omega, by simp [Pl.sumI], rfl⟩, Below.refl _ _⟩
    case round =>
      obtain ⟨k, hk, rfl, ⟨s, hs1, hs2, hs3, rfl⟩, hbel⟩ := hrel
      rename_i wr _
      have HS := Lib.hid hs3
      clear hs3
      by_cases hlt : k < n
      · obtain ⟨x, b, off, A, n, c, hx, rfl, hb, f0, f1, d0, d1⟩ := rLog_get (HL.out.keep (w' := wr) (fun b hb => hbel.block b (by omega))) hlt
        have hBw : B ≤ wr.heap.size := Nat.le_trans hB hbel.size
        have hx0 := HN.out x
        have hsn : Pl.sumI Pl.szLog (l.take (k + 1)) = Pl.sumI Pl.szLog (l.take k) + Pl.szLog x := Pl.sumI_succ hx
        have hst := Pl.sumI_take HN.out l (k + 1)
        have HA := Lib.hid (And.intro hsn hst)
        clear hsn hst hx
        have HF := Lib.hid f0
        clear f0 f1
        by_cases hneg : s - Pl.szLog x < 0
        · go_wp2_with fail
          refine (szLog_c x _ _ _ _ _ B HF.out hBw (by omega) (by omega)).mono ?_
          rintro e w1 ⟨rfl, hb1⟩
          rw [Pl.szRet_lt hneg]
          go_wp2
          go_ret
          exact ⟨ret_int (by rw [HZ.out, Pl.szRet_lt (by have := HA.out.1; have := HA.out.2; have := HS.out; omega)]), below_step hbel hb1⟩
        · go_wp2_with fail
          refine (szLog_c x _ _ _ _ _ B HF.out hBw (by omega) (by omega)).mono ?_
          rintro e w1 ⟨rfl, hb1⟩
          rw [Pl.szRet_ge (by omega)]
          go_wp2
          go_roundw
          case rel => exact ⟨k + 1, by omega, by go_num, ⟨_, by omega, by omega, by have := HA.out.1; have := HS.out; omega, rfl⟩, below_step hbel hb1⟩
          case measure => simp [intOf]; omega
      · have HK : Hid (l.take k = l) := List.take_of_length_le (by have := hlen.out; omega)
        go_wp2
        go_ret
        exact ⟨ret_int (by have := HS.out; rw [HK.out] at this; rw [HZ.out, Pl.szRet_ge (by omega)]; omega), hbel⟩
set_option maxHeartbeats 1000000 in
theorem szHouse_c (x : House) (A0 : Option Addr) (n0 c0 : Nat) (A1 : Option Addr) (n1 c1 : Nat) (A2 : Option Addr) (n2 c2 : Nat) (left : Int) (w : World) (B : Nat) (g0 : Mm.SlAt rLog w B x.Logs A0 n0 c0) (g1 : Mm.SlAt rHead w B x.Heads A1 n1 c1) (g2 : Mm.SlAt rHead w B x.Kept A2 n2 c2) (hB : B ≤ w.heap.size) (h0 : 0 ≤ left) (h1 : left ≤ 1048576) :
    Calls Tryz.prog 22 #[.agg #[.slice A0 n0 c0, .slice A1 n1 c1, .slice A2 n2 c2], .int .i64 left] w fun e w' => e = .returned (.int .i64 (Pl.szRet left (Pl.szHouse x))) ∧ Below w.heap.size w w' := by
  have HK := Lib.hid (Mm.Blk.new w 43 [.slice A0 n0 c0, .slice A1 n1 c1, .slice A2 n2 c2])
  have hb0 : Below w.heap.size w (w.alloc (.cells #[.slice A0 n0 c0, .slice A1 n1 c1, .slice A2 n2 c2] 43)) := below_new (Below.refl _ _) _
  have HB0 := Lib.hid hb0
  clear hb0
  have HG := Lib.hid (And.intro hB (And.intro g0 (And.intro g1 g2)))
  clear g0 g1 g2
  have zn0 := Pl.szl_nn (f := Pl.szLog) (Pl.szLog_nn) x.Logs
  have zn1 := Pl.szl_nn (f := Pl.szHead) (Pl.szHead_nn) x.Heads
  have zn2 := Pl.szl_nn (f := Pl.szHead) (Pl.szHead_nn) x.Kept
  have hz : Pl.szHouse x = (Pl.szl Pl.szLog) x.Logs + (Pl.szl Pl.szHead) x.Heads + (Pl.szl Pl.szHead) x.Kept := rfl
  have HZ := Lib.hid hz
  clear hz
  by_cases t0 : left - (Pl.szl Pl.szLog) x.Logs < 0
  · go_enter Tryz.func22, Tryz.ntmps22
    go_wp2_with fail
    refine (szLogS_c x.Logs _ _ _ _ _ B (HG.out.2.1.keep fun b hb => HB0.out.block b (Nat.lt_of_lt_of_le hb HG.out.1)) (Nat.le_trans HG.out.1 HB0.out.size) (by omega) (by omega)).mono ?_
    rintro e w1 ⟨rfl, hb1⟩
    rw [Pl.szRet_lt (by omega)]
    have HB1 := Lib.hid (below_step HB0.out hb1)
    have HK := Lib.hid (HK.out.bel hb1)
    have p1_1 := HK.out.cell (i := 1) rfl
    have p1_2 := HK.out.cell (i := 2) rfl
    clear hb1
    go_wp2
    go_ret
    exact ⟨ret_int (by rw [HZ.out, Pl.szRet_lt (by omega)]), HB1.out⟩
  · skip
    by_cases t1 : left - (Pl.szl Pl.szLog) x.Logs - (Pl.szl Pl.szHead) x.Heads < 0
    · go_enter Tryz.func22, Tryz.ntmps22
      go_wp2_with fail
      refine (szLogS_c x.Logs _ _ _ _ _ B (HG.out.2.1.keep fun b hb => HB0.out.block b (Nat.lt_of_lt_of_le hb HG.out.1)) (Nat.le_trans HG.out.1 HB0.out.size) (by omega) (by omega)).mono ?_
      rintro e w1 ⟨rfl, hb1⟩
      rw [Pl.szRet_ge (by omega)]
      have HB1 := Lib.hid (below_step HB0.out hb1)
      have HK := Lib.hid (HK.out.bel hb1)
      have p1_1 := HK.out.cell (i := 1) rfl
      have p1_2 := HK.out.cell (i := 2) rfl
      clear hb1
      go_wp2_with fail
      refine (szHeadS_c x.Heads _ _ _ _ _ B (HG.out.2.2.1.keep fun b hb => HB1.out.block b (Nat.lt_of_lt_of_le hb HG.out.1)) (Nat.le_trans HG.out.1 HB1.out.size) (by omega) (by omega)).mono ?_
      rintro e w2 ⟨rfl, hb2⟩
      rw [Pl.szRet_lt (by omega)]
      have HB2 := Lib.hid (below_step HB1.out hb2)
      have HK := Lib.hid (HK.out.bel hb2)
      have p2_2 := HK.out.cell (i := 2) rfl
      clear hb2
      go_wp2
      go_ret
      exact ⟨ret_int (by rw [HZ.out, Pl.szRet_lt (by omega)]), HB2.out⟩
    · skip
      by_cases t2 : left - (Pl.szl Pl.szLog) x.Logs - (Pl.szl Pl.szHead) x.Heads - (Pl.szl Pl.szHead) x.Kept < 0
      · go_enter Tryz.func22, Tryz.ntmps22
        go_wp2_with fail
        refine (szLogS_c x.Logs _ _ _ _ _ B (HG.out.2.1.keep fun b hb => HB0.out.block b (Nat.lt_of_lt_of_le hb HG.out.1)) (Nat.le_trans HG.out.1 HB0.out.size) (by omega) (by omega)).mono ?_
        rintro e w1 ⟨rfl, hb1⟩
        rw [Pl.szRet_ge (by omega)]
        have HB1 := Lib.hid (below_step HB0.out hb1)
        have HK := Lib.hid (HK.out.bel hb1)
        have p1_1 := HK.out.cell (i := 1) rfl
        have p1_2 := HK.out.cell (i := 2) rfl
        clear hb1
        go_wp2_with fail
        refine (szHeadS_c x.Heads _ _ _ _ _ B (HG.out.2.2.1.keep fun b hb => HB1.out.block b (Nat.lt_of_lt_of_le hb HG.out.1)) (Nat.le_trans HG.out.1 HB1.out.size) (by omega) (by omega)).mono ?_
        rintro e w2 ⟨rfl, hb2⟩
        rw [Pl.szRet_ge (by omega)]
        have HB2 := Lib.hid (below_step HB1.out hb2)
        have HK := Lib.hid (HK.out.bel hb2)
        have p2_2 := HK.out.cell (i := 2) rfl
        clear hb2
        go_wp2_with fail
        refine (szHeadS_c x.Kept _ _ _ _ _ B (HG.out.2.2.2.keep fun b hb => HB2.out.block b (Nat.lt_of_lt_of_le hb HG.out.1)) (Nat.le_trans HG.out.1 HB2.out.size) (by omega) (by omega)).mono ?_
        rintro e w3 ⟨rfl, hb3⟩
        rw [Pl.szRet_lt (by omega)]
        have HB3 := Lib.hid (below_step HB2.out hb3)
        have HK := Lib.hid (HK.out.bel hb3)
        clear hb3
        go_wp2
        go_ret
        exact ⟨ret_int (by rw [HZ.out, Pl.szRet_lt (by omega)]), HB3.out⟩
      · go_enter Tryz.func22, Tryz.ntmps22
        go_wp2_with fail
        refine (szLogS_c x.Logs _ _ _ _ _ B (HG.out.2.1.keep fun b hb => HB0.out.block b (Nat.lt_of_lt_of_le hb HG.out.1)) (Nat.le_trans HG.out.1 HB0.out.size) (by omega) (by omega)).mono ?_
        rintro e w1 ⟨rfl, hb1⟩
        rw [Pl.szRet_ge (by omega)]
        have HB1 := Lib.hid (below_step HB0.out hb1)
        have HK := Lib.hid (HK.out.bel hb1)
        have p1_1 := HK.out.cell (i := 1) rfl
        have p1_2 := HK.out.cell (i := 2) rfl
        clear hb1
        go_wp2_with fail
        refine (szHeadS_c x.Heads _ _ _ _ _ B (HG.out.2.2.1.keep fun b hb => HB1.out.block b (Nat.lt_of_lt_of_le hb HG.out.1)) (Nat.le_trans HG.out.1 HB1.out.size) (by omega) (by omega)).mono ?_
        rintro e w2 ⟨rfl, hb2⟩
        rw [Pl.szRet_ge (by omega)]
        have HB2 := Lib.hid (below_step HB1.out hb2)
        have HK := Lib.hid (HK.out.bel hb2)
        have p2_2 := HK.out.cell (i := 2) rfl
        clear hb2
        go_wp2_with fail
        refine (szHeadS_c x.Kept _ _ _ _ _ B (HG.out.2.2.2.keep fun b hb => HB2.out.block b (Nat.lt_of_lt_of_le hb HG.out.1)) (Nat.le_trans HG.out.1 HB2.out.size) (by omega) (by omega)).mono ?_
        rintro e w3 ⟨rfl, hb3⟩
        rw [Pl.szRet_ge (by omega)]
        have HB3 := Lib.hid (below_step HB2.out hb3)
        have HK := Lib.hid (HK.out.bel hb3)
        clear hb3
        go_wp2
        go_ret
        exact ⟨ret_int (by have hh : Pl.szRet left (Pl.szHouse x) = left - Pl.szHouse x := Pl.szRet_ge (by rw [HZ.out]; omega); have h2 := HZ.out; omega), HB3.out⟩
theorem szHouse_at (x : House) (cs : List Value) (left : Int) (w : World) (B : Nat) (h : rHouse.at_ w B x cs) (hB : B ≤ w.heap.size) (h0 : 0 ≤ left) (h1 : left ≤ 1048576) :
    Calls Tryz.prog 22 #[.agg cs.toArray, .int .i64 left] w fun e w' => e = .returned (.int .i64 (Pl.szRet left (Pl.szHouse x))) ∧ Below w.heap.size w w' := by
  obtain ⟨A0, n0, c0, A1, n1, c1, A2, n2, c2, rfl, g0, g1, g2⟩ := rHouse_at h
  exact szHouse_c x _ _ _ _ _ _ _ _ _ left _ B g0 g1 g2 hB h0 h1
end Go.Proofs.YtbhmdnjammnlnaaGreatDoor

/-
  The laws' own copies of arguments. No conditions.
-/
namespace Go.Proofs.YtbhmdnjammnlnaaGreatDoor
open Go.RowKit
attribute [local go_sem] und_cell
theorem Tryz.info_Int : (Tryz.prog.info? 3).map (fun i => (i.zero, i.size, i.bytes)) = some (some (.int .i64 0), 1, 8) := by kernel_rfl
set_option maxHeartbeats 1000000 in
theorem toIntS_c (l : List Int) (A : Option Addr) (n c : Nat) (w : World) (B : Nat) (hl : Mm.SlAt Mm.int w B l A n c) (hB : B ≤ w.heap.size) (hsz : Pl.szl Pl.sz0 l ≤ 1048576) :
    Calls Tryz.prog 203 #[.slice A n c] w (Mm.NewSl Mm.int 3 w l) := by
  have hlen : Hid (l.length = n) := hl.1
  have HL := Lib.hid hl
  have HN : Hid (∀ x : Int, 0 ≤ Pl.sz0 x) := Pl.sz0_nn
  have HSZ := Lib.hid hsz
  have hn : n ≤ 1048576 := by have := Pl.szl_len HN.out l; have := hlen.out; omega
  clear hl hsz
  obtain ⟨i0, hi, hz0, hz1, hz2⟩ := info_parts Tryz.info_Int
  go_enter Tryz.func203, Tryz.ntmps203
  go_wp2_with (at_make; refine wpList_make_full _ rfl _ _ 133 rfl 0 3 i0 _ 1 Tryz.underlying133 hi hz0 hz1 _ _ _ _ n rfl rfl rfl rfl (by rw [hz2]; omega) (by unfold maxLen; omega) (Nat.zero_le _) ?_; intro w1 hown hgrow)
  go_loopw [4] (fun i wr => ∃ k : Nat, k ≤ n ∧ i = .int .i64 k ∧ Mm.Filled Mm.int 3 w l 0 n k wr) (fun i _ => n - (intOf i).toNat)
  case atStart => exact ⟨0, Nat.zero_le _, rfl, Mm.Filled.start (zv := .int .i64 0) hlen.out hown hgrow ⟨rfl, (by unfold Mm.I64; simp), rfl⟩ (by decide)⟩
  case round =>
    obtain ⟨k, hk, rfl, hfil⟩ := hrel
    rename_i wr _
    have HF : Hid (Mm.Filled Mm.int 3 w l 0 n k wr) := hfil
    clear hfil hown hgrow
    by_cases hlt : k < n
    · obtain ⟨x, b, off, hx, rfl, hb, f0, d0⟩ := int_get (HL.out.keep (w' := wr) (fun b hb => HF.out.below.block b (by omega))) hlt
      have hBw : B ≤ wr.heap.size := Nat.le_trans hB HF.out.below.size
      have hxs := Pl.szl_mem HN.out (List.mem_of_getElem? hx)
      have HX := Lib.hid (And.intro hx (And.intro hxs f0))
      have hw := HF.out.lt
      clear hx hxs f0
      obtain ⟨u0, t0⟩ := HF.out.cell hlt (j := 0) (by decide)
      have d0' : wr.cell? ⟨w.heap.size, k, none⟩ = some u0 := by have e0 : k * (Mm.int).size + 0 = k := (by show k * 1 + 0 = k; omega); rwa [e0] at t0
      have z0 := HF.out.frozen (k)
      clear t0
      go_wp2
      go_roundw
      case rel => exact ⟨k + 1, by omega, by go_num, by have e0 : k * (Mm.int).size = k := (by show k * 1 = k; omega); have hst := HF.out.step hlt HX.out.1 (Below.refl _ _) (cs := [.int .i64 x]) (show (Mm.int).own _ x _ [] from ⟨rfl, HX.out.2.2, rfl⟩) List.nodup_nil (fun b hb => by cases hb); rwa [e0] at hst⟩
      case measure => simp [intOf]; omega
    · go_wp2
      go_ret
      exact HF.out.done (by omega)
theorem toSample_c (x : Sample) (w : World) :
    Calls Tryz.prog 219 #[.agg #[.int .i64 x.At, .int .i64 x.Value]] w fun e w' => e = .returned (.agg #[.int .i64 x.At, .int .i64 x.Value]) ∧ Below w.heap.size w w' := by
  go_enter Tryz.func219, Tryz.ntmps219
  go_wp2
  exact bodyPost_ret (v := .agg #[.int .i64 x.At, .int .i64 x.Value]) (by simp [results, Tryz.results219, go_sem]) rfl ⟨rfl, below_new (below_new (below_new (Below.refl _ _) _) _) _⟩
theorem Tryz.info_Sample : (Tryz.prog.info? 124).map (fun i => (i.zero, i.size, i.bytes)) = some (some (.agg #[.int .i64 0, .int .i64 0]), 2, 16) := by kernel_rfl
set_option maxHeartbeats 1000000 in
theorem toSampleS_c (l : List Sample) (A : Option Addr) (n c : Nat) (w : World) (B : Nat) (hl : Mm.SlAt smp w B l A n c) (hB : B ≤ w.heap.size) (hsz : Pl.szl Pl.sz0 l ≤ 1048576) :
    Calls Tryz.prog 204 #[.slice A n c] w (Mm.NewSl smp 124 w l) := by
  have hlen : Hid (l.length = n) := hl.1
  have HL := Lib.hid hl
  have HN : Hid (∀ x : Sample, 0 ≤ Pl.sz0 x) := Pl.sz0_nn
  have HSZ := Lib.hid hsz
  have hn : n ≤ 1048576 := by have := Pl.szl_len HN.out l; have := hlen.out; omega
  clear hl hsz
  obtain ⟨i0, hi, hz0, hz1, hz2⟩ := info_parts Tryz.info_Sample
  go_enter Tryz.func204, Tryz.ntmps204
  go_wp2_with (at_make; refine wpList_make_full _ rfl _ _ 62 rfl 0 124 i0 _ 2 Tryz.underlying62 hi hz0 hz1 _ _ _ _ n rfl rfl rfl rfl (by rw [hz2]; omega) (by unfold maxLen; omega) (Nat.zero_le _) ?_; intro w1 hown hgrow)
  go_loopw [4] (fun i wr => ∃ k : Nat, k ≤ n ∧ i = .int .i64 k ∧ Mm.Filled smp 124 w l ⟨0, 0⟩ n k wr) (fun i _ => n - (intOf i).toNat)
  case atStart => exact ⟨0, Nat.zero_le _, rfl, Mm.Filled.start (zv := .agg #[.int .i64 0, .int .i64 0]) hlen.out hown hgrow ⟨rfl, ⟨(by unfold Mm.I64; simp), (by unfold Mm.I64; simp)⟩, rfl⟩ (by decide)⟩
  case round =>
    obtain ⟨k, hk, rfl, hfil⟩ := hrel
    rename_i wr _
    have HF : Hid (Mm.Filled smp 124 w l ⟨0, 0⟩ n k wr) := hfil
    clear hfil hown hgrow
    by_cases hlt : k < n
    · obtain ⟨x, b, off, hx, rfl, hb, f0, f1, d0, d1⟩ := smp_get (HL.out.keep (w' := wr) (fun b hb => HF.out.below.block b (by omega))) hlt
      have hBw : B ≤ wr.heap.size := Nat.le_trans hB HF.out.below.size
      have hxs := Pl.szl_mem HN.out (List.mem_of_getElem? hx)
      have HX := Lib.hid (And.intro hx (And.intro hxs (And.intro f0 f1)))
      have hw := HF.out.lt
      clear hx hxs f0 f1
      go_wp2_with fail
      refine (toSample_c x _).mono ?_
      rintro e w2 ⟨rfl, hb2⟩
      have HK := Lib.hid (HF.out.keep hb2)
      obtain ⟨u0, t0⟩ := HK.out.cell hlt (j := 0) (by decide)
      have d0' : w2.cell? ⟨w.heap.size, k * 2, none⟩ = some u0 := t0
      have z0 := HK.out.frozen (k * 2)
      clear t0
      obtain ⟨u1, t1⟩ := HK.out.cell hlt (j := 1) (by decide)
      have d1' : w2.cell? ⟨w.heap.size, k * 2 + 1, none⟩ = some u1 := t1
      have z1 := HK.out.frozen (k * 2 + 1)
      clear t1
      go_wp2
      go_roundw
      case rel => exact ⟨k + 1, by omega, by go_num, HF.out.step hlt HX.out.1 hb2 (cs := [.int .i64 x.At, .int .i64 x.Value]) (fx := []) ⟨rfl, ⟨HX.out.2.2.1, HX.out.2.2.2⟩, rfl⟩ List.nodup_nil (fun b hb => by cases hb)⟩
      case measure => simp [intOf]; omega
    · go_wp2
      go_ret
      exact HF.out.done (by omega)
set_option maxHeartbeats 2000000 in
theorem toRow_c (x : Row) (A : Option Addr) (n c : Nat) (w : World) (B : Nat) (g0 : Mm.SlAt smp w B x.Samples A n c) (s0 : x.Name.size ≤ maxLen) (hB : B ≤ w.heap.size) (hsz : Pl.szRow x ≤ 1048576) :
    Calls Tryz.prog 187 #[.agg #[.string x.Name, .slice A n c]] w (Mm.NewAg rRow w x) := by
  have HG := Lib.hid (And.intro hB g0)
  have HSZ := Lib.hid hsz
  clear hsz g0
  have HS := Lib.hid s0
  clear s0
  have zn_Name := Pl.szStr_nn x.Name
  have zn_Samples := Pl.szl_nn (f := Pl.sz0) (Pl.sz0_nn) x.Samples
  have hz : Pl.szRow x = Pl.szStr x.Name + (Pl.szl Pl.sz0) x.Samples := rfl
  have HZ := Lib.hid hz
  clear hz
  have KA := Lib.hid (((Mm.Blk.new w 221 [.string x.Name, .slice A n c]).alloc (.cells #[.string ⟨#[]⟩, .slice none 0 0] 139)).alloc (.cells #[.string x.Name, .slice none 0 0] 139))
  have KR := Lib.hid ((Mm.Blk.new' (w.alloc (.cells #[.string x.Name, .slice A n c] 221)) 139 [.string ⟨#[]⟩, .slice none 0 0] (Mm.sz1 _ _)).alloc (.cells #[.string x.Name, .slice none 0 0] 139))
  have KO := Lib.hid (Mm.Blk.new' ((w.alloc (.cells #[.string x.Name, .slice A n c] 221)).alloc (.cells #[.string ⟨#[]⟩, .slice none 0 0] 139)) 139 [.string x.Name, .slice none 0 0] (Mm.sz2 _ _ _))
  have hb0 : Below w.heap.size w (((w.alloc (.cells #[.string x.Name, .slice A n c] 221)).alloc (.cells #[.string ⟨#[]⟩, .slice none 0 0] 139)).alloc (.cells #[.string x.Name, .slice none 0 0] 139)) := below_new (below_new (below_new (Below.refl _ _) _) _) _
  have HB := Lib.hid hb0
  have hlt0 := KO.out.lt
  clear hb0
  go_enter Tryz.func187, Tryz.ntmps187
  go_wp2_with fail
  refine (toSampleS_c x.Samples _ _ _ _ B (HG.out.2.keep fun b hb => HB.out.block b (Nat.lt_of_lt_of_le hb HG.out.1)) (Nat.le_trans HG.out.1 HB.out.size) (by have h1 := HZ.out; have h2 := HSZ.out; omega)).mono ?_
  rintro e w1 ⟨P1, p1, q1, fp1, rfl, ho1, hnd1, hf1, hb1⟩
  have hfb1 : ∀ b, b ∈ fp1 → b ≠ w.heap.size + 1 ∧ b ≠ w.heap.size + 2 := fun b hb => by have := hf1 b hb; have := KO.out.lt; have := KR.out.lt; omega
  have CS1 := Lib.hid ho1.olt
  have OS1 := Lib.hid (And.intro ho1 (And.intro hnd1 (And.intro hfb1 hf1)))
  have HF1 := Lib.hid (show ∀ b, b ∈ fp1 → w.heap.size ≤ b from fun b hb => Nat.le_trans HB.out.size (hf1 b hb))
  have KA := Lib.hid (KA.out.bel hb1)
  have KR := Lib.hid (KR.out.bel hb1)
  have KO := Lib.hid (KO.out.bel hb1)
  have HB := Lib.hid (below_step HB.out hb1)
  have CH1 := Lib.hid (Mm.Chg.refl [w.heap.size + 1, w.heap.size + 2] w1)
  have o1_0 := KO.out.cell (i := 0) rfl
  have r1_0 := KR.out.cell (i := 0) rfl
  have x1_0 := KO.out.frozen 0
  have y1_0 := KR.out.frozen 0
  have o1_1 := KO.out.cell (i := 1) rfl
  have r1_1 := KR.out.cell (i := 1) rfl
  have x1_1 := KO.out.frozen 1
  have y1_1 := KR.out.frozen 1
  clear hb1 ho1 hnd1 hf1 hfb1
  have KA := Lib.hid (KA.out.far (p := ⟨w.heap.size + 2, 1, none⟩) (by show w.heap.size ≠ w.heap.size + 2; omega) (.slice P1 p1 q1))
  have KR := Lib.hid (KR.out.far (p := ⟨w.heap.size + 2, 1, none⟩) (by show w.heap.size + 1 ≠ w.heap.size + 2; omega) (.slice P1 p1 q1))
  have KO := Lib.hid (KO.out.set_ 1 (.slice P1 p1 q1))
  have HB := Lib.hid (HB.out.setCell (p := ⟨w.heap.size + 2, 1, none⟩) (by show w.heap.size ≤ w.heap.size + 2; omega) (.slice P1 p1 q1))
  have CH1 := Lib.hid (CH1.out.setCell (p := ⟨w.heap.size + 2, 1, none⟩) (by simp) (.slice P1 p1 q1))
  go_wp2
  have HB := Lib.hid (HB.out.setCell (p := ⟨w.heap.size + 1, 0, none⟩) (by show w.heap.size ≤ w.heap.size + 1; omega) (.string x.Name))
  have CH1 := Lib.hid (CH1.out.setCell (p := ⟨w.heap.size + 1, 0, none⟩) (by simp) (.string x.Name))
  have HB := Lib.hid (HB.out.setCell (p := ⟨w.heap.size + 1, 1, none⟩) (by show w.heap.size ≤ w.heap.size + 1; omega) (.slice P1 p1 q1))
  have CH1 := Lib.hid (CH1.out.setCell (p := ⟨w.heap.size + 1, 1, none⟩) (by simp) (.slice P1 p1 q1))
  refine bodyPost_ret (v := .agg #[.string x.Name, .slice P1 p1 q1]) (by simp [results, Tryz.results187, go_sem, r1_0, r1_1]) rfl ⟨[.string x.Name, .slice P1 p1 q1], _, rfl, rRow_own_mk HS.out (OS1.out.1.okeep fun b hb => CH1.out.block b (CS1.out b hb) (by simp; exact ⟨(OS1.out.2.2.1 b hb).1, (OS1.out.2.2.1 b hb).2⟩)), ?_, ?_, HB.out⟩
  · exact OS1.out.2.1
  · intro b hb
    exact HF1.out b hb
theorem Tryz.info_Row : (Tryz.prog.info? 139).map (fun i => (i.zero, i.size, i.bytes)) = some (some (.agg #[.string ⟨#[]⟩, .slice none 0 0]), 2, 40) := by kernel_rfl
set_option maxHeartbeats 1000000 in
theorem toRowS_c (l : List Row) (A : Option Addr) (n c : Nat) (w : World) (B : Nat) (hl : Mm.SlAt rRow w B l A n c) (hB : B ≤ w.heap.size) (hsz : Pl.szl Pl.szRow l ≤ 1048576) :
    Calls Tryz.prog 169 #[.slice A n c] w (Mm.NewSl rRow 139 w l) := by
  have hlen : Hid (l.length = n) := hl.1
  have HL := Lib.hid hl
  have HN : Hid (∀ x : Row, 0 ≤ Pl.szRow x) := Pl.szRow_nn
  have HSZ := Lib.hid hsz
  have hn : n ≤ 1048576 := by have := Pl.szl_len HN.out l; have := hlen.out; omega
  clear hl hsz
  obtain ⟨i0, hi, hz0, hz1, hz2⟩ := info_parts Tryz.info_Row
  go_enter Tryz.func169, Tryz.ntmps169
  go_wp2_with (at_make; refine wpList_make_full _ rfl _ _ 71 rfl 0 139 i0 _ 2 Tryz.underlying71 hi hz0 hz1 _ _ _ _ n rfl rfl rfl rfl (by rw [hz2]; omega) (by unfold maxLen; omega) (Nat.zero_le _) ?_; intro w1 hown hgrow)
  go_loopw [4] (fun i wr => ∃ k : Nat, k ≤ n ∧ i = .int .i64 k ∧ Mm.Filled rRow 139 w l ⟨⟨#[]⟩, []⟩ n k wr) (fun i _ => n - (intOf i).toNat)
  case atStart => exact ⟨0, Nat.zero_le _, rfl, Mm.Filled.start (zv := .agg #[.string ⟨#[]⟩, .slice none 0 0]) hlen.out hown hgrow (rRow_own_mk (x := ⟨⟨#[]⟩, []⟩) (by show 0 ≤ _; exact Nat.zero_le _) Mm.SlOwn.nil) (by decide)⟩
  case round =>
    obtain ⟨k, hk, rfl, hfil⟩ := hrel
    rename_i wr _
    have HF : Hid (Mm.Filled rRow 139 w l ⟨⟨#[]⟩, []⟩ n k wr) := hfil
    clear hfil hown hgrow
    by_cases hlt : k < n
    · obtain ⟨x, b, off, A, n, c, hx, rfl, hb, f0, f1, d0, d1⟩ := rRow_get (HL.out.keep (w' := wr) (fun b hb => HF.out.below.block b (by omega))) hlt
      have hBw : B ≤ wr.heap.size := Nat.le_trans hB HF.out.below.size
      have hxs := Pl.szl_mem HN.out (List.mem_of_getElem? hx)
      have HX := Lib.hid (And.intro hx (And.intro hxs (And.intro f0 f1)))
      have hw := HF.out.lt
      clear hx hxs f0 f1
      go_wp2_with fail
      refine (toRow_c x _ _ _ _ B HX.out.2.2.2 HX.out.2.2.1 hBw (by have h1 := HX.out.2.1; have h2 := HSZ.out; omega)).mono ?_
      rintro e w2 ⟨cs2, fp2, rfl, ho2, hnd2, hf2, hb2⟩
      have HO := Lib.hid (And.intro ho2 (And.intro hnd2 (And.intro hf2 hb2)))
      obtain ⟨A2, n2, c2, _, rfl, _⟩ := rRow_own ho2
      have HK := Lib.hid (HF.out.keep hb2)
      clear ho2 hnd2 hf2 hb2
      obtain ⟨u0, t0⟩ := HK.out.cell hlt (j := 0) (by decide)
      have d0' : w2.cell? ⟨w.heap.size, k * 2, none⟩ = some u0 := t0
      have z0 := HK.out.frozen (k * 2)
      clear t0
      obtain ⟨u1, t1⟩ := HK.out.cell hlt (j := 1) (by decide)
      have d1' : w2.cell? ⟨w.heap.size, k * 2 + 1, none⟩ = some u1 := t1
      have z1 := HK.out.frozen (k * 2 + 1)
      clear t1
      go_wp2
      go_roundw
      case rel => exact ⟨k + 1, by omega, by go_num, HF.out.step hlt HX.out.1 HO.out.2.2.2 (cs := [.string x.Name, .slice A2 n2 c2]) HO.out.1 HO.out.2.1 HO.out.2.2.1⟩
      case measure => simp [intOf]; omega
    · go_wp2
      go_ret
      exact HF.out.done (by omega)
set_option maxHeartbeats 2000000 in
theorem toHead_c (x : Head) (A : Option Addr) (n c : Nat) (w : World) (B : Nat) (g0 : Mm.SlAt rRow w B x.Rows A n c) (s0 : Mm.I64 x.Offset) (hB : B ≤ w.heap.size) (hsz : Pl.szHead x ≤ 1048576) :
    Calls Tryz.prog 130 #[.agg #[.slice A n c, .int .i64 x.Offset]] w (Mm.NewAg rHead w x) := by
  have HG := Lib.hid (And.intro hB g0)
  have HSZ := Lib.hid hsz
  clear hsz g0
  have HS := Lib.hid s0
  clear s0
  have zn_Rows := Pl.szl_nn (f := Pl.szRow) (Pl.szRow_nn) x.Rows
  have hz : Pl.szHead x = (Pl.szl Pl.szRow) x.Rows := rfl
  have HZ := Lib.hid hz
  clear hz
  have KA := Lib.hid (((Mm.Blk.new w 162 [.slice A n c, .int .i64 x.Offset]).alloc (.cells #[.slice none 0 0, .int .i64 0] 73)).alloc (.cells #[.slice none 0 0, .int .i64 0] 73))
  have KR := Lib.hid ((Mm.Blk.new' (w.alloc (.cells #[.slice A n c, .int .i64 x.Offset] 162)) 73 [.slice none 0 0, .int .i64 0] (Mm.sz1 _ _)).alloc (.cells #[.slice none 0 0, .int .i64 0] 73))
  have KO := Lib.hid (Mm.Blk.new' ((w.alloc (.cells #[.slice A n c, .int .i64 x.Offset] 162)).alloc (.cells #[.slice none 0 0, .int .i64 0] 73)) 73 [.slice none 0 0, .int .i64 0] (Mm.sz2 _ _ _))
  have hb0 : Below w.heap.size w (((w.alloc (.cells #[.slice A n c, .int .i64 x.Offset] 162)).alloc (.cells #[.slice none 0 0, .int .i64 0] 73)).alloc (.cells #[.slice none 0 0, .int .i64 0] 73)) := below_new (below_new (below_new (Below.refl _ _) _) _) _
  have HB := Lib.hid hb0
  have hlt0 := KO.out.lt
  clear hb0
  go_enter Tryz.func130, Tryz.ntmps130
  go_wp2_with fail
  refine (toRowS_c x.Rows _ _ _ _ B (HG.out.2.keep fun b hb => HB.out.block b (Nat.lt_of_lt_of_le hb HG.out.1)) (Nat.le_trans HG.out.1 HB.out.size) (by have h1 := HZ.out; have h2 := HSZ.out; omega)).mono ?_
  rintro e w1 ⟨P1, p1, q1, fp1, rfl, ho1, hnd1, hf1, hb1⟩
  have hfb1 : ∀ b, b ∈ fp1 → b ≠ w.heap.size + 1 ∧ b ≠ w.heap.size + 2 := fun b hb => by have := hf1 b hb; have := KO.out.lt; have := KR.out.lt; omega
  have CS1 := Lib.hid ho1.olt
  have OS1 := Lib.hid (And.intro ho1 (And.intro hnd1 (And.intro hfb1 hf1)))
  have HF1 := Lib.hid (show ∀ b, b ∈ fp1 → w.heap.size ≤ b from fun b hb => Nat.le_trans HB.out.size (hf1 b hb))
  have KA := Lib.hid (KA.out.bel hb1)
  have KR := Lib.hid (KR.out.bel hb1)
  have KO := Lib.hid (KO.out.bel hb1)
  have HB := Lib.hid (below_step HB.out hb1)
  have CH1 := Lib.hid (Mm.Chg.refl [w.heap.size + 1, w.heap.size + 2] w1)
  have a1_1 := KA.out.cell (i := 1) rfl
  have o1_0 := KO.out.cell (i := 0) rfl
  have r1_0 := KR.out.cell (i := 0) rfl
  have x1_0 := KO.out.frozen 0
  have y1_0 := KR.out.frozen 0
  have o1_1 := KO.out.cell (i := 1) rfl
  have r1_1 := KR.out.cell (i := 1) rfl
  have x1_1 := KO.out.frozen 1
  have y1_1 := KR.out.frozen 1
  clear hb1 ho1 hnd1 hf1 hfb1
  have KA := Lib.hid (KA.out.far (p := ⟨w.heap.size + 2, 0, none⟩) (by show w.heap.size ≠ w.heap.size + 2; omega) (.slice P1 p1 q1))
  have KR := Lib.hid (KR.out.far (p := ⟨w.heap.size + 2, 0, none⟩) (by show w.heap.size + 1 ≠ w.heap.size + 2; omega) (.slice P1 p1 q1))
  have KO := Lib.hid (KO.out.set_ 0 (.slice P1 p1 q1))
  have HB := Lib.hid (HB.out.setCell (p := ⟨w.heap.size + 2, 0, none⟩) (by show w.heap.size ≤ w.heap.size + 2; omega) (.slice P1 p1 q1))
  have CH1 := Lib.hid (CH1.out.setCell (p := ⟨w.heap.size + 2, 0, none⟩) (by simp) (.slice P1 p1 q1))
  have KA := Lib.hid (KA.out.far (p := ⟨w.heap.size + 2, 1, none⟩) (by show w.heap.size ≠ w.heap.size + 2; omega) (.int .i64 x.Offset))
  have KR := Lib.hid (KR.out.far (p := ⟨w.heap.size + 2, 1, none⟩) (by show w.heap.size + 1 ≠ w.heap.size + 2; omega) (.int .i64 x.Offset))
  have KO := Lib.hid (KO.out.set_ 1 (.int .i64 x.Offset))
  have HB := Lib.hid (HB.out.setCell (p := ⟨w.heap.size + 2, 1, none⟩) (by show w.heap.size ≤ w.heap.size + 2; omega) (.int .i64 x.Offset))
  have CH1 := Lib.hid (CH1.out.setCell (p := ⟨w.heap.size + 2, 1, none⟩) (by simp) (.int .i64 x.Offset))
  go_wp2
  have HB := Lib.hid (HB.out.setCell (p := ⟨w.heap.size + 1, 0, none⟩) (by show w.heap.size ≤ w.heap.size + 1; omega) (.slice P1 p1 q1))
  have CH1 := Lib.hid (CH1.out.setCell (p := ⟨w.heap.size + 1, 0, none⟩) (by simp) (.slice P1 p1 q1))
  have HB := Lib.hid (HB.out.setCell (p := ⟨w.heap.size + 1, 1, none⟩) (by show w.heap.size ≤ w.heap.size + 1; omega) (.int .i64 x.Offset))
  have CH1 := Lib.hid (CH1.out.setCell (p := ⟨w.heap.size + 1, 1, none⟩) (by simp) (.int .i64 x.Offset))
  refine bodyPost_ret (v := .agg #[.slice P1 p1 q1, .int .i64 x.Offset]) (by simp [results, Tryz.results130, go_sem, r1_0, r1_1]) rfl ⟨[.slice P1 p1 q1, .int .i64 x.Offset], _, rfl, rHead_own_mk (OS1.out.1.okeep fun b hb => CH1.out.block b (CS1.out b hb) (by simp; exact ⟨(OS1.out.2.2.1 b hb).1, (OS1.out.2.2.1 b hb).2⟩)) HS.out, ?_, ?_, HB.out⟩
  · exact OS1.out.2.1
  · intro b hb
    exact HF1.out b hb
theorem Tryz.info_Head : (Tryz.prog.info? 73).map (fun i => (i.zero, i.size, i.bytes)) = some (some (.agg #[.slice none 0 0, .int .i64 0]), 2, 32) := by kernel_rfl
set_option maxHeartbeats 1000000 in
theorem toHeadS_c (l : List Head) (A : Option Addr) (n c : Nat) (w : World) (B : Nat) (hl : Mm.SlAt rHead w B l A n c) (hB : B ≤ w.heap.size) (hsz : Pl.szl Pl.szHead l ≤ 1048576) :
    Calls Tryz.prog 75 #[.slice A n c] w (Mm.NewSl rHead 73 w l) := by
  have hlen : Hid (l.length = n) := hl.1
  have HL := Lib.hid hl
  have HN : Hid (∀ x : Head, 0 ≤ Pl.szHead x) := Pl.szHead_nn
  have HSZ := Lib.hid hsz
  have hn : n ≤ 1048576 := by have := Pl.szl_len HN.out l; have := hlen.out; omega
  clear hl hsz
  obtain ⟨i0, hi, hz0, hz1, hz2⟩ := info_parts Tryz.info_Head
  go_enter Tryz.func75, Tryz.ntmps75
  go_wp2_with (at_make; refine wpList_make_full _ rfl _ _ 25 rfl 0 73 i0 _ 2 Tryz.underlying25 hi hz0 hz1 _ _ _ _ n rfl rfl rfl rfl (by rw [hz2]; omega) (by unfold maxLen; omega) (Nat.zero_le _) ?_; intro w1 hown hgrow)
  go_loopw [4] (fun i wr => ∃ k : Nat, k ≤ n ∧ i = .int .i64 k ∧ Mm.Filled rHead 73 w l ⟨[], 0⟩ n k wr) (fun i _ => n - (intOf i).toNat)
  case atStart => exact ⟨0, Nat.zero_le _, rfl, Mm.Filled.start (zv := .agg #[.slice none 0 0, .int .i64 0]) hlen.out hown hgrow (rHead_own_mk (x := ⟨[], 0⟩) Mm.SlOwn.nil (by unfold Mm.I64; simp)) (by decide)⟩
  case round =>
    obtain ⟨k, hk, rfl, hfil⟩ := hrel
    rename_i wr _
    have HF : Hid (Mm.Filled rHead 73 w l ⟨[], 0⟩ n k wr) := hfil
    clear hfil hown hgrow
    by_cases hlt : k < n
    · obtain ⟨x, b, off, A, n, c, hx, rfl, hb, f0, f1, d0, d1⟩ := rHead_get (HL.out.keep (w' := wr) (fun b hb => HF.out.below.block b (by omega))) hlt
      have hBw : B ≤ wr.heap.size := Nat.le_trans hB HF.out.below.size
      have hxs := Pl.szl_mem HN.out (List.mem_of_getElem? hx)
      have HX := Lib.hid (And.intro hx (And.intro hxs (And.intro f0 f1)))
      have hw := HF.out.lt
      clear hx hxs f0 f1
      go_wp2_with fail
      refine (toHead_c x _ _ _ _ B HX.out.2.2.1 HX.out.2.2.2 hBw (by have h1 := HX.out.2.1; have h2 := HSZ.out; omega)).mono ?_
      rintro e w2 ⟨cs2, fp2, rfl, ho2, hnd2, hf2, hb2⟩
      have HO := Lib.hid (And.intro ho2 (And.intro hnd2 (And.intro hf2 hb2)))
      obtain ⟨A2, n2, c2, _, rfl, _⟩ := rHead_own ho2
      have HK := Lib.hid (HF.out.keep hb2)
      clear ho2 hnd2 hf2 hb2
      obtain ⟨u0, t0⟩ := HK.out.cell hlt (j := 0) (by decide)
      have d0' : w2.cell? ⟨w.heap.size, k * 2, none⟩ = some u0 := t0
      have z0 := HK.out.frozen (k * 2)
      clear t0
      obtain ⟨u1, t1⟩ := HK.out.cell hlt (j := 1) (by decide)
      have d1' : w2.cell? ⟨w.heap.size, k * 2 + 1, none⟩ = some u1 := t1
      have z1 := HK.out.frozen (k * 2 + 1)
      clear t1
      go_wp2
      go_roundw
      case rel => exact ⟨k + 1, by omega, by go_num, HF.out.step hlt HX.out.1 HO.out.2.2.2 (cs := [.slice A2 n2 c2, .int .i64 x.Offset]) HO.out.1 HO.out.2.1 HO.out.2.2.1⟩
      case measure => simp [intOf]; omega
    · go_wp2
      go_ret
      exact HF.out.done (by omega)
set_option maxHeartbeats 2000000 in
theorem toPiece_c (x : Piece) (A : Option Addr) (n c : Nat) (w : World) (B : Nat) (g0 : Mm.SlAt Mm.int w B x.Index A n c) (s0 : Mm.I64 x.From) (s1 : x.Bytes.size ≤ maxLen) (hB : B ≤ w.heap.size) (hsz : Pl.szPiece x ≤ 1048576) :
    Calls Tryz.prog 186 #[.agg #[.int .i64 x.From, .string x.Bytes, .slice A n c]] w (Mm.NewAg rPiece w x) := by
  have HG := Lib.hid (And.intro hB g0)
  have HSZ := Lib.hid hsz
  clear hsz g0
  have HS := Lib.hid (And.intro s0 s1)
  clear s0 s1
  have zn_Bytes := Pl.szStr_nn x.Bytes
  have zn_Index := Pl.szl_nn (f := Pl.sz0) (Pl.sz0_nn) x.Index
  have hz : Pl.szPiece x = Pl.szStr x.Bytes + (Pl.szl Pl.sz0) x.Index := rfl
  have HZ := Lib.hid hz
  clear hz
  have KA := Lib.hid (((Mm.Blk.new w 217 [.int .i64 x.From, .string x.Bytes, .slice A n c]).alloc (.cells #[.int .i64 0, .string ⟨#[]⟩, .slice none 0 0] 164)).alloc (.cells #[.int .i64 x.From, .string x.Bytes, .slice none 0 0] 164))
  have KR := Lib.hid ((Mm.Blk.new' (w.alloc (.cells #[.int .i64 x.From, .string x.Bytes, .slice A n c] 217)) 164 [.int .i64 0, .string ⟨#[]⟩, .slice none 0 0] (Mm.sz1 _ _)).alloc (.cells #[.int .i64 x.From, .string x.Bytes, .slice none 0 0] 164))
  have KO := Lib.hid (Mm.Blk.new' ((w.alloc (.cells #[.int .i64 x.From, .string x.Bytes, .slice A n c] 217)).alloc (.cells #[.int .i64 0, .string ⟨#[]⟩, .slice none 0 0] 164)) 164 [.int .i64 x.From, .string x.Bytes, .slice none 0 0] (Mm.sz2 _ _ _))
  have hb0 : Below w.heap.size w (((w.alloc (.cells #[.int .i64 x.From, .string x.Bytes, .slice A n c] 217)).alloc (.cells #[.int .i64 0, .string ⟨#[]⟩, .slice none 0 0] 164)).alloc (.cells #[.int .i64 x.From, .string x.Bytes, .slice none 0 0] 164)) := below_new (below_new (below_new (Below.refl _ _) _) _) _
  have HB := Lib.hid hb0
  have hlt0 := KO.out.lt
  clear hb0
  go_enter Tryz.func186, Tryz.ntmps186
  go_wp2_with fail
  refine (toIntS_c x.Index _ _ _ _ B (HG.out.2.keep fun b hb => HB.out.block b (Nat.lt_of_lt_of_le hb HG.out.1)) (Nat.le_trans HG.out.1 HB.out.size) (by have h1 := HZ.out; have h2 := HSZ.out; omega)).mono ?_
  rintro e w1 ⟨P1, p1, q1, fp1, rfl, ho1, hnd1, hf1, hb1⟩
  have hfb1 : ∀ b, b ∈ fp1 → b ≠ w.heap.size + 1 ∧ b ≠ w.heap.size + 2 := fun b hb => by have := hf1 b hb; have := KO.out.lt; have := KR.out.lt; omega
  have CS1 := Lib.hid ho1.olt
  have OS1 := Lib.hid (And.intro ho1 (And.intro hnd1 (And.intro hfb1 hf1)))
  have HF1 := Lib.hid (show ∀ b, b ∈ fp1 → w.heap.size ≤ b from fun b hb => Nat.le_trans HB.out.size (hf1 b hb))
  have KA := Lib.hid (KA.out.bel hb1)
  have KR := Lib.hid (KR.out.bel hb1)
  have KO := Lib.hid (KO.out.bel hb1)
  have HB := Lib.hid (below_step HB.out hb1)
  have CH1 := Lib.hid (Mm.Chg.refl [w.heap.size + 1, w.heap.size + 2] w1)
  have o1_0 := KO.out.cell (i := 0) rfl
  have r1_0 := KR.out.cell (i := 0) rfl
  have x1_0 := KO.out.frozen 0
  have y1_0 := KR.out.frozen 0
  have o1_1 := KO.out.cell (i := 1) rfl
  have r1_1 := KR.out.cell (i := 1) rfl
  have x1_1 := KO.out.frozen 1
  have y1_1 := KR.out.frozen 1
  have o1_2 := KO.out.cell (i := 2) rfl
  have r1_2 := KR.out.cell (i := 2) rfl
  have x1_2 := KO.out.frozen 2
  have y1_2 := KR.out.frozen 2
  clear hb1 ho1 hnd1 hf1 hfb1
  have KA := Lib.hid (KA.out.far (p := ⟨w.heap.size + 2, 2, none⟩) (by show w.heap.size ≠ w.heap.size + 2; omega) (.slice P1 p1 q1))
  have KR := Lib.hid (KR.out.far (p := ⟨w.heap.size + 2, 2, none⟩) (by show w.heap.size + 1 ≠ w.heap.size + 2; omega) (.slice P1 p1 q1))
  have KO := Lib.hid (KO.out.set_ 2 (.slice P1 p1 q1))
  have HB := Lib.hid (HB.out.setCell (p := ⟨w.heap.size + 2, 2, none⟩) (by show w.heap.size ≤ w.heap.size + 2; omega) (.slice P1 p1 q1))
  have CH1 := Lib.hid (CH1.out.setCell (p := ⟨w.heap.size + 2, 2, none⟩) (by simp) (.slice P1 p1 q1))
  go_wp2
  have HB := Lib.hid (HB.out.setCell (p := ⟨w.heap.size + 1, 0, none⟩) (by show w.heap.size ≤ w.heap.size + 1; omega) (.int .i64 x.From))
  have CH1 := Lib.hid (CH1.out.setCell (p := ⟨w.heap.size + 1, 0, none⟩) (by simp) (.int .i64 x.From))
  have HB := Lib.hid (HB.out.setCell (p := ⟨w.heap.size + 1, 1, none⟩) (by show w.heap.size ≤ w.heap.size + 1; omega) (.string x.Bytes))
  have CH1 := Lib.hid (CH1.out.setCell (p := ⟨w.heap.size + 1, 1, none⟩) (by simp) (.string x.Bytes))
  have HB := Lib.hid (HB.out.setCell (p := ⟨w.heap.size + 1, 2, none⟩) (by show w.heap.size ≤ w.heap.size + 1; omega) (.slice P1 p1 q1))
  have CH1 := Lib.hid (CH1.out.setCell (p := ⟨w.heap.size + 1, 2, none⟩) (by simp) (.slice P1 p1 q1))
  refine bodyPost_ret (v := .agg #[.int .i64 x.From, .string x.Bytes, .slice P1 p1 q1]) (by simp [results, Tryz.results186, go_sem, r1_0, r1_1, r1_2]) rfl ⟨[.int .i64 x.From, .string x.Bytes, .slice P1 p1 q1], _, rfl, rPiece_own_mk HS.out.1 HS.out.2 (OS1.out.1.okeep fun b hb => CH1.out.block b (CS1.out b hb) (by simp; exact ⟨(OS1.out.2.2.1 b hb).1, (OS1.out.2.2.1 b hb).2⟩)), ?_, ?_, HB.out⟩
  · exact OS1.out.2.1
  · intro b hb
    exact HF1.out b hb
theorem Tryz.info_Piece : (Tryz.prog.info? 164).map (fun i => (i.zero, i.size, i.bytes)) = some (some (.agg #[.int .i64 0, .string ⟨#[]⟩, .slice none 0 0]), 3, 48) := by kernel_rfl
set_option maxHeartbeats 1000000 in
theorem toPieceS_c (l : List Piece) (A : Option Addr) (n c : Nat) (w : World) (B : Nat) (hl : Mm.SlAt rPiece w B l A n c) (hB : B ≤ w.heap.size) (hsz : Pl.szl Pl.szPiece l ≤ 1048576) :
    Calls Tryz.prog 168 #[.slice A n c] w (Mm.NewSl rPiece 164 w l) := by
  have hlen : Hid (l.length = n) := hl.1
  have HL := Lib.hid hl
  have HN : Hid (∀ x : Piece, 0 ≤ Pl.szPiece x) := Pl.szPiece_nn
  have HSZ := Lib.hid hsz
  have hn : n ≤ 1048576 := by have := Pl.szl_len HN.out l; have := hlen.out; omega
  clear hl hsz
  obtain ⟨i0, hi, hz0, hz1, hz2⟩ := info_parts Tryz.info_Piece
  go_enter Tryz.func168, Tryz.ntmps168
  go_wp2_with (at_make; refine wpList_make_full _ rfl _ _ 78 rfl 0 164 i0 _ 3 Tryz.underlying78 hi hz0 hz1 _ _ _ _ n rfl rfl rfl rfl (by rw [hz2]; omega) (by unfold maxLen; omega) (Nat.zero_le _) ?_; intro w1 hown hgrow)
  go_loopw [4] (fun i wr => ∃ k : Nat, k ≤ n ∧ i = .int .i64 k ∧ Mm.Filled rPiece 164 w l ⟨0, ⟨#[]⟩, []⟩ n k wr) (fun i _ => n - (intOf i).toNat)
  case atStart => exact ⟨0, Nat.zero_le _, rfl, Mm.Filled.start (zv := .agg #[.int .i64 0, .string ⟨#[]⟩, .slice none 0 0]) hlen.out hown hgrow (rPiece_own_mk (x := ⟨0, ⟨#[]⟩, []⟩) (by unfold Mm.I64; simp) (by show 0 ≤ _; exact Nat.zero_le _) Mm.SlOwn.nil) (by decide)⟩
  case round =>
    obtain ⟨k, hk, rfl, hfil⟩ := hrel
    rename_i wr _
    have HF : Hid (Mm.Filled rPiece 164 w l ⟨0, ⟨#[]⟩, []⟩ n k wr) := hfil
    clear hfil hown hgrow
    by_cases hlt : k < n
    · obtain ⟨x, b, off, A, n, c, hx, rfl, hb, f0, f1, f2, d0, d1, d2⟩ := rPiece_get (HL.out.keep (w' := wr) (fun b hb => HF.out.below.block b (by omega))) hlt
      have hBw : B ≤ wr.heap.size := Nat.le_trans hB HF.out.below.size
      have hxs := Pl.szl_mem HN.out (List.mem_of_getElem? hx)
      have HX := Lib.hid (And.intro hx (And.intro hxs (And.intro f0 (And.intro f1 f2))))
      have hw := HF.out.lt
      clear hx hxs f0 f1 f2
      go_wp2_with fail
      refine (toPiece_c x _ _ _ _ B HX.out.2.2.2.2 HX.out.2.2.1 HX.out.2.2.2.1 hBw (by have h1 := HX.out.2.1; have h2 := HSZ.out; omega)).mono ?_
      rintro e w2 ⟨cs2, fp2, rfl, ho2, hnd2, hf2, hb2⟩
      have HO := Lib.hid (And.intro ho2 (And.intro hnd2 (And.intro hf2 hb2)))
      obtain ⟨A2, n2, c2, _, rfl, _⟩ := rPiece_own ho2
      have HK := Lib.hid (HF.out.keep hb2)
      clear ho2 hnd2 hf2 hb2
      obtain ⟨u0, t0⟩ := HK.out.cell hlt (j := 0) (by decide)
      have d0' : w2.cell? ⟨w.heap.size, k * 3, none⟩ = some u0 := t0
      have z0 := HK.out.frozen (k * 3)
      clear t0
      obtain ⟨u1, t1⟩ := HK.out.cell hlt (j := 1) (by decide)
      have d1' : w2.cell? ⟨w.heap.size, k * 3 + 1, none⟩ = some u1 := t1
      have z1 := HK.out.frozen (k * 3 + 1)
      clear t1
      obtain ⟨u2, t2⟩ := HK.out.cell hlt (j := 2) (by decide)
      have d2' : w2.cell? ⟨w.heap.size, k * 3 + 2, none⟩ = some u2 := t2
      have z2 := HK.out.frozen (k * 3 + 2)
      clear t2
      go_wp2
      go_roundw
      case rel => exact ⟨k + 1, by omega, by go_num, HF.out.step hlt HX.out.1 HO.out.2.2.2 (cs := [.int .i64 x.From, .string x.Bytes, .slice A2 n2 c2]) HO.out.1 HO.out.2.1 HO.out.2.2.1⟩
      case measure => simp [intOf]; omega
    · go_wp2
      go_ret
      exact HF.out.done (by omega)
set_option maxHeartbeats 2000000 in
theorem toLog_c (x : Log) (A : Option Addr) (n c : Nat) (w : World) (B : Nat) (g0 : Mm.SlAt rPiece w B x.Pieces A n c) (s0 : Mm.I64 x.Begin) (hB : B ≤ w.heap.size) (hsz : Pl.szLog x ≤ 1048576) :
    Calls Tryz.prog 129 #[.agg #[.slice A n c, .int .i64 x.Begin]] w (Mm.NewAg rLog w x) := by
  have HG := Lib.hid (And.intro hB g0)
  have HSZ := Lib.hid hsz
  clear hsz g0
  have HS := Lib.hid s0
  clear s0
  have zn_Pieces := Pl.szl_nn (f := Pl.szPiece) (Pl.szPiece_nn) x.Pieces
  have hz : Pl.szLog x = (Pl.szl Pl.szPiece) x.Pieces := rfl
  have HZ := Lib.hid hz
  clear hz
  have KA := Lib.hid (((Mm.Blk.new w 158 [.slice A n c, .int .i64 x.Begin]).alloc (.cells #[.slice none 0 0, .int .i64 0] 80)).alloc (.cells #[.slice none 0 0, .int .i64 0] 80))
  have KR := Lib.hid ((Mm.Blk.new' (w.alloc (.cells #[.slice A n c, .int .i64 x.Begin] 158)) 80 [.slice none 0 0, .int .i64 0] (Mm.sz1 _ _)).alloc (.cells #[.slice none 0 0, .int .i64 0] 80))
  have KO := Lib.hid (Mm.Blk.new' ((w.alloc (.cells #[.slice A n c, .int .i64 x.Begin] 158)).alloc (.cells #[.slice none 0 0, .int .i64 0] 80)) 80 [.slice none 0 0, .int .i64 0] (Mm.sz2 _ _ _))
  have hb0 : Below w.heap.size w (((w.alloc (.cells #[.slice A n c, .int .i64 x.Begin] 158)).alloc (.cells #[.slice none 0 0, .int .i64 0] 80)).alloc (.cells #[.slice none 0 0, .int .i64 0] 80)) := below_new (below_new (below_new (Below.refl _ _) _) _) _
  have HB := Lib.hid hb0
  have hlt0 := KO.out.lt
  clear hb0
  go_enter Tryz.func129, Tryz.ntmps129
  go_wp2_with fail
  refine (toPieceS_c x.Pieces _ _ _ _ B (HG.out.2.keep fun b hb => HB.out.block b (Nat.lt_of_lt_of_le hb HG.out.1)) (Nat.le_trans HG.out.1 HB.out.size) (by have h1 := HZ.out; have h2 := HSZ.out; omega)).mono ?_
  rintro e w1 ⟨P1, p1, q1, fp1, rfl, ho1, hnd1, hf1, hb1⟩
  have hfb1 : ∀ b, b ∈ fp1 → b ≠ w.heap.size + 1 ∧ b ≠ w.heap.size + 2 := fun b hb => by have := hf1 b hb; have := KO.out.lt; have := KR.out.lt; omega
  have CS1 := Lib.hid ho1.olt
  have OS1 := Lib.hid (And.intro ho1 (And.intro hnd1 (And.intro hfb1 hf1)))
  have HF1 := Lib.hid (show ∀ b, b ∈ fp1 → w.heap.size ≤ b from fun b hb => Nat.le_trans HB.out.size (hf1 b hb))
  have KA := Lib.hid (KA.out.bel hb1)
  have KR := Lib.hid (KR.out.bel hb1)
  have KO := Lib.hid (KO.out.bel hb1)
  have HB := Lib.hid (below_step HB.out hb1)
  have CH1 := Lib.hid (Mm.Chg.refl [w.heap.size + 1, w.heap.size + 2] w1)
  have a1_1 := KA.out.cell (i := 1) rfl
  have o1_0 := KO.out.cell (i := 0) rfl
  have r1_0 := KR.out.cell (i := 0) rfl
  have x1_0 := KO.out.frozen 0
  have y1_0 := KR.out.frozen 0
  have o1_1 := KO.out.cell (i := 1) rfl
  have r1_1 := KR.out.cell (i := 1) rfl
  have x1_1 := KO.out.frozen 1
  have y1_1 := KR.out.frozen 1
  clear hb1 ho1 hnd1 hf1 hfb1
  have KA := Lib.hid (KA.out.far (p := ⟨w.heap.size + 2, 0, none⟩) (by show w.heap.size ≠ w.heap.size + 2; omega) (.slice P1 p1 q1))
  have KR := Lib.hid (KR.out.far (p := ⟨w.heap.size + 2, 0, none⟩) (by show w.heap.size + 1 ≠ w.heap.size + 2; omega) (.slice P1 p1 q1))
  have KO := Lib.hid (KO.out.set_ 0 (.slice P1 p1 q1))
  have HB := Lib.hid (HB.out.setCell (p := ⟨w.heap.size + 2, 0, none⟩) (by show w.heap.size ≤ w.heap.size + 2; omega) (.slice P1 p1 q1))
  have CH1 := Lib.hid (CH1.out.setCell (p := ⟨w.heap.size + 2, 0, none⟩) (by simp) (.slice P1 p1 q1))
  have KA := Lib.hid (KA.out.far (p := ⟨w.heap.size + 2, 1, none⟩) (by show w.heap.size ≠ w.heap.size + 2; omega) (.int .i64 x.Begin))
  have KR := Lib.hid (KR.out.far (p := ⟨w.heap.size + 2, 1, none⟩) (by show w.heap.size + 1 ≠ w.heap.size + 2; omega) (.int .i64 x.Begin))
  have KO := Lib.hid (KO.out.set_ 1 (.int .i64 x.Begin))
  have HB := Lib.hid (HB.out.setCell (p := ⟨w.heap.size + 2, 1, none⟩) (by show w.heap.size ≤ w.heap.size + 2; omega) (.int .i64 x.Begin))
  have CH1 := Lib.hid (CH1.out.setCell (p := ⟨w.heap.size + 2, 1, none⟩) (by simp) (.int .i64 x.Begin))
  go_wp2
  have HB := Lib.hid (HB.out.setCell (p := ⟨w.heap.size + 1, 0, none⟩) (by show w.heap.size ≤ w.heap.size + 1; omega) (.slice P1 p1 q1))
  have CH1 := Lib.hid (CH1.out.setCell (p := ⟨w.heap.size + 1, 0, none⟩) (by simp) (.slice P1 p1 q1))
  have HB := Lib.hid (HB.out.setCell (p := ⟨w.heap.size + 1, 1, none⟩) (by show w.heap.size ≤ w.heap.size + 1; omega) (.int .i64 x.Begin))
  have CH1 := Lib.hid (CH1.out.setCell (p := ⟨w.heap.size + 1, 1, none⟩) (by simp) (.int .i64 x.Begin))
  refine bodyPost_ret (v := .agg #[.slice P1 p1 q1, .int .i64 x.Begin]) (by simp [results, Tryz.results129, go_sem, r1_0, r1_1]) rfl ⟨[.slice P1 p1 q1, .int .i64 x.Begin], _, rfl, rLog_own_mk (OS1.out.1.okeep fun b hb => CH1.out.block b (CS1.out b hb) (by simp; exact ⟨(OS1.out.2.2.1 b hb).1, (OS1.out.2.2.1 b hb).2⟩)) HS.out, ?_, ?_, HB.out⟩
  · exact OS1.out.2.1
  · intro b hb
    exact HF1.out b hb
theorem Tryz.info_Log : (Tryz.prog.info? 80).map (fun i => (i.zero, i.size, i.bytes)) = some (some (.agg #[.slice none 0 0, .int .i64 0]), 2, 32) := by kernel_rfl
set_option maxHeartbeats 1000000 in
theorem toLogS_c (l : List Log) (A : Option Addr) (n c : Nat) (w : World) (B : Nat) (hl : Mm.SlAt rLog w B l A n c) (hB : B ≤ w.heap.size) (hsz : Pl.szl Pl.szLog l ≤ 1048576) :
    Calls Tryz.prog 74 #[.slice A n c] w (Mm.NewSl rLog 80 w l) := by
  have hlen : Hid (l.length = n) := hl.1
  have HL := Lib.hid hl
  have HN : Hid (∀ x : Log, 0 ≤ Pl.szLog x) := Pl.szLog_nn
  have HSZ := Lib.hid hsz
  have hn : n ≤ 1048576 := by have := Pl.szl_len HN.out l; have := hlen.out; omega
  clear hl hsz
  obtain ⟨i0, hi, hz0, hz1, hz2⟩ := info_parts Tryz.info_Log
  go_enter Tryz.func74, Tryz.ntmps74
  go_wp2_with (at_make; refine wpList_make_full _ rfl _ _ 24 rfl 0 80 i0 _ 2 Tryz.underlying24 hi hz0 hz1 _ _ _ _ n rfl rfl rfl rfl (by rw [hz2]; omega) (by unfold maxLen; omega) (Nat.zero_le _) ?_; intro w1 hown hgrow)
  go_loopw [4] (fun i wr => ∃ k : Nat, k ≤ n ∧ i = .int .i64 k ∧ Mm.Filled rLog 80 w l ⟨[], 0⟩ n k wr) (fun i _ => n - (intOf i).toNat)
  case atStart => exact ⟨0, Nat.zero_le _, rfl, Mm.Filled.start (zv := .agg #[.slice none 0 0, .int .i64 0]) hlen.out hown hgrow (rLog_own_mk (x := ⟨[], 0⟩) Mm.SlOwn.nil (by unfold Mm.I64; simp)) (by decide)⟩
  case round =>
    obtain ⟨k, hk, rfl, hfil⟩ := hrel
    rename_i wr _
    have HF : Hid (Mm.Filled rLog 80 w l ⟨[], 0⟩ n k wr) := hfil
    clear hfil hown hgrow
    by_cases hlt : k < n
    · obtain ⟨x, b, off, A, n, c, hx, rfl, hb, f0, f1, d0, d1⟩ := rLog_get (HL.out.keep (w' := wr) (fun b hb => HF.out.below.block b (by omega))) hlt
      have hBw : B ≤ wr.heap.size := Nat.le_trans hB HF.out.below.size
      have hxs := Pl.szl_mem HN.out (List.mem_of_getElem? hx)
      have HX := Lib.hid (And.intro hx (And.intro hxs (And.intro f0 f1)))
      have hw := HF.out.lt
      clear hx hxs f0 f1
      go_wp2_with fail
      refine (toLog_c x _ _ _ _ B HX.out.2.2.1 HX.out.2.2.2 hBw (by have h1 := HX.out.2.1; have h2 := HSZ.out; omega)).mono ?_
      rintro e w2 ⟨cs2, fp2, rfl, ho2, hnd2, hf2, hb2⟩
      have HO := Lib.hid (And.intro ho2 (And.intro hnd2 (And.intro hf2 hb2)))
      obtain ⟨A2, n2, c2, _, rfl, _⟩ := rLog_own ho2
      have HK := Lib.hid (HF.out.keep hb2)
      clear ho2 hnd2 hf2 hb2
      obtain ⟨u0, t0⟩ := HK.out.cell hlt (j := 0) (by decide)
      have d0' : w2.cell? ⟨w.heap.size, k * 2, none⟩ = some u0 := t0
      have z0 := HK.out.frozen (k * 2)
      clear t0
      obtain ⟨u1, t1⟩ := HK.out.cell hlt (j := 1) (by decide)
      have d1' : w2.cell? ⟨w.heap.size, k * 2 + 1, none⟩ = some u1 := t1
      have z1 := HK.out.frozen (k * 2 + 1)
      clear t1
      go_wp2
      go_roundw
      case rel => exact ⟨k + 1, by omega, by go_num, HF.out.step hlt HX.out.1 HO.out.2.2.2 (cs := [.slice A2 n2 c2, .int .i64 x.Begin]) HO.out.1 HO.out.2.1 HO.out.2.2.1⟩
      case measure => simp [intOf]; omega
    · go_wp2
      go_ret
      exact HF.out.done (by omega)
set_option maxHeartbeats 2000000 in
theorem toHouse_c (x : House) (A0 : Option Addr) (n0 c0 : Nat) (A1 : Option Addr) (n1 c1 : Nat) (A2 : Option Addr) (n2 c2 : Nat) (w : World) (B : Nat) (g0 : Mm.SlAt rLog w B x.Logs A0 n0 c0) (g1 : Mm.SlAt rHead w B x.Heads A1 n1 c1) (g2 : Mm.SlAt rHead w B x.Kept A2 n2 c2) (hB : B ≤ w.heap.size) (hsz : Pl.szHouse x ≤ 1048576) :
    Calls Tryz.prog 24 #[.agg #[.slice A0 n0 c0, .slice A1 n1 c1, .slice A2 n2 c2]] w (Mm.NewAg rHouse w x) := by
  have HG := Lib.hid (And.intro hB (And.intro g0 (And.intro g1 g2)))
  have HSZ := Lib.hid hsz
  clear hsz g0 g1 g2
  have zn_Logs := Pl.szl_nn (f := Pl.szLog) (Pl.szLog_nn) x.Logs
  have zn_Heads := Pl.szl_nn (f := Pl.szHead) (Pl.szHead_nn) x.Heads
  have zn_Kept := Pl.szl_nn (f := Pl.szHead) (Pl.szHead_nn) x.Kept
  have hz : Pl.szHouse x = (Pl.szl Pl.szLog) x.Logs + (Pl.szl Pl.szHead) x.Heads + (Pl.szl Pl.szHead) x.Kept := rfl
  have HZ := Lib.hid hz
  clear hz
  have KA := Lib.hid (((Mm.Blk.new w 43 [.slice A0 n0 c0, .slice A1 n1 c1, .slice A2 n2 c2]).alloc (.cells #[.slice none 0 0, .slice none 0 0, .slice none 0 0] 27)).alloc (.cells #[.slice none 0 0, .slice none 0 0, .slice none 0 0] 27))
  have KR := Lib.hid ((Mm.Blk.new' (w.alloc (.cells #[.slice A0 n0 c0, .slice A1 n1 c1, .slice A2 n2 c2] 43)) 27 [.slice none 0 0, .slice none 0 0, .slice none 0 0] (Mm.sz1 _ _)).alloc (.cells #[.slice none 0 0, .slice none 0 0, .slice none 0 0] 27))
  have KO := Lib.hid (Mm.Blk.new' ((w.alloc (.cells #[.slice A0 n0 c0, .slice A1 n1 c1, .slice A2 n2 c2] 43)).alloc (.cells #[.slice none 0 0, .slice none 0 0, .slice none 0 0] 27)) 27 [.slice none 0 0, .slice none 0 0, .slice none 0 0] (Mm.sz2 _ _ _))
  have hb0 : Below w.heap.size w (((w.alloc (.cells #[.slice A0 n0 c0, .slice A1 n1 c1, .slice A2 n2 c2] 43)).alloc (.cells #[.slice none 0 0, .slice none 0 0, .slice none 0 0] 27)).alloc (.cells #[.slice none 0 0, .slice none 0 0, .slice none 0 0] 27)) := below_new (below_new (below_new (Below.refl _ _) _) _) _
  have HB := Lib.hid hb0
  have hlt0 := KO.out.lt
  clear hb0
  go_enter Tryz.func24, Tryz.ntmps24
  go_wp2_with fail
  refine (toLogS_c x.Logs _ _ _ _ B (HG.out.2.1.keep fun b hb => HB.out.block b (Nat.lt_of_lt_of_le hb HG.out.1)) (Nat.le_trans HG.out.1 HB.out.size) (by have h1 := HZ.out; have h2 := HSZ.out; omega)).mono ?_
  rintro e w1 ⟨P1, p1, q1, fp1, rfl, ho1, hnd1, hf1, hb1⟩
  have hfb1 : ∀ b, b ∈ fp1 → b ≠ w.heap.size + 1 ∧ b ≠ w.heap.size + 2 := fun b hb => by have := hf1 b hb; have := KO.out.lt; have := KR.out.lt; omega
  have CS1 := Lib.hid ho1.olt
  have OS1 := Lib.hid (And.intro ho1 (And.intro hnd1 (And.intro hfb1 hf1)))
  have HF1 := Lib.hid (show ∀ b, b ∈ fp1 → w.heap.size ≤ b from fun b hb => Nat.le_trans HB.out.size (hf1 b hb))
  have KA := Lib.hid (KA.out.bel hb1)
  have KR := Lib.hid (KR.out.bel hb1)
  have KO := Lib.hid (KO.out.bel hb1)
  have HB := Lib.hid (below_step HB.out hb1)
  have CH1 := Lib.hid (Mm.Chg.refl [w.heap.size + 1, w.heap.size + 2] w1)
  have a1_1 := KA.out.cell (i := 1) rfl
  have a1_2 := KA.out.cell (i := 2) rfl
  have o1_0 := KO.out.cell (i := 0) rfl
  have r1_0 := KR.out.cell (i := 0) rfl
  have x1_0 := KO.out.frozen 0
  have y1_0 := KR.out.frozen 0
  have o1_1 := KO.out.cell (i := 1) rfl
  have r1_1 := KR.out.cell (i := 1) rfl
  have x1_1 := KO.out.frozen 1
  have y1_1 := KR.out.frozen 1
  have o1_2 := KO.out.cell (i := 2) rfl
  have r1_2 := KR.out.cell (i := 2) rfl
  have x1_2 := KO.out.frozen 2
  have y1_2 := KR.out.frozen 2
  clear hb1 ho1 hnd1 hf1 hfb1
  have KA := Lib.hid (KA.out.far (p := ⟨w.heap.size + 2, 0, none⟩) (by show w.heap.size ≠ w.heap.size + 2; omega) (.slice P1 p1 q1))
  have KR := Lib.hid (KR.out.far (p := ⟨w.heap.size + 2, 0, none⟩) (by show w.heap.size + 1 ≠ w.heap.size + 2; omega) (.slice P1 p1 q1))
  have KO := Lib.hid (KO.out.set_ 0 (.slice P1 p1 q1))
  have HB := Lib.hid (HB.out.setCell (p := ⟨w.heap.size + 2, 0, none⟩) (by show w.heap.size ≤ w.heap.size + 2; omega) (.slice P1 p1 q1))
  have CH1 := Lib.hid (CH1.out.setCell (p := ⟨w.heap.size + 2, 0, none⟩) (by simp) (.slice P1 p1 q1))
  go_wp2_with fail
  refine (toHeadS_c x.Heads _ _ _ _ B (HG.out.2.2.1.keep fun b hb => HB.out.block b (Nat.lt_of_lt_of_le hb HG.out.1)) (Nat.le_trans HG.out.1 HB.out.size) (by have h1 := HZ.out; have h2 := HSZ.out; omega)).mono ?_
  rintro e w2 ⟨P2, p2, q2, fp2, rfl, ho2, hnd2, hf2, hb2⟩
  have hfb2 : ∀ b, b ∈ fp2 → b ≠ w.heap.size + 1 ∧ b ≠ w.heap.size + 2 := fun b hb => by have := hf2 b hb; have := KO.out.lt; have := KR.out.lt; omega
  have hd1_2 : ∀ b, b ∈ fp1 → b ∉ fp2 := fun b hb hm => by have := hf2 b hm; have := CS1.out b hb; have := CH1.out.size; omega
  have CS2 := Lib.hid ho2.olt
  have OS2 := Lib.hid (And.intro ho2 (And.intro hnd2 (And.intro hfb2 hf2)))
  have HD1_2 := Lib.hid hd1_2
  have HF2 := Lib.hid (show ∀ b, b ∈ fp2 → w.heap.size ≤ b from fun b hb => Nat.le_trans HB.out.size (hf2 b hb))
  have KA := Lib.hid (KA.out.bel hb2)
  have KR := Lib.hid (KR.out.bel hb2)
  have KO := Lib.hid (KO.out.bel hb2)
  have HB := Lib.hid (below_step HB.out hb2)
  have CH1 := Lib.hid (Mm.und_chg CH1.out hb2)
  have CH2 := Lib.hid (Mm.Chg.refl [w.heap.size + 1, w.heap.size + 2] w2)
  have a2_2 := KA.out.cell (i := 2) rfl
  have o2_0 := KO.out.cell (i := 0) rfl
  have r2_0 := KR.out.cell (i := 0) rfl
  have x2_0 := KO.out.frozen 0
  have y2_0 := KR.out.frozen 0
  have o2_1 := KO.out.cell (i := 1) rfl
  have r2_1 := KR.out.cell (i := 1) rfl
  have x2_1 := KO.out.frozen 1
  have y2_1 := KR.out.frozen 1
  have o2_2 := KO.out.cell (i := 2) rfl
  have r2_2 := KR.out.cell (i := 2) rfl
  have x2_2 := KO.out.frozen 2
  have y2_2 := KR.out.frozen 2
  clear hb2 ho2 hnd2 hf2 hfb2 hd1_2
  have KA := Lib.hid (KA.out.far (p := ⟨w.heap.size + 2, 1, none⟩) (by show w.heap.size ≠ w.heap.size + 2; omega) (.slice P2 p2 q2))
  have KR := Lib.hid (KR.out.far (p := ⟨w.heap.size + 2, 1, none⟩) (by show w.heap.size + 1 ≠ w.heap.size + 2; omega) (.slice P2 p2 q2))
  have KO := Lib.hid (KO.out.set_ 1 (.slice P2 p2 q2))
  have HB := Lib.hid (HB.out.setCell (p := ⟨w.heap.size + 2, 1, none⟩) (by show w.heap.size ≤ w.heap.size + 2; omega) (.slice P2 p2 q2))
  have CH1 := Lib.hid (CH1.out.setCell (p := ⟨w.heap.size + 2, 1, none⟩) (by simp) (.slice P2 p2 q2))
  have CH2 := Lib.hid (CH2.out.setCell (p := ⟨w.heap.size + 2, 1, none⟩) (by simp) (.slice P2 p2 q2))
  go_wp2_with fail
  refine (toHeadS_c x.Kept _ _ _ _ B (HG.out.2.2.2.keep fun b hb => HB.out.block b (Nat.lt_of_lt_of_le hb HG.out.1)) (Nat.le_trans HG.out.1 HB.out.size) (by have h1 := HZ.out; have h2 := HSZ.out; omega)).mono ?_
  rintro e w3 ⟨P3, p3, q3, fp3, rfl, ho3, hnd3, hf3, hb3⟩
  have hfb3 : ∀ b, b ∈ fp3 → b ≠ w.heap.size + 1 ∧ b ≠ w.heap.size + 2 := fun b hb => by have := hf3 b hb; have := KO.out.lt; have := KR.out.lt; omega
  have hd1_3 : ∀ b, b ∈ fp1 → b ∉ fp3 := fun b hb hm => by have := hf3 b hm; have := CS1.out b hb; have := CH1.out.size; omega
  have hd2_3 : ∀ b, b ∈ fp2 → b ∉ fp3 := fun b hb hm => by have := hf3 b hm; have := CS2.out b hb; have := CH2.out.size; omega
  have CS3 := Lib.hid ho3.olt
  have OS3 := Lib.hid (And.intro ho3 (And.intro hnd3 (And.intro hfb3 hf3)))
  have HD1_3 := Lib.hid hd1_3
  have HD2_3 := Lib.hid hd2_3
  have HF3 := Lib.hid (show ∀ b, b ∈ fp3 → w.heap.size ≤ b from fun b hb => Nat.le_trans HB.out.size (hf3 b hb))
  have KA := Lib.hid (KA.out.bel hb3)
  have KR := Lib.hid (KR.out.bel hb3)
  have KO := Lib.hid (KO.out.bel hb3)
  have HB := Lib.hid (below_step HB.out hb3)
  have CH1 := Lib.hid (Mm.und_chg CH1.out hb3)
  have CH2 := Lib.hid (Mm.und_chg CH2.out hb3)
  have CH3 := Lib.hid (Mm.Chg.refl [w.heap.size + 1, w.heap.size + 2] w3)
  have o3_0 := KO.out.cell (i := 0) rfl
  have r3_0 := KR.out.cell (i := 0) rfl
  have x3_0 := KO.out.frozen 0
  have y3_0 := KR.out.frozen 0
  have o3_1 := KO.out.cell (i := 1) rfl
  have r3_1 := KR.out.cell (i := 1) rfl
  have x3_1 := KO.out.frozen 1
  have y3_1 := KR.out.frozen 1
  have o3_2 := KO.out.cell (i := 2) rfl
  have r3_2 := KR.out.cell (i := 2) rfl
  have x3_2 := KO.out.frozen 2
  have y3_2 := KR.out.frozen 2
  clear hb3 ho3 hnd3 hf3 hfb3 hd1_3 hd2_3
  have KA := Lib.hid (KA.out.far (p := ⟨w.heap.size + 2, 2, none⟩) (by show w.heap.size ≠ w.heap.size + 2; omega) (.slice P3 p3 q3))
  have KR := Lib.hid (KR.out.far (p := ⟨w.heap.size + 2, 2, none⟩) (by show w.heap.size + 1 ≠ w.heap.size + 2; omega) (.slice P3 p3 q3))
  have KO := Lib.hid (KO.out.set_ 2 (.slice P3 p3 q3))
  have HB := Lib.hid (HB.out.setCell (p := ⟨w.heap.size + 2, 2, none⟩) (by show w.heap.size ≤ w.heap.size + 2; omega) (.slice P3 p3 q3))
  have CH1 := Lib.hid (CH1.out.setCell (p := ⟨w.heap.size + 2, 2, none⟩) (by simp) (.slice P3 p3 q3))
  have CH2 := Lib.hid (CH2.out.setCell (p := ⟨w.heap.size + 2, 2, none⟩) (by simp) (.slice P3 p3 q3))
  have CH3 := Lib.hid (CH3.out.setCell (p := ⟨w.heap.size + 2, 2, none⟩) (by simp) (.slice P3 p3 q3))
  go_wp2
  have HB := Lib.hid (HB.out.setCell (p := ⟨w.heap.size + 1, 0, none⟩) (by show w.heap.size ≤ w.heap.size + 1; omega) (.slice P1 p1 q1))
  have CH1 := Lib.hid (CH1.out.setCell (p := ⟨w.heap.size + 1, 0, none⟩) (by simp) (.slice P1 p1 q1))
  have CH2 := Lib.hid (CH2.out.setCell (p := ⟨w.heap.size + 1, 0, none⟩) (by simp) (.slice P1 p1 q1))
  have CH3 := Lib.hid (CH3.out.setCell (p := ⟨w.heap.size + 1, 0, none⟩) (by simp) (.slice P1 p1 q1))
  have HB := Lib.hid (HB.out.setCell (p := ⟨w.heap.size + 1, 1, none⟩) (by show w.heap.size ≤ w.heap.size + 1; omega) (.slice P2 p2 q2))
  have CH1 := Lib.hid (CH1.out.setCell (p := ⟨w.heap.size + 1, 1, none⟩) (by simp) (.slice P2 p2 q2))
  have CH2 := Lib.hid (CH2.out.setCell (p := ⟨w.heap.size + 1, 1, none⟩) (by simp) (.slice P2 p2 q2))
  have CH3 := Lib.hid (CH3.out.setCell (p := ⟨w.heap.size + 1, 1, none⟩) (by simp) (.slice P2 p2 q2))
  have HB := Lib.hid (HB.out.setCell (p := ⟨w.heap.size + 1, 2, none⟩) (by show w.heap.size ≤ w.heap.size + 1; omega) (.slice P3 p3 q3))
  have CH1 := Lib.hid (CH1.out.setCell (p := ⟨w.heap.size + 1, 2, none⟩) (by simp) (.slice P3 p3 q3))
  have CH2 := Lib.hid (CH2.out.setCell (p := ⟨w.heap.size + 1, 2, none⟩) (by simp) (.slice P3 p3 q3))
  have CH3 := Lib.hid (CH3.out.setCell (p := ⟨w.heap.size + 1, 2, none⟩) (by simp) (.slice P3 p3 q3))
  refine bodyPost_ret (v := .agg #[.slice P1 p1 q1, .slice P2 p2 q2, .slice P3 p3 q3]) (by simp [results, Tryz.results24, go_sem, r3_0, r3_1, r3_2]) rfl ⟨[.slice P1 p1 q1, .slice P2 p2 q2, .slice P3 p3 q3], _, rfl, rHouse_own_mk (OS1.out.1.okeep fun b hb => CH1.out.block b (CS1.out b hb) (by simp; exact ⟨(OS1.out.2.2.1 b hb).1, (OS1.out.2.2.1 b hb).2⟩)) (OS2.out.1.okeep fun b hb => CH2.out.block b (CS2.out b hb) (by simp; exact ⟨(OS2.out.2.2.1 b hb).1, (OS2.out.2.2.1 b hb).2⟩)) (OS3.out.1.okeep fun b hb => CH3.out.block b (CS3.out b hb) (by simp; exact ⟨(OS3.out.2.2.1 b hb).1, (OS3.out.2.2.1 b hb).2⟩)), ?_, ?_, HB.out⟩
  · exact (List.nodup_append.2 ⟨OS1.out.2.1, (List.nodup_append.2 ⟨OS2.out.2.1, OS3.out.2.1, fun a ha b hb hab => by subst hab; exact HD2_3.out a ha hb⟩), fun a ha b hb hab => by subst hab; exact (List.mem_append.1 hb).elim (fun hb => HD1_2.out a ha hb) (fun hb => HD1_3.out a ha hb)⟩)
  · intro b hb
    rcases List.mem_append.1 hb with hb | hb
    · exact HF1.out b hb
    · rcases List.mem_append.1 hb with hb | hb
      · exact HF2.out b hb
      · exact HF3.out b hb
theorem toHouse_at (x : House) (cs : List Value) (w : World) (B : Nat) (h : rHouse.at_ w B x cs) (hB : B ≤ w.heap.size) (hsz : Pl.szHouse x ≤ 1048576) :
    Calls Tryz.prog 24 #[.agg cs.toArray] w (Mm.NewAg rHouse w x) := by
  obtain ⟨A0, n0, c0, A1, n1, c1, A2, n2, c2, rfl, g0, g1, g2⟩ := rHouse_at h
  exact toHouse_c x _ _ _ _ _ _ _ _ _ _ B g0 g1 g2 hB hsz
end Go.Proofs.YtbhmdnjammnlnaaGreatDoor

/-
  The text of a mark. No conditions.
-/
namespace Go.Proofs.YtbhmdnjammnlnaaGreatDoor
open Go.RowKit
theorem conv_byte (W : World) (n : Nat) (hn : n < 256) : (convert 68 9 (.slice (some ⟨W.heap.size, 0, none⟩) 1 1)).run Tryz.prog (W.alloc (.cells #[.int .u8 (n : Int)] 5)) = .ok (.string ⟨#[UInt8.ofNat n]⟩) (W.alloc (.cells #[.int .u8 (n : Int)] 5)) := by
  refine run_convert_bytes_back _ _ _ 5 ⟨W.heap.size, 0, none⟩ 1 [UInt8.ofNat n] Tryz.underlying68 Tryz.underlying5 Tryz.underlying9 (fun j hj => ?_)
  obtain rfl : j = 0 := by simp at hj; exact hj
  have := cell_of_row (W.alloc (.cells #[.int .u8 (n : Int)] 5)) W.heap.size 0 _ _ _ (heap_alloc_new _ _)
  rw [show ((⟨W.heap.size, 0, none⟩ : Addr).add 0) = ⟨W.heap.size, 0, none⟩ from rfl, this]
  simp [Nat.mod_eq_of_lt hn]
theorem str_add (c : UInt8) (acc : List UInt8) : (⟨#[c]⟩ : ByteArray) ++ ⟨acc.toArray⟩ = ⟨(c :: acc).toArray⟩ := by
  apply ByteArray.ext
  simp
set_option maxRecDepth 100000 in
set_option maxHeartbeats 1000000 in
theorem markText_c (k : Int) (w : World) (h0 : 1 ≤ k) (h1 : k ≤ 1000000000000) :
    Calls Tryz.prog 61 #[.int .i64 k] w fun e w' => e = .returned (.string (Pl.mkText k)) ∧ Below w.heap.size w w' := by
  go_enter Tryz.func61, Tryz.ntmps61
  go_wp2
  go_loopw [0, 3] (fun kk s wr => ∃ (f q : Nat) (acc : List UInt8), q ≤ f ∧ acc.length + f ≤ 1000000000000 ∧ kk = .int .i64 q ∧ s = .string ⟨acc.toArray⟩ ∧ Below w.heap.size w wr ∧ Pl.digs f q acc = Pl.digs k.toNat k.toNat []) (fun kk _ _ => (intOf kk).toNat)
  case atStart => exact ⟨k.toNat, k.toNat, [], Nat.le_refl _, by simp; omega, by rw [Int.toNat_of_nonneg (by omega)], rfl, Below.refl _ _, rfl⟩
  case round =>
      obtain ⟨f, q, acc, hq, hq2, rfl, rfl, hbel, hd⟩ := hrel
      rename_i wr _
      have HD := Lib.hid hd
      clear hd
      by_cases h0 : 0 < q
      · obtain ⟨f', rfl⟩ : ∃ f', f = f' + 1 := ⟨f - 1, by omega⟩
        have hdv : q / 10 ≤ f' := by omega
        have HD2 : Hid (Pl.digs f' (q / 10) (UInt8.ofNat (48 + q % 10) :: acc) = Pl.digs k.toNat k.toNat []) := by
          rw [← HD.out]
          show _ = _
          conv => rhs; unfold Pl.digs
          rw [if_neg (by omega)]
        have hcv := fun W : World => conv_byte W (48 + q % 10) (by omega)
        have hca : ((48 + q % 10 : Nat) : Int) = 48 + (q : Int) % 10 := by omega
        rw [hca] at hcv
        clear hca
        go_wp2
        go_roundw
        case rel => exact ⟨f', q / 10, UInt8.ofNat (48 + q % 10) :: acc, hdv, by simp; omega, by simp, by rw [← str_add (UInt8.ofNat (48 + q % 10)) acc, show UInt8.ofNat (48 + q % 10) = 48 + UInt8.ofNat (q % 10) from by simp], below_new hbel _, HD2.out⟩
        case measure => simp [intOf]; omega
      · obtain rfl : q = 0 := by omega
        have HF : Hid (Pl.mkText k = ⟨#[109]⟩ ++ ⟨acc.toArray⟩) := by
          show _ = _
          have h2 := HD.out
          have h3 : Pl.digs f 0 acc = acc := by cases f <;> simp [Pl.digs]
          rw [h3] at h2
          unfold Pl.mkText
          rw [← h2, str_add]
        go_wp2
        go_ret
        exact ⟨by rw [HF.out]; rfl, hbel⟩
end Go.Proofs.YtbhmdnjammnlnaaGreatDoor

