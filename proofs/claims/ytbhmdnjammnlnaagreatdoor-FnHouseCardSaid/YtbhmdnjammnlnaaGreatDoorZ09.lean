/-
  Joined texts, in build order: Y4, Y5, Y6, Y7, Y8, Y9, Yb, Ya, Yc, Yd, LwN, Yf, Yg, Jw. Each part says what it proves; no conditions beyond those that a part names.
-/
import Derived.Test.YtbhmdnjammnlnaaGreatDoorZ01
import Derived.Test.YtbhmdnjammnlnaaGreatDoorZ02
import Derived.Test.YtbhmdnjammnlnaaGreatDoorZ03
import Derived.Test.YtbhmdnjammnlnaaGreatDoorZ04
import Derived.Test.YtbhmdnjammnlnaaGreatDoorZ08
import Derived.Deep.DeepCutAuto
import Derived.Deep.CutBlock
import Derived.Test.YtbhmdnjammnlnaaGreatDoorRows
import Derived.WalkKit
import Derived.ProofKit
import Derived.HandedShaped
import Derived.Handed
import Derived.Lay
import Derived.LaidOnce
import Derived.PinnedBridge
import Derived.Stop.LaidErr
import Derived.Stop.Joined
import Derived.Shelf.Vars
set_option linter.unusedVariables false
set_option linter.unusedSimpArgs false
namespace Go.Proofs.YtbhmdnjammnlnaaGreatDoor
open Go.RowKit
attribute [local go_sem] und_cell cha_cell World.cell?_alloc_some
theorem Pl.followS_no {h : House} {k : Nat} (e : (Pl.followS h k).2 = false) : (Pl.followS h k).1 = h := by
  unfold Pl.followS at e ⊢
  split at e
  · cases e
  · rename_i hc; rw [if_neg hc]
theorem Pl.stepS_no {h : House} {s : HouseStep} (e : (Pl.stepS h s).2 = false) : (Pl.stepS h s).1 = h := by
  unfold Pl.stepS at e ⊢
  by_cases c0 : 0 ≤ s.Part ∧ s.Part < h.Logs.length
  · rw [if_pos c0] at e ⊢
    by_cases c1 : s.Kind = 1
    · rw [if_pos c1] at e ⊢
      split at e
      · cases e
      · rename_i hc; rw [if_neg hc]
    · rw [if_neg c1] at e ⊢
      by_cases c2 : Pl.noSay s.What = true
      · rw [if_pos c2] at e ⊢
        by_cases c3 : s.Kind = 2
        · rw [if_pos c3] at e ⊢; exact Pl.followS_no e
        · rw [if_neg c3] at e ⊢
          by_cases c4 : s.Kind = 3
          · rw [if_pos c4] at e; cases e
          · rw [if_neg c4] at e ⊢
            by_cases c5 : s.Kind = 4
            · rw [if_pos c5] at e; cases e
            · rw [if_neg c5]
      · rw [if_neg c2]
  · rw [if_neg c0]
set_option maxRecDepth 100000 in
set_option maxHeartbeats 8000000 in
theorem specPlayHouse_c (parts : Int) (l : List HouseStep) (A : Option Addr) (n c : Nat) (w : World) (B : Nat) (hl : Mm.SlAt rHouseStep w B l A n c) (hB : B ≤ w.heap.size) :
    Calls Tryz.prog 11 #[.int .i64 parts, .slice A n c] w (PlayAnsH (Pl.playHo parts l) w) := by
  have HL := Lib.hid hl
  have HLN : Hid (l.length = n) := hl.1
  have hnm : n ≤ 9223372036854775807 := by have := hl.2.1; have := hl.2.2.1; unfold maxLen at this; omega
  have HBW := Lib.hid hB
  clear hl hB
  obtain ⟨gz, hgz⟩ : ∃ g, w.heap.size = g := ⟨_, rfl⟩
  obtain ⟨W0, hW0⟩ : ∃ W, w.alloc (.cells #[.slice none 0 0, .slice none 0 0, .slice none 0 0] 27) = W := ⟨_, rfl⟩
  have HS1 := Lib.hid (((Mm.SepF.start w).alloc' hgz 27 [.slice none 0 0, .slice none 0 0, .slice none 0 0]).atW hW0)
  obtain ⟨inb, hin⟩ : ∃ b, Pl.isIn parts 1 3 = b := ⟨_, rfl⟩
  have HIN := Lib.hid hin
  clear hin
  obtain ⟨h, hh0⟩ : ∃ h, (Pl.newHouse parts).1 = h := ⟨_, rfl⟩
  have CN := specNewHouse_c parts W0
  rw [hh0] at CN
  have HH0 := Lib.hid hh0
  have hok : (Pl.newHouse parts).2 = inb := by
    unfold Pl.newHouse
    rw [HIN.out]
    cases inb <;> rfl
  rw [hok] at CN
  clear hh0 hok
  go_enter Tryz.func11, Tryz.ntmps11
  go_upto_region 1 with fail
  clear hW0 hgz
  go_wp2_with fail
  refine CN.mono ?_
  rintro e w2 ⟨csc, fpc, rfl, hoc, hndc, hnewc, hbc⟩
  clear CN
  obtain ⟨Wc, rfl⟩ : ∃ W : World, W = w2 := ⟨_, rfl⟩
  obtain ⟨A3, m3, k3, A4, m4, k4, A5, m5, k5, f3, f4, f5, rfl, l3, l4, l5, hso⟩ := Mm.SepF.hoOpen (h := h) (HS1.out.add hbc (t := Mm.tow rHouse h csc fpc) hoc hndc hnewc)
  have HS2 := Lib.hid hso
  clear hso hbc hoc hndc hnewc
  obtain ⟨gp, hgp⟩ : ∃ g, Wc.heap.size = g := ⟨_, rfl⟩
  obtain ⟨Wd, hWd⟩ : ∃ W, Wc.alloc (.cells #[.slice none 0 0, .slice none 0 0, .slice none 0 0] 27) = W := ⟨_, rfl⟩
  have HS3 := Lib.hid ((HS2.out.alloc' hgp 27 [.slice none 0 0, .slice none 0 0, .slice none 0 0]).atW hWd)
  have q0 := HS3.out.cell (k := 0) 0 rfl rfl
  have q1 := HS3.out.cell (k := 1) 0 rfl rfl
  have q2 := HS3.out.cell (k := 2) 0 rfl rfl
  have y0 := HS3.out.frz (k := 0) 0 rfl
  have y1 := HS3.out.frz (k := 1) 0 rfl
  have y2 := HS3.out.frz (k := 2) 0 rfl
  go_upto_region 2 with fail
  obtain ⟨WF, hWF⟩ : ∃ V, ((Wd.setCell ⟨gp, 0, none⟩ (.slice A3 m3 k3)).setCell ⟨gp, 1, none⟩ (.slice A4 m4 k4)).setCell ⟨gp, 2, none⟩ (.slice A5 m5 k5) = V := ⟨_, rfl⟩
  have HS4 := Lib.hid ((((HS3.out.setBlk (k := 0) 0 rfl (.slice A3 m3 k3)).setBlk (k := 1) 0 rfl (.slice A4 m4 k4)).setBlk (k := 2) 0 rfl (.slice A5 m5 k5)).atW hWF)
  rw [hWF]
  clear hWF hWd hgp q0 q1 q2 y0 y1 y2 HS3 HS2 HS1
  cases inb with
  | false =>
    have HF : Hid (Pl.playHo parts l = (zHo, [], false)) := if_neg (fun hh => by have := HIN.out.symm.trans hh.1; cases this)
    go_upto_region 3 with fail
    obtain ⟨WR, hWR⟩ : ∃ V, ((WF.setCell ⟨gz, 0, none⟩ (.slice none 0 0)).setCell ⟨gz, 1, none⟩ (.slice none 0 0)).setCell ⟨gz, 2, none⟩ (.slice none 0 0) = V := ⟨_, rfl⟩
    have HSF := Lib.hid ((((HS4.out.setBlk (k := 0) 4 rfl (.slice none 0 0)).setBlk (k := 1) 4 rfl (.slice none 0 0)).setBlk (k := 2) 4 rfl (.slice none 0 0)).atW hWR)
    have u0 := HSF.out.cell (k := 0) 4 rfl rfl
    have u1 := HSF.out.cell (k := 1) 4 rfl rfl
    have u2 := HSF.out.cell (k := 2) 4 rfl rfl
    have z0 := HS4.out.cell (k := 0) 4 rfl rfl
    have z1 := HS4.out.cell (k := 1) 4 rfl rfl
    have z2 := HS4.out.cell (k := 2) 4 rfl rfl
    have y0 := HS4.out.frz (k := 0) 4 rfl
    have y1 := HS4.out.frz (k := 1) 4 rfl
    have y2 := HS4.out.frz (k := 2) 4 rfl
    go_wp2
    rw [HF.out]
    exact bodyPost_ret (v := .tuple #[.agg #[.slice none 0 0, .slice none 0 0, .slice none 0 0], .slice none 0 0, .bool false]) (by simp [results, Tryz.results11, go_sem, u0, u1, u2]) rfl (playNoH HSF.out.bel0)
  | true =>
    by_cases h60 : 60 < n
    · have h60' : decide ((60 : Int) < (n : Nat)) = true := decide_eq_true (by omega)
      have HF : Hid (Pl.playHo parts l = (zHo, [], false)) := if_neg (fun hh => by have := HLN.out; omega)
      go_upto_region 3 with fail
      obtain ⟨WR, hWR⟩ : ∃ V, ((WF.setCell ⟨gz, 0, none⟩ (.slice none 0 0)).setCell ⟨gz, 1, none⟩ (.slice none 0 0)).setCell ⟨gz, 2, none⟩ (.slice none 0 0) = V := ⟨_, rfl⟩
      have HSF := Lib.hid ((((HS4.out.setBlk (k := 0) 4 rfl (.slice none 0 0)).setBlk (k := 1) 4 rfl (.slice none 0 0)).setBlk (k := 2) 4 rfl (.slice none 0 0)).atW hWR)
      have u0 := HSF.out.cell (k := 0) 4 rfl rfl
      have u1 := HSF.out.cell (k := 1) 4 rfl rfl
      have u2 := HSF.out.cell (k := 2) 4 rfl rfl
      have z0 := HS4.out.cell (k := 0) 4 rfl rfl
      have z1 := HS4.out.cell (k := 1) 4 rfl rfl
      have z2 := HS4.out.cell (k := 2) 4 rfl rfl
      have y0 := HS4.out.frz (k := 0) 4 rfl
      have y1 := HS4.out.frz (k := 1) 4 rfl
      have y2 := HS4.out.frz (k := 2) 4 rfl
      go_wp2
      rw [HF.out]
      exact bodyPost_ret (v := .tuple #[.agg #[.slice none 0 0, .slice none 0 0, .slice none 0 0], .slice none 0 0, .bool false]) (by simp [results, Tryz.results11, go_sem, u0, u1, u2]) rfl (playNoH HSF.out.bel0)
    · have h60' : decide ((60 : Int) < (n : Nat)) = false := decide_eq_false (by omega)
      have h60'' : ¬ (60 : Int) < (n : Nat) := by omega
      obtain ⟨m, rfl⟩ : ∃ m : Nat, parts = m := ⟨parts.toNat, by have := Pl.isIn_iff.1 HIN.out; omega⟩
      have hm : 1 ≤ m ∧ m ≤ 3 := by have := Pl.isIn_iff.1 HIN.out; omega
      have hhm : h = Pl.newHo m := by
        rw [← HH0.out]
        unfold Pl.newHouse
        rw [if_pos HIN.out, Int.toNat_natCast]
      have HHO : Hid (Pl.HouseOk h) := by show _; rw [hhm]; exact Pl.newHo_ok hm.1 hm.2
      have HF : Hid (Pl.playHo m l = (Pl.runH h l, Pl.runD h l, true)) := by
        show _ = _
        unfold Pl.playHo
        rw [if_pos ⟨HIN.out, by have := HLN.out; omega⟩, Int.toNat_natCast, hhm]
      obtain rfl : m4 = m3 := by have := HHO.out.hdn; omega
      obtain rfl : m5 = m4 := by have := HHO.out.kpn; omega
      clear hhm hm l3 l4 l5
      obtain ⟨iB, qB, qB0, qB1, qB2⟩ := info_parts Tryz.infoBoolY
      have HSA : Hid (HoSep w WF h gp [Mm.tsl Mm.bool 4 [] (.slice none 0 0) [], Mm.tblk gz 27 [.slice none 0 0, .slice none 0 0, .slice none 0 0]]) :=
        ⟨m5, A3, k3, f3, A4, k4, f4, A5, k5, f5, (HS4.out.add (Below.refl _ _) (t := Mm.tsl Mm.bool 4 [] (.slice none 0 0) []) Mm.SlOwn.nil List.nodup_nil (fun b hb => by cases hb)).sel [2, 3, 4, 1, 0, 5] (by decide) rfl⟩
      clear HS4
      go_upto_region 6 with fail
      go_loopg [9, 29] n (fun gg d_ i_ wr => ∃ (k : Nat) (A' : Option Addr) (c' : Nat) (fq : List Nat), n - k ≤ gg ∧ k ≤ n ∧ i_ = .int .i64 (k : Nat) ∧ d_ = .slice A' k c' ∧ Hid (HoSep w wr (Pl.runH h (l.take k)) gp [Mm.tsl Mm.bool 4 (Pl.runD h (l.take k)) (.slice A' k c') fq, Mm.tblk gz 27 [.slice none 0 0, .slice none 0 0, .slice none 0 0]]))
      case atStart => exact ⟨0, none, 0, [], by omega, by omega, rfl, rfl, HSA.out⟩
      case round =>
        clear HSA
        obtain ⟨k, A', c', fq, hgk, hk', rfl, rfl, HS⟩ := hrel
        obtain ⟨W, rfl⟩ : ∃ W : World, W = wr := ⟨_, rfl⟩
        by_cases hlt : k < n
        · have fc : (k : Int) < (n : Nat) := by omega
          obtain ⟨n1, AL, cL, fL, AH, cH, fH, AK, cK, fK, hS⟩ := HS.out
          have HSB := Lib.hid hS
          clear hS HS
          obtain ⟨x, bx, ox, hx, rfl, hbx, ik, ip, inm, iat, ivl, e0, e1, e2, e3, e4⟩ := rHouseStep_get (HL.out.keep (w' := W) fun b hb => HSB.out.bel0.block b (by have := HBW.out; omega)) hlt
          have HNX := Lib.hid (Mm.take_succ_some hx)
          have HXI : Hid (StepI x) := ⟨ik, ip, inm, iat, ivl⟩
          clear ik ip inm iat ivl hx
          obtain ⟨gx, hgx⟩ : ∃ g, W.heap.size = g := ⟨_, rfl⟩
          obtain ⟨W1, hW1⟩ : ∃ V, W.alloc (.cells #[.int .i64 x.Kind, .int .i64 x.Part, .string x.What.Name, .int .i64 x.What.At, .int .i64 x.What.Value] 57) = V := ⟨_, rfl⟩
          have HS1 := Lib.hid ((HSB.out.alloc' hgx 57 [.int .i64 x.Kind, .int .i64 x.Part, .string x.What.Name, .int .i64 x.What.At, .int .i64 x.What.Value]).atW hW1)
          go_upto_region 8 with fail
          clear hW1 hgx HSB e0 e1 e2 e3 e4
          have s0 := HS1.out.cell (k := 0) 0 rfl rfl
          have s1 := HS1.out.cell (k := 1) 0 rfl rfl
          have s2 := HS1.out.cell (k := 2) 0 rfl rfl
          have s3 := HS1.out.cell (k := 3) 0 rfl rfl
          have s4 := HS1.out.cell (k := 4) 0 rfl rfl
          have d0 := HS1.out.cell (k := 0) 4 rfl rfl
          have d1 := HS1.out.cell (k := 1) 4 rfl rfl
          have d2 := HS1.out.cell (k := 2) 4 rfl rfl
          have HKO := Lib.hid (HHO.out.run (l.take k))
          obtain ⟨hk, hhk⟩ : ∃ x, Pl.runH h (l.take k) = x := ⟨_, rfl⟩
          have HHK := Lib.hid hhk
          rw [hhk] at HS1 HKO
          have how : rHouse.own W1 hk [.slice AL n1 cL, .slice AH n1 cH, .slice AK n1 cK] (fL ++ (fH ++ fK)) := rHouse_own_mk (HS1.out.sl 1 rfl) (HS1.out.sl 2 rfl) (HS1.out.sl 3 rfl)
          have HAT := Lib.hid (rHouse.weak how (rHouse.olt how) (B := W1.heap.size))
          obtain ⟨ok, hok⟩ : ∃ b, (Pl.stepS hk x).2 = b := ⟨_, rfl⟩
          obtain ⟨h2, hh2⟩ : ∃ y, (Pl.stepS hk x).1 = y := ⟨_, rfl⟩
          have HOK := Lib.hid hok
          have HH2 := Lib.hid hh2
          clear hok hh2 how hhk
          refine Mm.wp_region_give 9 (fun i => match i with | 1 => some (gHoA hk) | 3 => some (gHoS h2 ok) | 7 => some (Mm.gPtr 27 [.slice none 0 0, .slice none 0 0, .slice none 0 0]) | 8 => some (Mm.gSto 27) | _ => none) (fun i => match i with | 3 => [1] | 8 => [7] | _ => []) (fun _ => []) (F := []) (D := fun w' => ∃ x : Und W1, w' = und W1 x) (fun X us h => Mm.sep_und h) (by kernel_rfl) (by kernel_rfl) (by kernel_rfl) (Mm.SepF.startDrew _) ?_
          repeat (refine Mm.give_det (by rfl) (by rfl) (by rfl) (fun K hK => ?_); go_big_quiet_op; refine hK _ ?_; clear hK K)
          refine Mm.give_op0 35 (by rfl) rfl (by rfl) (by rfl) (by rfl) (by rfl) gHoA_in (fun others X hX => ?_) ?_
          · go_wp2_with (go_at_call 54; refine (l17Own_c hk _ X W1.heap.size (rHouse.keep HAT.out fun b hb => hX.bel0.block b hb) hX.bel0.size HKO.out.hos).mono ?_; rintro e w5 ⟨cs5, f5, rfl, ho5, hnd5, hnew5, hb5⟩; obtain ⟨B0, r0, j0, B1, r1, j1, B2, r2, j2, z0, z1, z2, rfl, rfl, -, -, -⟩ := rHouse_own ho5)
            exact ⟨rfl, rfl, _, ⟨B0, r0, j0, B1, r1, j1, B2, r2, j2, _, rfl, rfl⟩, hX.add hb5 (t := Mm.tow rHouse hk _ _) ho5 hnd5 hnew5⟩
          rintro v ds ⟨B0, r0, j0, B1, r1, j1, B2, r2, j2, f5, rfl, rfl⟩
          simp only [Act.put, List.setIfInBounds_toArray, List.set_cons_succ, List.set_cons_zero]
          repeat (refine Mm.give_det (by rfl) (by rfl) (by rfl) (fun K hK => ?_); go_big_quiet_op; refine hK _ ?_; clear hK K)
          refine Mm.give_op1 37 1 (by rfl) rfl (by rfl) (by rfl) (by rfl) rfl (by rfl) _ rfl gHoS_in (fun others X hX => ?_) ?_
          · obtain ⟨E0, u0, i0, E1, u1, i1, E2, u2, i2, z0, z1, z2, hcs, l0, l1, l2, hso⟩ := Mm.SepF.hoOpen (h := hk) (rest := others) hX
            simp only [List.cons.injEq, Value.slice.injEq, and_true] at hcs
            obtain ⟨⟨rfl, rfl, rfl⟩, ⟨rfl, rfl, rfl⟩, rfl, rfl, rfl⟩ := hcs
            obtain rfl : r1 = r0 := by have := HKO.out.hdn; omega
            obtain rfl : r2 = r1 := by have := HKO.out.kpn; omega
            have CS := l17Step_c hk x others HKO.out HXI.out _ W1 X ⟨r2, _, _, _, _, _, _, _, _, _, rfl, hso⟩
            rw [HOK.out, HH2.out] at CS
            go_wp2_with (go_at_call 53; refine CS.mono ?_; rintro e w6 ⟨rfl, hv6⟩; obtain ⟨x0, x1, x2, hs6⟩ := hv6.sep)
            exact ⟨rfl, rfl, _, ⟨_, _, _, _, _, _, _, _, _, _, rfl, rfl⟩, hs6.hoShut⟩
          rintro v ds ⟨C0, t0, k0, C1, t1, k1, C2, t2, k2, f6, rfl, rfl⟩
          simp only [Act.put, List.setIfInBounds_toArray, List.set_cons_succ, List.set_cons_zero]
          repeat (refine Mm.give_det (by rfl) (by rfl) (by rfl) (fun K hK => ?_); go_big_quiet_op; refine hK _ ?_; clear hK K)
          refine Mm.give_op0 12 (by rfl) rfl (by rfl) (by rfl) (by rfl) (by rfl) Mm.gPtr_in (fun others X hX => ?_) ?_
          · go_wp2
            exact Mm.gvq_ptr hX rfl rfl rfl
          rintro v ds ⟨gq, rfl, rfl⟩
          simp only [Act.put, List.setIfInBounds_toArray, List.set_cons_succ, List.set_cons_zero]
          refine Mm.give_store 27 gq [.slice none 0 0, .slice none 0 0, .slice none 0 0] [.slice C0 t0 k0, .slice C1 t1 k1, .slice C2 t2 k2] 7 (by rfl) rfl rfl (by rfl) rfl (by rfl) rfl rfl (fun others X hX => ?_) ?_
          · have y0 := hX.cell (k := 0) 0 rfl rfl
            have y1 := hX.cell (k := 1) 0 rfl rfl
            have y2 := hX.cell (k := 2) 0 rfl rfl
            have x0 := hX.frz (k := 0) 0 rfl
            have x1 := hX.frz (k := 1) 0 rfl
            have x2 := hX.frz (k := 2) 0 rfl
            have hX9 := ((hX.setBlk (k := 0) 0 rfl (.slice C0 t0 k0)).setBlk (k := 1) 0 rfl (.slice C1 t1 k1)).setBlk (k := 2) 0 rfl (.slice C2 t2 k2)
            go_wp2
            exact ⟨rfl, rfl, _, rfl, hX9⟩
          refine Mm.give_nil ?_
          rintro X2 hX
          have HS2 := Lib.hid (HS1.out.join (us := [Mm.tow rHouse h2 [.slice C0 t0 k0, .slice C1 t1 k1, .slice C2 t2 k2] f6, Mm.tblk gq 27 [.slice C0 t0 k0, .slice C1 t1 k1, .slice C2 t2 k2]]) hX)
          clear hX d0 d1 d2 s0 s1 s2 s3 s4 HS1 HAT
          go_upto_region 9 with fail
          cases ok with
          | false =>
            have e2 : h2 = hk := by rw [← HH2.out]; exact Pl.stepS_no HOK.out
            have HS5 := Lib.hid (HS2.out.sel [3, 4, 5, 6, 7, 8] (by decide) rfl)
            have HNE : Hid (Pl.runH h (l.take (k + 1)) = hk) := by show _ = _; rw [HNX.out, Pl.runH_snoc, HHK.out, HH2.out, e2]
            have HND : Hid (Pl.runD h (l.take (k + 1)) = Pl.runD h (l.take k) ++ [false]) := by show _ = _; rw [HNX.out, Pl.runD_snoc, HHK.out, HOK.out]
            clear HS2 e2
            have HPL : Hid ((Pl.runD h (l.take k)).length = k) := by show _ = _; rw [Pl.runD_len, List.length_take]; have := HLN.out; omega
            go_wp2_with (at_builtin; refine Mm.app_list HS5.out 4 rfl rfl (.tmp 42) (.tmp 44) 28 rfl iB _ 1 Tryz.underlying28 qB qB0 qB1 qB2 rfl (by decide) rfl rfl (fun W => ⟨rfl, trivial, rfl⟩) HPL.out (by unfold maxLen; omega) (by omega) ?_; intro g cap w' fp' hs; (have HS6 := Lib.hid hs); clear hs)
            go_roundg (n - (k + 1))
            case measure => omega
            case rel =>
              refine ⟨k + 1, _, cap, fp', Nat.le_refl _, by omega, by go_num, rfl, ?_⟩
              rw [HNE.out, HND.out]
              exact ⟨n1, AL, cL, fL, AH, cH, fH, AK, cK, fK, HS6.out⟩
          | true =>
            have q0 := HS2.out.cell (k := 0) 1 rfl rfl
            have q1 := HS2.out.cell (k := 1) 1 rfl rfl
            have q2 := HS2.out.cell (k := 2) 1 rfl rfl
            have d0 := HS2.out.cell (k := 0) 6 rfl rfl
            have d1 := HS2.out.cell (k := 1) 6 rfl rfl
            have d2 := HS2.out.cell (k := 2) 6 rfl rfl
            have y0 := HS2.out.frz (k := 0) 6 rfl
            have y1 := HS2.out.frz (k := 1) 6 rfl
            have y2 := HS2.out.frz (k := 2) 6 rfl
            go_upto_region 11 with fail
            obtain ⟨X3, hX3⟩ : ∃ V, ((X2.setCell ⟨gp, 0, none⟩ (.slice C0 t0 k0)).setCell ⟨gp, 1, none⟩ (.slice C1 t1 k1)).setCell ⟨gp, 2, none⟩ (.slice C2 t2 k2) = V := ⟨_, rfl⟩
            have hs3 := (((HS2.out.setBlk (k := 0) 6 rfl (.slice C0 t0 k0)).setBlk (k := 1) 6 rfl (.slice C1 t1 k1)).setBlk (k := 2) 6 rfl (.slice C2 t2 k2)).atW hX3
            rw [hX3]
            obtain ⟨E0, u0, i0, E1, u1, i1, E2, u2, i2, fa, fb, fc', hcs, l0, l1, l2, hs4⟩ := Mm.SepF.hoOpen (h := h2) (hs3.sel [0, 6, 7, 8] (by decide) rfl)
            simp only [List.cons.injEq, Value.slice.injEq, and_true] at hcs
            obtain ⟨⟨rfl, rfl, rfl⟩, ⟨rfl, rfl, rfl⟩, rfl, rfl, rfl⟩ := hcs
            have HO2 : Pl.HouseOk h2 := by rw [← HH2.out]; exact HKO.out.step x
            obtain rfl : t1 = t0 := by have := HO2.hdn; omega
            obtain rfl : t2 = t1 := by have := HO2.kpn; omega
            have HS5 := Lib.hid hs4
            have HNE : Hid (Pl.runH h (l.take (k + 1)) = h2) := by show _ = _; rw [HNX.out, Pl.runH_snoc, HHK.out, HH2.out]
            have HND : Hid (Pl.runD h (l.take (k + 1)) = Pl.runD h (l.take k) ++ [true]) := by show _ = _; rw [HNX.out, Pl.runD_snoc, HHK.out, HOK.out]
            clear hs3 hs4 hX3 q0 q1 q2 d0 d1 d2 y0 y1 y2 HS2 HO2 l0 l1 l2
            have HPL : Hid ((Pl.runD h (l.take k)).length = k) := by show _ = _; rw [Pl.runD_len, List.length_take]; have := HLN.out; omega
            go_wp2_with (at_builtin; refine Mm.app_list HS5.out 4 rfl rfl (.tmp 42) (.tmp 44) 28 rfl iB _ 1 Tryz.underlying28 qB qB0 qB1 qB2 rfl (by decide) rfl rfl (fun W => ⟨rfl, trivial, rfl⟩) HPL.out (by unfold maxLen; omega) (by omega) ?_; intro g cap w' fp' hs; (have HS6 := Lib.hid hs); clear hs)
            go_roundg (n - (k + 1))
            case measure => omega
            case rel =>
              refine ⟨k + 1, _, cap, fp', Nat.le_refl _, by omega, by go_num, rfl, ?_⟩
              rw [HNE.out, HND.out]
              exact ⟨t2, C0, k0, fa, C1, k1, fb, C2, k2, fc', HS6.out⟩
        · obtain rfl : k = n := by omega
          have fc : ¬ ((k : Nat) : Int) < (k : Nat) := by omega
          rw [List.take_of_length_le (by have := HLN.out; omega)] at HS
          obtain ⟨n1, AL, cL, fL, AH, cH, fH, AK, cK, fK, hS⟩ := HS.out
          have HSV := Lib.hid hS
          clear hS HS
          have p0 := HSV.out.cell (k := 0) 3 rfl rfl
          have p1 := HSV.out.cell (k := 1) 3 rfl rfl
          have p2 := HSV.out.cell (k := 2) 3 rfl rfl
          have HXO := Lib.hid (HHO.out.run l)
          obtain ⟨hx, hhx⟩ : ∃ x, Pl.runH h l = x := ⟨_, rfl⟩
          rw [hhx] at HSV HXO HF
          have how : rHouse.own W hx [.slice AL n1 cL, .slice AH n1 cH, .slice AK n1 cK] (fL ++ (fH ++ fK)) := rHouse_own_mk (HSV.out.sl 0 rfl) (HSV.out.sl 1 rfl) (HSV.out.sl 2 rfl)
          have CO := l17Own_c hx _ W W.heap.size (rHouse.weak how (rHouse.olt how)) (Nat.le_refl _) HXO.out.hos
          clear how hhx
          go_wp2_with fail
          refine CO.mono ?_
          rintro e w9 ⟨cs9, fp9, rfl, ho9, hnd9, hnew9, hb9⟩
          obtain ⟨W9, rfl⟩ : ∃ W : World, W = w9 := ⟨_, rfl⟩
          have hs9 := HSV.out.add hb9 (t := Mm.tow rHouse hx cs9 fp9) ho9 hnd9 hnew9
          obtain ⟨B0, r0, e0, B1, r1, e1, B2, r2, e2, j0, j1, j2, rfl, -, -, -, hs9⟩ := hs9.hoOpen
          have HS9 := Lib.hid hs9
          clear CO ho9 hnd9 hnew9 hb9 hs9 p0 p1 p2 HSV
          obtain ⟨WR, hWR⟩ : ∃ V, ((W9.setCell ⟨gz, 0, none⟩ (.slice B0 r0 e0)).setCell ⟨gz, 1, none⟩ (.slice B1 r1 e1)).setCell ⟨gz, 2, none⟩ (.slice B2 r2 e2) = V := ⟨_, rfl⟩
          have HSF := Lib.hid ((((HS9.out.setBlk (k := 0) 8 rfl (.slice B0 r0 e0)).setBlk (k := 1) 8 rfl (.slice B1 r1 e1)).setBlk (k := 2) 8 rfl (.slice B2 r2 e2)).atW hWR)
          have u0 := HSF.out.cell (k := 0) 8 rfl rfl
          have u1 := HSF.out.cell (k := 1) 8 rfl rfl
          have u2 := HSF.out.cell (k := 2) 8 rfl rfl
          have z0 := HS9.out.cell (k := 0) 8 rfl rfl
          have z1 := HS9.out.cell (k := 1) 8 rfl rfl
          have z2 := HS9.out.cell (k := 2) 8 rfl rfl
          have y0 := HS9.out.frz (k := 0) 8 rfl
          have y1 := HS9.out.frz (k := 1) 8 rfl
          have y2 := HS9.out.frz (k := 2) 8 rfl
          go_wp2
          rw [HF.out]
          exact bodyPost_ret (v := .tuple #[.agg #[.slice B0 r0 e0, .slice B1 r1 e1, .slice B2 r2 e2], .slice A' k c', .bool true]) (by simp [results, Tryz.results11, go_sem, u0, u1, u2]) rfl ⟨_, A', k, c', _, _, rfl, (HSF.out.hoShut (h := hx)).sel [0, 5] (by decide) rfl⟩
end Go.Proofs.YtbhmdnjammnlnaaGreatDoor

namespace Go.Proofs.YtbhmdnjammnlnaaGreatDoor
open Go.RowKit
namespace Pl
def smpStep (l : List Sample) (x : Say) : List Sample :=
  if l = [] then [⟨x.At, x.Value⟩] else if (sampleAt l (l.length - 1)).At = x.At then l else if (sampleAt l (l.length - 1)).At > x.At then l else if l.length = 40 then l else l ++ [⟨x.At, x.Value⟩]
theorem rowOf_set_ne {l : List Row} {k : Nat} {r q : Row} {s : ByteArray} (hs : RSort l) (hr : l[k]? = some r) (hn : rnm q = rnm r) (hne : rnm r ≠ s) : rowOf s (l.set k q) = rowOf s l := by
  induction l generalizing k with
  | nil => rfl
  | cons y t ih =>
    cases k with
    | zero =>
      simp at hr
      subst hr
      show (if rnm q = s then some q else rowOf s t) = (if rnm y = s then some y else rowOf s t)
      rw [if_neg (by rw [hn]; exact hne), if_neg hne]
    | succ k =>
      show (if rnm y = s then some y else rowOf s (t.set k q)) = (if rnm y = s then some y else rowOf s t)
      rw [ih hs.tail (by simpa using hr)]
theorem nodup_sub_len {α : Type} [DecidableEq α] : ∀ {l m : List α}, l.Nodup → (∀ x, x ∈ l → x ∈ m) → l.length ≤ m.length
  | [], _, _, _ => Nat.zero_le _
  | x :: t, m, hd, hs => by
    have h1 := List.nodup_cons.1 hd
    have h2 := nodup_sub_len (m := m.erase x) h1.2 fun y hy => (List.mem_erase_of_ne (fun e => h1.1 (by rw [← e]; exact hy))).2 (hs y (List.mem_cons_of_mem _ hy))
    have h3 := List.length_erase_of_mem (hs x (List.mem_cons_self ..))
    have h4 : 0 < m.length := List.length_pos_of_mem (hs x (List.mem_cons_self ..))
    rw [List.length_cons]; omega
theorem rowOf_app {s : ByteArray} {b : List Row} : ∀ {a : List Row}, rowOf s (a ++ b) = match rowOf s a with | some r => some r | none => rowOf s b
  | [] => rfl
  | x :: a => by
    show (if rnm x = s then some x else rowOf s (a ++ b)) = match (if rnm x = s then some x else rowOf s a) with | some r => some r | none => rowOf s b
    by_cases h : rnm x = s
    · rw [if_pos h, if_pos h]
    · rw [if_neg h, if_neg h]; exact rowOf_app
theorem rowOf_ins_ne {s : ByteArray} {l : List Row} {k : Nat} {t : Row} (h : rnm t ≠ s) : rowOf s (Mm.insertAt l k t) = rowOf s l := by
  conv => rhs; rw [← List.take_append_drop k l, rowOf_app]
  unfold Mm.insertAt
  rw [rowOf_app]
  have e : rowOf s (t :: l.drop k) = rowOf s (l.drop k) := if_neg h
  rw [e]
theorem rowOf_take {s : ByteArray} {l : List Row} (k : Nat) (h : rowOf s l = none) : rowOf s (l.take k) = none := by
  rw [← List.take_append_drop k l, rowOf_app] at h
  cases e : rowOf s (l.take k) with
  | none => rfl
  | some r => rw [e] at h; cases h
theorem rowOf_ins_eq {s : ByteArray} {l : List Row} {k : Nat} {t : Row} (h : rnm t = s) (hn : rowOf s l = none) : rowOf s (Mm.insertAt l k t) = some t := by
  unfold Mm.insertAt
  rw [rowOf_app, rowOf_take k hn]
  exact if_pos h
theorem take_other {h : Head} (k : HW h) {x : Say} {s : ByteArray} (hne : x.Name ≠ s) : rowOf s (takeS h x).1.Rows = rowOf s h.Rows := by
  by_cases hh : ∃ r, h.Rows[rpos x.Name h.Rows]? = some r ∧ r.Name = x.Name
  · obtain ⟨r, hr, he⟩ := hh
    rw [takeS_hit hr he]
    unfold hitS
    split
    · rfl
    · split
      · rfl
      · split
        · rfl
        · exact rowOf_set_ne k.srt hr rfl (by show r.Name ≠ s; rw [he]; exact hne)
  · have hm : ∀ o, h.Rows[rpos x.Name h.Rows]? = some o → rnm o ≠ x.Name := fun o ho he => hh ⟨o, ho, he⟩
    rw [takeS_miss hm]
    unfold missS
    split
    · rfl
    · exact rowOf_ins_ne hne
theorem take_same {h : Head} (k : HW h) {x : Say} (h8 : (∃ r, rowOf x.Name h.Rows = some r) ∨ h.Rows.length ≠ 8) : ∃ r, rowOf x.Name (takeS h x).1.Rows = some r ∧ r.Samples = smpStep (smpsOf (rowOf x.Name h.Rows)) x := by
  by_cases hh : ∃ r, h.Rows[rpos x.Name h.Rows]? = some r ∧ r.Name = x.Name
  · obtain ⟨r, hr, he⟩ := hh
    have h1 := rowOf_hit k.srt hr he
    have h2 := (k.ne r (List.mem_of_getElem? hr)).1
    rw [takeS_hit hr he, h1]
    show ∃ q, rowOf x.Name (hitS h (rpos x.Name h.Rows) r x).1.Rows = some q ∧ q.Samples = smpStep r.Samples x
    unfold hitS smpStep lastAt
    rw [if_neg h2]
    by_cases c1 : (sampleAt r.Samples (r.Samples.length - 1)).At = x.At
    · rw [if_pos c1, if_pos c1]; exact ⟨r, h1, rfl⟩
    · rw [if_neg c1, if_neg c1]
      by_cases c2 : x.At < (sampleAt r.Samples (r.Samples.length - 1)).At
      · rw [if_pos c2, if_pos c2]; exact ⟨r, h1, rfl⟩
      · rw [if_neg c2, if_neg c2]
        by_cases c3 : r.Samples.length = 40
        · rw [if_pos c3, if_pos c3]; exact ⟨r, h1, rfl⟩
        · rw [if_neg c3, if_neg c3]
          exact ⟨⟨r.Name, r.Samples ++ [⟨x.At, x.Value⟩]⟩, rowOf_hit (k.srt.set hr rfl) (List.getElem?_set_self (List.getElem?_eq_some_iff.1 hr).1) he, rfl⟩
  · have hm : ∀ o, h.Rows[rpos x.Name h.Rows]? = some o → rnm o ≠ x.Name := fun o ho he => hh ⟨o, ho, he⟩
    have h1 := rpos_none k.srt hm
    rw [takeS_miss hm, h1]
    have h9 : h.Rows.length ≠ 8 := h8.resolve_left (fun ⟨r, hr⟩ => by rw [h1] at hr; cases hr)
    unfold missS
    rw [if_neg h9]
    exact ⟨_, rowOf_ins_eq (t := ⟨x.Name, [⟨x.At, x.Value⟩]⟩) rfl h1, rfl⟩
theorem take_names {h : Head} {x : Say} {nms : List ByteArray} (hr : ∀ r, r ∈ h.Rows → rnm r ∈ nms) (hx : x.Name ∈ nms) : ∀ r, r ∈ (takeS h x).1.Rows → rnm r ∈ nms := by
  by_cases hh : ∃ r, h.Rows[rpos x.Name h.Rows]? = some r ∧ r.Name = x.Name
  · obtain ⟨r, hr1, he⟩ := hh
    rw [takeS_hit hr1 he]
    unfold hitS
    split
    · exact hr
    · split
      · exact hr
      · split
        · exact hr
        · intro q hq
          rcases List.mem_or_eq_of_mem_set hq with h1 | rfl
          · exact hr q h1
          · exact hr r (List.mem_of_getElem? hr1)
  · have hm : ∀ o, h.Rows[rpos x.Name h.Rows]? = some o → rnm o ≠ x.Name := fun o ho he => hh ⟨o, ho, he⟩
    rw [takeS_miss hm]
    unfold missS
    split
    · exact hr
    · intro q hq
      rcases List.mem_cons.1 ((Mm.insertAt_perm _ _ _).mem_iff.1 hq) with rfl | h1
      · exact hx
      · exact hr q h1
theorem rsort_nodup {l : List Row} (h : RSort l) : (l.map rnm).Nodup := by
  induction l with
  | nil => exact List.nodup_nil
  | cons x t ih =>
    rw [List.map_cons, List.nodup_cons]
    refine ⟨fun hm => ?_, ih h.tail⟩
    obtain ⟨y, hy, e⟩ := List.mem_map.1 hm
    obtain ⟨i, hi⟩ := List.getElem?_of_mem hy
    have h1 := h 0 (i + 1) x y (by omega) rfl (by simpa using hi)
    rw [e, rless_irrefl] at h1; cases h1
theorem rows_few {h : Head} (k : HW h) {nms : List ByteArray} (hr : ∀ r, r ∈ h.Rows → rnm r ∈ nms) (hn : nms.length < 8) : h.Rows.length ≠ 8 := by
  have h1 := nodup_sub_len (rsort_nodup k.srt) (m := nms) fun x hx => by
    obtain ⟨r, hr1, rfl⟩ := List.mem_map.1 hx
    exact hr r hr1
  rw [List.length_map] at h1
  omega
theorem fold_name {nms : List ByteArray} (hn : nms.length < 8) (s : ByteArray) : ∀ (l : List Say) (h : Head), HW h → (∀ r, r ∈ h.Rows → rnm r ∈ nms) → (∀ x, x ∈ l → x.Name ∈ nms) →
    smpsOf (rowOf s (foldS h l).Rows) = (l.filter (fun x => decide (x.Name = s))).foldl smpStep (smpsOf (rowOf s h.Rows)) ∧ ((∃ r, rowOf s h.Rows = some r) ∨ (∃ x, x ∈ l ∧ x.Name = s) → ∃ r, rowOf s (foldS h l).Rows = some r)
  | [], h, _, _, _ => ⟨rfl, fun k => k.elim id fun ⟨x, hx, _⟩ => by cases hx⟩
  | x :: l, h, k, hr, hx => by
    have ih := fold_name hn s l (takeS h x).1 (k.take x) (take_names hr (hx x (List.mem_cons_self ..))) (fun y hy => hx y (List.mem_cons_of_mem _ hy))
    by_cases e : x.Name = s
    · subst e
      obtain ⟨r, h1, h2⟩ := take_same k (x := x) (.inr (rows_few k hr hn))
      refine ⟨?_, fun _ => ih.2 (.inl ⟨r, h1⟩)⟩
      show smpsOf (rowOf _ (foldS (takeS h x).1 l).Rows) = _
      rw [ih.1, List.filter_cons, if_pos (by simp), List.foldl_cons, h1, ← h2]; rfl
    · have h1 := take_other k (s := s) e
      refine ⟨?_, fun q => ih.2 ?_⟩
      · show smpsOf (rowOf _ (foldS (takeS h x).1 l).Rows) = _
        rw [ih.1, List.filter_cons, if_neg (by simp [e]), h1]
      · rcases q with ⟨r, h2⟩ | ⟨y, hy, e2⟩
        · exact .inl ⟨r, by rw [h1]; exact h2⟩
        · rcases List.mem_cons.1 hy with rfl | hy
          · exact absurd e2 e
          · exact .inr ⟨y, hy, e2⟩
end Pl
end Go.Proofs.YtbhmdnjammnlnaaGreatDoor

namespace Go.Proofs.YtbhmdnjammnlnaaGreatDoor
open Go.RowKit
namespace Pl
def saysK (h : House) (k : Nat) : List Say := (saysOf (h.Logs.length : Int) (k : Int) (lRecs (logK h k).Pieces)).getD []
theorem saysK_of {h : House} {k : Nat} {g : Log} {a b : Head} {l : List Say} (hg : h.Logs[k]? = some g) (p : PartOk h.Logs.length k g a b l) : saysK h k = l := by
  unfold saysK
  rw [logK_of hg, p.txt]; rfl
theorem HouseOk.says {h : House} (H : HouseOk h) {k : Nat} (hk : k < h.Logs.length) : ∃ g a b, h.Logs[k]? = some g ∧ h.Heads[k]? = some a ∧ h.Kept[k]? = some b ∧ PartOk h.Logs.length k g a b (saysK h k) := by
  obtain ⟨g, a, b, l, h1, h2, h3, h4⟩ := H.ex hk
  exact ⟨g, a, b, h1, h2, h3, by rw [saysK_of h1 h4]; exact h4⟩
theorem saysK_logs {h h' : House} (e : h'.Logs = h.Logs) (k : Nat) : saysK h' k = saysK h k := by unfold saysK logK; rw [e]
def told (h : House) (s : HouseStep) : Bool := (stepS h s).2 && decide (s.Kind = 1)
theorem told_iff {h : House} {s : HouseStep} : told h s = true ↔ s.Kind = 1 ∧ (0 ≤ s.Part ∧ s.Part < h.Logs.length) ∧ sayOk s.What = true ∧ partN h.Logs.length s.What.Name = s.Part ∧ appOk (logK h s.Part.toNat) (sayTxt s.What) = true := by
  unfold told
  rw [Bool.and_eq_true, decide_eq_true_eq]
  constructor
  · rintro ⟨h1, h2⟩
    unfold stepS at h1
    by_cases c0 : 0 ≤ s.Part ∧ s.Part < h.Logs.length
    · rw [if_pos c0, if_pos h2] at h1
      split at h1
      · rename_i hc; exact ⟨h2, c0, hc⟩
      · cases h1
    · rw [if_neg c0] at h1; cases h1
  · rintro ⟨h1, h2, h3⟩
    refine ⟨?_, h1⟩
    unfold stepS
    rw [if_pos h2, if_pos h1, if_pos h3]
theorem step_logs {h : House} {s : HouseStep} (ht : told h s = false) : (stepS h s).1.Logs = h.Logs := by
  unfold stepS
  split
  · rename_i c0
    split
    · rename_i c1
      split
      · rename_i c2
        have := told_iff.2 ⟨c1, c0, c2⟩
        rw [ht] at this; cases this
      · rfl
    · split
      · split
        · exact (followS_len _ _).1
        · split
          · rfl
          · split <;> rfl
      · rfl
  · rfl
theorem step_says {h : House} (H : HouseOk h) (s : HouseStep) {k : Nat} (hk : k < h.Logs.length) :
    saysK (stepS h s).1 k = saysK h k ++ (if told h s = true ∧ s.Part = (k : Int) then [s.What] else []) := by
  cases ht : told h s with
  | false => rw [if_neg (fun hh => by cases hh.1), List.append_nil]; exact saysK_logs (step_logs ht) k
  | true =>
    obtain ⟨h1, h2, h3, h4, h5⟩ := told_iff.1 ht
    have e : stepS h s = (⟨h.Logs.set s.Part.toNat (logOut (logK h s.Part.toNat) (sayTxt s.What)), h.Heads, h.Kept⟩, true) := by
      unfold stepS
      rw [if_pos h2, if_pos h1, if_pos ⟨h3, h4, h5⟩]
    rw [e]
    by_cases hp : s.Part = (k : Int)
    · rw [if_pos ⟨rfl, hp⟩]
      have hpk : s.Part.toNat = k := by omega
      rw [hpk] at h5 ⊢
      obtain ⟨g, a, b, g1, g2, g3, g4⟩ := H.says hk
      rw [logK_of g1] at h5 ⊢
      have g5 := g4.tell h3 (by rw [h4, hp]) h5
      refine saysK_of (h := ⟨h.Logs.set k _, h.Heads, h.Kept⟩) (a := a) (b := b) (List.getElem?_set_self hk) ?_
      show PartOk (h.Logs.set k _).length k _ _ _ _
      rw [List.length_set]; exact g5
    · rw [if_neg (fun hh => hp hh.2), List.append_nil]
      unfold saysK logK
      rw [List.length_set, List.getD_eq_getElem?_getD, List.getElem?_set_ne (fun e => hp (by omega)), ← List.getD_eq_getElem?_getD]
def doneS (h : House) : List HouseStep → List Say
  | [] => []
  | s :: t => if told h s = true then s.What :: doneS (stepS h s).1 t else doneS (stepS h s).1 t
theorem step_len (h : House) (s : HouseStep) : (stepS h s).1.Logs.length = h.Logs.length := by
  cases ht : told h s with
  | false => rw [step_logs ht]
  | true =>
    obtain ⟨h1, h2, h3, h4, h5⟩ := told_iff.1 ht
    unfold stepS
    rw [if_pos h2, if_pos h1, if_pos ⟨h3, h4, h5⟩]
    exact List.length_set
theorem run_says (k : Nat) : ∀ (l : List HouseStep) (h : House), HouseOk h → k < h.Logs.length → saysK (runH h l) k = saysK h k ++ (doneS h l).filter (fun x => decide (partN (h.Logs.length : Int) x.Name = (k : Int)))
  | [], h, _, _ => by show saysK h k = _; simp [doneS]
  | s :: t, h, H, hk => by
    have h1 := step_says H s hk
    have hl := step_len h s
    have ih := run_says k t (stepS h s).1 (H.step s) (by rw [hl]; exact hk)
    show saysK (runH (stepS h s).1 t) k = _
    rw [ih, h1, hl, List.append_assoc]
    congr 1
    cases ht : told h s with
    | false =>
      rw [if_neg (fun hh => by cases hh.1), List.nil_append]
      show _ = (if told h s = true then _ else _ : List Say).filter _
      rw [ht]; rfl
    | true =>
      have hw := told_iff.1 ht
      show _ = (if told h s = true then _ else _ : List Say).filter _
      rw [ht, if_pos rfl, List.filter_cons]
      by_cases hp : s.Part = (k : Int)
      · rw [if_pos ⟨rfl, hp⟩, if_pos (by simp only [decide_eq_true_eq]; rw [hw.2.2.2.1, hp])]; rfl
      · rw [if_neg (fun hh => hp hh.2), if_neg (by simp only [decide_eq_true_eq]; rw [hw.2.2.2.1]; exact hp)]; rfl
end Pl
end Go.Proofs.YtbhmdnjammnlnaaGreatDoor

namespace Go.Proofs.YtbhmdnjammnlnaaGreatDoor
open Go.RowKit
namespace Pl
theorem follow_other {h : House} {k i : Nat} (hi : i ≠ k) : headK (followS h k).1 i = headK h i := by
  unfold followS
  split
  · unfold headK
    rw [List.getD_eq_getElem?_getD, List.getElem?_set_ne (fun e => hi e.symm), ← List.getD_eq_getElem?_getD]
  · rfl
theorem folN_other {h : House} {k i : Nat} (hi : i ≠ k) : ∀ j, headK (folN h k j) i = headK h i
  | 0 => rfl
  | j + 1 => (follow_other hi).trans (folN_other hi j)
theorem many_end {h : House} (H : HouseOk h) {k : Nat} (hk : k < h.Logs.length) : (headK (folN h k (manyN h k)) k).Offset = ((saysK h k).length : Int) := by
  obtain ⟨g, a, b, g1, g2, g3, g4⟩ := H.says hk
  have h1 := folN_off H hk (j := manyN h k) (Nat.le_refl _)
  have hm := g4.mo
  have hle := (g4.hdf.ok g4.sayOk (by have := g4.len; omega)).2.1
  have hr : (lRecs g.Pieces).length = (saysK h k).length := by rw [g4.says.1, List.length_map]
  have hM : manyN h k = ((lRecs (logK h k).Pieces).length : Int).toNat - (headK h k).Offset.toNat := rfl
  rw [headK_of g2, logK_of g1] at hM
  rw [h1, headK_of g2]
  omega
theorem catch_off {h : House} (H : HouseOk h) : ∀ k, k ≤ h.Logs.length → ∀ i, i < k → (headK (catchN h k).1 i).Offset = ((saysK h i).length : Int)
  | 0, _, i, hi => absurd hi (by omega)
  | k + 1, hk, i, hi => by
    have hl := catchN_len h k
    have HC := H.catchN k
    show (headK (folN (catchN h k).1 k (manyN (catchN h k).1 k)) i).Offset = _
    by_cases e : i = k
    · subst e
      rw [many_end HC (by rw [hl]; omega), saysK_logs hl]
    · rw [folN_other e, catch_off H k (by omega) i (by omega)]
theorem catch_head {h : House} (H : HouseOk h) {k : Nat} (hk : k < h.Logs.length) : headK (catchN h h.Logs.length).1 k = foldS ⟨[], 0⟩ (saysK h k) := by
  have hl := catchN_len h h.Logs.length
  obtain ⟨g, a, b, g1, g2, g3, g4⟩ := (H.catchN h.Logs.length).says (k := k) (by rw [hl]; exact hk)
  have ho := catch_off H _ (Nat.le_refl _) k hk
  rw [saysK_logs hl] at g4
  rw [headK_of g2] at ho ⊢
  have h1 := (g4.hdf.ok g4.sayOk (by have := g4.len; omega)).2.2
  rw [ho, Int.toNat_natCast, List.take_length] at h1
  exact h1.symm
end Pl
end Go.Proofs.YtbhmdnjammnlnaaGreatDoor

namespace Go.Proofs.YtbhmdnjammnlnaaGreatDoor
open Go.RowKit
namespace Pl
theorem new_says {n : Nat} (h1 : 1 ≤ n) (h3 : n ≤ 3) {k : Nat} (hk : k < n) : saysK (newHo n) k = [] := by
  have hl : (newHo n).Logs.length = n := List.length_replicate
  have hg : (newHo n).Logs[k]? = some log0 := by show (List.replicate n log0)[k]? = _; rw [List.getElem?_replicate, if_pos hk]
  obtain ⟨g, a, b, g1, g2, g3, g4⟩ := (newHo_ok h1 h3).says (k := k) (by rw [hl]; exact hk)
  rw [hg] at g1
  injection g1 with g1
  subst g1
  have h5 := g4.says.1
  have h6 : lRecs log0.Pieces = [] := rfl
  rw [h6] at h5
  exact List.map_eq_nil_iff.1 h5.symm
theorem runH_len (h : House) (l : List HouseStep) : (runH h l).Logs.length = h.Logs.length := by
  induction l generalizing h with
  | nil => rfl
  | cons s t ih => show (runH (stepS h s).1 t).Logs.length = _; rw [ih, step_len]
theorem run_part {n : Nat} (h1 : 1 ≤ n) (h3 : n ≤ 3) (l : List HouseStep) {k : Nat} (hk : k < n) : saysK (runH (newHo n) l) k = (doneS (newHo n) l).filter (fun x => decide (partN (n : Int) x.Name = (k : Int))) := by
  have hl : (newHo n).Logs.length = n := List.length_replicate
  rw [run_says k l _ (newHo_ok h1 h3) (by rw [hl]; exact hk), new_says h1 h3 hk, hl, List.nil_append]
theorem filter_part {n : Int} {k : Nat} {s : ByteArray} (hp : partN n s = k) (l : List Say) : (l.filter (fun x => decide (partN n x.Name = (k : Int)))).filter (fun x => decide (x.Name = s)) = l.filter (fun x => decide (x.Name = s)) := by
  rw [List.filter_filter]
  apply List.filter_congr
  intro x _
  by_cases e : x.Name = s
  · rw [e, hp]; simp
  · simp [e]
theorem house_plain {n : Nat} (h1 : 1 ≤ n) (h3 : n ≤ 3) {nms : List ByteArray} (hn : nms.length < 8) {l : List HouseStep} (hnm : ∀ x, x ∈ doneS (newHo n) l → x.Name ∈ nms) {s : ByteArray} {k : Nat} (hp : partN (n : Int) s = k) (hk : k < n) :
    smpsOf (rowOf s (headK (catchN (runH (newHo n) l) n).1 k).Rows) = smpsOf (rowOf s (foldS ⟨[], 0⟩ (doneS (newHo n) l)).Rows) ∧
    ((∃ x, x ∈ doneS (newHo n) l ∧ x.Name = s) → (∃ r, rowOf s (headK (catchN (runH (newHo n) l) n).1 k).Rows = some r) ∧ ∃ r, rowOf s (foldS ⟨[], 0⟩ (doneS (newHo n) l)).Rows = some r) := by
  have hl : (runH (newHo n) l).Logs.length = n := by rw [runH_len]; exact List.length_replicate
  have H := (newHo_ok h1 h3).run l
  have hc := catch_head H (k := k) (by rw [hl]; exact hk)
  rw [hl] at hc
  rw [hc, run_part h1 h3 l hk]
  have a1 := fold_name hn s ((doneS (newHo n) l).filter (fun x => decide (partN (n : Int) x.Name = (k : Int)))) ⟨[], 0⟩ HW.zero (fun r hr => by cases hr) (fun x hx => hnm x (List.mem_filter.1 hx).1)
  have a2 := fold_name hn s (doneS (newHo n) l) ⟨[], 0⟩ HW.zero (fun r hr => by cases hr) hnm
  refine ⟨by rw [a1.1, a2.1, filter_part hp], fun ⟨x, hx, e⟩ => ⟨a1.2 (.inr ⟨x, List.mem_filter.2 ⟨hx, by simp only [decide_eq_true_eq]; rw [e]; exact hp⟩, e⟩), a2.2 (.inr ⟨x, hx, e⟩)⟩⟩
end Pl
end Go.Proofs.YtbhmdnjammnlnaaGreatDoor

namespace Go.Proofs.YtbhmdnjammnlnaaGreatDoor
open Go.RowKit
namespace Pl
def upN (f : Nat → Nat) : Nat → Nat
  | 0 => 0
  | n + 1 => upN f n + f n
theorem upN_one {f : Nat → Nat} {k : Nat} (g : Nat → Nat) (hk : ∀ i, g i = f i + (if i = k then 1 else 0)) : ∀ n, upN g n = upN f n + (if k < n then 1 else 0)
  | 0 => by simp [upN]
  | n + 1 => by
    show upN g n + g n = upN f n + f n + _
    rw [upN_one g hk n, hk n]
    by_cases h1 : n = k
    · subst h1; simp; omega
    · rw [if_neg h1]
      by_cases h2 : k < n
      · rw [if_pos h2, if_pos (by omega)]; omega
      · rw [if_neg h2, if_neg (by omega)]; omega
theorem upN_zero : ∀ n, upN (fun _ => 0) n = 0
  | 0 => rfl
  | n + 1 => by show upN _ n + 0 = 0; rw [upN_zero n]
theorem parts_sum {n : Nat} (h1 : 1 ≤ n) : ∀ l : List Say, upN (fun k => (l.filter (fun x => decide (partN (n : Int) x.Name = (k : Int)))).length) n = l.length
  | [] => upN_zero n
  | x :: t => by
    have hb := partN_bd (n := (n : Int)) (by omega) x.Name
    obtain ⟨k, hk⟩ : ∃ k : Nat, partN (n : Int) x.Name = k := ⟨(partN (n : Int) x.Name).toNat, by omega⟩
    have h2 := upN_one (f := fun k => (t.filter (fun x => decide (partN (n : Int) x.Name = (k : Int)))).length) (k := k) (fun i => ((x :: t).filter (fun x => decide (partN (n : Int) x.Name = (i : Int)))).length) (fun i => by
      rw [List.filter_cons]
      by_cases e : i = k
      · subst e; rw [if_pos (by simpa using hk), if_pos rfl]; rfl
      · rw [if_neg (by rw [hk]; simp; omega), if_neg e, Nat.add_zero]) n
    rw [h2, parts_sum h1 t, if_pos (by omega), List.length_cons]
end Pl
end Go.Proofs.YtbhmdnjammnlnaaGreatDoor

namespace Go.Proofs.YtbhmdnjammnlnaaGreatDoor
open Go.RowKit
namespace Pl
def doneL (h : House) : List HouseStep → List HouseStep
  | [] => []
  | s :: t => if told h s = true then s :: doneL (stepS h s).1 t else doneL (stepS h s).1 t
theorem doneL_map : ∀ (l : List HouseStep) (h : House), doneS h l = (doneL h l).map (·.What)
  | [], _ => rfl
  | s :: t, h => by
    show (if told h s = true then _ else _ : List Say) = (if told h s = true then _ else _ : List HouseStep).map _
    split
    · rw [List.map_cons, doneL_map t]
    · exact doneL_map t _
theorem doneL_snoc (s : HouseStep) : ∀ (l : List HouseStep) (h : House), doneL h (l ++ [s]) = doneL h l ++ (if told (runH h l) s = true then [s] else [])
  | [], h => by
    show (if told h s = true then s :: doneL _ [] else doneL _ [] : List HouseStep) = [] ++ _
    rfl
  | x :: t, h => by
    show (if told h x = true then x :: doneL _ (t ++ [s]) else doneL _ (t ++ [s]) : List HouseStep) = (if told h x = true then _ else _ : List HouseStep) ++ (if told (runH (stepS h x).1 t) s = true then [s] else [])
    rw [doneL_snoc s t]
    split <;> rfl
theorem doneL_next {h : House} {l : List HouseStep} {k : Nat} {s : HouseStep} (hs : l[k]? = some s) : doneL h (l.take (k + 1)) = doneL h (l.take k) ++ (if told (runH h (l.take k)) s = true then [s] else []) := by
  rw [Mm.take_succ_some hs, doneL_snoc]
theorem doneL_sub : ∀ (l : List HouseStep) (h : House) (s : HouseStep), s ∈ doneL h l → s ∈ l ∧ s.Kind = 1 ∧ sayOk s.What = true
  | [], _, _, hs => by cases hs
  | x :: t, h, s, hs => by
    have hs' : s ∈ (if told h x = true then x :: doneL (stepS h x).1 t else doneL (stepS h x).1 t : List HouseStep) := hs
    split at hs'
    · rename_i ht
      rcases List.mem_cons.1 hs' with rfl | h1
      · have h2 := told_iff.1 ht
        exact ⟨List.mem_cons_self .., h2.1, h2.2.2.1⟩
      · have h2 := doneL_sub t _ s h1
        exact ⟨List.mem_cons_of_mem _ h2.1, h2.2⟩
    · have h2 := doneL_sub t _ s hs'
      exact ⟨List.mem_cons_of_mem _ h2.1, h2.2⟩
theorem doneL_len : ∀ (l : List HouseStep) (h : House), (doneL h l).length ≤ l.length
  | [], _ => Nat.le_refl _
  | x :: t, h => by
    have h1 := doneL_len t (stepS h x).1
    show (if told h x = true then x :: doneL (stepS h x).1 t else doneL (stepS h x).1 t : List HouseStep).length ≤ _
    split <;> (simp only [List.length_cons]; omega)
theorem doneL_tells {l : List HouseStep} {h : House} : toldS (doneL h l) = doneS h l := by
  rw [doneL_map]
  unfold toldS
  congr 1
  rw [List.filter_eq_self]
  intro s hs
  have := doneL_sub l h s hs
  unfold tells
  rw [this.2.2, decide_eq_true this.2.1]; rfl
theorem done_plain {l : List HouseStep} {h : House} (hl : l.length ≤ 60) : playPlain (doneL h l) = (foldS ⟨[], 0⟩ (doneS h l), true) ∧ (foldS ⟨[], 0⟩ (doneS h l)).Offset = ((doneL h l).length : Int) ∧ HeadOk (foldS ⟨[], 0⟩ (doneS h l)) := by
  have h1 := doneL_len l h
  have h2 : (doneS h l).length = (doneL h l).length := by rw [doneL_map, List.length_map]
  refine ⟨?_, ?_, ?_⟩
  · unfold playPlain
    rw [if_pos (by omega), doneL_tells]
  · rw [foldS_off, h2]; show (0 : Int) + _ = _; omega
  · have h3 := fold_ok (l := doneS h l) (fun x hx => ?_) (by omega) (doneS h l).length
    · rw [List.take_length] at h3; exact h3
    · rw [doneL_map] at hx
      obtain ⟨s, hs, rfl⟩ := List.mem_map.1 hx
      exact (doneL_sub l h s hs).2.2
theorem runD_at : ∀ (l : List HouseStep) (h : House) {k : Nat} {s : HouseStep}, l[k]? = some s → (runD h l)[k]? = some (stepS (runH h (l.take k)) s).2
  | [], _, _, _, hs => by cases hs
  | x :: t, h, 0, s, hs => by
    have e : x = s := by simpa using hs
    subst e; rfl
  | x :: t, h, k + 1, s, hs => by
    have hs' : t[k]? = some s := by simpa using hs
    exact runD_at t (stepS h x).1 hs'
theorem catch_part {h : House} (H : HouseOk h) {k : Nat} (hk : k < h.Logs.length) : ∃ g a, (catchN h h.Logs.length).1.Logs[k]? = some g ∧ (catchN h h.Logs.length).1.Heads[k]? = some a ∧ LogOk g ∧ endOf g = ((saysK h k).length : Int) ∧ a.Offset = endOf g ∧ headK (catchN h h.Logs.length).1 k = a := by
  have hl := catchN_len h h.Logs.length
  obtain ⟨g, a, b, g1, g2, g3, g4⟩ := (H.catchN h.Logs.length).says (k := k) (by rw [hl]; exact hk)
  have ho := catch_off H _ (Nat.le_refl _) k hk
  rw [saysK_logs hl] at g4
  have he : endOf g = ((saysK h k).length : Int) := by
    rw [g4.log.end_, g4.fr, g4.says.1, List.length_map]; omega
  refine ⟨g, a, g1, g2, g4.log, he, ?_, headK_of g2⟩
  rw [he, ← ho, headK_of g2]
theorem upN_congr {f g : Nat → Nat} : ∀ {n : Nat}, (∀ i, i < n → f i = g i) → upN f n = upN g n
  | 0, _ => rfl
  | n + 1, h => by
    show upN f n + f n = upN g n + g n
    rw [upN_congr (n := n) (fun i hi => h i (by omega)), h n (by omega)]
theorem house_sum {n : Nat} (h1 : 1 ≤ n) (h3 : n ≤ 3) (l : List HouseStep) : upN (fun k => (saysK (runH (newHo n) l) k).length) n = (doneL (newHo n) l).length := by
  rw [upN_congr (g := fun k => ((doneS (newHo n) l).filter (fun x => decide (partN (n : Int) x.Name = (k : Int)))).length) (fun i hi => by rw [run_part h1 h3 l hi]), parts_sum h1, doneL_map, List.length_map]
end Pl
end Go.Proofs.YtbhmdnjammnlnaaGreatDoor

namespace Go.Proofs.YtbhmdnjammnlnaaGreatDoor
open Go.RowKit
attribute [local go_sem] und_cell World.cell?_alloc_some
def Pl.drawnN : List ByteArray := [⟨#[99, 112, 117]⟩, ⟨#[109, 101, 109]⟩, ⟨#[110, 101, 116]⟩, ⟨#[105, 111]⟩, ⟨#[100, 105, 115, 107]⟩, ⟨#[120]⟩]
structure Pl.SayD (x : Say) : Prop where
  nm : x.Name.size ≤ 20
  at_ : -100 ≤ x.At ∧ x.At ≤ 2000000000
  vl : -2000000000 ≤ x.Value ∧ x.Value ≤ 2000000000
  wd : Pl.word false x.Name.data.toList = true → x.Name ∈ Pl.drawnN
theorem Pl.SayD.of1 {s : ByteArray} {a b : Int} (h1 : s ∈ ([⟨#[99, 112, 117]⟩, ⟨#[109, 101, 109]⟩, ⟨#[100, 105, 115, 107]⟩, ⟨#[110, 101, 116]⟩] : List ByteArray)) (h2 : 0 ≤ a ∧ a ≤ 60) (h3 : -20 ≤ b ∧ b ≤ 80) : Pl.SayD ⟨s, a, b⟩ := by
  have h4 : s ∈ Pl.drawnN ∧ s.size ≤ 20 := by
    unfold Pl.drawnN
    simp only [List.mem_cons, List.not_mem_nil, or_false] at h1 ⊢
    rcases h1 with h | h | h | h <;> (rw [h]; exact ⟨by simp, by decide⟩)
  exact ⟨h4.2, by show -100 ≤ a ∧ a ≤ _; omega, by show _ ≤ b ∧ b ≤ _; omega, fun _ => h4.1⟩
theorem Pl.SayD.of2 {s : ByteArray} {a b : Int} (h1 : s ∈ ([⟨#[]⟩, ⟨#[65]⟩, ⟨#[116, 111, 111, 108, 111, 110, 103, 110, 97, 109, 101]⟩, ⟨#[120]⟩] : List ByteArray)) (h2 : a ∈ ([-1, 1000000000, 1000000001] : List Int)) (h3 : b ∈ ([-1000000000, 1000000001] : List Int)) : Pl.SayD ⟨s, a, b⟩ := by
  have h4 : (Pl.word false s.data.toList = true → s ∈ Pl.drawnN) ∧ s.size ≤ 20 := by
    simp only [List.mem_cons, List.not_mem_nil, or_false] at h1
    rcases h1 with h | h | h | h <;> rw [h]
    · exact ⟨fun h => absurd h (by decide), by decide⟩
    · exact ⟨fun h => absurd h (by decide), by decide⟩
    · exact ⟨fun h => absurd h (by decide), by decide⟩
    · exact ⟨fun _ => by unfold Pl.drawnN; simp, by decide⟩
  simp only [List.mem_cons, List.not_mem_nil, or_false] at h2 h3
  exact ⟨h4.2, by show -100 ≤ a ∧ a ≤ _; omega, by show _ ≤ b ∧ b ≤ _; omega, h4.1⟩
set_option maxRecDepth 100000 in
set_option maxHeartbeats 4000000 in
theorem say_c (code : List Int) (A : Option Addr) (n c g K : Nat) (w : World) (B : Nat) (hc : Mm.SlAt Mm.u8 w B code A n c) (hBg : B ≤ g) (h : (Mm.tcur 128 A n c g K).holds w) (hK : K < 4611686018427370000) :
    Calls Tryz.prog 136 #[.pointer (some ⟨g, 0, none⟩)] w fun e w' => ∃ x : Say, e = .returned (.agg #[.string x.Name, .int .i64 x.At, .int .i64 x.Value]) ∧ Pl.SayD x ∧ Mm.Left [g] w w' (Mm.tcur 128 A n c g (K + 10)) := by
  have hgw : g < w.heap.size := (Mm.tcur 128 A n c g K).lt h g (by simp [Mm.tcur])
  have HC := Lib.hid hc
  obtain ⟨gz, hgz⟩ : ∃ g, w.heap.size = g := ⟨_, rfl⟩
  obtain ⟨W0, hW0⟩ : ∃ W, w.alloc (.cells #[.string ⟨#[]⟩, .int .i64 0, .int .i64 0] 55) = W := ⟨_, rfl⟩
  have H0 : Mm.SepF [g] w w [Mm.tcur 128 A n c g K] := Mm.SepF.one (Mm.tcur 128 A n c g K) w h (by simp [Mm.tcur])
  have HS0 := Lib.hid ((H0.alloc' hgz 55 [.string ⟨#[]⟩, .int .i64 0, .int .i64 0]).atW hW0)
  clear hc h H0
  go_enter Tryz.func136, Tryz.ntmps136
  go_upto_region 1 with fail
  clear hW0
  go_upto_if 4 with ((go_at_call 135); (refine (one_c code A n c g _ _ _ B (HC.out.keep fun b hb => HS0.out.chg.block b (by omega) (by simp; omega)) hBg (HS0.out.at_ 1 rfl) (by omega) (by omega)).mono ?_); (rintro e w1 ⟨b1, rfl, hL⟩); ((have HS := Lib.hid (HS0.out.call 1 rfl hL))); (clear hL))
  obtain ⟨W1, rfl⟩ : ∃ W : World, W = w1 := ⟨_, rfl⟩
  cases b1
  · have HA := Lib.hid (HS.out.alloc' rfl 9 [.string ⟨#[99, 112, 117]⟩, .string ⟨#[109, 101, 109]⟩, .string ⟨#[100, 105, 115, 107]⟩, .string ⟨#[110, 101, 116]⟩])
    go_wp2_with fail
    (go_at_call 100); (refine (of_c code A n c g _ ([⟨#[99, 112, 117]⟩, ⟨#[109, 101, 109]⟩, ⟨#[100, 105, 115, 107]⟩, ⟨#[110, 101, 116]⟩]) _ 4 _ B (HC.out.keep fun b hb => HA.out.chg.block b (by omega) (by simp; omega)) hBg (HA.out.at_ 2 rfl) (by omega) (HA.out.at_ 0 rfl) (by have := HS.out.chg.size; omega) rfl (by omega) (by omega)).mono ?_); (rintro e w1 ⟨s, rfl, hs, hL⟩); ((have HS2 := Lib.hid ((HA.out.call 2 rfl hL).tail))); (clear hL)
    go_wp2_with fail
    (go_at_call 88); (refine (pick_c code A n c g _ _ _ B (HC.out.keep fun b hb => HS2.out.chg.block b (by omega) (by simp; omega)) hBg (HS2.out.at_ 1 rfl) (by omega) (by omega)).mono ?_); (rintro e w1 ⟨a1, rfl, a10, a1x, a11, hL⟩); ((have HS := Lib.hid (HS2.out.call 1 rfl hL))); (clear hL)
    go_wp2_with fail
    (go_at_call 88); (refine (pick_c code A n c g _ _ _ B (HC.out.keep fun b hb => HS.out.chg.block b (by omega) (by simp; omega)) hBg (HS.out.at_ 1 rfl) (by omega) (by omega)).mono ?_); (rintro e w1 ⟨a2, rfl, a20, a2x, a21, hL⟩); ((have HS := Lib.hid (HS.out.call 1 rfl hL))); (clear hL)
    obtain ⟨W2, rfl⟩ : ∃ W : World, W = w1 := ⟨_, rfl⟩
    have hw : IntKind.i64.wrap (a2 - 20) = a2 - 20 := IntWalk.i64_in _ (by omega)
    have hd := Lib.hid (Pl.SayD.of1 hs (a := a1) (b := a2 - 20) ⟨a10, by have := a11 (by omega); omega⟩ ⟨by omega, by have := a21 (by omega); omega⟩)
    have c0 := HS.out.cell (k := 0) 0 rfl rfl
    have c1 := HS.out.cell (k := 1) 0 rfl rfl
    have c2 := HS.out.cell (k := 2) 0 rfl rfl
    have z0 := HS.out.frz (k := 0) 0 rfl
    have z1 := HS.out.frz (k := 1) 0 rfl
    have z2 := HS.out.frz (k := 2) 0 rfl
    have HSF := Lib.hid (((HS.out.setBlk (k := 0) 0 rfl (.string s)).setBlk (k := 1) 0 rfl (.int .i64 a1)).setBlk (k := 2) 0 rfl (.int .i64 (a2 - 20)))
    go_wp2_with fail
    have r0 := HSF.out.cell (k := 0) 0 rfl rfl
    have r1 := HSF.out.cell (k := 1) 0 rfl rfl
    have r2 := HSF.out.cell (k := 2) 0 rfl rfl
    exact bodyPost_ret (v := .agg #[.string s, .int .i64 a1, .int .i64 (a2 - 20)]) (by simp [results, Tryz.results136, go_sem, r0, r1, r2]) rfl ⟨⟨s, a1, a2 - 20⟩, rfl, hd.out, (HSF.out.tail.more 0 rfl (by omega)).left⟩
  · have HA := Lib.hid (HS.out.alloc' rfl 9 [.string ⟨#[]⟩, .string ⟨#[65]⟩, .string ⟨#[116, 111, 111, 108, 111, 110, 103, 110, 97, 109, 101]⟩, .string ⟨#[120]⟩])
    go_wp2_with fail
    (go_at_call 100); (refine (of_c code A n c g _ ([⟨#[]⟩, ⟨#[65]⟩, ⟨#[116, 111, 111, 108, 111, 110, 103, 110, 97, 109, 101]⟩, ⟨#[120]⟩]) _ 4 _ B (HC.out.keep fun b hb => HA.out.chg.block b (by omega) (by simp; omega)) hBg (HA.out.at_ 2 rfl) (by omega) (HA.out.at_ 0 rfl) (by have := HS.out.chg.size; omega) rfl (by omega) (by omega)).mono ?_); (rintro e w1 ⟨s, rfl, hs, hL⟩); ((have HS2 := Lib.hid ((HA.out.call 2 rfl hL).tail))); (clear hL)
    have HA2 := Lib.hid (HS2.out.alloc' rfl 3 [.int .i64 (-1), .int .i64 1000000000, .int .i64 1000000001])
    have gw2 : g < w1.heap.size := Nat.lt_of_lt_of_le hgw HS2.out.chg.size
    go_wp2_with fail
    (go_at_call 101); (refine (among_c code A n c g _ ([-1, 1000000000, 1000000001]) _ 3 _ B (HC.out.keep fun b hb => HA2.out.chg.block b (by omega) (by simp; omega)) hBg (HA2.out.at_ 2 rfl) (by omega) (HA2.out.at_ 0 rfl) (by have := HS2.out.chg.size; omega) rfl (by omega) (by omega)).mono ?_); (rintro e w1 ⟨a1, rfl, ha1, hL⟩); ((have HS3 := Lib.hid ((HA2.out.call 2 rfl hL).tail))); (clear hL)
    have HA3 := Lib.hid (HS3.out.alloc' rfl 3 [.int .i64 (-1000000000), .int .i64 1000000001])
    have gw3 : g < w1.heap.size := Nat.lt_of_lt_of_le hgw HS3.out.chg.size
    go_wp2_with fail
    (go_at_call 101); (refine (among_c code A n c g _ ([-1000000000, 1000000001]) _ 2 _ B (HC.out.keep fun b hb => HA3.out.chg.block b (by omega) (by simp; omega)) hBg (HA3.out.at_ 2 rfl) (by omega) (HA3.out.at_ 0 rfl) (by have := HS3.out.chg.size; omega) rfl (by omega) (by omega)).mono ?_); (rintro e w1 ⟨a2, rfl, ha2, hL⟩); ((have HS := Lib.hid ((HA3.out.call 2 rfl hL).tail))); (clear hL)
    obtain ⟨W2, rfl⟩ : ∃ W : World, W = w1 := ⟨_, rfl⟩
    have hd := Lib.hid (Pl.SayD.of2 hs ha1 ha2)
    have c0 := HS.out.cell (k := 0) 0 rfl rfl
    have c1 := HS.out.cell (k := 1) 0 rfl rfl
    have c2 := HS.out.cell (k := 2) 0 rfl rfl
    have z0 := HS.out.frz (k := 0) 0 rfl
    have z1 := HS.out.frz (k := 1) 0 rfl
    have z2 := HS.out.frz (k := 2) 0 rfl
    have HSF := Lib.hid (((HS.out.setBlk (k := 0) 0 rfl (.string s)).setBlk (k := 1) 0 rfl (.int .i64 a1)).setBlk (k := 2) 0 rfl (.int .i64 a2))
    clear ha1 ha2
    go_wp2_with fail
    have r0 := HSF.out.cell (k := 0) 0 rfl rfl
    have r1 := HSF.out.cell (k := 1) 0 rfl rfl
    have r2 := HSF.out.cell (k := 2) 0 rfl rfl
    exact bodyPost_ret (v := .agg #[.string s, .int .i64 a1, .int .i64 a2]) (by simp [results, Tryz.results136, go_sem, r0, r1, r2]) rfl ⟨⟨s, a1, a2⟩, rfl, hd.out, (HSF.out.tail.more 0 rfl (by omega)).left⟩
structure Pl.StepD (s : HouseStep) : Prop where
  kd : 0 ≤ s.Kind ∧ s.Kind ≤ 6
  pt : -1 ≤ s.Part ∧ s.Part ≤ 5
  say : Pl.SayD s.What
theorem Pl.SayD.zero : Pl.SayD ⟨⟨#[]⟩, 0, 0⟩ := ⟨by decide, by decide, by decide, fun h => absurd h (by decide)⟩
theorem Pl.SayD.tell {s : ByteArray} {a b : Int} (h1 : s ∈ ([⟨#[99, 112, 117]⟩, ⟨#[109, 101, 109]⟩, ⟨#[110, 101, 116]⟩, ⟨#[105, 111]⟩] : List ByteArray)) (h2 : -1 ≤ a ∧ a ≤ 1000) (h3 : -20 ≤ b ∧ b ≤ 80) : Pl.SayD ⟨s, a, b⟩ := by
  have h4 : s ∈ Pl.drawnN ∧ s.size ≤ 20 := by
    unfold Pl.drawnN
    simp only [List.mem_cons, List.not_mem_nil, or_false] at h1 ⊢
    rcases h1 with h | h | h | h <;> (rw [h]; exact ⟨by simp, by decide⟩)
  exact ⟨h4.2, by show -100 ≤ a ∧ a ≤ _; omega, by show _ ≤ b ∧ b ≤ _; omega, fun _ => h4.1⟩
theorem Tryz.infoHStep : (Tryz.prog.info? 57).map (fun i => (i.zero, i.size, i.bytes)) = some (some (.agg #[.int .i64 0, .int .i64 0, .string ⟨#[]⟩, .int .i64 0, .int .i64 0]), 5, 48) := by kernel_rfl
set_option maxRecDepth 100000 in
set_option maxHeartbeats 4000000 in
theorem houseSteps_c (code : List Int) (A : Option Addr) (n c g K : Nat) (q : Int) (w : World) (B : Nat) (hc : Mm.SlAt Mm.u8 w B code A n c) (hBg : B ≤ g) (h : (Mm.tcur 128 A n c g K).holds w) (hK : K < 4611686018427360000) (hq : 1 ≤ q ∧ q ≤ 3) :
    Calls Tryz.prog 89 #[.pointer (some ⟨g, 0, none⟩), .int .i64 q] w fun e w' => ∃ (l : List HouseStep) (A1 : Option Addr) (n1 c1 : Nat) (fp : List Nat), e = .returned (.slice A1 n1 c1) ∧ l.length ≤ 61 ∧ (∀ x, x ∈ l → Pl.StepD x) ∧ Mm.SepF [g] w w' [Mm.tsl rHouseStep 57 l (.slice A1 n1 c1) fp, Mm.tcur 128 A n c g (K + 3000)] := by
  have hgw : g < w.heap.size := (Mm.tcur 128 A n c g K).lt h g (by simp [Mm.tcur])
  have HC := Lib.hid hc
  have HS : Hid (Mm.SepF [g] w w [Mm.tcur 128 A n c g K]) := Mm.SepF.one (Mm.tcur 128 A n c g K) w h (by simp [Mm.tcur])
  clear hc h
  go_enter Tryz.func89, Tryz.ntmps89
  go_upto_if 12 with first
    | ((go_at_call 88); (refine (pick_c code A n c g _ _ _ B (HC.out.keep fun b hb => HS.out.chg.block b (by omega) (by simp; omega)) hBg (HS.out.at_ 0 rfl) (by omega) (by omega)).mono ?_); (rintro e w1 ⟨b1, rfl, b10, b1x, b11, hL⟩); ((have HS := Lib.hid (HS.out.call 0 rfl hL))); (clear hL))
    | ((go_at_call 135); (refine (one_c code A n c g _ _ _ B (HC.out.keep fun b hb => HS.out.chg.block b (by omega) (by simp; omega)) hBg (HS.out.at_ 0 rfl) (by omega) (by omega)).mono ?_); (rintro e w1 ⟨b9, rfl, hL⟩); ((have HS := Lib.hid (HS.out.call 0 rfl hL))); (clear hL))
  have b12 := b11 (by omega)
  clear b11
  go_cut [6] (fun s6 wx => ∃ m : Int, s6 = .int .i64 m ∧ 0 ≤ m ∧ m ≤ 61 ∧ Mm.SepF [g] w wx [Mm.tcur 128 A n c g (K + 3)])
  case first =>
    cases b9
    · go_wp2_with fail
      go_meet
      exact ⟨_, rfl, b10, by omega, HS.out.more 0 rfl (by omega)⟩
    · go_wp2_with ((go_at_call 88); (refine (pick_c code A n c g _ _ _ B (HC.out.keep fun b hb => HS.out.chg.block b (by omega) (by simp; omega)) hBg (HS.out.at_ 0 rfl) (by omega) (by omega)).mono ?_); (rintro e w1 ⟨b2, rfl, b20, b2x, b21, hL⟩); ((have HS := Lib.hid (HS.out.call 0 rfl hL))); (clear hL); have b22 := b21 (by omega))
      go_meet
      exact ⟨_, rfl, by omega, by omega, HS.out.more 0 rfl (by omega)⟩
  case rest =>
  obtain ⟨m, rfl, hm0, hm1, HS⟩ := hcut
  have HS := Lib.hid ((HS.add (Below.refl _ _) (t := Mm.tsl rHouseStep 57 [] (.slice none 0 0) []) Mm.SlOwn.nil List.nodup_nil (fun b hb => by cases hb)))
  go_wp2_with fail
  go_loopg [5, 6, 7] 61 (fun gg l nn at_ wr => ∃ (k mm : Nat) (ls : List HouseStep) (A1 : Option Addr) (c1 : Nat) (fp : List Nat) (Kc : Nat) (ta : Int), k ≤ gg ∧ nn = .int .i64 k ∧ Hid (mm = ls.length) ∧ k + mm ≤ 61 ∧ l = .slice A1 mm c1 ∧ at_ = .int .i64 ta ∧ 0 ≤ ta ∧ ta ≤ 4 * mm ∧ Kc + 40 * k ≤ K + 2900 ∧ Hid (∀ x, x ∈ ls → Pl.StepD x) ∧ Hid (Mm.SepF [g] w wr [Mm.tsl rHouseStep 57 ls (.slice A1 mm c1) fp, Mm.tcur 128 A n c g Kc]))
  case atStart => exact ⟨m.toNat, 0, [], none, 0, [], K + 3, 0, by omega, by rw [Int.toNat_of_nonneg hm0], rfl, by omega, rfl, rfl, by omega, by omega, by omega, (fun x hx => by cases hx), HS⟩
  case round =>
    obtain ⟨k, mm, ls, A1, c1, fp, Kc, ta, hkg, rfl, hml, hkm, rfl, rfl, hta0, hta1, hKc, HD, HS⟩ := hrel
    obtain ⟨Wr, rfl⟩ : ∃ Wr : World, Wr = wr := ⟨_, rfl⟩
    by_cases hk0 : 0 < k
    · have hk1 : (0 : Int) < (k : Nat) := by omega
      have HA := Lib.hid (HS.out.alloc' rfl 3 [.int .i64 1, .int .i64 1, .int .i64 1, .int .i64 1, .int .i64 2, .int .i64 2, .int .i64 2, .int .i64 3, .int .i64 4])
      have hgW : g < Wr.heap.size := Nat.lt_of_lt_of_le hgw HS.out.chg.size
      go_wp2_with fail
      (go_at_call 101); (refine (among_c code A n c g _ ([1, 1, 1, 1, 2, 2, 2, 3, 4]) _ 9 _ B (HC.out.keep fun b hb => HA.out.chg.block b (by omega) (by simp; omega)) hBg (HA.out.at_ 2 rfl) (by omega) (HA.out.at_ 0 rfl) (by have := HS.out.chg.size; omega) rfl (by omega) (by omega)).mono ?_); (rintro e w1 ⟨kd, rfl, hkd, hL⟩); ((have HS1 := Lib.hid ((HA.out.call 2 rfl hL).tail))); (clear hL)
      go_wp2_with fail
      (go_at_call 88); (refine (pick_c code A n c g _ _ _ B (HC.out.keep fun b hb => HS1.out.chg.block b (by omega) (by simp; omega)) hBg (HS1.out.at_ 1 rfl) (by omega) (by omega)).mono ?_); (rintro e w1 ⟨pt, rfl, pt0, ptx, pt1, hL⟩); ((have HS := Lib.hid (HS1.out.call 1 rfl hL))); (clear hL)
      obtain ⟨W2, rfl⟩ : ∃ W : World, W = w1 := ⟨_, rfl⟩
      have pt2 := pt1 (by omega)
      clear pt1
      have hkd2 : 1 ≤ kd ∧ kd ≤ 4 := by simp only [List.mem_cons, List.not_mem_nil, or_false] at hkd; omega
      go_upto_region 9 with fail
      obtain ⟨gs, hgs⟩ : ∃ g, W2.heap.size = g := ⟨_, rfl⟩
      obtain ⟨W3, hW3⟩ : ∃ W, W2.alloc (.cells #[.int .i64 kd, .int .i64 pt, .string ⟨#[]⟩, .int .i64 0, .int .i64 0] 57) = W := ⟨_, rfl⟩
      have HSA := Lib.hid ((HS.out.alloc' hgs 57 [.int .i64 kd, .int .i64 pt, .string ⟨#[]⟩, .int .i64 0, .int .i64 0]).atW hW3)
      rw [hW3, hgs]
      clear hW3 hgs hkd HS HS1 HA
      have gw3 : g < W3.heap.size := Nat.lt_of_lt_of_le hgw HSA.out.chg.size
      have s0 := HSA.out.cell (k := 0) 0 rfl rfl
      go_upto_if 29 with fail
      clear s0
      go_cut [7] (fun s7 wx => ∃ (x : HouseStep) (tb : Int), s7 = .int .i64 tb ∧ 0 ≤ tb ∧ tb ≤ ta + 4 ∧ Hid (Pl.StepD x ∧ Mm.SepF [g] w wx [Mm.tblk gs 57 [.int .i64 x.Kind, .int .i64 x.Part, .string x.What.Name, .int .i64 x.What.At, .int .i64 x.What.Value], Mm.tsl rHouseStep 57 ls (.slice A1 mm c1) fp, Mm.tcur 128 A n c g (Kc + 12)]))
      case first =>
        by_cases h1 : kd = 1
        · subst h1
          go_upto_region 11 with ((go_at_call 88); (refine (pick_c code A n c g _ _ _ B (HC.out.keep fun b hb => HSA.out.chg.block b (by omega) (by simp; omega)) hBg (HSA.out.at_ 2 rfl) (by omega) (by omega)).mono ?_); (rintro e w1 ⟨b3, rfl, b30, b3x, b31, hL⟩); ((have HS := Lib.hid (HSA.out.call 2 rfl hL))); (clear hL))
          have b32 := b31 (by omega)
          clear b31
          obtain ⟨W4, rfl⟩ : ∃ W : World, W = w1 := ⟨_, rfl⟩
          obtain ⟨tb, htb⟩ : ∃ tb : Int, ta + b3 = tb := ⟨_, rfl⟩
          have HA := Lib.hid (HS.out.alloc' rfl 9 [.string ⟨#[99, 112, 117]⟩, .string ⟨#[109, 101, 109]⟩, .string ⟨#[110, 101, 116]⟩, .string ⟨#[105, 111]⟩])
          have gw4 : g < W4.heap.size := Nat.lt_of_lt_of_le hgw HS.out.chg.size
          go_wp2_with fail
          (go_at_call 100); (refine (of_c code A n c g _ ([⟨#[99, 112, 117]⟩, ⟨#[109, 101, 109]⟩, ⟨#[110, 101, 116]⟩, ⟨#[105, 111]⟩]) _ 4 _ B (HC.out.keep fun b hb => HA.out.chg.block b (by omega) (by simp; omega)) hBg (HA.out.at_ 3 rfl) (by omega) (HA.out.at_ 0 rfl) (by have := HS.out.chg.size; omega) rfl (by omega) (by omega)).mono ?_); (rintro e w1 ⟨sn, rfl, hsn, hL⟩); ((have HS2 := Lib.hid ((HA.out.call 3 rfl hL).tail))); (clear hL)
          go_wp2_with fail
          (go_at_call 88); (refine (pick_c code A n c g _ _ _ B (HC.out.keep fun b hb => HS2.out.chg.block b (by omega) (by simp; omega)) hBg (HS2.out.at_ 2 rfl) (by omega) (by omega)).mono ?_); (rintro e w1 ⟨b4, rfl, b40, b4x, b41, hL⟩); ((have HS := Lib.hid (HS2.out.call 2 rfl hL))); (clear hL)
          have b42 := b41 (by omega)
          clear b41
          obtain ⟨av, hav⟩ : ∃ av : Int, tb - b4 / 8 = av := ⟨_, rfl⟩
          have hav1 : tb - 2 < av ∧ av ≤ tb := by omega
          go_wp2_with fail
          (go_at_call 88); (refine (pick_c code A n c g _ _ _ B (HC.out.keep fun b hb => HS.out.chg.block b (by omega) (by simp; omega)) hBg (HS.out.at_ 2 rfl) (by omega) (by omega)).mono ?_); (rintro e w1 ⟨b5, rfl, b50, b5x, b51, hL⟩); ((have HS := Lib.hid (HS.out.call 2 rfl hL))); (clear hL)
          have b52 := b51 (by omega)
          clear b51
          have hw5 : IntKind.i64.wrap (b5 - 10) = b5 - 10 := IntWalk.i64_in _ (by omega)
          obtain ⟨W5, rfl⟩ : ∃ W : World, W = w1 := ⟨_, rfl⟩
          have c2 := HS.out.cell (k := 2) 0 rfl rfl
          have c3 := HS.out.cell (k := 3) 0 rfl rfl
          have c4 := HS.out.cell (k := 4) 0 rfl rfl
          have z2 := HS.out.frz (k := 2) 0 rfl
          have z3 := HS.out.frz (k := 3) 0 rfl
          have z4 := HS.out.frz (k := 4) 0 rfl
          go_upto_region 12 with fail
          obtain ⟨W6, hW6⟩ : ∃ W, ((W5.setCell ⟨gs, 2, none⟩ (.string sn)).setCell ⟨gs, 3, none⟩ (.int .i64 av)).setCell ⟨gs, 4, none⟩ (.int .i64 (b5 - 10)) = W := ⟨_, rfl⟩
          have HS6 := Lib.hid ((((HS.out.setBlk (k := 2) 0 rfl (.string sn)).setBlk (k := 3) 0 rfl (.int .i64 av)).setBlk (k := 4) 0 rfl (.int .i64 (b5 - 10))).atW hW6)
          rw [hW6]
          clear hW6 c2 c3 c4 z2 z3 z4 hav
          have hsz : sn.size ≤ maxLen := by
            have h4 : sn.size ≤ 3 := by
              simp only [List.mem_cons, List.not_mem_nil, or_false] at hsn
              rcases hsn with h | h | h | h <;> (rw [h]; decide)
            unfold maxLen; omega
          have hq0 : q ≠ 0 := by omega
          have d1 := HS6.out.cell (k := 1) 0 rfl rfl
          have d2 := HS6.out.cell (k := 2) 0 rfl rfl
          have y1 := HS6.out.frz (k := 1) 0 rfl
          obtain ⟨hv, hhv⟩ : ∃ hv, Pl.hash sn.data.toList = hv := ⟨_, rfl⟩
          have hhb := Pl.hash_bd sn.data.toList
          have CH := l3Hash_c sn W6 hsz
          rw [hhv] at hhb CH
          have htm : hv.tmod q = hv % q := Int.tmod_eq_emod_of_nonneg hhb.1
          obtain ⟨pv, hpv⟩ : ∃ pv : Int, hv % q = pv := ⟨_, rfl⟩
          have hpv0 := Int.emod_nonneg hv hq0
          have hpv1 := Int.emod_lt_of_pos hv (show (0 : Int) < q by omega)
          rw [hpv] at htm hpv0 hpv1
          clear hhv hpv
          go_upto_region 13 with (go_at_call 83; (with_reducible refine CH.mono ?_); rintro e w' ⟨rfl, rfl⟩)
          obtain ⟨W7, hW7⟩ : ∃ W, W6.setCell ⟨gs, 1, none⟩ (.int .i64 pv) = W := ⟨_, rfl⟩
          have HS7 := Lib.hid ((HS6.out.setBlk (k := 1) 0 rfl (.int .i64 pv)).atW hW7)
          rw [hW7]
          clear hW7 d1 d2 y1 HS6 HS CH htm
          have e3 := HS7.out.cell (k := 3) 0 rfl rfl
          have x3 := HS7.out.frz (k := 3) 0 rfl
          by_cases hneg : av < 0
          · have HD1 : Hid (Pl.StepD ⟨1, pv, ⟨sn, 0, b5 - 10⟩⟩) := ⟨⟨by show (0 : Int) ≤ 1; omega, by show (1 : Int) ≤ 6; omega⟩, ⟨by show (-1 : Int) ≤ pv; omega, by show pv ≤ 5; omega⟩, Pl.SayD.tell hsn ⟨by omega, by omega⟩ ⟨by omega, by omega⟩⟩
            go_wp2_with fail
            go_meet
            exact ⟨⟨1, pv, ⟨sn, 0, b5 - 10⟩⟩, tb, rfl, by omega, by omega, ⟨HD1.out, (HS7.out.setBlk (k := 3) 0 rfl (.int .i64 0)).more 2 rfl (by omega)⟩⟩
          · have HD1 : Hid (Pl.StepD ⟨1, pv, ⟨sn, av, b5 - 10⟩⟩) := ⟨⟨by show (0 : Int) ≤ 1; omega, by show (1 : Int) ≤ 6; omega⟩, ⟨by show (-1 : Int) ≤ pv; omega, by show pv ≤ 5; omega⟩, Pl.SayD.tell hsn ⟨by omega, by omega⟩ ⟨by omega, by omega⟩⟩
            go_wp2_with fail
            go_meet
            exact ⟨⟨1, pv, ⟨sn, av, b5 - 10⟩⟩, tb, rfl, by omega, by omega, ⟨HD1.out, HS7.out.more 2 rfl (by omega)⟩⟩
        · have n1 : (kd == 1) = false := by simpa using h1
          go_wp2_with fail
          go_meet
          exact ⟨⟨kd, pt, ⟨⟨#[]⟩, 0, 0⟩⟩, ta, rfl, hta0, by omega, ⟨⟨⟨by show (0 : Int) ≤ kd; omega, by show kd ≤ 6; omega⟩, ⟨by show (-1 : Int) ≤ pt; omega, by show pt ≤ 5; omega⟩, Pl.SayD.zero⟩, HSA.out.more 2 rfl (by omega)⟩⟩
      case rest =>
      clear HSA
      obtain ⟨x, tb, rfl, htb0, htb1, HX⟩ := hcut
      obtain ⟨W8, rfl⟩ : ∃ W : World, W = wc := ⟨_, rfl⟩
      have HS := Lib.hid HX.out.2
      have HDX := Lib.hid HX.out.1
      clear HX
      go_upto_if 61 with ((go_at_call 135); (refine (one_c code A n c g _ _ _ B (HC.out.keep fun b hb => HS.out.chg.block b (by omega) (by simp; omega)) hBg (HS.out.at_ 2 rfl) (by omega) (by omega)).mono ?_); (rintro e w1 ⟨b9, rfl, hL⟩); ((have HS := Lib.hid (HS.out.call 2 rfl hL))); (clear hL))
      go_cut [] (fun wx => ∃ (x : HouseStep), Hid (Pl.StepD x ∧ Mm.SepF [g] w wx [Mm.tblk gs 57 [.int .i64 x.Kind, .int .i64 x.Part, .string x.What.Name, .int .i64 x.What.At, .int .i64 x.What.Value], Mm.tsl rHouseStep 57 ls (.slice A1 mm c1) fp, Mm.tcur 128 A n c g (Kc + 32)]))
      case first =>
        cases b9
        · go_wp2_with fail
          go_meet
          exact ⟨x, ⟨HDX.out, HS.out.more 2 rfl (by omega)⟩⟩
        · go_wp2_with fail
          (go_at_call 88); (refine (pick_c code A n c g _ _ _ B (HC.out.keep fun b hb => HS.out.chg.block b (by omega) (by simp; omega)) hBg (HS.out.at_ 2 rfl) (by omega) (by omega)).mono ?_); (rintro e w1 ⟨k1, rfl, k10, k1x, k11, hL⟩); ((have HS := Lib.hid (HS.out.call 2 rfl hL))); (clear hL)
          have k12 := k11 (by omega)
          clear k11
          go_wp2_with fail
          (go_at_call 88); (refine (pick_c code A n c g _ _ _ B (HC.out.keep fun b hb => HS.out.chg.block b (by omega) (by simp; omega)) hBg (HS.out.at_ 2 rfl) (by omega) (by omega)).mono ?_); (rintro e w1 ⟨k2, rfl, k20, k2x, k21, hL⟩); ((have HS := Lib.hid (HS.out.call 2 rfl hL))); (clear hL)
          have k22 := k21 (by omega)
          clear k21
          have hw5 : IntKind.i64.wrap (k2 - 1) = k2 - 1 := IntWalk.i64_in _ (by omega)
          go_wp2_with fail
          refine (say_c code A n c g _ _ B (HC.out.keep fun b hb => HS.out.chg.block b (by omega) (by simp; omega)) hBg (HS.out.at_ 2 rfl) (by omega)).mono ?_
          rintro e w1 ⟨y, rfl, hy, hL⟩
          have HS2 := Lib.hid (HS.out.call 2 rfl hL)
          clear hL
          obtain ⟨W9, rfl⟩ : ∃ W : World, W = w1 := ⟨_, rfl⟩
          have HY := Lib.hid hy
          clear hy
          have c0 := HS2.out.cell (k := 0) 0 rfl rfl
          have c1' := HS2.out.cell (k := 1) 0 rfl rfl
          have c2 := HS2.out.cell (k := 2) 0 rfl rfl
          have c3 := HS2.out.cell (k := 3) 0 rfl rfl
          have c4 := HS2.out.cell (k := 4) 0 rfl rfl
          have z0 := HS2.out.frz (k := 0) 0 rfl
          have z1 := HS2.out.frz (k := 1) 0 rfl
          have z2 := HS2.out.frz (k := 2) 0 rfl
          have z3 := HS2.out.frz (k := 3) 0 rfl
          have z4 := HS2.out.frz (k := 4) 0 rfl
          have HD1 : Hid (Pl.StepD ⟨k1, k2 - 1, y⟩) := ⟨⟨by show (0 : Int) ≤ k1; omega, by show k1 ≤ 6; omega⟩, ⟨by show (-1 : Int) ≤ k2 - 1; omega, by show k2 - 1 ≤ 5; omega⟩, HY.out⟩
          have HSF := Lib.hid (((((HS2.out.setBlk (k := 0) 0 rfl (.int .i64 k1)).setBlk (k := 1) 0 rfl (.int .i64 (k2 - 1))).setBlk (k := 2) 0 rfl (.string y.Name)).setBlk (k := 3) 0 rfl (.int .i64 y.At)).setBlk (k := 4) 0 rfl (.int .i64 y.Value))
          obtain ⟨WF, hWF⟩ : ∃ W, ((((W9.setCell ⟨gs, 0, none⟩ (.int .i64 k1)).setCell ⟨gs, 1, none⟩ (.int .i64 (k2 - 1))).setCell ⟨gs, 2, none⟩ (.string y.Name)).setCell ⟨gs, 3, none⟩ (.int .i64 y.At)).setCell ⟨gs, 4, none⟩ (.int .i64 y.Value) = W := ⟨_, rfl⟩
          replace HSF := Lib.hid (HSF.out.atW hWF)
          go_wp2_with fail
          go_meet
          exact ⟨⟨k1, k2 - 1, y⟩, ⟨HD1.out, HSF.out.more 2 rfl (by omega)⟩⟩
      case rest =>
      clear HS HDX
      obtain ⟨x, HX⟩ := hcut
      obtain ⟨WA, rfl⟩ : ∃ W : World, W = wc := ⟨_, rfl⟩
      have HS := Lib.hid HX.out.2
      have HDX := Lib.hid HX.out.1
      clear HX
      have s0 := HS.out.cell (k := 0) 0 rfl rfl
      have s1 := HS.out.cell (k := 1) 0 rfl rfl
      have s2 := HS.out.cell (k := 2) 0 rfl rfl
      have s3 := HS.out.cell (k := 3) 0 rfl rfl
      have s4 := HS.out.cell (k := 4) 0 rfl rfl
      have HXO : Hid (Mm.I64 x.Kind ∧ Mm.I64 x.Part ∧ x.What.Name.size ≤ maxLen ∧ Mm.I64 x.What.At ∧ Mm.I64 x.What.Value) := by
        have h := HDX.out
        have h1 := h.kd
        have h2 := h.pt
        have h3 := h.say.nm
        have h4 := h.say.at_
        have h5 := h.say.vl
        refine ⟨?_, ?_, ?_, ?_, ?_⟩ <;> first | (unfold Mm.I64; omega) | (unfold maxLen; omega)
      obtain ⟨i0, hi, hz0, hz1, hz2⟩ := info_parts Tryz.infoHStep
      go_wp2_with (at_builtin; refine Mm.app_list (x := x) HS.out 1 rfl rfl (.tmp 70) (.tmp 72) 31 rfl i0 _ 48 Tryz.underlying31 hi hz0 hz1 hz2 rfl (by decide) rfl rfl (fun W => rHouseStep_own_mk HXO.out) hml.out.symm (by unfold maxLen; omega) (by omega) ?_; intro ga cap w' fp' hs; (have HS4 := Lib.hid hs); clear hs)
      go_roundg (k - 1)
      case measure => omega
      case rel =>
        refine ⟨k - 1, mm + 1, _, _, cap, fp', Kc + 32, tb, Nat.le_refl _, by go_num, by show _ = _; rw [List.length_append, hml.out]; rfl, by omega, rfl, rfl, by omega, by omega, by omega, ?_, HS4.out.tail⟩
        intro z hz
        rcases List.mem_append.1 hz with h | h
        · exact HD.out z h
        · rw [List.mem_singleton.1 h]; exact HDX.out
    · have hk1 : ¬ (0 : Int) < (k : Nat) := by omega
      go_wp2_with fail
      go_ret
      first
        | exact ⟨ls, _, _, _, fp, rfl, by rw [← hml.out]; omega, HD.out, HS.out.more 1 rfl (by omega)⟩
        | exact ⟨ls, _, _, _, rfl, by rw [← hml.out]; omega, HD.out, fp, HS.out.more 1 rfl (by omega)⟩
end Go.Proofs.YtbhmdnjammnlnaaGreatDoor

namespace Go.Proofs.YtbhmdnjammnlnaaGreatDoor
open Go.RowKit
attribute [local go_sem] und_cell cha_cell World.cell?_alloc_some
namespace Pl
theorem sumI_set {α : Type} {f : α → Int} {y : α} : ∀ {l : List α} {k : Nat} {x : α}, l[k]? = some x → f y = f x → sumI f (l.set k y) = sumI f l
  | [], _, _, h, _ => by cases h
  | z :: t, 0, x, h, e => by
    have : z = x := by simpa using h
    subst this
    show f y + sumI f t = f z + sumI f t
    rw [e]
  | z :: t, k + 1, x, h, e => by
    have h' : t[k]? = some x := by simpa using h
    show f z + sumI f (t.set k y) = f z + sumI f t
    rw [sumI_set h' e]
theorem szl_set {α : Type} {f : α → Int} {y : α} {l : List α} {k : Nat} {x : α} (h : l[k]? = some x) (e : f y = f x) : szl f (l.set k y) = szl f l := by
  unfold szl
  rw [sumI_set h e, List.length_set]
structure HoD (h : House) : Prop where
  n1 : 1 ≤ h.Logs.length
  n3 : h.Logs.length ≤ 3
  hd : h.Heads.length = h.Logs.length
  sz : szHouse h ≤ 50000
theorem HoD.head {h : House} (k : HoD h) {a b : Head} (ha : h.Heads[0]? = some a) (e : b.Rows = a.Rows) : HoD ⟨h.Logs, h.Heads.set 0 b, h.Kept⟩ :=
  ⟨k.n1, k.n3, by show (h.Heads.set 0 b).length = _; rw [List.length_set]; exact k.hd, by
    have h1 := szl_set (f := szHead) (y := b) ha (by unfold szHead; rw [e])
    have h2 := k.sz
    unfold szHouse at h2 ⊢
    dsimp only
    rw [h1]; exact h2⟩
theorem HoD.log {h : House} (k : HoD h) {a b : Log} (ha : h.Logs[0]? = some a) (e : b.Pieces = a.Pieces) : HoD ⟨h.Logs.set 0 b, h.Heads, h.Kept⟩ :=
  ⟨by show 1 ≤ (h.Logs.set 0 b).length; rw [List.length_set]; exact k.n1, by show (h.Logs.set 0 b).length ≤ 3; rw [List.length_set]; exact k.n3, by show _ = (h.Logs.set 0 b).length; rw [List.length_set]; exact k.hd, by
    have h1 := szl_set (f := szLog) (y := b) ha (by unfold szLog; rw [e])
    have h2 := k.sz
    unfold szHouse at h2 ⊢
    dsimp only
    rw [h1]; exact h2⟩
theorem HoD.kept {h : House} (k : HoD h) : HoD ⟨h.Logs, h.Heads, []⟩ :=
  ⟨k.n1, k.n3, k.hd, by
    have h2 := k.sz
    have h3 := szl_nn (f := szHead) szHead_nn h.Kept
    unfold szHouse at h2 ⊢
    dsimp only
    have e : szl szHead [] = 0 := rfl
    rw [e]
    omega⟩
end Pl
end Go.Proofs.YtbhmdnjammnlnaaGreatDoor

namespace Go.Proofs.YtbhmdnjammnlnaaGreatDoor
open Go.RowKit
attribute [local go_sem] und_cell cha_cell World.cell?_alloc_some
theorem Mm.SepF.cur {F : List Nat} {w0 wr : World} {ts : List Mm.Thing} {A : Option Addr} {n c g : Nat} (h : Mm.SepF F w0 wr (Mm.tblk g 128 [.slice A n c, .int .i64 0, .int .u64 0] :: ts)) : Mm.SepF F w0 wr (Mm.tcur 128 A n c g 0 :: ts) :=
  h.conv (by simp [Mm.tcur, Mm.tblk]) fun u hu => by
    rcases List.mem_cons.1 hu with rfl | hu
    · exact ⟨0, 0, h.at_ 0 rfl, by omega, by omega⟩
    · exact h.hold u (List.mem_cons_of_mem _ hu)
set_option maxRecDepth 100000 in
theorem DrawPlayHouse_c (code : List Int) (A : Option Addr) (n c : Nat) (w : World) (B : Nat) (hc : Mm.SlAt Mm.u8 w B code A n c) (hB : B ≤ w.heap.size) :
    Calls Tryz.prog 37 #[.slice A n c] w fun e w' => ∃ (q : Int) (l : List HouseStep) (A1 : Option Addr) (n1 c1 : Nat), e = .returned (.tuple #[.int .i64 q, .slice A1 n1 c1]) ∧ 1 ≤ q ∧ q ≤ 3 ∧ l.length ≤ 61 ∧ (∀ x, x ∈ l → Pl.StepD x) ∧ Mm.SlAt rHouseStep w' w'.heap.size l A1 n1 c1 ∧ Below w.heap.size w w' := by
  have HC := Lib.hid hc
  obtain ⟨g, hg⟩ : ∃ g, w.heap.size = g := ⟨_, rfl⟩
  obtain ⟨W0, hW0⟩ : ∃ W, w.alloc (.cells #[.slice A n c, .int .i64 0, .int .u64 0] 128) = W := ⟨_, rfl⟩
  have HS := Lib.hid (((Mm.SepF.start w).alloc' hg 128 [.slice A n c, .int .i64 0, .int .u64 0]).atW hW0).cur
  have hBg : B ≤ g := by omega
  clear hc
  go_enter Tryz.func37, Tryz.ntmps37
  go_upto_region 2 with fail
  clear hW0
  go_upto_region 3 with ((go_at_call 88); (refine (pick_c code A n c g _ _ _ B (HC.out.keep fun b hb => HS.out.bel0.block b (by omega)) hBg (HS.out.at_ 0 rfl) (by omega) (by omega)).mono ?_); (rintro e w1 ⟨b1, rfl, b10, b1x, b11, hL⟩); ((have HS := Lib.hid (HS.out.call 0 rfl hL))); (clear hL))
  have b12 := b11 (by omega)
  clear b11
  go_wp2_with (go_at_call 89; refine (houseSteps_c code A n c g _ _ _ B (HC.out.keep fun b hb => HS.out.bel0.block b (by omega)) hBg (HS.out.at_ 0 rfl) (by omega) (by omega)).mono ?_; rintro e w2 ⟨l, A1, n1, c1, fps, rfl, hl, hld, hS⟩; (have HS2 := Lib.hid (HS.out.callAll 0 rfl hS)); clear hS)
  go_ret2
  exact ⟨_, l, _, _, _, rfl, by omega, by omega, hl, hld, (HS2.out.sl 1 rfl).weak (HS2.out.sl 1 rfl).olt, HS2.out.bel0⟩
end Go.Proofs.YtbhmdnjammnlnaaGreatDoor

namespace Go.Proofs.YtbhmdnjammnlnaaGreatDoor
open Go.RowKit
attribute [local go_sem] und_cell World.cell?_alloc_some
set_option maxRecDepth 100000 in
set_option maxHeartbeats 1000000 in
theorem sameSamples_c (l : List Sample) (A A' : Option Addr) (n c c' : Nat) (w : World) (B : Nat) (h1 : Mm.SlAt smp w B l A n c) (h2 : Mm.SlAt smp w B l A' n c') (hB : B ≤ w.heap.size) :
    Calls Tryz.prog 42 #[.slice A n c, .slice A' n c'] w fun e w' => e = .returned (.bool true) ∧ Below w.heap.size w w' := by
  have H1 := Lib.hid h1
  have H2 := Lib.hid h2
  have hlen : n ≤ maxLen := Nat.le_trans h1.2.1 h1.2.2.1
  unfold maxLen at hlen
  clear h1 h2
  go_enter Tryz.func42, Tryz.ntmps42
  go_wp2
  go_loopg [13] n (fun gg i wr => ∃ k : Nat, n - k ≤ gg ∧ k ≤ n ∧ i = .int .i64 k ∧ Below w.heap.size w wr)
  case atStart => exact ⟨0, Nat.le_refl _, Nat.zero_le _, rfl, Below.refl _ _⟩
  case round =>
    obtain ⟨k, hgk, hk, rfl, hbel⟩ := hrel
    have HB := Lib.hid hbel
    by_cases hlt : k < n
    · obtain ⟨x, b, off, hx, rfl, hb, b1, b2, c1, c2⟩ := smp_get (H1.out.keep fun b hb => hbel.block b (by omega)) hlt
      obtain ⟨y, b', off', hy, rfl, hb', b1', b2', c1', c2'⟩ := smp_get (H2.out.keep fun b hb => hbel.block b (by omega)) hlt
      rw [hx] at hy
      injection hy with hy
      subst hy
      have f1 : (k : Int) < (n : Nat) := by omega
      have f2 : (0 : Int) ≤ (k : Nat) := by omega
      clear hx hbel
      go_wp2
      go_quiet (fail)
      go_wp2
      go_roundg (n - (k + 1))
      case measure => omega
      case rel => exact ⟨k + 1, Nat.le_refl _, by omega, by go_num, Go.below_drewN HB.out _⟩
    · go_wp2
      go_ret
      exact ⟨rfl, HB.out⟩
set_option maxRecDepth 100000 in
set_option maxHeartbeats 1000000 in
theorem sameInts_c (l : List Int) (A A' : Option Addr) (n c c' : Nat) (w : World) (B : Nat) (h1 : Mm.SlAt Mm.int w B l A n c) (h2 : Mm.SlAt Mm.int w B l A' n c') (hB : B ≤ w.heap.size) :
    Calls Tryz.prog 137 #[.slice A n c, .slice A' n c'] w fun e w' => e = .returned (.bool true) ∧ Below w.heap.size w w' := by
  have H1 := Lib.hid h1
  have H2 := Lib.hid h2
  have hlen : n ≤ maxLen := Nat.le_trans h1.2.1 h1.2.2.1
  unfold maxLen at hlen
  clear h1 h2
  go_enter Tryz.func137, Tryz.ntmps137
  go_wp2
  go_loopg [13] n (fun gg i wr => ∃ k : Nat, n - k ≤ gg ∧ k ≤ n ∧ i = .int .i64 k ∧ Below w.heap.size w wr)
  case atStart => exact ⟨0, Nat.le_refl _, Nat.zero_le _, rfl, Below.refl _ _⟩
  case round =>
    obtain ⟨k, hgk, hk, rfl, hbel⟩ := hrel
    have HB := Lib.hid hbel
    by_cases hlt : k < n
    · obtain ⟨x, b, off, hx, rfl, hb, b1, c1⟩ := int_get (H1.out.keep fun b hb => hbel.block b (by omega)) hlt
      obtain ⟨y, b', off', hy, rfl, hb', b1', c1'⟩ := int_get (H2.out.keep fun b hb => hbel.block b (by omega)) hlt
      rw [hx] at hy
      injection hy with hy
      subst hy
      have f1 : (k : Int) < (n : Nat) := by omega
      have f2 : (0 : Int) ≤ (k : Nat) := by omega
      clear hx hbel
      go_wp2
      go_quiet (fail)
      go_wp2
      go_roundg (n - (k + 1))
      case measure => omega
      case rel => exact ⟨k + 1, Nat.le_refl _, by omega, by go_num, Go.below_drewN HB.out _⟩
    · go_wp2
      go_ret
      exact ⟨rfl, HB.out⟩
set_option maxRecDepth 100000 in
set_option maxHeartbeats 1000000 in
theorem sameBools_c (l : List Bool) (A A' : Option Addr) (n c c' : Nat) (w : World) (B : Nat) (h1 : Mm.SlAt Mm.bool w B l A n c) (h2 : Mm.SlAt Mm.bool w B l A' n c') (hB : B ≤ w.heap.size) :
    Calls Tryz.prog 38 #[.slice A n c, .slice A' n c'] w fun e w' => e = .returned (.bool true) ∧ Below w.heap.size w w' := by
  have H1 := Lib.hid h1
  have H2 := Lib.hid h2
  have hlen : n ≤ maxLen := Nat.le_trans h1.2.1 h1.2.2.1
  unfold maxLen at hlen
  clear h1 h2
  go_enter Tryz.func38, Tryz.ntmps38
  go_wp2
  go_loopg [13] n (fun gg i wr => ∃ k : Nat, n - k ≤ gg ∧ k ≤ n ∧ i = .int .i64 k ∧ Below w.heap.size w wr)
  case atStart => exact ⟨0, Nat.le_refl _, Nat.zero_le _, rfl, Below.refl _ _⟩
  case round =>
    obtain ⟨k, hgk, hk, rfl, hbel⟩ := hrel
    have HB := Lib.hid hbel
    by_cases hlt : k < n
    · obtain ⟨x, b, off, hx, rfl, hb, c1⟩ := bool_get (H1.out.keep fun b hb => hbel.block b (by omega)) hlt
      obtain ⟨y, b', off', hy, rfl, hb', c1'⟩ := bool_get (H2.out.keep fun b hb => hbel.block b (by omega)) hlt
      rw [hx] at hy
      injection hy with hy
      subst hy
      have f1 : (k : Int) < (n : Nat) := by omega
      have f2 : (0 : Int) ≤ (k : Nat) := by omega
      clear hx hbel
      go_wp2
      go_quiet (fail)
      go_wp2
      go_roundg (n - (k + 1))
      case measure => omega
      case rel => exact ⟨k + 1, Nat.le_refl _, by omega, by go_num, Go.below_drewN HB.out _⟩
    · go_wp2
      go_ret
      exact ⟨rfl, HB.out⟩
end Go.Proofs.YtbhmdnjammnlnaaGreatDoor

namespace Go.Proofs.YtbhmdnjammnlnaaGreatDoor
open Go.RowKit
attribute [local go_sem] und_cell cha_cell World.cell?_alloc_some
set_option maxRecDepth 100000 in
set_option maxHeartbeats 2000000 in
theorem samePieces_c (g : Log) (cs cs2 : List Value) (w : World) (B : Nat) (h1 : rLog.at_ w B g cs) (h2 : rLog.at_ w B g cs2) (hB : B ≤ w.heap.size) :
    Calls Tryz.prog 90 #[.agg cs.toArray, .agg cs2.toArray] w fun e w' => e = .returned (.bool true) ∧ Below w.heap.size w w' := by
  obtain ⟨A0, n0, c0, rfl, r0, i0⟩ := rLog_at h1
  obtain ⟨A0', m0, c0', rfl, q0, -⟩ := rLog_at h2
  obtain rfl : n0 = m0 := r0.1.symm.trans q0.1
  have l0 : n0 ≤ maxLen := Nat.le_trans r0.2.1 r0.2.2.1
  unfold maxLen at l0
  have R0 := Lib.hid r0
  have Q0 := Lib.hid q0
  have e0 : (g.Begin != g.Begin) = false := by simp
  clear h1 h2 r0 q0 i0
  go_enter Tryz.func90, Tryz.ntmps90
  go_upto_region 1 with fail
  obtain ⟨ga, hga⟩ : ∃ ga, w.heap.size = ga := ⟨_, rfl⟩
  obtain ⟨gb, hgb⟩ : ∃ gb, ga + 1 = gb := ⟨_, rfl⟩
  obtain ⟨W0, hW0⟩ : ∃ W0, (w.alloc (.cells (List.toArray ([.slice A0 n0 c0, .int .i64 g.Begin])) 80)).alloc (.cells (List.toArray ([.slice A0' n0 c0', .int .i64 g.Begin])) 80) = W0 := ⟨_, rfl⟩
  have HS0 := Lib.hid ((((Mm.SepF.start w).alloc' hga 80 ([.slice A0 n0 c0, .int .i64 g.Begin])).alloc' (g := gb) (by rw [Mm.sz1, hga, hgb]) 80 ([.slice A0' n0 c0', .int .i64 g.Begin])).atW hW0)
  rw [hW0, hga, hgb]
  have HGA := Lib.hid hga
  clear hW0 hga hgb
  have HB0 := Lib.hid HS0.out.bel0
  have HBW := Lib.hid (Nat.le_trans hB HB0.out.size)
  have HX := Lib.hid (Below.refl W0.heap.size W0)
  have b0 := below_some HX.out (HS0.out.cell (k := 0) 0 rfl rfl)
  have b1 := below_some HX.out (HS0.out.cell (k := 1) 0 rfl rfl)
  have d0 := below_some HX.out (HS0.out.cell (k := 0) 1 rfl rfl)
  have d1 := below_some HX.out (HS0.out.cell (k := 1) 1 rfl rfl)
  go_wp2_with fail
  clear b0 b1 d0 d1 e0
  have HXX := Lib.hid HX.out
  clear HX
  go_loopg [23] n0 (fun gg i wr => ∃ k : Nat, n0 - k ≤ gg ∧ k ≤ n0 ∧ i = .int .i64 k ∧ Hid (Below W0.heap.size W0 wr))
  case atStart => exact ⟨0, Nat.le_refl _, Nat.zero_le _, rfl, HXX.out⟩
  case round =>
    clear HXX
    obtain ⟨k, hgk, hk, rfl, HX⟩ := hrel
    obtain ⟨W1, rfl⟩ : ∃ W1 : World, W1 = wr := ⟨_, rfl⟩
    by_cases hlt : k < n0
    · have b0 := below_some HX.out (HS0.out.cell (k := 0) 0 rfl rfl)
      have d0 := below_some HX.out (HS0.out.cell (k := 0) 1 rfl rfl)
      obtain ⟨x, b, off, P1, p1, t1, hx, rfl, hb, -, -, uf0, uc0, uc1, uc2⟩ := rPiece_get (R0.out.keep (w' := W1) fun b hb => (HX.out.block b (Nat.lt_of_lt_of_le hb HBW.out)).trans (HB0.out.block b (Nat.lt_of_lt_of_le hb hB))) hlt
      obtain ⟨y, b', off', P2, p2, t2, hy, rfl, hb', -, -, vf0, vc0, vc1, vc2⟩ := rPiece_get (Q0.out.keep (w' := W1) fun b hb => (HX.out.block b (Nat.lt_of_lt_of_le hb HBW.out)).trans (HB0.out.block b (Nat.lt_of_lt_of_le hb hB))) hlt
      obtain rfl : x = y := by rw [hx] at hy; injection hy
      obtain rfl : p1 = p2 := uf0.1.symm.trans vf0.1
      have hBw : B ≤ W1.heap.size := Nat.le_trans HBW.out HX.out.size
      have CE := fun z : Und W1 => und_call z (sameInts_c x.Index P1 P2 p1 t1 t2 (und W1 z) B (uf0.und hBw z) (vf0.und hBw z) (Nat.le_trans hBw (und_size z)))
      have f1 : (k : Int) < (n0 : Nat) := by omega
      have f2 : (0 : Int) ≤ (k : Nat) := by omega
      have f3 : ((k : Nat) : Int).toNat = k := by omega
      have e1 : (x.From != x.From) = false := by simp
      clear hx hy uf0 vf0
      go_wp2
      refine wp_region_und (by kernel_rfl) (by kernel_rfl) ?_
      repeat (go_big_quiet_step ((first | (go_at_call 137; with_reducible exact CE _))))
      refine wpQuiet_nil ?_
      intro X hX
      go_wp2
      go_roundg (n0 - (k + 1))
      case measure => omega
      case rel => exact ⟨k + 1, Nat.le_refl _, by omega, by go_num, below_step HX.out hX⟩
    · have f1 : ¬ (k : Int) < (n0 : Nat) := by omega
      go_wp2
      go_ret
      exact ⟨rfl, below_step HB0.out HX.out⟩
set_option maxRecDepth 100000 in
set_option maxHeartbeats 2000000 in
theorem sameHeads_c (g : Head) (cs cs2 : List Value) (w : World) (B : Nat) (h1 : rHead.at_ w B g cs) (h2 : rHead.at_ w B g cs2) (hB : B ≤ w.heap.size) :
    Calls Tryz.prog 91 #[.agg cs.toArray, .agg cs2.toArray] w fun e w' => e = .returned (.bool true) ∧ Below w.heap.size w w' := by
  obtain ⟨A0, n0, c0, rfl, r0, i0⟩ := rHead_at h1
  obtain ⟨A0', m0, c0', rfl, q0, -⟩ := rHead_at h2
  obtain rfl : n0 = m0 := r0.1.symm.trans q0.1
  have l0 : n0 ≤ maxLen := Nat.le_trans r0.2.1 r0.2.2.1
  unfold maxLen at l0
  have R0 := Lib.hid r0
  have Q0 := Lib.hid q0
  have e0 : (g.Offset != g.Offset) = false := by simp
  clear h1 h2 r0 q0 i0
  go_enter Tryz.func91, Tryz.ntmps91
  go_upto_region 1 with fail
  obtain ⟨ga, hga⟩ : ∃ ga, w.heap.size = ga := ⟨_, rfl⟩
  obtain ⟨gb, hgb⟩ : ∃ gb, ga + 1 = gb := ⟨_, rfl⟩
  obtain ⟨W0, hW0⟩ : ∃ W0, (w.alloc (.cells (List.toArray ([.slice A0 n0 c0, .int .i64 g.Offset])) 73)).alloc (.cells (List.toArray ([.slice A0' n0 c0', .int .i64 g.Offset])) 73) = W0 := ⟨_, rfl⟩
  have HS0 := Lib.hid ((((Mm.SepF.start w).alloc' hga 73 ([.slice A0 n0 c0, .int .i64 g.Offset])).alloc' (g := gb) (by rw [Mm.sz1, hga, hgb]) 73 ([.slice A0' n0 c0', .int .i64 g.Offset])).atW hW0)
  rw [hW0, hga, hgb]
  have HGA := Lib.hid hga
  clear hW0 hga hgb
  have HB0 := Lib.hid HS0.out.bel0
  have HBW := Lib.hid (Nat.le_trans hB HB0.out.size)
  have HX := Lib.hid (Below.refl W0.heap.size W0)
  have b0 := below_some HX.out (HS0.out.cell (k := 0) 0 rfl rfl)
  have b1 := below_some HX.out (HS0.out.cell (k := 1) 0 rfl rfl)
  have d0 := below_some HX.out (HS0.out.cell (k := 0) 1 rfl rfl)
  have d1 := below_some HX.out (HS0.out.cell (k := 1) 1 rfl rfl)
  go_wp2_with fail
  clear b0 b1 d0 d1 e0
  have HXX := Lib.hid HX.out
  clear HX
  go_loopg [23] n0 (fun gg i wr => ∃ k : Nat, n0 - k ≤ gg ∧ k ≤ n0 ∧ i = .int .i64 k ∧ Hid (Below W0.heap.size W0 wr))
  case atStart => exact ⟨0, Nat.le_refl _, Nat.zero_le _, rfl, HXX.out⟩
  case round =>
    clear HXX
    obtain ⟨k, hgk, hk, rfl, HX⟩ := hrel
    obtain ⟨W1, rfl⟩ : ∃ W1 : World, W1 = wr := ⟨_, rfl⟩
    by_cases hlt : k < n0
    · have b0 := below_some HX.out (HS0.out.cell (k := 0) 0 rfl rfl)
      have d0 := below_some HX.out (HS0.out.cell (k := 0) 1 rfl rfl)
      obtain ⟨x, b, off, P1, p1, t1, hx, rfl, hb, -, uf0, uc0, uc1⟩ := rRow_get (R0.out.keep (w' := W1) fun b hb => (HX.out.block b (Nat.lt_of_lt_of_le hb HBW.out)).trans (HB0.out.block b (Nat.lt_of_lt_of_le hb hB))) hlt
      obtain ⟨y, b', off', P2, p2, t2, hy, rfl, hb', -, vf0, vc0, vc1⟩ := rRow_get (Q0.out.keep (w' := W1) fun b hb => (HX.out.block b (Nat.lt_of_lt_of_le hb HBW.out)).trans (HB0.out.block b (Nat.lt_of_lt_of_le hb hB))) hlt
      obtain rfl : x = y := by rw [hx] at hy; injection hy
      obtain rfl : p1 = p2 := uf0.1.symm.trans vf0.1
      have hBw : B ≤ W1.heap.size := Nat.le_trans HBW.out HX.out.size
      have CE := fun z : Und W1 => und_call z (sameSamples_c x.Samples P1 P2 p1 t1 t2 (und W1 z) B (uf0.und hBw z) (vf0.und hBw z) (Nat.le_trans hBw (und_size z)))
      have f1 : (k : Int) < (n0 : Nat) := by omega
      have f2 : (0 : Int) ≤ (k : Nat) := by omega
      have f3 : ((k : Nat) : Int).toNat = k := by omega
      clear hx hy uf0 vf0
      go_wp2
      refine wp_region_und (by kernel_rfl) (by kernel_rfl) ?_
      repeat (go_big_quiet_step ((first | (go_at_call 42; with_reducible exact CE _))))
      refine wpQuiet_nil ?_
      intro X hX
      go_wp2
      go_roundg (n0 - (k + 1))
      case measure => omega
      case rel => exact ⟨k + 1, Nat.le_refl _, by omega, by go_num, below_step HX.out hX⟩
    · have f1 : ¬ (k : Int) < (n0 : Nat) := by omega
      go_wp2
      go_ret
      exact ⟨rfl, below_step HB0.out HX.out⟩
set_option maxRecDepth 100000 in
set_option maxHeartbeats 2000000 in
theorem sameHouses_c (h : House) (cs cs2 : List Value) (w : World) (B : Nat) (h1 : rHouse.at_ w B h cs) (h2 : rHouse.at_ w B h cs2) (hB : B ≤ w.heap.size) (hl1 : h.Heads.length = h.Logs.length) (hl2 : h.Kept.length = h.Logs.length) :
    Calls Tryz.prog 39 #[.agg cs.toArray, .agg cs2.toArray] w fun e w' => e = .returned (.bool true) ∧ Below w.heap.size w w' := by
  obtain ⟨A0, n0, c0, A1, n1, c1, A2, n2, c2, rfl, r0, r1, r2⟩ := rHouse_at h1
  obtain ⟨A0', m0, c0', A1', m1, c1', A2', m2, c2', rfl, q0, q1, q2⟩ := rHouse_at h2
  obtain rfl : n0 = m0 := r0.1.symm.trans q0.1
  obtain rfl : n1 = m1 := r1.1.symm.trans q1.1
  obtain rfl : n2 = m2 := r2.1.symm.trans q2.1
  obtain rfl : n0 = n1 := by rw [← r0.1, ← r1.1, hl1]
  obtain rfl : n0 = n2 := by rw [← r0.1, ← r2.1, hl2]
  have l0 : n0 ≤ maxLen := Nat.le_trans r0.2.1 r0.2.2.1
  unfold maxLen at l0
  have R0 := Lib.hid r0
  have R1 := Lib.hid r1
  have R2 := Lib.hid r2
  have Q0 := Lib.hid q0
  have Q1 := Lib.hid q1
  have Q2 := Lib.hid q2
  clear h1 h2 r0 r1 r2 q0 q1 q2 hl1 hl2
  go_enter Tryz.func39, Tryz.ntmps39
  go_upto_region 1 with fail
  obtain ⟨ga, hga⟩ : ∃ ga, w.heap.size = ga := ⟨_, rfl⟩
  obtain ⟨gb, hgb⟩ : ∃ gb, ga + 1 = gb := ⟨_, rfl⟩
  obtain ⟨W0, hW0⟩ : ∃ W0, (w.alloc (.cells (List.toArray ([.slice A0 n0 c0, .slice A1 n0 c1, .slice A2 n0 c2])) 27)).alloc (.cells (List.toArray ([.slice A0' n0 c0', .slice A1' n0 c1', .slice A2' n0 c2'])) 27) = W0 := ⟨_, rfl⟩
  have HS0 := Lib.hid ((((Mm.SepF.start w).alloc' hga 27 ([.slice A0 n0 c0, .slice A1 n0 c1, .slice A2 n0 c2])).alloc' (g := gb) (by rw [Mm.sz1, hga, hgb]) 27 ([.slice A0' n0 c0', .slice A1' n0 c1', .slice A2' n0 c2'])).atW hW0)
  rw [hW0, hga, hgb]
  have HGA := Lib.hid hga
  clear hW0 hga hgb
  have HB0 := Lib.hid HS0.out.bel0
  have HBW := Lib.hid (Nat.le_trans hB HB0.out.size)
  have HX := Lib.hid (Below.refl W0.heap.size W0)
  have b0 := below_some HX.out (HS0.out.cell (k := 0) 0 rfl rfl)
  have b1 := below_some HX.out (HS0.out.cell (k := 1) 0 rfl rfl)
  have d0 := below_some HX.out (HS0.out.cell (k := 0) 1 rfl rfl)
  have d1 := below_some HX.out (HS0.out.cell (k := 1) 1 rfl rfl)
  have b2 := below_some HX.out (HS0.out.cell (k := 2) 0 rfl rfl)
  have d2 := below_some HX.out (HS0.out.cell (k := 2) 1 rfl rfl)
  go_wp2_with fail
  clear b0 b1 b2 d0 d1 d2
  have HXX := Lib.hid HX.out
  clear HX
  go_loopg [34] n0 (fun gg i wr => ∃ k : Nat, n0 - k ≤ gg ∧ k ≤ n0 ∧ i = .int .i64 k ∧ Hid (Below W0.heap.size W0 wr))
  case atStart => exact ⟨0, Nat.le_refl _, Nat.zero_le _, rfl, HXX.out⟩
  case round =>
    clear HXX
    obtain ⟨k, hgk, hk, rfl, HX⟩ := hrel
    obtain ⟨W1, rfl⟩ : ∃ W1 : World, W1 = wr := ⟨_, rfl⟩
    by_cases hlt : k < n0
    · skip
      have b0 := below_some HX.out (HS0.out.cell (k := 0) 0 rfl rfl)
      have b1 := below_some HX.out (HS0.out.cell (k := 1) 0 rfl rfl)
      have d0 := below_some HX.out (HS0.out.cell (k := 0) 1 rfl rfl)
      have d1 := below_some HX.out (HS0.out.cell (k := 1) 1 rfl rfl)
      have b2 := below_some HX.out (HS0.out.cell (k := 2) 0 rfl rfl)
      have d2 := below_some HX.out (HS0.out.cell (k := 2) 1 rfl rfl)
      obtain ⟨x, b, off, P1, p1, t1, hx, rfl, hb, uf0, ui0, uc0, uc1⟩ := rLog_get (R0.out.keep (w' := W1) fun b hb => (HX.out.block b (Nat.lt_of_lt_of_le hb HBW.out)).trans (HB0.out.block b (Nat.lt_of_lt_of_le hb hB))) hlt
      obtain ⟨y, b', off', P2, p2, t2, hy, rfl, hb', vf0, vi0, vc0, vc1⟩ := rLog_get (Q0.out.keep (w' := W1) fun b hb => (HX.out.block b (Nat.lt_of_lt_of_le hb HBW.out)).trans (HB0.out.block b (Nat.lt_of_lt_of_le hb hB))) hlt
      obtain rfl : x = y := by rw [hx] at hy; injection hy
      have hBw : B ≤ W1.heap.size := Nat.le_trans HBW.out HX.out.size
      have CE := fun z : Und W1 => und_call z (samePieces_c x _ _ (und W1 z) B (rLog_at_mk (uf0.und hBw z) ui0) (rLog_at_mk (vf0.und hBw z) vi0) (Nat.le_trans hBw (und_size z)))
      clear hx hy uf0 vf0
      obtain ⟨x', ba, oa, P3, p3, t3, hx, rfl, hba, uf0, uj0, ud0, ud1⟩ := rHead_get (R1.out.keep (w' := W1) fun b hb => (HX.out.block b (Nat.lt_of_lt_of_le hb HBW.out)).trans (HB0.out.block b (Nat.lt_of_lt_of_le hb hB))) hlt
      obtain ⟨y', bb, ob, P4, p4, t4, hy, rfl, hbb, vf0, vj0, vd0, vd1⟩ := rHead_get (Q1.out.keep (w' := W1) fun b hb => (HX.out.block b (Nat.lt_of_lt_of_le hb HBW.out)).trans (HB0.out.block b (Nat.lt_of_lt_of_le hb hB))) hlt
      obtain rfl : x' = y' := by rw [hx] at hy; injection hy
      have CF := fun z : Und W1 => und_call z (sameHeads_c x' _ _ (und W1 z) B (rHead_at_mk (uf0.und hBw z) uj0) (rHead_at_mk (vf0.und hBw z) vj0) (Nat.le_trans hBw (und_size z)))
      clear hx hy uf0 vf0
      obtain ⟨x'', bc, oc, P5, p5, t5, hx, rfl, hbc, uf0, uk0, ue0, ue1⟩ := rHead_get (R2.out.keep (w' := W1) fun b hb => (HX.out.block b (Nat.lt_of_lt_of_le hb HBW.out)).trans (HB0.out.block b (Nat.lt_of_lt_of_le hb hB))) hlt
      obtain ⟨y'', bd, od, P6, p6, t6, hy, rfl, hbd, vf0, vk0, ve0, ve1⟩ := rHead_get (Q2.out.keep (w' := W1) fun b hb => (HX.out.block b (Nat.lt_of_lt_of_le hb HBW.out)).trans (HB0.out.block b (Nat.lt_of_lt_of_le hb hB))) hlt
      obtain rfl : x'' = y'' := by rw [hx] at hy; injection hy
      have CG := fun z : Und W1 => und_call z (sameHeads_c x'' _ _ (und W1 z) B (rHead_at_mk (uf0.und hBw z) uk0) (rHead_at_mk (vf0.und hBw z) vk0) (Nat.le_trans hBw (und_size z)))
      clear hx hy uf0 vf0
      have f1 : (k : Int) < (n0 : Nat) := by omega
      have f2 : (0 : Int) ≤ (k : Nat) := by omega
      have f3 : ((k : Nat) : Int).toNat = k := by omega
      go_wp2
      refine wp_region_und (by kernel_rfl) (by kernel_rfl) ?_
      repeat (go_big_quiet_step ((first | (first | (go_at_call 90; with_reducible exact CE _) | (go_at_call 91; with_reducible exact CF _) | (go_at_call 91; with_reducible exact CG _)))))
      refine wpQuiet_nil ?_
      intro X hX
      go_wp2
      go_roundg (n0 - (k + 1))
      case measure => omega
      case rel => exact ⟨k + 1, Nat.le_refl _, by omega, by go_num, below_step HX.out hX⟩
    · have f1 : ¬ (k : Int) < (n0 : Nat) := by omega
      go_wp2
      go_ret
      exact ⟨rfl, below_step HB0.out HX.out⟩
end Go.Proofs.YtbhmdnjammnlnaaGreatDoor

namespace Go.Proofs.YtbhmdnjammnlnaaGreatDoor
open Go.RowKit
attribute [local go_sem] und_cell cha_cell World.cell?_alloc_some
set_option maxRecDepth 100000 in
set_option maxHeartbeats 2000000 in
theorem logEnd_c (g : Log) (cs : List Value) (w : World) (B : Nat) (hh : rLog.at_ w B g cs) (hB : B ≤ w.heap.size) (hg : Pl.LogOk g) :
    Calls Tryz.prog 98 #[.agg cs.toArray] w fun e w' => e = .returned (.int .i64 (Pl.endOf g)) ∧ Below w.heap.size w w' := by
  obtain ⟨A0, n0, c0, rfl, r0, io⟩ := rLog_at hh
  have hn20 : n0 ≤ 20 := by have := hg.len.2; have := r0.1; omega
  have hn1 : 1 ≤ n0 := by have := hg.len.1; have := r0.1; omega
  have HSZ : Hid (∀ p, p ∈ g.Pieces → p.Bytes.size ≤ 60) := fun p hp => hg.sizes p hp
  have HEND : Hid (Pl.endOf g = Pl.from0 g.Pieces + ((Pl.lRecs g.Pieces).length : Int)) := hg.end_
  have hsum := hg.sum
  have hf0 := hg.from0
  have HR := Lib.hid r0
  clear hh r0
  obtain ⟨ga, hga⟩ : ∃ g, w.heap.size = g := ⟨_, rfl⟩
  obtain ⟨W0, hW0⟩ : ∃ W, w.alloc (.cells #[.slice A0 n0 c0, .int .i64 g.Begin] 80) = W := ⟨_, rfl⟩
  have HS0 := Lib.hid (((Mm.SepF.start w).alloc' hga 80 [.slice A0 n0 c0, .int .i64 g.Begin]).atW hW0)
  go_enter Tryz.func98, Tryz.ntmps98
  go_upto_region 1 with fail
  clear hW0
  obtain ⟨f0, hf0e⟩ : ∃ f, Pl.from0 g.Pieces = f := ⟨_, rfl⟩
  obtain ⟨m, hm⟩ : ∃ m, (Pl.lRecs g.Pieces).length = m := ⟨_, rfl⟩
  have d0 := HS0.out.cell (k := 0) 0 rfl rfl
  have d1 := HS0.out.cell (k := 1) 0 rfl rfl
  have hsl := HR.out.keep (w' := W0) fun b hb => HS0.out.bel0.block b (by omega)
  have hf1 : (0 : Int) < (n0 : Nat) := by omega
  obtain ⟨x, b, off, AI, mI, dI, hx, rfl, hbX, i0, i1, hri, e0, e1, e2⟩ := rPiece_get hsl (show 0 < n0 by omega)
  have hxf : x.From = f0 := (Pl.from0_get hx).symm.trans hf0e
  rw [hxf, show off + 0 * 3 = off by omega] at e0
  rw [hf0e] at hf0
  rw [hm] at hsum
  have HM := Lib.hid hm
  have HF0 := Lib.hid hf0e
  have HBW := Lib.hid HS0.out.bel0
  clear hsl hx hxf hm hf0e hri i0 i1 e1 e2
  refine Mm.wp_region_give_all (fun i => match i with | 6 => some (Mm.gSl Mm.str 9 (Pl.lRecs g.Pieces)) | _ => none) (fun i => []) (fun _ => []) (F := []) (D := fun w' => ∃ z : Und W0, w' = und W0 z) (fun X us h => Mm.sep_und h) (by kernel_rfl) (by kernel_rfl) (by kernel_rfl) (Mm.SepF.startDrew _) ?_
  repeat (refine Mm.give_det (by rfl) (by rfl) (by rfl) (fun K hK => ?_); go_big_quiet_op; refine hK _ ?_; clear hK K)
  refine Mm.give_op0 9 (by rfl) rfl (by rfl) (by rfl) (by rfl) (by rfl) Mm.gSl_in (fun others X hX => ?_) ?_
  · go_wp2_with (go_at_call 146; refine (logAll_c g.Pieces g.Begin _ n0 c0 X B (HR.out.keep fun b hb => (hX.bel0.block b (by have := HBW.out.size; omega)).trans (HBW.out.block b (by omega))) (by have := hX.chg.size; have := HBW.out.size; omega) hn20 HSZ.out).mono ?_; rintro e w5 ⟨A5, n5, c5, f5, rfl, hn5, hs5⟩; (have HN5 := Lib.hid hn5); clear hn5)
    exact ⟨rfl, rfl, _, ⟨A5, n5, c5, f5, rfl, rfl, HN5⟩, hX.join hs5⟩
  rintro v ds ⟨A5, n5, c5, f5, rfl, rfl, hn5⟩
  obtain rfl : m = n5 := by rw [hn5.out, HM.out]
  clear hn5
  simp only [Act.put, List.setIfInBounds_toArray, List.set_cons_succ, List.set_cons_zero]
  repeat (refine Mm.give_det (by rfl) (by rfl) (by rfl) (fun K hK => ?_); go_big_quiet_op; refine hK _ ?_; clear hK K)
  refine Mm.give_nil ?_
  rintro X hX
  have HXX := Lib.hid (below_step HBW.out hX.bel0)
  clear hX
  go_wp2
  go_ret
  have e := HEND.out
  rw [HF0.out, HM.out] at e
  rw [e]
  exact ⟨rfl, HXX.out⟩
set_option maxRecDepth 100000 in
set_option maxHeartbeats 2000000 in
theorem implEndOf_c (g : Log) (cs : List Value) (w : World) (B : Nat) (hh : rLog.at_ w B g cs) (hB : B ≤ w.heap.size) (hg : Pl.LogOk g) :
    Calls Tryz.prog 43 #[.agg cs.toArray] w fun e w' => e = .returned (.tuple #[.int .i64 (Pl.endOf g), .bool true]) ∧ Below w.heap.size w w' := by
  obtain ⟨A0, n0, c0, rfl, r0, io⟩ := rLog_at hh
  have HR := Lib.hid r0
  have HG := Lib.hid hg
  have HI := Lib.hid io
  clear hh r0 hg io
  obtain ⟨ga, hga⟩ : ∃ g, w.heap.size = g := ⟨_, rfl⟩
  obtain ⟨W0, hW0⟩ : ∃ W, w.alloc (.cells #[.slice A0 n0 c0, .int .i64 g.Begin] 80) = W := ⟨_, rfl⟩
  have HS0 := Lib.hid (((Mm.SepF.start w).alloc' hga 80 [.slice A0 n0 c0, .int .i64 g.Begin]).atW hW0)
  go_enter Tryz.func43, Tryz.ntmps43
  go_upto_region 1 with fail
  clear hW0
  have d0 := HS0.out.cell (k := 0) 0 rfl rfl
  have d1 := HS0.out.cell (k := 1) 0 rfl rfl
  go_wp2_with fail
  refine (isLog_c g.Pieces g.Begin A0 n0 c0 W0 B (HR.out.keep fun b hb => HS0.out.bel0.block b (by omega)) (by have := HS0.out.bel0.size; omega) HI.out).mono ?_
  rintro e w1 ⟨b, rfl, hb, hbel⟩
  obtain rfl : b = true := hb.2 HG.out
  have HS1 := Lib.hid (HS0.out.step hbel)
  clear hbel d0 d1 hb
  have d0 := HS1.out.cell (k := 0) 0 rfl rfl
  have d1 := HS1.out.cell (k := 1) 0 rfl rfl
  go_wp2_with fail
  refine (logEnd_c g [.slice A0 n0 c0, .int .i64 g.Begin] _ B (rLog_at_mk (HR.out.keep fun b hb => HS1.out.bel0.block b (by omega)) HI.out) (by have := HS1.out.bel0.size; omega) HG.out).mono ?_
  rintro e w2 ⟨rfl, hb2⟩
  have HS2 := Lib.hid (HS1.out.step hb2)
  clear hb2 d0 d1
  go_wp2_with fail
  go_ret2
  exact ⟨rfl, HS2.out.bel0⟩
end Go.Proofs.YtbhmdnjammnlnaaGreatDoor

namespace Go.Proofs.YtbhmdnjammnlnaaGreatDoor
open Go.RowKit Go.ChangeShapes
def laidL : List (String × DataW Unit) := [("math/bits.deBruijn32tab", Rows.laid_math_bits_deBruijn32tab), ("math/bits.deBruijn64tab", Rows.laid_math_bits_deBruijn64tab), ("internal/strconv.uint64pow10", Rows.laid_internal_strconv_uint64pow10), ("unicode/utf8.acceptRanges", Rows.laid_unicode_utf8_acceptRanges), ("strconv.ErrRange", Rows.laid_strconv_ErrRange), ("strconv.ErrSyntax", Rows.laid_strconv_ErrSyntax), ("unicode/utf8.first", Rows.laid_unicode_utf8_first)]
theorem returns_of_tied {H : Type} {enc : TypeId × Value → H} {a : Assume} {C : Checked} {os : Os} {f : FuncId} {fn : Func} {s : ChangeSpec} {conds : List PathCond} {apart fresh handsOn again : Bool} {X : World → Array Value → Prop}
    (hX : ∀ (w w' : World) (args : Array Value), w.heap = w'.heap → X w args → X w' args)
    (own : ownKnob C.prog.godebug = none) (started : os.Started) (noInit : C.prog.inits.idxOf? f = none) (hfn : C.prog.funcs[f]? = some fn)
    (witness : ∃ (w : World) (tape : Tape) (i : Input), w.os = os ∧ (w.forCall tape i).Shaped C.prog ∧ i.vars = [] ∧ Input.okWide C.prog (w.forCall tape i) .any w.heap.size f i ∧
      ((s.pre enc C.prog fn conds apart (w.forCall tape i).memory i.args ∧ X (w.forCall tape i).memory i.args) ∧ sizedMet enc C.prog fn (OpenSpec.ofChange s) apart (w.forCall tape i).memory i.args) ∧ a.holds C.prog (lone (Frame.enter C.prog f i.args .normal) [] (w.forCall tape i)))
    (contract : ∀ (W : World) (base : Nat) (args : Array Value) (ds gs : List (DataW H)) (before : List MemPlace),
      (∀ (j : Nat) t v, fn.params[j]? = some t → args[j]? = some v → Value.okWide C.prog W .any base t v) →
      DataW.Whole enc C.prog fn.params.toList s.vars apart W args.toList ds gs before →
      X W args → W.ShapedOpen C.prog →
      Calls C.prog f args W fun e W' => ∃ v, e = .returned v ∧ s.post enc C.prog fn apart fresh handsOn again W args v W') :
    ReturnsInHanded a C os f .any (fun w args => (s.pre enc C.prog fn conds apart w args ∧ X w args) ∧ sizedMet enc C.prog fn (OpenSpec.ofChange s) apart w args) (s.post enc C.prog fn apart fresh handsOn again) := by
  refine returnsInHanded_of_calls own started noInit witness ?_
  intro w tape i _ hsh _ hok hpre hholds
  obtain ⟨_, _, _, fn', hfn', _, _, _, _, hval⟩ := hok
  have e : fn' = fn := Option.some.inj (hfn'.symm.trans hfn)
  subst e
  obtain ⟨⟨⟨ds, gs, before, hw, hc⟩, hx⟩, hz⟩ := hpre
  have hw' := DataW.Whole.of_heap (w' := w.forCall tape i) (by rfl) hw
  refine (contract (w.forCall tape i) w.heap.size i.args ds gs before hval hw' (hX _ _ _ (by rfl) hx) hsh).mono fun e W' ⟨v, he, hp⟩ => ?_
  subst he
  exact ChangeSpec.post_blind hp
theorem starES : "*" ++ "errors.errorString" = "*errors.errorString" := by decide
theorem rowES (u : TypeId) (h : Program.typeName? Tryz.prog 3 u = some "*errors.errorString") : u = 270 :=
  typeName_ptr_named (nm := "errors.errorString") (by rw [starES]; kernel_rfl) (by kernel_rfl) (by decide) u (by rw [starES]; exact h)
theorem tabs_of_laid {W : World} (hL : laidMetH Tryz.prog laidL W) (hsh : W.ShapedOpen Tryz.prog) : Tabs W := by
  rw [MakeChecks.laidMetH_plain _ _ _ (by kernel_rfl)] at hL
  have h1 : laidMet Tryz.prog [("math/bits.deBruijn32tab", Rows.laid_math_bits_deBruijn32tab), ("math/bits.deBruijn64tab", Rows.laid_math_bits_deBruijn64tab), ("internal/strconv.uint64pow10", Lib.tabData .u64 Lib.pow10Tab), ("unicode/utf8.acceptRanges", Rows.laid_unicode_utf8_acceptRanges), ("strconv.ErrRange", Rows.laid_strconv_ErrRange), ("strconv.ErrSyntax", Rows.laid_strconv_ErrSyntax), ("unicode/utf8.first", Rows.laid_unicode_utf8_first)] W := by
    have e : (Rows.laid_internal_strconv_uint64pow10 : DataW Unit) = Lib.tabData .u64 Lib.pow10Tab := by kernel_rfl
    rw [← e]; exact hL
  refine ⟨?_, ?_, ?_, ?_⟩
  · exact Lib.tabIs_of_head (g := 1) (t := 255) (e := 126) (n := 20) (by kernel_rfl) (by kernel_rfl) (by kernel_rfl) (by kernel_rfl) (by kernel_rfl) (by kernel_rfl) h1.tail.tail
  · obtain ⟨a0, s0, hv0, -, -, -⟩ := laid_sentinel (g := 2) (ti := 211) (tp := 270) (te := 272) (ts := 9) h1.tail.tail.tail.tail.tail (by kernel_rfl) (by kernel_rfl) Tryz.underlying211 rowES Tryz.underlying270 Tryz.underlying272 rfl rfl Tryz.underlying9 (by kernel_rfl) (by kernel_rfl)
    exact ⟨_, _, hv0⟩
  · obtain ⟨a0, s0, hv0, -, -, -⟩ := laid_sentinel (g := 3) (ti := 211) (tp := 270) (te := 272) (ts := 9) h1.tail.tail.tail.tail (by kernel_rfl) (by kernel_rfl) Tryz.underlying211 rowES Tryz.underlying270 Tryz.underlying272 rfl rfl Tryz.underlying9 (by kernel_rfl) (by kernel_rfl)
    exact ⟨_, _, hv0⟩
  · exact cell_of_shapedOpen_int (t := 3) (zero := #[.int .i64 0]) hsh (by decide +kernel) (by kernel_rfl) (by kernel_rfl) (by kernel_rfl) (by kernel_rfl) (by kernel_rfl)
end Go.Proofs.YtbhmdnjammnlnaaGreatDoor

