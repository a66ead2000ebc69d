/-
  Joined texts, in build order: D6, D7, Cu, LwN, D8. Each part says what it proves; no conditions beyond those that a part names.
-/
import Derived.Test.YtpmeagchkcffoaaZ01
import Derived.Test.YtpmeagchkcffoaaZ03
import Derived.Test.YtpmeagchkcffoaaZ05
import Derived.Test.YtpmeagchkcffoaaZ08
import Derived.Lib.Hide
import Derived.Deep.DeepFit
import Derived.Deep.RegionLaw
import Derived.Deep.LoopGhost
import Derived.Laws.Bits64b
import Derived.WalkSmall
import Derived.Deep.DeepCutAuto
import Derived.Deep.CutBlock
/-
  Contracts: a bank copied, and one step on the copy (cloneBank, StepBank of the program). Conditions as named: the snapshot is in order, and there are at most 250 coins.
-/
namespace Go.Proofs.Ytpmeagchkcffoaa
open Go.RowKit
attribute [local go_sem] und_cell cha_cell World.cell?_alloc_some
def Mm.encBW (b : Bool) : List Value := [.bool b]
theorem Mm.flatA_bw : Mm.Flat Mm.bool Mm.encBW := Mm.flat_bool
theorem Try.info_clBoolW : (Try.prog.info? 4).map (fun i => (i.zero, i.size, i.bytes)) = some (some (.bool false), 1, 1) := by kernel_rfl
set_option maxRecDepth 100000 in
set_option maxHeartbeats 1000000 in
theorem clBoolW_c (l : List Bool) (A : Option Addr) (n c : Nat) (w : World) (B : Nat) (hl : Mm.SlAt Mm.bool w B l A n c) (hn : n ≤ 1048576) :
    Calls Try.prog 68 #[.slice A n c] w (Mm.NewSl Mm.bool 4 w l) := by
  have hlen := Lib.hid hl.1
  have hcap := hl.2.1
  have hq : ∀ (w : World) (a : Option Addr) (n c n' c' : Nat), (binOp .eql 29 (.slice a n c) (.slice none n' c')).run Try.prog w = .ok (.bool a.isNone) w := fun w a n c n' c' => Lib.run_eql_slice_nil w _ _ a n c n' c' Try.underlying29
  cases A with
  | none =>
    have hc : c = 0 := hl.2.2.2.1 rfl
    have hl0 : l = [] := List.length_eq_zero_iff.1 (by rw [hlen.out]; omega)
    subst hl0
    clear hl
    go_enter Try.func68, Try.ntmps68
    go_wp2
    go_ret
    exact (Mm.Acc.nil (Below.refl _ _)).newsl
  | some a =>
    have HC := Lib.hid (Mm.flat_cells' (E := Mm.bool) (enc := Mm.encBW) (fun x cs h => (Mm.flatA_bw).at_ h) hl)
    have HLN := Lib.hid (Mm.flat_len (E := Mm.bool) (enc := Mm.encBW) (fun x cs h => (Mm.flatA_bw).at_ h) hl)
    have HOK : Hid (∀ (w' : World) x, x ∈ l → (Mm.bool).own w' x ((Mm.encBW) x) []) := fun w' x hx => by
      obtain ⟨i, hi, rfl⟩ := List.mem_iff_getElem.1 hx
      obtain ⟨y, b, off, cs, hy, _, _, ha, _⟩ := hl.get (k := i) (by rw [← hlen.out]; exact hi)
      rw [List.getElem?_eq_getElem hi] at hy
      injection hy with hy
      subst hy
      exact (Mm.flatA_bw).own ha w'
    have H1 : Hid (∀ u : Value, u ∈ l.flatMap Mm.encBW → u.oneCell' = true) := fun u hu => by
      obtain ⟨x, hx, hu⟩ := List.mem_flatMap.1 hu
      exact (Mm.bool).one (HOK.out w x hx) u hu
    clear hl
    obtain ⟨i0, hi, hz0, hz1, hz2⟩ := info_parts Try.info_clBoolW
    go_enter Try.func68, Try.ntmps68
    go_wp2_with (at_builtin; refine wpList_append_own_at _ rfl _ _ 29 rfl w.heap.size 4 i0 (.bool false) 1 1 Try.underlying29 hi hz0 hz1 hz2 rfl (by decide) _ _ _ rfl (World.ownsRow_made w #[] 0 (Nat.le_refl _) (Nat.zero_le _) rfl) a n c (l.flatMap Mm.encBW) rfl HLN.out (fun j u hj => Lib.cell?_alloc_some _ (HC.out j u hj)) H1.out (by unfold maxLen; omega) (by omega) (by simp) ?_; intro v' w1 hown hgrow hnil hat)
    have HA := Lib.hid (Mm.clone_post (E := Mm.bool) (e := 4) (Nat.zero_add _) (List.nil_append _) hown hgrow (fun x hx => HOK.out _ x hx) hlen.out)
    clear hown hgrow hat hnil
    go_wp2
    go_ret
    exact HA.out.newsl
set_option maxRecDepth 100000 in
set_option maxHeartbeats 4000000 in
theorem cloneBank_c (b : Bank) (n : Nat) (all : Int) (cs : List Value) (w : World) (B : Nat) (hh : rBankW.at_ w B b cs) (hB : B ≤ w.heap.size) (hJ : Pl.JB n all b) (ha : all ≤ 250) :
    Calls Try.prog 49 #[.agg cs.toArray] w fun e w' => ∃ cs', e = .returned (.agg cs'.toArray) ∧ BankV [] w w' n b cs' [] := by
  obtain ⟨ga, hga⟩ : ∃ g, w.heap.size = g := ⟨_, rfl⟩
  obtain ⟨A0, A1, A2, A3, A4, c0, c1, c2, c3, c4, rfl, hR⟩ := bankRd_new hh hB hJ hga
  have hI := hJ.bi40 ha
  have hn5 : n ≤ 5 := by rw [← hJ.len]; exact hI.n5
  have hn1 : 1 ≤ n := by rw [← hJ.len]; exact hI.n1
  have hn25 := sq_le hn5
  obtain ⟨nn, hnn⟩ : ∃ nn, n * n = nn := ⟨_, rfl⟩
  have HNN := Lib.hid hnn
  rw [hnn] at hR hh hn25 ⊢
  obtain ⟨gz, hgz⟩ : ∃ g, ga + 1 = g := ⟨_, rfl⟩
  obtain ⟨W1, hW1⟩ : ∃ V, (w.alloc (.cells #[.slice A0 n c0, .slice A1 nn c1, .slice A2 n c2, .slice A3 n c3, .slice A4 n c4] 28)).alloc (.cells #[.slice none 0 0, .slice none 0 0, .slice none 0 0, .slice none 0 0, .slice none 0 0] 28) = V := ⟨_, rfl⟩
  have KS1 := Lib.hid ((((Mm.SepF.start w).alloc' hga 28 [.slice A0 n c0, .slice A1 nn c1, .slice A2 n c2, .slice A3 n c3, .slice A4 n c4]).alloc' (g := gz) (by rw [Mm.sz1, hga, hgz]) 28 zBk).atW hW1)
  have r := rBankW_at hh
  have HBW := Lib.hid hB
  have HI := Lib.hid hI
  have HN := Lib.hid hJ.len
  have hrd : Mm.SlAt Mm.int W1 B b.Coins A0 n c0 ∧ Mm.SlAt ints W1 B b.Ways A1 nn c1 ∧ Mm.SlAt Mm.int W1 B b.Kept A2 n c2 ∧ Mm.SlAt bools W1 B b.Heard A3 n c3 ∧ Mm.SlAt ints W1 B b.Found A4 n c4 := by
    obtain ⟨B0, m0, d0, B1, m1, d1, B2, m2, d2, B3, m3, d3, B4, m4, d4, hcs, r0, r1, r2, r3, r4⟩ := r
    simp only [List.cons.injEq, Value.slice.injEq, and_true] at hcs
    obtain ⟨⟨rfl, rfl, rfl⟩, ⟨rfl, rfl, rfl⟩, ⟨rfl, rfl, rfl⟩, ⟨rfl, rfl, rfl⟩, rfl, rfl, rfl⟩ := hcs
    have k : ∀ b, b < B → W1.heap[b]? = w.heap[b]? := fun b hb => KS1.out.bel0.block b (by omega)
    exact ⟨r0.keep k, r1.keep k, r2.keep k, r3.keep k, r4.keep k⟩
  obtain ⟨r0, r1, r2, r3, r4⟩ := hrd
  have S0 := Lib.hid r0
  have S2 := Lib.hid r2
  have R1 := Lib.hid r1
  have R3 := Lib.hid r3
  have R4 := Lib.hid r4
  have G1 : Hid (b.Ways.length = nn) := Lib.hid r1.1
  have G3 : Hid (b.Heard.length = n) := Lib.hid r3.1
  have G4 : Hid (b.Found.length = n) := Lib.hid r4.1
  obtain ⟨jA, hjA, jA0, jA1, jA2⟩ := info_parts Try.infoBoolsB
  obtain ⟨jB, hjB, jB0, jB1, jB2⟩ := info_parts Try.infoIntsB
  have hsz1 := KS1.out.bel0.size
  have HSZ1 := Lib.hid hsz1
  clear hh r0 r1 r2 r3 r4 hI hJ hnn r hR ha
  have b0 := KS1.out.cell (k := 0) 1 rfl rfl
  have b2 := KS1.out.cell (k := 2) 1 rfl rfl
  go_enter Try.func49, Try.ntmps49
  go_upto_region 1 with fail
  clear hW1 hga hgz
  refine Mm.wp_region_give 8 (fun i => match i with | 2 => some (Mm.gSl Mm.int 3 b.Coins) | 5 => some (Mm.gSl Mm.int 3 b.Kept) | 7 => some (Mm.gPtr 28 zBk) | _ => none) (fun _ => []) (fun _ => []) (F := []) (D := fun w' => ∃ x : Und W1, w' = und W1 x) (fun X us h => Mm.sep_und h) (by kernel_rfl) (by kernel_rfl) (by kernel_rfl) (Mm.SepF.startDrew _) ?_
  repeat (refine Mm.give_det (by rfl) (by rfl) (by rfl) (fun K hK => ?_); go_big_quiet_op; refine hK _ ?_; clear hK K)
  refine Mm.give_op0 10 (by rfl) rfl (by rfl) (by rfl) (by rfl) (by rfl) Mm.gSl_in (fun others X hX => ?_) ?_
  · go_wp2_with (go_at_call 59; refine (clInt_c b.Coins A0 n c0 X B (S0.out.keep fun b hb => hX.bel0.block b (by have := HBW.out; omega)) (by omega)).mono ?_; rintro e w5 ⟨A, n, c, fp, rfl, k1, k2, k3, k4⟩)
    exact Mm.gvq_sl hX k4 k1 k2 k3 rfl rfl
  rintro v ds ⟨D0, m0, d0, f0, rfl, rfl, hm0⟩
  simp only [Act.put, List.setIfInBounds_toArray, List.set_cons_succ, List.set_cons_zero]
  repeat (refine Mm.give_det (by rfl) (by rfl) (by rfl) (fun K hK => ?_); go_big_quiet_op; refine hK _ ?_; clear hK K)
  refine Mm.give_op0 13 (by rfl) rfl (by rfl) (by rfl) (by rfl) (by rfl) Mm.gSl_in (fun others X hX => ?_) ?_
  · go_wp2_with (go_at_call 59; refine (clInt_c b.Kept A2 n c2 X B (S2.out.keep fun b hb => hX.bel0.block b (by have := HBW.out; omega)) (by omega)).mono ?_; rintro e w5 ⟨A, n, c, fp, rfl, k1, k2, k3, k4⟩)
    exact Mm.gvq_sl hX k4 k1 k2 k3 rfl rfl
  rintro v ds ⟨D2, m2, d2, f2, rfl, rfl, hm2⟩
  simp only [Act.put, List.setIfInBounds_toArray, List.set_cons_succ, List.set_cons_zero]
  repeat (refine Mm.give_det (by rfl) (by rfl) (by rfl) (fun K hK => ?_); go_big_quiet_op; refine hK _ ?_; clear hK K)
  refine Mm.give_op0 3 (by rfl) rfl (by rfl) (by rfl) (by rfl) (by rfl) Mm.gPtr_in (fun others X hX => ?_) ?_
  · go_wp2
    exact Mm.gvq_ptr hX rfl rfl rfl
  rintro v ds ⟨gp, rfl, rfl⟩
  simp only [Act.put, List.setIfInBounds_toArray, List.set_cons_succ, List.set_cons_zero]
  refine Mm.give_nil ?_
  rintro X hX
  have HX := Lib.hid (KS1.out.join (us := [Mm.tsl Mm.int 3 b.Coins (.slice D0 m0 d0) f0, Mm.tsl Mm.int 3 b.Kept (.slice D2 m2 d2) f2, Mm.tblk gp 28 zBk]) hX)
  have HBX := Lib.hid (show ∀ b, b < B → X.heap[b]? = W1.heap[b]? from fun b hb => hX.bel0.block b (by have := HBW.out; omega))
  replace R1 := Lib.hid (R1.out.keep HBX.out)
  replace R3 := Lib.hid (R3.out.keep HBX.out)
  replace R4 := Lib.hid (R4.out.keep HBX.out)
  have hszX := hX.chg.size
  clear hX b0 b2
  obtain rfl : m0 = n := by have := hm0.out; have := HN.out; omega
  obtain rfl : m0 = m2 := by have := hm2.out; have := HI.out.ke; have := HN.out; omega
  obtain ⟨W3, hW3⟩ : ∃ W, (((((X.setCell ⟨gp, 0, none⟩ (.slice D0 m0 d0)).setCell ⟨gp, 1, none⟩ (.slice none 0 0)).setCell ⟨gp, 2, none⟩ (.slice D2 m0 d2)).setCell ⟨gp, 3, none⟩ (.slice none 0 0)).setCell ⟨gp, 4, none⟩ (.slice none 0 0)) = W := ⟨_, rfl⟩
  have z0 := HX.out.frz (k := 0) 2 rfl
  have z1 := HX.out.frz (k := 1) 2 rfl
  have z2 := HX.out.frz (k := 2) 2 rfl
  have z3 := HX.out.frz (k := 3) 2 rfl
  have z4 := HX.out.frz (k := 4) 2 rfl
  have r0 := HX.out.cell (k := 0) 2 rfl rfl
  have r1 := HX.out.cell (k := 1) 2 rfl rfl
  have r2 := HX.out.cell (k := 2) 2 rfl rfl
  have r3 := HX.out.cell (k := 3) 2 rfl rfl
  have r4 := HX.out.cell (k := 4) 2 rfl rfl
  have HX2 := Lib.hid (((((((HX.out.setBlk (k := 0) 2 rfl (.slice D0 m0 d0)).setBlk (k := 1) 2 rfl (.slice none 0 0)).setBlk (k := 2) 2 rfl (.slice D2 m0 d2)).setBlk (k := 3) 2 rfl (.slice none 0 0)).setBlk (k := 4) 2 rfl (.slice none 0 0)).atW hW3).add (Below.refl _ _) (t := Mm.tsl ints 22 [] (.slice none 0 0) []) Mm.SlOwn.nil List.nodup_nil (fun b hb => by cases hb))
  have b1 := HX2.out.cell (k := 1) 5 rfl rfl
  have hbr : ∀ W, Below w.heap.size w W → (∀ b, b < B → W.heap[b]? = X.heap[b]?) := fun W h b hb => by
    have h1 := h.block b (by omega)
    have h2 := HX.out.bel0.block b (by omega)
    exact h1.trans h2.symm
  have HBR := Lib.hid hbr
  clear hbr
  go_upto_region 2 with fail
  clear z0 z1 z2 z3 z4 r0 r1 r2 r3 r4 hW3 HX S0 S2
  go_wp2
  clear b1
  go_loopg [18] nn (fun g i wx => ∃ (k : Nat) (AW : Option Addr) (cw : Nat) (fw : List Nat), nn - k ≤ g ∧ k ≤ nn ∧ i = .int .i64 k ∧ Hid (Mm.SepF [] w wx [Mm.tsl ints 22 (b.Ways.take k) (.slice AW k cw) fw, Mm.tsl Mm.int 3 b.Coins (.slice D0 m0 d0) f0, Mm.tsl Mm.int 3 b.Kept (.slice D2 m0 d2) f2, Mm.tblk gp 28 [.slice D0 m0 d0, .slice AW k cw, .slice D2 m0 d2, .slice none 0 0, .slice none 0 0], Mm.tblk gz 28 zBk, Mm.tblk ga 28 [.slice A0 m0 c0, .slice A1 nn c1, .slice A2 m0 c2, .slice A3 m0 c3, .slice A4 m0 c4]]))
  case atStart => exact ⟨0, none, 0, [], Nat.le_refl _, Nat.zero_le _, rfl, HX2⟩
  case round =>
    clear HX2
    obtain ⟨k, AW, cw, fw, hgk, hk', rfl, HS⟩ := hrel
    obtain ⟨W, rfl⟩ : ∃ W : World, W = wr := ⟨_, rfl⟩
    have hbel := HS.out.bel0
    have hsw := hbel.size
    by_cases hlt : k < nn
    · as_aux_lemma =>
      have hlt' : (k : Int) < (nn : Nat) := by omega
      obtain ⟨x, b0, off, Ar, nr, cr, hx, rfl, hb, hr, e0⟩ := ints_get (R1.out.keep (w' := W) (HBR.out W hbel)) hlt
      have hnr : nr ≤ 900 := by have := HI.out.wl x (List.mem_of_getElem? hx); have := hr.1; omega
      have HRD := Lib.hid hr
      have HNX := Lib.hid (Mm.take_succ_some hx)
      have HTL : Hid ((b.Ways.take k).length = k) := Lib.hid (List.length_take_of_le (by rw [G1.out]; omega))
      have d1 := HS.out.cell (k := 1) 3 rfl rfl
      have nG : gp ∉ fw := fun hh => HS.out.apart (i := 3) (j := 0) rfl rfl (by decide) gp (by simp [Mm.tblk]) hh
      have hBW : B ≤ W.heap.size := by have := HBW.out; omega
      have nB : ∀ b, b < B → b ∉ fw := fun b hb hh => by
        have := (HS.out.slnew 0 rfl b hh).1
        rcases this with h | h
        · cases h
        · have := HBW.out; omega
      clear hx hr
      go_upto_region 5 with fail
      refine Mm.wp_region_give 7 (fun i => match i with | 3 => some (Mm.gSl Mm.int 3 x) | 4 => some (Mm.gRow Mm.int 22 3 x) | 5 => some (Mm.gSl ints 22 (b.Ways.take k ++ [x])) | _ => none) (fun i => match i with | 4 => [3] | 5 => [4, 8] | _ => []) (fun i => match i with | 8 => [Mm.tsl ints 22 (b.Ways.take k) (.slice AW k cw) fw] | _ => []) (F := fw) (D := fun w' => ∃ z : Cha fw W, w' = cha fw W z) (fun X us h => Mm.sep_cha h) (by kernel_rfl) (by kernel_rfl) (by kernel_rfl) (Mm.sep_eq ((Mm.SepF.one (Mm.tsl ints 22 (b.Ways.take k) (.slice AW k cw) fw) W (HS.out.sl 0 rfl) (HS.out.ndat (i := 0) rfl)).step (Below.refl _ _).drew) rfl) ?_
      repeat (refine Mm.give_det (by rfl) (by rfl) (by rfl) (fun K hK => ?_); go_big_quiet_op; refine hK _ ?_; clear hK K)
      refine Mm.give_op0 25 (by rfl) rfl (by rfl) (by rfl) (by rfl) (by rfl) Mm.gSl_in (fun others X hX => ?_) ?_
      · go_wp2_with (go_at_call 59; refine (clInt_c x Ar nr cr X B (HRD.out.keep fun b hb => hX.chg.block b (by omega) (nB b hb)) (by omega)).mono ?_; rintro e w5 ⟨A, n, c, fp, rfl, k1, k2, k3, k4⟩)
        exact Mm.gvq_sl hX k4 k1 k2 k3 rfl rfl
      rintro v ds ⟨Ab, nb', cb, fb, rfl, rfl, hnb⟩
      simp only [Act.put, List.setIfInBounds_toArray, List.set_cons_succ, List.set_cons_zero]
      repeat (refine Mm.give_det (by rfl) (by rfl) (by rfl) (fun K hK => ?_); go_big_quiet_op; refine hK _ ?_; clear hK K)
      refine Mm.give_op1 26 3 (by rfl) rfl (by rfl) (by rfl) (by rfl) rfl (by rfl) _ rfl Mm.gRow_in (fun others X hX => ?_) ?_
      · go_wp2
        exact Mm.gvq_row hX rfl rfl rfl
      rintro v ds ⟨ge, Ac', nc', cc', fc', rfl, rfl⟩
      simp only [Act.put, List.setIfInBounds_toArray, List.set_cons_succ, List.set_cons_zero]
      repeat (refine Mm.give_det (by rfl) (by rfl) (by rfl) (fun K hK => ?_); go_big_quiet_op; refine hK _ ?_; clear hK K)
      refine Mm.give_op2 27 4 8 (by rfl) rfl (by rfl) (by rfl) (by rfl) rfl (by rfl) (by rfl) (by rfl) _ _ rfl rfl Mm.gSl_in (fun others X6 hX6 => Mm.app_gvr rfl (.tmp 23) (.tmp 26) 25 rfl 27 rfl (by rfl) jB _ 24 Try.underlying25 hjB jB0 jB1 jB2 rfl rfl rfl (by rw [HTL.out]; unfold maxLen; omega) (by rw [HTL.out]; omega) hX6) ?_
      rintro v ds ⟨Ad, nd, cd, fd, rfl, rfl, hnd⟩
      simp only [Act.put, List.setIfInBounds_toArray, List.set_cons_succ, List.set_cons_zero]
      repeat (refine Mm.give_det (by rfl) (by rfl) (by rfl) (fun K hK => ?_); go_big_quiet_op; refine hK _ ?_; clear hK K)
      refine Mm.give_nil ?_
      rintro X7 hX7
      have hx7 : Mm.SepF fw W X7 [Mm.tsl ints 22 (b.Ways.take k ++ [x]) (.slice Ad nd cd) fd] := Mm.sep_eq hX7 rfl
      obtain rfl : nd = k + 1 := by have h1 := hnd.out; rw [List.length_append, HTL.out] at h1; simpa using h1
      clear hX7 hnb hnd
      have HS7 := Lib.hid (HS.out.callSome (us := [Mm.tsl ints 22 (b.Ways.take k) (.slice AW k cw) fw]) (rest := _) (by simpa [Mm.tsl] using hx7))
      clear hx7 d1 nG e0
      have e1 := HS7.out.cell (k := 1) 3 rfl rfl
      have y1 := HS7.out.frz (k := 1) 3 rfl
      have HS8 := Lib.hid (HS7.out.setBlk (k := 1) 3 rfl (.slice Ad (k + 1) cd))
      go_wp2
      go_roundg (nn - (k + 1))
      case measure => omega
      case rel => exact ⟨k + 1, Ad, cd, fd, Nat.le_refl _, by omega, by go_num, by rw [HNX.out]; exact HS8⟩
    · as_aux_lemma =>
      obtain rfl : k = nn := by omega
      have hlt' : ¬ ((k : Nat) : Int) < (k : Nat) := by omega
      have HE : Hid (b.Ways.take k = b.Ways) := Lib.hid (List.take_of_length_le (by rw [G1.out]; exact Nat.le_refl _))
      rw [HE.out] at HS
      have b3 := HS.out.cell (k := 3) 5 rfl rfl
      have HX3 := Lib.hid ((HS.out.add (Below.refl _ _) (t := Mm.tsl ints 22 [] (.slice none 0 0) []) Mm.SlOwn.nil List.nodup_nil (fun b hb => by cases hb)).add (Below.refl _ _) (t := Mm.tsl bools 29 [] (.slice none 0 0) []) Mm.SlOwn.nil List.nodup_nil (fun b hb => by cases hb))
      go_wp2
      clear b3 HS hbel hsw hlt hlt'
      go_loopg [33] m0 (fun g i wx => ∃ (j : Nat) (AH : Option Addr) (ch : Nat) (fh : List Nat) (AF : Option Addr) (cf : Nat) (ff : List Nat), m0 - j ≤ g ∧ j ≤ m0 ∧ i = .int .i64 j ∧ Hid (Mm.SepF [] w wx [Mm.tsl bools 29 (b.Heard.take j) (.slice AH j ch) fh, Mm.tsl ints 22 (b.Found.take j) (.slice AF j cf) ff, Mm.tsl ints 22 b.Ways (.slice AW k cw) fw, Mm.tsl Mm.int 3 b.Coins (.slice D0 m0 d0) f0, Mm.tsl Mm.int 3 b.Kept (.slice D2 m0 d2) f2, Mm.tblk gp 28 [.slice D0 m0 d0, .slice AW k cw, .slice D2 m0 d2, .slice AH j ch, .slice AF j cf], Mm.tblk gz 28 zBk, Mm.tblk ga 28 [.slice A0 m0 c0, .slice A1 k c1, .slice A2 m0 c2, .slice A3 m0 c3, .slice A4 m0 c4]]))
      case atStart => exact ⟨0, none, 0, [], none, 0, [], Nat.le_refl _, Nat.zero_le _, rfl, HX3⟩
      case round =>
        clear HX3
        obtain ⟨j, AH, ch, fh, AF, cf, ff, hgj, hj', rfl, HS⟩ := hrel
        obtain ⟨W, rfl⟩ : ∃ W : World, W = wr := ⟨_, rfl⟩
        have hbel := HS.out.bel0
        have hsw := hbel.size
        by_cases hlt : j < m0
        · as_aux_lemma =>
          have hlt' : (j : Int) < (m0 : Nat) := by omega
          have fj1 : (0 : Int) ≤ (j : Nat) := by omega
          have fj2 : ((j : Nat) : Int).toNat = j := by omega
          obtain ⟨x, b0, off, Ar, nr, cr, hx, rfl, hb, hr, e0⟩ := bools_get (R3.out.keep (w' := W) (HBR.out W hbel)) hlt
          obtain ⟨y, b1, off1, As, ns, cs, hy, rfl, hb1, hr1, e1⟩ := ints_get (R4.out.keep (w' := W) (HBR.out W hbel)) hlt
          have hnr : nr ≤ 900 := by have := HI.out.hr x (List.mem_of_getElem? hx); have := hr.1; have := HN.out; omega
          have hns : ns ≤ 900 := by have := HI.out.fr y (List.mem_of_getElem? hy); have := hr1.1; have := HN.out; omega
          have HRD := Lib.hid hr
          have HRD1 := Lib.hid hr1
          have HNX := Lib.hid (Mm.take_succ_some hx)
          have HNY := Lib.hid (Mm.take_succ_some hy)
          have HTL : Hid ((b.Heard.take j).length = j) := Lib.hid (List.length_take_of_le (by rw [G3.out]; omega))
          have HTL1 : Hid ((b.Found.take j).length = j) := Lib.hid (List.length_take_of_le (by rw [G4.out]; omega))
          obtain ⟨FF, hFF⟩ : ∃ FF, ff ++ (fh ++ []) = FF := ⟨_, rfl⟩
          have h2 := HS.out.sel [1, 0] (by decide) rfl
          have hst : Mm.SepF FF W W.drew [Mm.tsl ints 22 (b.Found.take j) (.slice AF j cf) ff, Mm.tsl bools 29 (b.Heard.take j) (.slice AH j ch) fh] := ⟨Mm.Chg.of_below (Below.refl _ _).drew, h2.nd, fun b hb => .inl (hFF ▸ hb), fun u hu => u.keep (h2.hold u hu) (fun _ _ => rfl)⟩
          have d3 := HS.out.cell (k := 3) 5 rfl rfl
          have d4 := HS.out.cell (k := 4) 5 rfl rfl
          have b4 := HS.out.cell (k := 4) 7 rfl rfl
          have nFF : ∀ q, q ∉ fh → q ∉ ff → q ∉ FF := fun q h1 h2 hh => by
            rw [← hFF, List.append_nil] at hh
            rcases List.mem_append.1 hh with hh | hh
            · exact h2 hh
            · exact h1 hh
          have nG : gp ∉ FF := nFF gp (fun hh => HS.out.apart (i := 5) (j := 0) rfl rfl (by decide) gp (by simp [Mm.tblk]) hh) (fun hh => HS.out.apart (i := 5) (j := 1) rfl rfl (by decide) gp (by simp [Mm.tblk]) hh)
          have nA : ga ∉ FF := nFF ga (fun hh => HS.out.apart (i := 7) (j := 0) rfl rfl (by decide) ga (by simp [Mm.tblk]) hh) (fun hh => HS.out.apart (i := 7) (j := 1) rfl rfl (by decide) ga (by simp [Mm.tblk]) hh)
          have hBW : B ≤ W.heap.size := by have := HBW.out; omega
          have nB : ∀ b, b < B → b ∉ FF := fun b hb => nFF b (fun hh => by
            have := (HS.out.slnew 0 rfl b hh).1
            rcases this with h | h
            · cases h
            · have := HBW.out; omega) (fun hh => by
            have := (HS.out.slnew 1 rfl b hh).1
            rcases this with h | h
            · cases h
            · have := HBW.out; omega)
          have nb1 : b1 ∉ FF := nB b1 hb1
          have HFF := Lib.hid hFF
          clear hx hr hy hr1 h2 hFF nFF
          go_upto_region 10 with fail
          clear e0
          refine Mm.wp_region_give 17 (fun i => match i with | 3 => some (Mm.gSl Mm.bool 4 x) | 4 => some (Mm.gRow Mm.bool 29 4 x) | 5 => some (Mm.gSl bools 29 (b.Heard.take j ++ [x])) | 13 => some (Mm.gSl Mm.int 3 y) | 14 => some (Mm.gRow Mm.int 22 3 y) | 15 => some (Mm.gSl ints 22 (b.Found.take j ++ [y])) | _ => none) (fun i => match i with | 4 => [3] | 5 => [4, 20] | 14 => [13] | 15 => [14, 7] | _ => []) (fun i => match i with | 20 => [Mm.tsl bools 29 (b.Heard.take j) (.slice AH j ch) fh] | 7 => [Mm.tsl ints 22 (b.Found.take j) (.slice AF j cf) ff] | _ => []) (F := FF) (D := fun w' => ∃ z : Cha FF W, w' = cha FF W z) (fun X us h => Mm.sep_cha h) (by kernel_rfl) (by kernel_rfl) (by kernel_rfl) (Mm.sep_eq hst rfl) ?_
          repeat (refine Mm.give_det (by rfl) (by rfl) (by rfl) (fun K hK => ?_); go_big_quiet_op; refine hK _ ?_; clear hK K)
          refine Mm.give_op0 41 (by rfl) rfl (by rfl) (by rfl) (by rfl) (by rfl) Mm.gSl_in (fun others X hX => ?_) ?_
          · go_wp2_with (go_at_call 68; refine (clBoolW_c x Ar nr cr X B (HRD.out.keep fun b hb => hX.chg.block b (by omega) (nB b hb)) (by omega)).mono ?_; rintro e w5 ⟨A, n, c, fp, rfl, k1, k2, k3, k4⟩)
            exact Mm.gvq_sl hX k4 k1 k2 k3 rfl rfl
          rintro v ds ⟨Aa, na, ca, fa, rfl, rfl, hna⟩
          simp only [Act.put, List.setIfInBounds_toArray, List.set_cons_succ, List.set_cons_zero]
          repeat (refine Mm.give_det (by rfl) (by rfl) (by rfl) (fun K hK => ?_); go_big_quiet_op; refine hK _ ?_; clear hK K)
          refine Mm.give_op1 42 3 (by rfl) rfl (by rfl) (by rfl) (by rfl) rfl (by rfl) _ rfl Mm.gRow_in (fun others X hX => ?_) ?_
          · go_wp2
            exact Mm.gvq_row hX rfl rfl rfl
          rintro v ds ⟨ge, Ab, nb, cb, fb, rfl, rfl⟩
          simp only [Act.put, List.setIfInBounds_toArray, List.set_cons_succ, List.set_cons_zero]
          repeat (refine Mm.give_det (by rfl) (by rfl) (by rfl) (fun K hK => ?_); go_big_quiet_op; refine hK _ ?_; clear hK K)
          refine Mm.give_op2 43 4 20 (by rfl) rfl (by rfl) (by rfl) (by rfl) rfl (by rfl) (by rfl) (by rfl) _ _ rfl rfl Mm.gSl_in (fun others X6 hX6 => Mm.app_gvr rfl (.tmp 39) (.tmp 42) 26 rfl 43 rfl (by rfl) jA _ 24 Try.underlying26 hjA jA0 jA1 jA2 rfl rfl rfl (by rw [HTL.out]; unfold maxLen; omega) (by rw [HTL.out]; omega) hX6) ?_
          rintro v ds ⟨Ac, nc, cc, fc, rfl, rfl, hnc⟩
          simp only [Act.put, List.setIfInBounds_toArray, List.set_cons_succ, List.set_cons_zero]
          repeat (refine Mm.give_det (by rfl) (by rfl) (by rfl) (fun K hK => ?_); go_big_quiet_op; refine hK _ ?_; clear hK K)
          refine Mm.give_op0 51 (by rfl) rfl (by rfl) (by rfl) (by rfl) (by rfl) Mm.gSl_in (fun others X hX => ?_) ?_
          · go_wp2_with (go_at_call 59; refine (clInt_c y As ns cs X B (HRD1.out.keep fun b hb => hX.chg.block b (by omega) (nB b hb)) (by omega)).mono ?_; rintro e w5 ⟨A, n, c, fp, rfl, k1, k2, k3, k4⟩)
            exact Mm.gvq_sl hX k4 k1 k2 k3 rfl rfl
          rintro v ds ⟨Ad, nd, cd, fd, rfl, rfl, hnd⟩
          simp only [Act.put, List.setIfInBounds_toArray, List.set_cons_succ, List.set_cons_zero]
          repeat (refine Mm.give_det (by rfl) (by rfl) (by rfl) (fun K hK => ?_); go_big_quiet_op; refine hK _ ?_; clear hK K)
          refine Mm.give_op1 52 13 (by rfl) rfl (by rfl) (by rfl) (by rfl) rfl (by rfl) _ rfl Mm.gRow_in (fun others X hX => ?_) ?_
          · go_wp2
            exact Mm.gvq_row hX rfl rfl rfl
          rintro v ds ⟨gf, Ae, ne, ce, fe, rfl, rfl⟩
          simp only [Act.put, List.setIfInBounds_toArray, List.set_cons_succ, List.set_cons_zero]
          repeat (refine Mm.give_det (by rfl) (by rfl) (by rfl) (fun K hK => ?_); go_big_quiet_op; refine hK _ ?_; clear hK K)
          refine Mm.give_op2 53 14 7 (by rfl) rfl (by rfl) (by rfl) (by rfl) rfl (by rfl) (by rfl) (by rfl) _ _ rfl rfl Mm.gSl_in (fun others X6 hX6 => Mm.app_gvr rfl (.tmp 45) (.tmp 52) 25 rfl 53 rfl (by rfl) jB _ 24 Try.underlying25 hjB jB0 jB1 jB2 rfl rfl rfl (by rw [HTL1.out]; unfold maxLen; omega) (by rw [HTL1.out]; omega) hX6) ?_
          rintro v ds ⟨Af, nf, cf', ff', rfl, rfl, hnf⟩
          simp only [Act.put, List.setIfInBounds_toArray, List.set_cons_succ, List.set_cons_zero]
          repeat (refine Mm.give_det (by rfl) (by rfl) (by rfl) (fun K hK => ?_); go_big_quiet_op; refine hK _ ?_; clear hK K)
          refine Mm.give_nil ?_
          rintro X7 hX7
          have hx7 : Mm.SepF FF W X7 [Mm.tsl bools 29 (b.Heard.take j ++ [x]) (.slice Ac nc cc) fc, Mm.tsl ints 22 (b.Found.take j ++ [y]) (.slice Af nf cf') ff'] := Mm.sep_eq hX7 rfl
          have HS7 := Lib.hid ((HS.out.sel [1, 0, 2, 3, 4, 5, 6, 7] (by decide) rfl).callSome (us := [Mm.tsl ints 22 (b.Found.take j) (.slice AF j cf) ff, Mm.tsl bools 29 (b.Heard.take j) (.slice AH j ch) fh]) (rest := _) (HFF.out ▸ hx7))
          obtain rfl : nc = j + 1 := by have h1 := hnc.out; rw [List.length_append, HTL.out] at h1; simpa using h1
          obtain rfl : nf = j + 1 := by have h1 := hnf.out; rw [List.length_append, HTL1.out] at h1; simpa using h1
          clear hX7 hx7 d3 d4 b4 nG nA nB nb1 e1 hna hnc hnd hnf
          have e3 := HS7.out.cell (k := 3) 5 rfl rfl
          have e4 := HS7.out.cell (k := 4) 5 rfl rfl
          have y3 := HS7.out.frz (k := 3) 5 rfl
          have y4 := HS7.out.frz (k := 4) 5 rfl
          have HS8 := Lib.hid ((HS7.out.setBlk (k := 3) 5 rfl (.slice Ac (j + 1) cc)).setBlk (k := 4) 5 rfl (.slice Af (j + 1) cf'))
          go_wp2
          go_roundg (m0 - (j + 1))
          case measure => omega
          case rel => exact ⟨j + 1, Ac, cc, fc, Af, cf', ff', Nat.le_refl _, by omega, by go_num, by rw [HNX.out, HNY.out]; exact HS8⟩
        · as_aux_lemma =>
          obtain rfl : j = m0 := by omega
          have hlt' : ¬ ((j : Nat) : Int) < (j : Nat) := by omega
          have HE3 : Hid (b.Heard.take j = b.Heard) := Lib.hid (List.take_of_length_le (by rw [G3.out]; exact Nat.le_refl _))
          have HE4 : Hid (b.Found.take j = b.Found) := Lib.hid (List.take_of_length_le (by rw [G4.out]; exact Nat.le_refl _))
          rw [HE3.out, HE4.out] at HS
          obtain ⟨h3, rfl, -, -⟩ := Mm.sl_addr (HS.out.sl 0 rfl) (by rw [G3.out]; omega)
          obtain ⟨h4, rfl, -, -⟩ := Mm.sl_addr (HS.out.sl 1 rfl) (by rw [G4.out]; omega)
          obtain ⟨h1, rfl, -, -⟩ := Mm.sl_addr (HS.out.sl 2 rfl) (by rw [G1.out]; have := HNN.out; have := Nat.mul_pos (show 0 < j by omega) (show 0 < j by omega); omega)
          obtain ⟨h0, rfl, -, -⟩ := Mm.sl_addr (HS.out.sl 3 rfl) (by rw [HN.out]; omega)
          obtain ⟨h2, rfl, -, -⟩ := Mm.sl_addr (HS.out.sl 4 rfl) (by rw [HI.out.ke, HN.out]; omega)
          have b0 := HS.out.cell (k := 0) 5 rfl rfl
          have b1 := HS.out.cell (k := 1) 5 rfl rfl
          have b2 := HS.out.cell (k := 2) 5 rfl rfl
          have b3 := HS.out.cell (k := 3) 5 rfl rfl
          have b4 := HS.out.cell (k := 4) 5 rfl rfl
          have z0 := HS.out.frz (k := 0) 6 rfl
          have z1 := HS.out.frz (k := 1) 6 rfl
          have z2 := HS.out.frz (k := 2) 6 rfl
          have z3 := HS.out.frz (k := 3) 6 rfl
          have z4 := HS.out.frz (k := 4) 6 rfl
          have r0 := HS.out.cell (k := 0) 6 rfl rfl
          have r1 := HS.out.cell (k := 1) 6 rfl rfl
          have r2 := HS.out.cell (k := 2) 6 rfl rfl
          have r3 := HS.out.cell (k := 3) 6 rfl rfl
          have r4 := HS.out.cell (k := 4) 6 rfl rfl
          obtain ⟨WF, hWF⟩ : ∃ WQ : World, (((((W.setCell ⟨gz, 0, none⟩ (.slice (some ⟨h0, 0, none⟩) j d0)).setCell ⟨gz, 1, none⟩ (.slice (some ⟨h1, 0, none⟩) k cw)).setCell ⟨gz, 2, none⟩ (.slice (some ⟨h2, 0, none⟩) j d2)).setCell ⟨gz, 3, none⟩ (.slice (some ⟨h3, 0, none⟩) j ch)).setCell ⟨gz, 4, none⟩ (.slice (some ⟨h4, 0, none⟩) j cf)) = WQ := ⟨_, rfl⟩
          have HSF := Lib.hid ((((((HS.out.setBlk (k := 0) 6 rfl (.slice (some ⟨h0, 0, none⟩) j d0)).setBlk (k := 1) 6 rfl (.slice (some ⟨h1, 0, none⟩) k cw)).setBlk (k := 2) 6 rfl (.slice (some ⟨h2, 0, none⟩) j d2)).setBlk (k := 3) 6 rfl (.slice (some ⟨h3, 0, none⟩) j ch)).setBlk (k := 4) 6 rfl (.slice (some ⟨h4, 0, none⟩) j cf)).atW hWF)
          have u0 := HSF.out.cell (k := 0) 6 rfl rfl
          have u1 := HSF.out.cell (k := 1) 6 rfl rfl
          have u2 := HSF.out.cell (k := 2) 6 rfl rfl
          have u3 := HSF.out.cell (k := 3) 6 rfl rfl
          have u4 := HSF.out.cell (k := 4) 6 rfl rfl
          go_wp2
          exact bodyPost_ret (v := .agg #[.slice (some ⟨h0, 0, none⟩) j d0, .slice (some ⟨h1, 0, none⟩) k cw, .slice (some ⟨h2, 0, none⟩) j d2, .slice (some ⟨h3, 0, none⟩) j ch, .slice (some ⟨h4, 0, none⟩) j cf]) (by simp [results, Try.results49, go_sem, u0, u1, u2, u3, u4]) rfl (by
            refine ⟨[.slice (some ⟨h0, 0, none⟩) j d0, .slice (some ⟨h1, 0, none⟩) k cw, .slice (some ⟨h2, 0, none⟩) j d2, .slice (some ⟨h3, 0, none⟩) j ch, .slice (some ⟨h4, 0, none⟩) j cf], rfl, h0, h1, h2, h3, h4, d0, cw, d2, ch, cf, f0, fw, f2, fh, ff, by rw [HNN.out], ?_⟩
            rw [HNN.out]
            exact (SepF.toWay (HSF.out.sel [2, 3, 4, 0, 1] (by decide) rfl)).sel [1, 0, 2, 3, 4] (by decide) rfl)
end Go.Proofs.Ytpmeagchkcffoaa

/-
  Contracts: one step on a copy of a bank (StepBank of the program). Conditions as named: the snapshot is in order, and there are at most 250 coins.
-/
namespace Go.Proofs.Ytpmeagchkcffoaa
open Go.RowKit
attribute [local go_sem] und_cell cha_cell World.cell?_alloc_some
/-- what a step hands back: whether it was possible, and, if so, the bank behind it, to be read -/
def StepBankAns (b : Bank) (s : SnapStep) (w : World) (e : Ending) (w' : World) : Prop :=
  ∃ A0 n0 c0 A1 n1 c1 A2 n2 c2 A3 n3 c3 A4 n4 c4, e = .returned (.tuple #[.agg #[.slice A0 n0 c0, .slice A1 n1 c1, .slice A2 n2 c2, .slice A3 n3 c3, .slice A4 n4 c4], .bool (Pl.bstep b s).2]) ∧ Below w.heap.size w w' ∧
    ((Pl.bstep b s).2 = true → ∃ fp, Mm.SepF [] w w' [Mm.tow rBankW (Pl.bstep b s).1 [.slice A0 n0 c0, .slice A1 n1 c1, .slice A2 n2 c2, .slice A3 n3 c3, .slice A4 n4 c4] fp])
set_option maxRecDepth 100000 in
set_option maxHeartbeats 4000000 in
theorem stepBank_c (b : Bank) (s : SnapStep) (n : Nat) (all : Int) (cs : List Value) (w : World) (B : Nat) (hh : rBankW.at_ w B b cs) (hB : B ≤ w.heap.size) (hJ : Pl.JB n all b) (ha : all ≤ 250) (hs1 : Mm.I64 s.Kind ∧ Mm.I64 s.From ∧ Mm.I64 s.To ∧ Mm.I64 s.Many) :
    Calls Try.prog 25 #[.agg cs.toArray, .agg #[.int .i64 s.Kind, .int .i64 s.From, .int .i64 s.To, .int .i64 s.Many]] w (StepBankAns b s w) := by
  obtain ⟨ga, hga⟩ : ∃ g, w.heap.size = g := ⟨_, rfl⟩
  obtain ⟨gs, hgs⟩ : ∃ g, ga + 1 = g := ⟨_, rfl⟩
  obtain ⟨gz, hgz⟩ : ∃ g, gs + 1 = g := ⟨_, rfl⟩
  obtain ⟨A0, A1, A2, A3, A4, c0, c1, c2, c3, c4, rfl, -⟩ := bankRd_new hh hB hJ hga
  obtain ⟨W0, hW0⟩ : ∃ V, ((w.alloc (.cells #[.slice A0 n c0, .slice A1 (n * n) c1, .slice A2 n c2, .slice A3 n c3, .slice A4 n c4] 28)).alloc (.cells #[.int .i64 s.Kind, .int .i64 s.From, .int .i64 s.To, .int .i64 s.Many] 53)).alloc (.cells #[.slice none 0 0, .slice none 0 0, .slice none 0 0, .slice none 0 0, .slice none 0 0] 28) = V := ⟨_, rfl⟩
  have KS := Lib.hid (((((Mm.SepF.start w).alloc' hga 28 [.slice A0 n c0, .slice A1 (n * n) c1, .slice A2 n c2, .slice A3 n c3, .slice A4 n c4]).alloc' (g := gs) (by rw [Mm.sz1, hga, hgs]) 53 [.int .i64 s.Kind, .int .i64 s.From, .int .i64 s.To, .int .i64 s.Many]).alloc' (g := gz) (by rw [Mm.sz2, hga]; omega) 28 zBk).atW hW0)
  have hsz := KS.out.bel0.size
  have C := isBank_yes b n all _ W0 B (rBankW.keep hh fun b hb => KS.out.bel0.block b (by omega)) (by omega) hJ ha
  have CC := Lib.hid (fun W (hb : Below W0.heap.size W0 W) => cloneBank_c b n all _ W B (rBankW.keep hh fun b hb' => (hb.block b (by omega)).trans (KS.out.bel0.block b (by omega))) (by have := hb.size; omega) hJ ha)
  have HI := Lib.hid (hJ.bi40 ha)
  have HN := Lib.hid hJ.len
  have HJ1 := Lib.hid hs1
  obtain ⟨r, hr⟩ : ∃ r, Pl.bstep b s = r := ⟨_, rfl⟩
  have HR := Lib.hid hr
  have HA : Hid (∀ e w', (∃ A0 n0 c0 A1 n1 c1 A2 n2 c2 A3 n3 c3 A4 n4 c4, e = .returned (.tuple #[.agg #[.slice A0 n0 c0, .slice A1 n1 c1, .slice A2 n2 c2, .slice A3 n3 c3, .slice A4 n4 c4], .bool r.2]) ∧ Below w.heap.size w w' ∧
    (r.2 = true → ∃ fp, Mm.SepF [] w w' [Mm.tow rBankW r.1 [.slice A0 n0 c0, .slice A1 n1 c1, .slice A2 n2 c2, .slice A3 n3 c3, .slice A4 n4 c4] fp])) → StepBankAns b s w e w') := Lib.hid (fun e w' h => by unfold StepBankAns; rw [hr]; exact h)
  clear hh hB hJ ha hs1 hr
  have b0 := KS.out.cell (k := 0) 2 rfl rfl
  have b1 := KS.out.cell (k := 1) 2 rfl rfl
  have b2 := KS.out.cell (k := 2) 2 rfl rfl
  have b3 := KS.out.cell (k := 3) 2 rfl rfl
  have b4 := KS.out.cell (k := 4) 2 rfl rfl
  go_enter Try.func25, Try.ntmps25
  go_upto_region 1 with fail
  clear hW0 hga hgs hgz
  go_upto_region 3 with (go_at_call 47; (with_reducible refine C.mono ?_); clear C; rintro e W1 ⟨rfl, hb1⟩; (have CL := CC.out W1 hb1); (have KS1 := Lib.hid (KS.out.step hb1)); clear hb1 CC)
  clear b0 b1 b2 b3 b4
  have b0 := KS1.out.cell (k := 0) 2 rfl rfl
  have b1 := KS1.out.cell (k := 1) 2 rfl rfl
  have b2 := KS1.out.cell (k := 2) 2 rfl rfl
  have b3 := KS1.out.cell (k := 3) 2 rfl rfl
  have b4 := KS1.out.cell (k := 4) 2 rfl rfl
  go_upto_region 4 with (go_at_call 49; (with_reducible refine CL.mono ?_); clear CL; rintro e W2 ⟨cs2, rfl, g0, g1, g2, g3, g4, d0, d1, d2, d3, d4, f0, f1, f2, f3, f4, rfl, hs2⟩; (have KS2 := Lib.hid (KS1.out.join hs2)); clear hs2)
  clear b0 b1 b2 b3 b4 KS1 KS
  obtain ⟨g6, hg6⟩ : ∃ g, W2.heap.size = g := ⟨_, rfl⟩
  obtain ⟨W3, hW3⟩ : ∃ V, W2.alloc (.cells #[.slice (some ⟨g0, 0, none⟩) n d0, .slice (some ⟨g1, 0, none⟩) (n * n) d1, .slice (some ⟨g2, 0, none⟩) n d2, .slice (some ⟨g3, 0, none⟩) n d3, .slice (some ⟨g4, 0, none⟩) n d4] 28) = V := ⟨_, rfl⟩
  have KS3 := Lib.hid ((KS2.out.alloc' hg6 28 [.slice (some ⟨g0, 0, none⟩) n d0, .slice (some ⟨g1, 0, none⟩) (n * n) d1, .slice (some ⟨g2, 0, none⟩) n d2, .slice (some ⟨g3, 0, none⟩) n d3, .slice (some ⟨g4, 0, none⟩) n d4]).atW hW3)
  rw [hW3, hg6]
  clear hW3 hg6 KS2
  have CS := step_c b s 40 n g6 [] w W3 _ ⟨g0, g1, g2, g3, g4, d0, d1, d2, d3, d4, f0, f1, f2, f3, f4, KS3.out⟩ HI.out HN.out (by omega) HJ1.out
  rw [HR.out] at CS
  have s0 := KS3.out.cell (k := 0) 7 rfl rfl
  have s1 := KS3.out.cell (k := 1) 7 rfl rfl
  have s2 := KS3.out.cell (k := 2) 7 rfl rfl
  have s3 := KS3.out.cell (k := 3) 7 rfl rfl
  obtain ⟨x, ok⟩ := r
  cases ok with
  | false =>
    as_aux_lemma =>
    go_upto_region 5 with (go_at_call 34; (with_reducible refine CS.mono ?_); clear CS; rintro e W4 ⟨rfl, h0, h1, h2, h3, h4, e0, e1, e2, e3, e4, k0, k1, k2, k3, k4, hs4⟩; (have KS4 := Lib.hid hs4); clear hs4)
    clear s0 s1 s2 s3
    have z0 := KS4.out.frz (k := 0) 6 rfl
    have z1 := KS4.out.frz (k := 1) 6 rfl
    have z2 := KS4.out.frz (k := 2) 6 rfl
    have z3 := KS4.out.frz (k := 3) 6 rfl
    have z4 := KS4.out.frz (k := 4) 6 rfl
    have r0 := KS4.out.cell (k := 0) 6 rfl rfl
    have r1 := KS4.out.cell (k := 1) 6 rfl rfl
    have r2 := KS4.out.cell (k := 2) 6 rfl rfl
    have r3 := KS4.out.cell (k := 3) 6 rfl rfl
    have r4 := KS4.out.cell (k := 4) 6 rfl rfl
    obtain ⟨WF, hWF⟩ : ∃ WQ : World, (((((W4.setCell ⟨gz, 0, none⟩ (.slice none 0 0)).setCell ⟨gz, 1, none⟩ (.slice none 0 0)).setCell ⟨gz, 2, none⟩ (.slice none 0 0)).setCell ⟨gz, 3, none⟩ (.slice none 0 0)).setCell ⟨gz, 4, none⟩ (.slice none 0 0)) = WQ := ⟨_, rfl⟩
    have HSF := Lib.hid ((((((KS4.out.setBlk (k := 0) 6 rfl (.slice none 0 0)).setBlk (k := 1) 6 rfl (.slice none 0 0)).setBlk (k := 2) 6 rfl (.slice none 0 0)).setBlk (k := 3) 6 rfl (.slice none 0 0)).setBlk (k := 4) 6 rfl (.slice none 0 0)).atW hWF)
    have u0 := HSF.out.cell (k := 0) 6 rfl rfl
    have u1 := HSF.out.cell (k := 1) 6 rfl rfl
    have u2 := HSF.out.cell (k := 2) 6 rfl rfl
    have u3 := HSF.out.cell (k := 3) 6 rfl rfl
    have u4 := HSF.out.cell (k := 4) 6 rfl rfl
    go_wp2
    exact bodyPost_ret (v := .tuple #[.agg #[.slice none 0 0, .slice none 0 0, .slice none 0 0, .slice none 0 0, .slice none 0 0], .bool false]) (by simp [results, Try.results25, go_sem, u0, u1, u2, u3, u4]) rfl (HA.out _ _ ⟨none, 0, 0, none, 0, 0, none, 0, 0, none, 0, 0, none, 0, 0, rfl, HSF.out.bel0, fun h => by cases h⟩)
  | true =>
    as_aux_lemma =>
    go_upto_region 6 with (go_at_call 34; (with_reducible refine CS.mono ?_); clear CS; rintro e W4 ⟨rfl, h0, h1, h2, h3, h4, e0, e1, e2, e3, e4, k0, k1, k2, k3, k4, hs4⟩; (have KS4 := Lib.hid hs4); clear hs4)
    clear s0 s1 s2 s3
    have b0 := KS4.out.cell (k := 0) 0 rfl rfl
    have b1 := KS4.out.cell (k := 1) 0 rfl rfl
    have b2 := KS4.out.cell (k := 2) 0 rfl rfl
    have b3 := KS4.out.cell (k := 3) 0 rfl rfl
    have b4 := KS4.out.cell (k := 4) 0 rfl rfl
    have z0 := KS4.out.frz (k := 0) 6 rfl
    have z1 := KS4.out.frz (k := 1) 6 rfl
    have z2 := KS4.out.frz (k := 2) 6 rfl
    have z3 := KS4.out.frz (k := 3) 6 rfl
    have z4 := KS4.out.frz (k := 4) 6 rfl
    have r0 := KS4.out.cell (k := 0) 6 rfl rfl
    have r1 := KS4.out.cell (k := 1) 6 rfl rfl
    have r2 := KS4.out.cell (k := 2) 6 rfl rfl
    have r3 := KS4.out.cell (k := 3) 6 rfl rfl
    have r4 := KS4.out.cell (k := 4) 6 rfl rfl
    obtain ⟨WF, hWF⟩ : ∃ WQ : World, (((((W4.setCell ⟨gz, 0, none⟩ (.slice (some ⟨h0, 0, none⟩) n e0)).setCell ⟨gz, 1, none⟩ (.slice (some ⟨h1, 0, none⟩) (n * n) e1)).setCell ⟨gz, 2, none⟩ (.slice (some ⟨h2, 0, none⟩) n e2)).setCell ⟨gz, 3, none⟩ (.slice (some ⟨h3, 0, none⟩) n e3)).setCell ⟨gz, 4, none⟩ (.slice (some ⟨h4, 0, none⟩) n e4)) = WQ := ⟨_, rfl⟩
    have HSF := Lib.hid ((((((KS4.out.setBlk (k := 0) 6 rfl (.slice (some ⟨h0, 0, none⟩) n e0)).setBlk (k := 1) 6 rfl (.slice (some ⟨h1, 0, none⟩) (n * n) e1)).setBlk (k := 2) 6 rfl (.slice (some ⟨h2, 0, none⟩) n e2)).setBlk (k := 3) 6 rfl (.slice (some ⟨h3, 0, none⟩) n e3)).setBlk (k := 4) 6 rfl (.slice (some ⟨h4, 0, none⟩) n e4)).atW hWF)
    have u0 := HSF.out.cell (k := 0) 6 rfl rfl
    have u1 := HSF.out.cell (k := 1) 6 rfl rfl
    have u2 := HSF.out.cell (k := 2) 6 rfl rfl
    have u3 := HSF.out.cell (k := 3) 6 rfl rfl
    have u4 := HSF.out.cell (k := 4) 6 rfl rfl
    go_wp2
    have HT := Lib.hid ((HSF.out.sel [1, 2, 3, 4, 5] (by decide) rfl).bankW)
    exact bodyPost_ret (v := .tuple #[.agg #[.slice (some ⟨h0, 0, none⟩) n e0, .slice (some ⟨h1, 0, none⟩) (n * n) e1, .slice (some ⟨h2, 0, none⟩) n e2, .slice (some ⟨h3, 0, none⟩) n e3, .slice (some ⟨h4, 0, none⟩) n e4], .bool true]) (by simp [results, Try.results25, go_sem, u0, u1, u2, u3, u4]) rfl (HA.out _ _ ⟨_, _, _, _, _, _, _, _, _, _, _, _, _, _, _, rfl, HSF.out.bel0, fun _ => ⟨_, HT.out⟩⟩)
end Go.Proofs.Ytpmeagchkcffoaa

/-
  Contracts: the cursor that draws choices from bytes. No conditions.
-/
namespace Go.Proofs.Ytpmeagchkcffoaa
open Go.RowKit
attribute [local go_sem] und_cell World.cell?_alloc_some
namespace Mm
def U8 (n : Int) : Prop := 0 ≤ n ∧ n ≤ 255
def u8 : Rep Int := flat 1 (fun n => [.int .u8 n]) U8 (fun _ => rfl) (fun _ u hu => by rw [List.mem_singleton.1 hu]; rfl)
theorem opens_u8 {P : Program} {t : TypeId} (ht : P.underlying t = some (.int .u8)) (hc : P.cellsOf t = 1) : Opens P t u8 := ⟨hc, fun H enc w base spare held fuel cs x h => by
  obtain ⟨n, rfl, _, hw⟩ := DataW.trod_int ht h
  refine ⟨n, rfl, ?_⟩
  simp [Lit.wf, IntKind.min, IntKind.max, IntKind.signed, IntKind.bits] at hw
  unfold U8
  omega⟩
/-- a cursor: its block -/
def tcur (T : TypeId) (A : Option Addr) (n c g K : Nat) : Thing :=
  ⟨[g], fun w => ∃ at_ seed : Int, Blk w g T [.slice A n c, .int .i64 at_, .int .u64 seed] ∧ 0 ≤ at_ ∧ at_ ≤ K, fun ⟨a, s, h1, h2⟩ k => ⟨a, s, h1.keep (k g (by simp)), h2⟩, fun ⟨a, s, h1, h2⟩ b hb => by rw [List.mem_singleton.1 hb]; exact h1.lt⟩
theorem tcur_more {T : TypeId} {A : Option Addr} {n c g K K' : Nat} {w : World} (h : (tcur T A n c g K).holds w) (hk : K ≤ K') : (tcur T A n c g K').holds w := by
  obtain ⟨a, s, h1, h2, h3⟩ := h
  exact ⟨a, s, h1, h2, by omega⟩
theorem SepF.swapFor {F : List Nat} {w0 wr : World} {ts : List Thing} {t t' : Thing} (h : SepF F w0 wr ts) (i : Nat) (hi : ts[i]? = some t) (hf : t'.fp = t.fp) (hh : t.holds wr → t'.holds wr) : SepF F w0 wr (ts.set i t') :=
  h.upd hi (Chg.refl _ _) (hh (h.at_ i hi)) (by rw [hf]; exact h.ndat hi) (fun b hb => .inl (hf ▸ hb))
theorem SepF.more {F : List Nat} {w0 wr : World} {ts : List Thing} {T : TypeId} {A : Option Addr} {n c g K K' : Nat} (h : SepF F w0 wr ts) (i : Nat) (hi : ts[i]? = some (tcur T A n c g K)) (hk : K ≤ K') : SepF F w0 wr (ts.set i (tcur T A n c g K')) :=
  h.swapFor i hi rfl fun h => tcur_more h hk
end Mm
theorem opens_u8S : Mm.Opens Try.prog 44 (Mm.slice Mm.u8 5) := Mm.opens_slice Try.underlying44 (by kernel_rfl) (by decide) (Mm.opens_u8 Try.underlying5 (by kernel_rfl))
theorem next_left {T : TypeId} {A : Option Addr} {n c g K p q : Nat} {a s a' s' : Int} {w : World} (hb : Mm.Blk w g T [.slice A n c, .int .i64 a, .int .u64 s]) (h0 : 0 ≤ a') (h1 : a' ≤ K) :
    Mm.Left [g] w ((((w.drewN p).setCell ⟨g, 1, none⟩ (.int .i64 a')).setCell ⟨g, 2, none⟩ (.int .u64 s')).drewN q) (Mm.tcur T A n c g K) := by
  have h2 := (((hb.bel (below_drewN (Below.refl _ w) p)).set_ 1 (.int .i64 a')).set_ 2 (.int .u64 s'))
  have h3 := h2.bel (below_drewN (Below.refl _ _) q)
  have h4 : Mm.Chg [g] w (((w.drewN p).setCell ⟨g, 1, none⟩ (.int .i64 a')).setCell ⟨g, 2, none⟩ (.int .u64 s')) := ((Mm.Chg.of_below (below_drewN (Below.refl _ w) p)).setCell (by simp) _).setCell (by simp) _
  exact ⟨h4.trans (Mm.Chg.of_below (below_drewN (Below.refl _ _) q)), by simp [Mm.tcur], fun b hb => .inl (by simpa [Mm.tcur] using hb), a', s', h3, h0, h1⟩
theorem u64_bd (z : Int) : 0 ≤ IntKind.u64.wrap z ∧ IntKind.u64.wrap z < 18446744073709551616 := by rw [IntKind.wrap_u64]; omega
theorem and255 (z : Int) : 0 ≤ wrap64 (bits .and .u64 (IntKind.u64.wrap z / 1099511627776) 255) ∧ wrap64 (bits .and .u64 (IntKind.u64.wrap z / 1099511627776) 255) ≤ 255 := by
  have h := u64_bd z
  obtain ⟨m, hm⟩ : ∃ m : Nat, IntKind.u64.wrap z / 1099511627776 = m := ⟨(IntKind.u64.wrap z / 1099511627776).toNat, by omega⟩
  rw [hm, show (255 : Int) = ((255 : Nat) : Int) from rfl, bits_and_u64_nat m 255 (by omega) (by omega)]
  have h2 : m &&& 255 ≤ 255 := Nat.and_le_right
  rw [IntWalk.wrap64_in _ (by omega)]
  omega
set_option maxRecDepth 100000 in
set_option maxHeartbeats 1000000 in
theorem next_c (code : List Int) (A : Option Addr) (n c g K : Nat) (w : World) (B : Nat) (hc : Mm.SlAt Mm.u8 w B code A n c) (hB : B ≤ g) (h : (Mm.tcur 72 A n c g K).holds w) (hK : K < 4611686018427387904) :
    Calls Try.prog 71 #[.pointer (some ⟨g, 0, none⟩)] w fun e w' => ∃ b : Int, e = .returned (.int .i64 b) ∧ 0 ≤ b ∧ b ≤ 255 ∧ Mm.Left [g] w w' (Mm.tcur 72 A n c g (K + 1)) := by
  obtain ⟨a, s, hb, h0, h1⟩ := h
  have hlen : n ≤ maxLen := Nat.le_trans hc.2.1 hc.2.2.1
  unfold maxLen at hlen
  have KB := Lib.hid hb
  have c0 := hb.cell (i := 0) rfl
  have c1 := hb.cell (i := 1) rfl
  have c2 := hb.cell (i := 2) rfl
  have z0 := hb.frozen 0
  have z1 := hb.frozen 1
  have z2 := hb.frozen 2
  obtain ⟨k, rfl⟩ : ∃ k : Nat, a = k := ⟨a.toNat, by omega⟩
  clear hb
  by_cases hlt : k < n
  · obtain ⟨x, b, off, cs, hx, rfl, hbB, hat, hcell⟩ := hc.get hlt
    obtain ⟨rfl, hx0, hx1⟩ := hat
    have hcc := hcell 0 _ rfl
    rw [Nat.add_zero, show Mm.u8.size = 1 from rfl, Nat.mul_one] at hcc
    have hgb : b ≠ g := by omega
    have e1 : ((k : Nat) : Int) < (n : Nat) := by omega
    have e2 : (0 : Int) ≤ (k : Nat) := by omega
    have e3 : ((k : Nat) : Int).toNat = k := by omega
    clear hcell hx hc
    go_enter Try.func71, Try.ntmps71
    go_wp2
    go_quiet (fail)
    go_wp2
    go_quiet (fail)
    go_wp2
    go_quiet (fail)
    go_wp2
    go_ret
    exact ⟨x, rfl, hx0, hx1, next_left KB.out (by omega) (by omega)⟩
  · have e1 : ¬ ((k : Nat) : Int) < (n : Nat) := by omega
    have e2 : ¬ ((k : Nat) : Int) + 1 ≤ (n : Nat) := by omega
    clear hc
    go_enter Try.func71, Try.ntmps71
    go_wp2
    go_quiet (fail)
    go_wp2
    go_quiet (fail)
    go_wp2
    go_ret
    exact ⟨_, rfl, (and255 _).1, (and255 _).2, next_left KB.out (by omega) (by omega)⟩
set_option maxRecDepth 100000 in
theorem pick_c (code : List Int) (A : Option Addr) (n c g K : Nat) (N : Int) (w : World) (B : Nat) (hc : Mm.SlAt Mm.u8 w B code A n c) (hB : B ≤ g) (h : (Mm.tcur 72 A n c g K).holds w) (hK : K < 4611686018427387000) (hN : N ≤ 200) :
    Calls Try.prog 63 #[.pointer (some ⟨g, 0, none⟩), .int .i64 N] w fun e w' => ∃ b : Int, e = .returned (.int .i64 b) ∧ 0 ≤ b ∧ b ≤ 199 ∧ (1 ≤ N → b < N) ∧ Mm.Left [g] w w' (Mm.tcur 72 A n c g (K + 1)) := by
  by_cases h1 : N ≤ 1
  · go_enter Try.func63, Try.ntmps63
    go_wp2
    go_ret
    exact ⟨0, rfl, by omega, by omega, by omega, Mm.Chg.refl _ _, by simp [Mm.tcur], fun b hb => .inl (by simpa [Mm.tcur] using hb), Mm.tcur_more h (by omega)⟩
  · have h2 : ¬ 200 < N := by omega
    have h3 : N ≠ 0 := by omega
    go_enter Try.func63, Try.ntmps63
    go_wp2_with (go_at_call 71; refine (next_c code A n c g K _ B hc hB h (by omega)).mono ?_; rintro e w1 ⟨b, rfl, hb0, hb1, hL⟩)
    go_ret
    have hm0 : 0 ≤ b % N := Int.emod_nonneg _ h3
    have hm1 : b % N < N := Int.emod_lt_of_pos _ (by omega)
    exact ⟨_, rfl, hm0, by omega, fun _ => hm1, hL⟩
theorem one_c (code : List Int) (A : Option Addr) (n c g K : Nat) (N : Int) (w : World) (B : Nat) (hc : Mm.SlAt Mm.u8 w B code A n c) (hB : B ≤ g) (h : (Mm.tcur 72 A n c g K).holds w) (hK : K < 4611686018427387000) (hN : N ≤ 200) :
    Calls Try.prog 64 #[.pointer (some ⟨g, 0, none⟩), .int .i64 N] w fun e w' => ∃ b : Bool, e = .returned (.bool b) ∧ Mm.Left [g] w w' (Mm.tcur 72 A n c g (K + 1)) := by
  go_enter Try.func64, Try.ntmps64
  go_wp2_with (go_at_call 63; refine (pick_c code A n c g K N _ B hc hB h hK hN).mono ?_; rintro e w1 ⟨b, rfl, hb0, hb1, -, hL⟩)
  go_ret
  exact ⟨_, rfl, hL⟩
set_option maxRecDepth 100000 in
theorem among_c (code : List Int) (A : Option Addr) (n c g K : Nat) (xs : List Int) (bl m : Nat) (w : World) (B : Nat) (hc : Mm.SlAt Mm.u8 w B code A n c) (hB : B ≤ g) (h : (Mm.tcur 72 A n c g K).holds w) (hK : K < 4611686018427387000)
    (hbl : Mm.Blk w bl 3 (xs.map fun x => .int .i64 x)) (hne : bl ≠ g) (hm : xs.length = m) (h1 : 1 ≤ m) (h2 : m ≤ 200) :
    Calls Try.prog 65 #[.pointer (some ⟨g, 0, none⟩), .slice (some ⟨bl, 0, none⟩) m m] w fun e w' => ∃ v : Int, e = .returned (.int .i64 v) ∧ v ∈ xs ∧ Mm.Left [g] w w' (Mm.tcur 72 A n c g (K + 1)) := by
  go_enter Try.func65, Try.ntmps65
  have arm : ∀ (w1 : World) (b : Int), 0 ≤ b → (1 ≤ (m : Int) → b < m) → Mm.Left [g] w w1 (Mm.tcur 72 A n c g (K + 1)) → ∃ v : Int, v ∈ xs ∧ w1.cell? ⟨bl, b.toNat, none⟩ = some (.int .i64 v) ∧ 0 ≤ b ∧ b < m := fun w1 b hb0 hb1 hL => by
    have hlt := hb1 (by omega)
    have hk : b.toNat < xs.length := by omega
    have hx := List.getElem?_eq_getElem hk
    refine ⟨xs[b.toNat], List.getElem_mem hk, ?_, hb0, hlt⟩
    exact (hbl.keep (w' := w1) (hL.1.block bl hbl.lt (by simpa using hne))).cell (by rw [List.getElem?_map, hx]; rfl)
  go_wp2_with (go_at_call 63; refine (pick_c code A n c g K m _ B hc hB h hK (by omega)).mono ?_; rintro e w1 ⟨b, rfl, hb0, -, hb2, hL⟩; obtain ⟨v, hv, hcell, hb3, hb4⟩ := arm w1 b hb0 hb2 hL)
  go_ret
  exact ⟨v, rfl, hv, hL⟩
end Go.Proofs.Ytpmeagchkcffoaa

/-
  Contracts: the laws' own comparisons, at equal data, and the number of some bytes. No conditions.
-/
namespace Go.Proofs.Ytpmeagchkcffoaa
open Go.RowKit
attribute [local go_sem] und_cell World.cell?_alloc_some
set_option maxRecDepth 100000 in
set_option maxHeartbeats 1000000 in
theorem sameInts_c (l : List Int) (A A' : Option Addr) (n c c' : Nat) (w : World) (B : Nat) (h1 : Mm.SlAt Mm.int w B l A n c) (h2 : Mm.SlAt Mm.int w B l A' n c') (hB : B ≤ w.heap.size) :
    Calls Try.prog 45 #[.slice A n c, .slice A' n c'] w fun e w' => e = .returned (.bool true) ∧ Below w.heap.size w w' := by
  have H1 := Lib.hid h1
  have H2 := Lib.hid h2
  have hlen : n ≤ maxLen := Nat.le_trans h1.2.1 h1.2.2.1
  unfold maxLen at hlen
  clear h1 h2
  go_enter Try.func45, Try.ntmps45
  go_wp2
  go_loopg [13] n (fun gg i wr => ∃ k : Nat, n - k ≤ gg ∧ k ≤ n ∧ i = .int .i64 k ∧ Below w.heap.size w wr)
  case atStart => exact ⟨0, Nat.le_refl _, Nat.zero_le _, rfl, Below.refl _ _⟩
  case round =>
    obtain ⟨k, hgk, hk, rfl, hbel⟩ := hrel
    have HB := Lib.hid hbel
    by_cases hlt : k < n
    · obtain ⟨x, b, off, hx, rfl, hb, b1, c1⟩ := int_get (H1.out.keep fun b hb => hbel.block b (by omega)) hlt
      obtain ⟨y, b', off', hy, rfl, hb', b1', c1'⟩ := int_get (H2.out.keep fun b hb => hbel.block b (by omega)) hlt
      rw [hx] at hy
      injection hy with hy
      subst hy
      have f1 : (k : Int) < (n : Nat) := by omega
      have f2 : (0 : Int) ≤ (k : Nat) := by omega
      clear hx hbel
      go_wp2
      go_quiet (fail)
      go_wp2
      go_roundg (n - (k + 1))
      case measure => omega
      case rel => exact ⟨k + 1, Nat.le_refl _, by omega, by go_num, below_drewN HB.out _⟩
    · go_wp2
      go_ret
      exact ⟨rfl, HB.out⟩
set_option maxRecDepth 100000 in
set_option maxHeartbeats 1000000 in
theorem sameBools_c (l : List Bool) (A A' : Option Addr) (n c c' : Nat) (w : World) (B : Nat) (h1 : Mm.SlAt Mm.bool w B l A n c) (h2 : Mm.SlAt Mm.bool w B l A' n c') (hB : B ≤ w.heap.size) :
    Calls Try.prog 21 #[.slice A n c, .slice A' n c'] w fun e w' => e = .returned (.bool true) ∧ Below w.heap.size w w' := by
  have H1 := Lib.hid h1
  have H2 := Lib.hid h2
  have hlen : n ≤ maxLen := Nat.le_trans h1.2.1 h1.2.2.1
  unfold maxLen at hlen
  clear h1 h2
  go_enter Try.func21, Try.ntmps21
  go_wp2
  go_loopg [13] n (fun gg i wr => ∃ k : Nat, n - k ≤ gg ∧ k ≤ n ∧ i = .int .i64 k ∧ Below w.heap.size w wr)
  case atStart => exact ⟨0, Nat.le_refl _, Nat.zero_le _, rfl, Below.refl _ _⟩
  case round =>
    obtain ⟨k, hgk, hk, rfl, hbel⟩ := hrel
    have HB := Lib.hid hbel
    by_cases hlt : k < n
    · obtain ⟨x, b, off, hx, rfl, hb, c1⟩ := bool_get (H1.out.keep fun b hb => hbel.block b (by omega)) hlt
      obtain ⟨y, b', off', hy, rfl, hb', c1'⟩ := bool_get (H2.out.keep fun b hb => hbel.block b (by omega)) hlt
      rw [hx] at hy
      injection hy with hy
      subst hy
      have f1 : (k : Int) < (n : Nat) := by omega
      have f2 : (0 : Int) ≤ (k : Nat) := by omega
      clear hx hbel
      go_wp2
      go_quiet (fail)
      go_wp2
      go_roundg (n - (k + 1))
      case measure => omega
      case rel => exact ⟨k + 1, Nat.le_refl _, by omega, by go_num, below_drewN HB.out _⟩
    · go_wp2
      go_ret
      exact ⟨rfl, HB.out⟩
set_option maxRecDepth 100000 in
set_option maxHeartbeats 1000000 in
theorem sameRows_c (l : List (List Int)) (A A' : Option Addr) (n c c' : Nat) (w : World) (B : Nat) (h1 : Mm.SlAt ints w B l A n c) (h2 : Mm.SlAt ints w B l A' n c') (hB : B ≤ w.heap.size) :
    Calls Try.prog 46 #[.slice A n c, .slice A' n c'] w fun e w' => e = .returned (.bool true) ∧ Below w.heap.size w w' := by
  have H1 := Lib.hid h1
  have H2 := Lib.hid h2
  have hlen : n ≤ maxLen := Nat.le_trans h1.2.1 h1.2.2.1
  unfold maxLen at hlen
  clear h1 h2
  go_enter Try.func46, Try.ntmps46
  go_wp2
  go_loopg [13] n (fun gg i wr => ∃ k : Nat, n - k ≤ gg ∧ k ≤ n ∧ i = .int .i64 k ∧ Below w.heap.size w wr)
  case atStart => exact ⟨0, Nat.le_refl _, Nat.zero_le _, rfl, Below.refl _ _⟩
  case round =>
    obtain ⟨k, hgk, hk, rfl, hbel⟩ := hrel
    have HB := Lib.hid hbel
    have hBw : B ≤ wr.heap.size := Nat.le_trans hB hbel.size
    by_cases hlt : k < n
    · obtain ⟨x, b, off, P1, p1, q1, hx, rfl, hb, uf0, uc0⟩ := ints_get (H1.out.keep fun b hb => hbel.block b (by omega)) hlt
      obtain ⟨y, b', off', P2, p2, q2, hy, rfl, hb', vf0, vc0⟩ := ints_get (H2.out.keep fun b hb => hbel.block b (by omega)) hlt
      obtain rfl : x = y := by rw [hx] at hy; injection hy
      obtain rfl : p1 = p2 := uf0.1.symm.trans vf0.1
      have HF := Lib.hid (And.intro uf0 vf0)
      have f1 : (k : Int) < (n : Nat) := by omega
      have f2 : (0 : Int) ≤ (k : Nat) := by omega
      clear hx hy uf0 vf0 hbel
      go_wp2
      refine wp_region_und (by kernel_rfl) (by kernel_rfl) ?_
      repeat (go_big_quiet_step ((first | (go_at_call 45; exact und_call _ (sameInts_c x _ _ _ _ _ _ B (HF.out.1.und hBw _) (HF.out.2.und hBw _) (Nat.le_trans hBw (und_size _)))))))
      refine wpQuiet_nil ?_
      intro X hX
      go_wp2
      go_roundg (n - (k + 1))
      case measure => omega
      case rel => exact ⟨k + 1, Nat.le_refl _, by omega, by go_num, below_step HB.out hX⟩
    · go_wp2
      go_ret
      exact ⟨rfl, HB.out⟩
end Go.Proofs.Ytpmeagchkcffoaa

/-
  Contracts: the laws' own comparison of banks, at equal data; drawn plays of banks (chapter 12). No conditions.
-/
namespace Go.Proofs.Ytpmeagchkcffoaa
open Go.RowKit
attribute [local go_sem] und_cell World.cell?_alloc_some
set_option maxRecDepth 100000 in
set_option maxHeartbeats 4000000 in
theorem sameBanks_c (p : Bank) (cs cs2 : List Value) (w : World) (B : Nat) (h1 : rBankW.at_ w B p cs) (h2 : rBankW.at_ w B p cs2) (hB : B ≤ w.heap.size) :
    Calls Try.prog 22 #[.agg cs.toArray, .agg cs2.toArray] w fun e w' => e = .returned (.bool true) ∧ Below w.heap.size w w' := by
  obtain ⟨A0, n0, c0, A1, n1, c1, A2, n2, c2, A3, n3, c3, A4, n4, c4, rfl, r0, r1, r2, r3, r4⟩ := rBankW_at h1
  obtain ⟨A0', m0, c0', A1', m1, c1', A2', m2, c2', A3', m3, c3', A4', m4, c4', rfl, q0, q1, q2, q3, q4⟩ := rBankW_at h2
  obtain rfl : n0 = m0 := r0.1.symm.trans q0.1
  obtain rfl : n1 = m1 := r1.1.symm.trans q1.1
  obtain rfl : n2 = m2 := r2.1.symm.trans q2.1
  obtain rfl : n3 = m3 := r3.1.symm.trans q3.1
  obtain rfl : n4 = m4 := r4.1.symm.trans q4.1
  have l3 : n3 ≤ maxLen := Nat.le_trans r3.2.1 r3.2.2.1
  unfold maxLen at l3
  have R0 := Lib.hid r0
  have R1 := Lib.hid r1
  have R2 := Lib.hid r2
  have R3 := Lib.hid r3
  have R4 := Lib.hid r4
  have Q0 := Lib.hid q0
  have Q1 := Lib.hid q1
  have Q2 := Lib.hid q2
  have Q3 := Lib.hid q3
  have Q4 := Lib.hid q4
  clear h1 h2 r0 r1 r2 r3 r4 q0 q1 q2 q3 q4
  obtain ⟨ga, hga⟩ : ∃ ga, w.heap.size = ga := ⟨_, rfl⟩
  obtain ⟨gb, hgb⟩ : ∃ gb, ga + 1 = gb := ⟨_, rfl⟩
  obtain ⟨W0, hW0⟩ : ∃ W0, (w.alloc (.cells #[.slice A0 n0 c0, .slice A1 n1 c1, .slice A2 n2 c2, .slice A3 n3 c3, .slice A4 n4 c4] 28)).alloc (.cells #[.slice A0' n0 c0', .slice A1' n1 c1', .slice A2' n2 c2', .slice A3' n3 c3', .slice A4' n4 c4'] 28) = W0 := ⟨_, rfl⟩
  have HS0 := Lib.hid ((((Mm.SepF.start w).alloc' hga 28 [.slice A0 n0 c0, .slice A1 n1 c1, .slice A2 n2 c2, .slice A3 n3 c3, .slice A4 n4 c4]).alloc' (g := gb) (by rw [Mm.sz1, hga, hgb]) 28 [.slice A0' n0 c0', .slice A1' n1 c1', .slice A2' n2 c2', .slice A3' n3 c3', .slice A4' n4 c4']).atW hW0)
  go_enter Try.func22, Try.ntmps22
  go_upto_region 1 with fail
  clear hW0 hga hgb
  have HB0 := Lib.hid HS0.out.bel0
  have HBW := Lib.hid (Nat.le_trans hB HB0.out.size)
  have HK := Lib.hid (fun (W : World) (hW : Below W0.heap.size W0 W) (b : Nat) (hb : b < B) => (hW.block b (Nat.lt_of_lt_of_le hb HBW.out)).trans (HB0.out.block b (Nat.lt_of_lt_of_le hb hB)))
  have HKS := Lib.hid (fun (W : World) (hW : Below W0.heap.size W0 W) => Nat.le_trans HBW.out hW.size)
  have HX := Lib.hid (Below.refl W0.heap.size W0)
  have b0 := below_some HX.out (HS0.out.cell (k := 0) 0 rfl rfl)
  have b1 := below_some HX.out (HS0.out.cell (k := 1) 0 rfl rfl)
  have b2 := below_some HX.out (HS0.out.cell (k := 2) 0 rfl rfl)
  have b3 := below_some HX.out (HS0.out.cell (k := 3) 0 rfl rfl)
  have b4 := below_some HX.out (HS0.out.cell (k := 4) 0 rfl rfl)
  have d0 := below_some HX.out (HS0.out.cell (k := 0) 1 rfl rfl)
  have d1 := below_some HX.out (HS0.out.cell (k := 1) 1 rfl rfl)
  have d2 := below_some HX.out (HS0.out.cell (k := 2) 1 rfl rfl)
  have d3 := below_some HX.out (HS0.out.cell (k := 3) 1 rfl rfl)
  have d4 := below_some HX.out (HS0.out.cell (k := 4) 1 rfl rfl)
  have hq : ((n3 : Int) != (n3 : Nat)) = false := by simp
  have CI := Lib.hid (fun W hW => sameInts_c p.Coins A0' A0 n0 c0' c0 W B (Q0.out.keep (HK.out W hW)) (R0.out.keep (HK.out W hW)) (HKS.out W hW))
  have CW := Lib.hid (fun W hW => sameRows_c p.Ways A1' A1 n1 c1' c1 W B (Q1.out.keep (HK.out W hW)) (R1.out.keep (HK.out W hW)) (HKS.out W hW))
  have CK := Lib.hid (fun W hW => sameInts_c p.Kept A2' A2 n2 c2' c2 W B (Q2.out.keep (HK.out W hW)) (R2.out.keep (HK.out W hW)) (HKS.out W hW))
  have CF := Lib.hid (fun W hW => sameRows_c p.Found A4' A4 n4 c4' c4 W B (Q4.out.keep (HK.out W hW)) (R4.out.keep (HK.out W hW)) (HKS.out W hW))
  have CI' := Lib.hid (fun W hW => sameInts_c p.Coins A0 A0' n0 c0 c0' W B (R0.out.keep (HK.out W hW)) (Q0.out.keep (HK.out W hW)) (HKS.out W hW))
  have CW' := Lib.hid (fun W hW => sameRows_c p.Ways A1 A1' n1 c1 c1' W B (R1.out.keep (HK.out W hW)) (Q1.out.keep (HK.out W hW)) (HKS.out W hW))
  have CK' := Lib.hid (fun W hW => sameInts_c p.Kept A2 A2' n2 c2 c2' W B (R2.out.keep (HK.out W hW)) (Q2.out.keep (HK.out W hW)) (HKS.out W hW))
  have CF' := Lib.hid (fun W hW => sameRows_c p.Found A4 A4' n4 c4 c4' W B (R4.out.keep (HK.out W hW)) (Q4.out.keep (HK.out W hW)) (HKS.out W hW))
  clear R0 R1 R2 R4 Q0 Q1 Q2 Q4
  go_upto_region 3 with first
    | (go_at_call 45; (with_reducible refine (CI.out _ HX.out).mono ?_); clear CI CI'; rintro e w1 ⟨rfl, hb1⟩; (replace HX := Lib.hid (below_step HX.out hb1)); clear hb1; (clear b0 b1 b2 b3 b4 d0 d1 d2 d3 d4); (have b0 := below_some HX.out (HS0.out.cell (k := 0) 0 rfl rfl)); (have b1 := below_some HX.out (HS0.out.cell (k := 1) 0 rfl rfl)); (have b2 := below_some HX.out (HS0.out.cell (k := 2) 0 rfl rfl)); (have b3 := below_some HX.out (HS0.out.cell (k := 3) 0 rfl rfl)); (have b4 := below_some HX.out (HS0.out.cell (k := 4) 0 rfl rfl)); (have d0 := below_some HX.out (HS0.out.cell (k := 0) 1 rfl rfl)); (have d1 := below_some HX.out (HS0.out.cell (k := 1) 1 rfl rfl)); (have d2 := below_some HX.out (HS0.out.cell (k := 2) 1 rfl rfl)); (have d3 := below_some HX.out (HS0.out.cell (k := 3) 1 rfl rfl)); (have d4 := below_some HX.out (HS0.out.cell (k := 4) 1 rfl rfl)))
    | (go_at_call 46; (with_reducible refine (CW.out _ HX.out).mono ?_); clear CW CW'; rintro e w1 ⟨rfl, hb1⟩; (replace HX := Lib.hid (below_step HX.out hb1)); clear hb1; (clear b0 b1 b2 b3 b4 d0 d1 d2 d3 d4); (have b0 := below_some HX.out (HS0.out.cell (k := 0) 0 rfl rfl)); (have b1 := below_some HX.out (HS0.out.cell (k := 1) 0 rfl rfl)); (have b2 := below_some HX.out (HS0.out.cell (k := 2) 0 rfl rfl)); (have b3 := below_some HX.out (HS0.out.cell (k := 3) 0 rfl rfl)); (have b4 := below_some HX.out (HS0.out.cell (k := 4) 0 rfl rfl)); (have d0 := below_some HX.out (HS0.out.cell (k := 0) 1 rfl rfl)); (have d1 := below_some HX.out (HS0.out.cell (k := 1) 1 rfl rfl)); (have d2 := below_some HX.out (HS0.out.cell (k := 2) 1 rfl rfl)); (have d3 := below_some HX.out (HS0.out.cell (k := 3) 1 rfl rfl)); (have d4 := below_some HX.out (HS0.out.cell (k := 4) 1 rfl rfl)))
    | (go_at_call 45; (with_reducible refine (CK.out _ HX.out).mono ?_); clear CK CK'; rintro e w1 ⟨rfl, hb1⟩; (replace HX := Lib.hid (below_step HX.out hb1)); clear hb1; (clear b0 b1 b2 b3 b4 d0 d1 d2 d3 d4); (have b0 := below_some HX.out (HS0.out.cell (k := 0) 0 rfl rfl)); (have b1 := below_some HX.out (HS0.out.cell (k := 1) 0 rfl rfl)); (have b2 := below_some HX.out (HS0.out.cell (k := 2) 0 rfl rfl)); (have b3 := below_some HX.out (HS0.out.cell (k := 3) 0 rfl rfl)); (have b4 := below_some HX.out (HS0.out.cell (k := 4) 0 rfl rfl)); (have d0 := below_some HX.out (HS0.out.cell (k := 0) 1 rfl rfl)); (have d1 := below_some HX.out (HS0.out.cell (k := 1) 1 rfl rfl)); (have d2 := below_some HX.out (HS0.out.cell (k := 2) 1 rfl rfl)); (have d3 := below_some HX.out (HS0.out.cell (k := 3) 1 rfl rfl)); (have d4 := below_some HX.out (HS0.out.cell (k := 4) 1 rfl rfl)))
    | (go_at_call 46; (with_reducible refine (CF.out _ HX.out).mono ?_); clear CF CF'; rintro e w1 ⟨rfl, hb1⟩; (replace HX := Lib.hid (below_step HX.out hb1)); clear hb1; (clear b0 b1 b2 b3 b4 d0 d1 d2 d3 d4); (have b0 := below_some HX.out (HS0.out.cell (k := 0) 0 rfl rfl)); (have b1 := below_some HX.out (HS0.out.cell (k := 1) 0 rfl rfl)); (have b2 := below_some HX.out (HS0.out.cell (k := 2) 0 rfl rfl)); (have b3 := below_some HX.out (HS0.out.cell (k := 3) 0 rfl rfl)); (have b4 := below_some HX.out (HS0.out.cell (k := 4) 0 rfl rfl)); (have d0 := below_some HX.out (HS0.out.cell (k := 0) 1 rfl rfl)); (have d1 := below_some HX.out (HS0.out.cell (k := 1) 1 rfl rfl)); (have d2 := below_some HX.out (HS0.out.cell (k := 2) 1 rfl rfl)); (have d3 := below_some HX.out (HS0.out.cell (k := 3) 1 rfl rfl)); (have d4 := below_some HX.out (HS0.out.cell (k := 4) 1 rfl rfl)))
    | (go_at_call 45; (with_reducible refine (CI'.out _ HX.out).mono ?_); clear CI CI'; rintro e w1 ⟨rfl, hb1⟩; (replace HX := Lib.hid (below_step HX.out hb1)); clear hb1; (clear b0 b1 b2 b3 b4 d0 d1 d2 d3 d4); (have b0 := below_some HX.out (HS0.out.cell (k := 0) 0 rfl rfl)); (have b1 := below_some HX.out (HS0.out.cell (k := 1) 0 rfl rfl)); (have b2 := below_some HX.out (HS0.out.cell (k := 2) 0 rfl rfl)); (have b3 := below_some HX.out (HS0.out.cell (k := 3) 0 rfl rfl)); (have b4 := below_some HX.out (HS0.out.cell (k := 4) 0 rfl rfl)); (have d0 := below_some HX.out (HS0.out.cell (k := 0) 1 rfl rfl)); (have d1 := below_some HX.out (HS0.out.cell (k := 1) 1 rfl rfl)); (have d2 := below_some HX.out (HS0.out.cell (k := 2) 1 rfl rfl)); (have d3 := below_some HX.out (HS0.out.cell (k := 3) 1 rfl rfl)); (have d4 := below_some HX.out (HS0.out.cell (k := 4) 1 rfl rfl)))
    | (go_at_call 46; (with_reducible refine (CW'.out _ HX.out).mono ?_); clear CW CW'; rintro e w1 ⟨rfl, hb1⟩; (replace HX := Lib.hid (below_step HX.out hb1)); clear hb1; (clear b0 b1 b2 b3 b4 d0 d1 d2 d3 d4); (have b0 := below_some HX.out (HS0.out.cell (k := 0) 0 rfl rfl)); (have b1 := below_some HX.out (HS0.out.cell (k := 1) 0 rfl rfl)); (have b2 := below_some HX.out (HS0.out.cell (k := 2) 0 rfl rfl)); (have b3 := below_some HX.out (HS0.out.cell (k := 3) 0 rfl rfl)); (have b4 := below_some HX.out (HS0.out.cell (k := 4) 0 rfl rfl)); (have d0 := below_some HX.out (HS0.out.cell (k := 0) 1 rfl rfl)); (have d1 := below_some HX.out (HS0.out.cell (k := 1) 1 rfl rfl)); (have d2 := below_some HX.out (HS0.out.cell (k := 2) 1 rfl rfl)); (have d3 := below_some HX.out (HS0.out.cell (k := 3) 1 rfl rfl)); (have d4 := below_some HX.out (HS0.out.cell (k := 4) 1 rfl rfl)))
    | (go_at_call 45; (with_reducible refine (CK'.out _ HX.out).mono ?_); clear CK CK'; rintro e w1 ⟨rfl, hb1⟩; (replace HX := Lib.hid (below_step HX.out hb1)); clear hb1; (clear b0 b1 b2 b3 b4 d0 d1 d2 d3 d4); (have b0 := below_some HX.out (HS0.out.cell (k := 0) 0 rfl rfl)); (have b1 := below_some HX.out (HS0.out.cell (k := 1) 0 rfl rfl)); (have b2 := below_some HX.out (HS0.out.cell (k := 2) 0 rfl rfl)); (have b3 := below_some HX.out (HS0.out.cell (k := 3) 0 rfl rfl)); (have b4 := below_some HX.out (HS0.out.cell (k := 4) 0 rfl rfl)); (have d0 := below_some HX.out (HS0.out.cell (k := 0) 1 rfl rfl)); (have d1 := below_some HX.out (HS0.out.cell (k := 1) 1 rfl rfl)); (have d2 := below_some HX.out (HS0.out.cell (k := 2) 1 rfl rfl)); (have d3 := below_some HX.out (HS0.out.cell (k := 3) 1 rfl rfl)); (have d4 := below_some HX.out (HS0.out.cell (k := 4) 1 rfl rfl)))
    | (go_at_call 46; (with_reducible refine (CF'.out _ HX.out).mono ?_); clear CF CF'; rintro e w1 ⟨rfl, hb1⟩; (replace HX := Lib.hid (below_step HX.out hb1)); clear hb1; (clear b0 b1 b2 b3 b4 d0 d1 d2 d3 d4); (have b0 := below_some HX.out (HS0.out.cell (k := 0) 0 rfl rfl)); (have b1 := below_some HX.out (HS0.out.cell (k := 1) 0 rfl rfl)); (have b2 := below_some HX.out (HS0.out.cell (k := 2) 0 rfl rfl)); (have b3 := below_some HX.out (HS0.out.cell (k := 3) 0 rfl rfl)); (have b4 := below_some HX.out (HS0.out.cell (k := 4) 0 rfl rfl)); (have d0 := below_some HX.out (HS0.out.cell (k := 0) 1 rfl rfl)); (have d1 := below_some HX.out (HS0.out.cell (k := 1) 1 rfl rfl)); (have d2 := below_some HX.out (HS0.out.cell (k := 2) 1 rfl rfl)); (have d3 := below_some HX.out (HS0.out.cell (k := 3) 1 rfl rfl)); (have d4 := below_some HX.out (HS0.out.cell (k := 4) 1 rfl rfl)))
  go_wp2
  clear b0 b1 b2 b3 b4 d0 d1 d2 d3 d4
  have HXX := Lib.hid HX.out
  clear HX
  go_loopg [48] n3 (fun gg i wr => ∃ k : Nat, n3 - k ≤ gg ∧ k ≤ n3 ∧ i = .int .i64 k ∧ Hid (Below W0.heap.size W0 wr))
  case atStart => exact ⟨0, Nat.le_refl _, Nat.zero_le _, rfl, HXX⟩
  case round =>
    clear HXX
    obtain ⟨k, hgk, hk, rfl, HX⟩ := hrel
    obtain ⟨W1, rfl⟩ : ∃ W1 : World, W1 = wr := ⟨_, rfl⟩
    by_cases hlt : k < n3
    · as_aux_lemma =>
      have b3 := below_some HX.out (HS0.out.cell (k := 3) 0 rfl rfl)
      have d3 := below_some HX.out (HS0.out.cell (k := 3) 1 rfl rfl)
      obtain ⟨x, b, off, P1, p1, t1, hx, rfl, hb, u1, e1⟩ := bools_get (R3.out.keep (HK.out W1 HX.out)) hlt
      obtain ⟨y, b', off', P2, p2, t2, hy, rfl, hb', u2, e2⟩ := bools_get (Q3.out.keep (HK.out W1 HX.out)) hlt
      obtain rfl : x = y := by rw [hx] at hy; injection hy
      obtain rfl : p1 = p2 := u1.1.symm.trans u2.1
      have U1 := Lib.hid u1
      have U2 := Lib.hid u2
      have f1 : (k : Int) < (n3 : Nat) := by omega
      have f2 : (0 : Int) ≤ (k : Nat) := by omega
      have f3 : ((k : Nat) : Int).toNat = k := by omega
      have hBw := HKS.out W1 HX.out
      clear hx hy u1 u2
      have CA := fun z : Und W1 => und_call z (sameBools_c x P1 P2 p1 t1 t2 (und W1 z) B (U1.out.und hBw z) (U2.out.und hBw z) (Nat.le_trans hBw (und_size z)))
      go_upto_region 6 with fail
      refine wp_region_und (by kernel_rfl) (by kernel_rfl) ?_
      repeat (go_big_quiet_step ((first | (go_at_call 21; with_reducible exact CA _))))
      refine wpQuiet_nil ?_
      intro X hX
      clear b3 d3 e1 e2 CA
      go_wp2
      go_roundg (n3 - (k + 1))
      case measure => omega
      case rel => exact ⟨k + 1, Nat.le_refl _, by omega, by go_num, Lib.hid (below_step HX.out hX)⟩
    · as_aux_lemma =>
      obtain rfl : k = n3 := by omega
      have f1 : ¬ ((k : Nat) : Int) < (k : Nat) := by omega
      go_wp2
      go_ret
      exact ⟨rfl, below_step HB0.out HX.out⟩
theorem Try.infoSnap : (Try.prog.info? 53).map (fun i => (i.zero, i.size, i.bytes)) = some (some (.agg #[.int .i64 0, .int .i64 0, .int .i64 0, .int .i64 0]), 4, 32) := by kernel_rfl
set_option maxRecDepth 100000 in
set_option maxHeartbeats 4000000 in
theorem coinsCur_c (code : List Int) (A : Option Addr) (n c g K : Nat) (w : World) (B : Nat) (hc : Mm.SlAt Mm.u8 w B code A n c) (hBg : B ≤ g) (h : (Mm.tcur 72 A n c g K).holds w) (hK : K < 4611686018427380000) :
    Calls Try.prog 43 #[.pointer (some ⟨g, 0, none⟩)] w fun e w' => ∃ (l : List Int) (A1 : Option Addr) (n1 c1 : Nat) (fp : List Nat), e = .returned (.slice A1 n1 c1) ∧ l.length ≤ 5 ∧ Mm.SepF [g] w w' [Mm.tsl Mm.int 3 l (.slice A1 n1 c1) fp, Mm.tcur 72 A n c g (K + 20)] := by
  have hgw : g < w.heap.size := (Mm.tcur 72 A n c g K).lt h g (by simp [Mm.tcur])
  have HC := Lib.hid hc
  have HS : Hid (Mm.SepF [g] w w [Mm.tcur 72 A n c g K]) := Mm.SepF.one (Mm.tcur 72 A n c g K) w h (by simp [Mm.tcur])
  clear hc h
  go_enter Try.func43, Try.ntmps43
  go_upto_if 9 with first
    | ((go_at_call 63); (refine (pick_c code A n c g _ _ _ B (HC.out.keep fun b hb => HS.out.chg.block b (by omega) (by simp; omega)) hBg (HS.out.at_ 0 rfl) (by omega) (by omega)).mono ?_); (rintro e w1 ⟨b1, rfl, b10, b1x, b11, hL⟩); ((have HS1 := Lib.hid (HS.out.call 0 rfl hL))); (clear hL))
  have b12 := b11 (by omega)
  clear b11 HS
  have HS := Lib.hid ((HS1.out.add (Below.refl _ _) (t := Mm.tsl Mm.int 3 [] (.slice none 0 0) []) Mm.SlOwn.nil List.nodup_nil (fun b hb => by cases hb)))
  clear HS1
  have hwr : IntKind.i64.wrap (1 + b1) = 1 + b1 := IntWalk.i64_in _ (by omega)
  go_loopg [3, 4] 5 (fun gg l nn wr => ∃ (k mm : Nat) (ls : List Int) (A1 : Option Addr) (c1 : Nat) (fp : List Nat) (Kc : Nat), k ≤ gg ∧ nn = .int .i64 k ∧ Hid (mm = ls.length) ∧ 1 ≤ k + mm ∧ k + mm ≤ 5 ∧ l = .slice A1 mm c1 ∧ Kc + k ≤ K + 10 ∧ Hid (Mm.SepF [g] w wr [Mm.tsl Mm.int 3 ls (.slice A1 mm c1) fp, Mm.tcur 72 A n c g Kc]))
  case atStart => exact ⟨(1 + b1).toNat, 0, [], none, 0, [], K + 1, by omega, by rw [Int.toNat_of_nonneg (by omega)], rfl, by omega, by omega, rfl, by omega, HS⟩
  case round =>
    obtain ⟨k, mm, ls, A1, c1, fp, Kc, hkg, rfl, hml, hk1', hkm, rfl, hKc, HS⟩ := hrel
    obtain ⟨Wr, rfl⟩ : ∃ Wr : World, Wr = wr := ⟨_, rfl⟩
    by_cases hk0 : 0 < k
    · have hk1 : (0 : Int) < (k : Nat) := by omega
      obtain ⟨i0, hi, hz0, hz1, hz2⟩ := info_parts Try.infoIntD
      go_wp2_with first
        | ((go_at_call 63); (refine (pick_c code A n c g _ _ _ B (HC.out.keep fun b hb => HS.out.chg.block b (by omega) (by simp; omega)) hBg (HS.out.at_ 1 rfl) (by omega) (by omega)).mono ?_); (rintro e w1 ⟨b2, rfl, b20, b2x, b21, hL⟩); ((have HS1 := Lib.hid (HS.out.call 1 rfl hL))); (clear hL))
        | (at_builtin; refine Mm.app_list (x := b2) HS1.out 0 rfl rfl (.tmp 12) (.tmp 15) 22 rfl i0 _ 8 Try.underlying22 hi hz0 hz1 hz2 rfl (by decide) rfl rfl (fun W => ⟨rfl, by unfold Mm.I64; omega, rfl⟩) hml.out.symm (by unfold maxLen; omega) (by omega) ?_; intro ga cap w' fp' hs; (have HS4 := Lib.hid hs); clear hs)
      go_roundg (k - 1)
      case measure => omega
      case rel => exact ⟨k - 1, mm + 1, _, _, cap, fp', Kc + 1, Nat.le_refl _, by go_num, by show _ = _; rw [List.length_append, hml.out]; rfl, by omega, by omega, rfl, by omega, HS4⟩
    · have hk1 : ¬ (0 : Int) < (k : Nat) := by omega
      go_upto_if 18 with ((go_at_call 64); (refine (one_c code A n c g _ _ _ B (HC.out.keep fun b hb => HS.out.chg.block b (by omega) (by simp; omega)) hBg (HS.out.at_ 1 rfl) (by omega) (by omega)).mono ?_); (rintro e w1 ⟨b9, rfl, hL⟩); ((have HS1 := Lib.hid (HS.out.call 1 rfl hL))); (clear hL))
      cases b9
      · go_wp2_with fail
        go_ret
        first
          | exact ⟨ls, _, _, _, fp, rfl, by rw [← hml.out]; omega, HS1.out.more 1 rfl (by omega)⟩
          | exact ⟨ls, _, _, _, rfl, by rw [← hml.out]; omega, fp, HS1.out.more 1 rfl (by omega)⟩
      · have HA := Lib.hid (HS1.out.alloc' rfl 3 [.int .i64 (-1), .int .i64 50, .int .i64 51])
        have hgW := Nat.lt_of_lt_of_le hgw HS1.out.chg.size
        obtain ⟨ga, hga, -, -⟩ := Mm.sl_addr (HS1.out.sl 0 rfl) (by rw [← hml.out]; omega)
        subst hga
        obtain ⟨a0, ha0⟩ : ∃ a, ls[0]? = some a := ⟨_, List.getElem?_eq_getElem (by rw [← hml.out]; omega)⟩
        have f1 : (0 : Int) < (mm : Nat) := by omega
        go_wp2_with (go_at_call 65; refine (among_c code A n c g _ [-1, 50, 51] _ 3 _ B (HC.out.keep fun b hb => HA.out.chg.block b (by omega) (by simp; omega)) hBg (HA.out.at_ 2 rfl) (by omega) (HA.out.at_ 0 rfl) (by have := HS1.out.chg.size; omega) rfl (by omega) (by omega)).mono ?_; rintro e w5 ⟨v, rfl, hv, hL⟩; (have HS5 := Lib.hid ((HA.out.call 2 rfl hL).tail)); clear hL HA; have e1 := int_ocell (HS5.out.sl 0 rfl) (HS5.out.ndat (i := 0) rfl) ha0; have z1 := (HS5.out.sl 0 rfl).frozen 0)
        have hvi : Mm.I64 v := by simp only [List.mem_cons, List.not_mem_nil, or_false] at hv; unfold Mm.I64; omega
        go_ret
        exact ⟨_, _, _, _, _, rfl, by rw [List.length_set, ← hml.out]; omega, (HS5.out.put1 (k := 0) 0 rfl rfl ha0 (x' := v) (u := .int .i64 v) (fun cs fx hh => by obtain ⟨rfl, _, rfl⟩ := hh; exact ⟨rfl, hvi, rfl⟩)).more 1 rfl (by omega)⟩
set_option maxRecDepth 100000 in
set_option maxHeartbeats 4000000 in
theorem snapSteps_c (code : List Int) (A : Option Addr) (n c g K N : Nat) (w : World) (B : Nat) (hc : Mm.SlAt Mm.u8 w B code A n c) (hBg : B ≤ g) (h : (Mm.tcur 72 A n c g K).holds w) (hK : K < 4611686018427380000) (hN : N ≤ 200) :
    Calls Try.prog 44 #[.pointer (some ⟨g, 0, none⟩), .int .i64 N] w fun e w' => ∃ (l : List SnapStep) (A1 : Option Addr) (n1 c1 : Nat) (fp : List Nat), e = .returned (.slice A1 n1 c1) ∧ l.length ≤ 121 ∧ Mm.SepF [g] w w' [Mm.tsl rSnapStep 53 l (.slice A1 n1 c1) fp, Mm.tcur 72 A n c g (K + 1000)] := by
  have hgw : g < w.heap.size := (Mm.tcur 72 A n c g K).lt h g (by simp [Mm.tcur])
  have HC := Lib.hid hc
  have HS : Hid (Mm.SepF [g] w w [Mm.tcur 72 A n c g K]) := Mm.SepF.one (Mm.tcur 72 A n c g K) w h (by simp [Mm.tcur])
  clear hc h
  go_enter Try.func44, Try.ntmps44
  go_upto_if 11 with first
    | ((go_at_call 63); (refine (pick_c code A n c g _ _ _ B (HC.out.keep fun b hb => HS.out.chg.block b (by omega) (by simp; omega)) hBg (HS.out.at_ 0 rfl) (by omega) (by omega)).mono ?_); (rintro e w1 ⟨b1, rfl, b10, b1x, b11, hL⟩); ((have HS1 := Lib.hid (HS.out.call 0 rfl hL))); (clear hL))
    | ((go_at_call 64); (refine (one_c code A n c g _ _ _ B (HC.out.keep fun b hb => HS1.out.chg.block b (by omega) (by simp; omega)) hBg (HS1.out.at_ 0 rfl) (by omega) (by omega)).mono ?_); (rintro e w1 ⟨b9, rfl, hL⟩); ((have HS2 := Lib.hid (HS1.out.call 0 rfl hL))); (clear hL))
  have b12 := b11 (by omega)
  clear b11 HS HS1
  go_cut [6] (fun s6 wx => ∃ m : Int, s6 = .int .i64 m ∧ 0 ≤ m ∧ m ≤ 121 ∧ Mm.SepF [g] w wx [Mm.tcur 72 A n c g (K + 3)])
  case first =>
    cases b9
    · go_wp2_with fail
      go_meet
      exact ⟨_, rfl, b10, by omega, HS2.out.more 0 rfl (by omega)⟩
    · go_wp2_with ((go_at_call 63); (refine (pick_c code A n c g _ _ _ B (HC.out.keep fun b hb => HS2.out.chg.block b (by omega) (by simp; omega)) hBg (HS2.out.at_ 0 rfl) (by omega) (by omega)).mono ?_); (rintro e w1 ⟨b2, rfl, b20, b2x, b21, hL⟩); ((have HS3 := Lib.hid (HS2.out.call 0 rfl hL))); (clear hL); have b22 := b21 (by omega))
      go_meet
      exact ⟨_, rfl, by omega, by omega, HS3.out.more 0 rfl (by omega)⟩
  case rest =>
  clear HS2
  obtain ⟨m, rfl, hm0, hm1, HS⟩ := hcut
  have HS := Lib.hid ((HS.add (Below.refl _ _) (t := Mm.tsl rSnapStep 53 [] (.slice none 0 0) []) Mm.SlOwn.nil List.nodup_nil (fun b hb => by cases hb)))
  go_wp2_with fail
  go_loopg [5, 6] 121 (fun gg l nn wr => ∃ (k mm : Nat) (ls : List SnapStep) (A1 : Option Addr) (c1 : Nat) (fp : List Nat) (Kc : Nat), k ≤ gg ∧ nn = .int .i64 k ∧ Hid (mm = ls.length) ∧ k + mm ≤ 121 ∧ l = .slice A1 mm c1 ∧ Kc + 7 * k ≤ K + 900 ∧ Hid (Mm.SepF [g] w wr [Mm.tsl rSnapStep 53 ls (.slice A1 mm c1) fp, Mm.tcur 72 A n c g Kc]))
  case atStart => exact ⟨m.toNat, 0, [], none, 0, [], K + 3, by omega, by rw [Int.toNat_of_nonneg hm0], rfl, by omega, rfl, by omega, HS⟩
  case round =>
    obtain ⟨k, mm, ls, A1, c1, fp, Kc, hkg, rfl, hml, hkm, rfl, hKc, HS⟩ := hrel
    obtain ⟨Wr, rfl⟩ : ∃ Wr : World, Wr = wr := ⟨_, rfl⟩
    by_cases hk0 : 0 < k
    · have hk1 : (0 : Int) < (k : Nat) := by omega
      have hgW : g < Wr.heap.size := Nat.lt_of_lt_of_le hgw HS.out.chg.size
      have HA := Lib.hid (HS.out.alloc' rfl 3 [.int .i64 1, .int .i64 1, .int .i64 1, .int .i64 2, .int .i64 2, .int .i64 2, .int .i64 2, .int .i64 2])
      obtain ⟨i0, hi, hz0, hz1, hz2⟩ := info_parts Try.infoSnap
      go_upto_if 31 with first
        | ((go_at_call 63); (refine (pick_c code A n c g _ _ _ B (HC.out.keep fun b hb => HS2.out.chg.block b (by omega) (by simp; omega)) hBg (HS2.out.at_ 1 rfl) (by omega) (by omega)).mono ?_); (rintro e w1 ⟨b3, rfl, b30, b3x, b31, hL⟩); ((have HS3 := Lib.hid (HS2.out.call 1 rfl hL))); (clear hL))
        | ((go_at_call 63); (refine (pick_c code A n c g _ _ _ B (HC.out.keep fun b hb => HS1.out.chg.block b (by omega) (by simp; omega)) hBg (HS1.out.at_ 1 rfl) (by omega) (by omega)).mono ?_); (rintro e w1 ⟨b2, rfl, b20, b2x, b21, hL⟩); ((have HS2 := Lib.hid (HS1.out.call 1 rfl hL))); (clear hL))
        | (go_at_call 65; refine (among_c code A n c g _ [1, 1, 1, 2, 2, 2, 2, 2] Wr.heap.size 8 _ B (HC.out.keep fun b hb => HA.out.chg.block b (by omega) (by simp; omega)) hBg (HA.out.at_ 2 rfl) (by omega) (HA.out.at_ 0 rfl) (by omega) rfl (by omega) (by omega)).mono ?_; rintro e w1 ⟨v, rfl, hv, hL⟩; (have HS1 := Lib.hid ((HA.out.call 2 rfl hL).tail)); clear hL HA; (have hvi : v = 1 ∨ v = 2 := by simp only [List.mem_cons, List.not_mem_nil, or_false] at hv; omega); clear hv)
      clear HS1 HS2 HS
      obtain ⟨gb, hgb⟩ : ∃ gb, w1.heap.size = gb := ⟨_, rfl⟩
      have HS4 := Lib.hid (HS3.out.alloc' hgb 53 [.int .i64 v, .int .i64 b2, .int .i64 b3, .int .i64 0])
      have hgb1 : gb < (w1.alloc (.cells #[.int .i64 v, .int .i64 b2, .int .i64 b3, .int .i64 0] 53)).heap.size := by rw [Mm.sz1, hgb]; omega
      have hggb : g ≠ gb := by have := HS3.out.chg.size; omega
      rw [hgb]
      clear HS3
      go_cut [] (fun wx => ∃ s : SnapStep, Mm.I64 s.Kind ∧ Mm.I64 s.From ∧ Mm.I64 s.To ∧ Mm.I64 s.Many ∧ Mm.SepF [g] w wx [Mm.tblk gb 53 [.int .i64 s.Kind, .int .i64 s.From, .int .i64 s.To, .int .i64 s.Many], Mm.tsl rSnapStep 53 ls (.slice A1 mm c1) fp, Mm.tcur 72 A n c g (Kc + 4)])
      case first =>
        rcases hvi with rfl | rfl
        · as_aux_lemma =>
          go_wp2_with ((go_at_call 63); (refine (pick_c code A n c g _ _ _ B (HC.out.keep fun b hb => HS4.out.chg.block b (by omega) (by simp; omega)) hBg (HS4.out.at_ 2 rfl) (by omega) (by omega)).mono ?_); (rintro e w1 ⟨b4, rfl, b40, b4x, b41, hL⟩); ((have HS5 := Lib.hid (HS4.out.call 2 rfl hL))); (clear hL); have e3 := HS5.out.cell (k := 3) 0 rfl rfl; have z3 := HS5.out.frz (k := 3) 0 rfl; have hw5 : IntKind.i64.wrap (1 + b4) = 1 + b4 := IntWalk.i64_in _ (by omega))
          go_meet
          exact ⟨⟨1, b2, b3, 1 + b4⟩, by show Mm.I64 1; unfold Mm.I64; omega, by show Mm.I64 b2; unfold Mm.I64; omega, by show Mm.I64 b3; unfold Mm.I64; omega, by show Mm.I64 (1 + b4); unfold Mm.I64; omega, (HS5.out.setBlk (k := 3) 0 rfl (.int .i64 (1 + b4))).more 2 rfl (by omega)⟩
        · as_aux_lemma =>
          go_wp2_with fail
          go_meet
          exact ⟨⟨2, b2, b3, 0⟩, by show Mm.I64 2; unfold Mm.I64; omega, by show Mm.I64 b2; unfold Mm.I64; omega, by show Mm.I64 b3; unfold Mm.I64; omega, by show Mm.I64 0; unfold Mm.I64; omega, HS4.out.more 2 rfl (by omega)⟩
      case rest =>
      clear HS4 hgb1
      obtain ⟨s, j0, j1, j2, j3, hs⟩ := hcut
      have HS := Lib.hid hs
      clear hs
      go_upto_if 37 with ((go_at_call 64); (refine (one_c code A n c g _ _ _ B (HC.out.keep fun b hb => HS.out.chg.block b (by omega) (by simp; omega)) hBg (HS.out.at_ 2 rfl) (by omega) (by omega)).mono ?_); (rintro e w1 ⟨b9', rfl, hL⟩); ((have HS1 := Lib.hid (HS.out.call 2 rfl hL))); (clear hL))
      go_cut [] (fun wx => ∃ s : SnapStep, Mm.I64 s.Kind ∧ Mm.I64 s.From ∧ Mm.I64 s.To ∧ Mm.I64 s.Many ∧ Mm.SepF [g] w wx [Mm.tblk gb 53 [.int .i64 s.Kind, .int .i64 s.From, .int .i64 s.To, .int .i64 s.Many], Mm.tsl rSnapStep 53 ls (.slice A1 mm c1) fp, Mm.tcur 72 A n c g (Kc + 6)])
      case first =>
        cases b9'
        · as_aux_lemma =>
          go_wp2_with fail
          go_meet
          exact ⟨s, j0, j1, j2, j3, HS1.out.more 2 rfl (by omega)⟩
        · as_aux_lemma =>
          go_wp2_with ((go_at_call 63); (refine (pick_c code A n c g _ _ _ B (HC.out.keep fun b hb => HS1.out.chg.block b (by omega) (by simp; omega)) hBg (HS1.out.at_ 2 rfl) (by omega) (by omega)).mono ?_); (rintro e w1 ⟨b4, rfl, b40, b4x, b41, hL⟩); ((have HS5 := Lib.hid (HS1.out.call 2 rfl hL))); (clear hL); have e0 := HS5.out.cell (k := 0) 0 rfl rfl; have e1 := HS5.out.cell (k := 1) 0 rfl rfl; have e2 := HS5.out.cell (k := 2) 0 rfl rfl; have e3 := HS5.out.cell (k := 3) 0 rfl rfl; have z0 := HS5.out.frz (k := 0) 0 rfl; have z1 := HS5.out.frz (k := 1) 0 rfl; have z2 := HS5.out.frz (k := 2) 0 rfl; have z3 := HS5.out.frz (k := 3) 0 rfl)
          go_meet
          exact ⟨⟨3, b4, 0, 0⟩, by show Mm.I64 3; unfold Mm.I64; omega, by show Mm.I64 b4; unfold Mm.I64; omega, by show Mm.I64 0; unfold Mm.I64; omega, by show Mm.I64 0; unfold Mm.I64; omega, ((((HS5.out.setBlk (k := 0) 0 rfl (.int .i64 3)).setBlk (k := 1) 0 rfl (.int .i64 b4)).setBlk (k := 2) 0 rfl (.int .i64 0)).setBlk (k := 3) 0 rfl (.int .i64 0)).more 2 rfl (by omega)⟩
      case rest =>
      clear HS1 HS j0 j1 j2 j3
      obtain ⟨s, j0, j1, j2, j3, hs⟩ := hcut
      have HS := Lib.hid hs
      have HJ := Lib.hid (And.intro j0 (And.intro j1 (And.intro j2 j3)))
      clear hs j0 j1 j2 j3
      have e0 := HS.out.cell (k := 0) 0 rfl rfl
      have e1 := HS.out.cell (k := 1) 0 rfl rfl
      have e2 := HS.out.cell (k := 2) 0 rfl rfl
      have e3 := HS.out.cell (k := 3) 0 rfl rfl
      go_wp2_with (at_builtin; refine Mm.app_list (x := s) HS.out 1 rfl rfl (.tmp 42) (.tmp 44) 33 rfl i0 _ 32 Try.underlying33 hi hz0 hz1 hz2 rfl (by decide) rfl rfl (fun W => rSnapStep_own_mk HJ.out) hml.out.symm (by unfold maxLen; omega) (by omega) ?_; intro ga cap w' fp' hs; (have HS4 := Lib.hid hs); clear hs)
      go_roundg (k - 1)
      case measure => omega
      case rel => exact ⟨k - 1, mm + 1, _, _, cap, fp', Kc + 6, Nat.le_refl _, by go_num, by show _ = _; rw [List.length_append, hml.out]; rfl, by omega, rfl, by omega, Lib.hid HS4.out.tail⟩
    · have hk1 : ¬ (0 : Int) < (k : Nat) := by omega
      by_cases hm0 : mm = 0
      · subst hm0
        have f0 : ¬ (0 : Int) < ((0 : Nat) : Int) := by omega
        go_wp2_with fail
        go_ret
        first
          | exact ⟨ls, _, _, _, fp, rfl, by rw [← hml.out]; omega, HS.out.more 1 rfl (by omega)⟩
          | exact ⟨ls, _, _, _, rfl, by rw [← hml.out]; omega, fp, HS.out.more 1 rfl (by omega)⟩
      have f0 : (0 : Int) < (mm : Nat) := by omega
      go_upto_if 52 with ((go_at_call 64); (refine (one_c code A n c g _ _ _ B (HC.out.keep fun b hb => HS.out.chg.block b (by omega) (by simp; omega)) hBg (HS.out.at_ 1 rfl) (by omega) (by omega)).mono ?_); (rintro e w1 ⟨b9, rfl, hL⟩); ((have HS1 := Lib.hid (HS.out.call 1 rfl hL))); (clear hL))
      cases b9
      · go_wp2_with fail
        go_ret
        first
          | exact ⟨ls, _, _, _, fp, rfl, by rw [← hml.out]; omega, HS1.out.more 1 rfl (by omega)⟩
          | exact ⟨ls, _, _, _, rfl, by rw [← hml.out]; omega, fp, HS1.out.more 1 rfl (by omega)⟩
      · obtain ⟨ga, hga, -, -⟩ := Mm.sl_addr (HS1.out.sl 0 rfl) (by rw [← hml.out]; omega)
        subst hga
        obtain ⟨a0, ha0⟩ : ∃ a, ls[0]? = some a := ⟨_, List.getElem?_eq_getElem (by rw [← hml.out]; omega)⟩
        clear HS
        go_wp2_with first
          | ((go_at_call 63); (refine (pick_c code A n c g _ _ _ B (HC.out.keep fun b hb => HS4.out.chg.block b (by omega) (by simp; omega)) hBg (HS4.out.at_ 1 rfl) (by omega) (by omega)).mono ?_); (rintro e w1 ⟨p4, rfl, p40, p4x, p41, hL⟩); ((have HS5 := Lib.hid (HS4.out.call 1 rfl hL))); (clear hL); (have ee := rSnapStep_ocell (HS5.out.sl 0 rfl) (HS5.out.ndat (i := 0) rfl) ha0); obtain ⟨e0, e1, e2, e3⟩ := ee; have z0 := (HS5.out.sl 0 rfl).frozen 0; have z1 := (HS5.out.sl 0 rfl).frozen 1; have z2 := (HS5.out.sl 0 rfl).frozen 2; have z3 := (HS5.out.sl 0 rfl).frozen 3)
          | ((go_at_call 63); (refine (pick_c code A n c g _ _ _ B (HC.out.keep fun b hb => HS3.out.chg.block b (by omega) (by simp; omega)) hBg (HS3.out.at_ 1 rfl) (by omega) (by omega)).mono ?_); (rintro e w1 ⟨p3, rfl, p30, p3x, p31, hL⟩); ((have HS4 := Lib.hid (HS3.out.call 1 rfl hL))); (clear hL); have hw3 : IntKind.i64.wrap (p3 - 1) = p3 - 1 := IntWalk.i64_in _ (by omega))
          | ((go_at_call 63); (refine (pick_c code A n c g _ _ _ B (HC.out.keep fun b hb => HS2.out.chg.block b (by omega) (by simp; omega)) hBg (HS2.out.at_ 1 rfl) (by omega) (by omega)).mono ?_); (rintro e w1 ⟨p2, rfl, p20, p2x, p21, hL⟩); ((have HS3 := Lib.hid (HS2.out.call 1 rfl hL))); (clear hL); have hw2 : IntKind.i64.wrap (p2 - 1) = p2 - 1 := IntWalk.i64_in _ (by omega))
          | ((go_at_call 63); (refine (pick_c code A n c g _ _ _ B (HC.out.keep fun b hb => HS1.out.chg.block b (by omega) (by simp; omega)) hBg (HS1.out.at_ 1 rfl) (by omega) (by omega)).mono ?_); (rintro e w1 ⟨p1, rfl, p10, p1x, p11, hL⟩); ((have HS2 := Lib.hid (HS1.out.call 1 rfl hL))); (clear hL))
        have hI1 : Mm.I64 p1 := by unfold Mm.I64; omega
        have hI2 : Mm.I64 (p2 - 1) := by unfold Mm.I64; omega
        have hI3 : Mm.I64 (p3 - 1) := by unfold Mm.I64; omega
        have hI4 : Mm.I64 p4 := by unfold Mm.I64; omega
        have hl0 : 0 < ls.length := by rw [← hml.out]; omega
        have hp1 := HS5.out.putSl (k := 0) (m := 0) (x' := (⟨p1, a0.From, a0.To, a0.Many⟩ : SnapStep)) (u := .int .i64 p1) 0 rfl ha0 (by decide) (fun cs fx hh => by obtain ⟨rfl, q, rfl⟩ := rSnapStep_own hh; exact rSnapStep_own_mk (x := ⟨p1, a0.From, a0.To, a0.Many⟩) ⟨hI1, q.2⟩)
        have hp2 := hp1.putSl (k := 0) (m := 1) (x := (⟨p1, a0.From, a0.To, a0.Many⟩ : SnapStep)) (x' := (⟨p1, p2 - 1, a0.To, a0.Many⟩ : SnapStep)) (u := .int .i64 (p2 - 1)) 0 rfl (by rw [List.getElem?_set_self hl0]) (by decide) (fun cs fx hh => by obtain ⟨rfl, q, rfl⟩ := rSnapStep_own hh; exact rSnapStep_own_mk (x := ⟨p1, p2 - 1, a0.To, a0.Many⟩) ⟨hI1, hI2, q.2.2⟩)
        have hp3 := hp2.putSl (k := 0) (m := 2) (x := (⟨p1, p2 - 1, a0.To, a0.Many⟩ : SnapStep)) (x' := (⟨p1, p2 - 1, p3 - 1, a0.Many⟩ : SnapStep)) (u := .int .i64 (p3 - 1)) 0 rfl (by rw [List.set_set, List.getElem?_set_self hl0]) (by decide) (fun cs fx hh => by obtain ⟨rfl, q, rfl⟩ := rSnapStep_own hh; exact rSnapStep_own_mk (x := ⟨p1, p2 - 1, p3 - 1, a0.Many⟩) ⟨hI1, hI2, hI3, q.2.2.2⟩)
        have hp4 := hp3.putSl (k := 0) (m := 3) (x := (⟨p1, p2 - 1, p3 - 1, a0.Many⟩ : SnapStep)) (x' := (⟨p1, p2 - 1, p3 - 1, p4⟩ : SnapStep)) (u := .int .i64 p4) 0 rfl (by rw [List.set_set, List.set_set, List.getElem?_set_self hl0]) (by decide) (fun cs fx hh => by obtain ⟨rfl, q, rfl⟩ := rSnapStep_own hh; exact rSnapStep_own_mk (x := ⟨p1, p2 - 1, p3 - 1, p4⟩) ⟨hI1, hI2, hI3, hI4⟩)
        go_ret
        exact ⟨_, _, _, _, _, rfl, by rw [List.length_set, List.length_set, List.length_set, List.length_set, ← hml.out]; omega, hp4.more 1 rfl (by omega)⟩
def DrawnBank (w : World) (e : Ending) (w' : World) : Prop := ∃ (coins : List Int) (l : List SnapStep) (A0 : Option Addr) (n0 c0 : Nat) (A1 : Option Addr) (n1 c1 : Nat), e = .returned (.tuple #[.slice A0 n0 c0, .slice A1 n1 c1]) ∧ coins.length ≤ 5 ∧ l.length ≤ 121 ∧ Mm.SlAt Mm.int w' w'.heap.size coins A0 n0 c0 ∧ Mm.SlAt rSnapStep w' w'.heap.size l A1 n1 c1 ∧ Below w.heap.size w w'
set_option maxRecDepth 100000 in
theorem DrawPlayBank_c (code : List Int) (A : Option Addr) (n c : Nat) (w : World) (B : Nat) (hc : Mm.SlAt Mm.u8 w B code A n c) (hB : B ≤ w.heap.size) :
    Calls Try.prog 20 #[.slice A n c] w (DrawnBank w) := by
  have hg0 : (Mm.tcur 72 A n c w.heap.size 0).holds (w.alloc (.cells #[.slice A n c, .int .i64 0, .int .u64 0] 72)) := ⟨0, 0, Mm.Blk.new w 72 [.slice A n c, .int .i64 0, .int .u64 0], by omega, by omega⟩
  have HC := Lib.hid (hc.keep (w' := w.alloc (.cells #[.slice A n c, .int .i64 0, .int .u64 0] 72)) fun b hb => (below_new (Below.refl _ w) _).block b (by omega))
  have HS : Hid (Mm.SepF [w.heap.size] (w.alloc (.cells #[.slice A n c, .int .i64 0, .int .u64 0] 72)) (w.alloc (.cells #[.slice A n c, .int .i64 0, .int .u64 0] 72)) [Mm.tcur 72 A n c w.heap.size 0]) := Mm.SepF.one (Mm.tcur 72 A n c w.heap.size 0) _ hg0 (by simp [Mm.tcur])
  have hsw : (w.alloc (.cells #[.slice A n c, .int .i64 0, .int .u64 0] 72)).heap.size = w.heap.size + 1 := Mm.sz1 _ _
  obtain ⟨g, hg⟩ : ∃ g, w.heap.size = g := ⟨_, rfl⟩
  rw [hg] at HS hB hsw
  clear hc hg0
  go_enter Try.func20, Try.ntmps20
  go_wp2_with first
    | (go_at_call 43; refine (coinsCur_c code A n c g _ _ B (HC.out.keep fun b hb => HS.out.chg.block b (by omega) (by simp; omega)) hB (HS.out.at_ 0 rfl) (by omega)).mono ?_; rintro e w1 ⟨l0, A0, n0, c0, fp0, rfl, hl0, hS0⟩; (have hn0 : n0 ≤ 200 := by obtain ⟨_, _, _, hv, h1, _⟩ := (hS0.sl 0 rfl).form; injection hv with _ h2 _; omega); (have hch0 := (HS.out.chg).trans hS0.chg))
    | (go_at_call 44; refine (snapSteps_c code A n c g _ n0 _ B (HC.out.keep fun b hb => hch0.block b (by omega) (by simp; omega)) hB (hS0.at_ 1 rfl) (by omega) hn0).mono ?_; rintro e w1 ⟨l, A1, n1, c1, fp, rfl, hl, hS⟩; have hch := hch0.trans hS.chg)
  go_ret2
  refine ⟨l0, l, _, _, _, _, _, _, rfl, hl0, hl, ?_, (hS.sl 0 rfl).weak (hS.sl 0 rfl).olt, ?_⟩
  · have hap : ∀ b, b ∈ fp0 → b ≠ g := fun b hb h => hS0.apart (i := 0) (j := 1) rfl rfl (by decide) b hb (by rw [h]; simp [Mm.tcur])
    have hkp : Mm.SlAt Mm.int _ _ l0 A0 n0 c0 := ((hS0.sl 0 rfl).okeep fun b hb => hS.chg.block b ((hS0.sl 0 rfl).olt b hb) (by simp; exact hap b hb)).weak (B := _) (Mm.SlOwn.olt ((hS0.sl 0 rfl).okeep fun b hb => hS.chg.block b ((hS0.sl 0 rfl).olt b hb) (by simp; exact hap b hb)))
    exact hkp
  rw [hg]
  exact Mm.Below.chg (hg ▸ below_new (Below.refl _ w) _) hch (by rw [Mm.sz1]; omega) (by simp)
end Go.Proofs.Ytpmeagchkcffoaa
