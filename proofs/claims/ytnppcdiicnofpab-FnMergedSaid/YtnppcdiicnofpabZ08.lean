/-
  Joined texts, in build order: LwFnMerged, LawFnMerged. Each part says what it proves; no conditions beyond those that a part names.
-/
import Derived.Test.YtnppcdiicnofpabZ05
import Derived.Test.YtnppcdiicnofpabZ07
import Derived.Deep.DeepCutAuto
import Derived.Deep.CutBlock
import Derived.Test.YtnppcdiicnofpabRows
import Derived.WalkKit
import Derived.ProofKit
import Derived.OpenShut
import Derived.ShutString
import Derived.ChangeOld
import Derived.Below
/-
  The walk of the law on coarser totals and top groups (chapter 14). No conditions.
-/
namespace Go.Proofs.Ytnppcdiicnofpab
open Go.RowKit
attribute [local go_sem] und_cell World.cell?_alloc_some
theorem Pl.topOf_true {x : List Total} {op many : Int} {P : List Int} (h : Pl.topOf x op many = (P, true)) : Pl.totalsOk x = true ∧ (1 ≤ op ∧ op ≤ 4) ∧ (0 ≤ many ∧ many ≤ 40) ∧ P = (Pl.topTo (Pl.valAt (Pl.totalValues x op)) x.length).take many.toNat ∧ Pl.valuesOf x op = (Pl.totalValues x op, true) := by
  unfold Pl.topOf at h
  split at h
  · rename_i hc
    unfold Pl.topOk at hc
    rw [Bool.and_eq_true, Bool.and_eq_true] at hc
    injection h with h1 _
    exact ⟨hc.1.1, Pl.isIn_iff.1 hc.1.2, Pl.isIn_iff.1 hc.2, h1.symm, if_pos (by rw [hc.1.1, hc.1.2]; rfl)⟩
  · injection h with _ h2
    cases h2
set_option maxRecDepth 100000 in
set_option maxHeartbeats 8000000 in
theorem walk_FnMerged (A A' : Option Addr) (n c n' c' : Nat) (code more : List Int) (w : World) (hc : Mm.SlAt Mm.u8 w w.heap.size code A n c) (hm : Mm.SlAt Mm.u8 w w.heap.size more A' n' c') :
    Calls Try.prog 3 #[.slice A n c, .slice A' n' c'] w fun e w' => e = .returned (.bool true) ∧ Below w.heap.size w w' := by
  have HC := Lib.hid hc
  have HM := Lib.hid hm
  have hlc : n ≤ maxLen := Nat.le_trans hc.2.1 hc.2.2.1
  have hlm : n' ≤ maxLen := Nat.le_trans hm.2.1 hm.2.2.1
  unfold maxLen at hlc hlm
  clear hc hm
  by_cases hbig : (1048576 : Int) < wrap64 ((n : Int) + (n' : Int))
  · go_enter Try.func3, Try.ntmps3
    go_wp2
    go_ret
    exact ⟨rfl, Below.refl _ _⟩
  · go_enter Try.func3, Try.ntmps3
    go_upto_region 4 with (go_at_call 4; refine (DrawTotalsBy_c code _ _ _ _ w.heap.size HC.out (Nat.le_refl _)).mono ?_; rintro e w1 ⟨l, A1, n1, c1, f1, nms, A2, n2, c2, f2, rfl, hl, hn, hs1⟩; (have HF := Lib.hid ((((Mm.Facts.nil w).step hs1.bel0).put (f := Mm.fsl rItem l A1 n1 c1) (hs1.rdSl 0 rfl)).put (f := Mm.fsl Mm.str nms A2 n2 c2) (hs1.rdSl 1 rfl))); clear hs1)
    clear hbig
    obtain ⟨ts, ok, hr⟩ : ∃ ts ok, Pl.tby l nms = (ts, ok) := ⟨_, _, rfl⟩
    have HR := Lib.hid hr
    clear hr
    have CC := implTotalsBy_c l A1 n1 c1 nms A2 n2 c2 w1 _ (HF.out.sl 0 rfl) (HF.out.sl 1 rfl) (Nat.le_refl _)
    rw [HR.out] at CC
    go_upto_region 5 with (go_at_call 5; ((with_reducible refine CC.mono ?_)); (clear CC); (rintro e w2 ⟨A3, n3, c3, fp, rfl, ho, hnd, hnew, hb⟩); (replace HF := Lib.hid ((HF.out.step hb).put (f := Mm.fsl rTotal ts A3 n3 c3) (ho.weak ho.olt))); (clear ho hnd hnew hb))
    have hl2 : nms.length = n2 := (HF.out.sl 1 rfl).1
    have HL2 := Lib.hid hl2
    clear hl2
    go_cut [61] (fun t wx => ∃ bv, t = .bool bv ∧ Hid (bv = (ok && decide (0 < n2))) ∧ wx = w2)
    case first =>
      cases ok with
      | true =>
        by_cases k2 : 0 < n2
        · have q2 : (0 : Int) < (n2 : Int) := by omega
          go_wp2
          go_meet
          exact ⟨true, rfl, by show _ = _; simp [k2], rfl⟩
        · have q2 : ¬ (0 : Int) < (n2 : Int) := by omega
          go_wp2
          go_meet
          exact ⟨false, rfl, by show _ = _; simp; omega, rfl⟩
      | false =>
        go_wp2
        go_meet
        exact ⟨false, rfl, by show _ = _; simp, rfl⟩
    case rest =>
    obtain ⟨bv, rfl, HBV, rfl⟩ := hcut
    go_upto_if 61 with fail
    go_cut [] (fun wx => Below w.heap.size w wx)
    case first =>
      cases bv with
      | false =>
        go_wp2_with fail
        go_meet
        exact HF.out.bel
      | true =>
        have hok : ok = true ∧ 0 < n2 := by have h := HBV.out.symm; rw [Bool.and_eq_true, decide_eq_true_eq] at h; exact h
        obtain ⟨rfl, hn2⟩ := hok
        have HT := Lib.hid (Pl.tby_true HR.out)
        have hn6 : n2 ≤ 6 := by have := HT.out.2.1; have := HL2.out; omega
        have hcap := (HF.out.sl 1 rfl).2.1
        have hcm := (HF.out.sl 1 rfl).2.2.1
        unfold maxLen at hcm
        have hw1 : wrap64 ((n2 : Int) + 1) = (n2 : Int) + 1 := IntWalk.wrap64_in _ (by omega)
        have g0 : (n2 : Int) + 1 ≠ 0 := by omega
        go_upto_region 6 with fail
        have CN := numberOf_c more _ _ _ wc w.heap.size (HM.out.keep fun b hb => HF.out.bel.block b hb)
        go_upto_region 7 with (go_at_call 6; (with_reducible refine CN.mono ?_); clear CN; rintro e w7 ⟨q, rfl, q0, q1, rfl⟩; (obtain ⟨k, hk⟩ : ∃ k : Nat, q % ((n2 : Int) + 1) = k := ⟨(q % ((n2 : Int) + 1)).toNat, by have := Int.emod_nonneg q g0; omega⟩); (have hkl : k ≤ n2 := by have := Int.emod_lt_of_pos q (show (0 : Int) < (n2 : Int) + 1 by omega); omega); (have f1 : ((k : Nat) : Int) ≤ (c2 : Nat) := by omega); (have f3 : ((k : Nat) : Int) ≤ (n2 : Nat) := by omega); (have f4 : (0 : Int) ≤ (k : Nat) := by omega))
        clear hk hw1 g0 q0 q1
        have HTK := Lib.hid ((HF.out.sl 1 rfl).take hkl)
        have hfl : (nms.take k).length ≤ 6 := by rw [List.length_take]; have := HL2.out; omega
        obtain ⟨tb, htb⟩ : ∃ tb, Pl.tby l (nms.take k) = (tb, true) := ⟨_, Pl.tby_of HT.out.1 hfl⟩
        have CC := implCoarseTotals_c ts A3 n3 c3 (nms.take k) A2 k c2 _ _ (HF.out.sl 2 rfl) HTK.out (Nat.le_refl _)
        rw [Pl.coarse_by HR.out (fun s => Pl.idxFrom_take s nms k) hfl, htb] at CC
        have HTB := Lib.hid htb
        clear htb hfl
        go_upto_region 8 with (go_at_call 7; ((with_reducible refine CC.mono ?_)); (clear CC); (rintro e w8 ⟨A5, n5, c5, fp, rfl, ho, hnd, hnew, hb⟩); (replace HF := Lib.hid ((HF.out.step hb).put (f := Mm.fsl rTotal tb A5 n5 c5) (ho.weak ho.olt))); (clear ho hnd hnew hb))
        have HTK := Lib.hid ((HF.out.sl 1 rfl).take hkl)
        have CC := implTotalsBy_c l A1 n1 c1 (nms.take k) A2 k c2 _ _ (HF.out.sl 0 rfl) HTK.out (Nat.le_refl _)
        rw [HTB.out] at CC
        go_upto_region 9 with (go_at_call 5; ((with_reducible refine CC.mono ?_)); (clear CC); (rintro e w9 ⟨A6, n6, c6, fp, rfl, ho, hnd, hnew, hb⟩); (replace HF := Lib.hid ((HF.out.step hb).put (f := Mm.fsl rTotal tb A6 n6 c6) (ho.weak ho.olt))); (clear ho hnd hnew hb))
        go_wp2_with (go_at_call 8; refine (sameTotals_c tb A5 A6 _ _ _ _ _ _ (HF.out.sl 3 rfl) (HF.out.sl 4 rfl) (Nat.le_refl _)).mono ?_; rintro e w10 ⟨rfl, hb⟩; (replace HF := Lib.hid (HF.out.step hb)); clear hb)
        go_meet
        exact HF.out.bel
    case rest =>
      clear HF HR HL2 HBV
      have HF : Hid (Mm.Facts w wc []) := ⟨hcut, fun f h => by cases h⟩
      clear hcut
      go_upto_region 12 with (go_at_call 9; refine (DrawCoarseTotals_c more _ _ _ _ w.heap.size (HM.out.keep fun b hb => HF.out.bel.block b hb) HF.out.bel.size).mono ?_; rintro e v1 ⟨la, B1, m1, d1, f1, nb, B2, m2, d2, f2, rfl, hl, hn, hs1⟩; (replace HF := Lib.hid (((HF.out.step hs1.bel0).put (f := Mm.fsl rTotal la B1 m1 d1) (hs1.rdSl 0 rfl)).put (f := Mm.fsl Mm.str nb B2 m2 d2) (hs1.rdSl 1 rfl))); clear hs1)
      obtain ⟨mm, o1, hr⟩ : ∃ mm o1, Pl.tcoarse la nb = (mm, o1) := ⟨_, _, rfl⟩
      have CC := implCoarseTotals_c la B1 m1 d1 nb B2 m2 d2 _ _ (HF.out.sl 0 rfl) (HF.out.sl 1 rfl) (Nat.le_refl _)
      rw [hr] at CC
      go_upto_region 13 with (go_at_call 7; ((with_reducible refine CC.mono ?_)); (clear CC); (rintro e v2 ⟨B3, m3, d3, fp, rfl, ho, hnd, hnew, hb⟩); (replace HF := Lib.hid ((HF.out.step hb).put (f := Mm.fsl rTotal mm B3 m3 d3) (ho.weak ho.olt))); (clear ho hnd hnew hb))
      have CC := specCoarseTotals_c la B1 m1 d1 nb B2 m2 d2 _ _ (HF.out.sl 0 rfl) (HF.out.sl 1 rfl) (Nat.le_refl _)
      rw [hr] at CC
      clear hr
      go_upto_region 14 with (go_at_call 10; ((with_reducible refine CC.mono ?_)); (clear CC); (rintro e v3 ⟨B4, m4, d4, fp, rfl, ho, hnd, hnew, hb⟩); (replace HF := Lib.hid ((HF.out.step hb).put (f := Mm.fsl rTotal mm B4 m4 d4) (ho.weak ho.olt))); (clear ho hnd hnew hb))
      go_upto_region 15 with (go_at_call 11; refine (DrawTopOf_c more _ _ _ _ w.heap.size (HM.out.keep fun b hb => HF.out.bel.block b hb) HF.out.bel.size).mono ?_; rintro e v4 ⟨x, B5, m5, d5, f5, op, many, rfl, hs1⟩; (replace HF := Lib.hid ((HF.out.step hs1.bel0).put (f := Mm.fsl rTotal x B5 m5 d5) (hs1.rdSl 0 rfl))); clear hs1)
      obtain ⟨P, o2, hr⟩ : ∃ P o2, Pl.topOf x op many = (P, o2) := ⟨_, _, rfl⟩
      have HTP := Lib.hid hr
      have CC := implTopOf_c x B5 m5 d5 op many _ _ (HF.out.sl 4 rfl) (Nat.le_refl _)
      rw [hr] at CC
      go_upto_region 16 with (go_at_call 12; ((with_reducible refine CC.mono ?_)); (clear CC); (rintro e v5 ⟨B6, m6, d6, fp, rfl, ho, hnd, hnew, hb⟩); (replace HF := Lib.hid ((HF.out.step hb).put (f := Mm.fsl Mm.int P B6 m6 d6) (ho.weak ho.olt))); (clear ho hnd hnew hb))
      have CC := specTopOf_c x B5 m5 d5 op many _ _ (HF.out.sl 4 rfl) (Nat.le_refl _)
      rw [hr] at CC
      clear hr
      go_upto_region 17 with (go_at_call 13; ((with_reducible refine CC.mono ?_)); (clear CC); (rintro e v6 ⟨B7, m7, d7, fp, rfl, ho, hnd, hnew, hb⟩); (replace HF := Lib.hid ((HF.out.step hb).put (f := Mm.fsl Mm.int P B7 m7 d7) (ho.weak ho.olt))); (clear ho hnd hnew hb))
      go_upto_region 18 with (go_at_call 14; refine (DrawValuesOf_c more _ _ _ _ w.heap.size (HM.out.keep fun b hb => HF.out.bel.block b hb) HF.out.bel.size).mono ?_; rintro e v7 ⟨y, B8, m8, d8, f8, by_, rfl, hs1⟩; (replace HF := Lib.hid ((HF.out.step hs1.bel0).put (f := Mm.fsl rTotal y B8 m8 d8) (hs1.rdSl 0 rfl))); clear hs1)
      obtain ⟨V, o3, hr⟩ : ∃ V o3, Pl.valuesOf y by_ = (V, o3) := ⟨_, _, rfl⟩
      have CC := implValuesOf_c y B8 m8 d8 by_ _ _ (HF.out.sl 7 rfl) (Nat.le_refl _)
      rw [hr] at CC
      go_upto_region 19 with (go_at_call 15; ((with_reducible refine CC.mono ?_)); (clear CC); (rintro e v8 ⟨B9, m9, d9, fp, rfl, ho, hnd, hnew, hb⟩); (replace HF := Lib.hid ((HF.out.step hb).put (f := Mm.fsl Mm.int V B9 m9 d9) (ho.weak ho.olt))); (clear ho hnd hnew hb))
      have CC := specValuesOf_c y B8 m8 d8 by_ _ _ (HF.out.sl 7 rfl) (Nat.le_refl _)
      rw [hr] at CC
      clear hr
      go_upto_region 20 with (go_at_call 16; ((with_reducible refine CC.mono ?_)); (clear CC); (rintro e v9 ⟨Ba, ma, da, fp, rfl, ho, hnd, hnew, hb⟩); (replace HF := Lib.hid ((HF.out.step hb).put (f := Mm.fsl Mm.int V Ba ma da) (ho.weak ho.olt))); (clear ho hnd hnew hb))
      obtain rfl : m6 = m7 := (HF.out.sl 5 rfl).1.symm.trans (HF.out.sl 6 rfl).1
      obtain rfl : m9 = ma := (HF.out.sl 8 rfl).1.symm.trans (HF.out.sl 9 rfl).1
      obtain ⟨gd, hgd⟩ : ∃ gd, Pl.totalsOk x = gd := ⟨_, rfl⟩
      have q1 : (o1 != o1) = false := by simp
      have q2 : (o2 != o2) = false := by simp
      have q3 : (o3 != o3) = false := by simp
      have q4 : (gd != gd) = false := by simp
      have HGD := Lib.hid hgd
      clear hgd
      go_upto_if 185 with (first
        | (go_at_call 8; (with_reducible refine (sameTotals_c mm B3 B4 m3 m4 d3 d4 _ _ (HF.out.sl 2 rfl) (HF.out.sl 3 rfl) (Nat.le_refl _)).mono ?_); rintro e va ⟨rfl, hb⟩; (replace HF := Lib.hid (HF.out.step hb)); clear hb)
        | (go_at_call 17; (with_reducible refine (sameInts_c P B6 B7 m6 d6 d7 _ _ (HF.out.sl 5 rfl) (HF.out.sl 6 rfl) (Nat.le_refl _)).mono ?_); rintro e vb ⟨rfl, hb⟩; (replace HF := Lib.hid (HF.out.step hb)); clear hb)
        | (go_at_call 17; (with_reducible refine (sameInts_c V B9 Ba m9 d9 da _ _ (HF.out.sl 8 rfl) (HF.out.sl 9 rfl) (Nat.le_refl _)).mono ?_); rintro e vc ⟨rfl, hb⟩; (replace HF := Lib.hid (HF.out.step hb)); clear hb)
        | (go_at_call 18; (with_reducible refine (implGoodTotals_c x B5 m5 d5 _ _ (HF.out.sl 4 rfl) (Nat.le_refl _)).mono ?_); rintro e vd ⟨rfl, hb⟩; (replace HF := Lib.hid (HF.out.step hb)); rw [HGD.out]; clear hb)
        | (go_at_call 19; (with_reducible refine (GoodTotals_c x B5 m5 d5 _ _ (HF.out.sl 4 rfl) (Nat.le_refl _)).mono ?_); rintro e ve ⟨rfl, hb⟩; (replace HF := Lib.hid (HF.out.step hb)); rw [HGD.out]; clear hb))
      clear q1 q2 q3 q4
      cases o2 with
      | false =>
        go_wp2
        go_ret
        exact ⟨rfl, HF.out.bel⟩
      | true =>
        have HT := Lib.hid (Pl.topOf_true HTP.out)
        obtain ⟨us, hus⟩ : ∃ us, Pl.totalValues x op = us := ⟨_, rfl⟩
        have CC := implValuesOf_c x B5 m5 d5 op _ _ (HF.out.sl 4 rfl) (Nat.le_refl _)
        rw [HT.out.2.2.2.2, hus] at CC
        have HP : Hid (P = (Pl.topTo (Pl.valAt us) m5).take many.toNat) := Lib.hid (by rw [HT.out.2.2.2.1, hus, (HF.out.sl 4 rfl).1])
        have HUL : Hid (us.length = m5) := Lib.hid (by rw [← hus, ← (HF.out.sl 4 rfl).1]; unfold Pl.totalValues; rw [List.length_map])
        obtain ⟨mn, rfl⟩ : ∃ mn : Nat, many = mn := ⟨many.toNat, by have := HT.out.2.2.1.1; omega⟩
        have hPl : P.length = m6 := (HF.out.sl 5 rfl).1
        have hmm : m6 ≤ mn ∧ m6 ≤ m5 := by rw [← hPl, HP.out, List.length_take, Pl.topTo_len, Int.toNat_natCast]; omega
        have q1 : ¬ (mn : Int) < (m6 : Nat) := by omega
        have q5 : decide (mn < m6) = false := by simp; omega
        have q6 : decide ((mn : Int) < (m6 : Nat)) = false := by simp; omega
        have hcap := (HF.out.sl 5 rfl).2.1
        have hcm := (HF.out.sl 5 rfl).2.2.1
        unfold maxLen at hcm
        have hm5 : m5 ≤ 9223372036854775807 := by have := (HF.out.sl 4 rfl).2.1; have := (HF.out.sl 4 rfl).2.2.1; unfold maxLen at this; omega
        have HPL := Lib.hid hPl
        have HMM := Lib.hid hmm
        clear hus hPl hmm
        go_upto_region 26 with (go_at_call 15; ((with_reducible refine CC.mono ?_)); (clear CC); (rintro e vf ⟨Bb, mb, db, fp, rfl, ho, hnd, hnew, hb⟩); (replace HF := Lib.hid ((HF.out.step hb).put (f := Mm.fsl Mm.int us Bb mb db) (ho.weak ho.olt))); (clear ho hnd hnew hb))
        obtain rfl : mb = m5 := (HF.out.sl 10 rfl).1.symm.trans HUL.out
        go_wp2
        clear q1 q5 q6
        go_loopg [203] m6 (fun gg i wr => wr = vf ∧ ∃ k : Nat, m6 - k ≤ gg ∧ k ≤ m6 ∧ i = .int .i64 k)
        case atStart => exact ⟨rfl, 0, Nat.le_refl _, Nat.zero_le _, rfl⟩
        case round =>
          obtain ⟨rfl, i, hgi, hi, rfl⟩ := hrel
          by_cases hlt : i < m6
          · obtain ⟨u, b, off, hu, rfl, hb, iu, e0⟩ := int_get (HF.out.sl 5 rfl) hlt
            have HU := Lib.hid hu
            have f1 : (i : Int) < (m6 : Nat) := by omega
            have f2 : (0 : Int) ≤ (i : Nat) := by omega
            have f3 : ((i : Nat) : Int).toNat = i := by omega
            have HU2 : Hid ((Pl.topTo (Pl.valAt us) mb)[i]? = some u ∧ 0 ≤ u ∧ u < (mb : Nat)) := Lib.hid (by
              have h := HU.out
              rw [HP.out, List.getElem?_take, Int.toNat_natCast, if_pos (by have := HMM.out; omega)] at h
              exact ⟨h, Pl.topTo_mem (List.mem_of_getElem? h)⟩)
            have HTT : Hid (P.take (i + 1) = (Pl.topTo (Pl.valAt us) mb).take (i + 1)) := Lib.hid (by rw [HP.out, List.take_take, Int.toNat_natCast, Nat.min_eq_left (by have := HMM.out; omega)])
            clear hu iu
            go_upto_region 29 with fail
            clear e0
            go_wp2
            go_loopg [210] mb (fun gj j wz => wz = wr ∧ ∃ k : Nat, mb - k ≤ gj ∧ k ≤ mb ∧ j = .int .i64 k)
            case atStart => exact ⟨rfl, 0, Nat.le_refl _, Nat.zero_le _, rfl⟩
            case round =>
              obtain ⟨rfl, j, hgj, hj, rfl⟩ := hrel
              by_cases hltj : j < mb
              · as_aux_lemma =>
                obtain ⟨z, b2, off2, hz, rfl, hb2, iz, e1⟩ := int_get (HF.out.sl 10 rfl) hltj
                have hu0 := HU2.out.2.1
                have hu1 := HU2.out.2.2
                obtain ⟨y2, hy2, _, iy2, e2⟩ := int_get' (HF.out.sl 10 rfl) (show u.toNat < mb by omega)
                have g1 : (j : Int) < (mb : Nat) := by omega
                have g2 : (0 : Int) ≤ (j : Nat) := by omega
                have g3 : ((j : Nat) : Int).toNat = j := by omega
                have g4 : IntKind.i64.wrap ((i : Int) + 1) = ((i + 1 : Nat) : Int) := by rw [IntWalk.i64_in _ (by omega)]; omega
                have g5 : (0 : Int) ≤ ((i + 1 : Nat) : Int) := by omega
                have g6 : (((i + 1 : Nat) : Int)).toNat = i + 1 := by omega
                have g7 : ((i + 1 : Nat) : Int) ≤ (d6 : Nat) := by omega
                have CH := has_c (P.take (i + 1)) (j : Int) (some ⟨b, off, none⟩) (i + 1) d6 _ _ ((HF.out.sl 5 rfl).take (show i + 1 ≤ m6 by omega))
                obtain ⟨hb3, hhb⟩ : ∃ hb3, decide ((j : Int) ∈ P.take (i + 1)) = hb3 := ⟨_, rfl⟩
                rw [hhb] at CH
                have HLE : Hid (hb3 = false → ¬ y2 < z) := Lib.hid (fun h => by
                  rw [h, decide_eq_false_iff_not, HTT.out] at hhb
                  have h1 := Pl.top_most HU2.out.1 (j := (j : Int)) ⟨by omega, by omega⟩ hhb
                  rw [Pl.valAt_of (vs := us) (x := (j : Int)) (u := z) (by rw [Int.toNat_natCast]; exact hz), Pl.valAt_of hy2] at h1
                  omega)
                clear hz hy2 iz iy2 hhb
                cases hb3 with
                | true =>
                  go_wp2_with (go_at_call 20; (with_reducible refine CH.mono ?_); clear CH; rintro e vg ⟨rfl, rfl⟩)
                  go_roundg (mb - (j + 1))
                  case measure => omega
                  case rel => exact ⟨rfl, j + 1, Nat.le_refl _, by omega, by go_num⟩
                | false =>
                  have g8 : ¬ y2 < z := HLE.out rfl
                  go_wp2_with (go_at_call 20; (with_reducible refine CH.mono ?_); clear CH; rintro e vg ⟨rfl, rfl⟩)
                  go_roundg (mb - (j + 1))
                  case measure => omega
                  case rel => exact ⟨rfl, j + 1, Nat.le_refl _, by omega, by go_num⟩
              · as_aux_lemma =>
                have g1 : ¬ (j : Int) < (mb : Nat) := by omega
                go_wp2
                go_roundg (m6 - (i + 1))
                case measure => omega
                case rel => exact ⟨rfl, i + 1, Nat.le_refl _, by omega, by go_num⟩
          · have f1 : ¬ (i : Int) < (m6 : Nat) := by omega
            go_wp2
            go_ret
            exact ⟨rfl, HF.out.bel⟩
end Go.Proofs.Ytnppcdiicnofpab

/-
  The statement of FnMerged: for every input the law returns true, and every argument reads afterwards as it read before. No conditions.
-/
namespace Go.Proofs.Ytnppcdiicnofpab.fnMerged
open Go.ChangeShapes Go.WideShapes Go.ChangeAt Go.RowKit
open Go.ChangeMaps (open_string shut_string)
set_option linter.unusedVariables false

theorem own : ownKnob Try.prog.godebug = none := by kernel_rfl
theorem laidOut : laidOutB Try.prog = true := by kernel_rfl

set_option maxRecDepth 100000 in
theorem lifted (os : Os) (started : os.Started) (H : Type) (enc : TypeId × Value → H) :
    ReturnsInHanded {} Try.checked os 3 .any (Rows.fnMergedSpec.pre6 enc Try.prog Try.f3 Rows.fnMergedRow.domain false) (Rows.fnMergedSpec.post enc Try.prog Try.f3 false true false false) := by
  refine returnsInHanded_of_change (C := Try.checked) own started (by kernel_rfl) Try.func3
    (ChangeSpec.witness6 (enc := enc) (C := Try.checked) false ⟨#[], #[.slice none 0 0, .slice none 0 0], []⟩ 8 (by kernel_rfl) (by kernel_rfl) (by kernel_rfl) (by kernel_rfl)) ?_
  intro W base args ds gs before hval0 hW hcnd _
  have hval : ∀ (j : Nat) t v, Try.f3.params[j]? = some t → args[j]? = some v → Value.okWide Try.prog W .any base t v := hval0
  have hW' := hW
  obtain ⟨p, q, hA0, hV, rfl, hfz, hnd⟩ := hW
  have hA : DataW.TrodAll enc Try.prog W 0 (fun _ => true) true Try.f3.params.toList args.toList ds p := hA0
  rw [Try.params3] at hA hval
  obtain ⟨v0, vs0, d0, ds0, p0, q0, hargs, rfl, rfl, h0, r0⟩ := trodAll_cons hA
  obtain ⟨v1, vs1, d1, ds1, p1, q1, rfl, rfl, rfl, h1, r1⟩ := trodAll_cons r0
  obtain ⟨rfl, rfl, rfl⟩ := trodAll_nil r1
  obtain rfl : args = #[v0, v1] := by cases args; simp_all
  obtain ⟨rfl, rfl⟩ := trodVars_none hV
  have k0 := h0
  have lt0 : ∀ x ∈ p0, x.block < W.heap.size := by obtain ⟨m, hm⟩ := k0; exact DataW.trod_lt m _ _ _ hm
  have k1 := h1
  have lt1 : ∀ x ∈ p1, x.block < W.heap.size := by obtain ⟨m, hm⟩ := k1; exact DataW.trod_lt m _ _ _ hm
  obtain ⟨A0, n0, c0, a0, rfl, w0⟩ := Mm.open_sl opens_u8S Try.underlying22 (hval 0 22 v0 rfl rfl) h0
  obtain ⟨A1, n1, c1, a1, rfl, w1⟩ := Mm.open_sl opens_u8S Try.underlying22 (hval 1 22 v1 rfl rfl) h1
  clear hA0 hval0
  refine (walk_FnMerged A0 A1 n0 c0 n1 c1 a0 a1 W w0 w1).mono fun e W' ⟨he, bel⟩ => ?_
  subst he
  exact ⟨_, rfl, _, _, _, [], _, [], hW', trodAll_mk1 (shut_bool Try.underlying4 _), (trodAll_cons_mk (Below.trod laidOut (by kernel_rfl) (of_decide_eq_true (by kernel_rfl)) k0 bel lt0) (trodAll_cons_mk (Below.trod laidOut (by kernel_rfl) (of_decide_eq_true (by kernel_rfl)) k1 bel lt1) trodAll_mk0)), rfl, bel.frame _, fun h => by cases h⟩

theorem over : Rows.fnMergedRow.holds Try.pinned (OpenSpec.ofChange Rows.fnMergedSpec) :=
  OpenClaim.holds_of_wide 3 Try.f3 rfl rfl rfl rfl rfl rfl rfl ⟨rfl, rfl, rfl, rfl, rfl⟩ rfl rfl rfl rfl rfl (by kernel_rfl) Try.func3 (by kernel_rfl)
    (of_decide_eq_true (by kernel_rfl)) (by unfold Func.isWrapper; first | (rw [if_pos (by decide +kernel)]; kernel_rfl) | (rw [if_neg (by decide +kernel)]; exact ⟨rfl, rfl⟩))
    (fun os started H enc _ => lifted os started H enc)

theorem proved : Rows.FnMergedSaid := over
#print axioms proved
end Go.Proofs.Ytnppcdiicnofpab.fnMerged
