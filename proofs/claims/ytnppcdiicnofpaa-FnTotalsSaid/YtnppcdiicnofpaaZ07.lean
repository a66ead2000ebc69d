/-
  Joined texts, in build order: LwFnTotals, LawFnTotals. Each part says what it proves; no conditions beyond those that a part names.
-/
import Derived.Test.YtnppcdiicnofpaaZ01
import Derived.Test.YtnppcdiicnofpaaZ02
import Derived.Test.YtnppcdiicnofpaaZ03
import Derived.Test.YtnppcdiicnofpaaZ04
import Derived.Test.YtnppcdiicnofpaaZ05
import Derived.Test.YtnppcdiicnofpaaZ06
import Derived.Deep.DeepCutAuto
import Derived.Deep.CutBlock
import Derived.Test.YtnppcdiicnofpaaRows
import Derived.WalkKit
import Derived.ProofKit
import Derived.OpenShut
import Derived.ShutString
import Derived.ChangeOld
import Derived.Below
/-
  The walk of the law on totals (chapter 14). No conditions.
-/
namespace Go.Proofs.Ytnppcdiicnofpaa
open Go.RowKit
attribute [local go_sem] und_cell World.cell?_alloc_some
theorem Mm.SlAt.cutE {α : Type} {E : Mm.Rep α} {w : World} {B : Nat} {xs : List α} {A : Option Addr} {n c k : Nat} (h : Mm.SlAt E w B xs A n c) (hk : k ≤ n) (hc : c = k) : Mm.SlAt E w B (xs.drop k) A (n - k) (c - k) := by
  have h2 := h.2.1
  have h1 := h.1
  have e : xs.drop k = [] := List.drop_eq_nil_of_le (by omega)
  rw [e, show n - k = 0 by omega]
  exact Mm.SlAt.nil (by omega) (fun _ => by omega)
theorem Mm.SlAt.cutN {α : Type} {E : Mm.Rep α} {w : World} {B : Nat} {xs : List α} {A : Option Addr} {n c k : Nat} (h : Mm.SlAt E w B xs A n c) (hk : k ≤ n) (hc : ¬ c = k) {s : Nat} (hs : E.size = s) : Mm.SlAt E w B (xs.drop k) (Option.map (fun x => x.add (k * s)) A) (n - k) (c - k) := by
  subst hs
  have h2 := h.2.1
  refine ⟨by rw [List.length_drop, h.1], by omega, by have := h.2.2.1; omega, fun hA => ?_, ?_⟩
  · cases A with
    | none => have := h.2.2.2.1 rfl; omega
    | some a => cases hA
  · intro i x hx
    rw [List.getElem?_drop] at hx
    obtain ⟨b, off, cs, rfl, hb, ha, hcs⟩ := h.2.2.2.2 (k + i) x hx
    refine ⟨b, off + k * E.size, cs, by simp [Addr.add], hb, ha, fun j u hu => ?_⟩
    have := hcs j u hu
    rw [Nat.add_mul, ← Nat.add_assoc] at this
    exact this
set_option maxRecDepth 100000 in
set_option maxHeartbeats 8000000 in
theorem walk_FnTotals (A A' : Option Addr) (n c n' c' : Nat) (code more : List Int) (w : World) (hc : Mm.SlAt Mm.u8 w w.heap.size code A n c) (hm : Mm.SlAt Mm.u8 w w.heap.size more A' n' c') :
    Calls Try.prog 6 #[.slice A n c, .slice A' n' c'] w fun e w' => e = .returned (.bool true) ∧ Below w.heap.size w w' := by
  have HC := Lib.hid hc
  have HM := Lib.hid hm
  have hlc : n ≤ maxLen := Nat.le_trans hc.2.1 hc.2.2.1
  have hlm : n' ≤ maxLen := Nat.le_trans hm.2.1 hm.2.2.1
  unfold maxLen at hlc hlm
  clear hc hm
  by_cases hbig : (1048576 : Int) < wrap64 ((n : Int) + (n' : Int))
  · go_enter Try.func6, Try.ntmps6
    go_wp2
    go_ret
    exact ⟨rfl, Below.refl _ _⟩
  · go_enter Try.func6, Try.ntmps6
    go_upto_region 4 with (go_at_call 23; refine (DrawTotalsBy_c code _ _ _ _ w.heap.size HC.out (Nat.le_refl _)).mono ?_; rintro e w1 ⟨l, A1, n1, c1, f1, nms, A2, n2, c2, f2, rfl, hl, hn, hs1⟩; (have HF := Lib.hid ((((Mm.Facts.nil w).step hs1.bel0).put (f := Mm.fsl rItem l A1 n1 c1) (hs1.rdSl 0 rfl)).put (f := Mm.fsl Mm.str nms A2 n2 c2) (hs1.rdSl 1 rfl))); (have HOW := Lib.hid (hs1.sl 0 rfl)); clear hs1)
    obtain ⟨ts, ok, hr⟩ : ∃ ts ok, Pl.tby l nms = (ts, ok) := ⟨_, _, rfl⟩
    have HR := Lib.hid hr
    clear hr
    have CC := implTotalsBy_c l A1 n1 c1 nms A2 n2 c2 w1 _ (HF.out.sl 0 rfl) (HF.out.sl 1 rfl) (Nat.le_refl _)
    rw [HR.out] at CC
    go_upto_region 5 with (go_at_call 24; ((with_reducible refine CC.mono ?_)); (clear CC); (rintro e w2 ⟨A3, n3, c3, fp, rfl, ho, hnd, hnew, hb⟩); (replace HF := Lib.hid ((HF.out.step hb).put (f := Mm.fsl rTotal ts A3 n3 c3) (ho.weak ho.olt))); (clear ho hnd hnew hb))
    have CC := specTotalsBy_c l A1 n1 c1 nms A2 n2 c2 w2 _ (HF.out.sl 0 rfl) (HF.out.sl 1 rfl) (Nat.le_refl _)
    rw [HR.out] at CC
    go_upto_region 6 with (go_at_call 25; ((with_reducible refine CC.mono ?_)); (clear CC); (rintro e w3 ⟨A4, n4, c4, fp, rfl, ho, hnd, hnew, hb⟩); (replace HF := Lib.hid ((HF.out.step hb).put (f := Mm.fsl rTotal ts A4 n4 c4) (ho.weak ho.olt))); (clear ho hnd hnew hb))
    obtain ⟨gd, hgd⟩ : ∃ gd, Pl.itemsOk l = gd := ⟨_, rfl⟩
    have f1 : (ok != ok) = false := by cases ok <;> rfl
    have f2 : (gd != gd) = false := by cases gd <;> rfl
    have HGD := Lib.hid hgd
    clear hgd
    go_upto_if 74 with (first
      | (go_at_call 26; refine (sameTotals_c ts _ _ _ _ _ _ _ _ (HF.out.sl 2 rfl) (HF.out.sl 3 rfl) (Nat.le_refl _)).mono ?_; rintro e w4 ⟨rfl, hb⟩; (replace HF := Lib.hid (HF.out.step hb)); clear hb)
      | (go_at_call 27; refine (implGoodItems_c l _ _ _ _ _ (HF.out.sl 0 rfl) (Nat.le_refl _)).mono ?_; rintro e w5 ⟨rfl, hb⟩; (replace HF := Lib.hid (HF.out.step hb)); rw [HGD.out]; clear hb)
      | (go_at_call 28; refine (GoodItems_c l _ _ _ _ _ (HF.out.sl 0 rfl) (Nat.le_refl _)).mono ?_; rintro e w6 ⟨rfl, hb⟩; (replace HF := Lib.hid (HF.out.step hb)); rw [HGD.out]; clear hb))
    clear f1 f2
    go_cut [] (fun wx => Below w.heap.size w wx)
    case first =>
      cases ok with
      | false =>
        go_wp2_with fail
        go_meet
        exact HF.out.bel
      | true =>
        have hl1 := (HF.out.sl 0 rfl).1
        have hcap := (HF.out.sl 0 rfl).2.1
        have hcm := (HF.out.sl 0 rfl).2.2.1
        unfold maxLen at hcm
        have HOK := Lib.hid (Pl.tby_ok HR.out)
        have hn1 : n1 ≤ 40 := by have := HOK.out.2; omega
        have hw1 : wrap64 ((n1 : Int) + 1) = (n1 : Int) + 1 := IntWalk.wrap64_in _ (by omega)
        have g0 : (n1 : Int) + 1 ≠ 0 := by omega
        go_upto_region 10 with (go_at_call 29; refine (numberOf_c more _ _ _ _ w.heap.size (HM.out.keep fun b hb => HF.out.bel.block b hb)).mono ?_; rintro e w7 ⟨q, rfl, q0, q1, rfl⟩)
        obtain ⟨k, hk⟩ : ∃ k : Nat, q % ((n1 : Int) + 1) = k := ⟨(q % ((n1 : Int) + 1)).toNat, by have := Int.emod_nonneg q g0; omega⟩
        rw [hk]
        have hkl : k ≤ n1 := by have := Int.emod_lt_of_pos q (show (0 : Int) < (n1 : Int) + 1 by omega); omega
        clear hk hw1 g0
        have hckl := hkl
        obtain ⟨pa, pb, ha, hb, hmab, hmba⟩ := Pl.tby_split HR.out k
        have HP := Lib.hid (And.intro ha (And.intro hb (And.intro hmab hmba)))
        clear ha hb hmab hmba
        have f1 : ((k : Nat) : Int) ≤ (c1 : Nat) := by omega
        have f3 : ((k : Nat) : Int) ≤ (n1 : Nat) := by omega
        have f4 : (0 : Int) ≤ (k : Nat) := by omega
        have HTK := Lib.hid ((HF.out.sl 0 rfl).take hkl)
        have CC := implTotalsBy_c (l.take k) A1 k c1 nms A2 n2 c2 _ _ HTK.out (HF.out.sl 1 rfl) (Nat.le_refl _)
        rw [HP.out.1] at CC
        go_upto_region 11 with (go_at_call 24; ((with_reducible refine CC.mono ?_)); (clear CC); (rintro e w8 ⟨A5, n5, c5, fp, rfl, ho, hnd, hnew, hb⟩); (replace HF := Lib.hid ((HF.out.step hb).put (f := Mm.fsl rTotal pa A5 n5 c5) (ho.weak ho.olt))); (clear ho hnd hnew hb))
        go_cut [14, 15] (fun s t wx => ∃ (A6 : Option Addr) (n6 c6 : Nat), s = .slice A6 n6 c6 ∧ t = .bool true ∧ Mm.Facts w wx [Mm.fsl rItem l A1 n1 c1, Mm.fsl Mm.str nms A2 n2 c2, Mm.fsl rTotal ts A3 n3 c3, Mm.fsl rTotal ts A4 n4 c4, Mm.fsl rTotal pa A5 n5 c5, Mm.fsl rTotal pb A6 n6 c6])
        case first =>
          by_cases hck : c1 = k
          · have HDR := Lib.hid ((HF.out.sl 0 rfl).cutE hckl hck)
            have CC := implTotalsBy_c (l.drop k) A1 (n1 - k) (c1 - k) nms A2 n2 c2 _ _ HDR.out (HF.out.sl 1 rfl) (Nat.le_refl _)
            rw [HP.out.2.1] at CC
            have hd : (c1 = k) = True := eq_true hck
            clear hck
            go_wp2_with (go_at_call 24; ((with_reducible refine CC.mono ?_)); (clear CC); (rintro e w9 ⟨A6, n6, c6, fp, rfl, ho, hnd, hnew, hb⟩); (replace HF := Lib.hid ((HF.out.step hb).put (f := Mm.fsl rTotal pb A6 n6 c6) (ho.weak ho.olt))); (clear ho hnd hnew hb))
            go_meet
            exact ⟨A6, n6, c6, rfl, rfl, HF.out⟩
          · have HDR := Lib.hid ((HF.out.sl 0 rfl).cutN hckl hck (s := 2) rfl)
            have CC := implTotalsBy_c (l.drop k) _ (n1 - k) (c1 - k) nms A2 n2 c2 _ _ HDR.out (HF.out.sl 1 rfl) (Nat.le_refl _)
            rw [HP.out.2.1] at CC
            go_wp2_with (go_at_call 24; ((with_reducible refine CC.mono ?_)); (clear CC); (rintro e w9 ⟨A6, n6, c6, fp, rfl, ho, hnd, hnew, hb⟩); (replace HF := Lib.hid ((HF.out.step hb).put (f := Mm.fsl rTotal pb A6 n6 c6) (ho.weak ho.olt))); (clear ho hnd hnew hb))
            go_meet
            exact ⟨A6, n6, c6, rfl, rfl, HF.out⟩
        case rest =>
        obtain ⟨A6, n6, c6, rfl, rfl, HF⟩ := hcut
        have HF := Lib.hid HF
        clear f1 f3 f4
        have CC := implMergeTotals_c pa A5 n5 c5 pb A6 n6 c6 _ _ (HF.out.sl 4 rfl) (HF.out.sl 5 rfl) (Nat.le_refl _)
        rw [HP.out.2.2.1] at CC
        go_upto_region 13 with (go_at_call 21; ((with_reducible refine CC.mono ?_)); (clear CC); (rintro e w10 ⟨A7, n7, c7, fp, rfl, ho, hnd, hnew, hb⟩); (replace HF := Lib.hid ((HF.out.step hb).put (f := Mm.fsl rTotal ts A7 n7 c7) (ho.weak ho.olt))); (clear ho hnd hnew hb))
        have CC := implMergeTotals_c pb A6 n6 c6 pa A5 n5 c5 _ _ (HF.out.sl 5 rfl) (HF.out.sl 4 rfl) (Nat.le_refl _)
        rw [HP.out.2.2.2] at CC
        go_upto_region 14 with (go_at_call 21; ((with_reducible refine CC.mono ?_)); (clear CC); (rintro e w11 ⟨A8, n8, c8, fp, rfl, ho, hnd, hnew, hb⟩); (replace HF := Lib.hid ((HF.out.step hb).put (f := Mm.fsl rTotal ts A8 n8 c8) (ho.weak ho.olt))); (clear ho hnd hnew hb))
        have HGT := Lib.hid HOK.out.1
        go_upto_region 16 with (first
          | (go_at_call 30; with_reducible refine (implGoodTotals_c ts A3 n3 c3 _ _ (HF.out.sl 2 rfl) (Nat.le_refl _)).mono ?_; rintro e w12 ⟨rfl, hb⟩; (replace HF := Lib.hid (HF.out.step hb)); rw [HGT.out]; clear hb)
          | (go_at_call 26; with_reducible refine (sameTotals_c ts A7 A3 n7 n3 c7 c3 _ _ (HF.out.sl 6 rfl) (HF.out.sl 2 rfl) (Nat.le_refl _)).mono ?_; rintro e w13 ⟨rfl, hb⟩; (replace HF := Lib.hid (HF.out.step hb)); clear hb)
          | (go_at_call 26; with_reducible refine (sameTotals_c ts A8 A3 n8 n3 c8 c3 _ _ (HF.out.sl 7 rfl) (HF.out.sl 2 rfl) (Nat.le_refl _)).mono ?_; rintro e w14 ⟨rfl, hb⟩; (replace HF := Lib.hid (HF.out.step hb)); clear hb))
        have HT := Lib.hid (HF.out.sl 2 rfl)
        have hts := HT.out.1
        have hn40 : n3 ≤ 40 := by have := Pl.totalsOk_len HOK.out.1; omega
        have HCA := Lib.hid (Pl.cnt_all HR.out)
        obtain ⟨W0, hW0⟩ : ∃ W0, w14 = W0 := ⟨_, rfl⟩
        rw [hW0] at HF HT ⊢
        go_wp2
        go_loopg [20, 142] n3 (fun gg v i wr => ∃ kk : Nat, n3 - kk ≤ gg ∧ kk ≤ n3 ∧ v = .int .i64 (Pl.cntSum (ts.take kk)) ∧ i = .int .i64 kk ∧ Below W0.heap.size W0 wr)
        case atStart => exact ⟨0, Nat.le_refl _, Nat.zero_le _, rfl, rfl, Below.refl _ _⟩
        case round =>
          obtain ⟨kk, hgk, hkk, rfl, rfl, hbel⟩ := hrel
          obtain ⟨W9, rfl⟩ : ∃ W9 : World, W9 = wr := ⟨_, rfl⟩
          have HB := Lib.hid hbel
          by_cases hlt : kk < n3
          · obtain ⟨x, b, off, P1, p1, q1, hx, rfl, hb, uf0, u1, u2, u3, u4, x0, x1, x2, x3, x4⟩ := rTotal_get (HT.out.keep fun b hb => hbel.block b hb) hlt
            have hs1 := Pl.cnt_small HOK.out.1 kk (by omega)
            have hs2 := Pl.cnt_small HOK.out.1 (kk + 1) (by omega)
            rw [Pl.cnt_take hx] at hs2
            have HX2 := Lib.hid (Pl.cnt_take hx)
            obtain ⟨y, hy⟩ : ∃ y, Pl.cntSum (ts.take kk) = y := ⟨_, rfl⟩
            rw [hy] at hs1 hs2 HX2 ⊢
            have hw : IntKind.i64.wrap (y + x.Count) = y + x.Count := IntWalk.i64_in _ (by omega)
            have f1 : (kk : Int) < (n3 : Nat) := by omega
            have f2 : (0 : Int) ≤ (kk : Nat) := by omega
            have f3 : ((kk : Nat) : Int).toNat = kk := by omega
            clear hx hbel uf0 u1 u2 u3 u4 hy
            go_wp2
            go_roundg (n3 - (kk + 1))
            case measure => omega
            case rel => exact ⟨kk + 1, Nat.le_refl _, by omega, by rw [HX2.out], by go_num, below_new HB.out _⟩
          · obtain rfl : n3 = kk := by omega
            have HE : Hid (Pl.cntSum (ts.take n3) = (n1 : Int)) := by show _ = _; rw [List.take_of_length_le (by omega), HCA.out]; omega
            rw [HE.out]
            have f1 : ¬ (n3 : Int) < (n3 : Nat) := by omega
            go_wp2
            go_meet
            exact (HF.out.step HB.out).bel
    case rest =>
      clear HF HR HGD HOW hl hn
      have HF : Hid (Mm.Facts w wc []) := ⟨hcut, fun f h => by cases h⟩
      clear hcut
      go_upto_region 25 with (go_at_call 31; refine (DrawMergeTotals_c more _ _ _ _ w.heap.size (HM.out.keep fun b hb => HF.out.bel.block b hb) HF.out.bel.size).mono ?_; rintro e v1 ⟨la, B1, m1, d1, f1, lb, B2, m2, d2, f2, rfl, hl, hn, hs1⟩; (replace HF := Lib.hid (((HF.out.step hs1.bel0).put (f := Mm.fsl rTotal la B1 m1 d1) (hs1.rdSl 0 rfl)).put (f := Mm.fsl rTotal lb B2 m2 d2) (hs1.rdSl 1 rfl))); clear hs1)
      obtain ⟨mm, o1, hr⟩ : ∃ mm o1, Pl.tmerge la lb = (mm, o1) := ⟨_, _, rfl⟩
      have CC := implMergeTotals_c la B1 m1 d1 lb B2 m2 d2 _ _ (HF.out.sl 0 rfl) (HF.out.sl 1 rfl) (Nat.le_refl _)
      rw [hr] at CC
      go_upto_region 26 with (go_at_call 21; ((with_reducible refine CC.mono ?_)); (clear CC); (rintro e v2 ⟨B3, m3, d3, fp, rfl, ho, hnd, hnew, hb⟩); (replace HF := Lib.hid ((HF.out.step hb).put (f := Mm.fsl rTotal mm B3 m3 d3) (ho.weak ho.olt))); (clear ho hnd hnew hb))
      have CC := specMergeTotals_c la B1 m1 d1 lb B2 m2 d2 _ _ (HF.out.sl 0 rfl) (HF.out.sl 1 rfl) (Nat.le_refl _)
      rw [hr] at CC
      clear hr
      go_upto_region 27 with (go_at_call 20; ((with_reducible refine CC.mono ?_)); (clear CC); (rintro e v3 ⟨B4, m4, d4, fp, rfl, ho, hnd, hnew, hb⟩); (replace HF := Lib.hid ((HF.out.step hb).put (f := Mm.fsl rTotal mm B4 m4 d4) (ho.weak ho.olt))); (clear ho hnd hnew hb))
      go_upto_region 28 with (go_at_call 32; refine (DrawKeepLabels_c more _ _ _ _ w.heap.size (HM.out.keep fun b hb => HF.out.bel.block b hb) HF.out.bel.size).mono ?_; rintro e v4 ⟨lx, B5, m5, d5, f5, kx, B6, m6, d6, f6, rfl, hl5, hn6, hs1⟩; (replace HF := Lib.hid (((HF.out.step hs1.bel0).put (f := Mm.fsl rLabel lx B5 m5 d5) (hs1.rdSl 0 rfl)).put (f := Mm.fsl Mm.str kx B6 m6 d6) (hs1.rdSl 1 rfl))); clear hs1)
      obtain ⟨yy, o2, hr⟩ : ∃ yy o2, Pl.keep2 lx kx = (yy, o2) := ⟨_, _, rfl⟩
      have CC := implKeepLabels_c lx B5 m5 d5 kx B6 m6 d6 _ _ (HF.out.sl 4 rfl) (HF.out.sl 5 rfl) (Nat.le_refl _)
      rw [hr] at CC
      go_upto_region 29 with (go_at_call 33; ((with_reducible refine CC.mono ?_)); (clear CC); (rintro e v5 ⟨B7, m7, d7, fp, rfl, ho, hnd, hnew, hb⟩); (replace HF := Lib.hid ((HF.out.step hb).put (f := Mm.fsl rLabel yy B7 m7 d7) (ho.weak ho.olt))); (clear ho hnd hnew hb))
      have CC := specKeepLabels_c lx B5 m5 d5 kx B6 m6 d6 _ _ (HF.out.sl 4 rfl) (HF.out.sl 5 rfl) (Nat.le_refl _)
      rw [hr] at CC
      clear hr
      go_upto_region 30 with (go_at_call 34; ((with_reducible refine CC.mono ?_)); (clear CC); (rintro e v6 ⟨B8, m8, d8, fp, rfl, ho, hnd, hnew, hb⟩); (replace HF := Lib.hid ((HF.out.step hb).put (f := Mm.fsl rLabel yy B8 m8 d8) (ho.weak ho.olt))); (clear ho hnd hnew hb))
      have g1 : (o1 == o1) = true := by cases o1 <;> rfl
      have g2 : (o2 == o2) = true := by cases o2 <;> rfl
      go_wp2_with (first
        | (go_at_call 26; with_reducible refine (sameTotals_c mm B3 B4 m3 m4 d3 d4 _ _ (HF.out.sl 2 rfl) (HF.out.sl 3 rfl) (Nat.le_refl _)).mono ?_; rintro e v7 ⟨rfl, hb⟩; (replace HF := Lib.hid (HF.out.step hb)); clear hb)
        | (go_at_call 35; with_reducible refine (sameLabels_c yy B7 B8 m7 m8 d7 d8 _ _ (HF.out.sl 6 rfl) (HF.out.sl 7 rfl) (Nat.le_refl _)).mono ?_; rintro e v8 ⟨rfl, hb⟩; (replace HF := Lib.hid (HF.out.step hb)); clear hb))
      go_ret
      exact ⟨rfl, HF.out.bel⟩
end Go.Proofs.Ytnppcdiicnofpaa

/-
  The statement of FnTotals: for every input the law returns true, and every argument reads afterwards as it read before. No conditions.
-/
namespace Go.Proofs.Ytnppcdiicnofpaa.fnTotals
open Go.ChangeShapes Go.WideShapes Go.ChangeAt Go.RowKit
open Go.ChangeMaps (open_string shut_string)
set_option linter.unusedVariables false

theorem own : ownKnob Try.prog.godebug = none := by kernel_rfl
theorem laidOut : laidOutB Try.prog = true := by kernel_rfl

set_option maxRecDepth 100000 in
theorem lifted (os : Os) (started : os.Started) (H : Type) (enc : TypeId × Value → H) :
    ReturnsInHanded {} Try.checked os 6 .any (Rows.fnTotalsSpec.pre6 enc Try.prog Try.f6 Rows.fnTotalsRow.domain false) (Rows.fnTotalsSpec.post enc Try.prog Try.f6 false true false false) := by
  refine returnsInHanded_of_change (C := Try.checked) own started (by kernel_rfl) Try.func6
    (ChangeSpec.witness6 (enc := enc) (C := Try.checked) false ⟨#[], #[.slice none 0 0, .slice none 0 0], []⟩ 8 (by kernel_rfl) (by kernel_rfl) (by kernel_rfl) (by kernel_rfl)) ?_
  intro W base args ds gs before hval0 hW hcnd _
  have hval : ∀ (j : Nat) t v, Try.f6.params[j]? = some t → args[j]? = some v → Value.okWide Try.prog W .any base t v := hval0
  have hW' := hW
  obtain ⟨p, q, hA0, hV, rfl, hfz, hnd⟩ := hW
  have hA : DataW.TrodAll enc Try.prog W 0 (fun _ => true) true Try.f6.params.toList args.toList ds p := hA0
  rw [Try.params6] at hA hval
  obtain ⟨v0, vs0, d0, ds0, p0, q0, hargs, rfl, rfl, h0, r0⟩ := trodAll_cons hA
  obtain ⟨v1, vs1, d1, ds1, p1, q1, rfl, rfl, rfl, h1, r1⟩ := trodAll_cons r0
  obtain ⟨rfl, rfl, rfl⟩ := trodAll_nil r1
  obtain rfl : args = #[v0, v1] := by cases args; simp_all
  obtain ⟨rfl, rfl⟩ := trodVars_none hV
  have k0 := h0
  have lt0 : ∀ x ∈ p0, x.block < W.heap.size := by obtain ⟨m, hm⟩ := k0; exact DataW.trod_lt m _ _ _ hm
  have k1 := h1
  have lt1 : ∀ x ∈ p1, x.block < W.heap.size := by obtain ⟨m, hm⟩ := k1; exact DataW.trod_lt m _ _ _ hm
  obtain ⟨A0, n0, c0, a0, rfl, w0⟩ := Mm.open_sl opens_u8S Try.underlying39 (hval 0 39 v0 rfl rfl) h0
  obtain ⟨A1, n1, c1, a1, rfl, w1⟩ := Mm.open_sl opens_u8S Try.underlying39 (hval 1 39 v1 rfl rfl) h1
  clear hA0 hval0
  refine (walk_FnTotals A0 A1 n0 c0 n1 c1 a0 a1 W w0 w1).mono fun e W' ⟨he, bel⟩ => ?_
  subst he
  exact ⟨_, rfl, _, _, _, [], _, [], hW', trodAll_mk1 (shut_bool Try.underlying4 _), (trodAll_cons_mk (Below.trod laidOut (by kernel_rfl) (of_decide_eq_true (by kernel_rfl)) k0 bel lt0) (trodAll_cons_mk (Below.trod laidOut (by kernel_rfl) (of_decide_eq_true (by kernel_rfl)) k1 bel lt1) trodAll_mk0)), rfl, bel.frame _, fun h => by cases h⟩

theorem over : Rows.fnTotalsRow.holds Try.pinned (OpenSpec.ofChange Rows.fnTotalsSpec) :=
  OpenClaim.holds_of_wide 6 Try.f6 rfl rfl rfl rfl rfl rfl rfl ⟨rfl, rfl, rfl, rfl, rfl⟩ rfl rfl rfl rfl rfl (by kernel_rfl) Try.func6 (by kernel_rfl)
    (of_decide_eq_true (by kernel_rfl)) (by unfold Func.isWrapper; first | (rw [if_pos (by decide +kernel)]; kernel_rfl) | (rw [if_neg (by decide +kernel)]; exact ⟨rfl, rfl⟩))
    (fun os started H enc _ => lifted os started H enc)

theorem proved : Rows.FnTotalsSaid := over
#print axioms proved
end Go.Proofs.Ytnppcdiicnofpaa.fnTotals
