/-
  The walk of the law on summaries of heavy hitters. No conditions.
-/
import Derived.Test.YtjmcbggdckfefaaDh
import Derived.Test.YtjmcbggdckfefaaFa
import Derived.Test.YtjmcbggdckfefaaHi
import Derived.Test.YtjmcbggdckfefaaLwN
import Derived.Test.YtjmcbggdckfefaaWi
import Derived.Test.YtjmcbggdckfefaaWk
namespace Go.Proofs.Ytjmcbggdckfefaa
open Go.RowKit
attribute [local go_sem] und_cell World.cell?_alloc_some
namespace Pl
theorem occ_next {l : List ByteArray} {j : Nat} {x v : ByteArray} (h : l[j]? = some x) : occ v (l.take (j + 1)) = occ v (l.take j) + if x = v then 1 else 0 := by
  obtain ⟨hj, hx⟩ := List.getElem?_eq_some_iff.1 h
  rw [List.take_succ_eq_append_getElem hj, occ_append, occ_one, hx]
theorem occ_le (v : ByteArray) : ∀ l : List ByteArray, occ v l ≤ l.length
  | [] => Nat.le_refl _
  | x :: t => by
    have := occ_le v t
    rw [occ, List.length_cons]
    split <;> omega
end Pl
theorem ba_neq {x v : ByteArray} (h : ¬ x = v) : (x.toList == v.toList) = false := by
  rw [beq_eq_false_iff_ne]
  intro e
  exact h (Pl.ba_inj e)
theorem sameHeavy_c (h : Heavy) (A0 A1 A2 A3 : Option Addr) (n0 c0 n1 c1 n2 c2 n3 c3 : Nat) (w : World) (B : Nat) (h1 : rHeavy.at_ w B h [.slice A0 n0 c0, .slice A1 n1 c1, .int .i64 h.Gone, .int .i64 h.Total]) (h2 : rHeavy.at_ w B h [.slice A2 n2 c2, .slice A3 n3 c3, .int .i64 h.Gone, .int .i64 h.Total]) (hB : B ≤ w.heap.size) :
    Calls Try.prog 44 #[.agg #[.slice A0 n0 c0, .slice A1 n1 c1, .int .i64 h.Gone, .int .i64 h.Total], .agg #[.slice A2 n2 c2, .slice A3 n3 c3, .int .i64 h.Gone, .int .i64 h.Total]] w fun e w' => e = .returned (.bool true) ∧ Below w.heap.size w w' := by
  have g := hv_rd h1
  have k := hv_rd h2
  obtain rfl : n0 = n2 := g.1.1.symm.trans k.1.1
  obtain rfl : n1 = n3 := g.2.1.symm.trans k.2.1
  have HB0 := Lib.hid (show Below w.heap.size w ((w.alloc (.cells #[.slice A0 n0 c0, .slice A1 n1 c1, .int .i64 h.Gone, .int .i64 h.Total] 38)).alloc (.cells #[.slice A2 n0 c2, .slice A3 n1 c3, .int .i64 h.Gone, .int .i64 h.Total] 38)) from below_new (below_new (Below.refl _ _) _) _)
  have H1 := Lib.hid (And.intro (g.1.keep fun b hb => HB0.out.block b (by omega)) (g.2.keep fun b hb => HB0.out.block b (by omega)))
  have H2 := Lib.hid (And.intro (k.1.keep fun b hb => HB0.out.block b (by omega)) (k.2.keep fun b hb => HB0.out.block b (by omega)))
  clear h1 h2 g k
  have HS := Lib.hid (((Mm.Facts.nil w).var rfl 38 [.slice A0 n0 c0, .slice A1 n1 c1, .int .i64 h.Gone, .int .i64 h.Total]).var (Mm.sz1 _ _) 38 [.slice A2 n0 c2, .slice A3 n1 c3, .int .i64 h.Gone, .int .i64 h.Total])
  have hBw : B ≤ ((w.alloc (.cells #[.slice A0 n0 c0, .slice A1 n1 c1, .int .i64 h.Gone, .int .i64 h.Total] 38)).alloc (.cells #[.slice A2 n0 c2, .slice A3 n1 c3, .int .i64 h.Gone, .int .i64 h.Total] 38)).heap.size := by have := HB0.out.size; omega
  go_enter Try.func44, Try.ntmps44
  go_wp2_with first
    | (go_at_call 91; refine (sameTexts_c h.Names _ _ _ _ _ _ B H1.out.1 H2.out.1 hBw).mono ?_; rintro e w1 ⟨rfl, hb1⟩; (replace HS := Lib.hid (HS.out.step hb1)); (have J1 := Lib.hid (H1.out.2.keep fun b hb => hb1.block b (Nat.lt_of_lt_of_le hb hBw))); (have J2 := Lib.hid (H2.out.2.keep fun b hb => hb1.block b (Nat.lt_of_lt_of_le hb hBw))); (have hB1 := Nat.le_trans hBw hb1.size); (have c0a := HS.out.cell (k := 0) 0 rfl rfl); (have c1a := HS.out.cell (k := 1) 0 rfl rfl); (have c2a := HS.out.cell (k := 2) 0 rfl rfl); (have c3a := HS.out.cell (k := 3) 0 rfl rfl); (have c0b := HS.out.cell (k := 0) 1 rfl rfl); (have c1b := HS.out.cell (k := 1) 1 rfl rfl); (have c2b := HS.out.cell (k := 2) 1 rfl rfl); (have c3b := HS.out.cell (k := 3) 1 rfl rfl); clear hb1)
    | (go_at_call 92; refine (sameInts_c h.Counts _ _ _ _ _ _ B J1.out J2.out hB1).mono ?_; rintro e w2 ⟨rfl, hb2⟩; (replace HS := Lib.hid (HS.out.step hb2)); (have c0e := HS.out.cell (k := 0) 0 rfl rfl); (have c1e := HS.out.cell (k := 1) 0 rfl rfl); (have c2e := HS.out.cell (k := 2) 0 rfl rfl); (have c3e := HS.out.cell (k := 3) 0 rfl rfl); (have c0f := HS.out.cell (k := 0) 1 rfl rfl); (have c1f := HS.out.cell (k := 1) 1 rfl rfl); (have c2f := HS.out.cell (k := 2) 1 rfl rfl); (have c3f := HS.out.cell (k := 3) 1 rfl rfl); clear hb2)
  go_ret
  exact ⟨rfl, HS.out.bel⟩
set_option maxRecDepth 100000 in
set_option maxHeartbeats 8000000 in
theorem walk_FnHeavy (A : Option Addr) (n c : Nat) (code : List Int) (A' : Option Addr) (n' c' : Nat) (more : List Int) (w : World) (hc : Mm.SlAt Mm.u8 w w.heap.size code A n c) (hm : Mm.SlAt Mm.u8 w w.heap.size more A' n' c') :
    Calls Try.prog 7 #[.slice A n c, .slice A' n' c'] w fun e w' => e = .returned (.bool true) ∧ Below w.heap.size w w' := by
  have HS := Lib.hid (((Mm.Facts.nil w).put (f := Mm.fsl Mm.u8 code A n c) hc).put (f := Mm.fsl Mm.u8 more A' n' c') hm)
  have hlc : n ≤ maxLen := Nat.le_trans hc.2.1 hc.2.2.1
  have hlm : n' ≤ maxLen := Nat.le_trans hm.2.1 hm.2.2.1
  unfold maxLen at hlc hlm
  clear hc hm
  by_cases hbig : (1048576 : Int) < wrap64 ((n : Int) + (n' : Int))
  · go_enter Try.func7, Try.ntmps7
    go_wp2
    go_ret
    exact ⟨rfl, Below.refl _ _⟩
  · go_enter Try.func7, Try.ntmps7
    go_upto_if 75 with first
      | (go_at_call 28; refine (DrawFeedHeavy_c code _ _ _ _ w.heap.size (HS.out.sl 0 rfl) (Nat.le_refl _)).mono ?_; rintro e w1 ⟨l, A1, n1, c1, pl, rfl, hp1, hp6, hl201, hl, hb1⟩; (replace HS := Lib.hid (HS.out.add hb1 (f := Mm.fsl Mm.str l A1 n1 c1) hl)); (have hln := Lib.hid hl.1); clear hl hb1)
      | (go_at_call 25; refine (implFeedHeavy_c pl l A1 n1 c1 _ _ (HS.out.sl 2 rfl) (Nat.le_refl _)).mono ?_; rintro e w2 ⟨csp, fpp, rfl, ho, hnd, hnf, hb⟩; obtain ⟨Ap, np, kp, Bp, mp, dp, fp, gp, rfl, rfl, -⟩ := rHeavy_own ho; (replace HS := Lib.hid ((HS.out.add hb (f := Mm.frd rHeavy _ _) (rHeavy.weak ho (rHeavy.olt ho))).var rfl 38 [.slice Ap np kp, .slice Bp mp dp, .int .i64 (Pl.feedHeavy pl l).1.Gone, .int .i64 (Pl.feedHeavy pl l).1.Total])); clear ho hnd hnf hb)
      | (go_at_call 23; refine (specFeedHeavy_c pl l A1 n1 c1 _ _ (HS.out.sl 2 rfl) (Nat.le_refl _)).mono ?_; rintro e w3 ⟨csq, fpq, rfl, ho, hnd, hnf, hb⟩; obtain ⟨Aq, nq, kq, Bq, mq, dq, fq, gq, rfl, rfl, -⟩ := rHeavy_own ho; (replace HS := Lib.hid ((HS.out.add hb (f := Mm.frd rHeavy _ _) (rHeavy.weak ho (rHeavy.olt ho))).var rfl 38 [.slice Aq nq kq, .slice Bq mq dq, .int .i64 (Pl.feedHeavy pl l).1.Gone, .int .i64 (Pl.feedHeavy pl l).1.Total])); clear ho hnd hnf hb; (have c0p := HS.out.cell (k := 0) 4 rfl rfl); (have c1p := HS.out.cell (k := 1) 4 rfl rfl); (have c2p := HS.out.cell (k := 2) 4 rfl rfl); (have c3p := HS.out.cell (k := 3) 4 rfl rfl); (have c0q := HS.out.cell (k := 0) 6 rfl rfl); (have c1q := HS.out.cell (k := 1) 6 rfl rfl); (have c2q := HS.out.cell (k := 2) 6 rfl rfl); (have c3q := HS.out.cell (k := 3) 6 rfl rfl))
      | (go_at_call 44; refine (sameHeavy_c (Pl.feedHeavy pl l).1 _ _ _ _ _ _ _ _ _ _ _ _ _ _ (HS.out.rd 3 rfl) (HS.out.rd 5 rfl) (Nat.le_refl _)).mono ?_; rintro e w4 ⟨rfl, hb⟩; (replace HS := Lib.hid (HS.out.step hb)); clear hb)
    obtain ⟨y, yb, hy⟩ : ∃ y yb, Pl.feedHeavy pl l = (y, yb) := ⟨_, _, rfl⟩
    obtain ⟨gp, hgp⟩ : ∃ gp, w2.heap.size = gp := ⟨_, rfl⟩
    obtain ⟨gq, hgq⟩ : ∃ gq, w3.heap.size = gq := ⟨_, rfl⟩
    have HF : Hid (yb = true → 1 ≤ pl ∧ pl ≤ 6 ∧ l.length ≤ 200 ∧ Pl.HFed pl.toNat l y ∧ ∀ x, x ∈ l → Pl.word false x.data.toList = true) := fun h => by
      have := Pl.feedHeavy_fed (n := pl) (l := l) (by rw [hy]; exact h)
      rw [hy] at this
      exact this
    rw [hy, hgp, hgq] at HS
    rw [hy, hgp, hgq]
    dsimp only at HS ⊢
    clear hy hgp hgq c0p c1p c2p c3p c0q c1q c2q c3q
    have hn1 : n1 ≤ 201 := by have := hln.out; omega
    go_cut [] (fun wx => Mm.Facts w wx [Mm.fsl Mm.u8 code A n c, Mm.fsl Mm.u8 more A' n' c', Mm.fsl Mm.str l A1 n1 c1, Mm.frd rHeavy y [.slice Ap np kp, .slice Bp mp dp, .int .i64 y.Gone, .int .i64 y.Total], Mm.fbk gp 38 [.slice Ap np kp, .slice Bp mp dp, .int .i64 y.Gone, .int .i64 y.Total]])
    case first =>
      cases yb
      · go_wp2_with fail
        go_meet
        exact HS.out.fewer (by simp)
      · obtain ⟨-, -, hl200, hfed, hwd⟩ := HF.out rfl
        obtain ⟨p, rfl⟩ : ∃ p : Nat, pl = p := ⟨pl.toNat, by omega⟩
        rw [Int.toNat_natCast] at hfed
        have HFD := Lib.hid hfed
        have HWD := Lib.hid hwd
        have hok := hfed.ok hl200
        have htot : (y.Total != (n1 : Int)) = false := by have := hfed.tot; have := hln.out; simp; omega
        have hgo := hfed.gone
        have hgb := hfed.hin.gb
        have hlen : l.length = n1 := hln.out
        have hgn : y.Gone * ((p : Int) + 1) ≤ n1 := by rw [← hlen]; exact hgo
        have hg0 : 0 ≤ y.Gone * ((p : Int) + 1) := Int.mul_nonneg hgb.1 (by omega)
        have hgw : IntKind.i64.wrap (y.Gone * ((p : Int) + 1)) = y.Gone * ((p : Int) + 1) := IntWalk.i64_in _ (by omega)
        have hgd : decide ((n1 : Int) < y.Gone * ((p : Int) + 1)) = false := decide_eq_false (by omega)
        have HG := Lib.hid (And.intro hgb.1 (show y.Gone ≤ 201 by omega))
        have HGN := Lib.hid hgn
        have HGW := Lib.hid hgw
        clear hfed hwd hgo hgb hlen hg0 hgn
        have c0 := HS.out.cell (k := 0) 4 rfl rfl
        have c1 := HS.out.cell (k := 1) 4 rfl rfl
        have c2 := HS.out.cell (k := 2) 4 rfl rfl
        have c3 := HS.out.cell (k := 3) 4 rfl rfl
        go_wp2_with (go_at_call 45; (have C1 := implGoodHeavy_c y _ _ _ (HS.out.rd 3 rfl) (Nat.le_refl _)); rw [hok] at C1; (with_reducible refine C1.mono ?_); clear C1; rintro e w5 ⟨rfl, hb⟩; (replace HS := Lib.hid (HS.out.step hb)); (have q2 := HS.out.cell (k := 2) 4 rfl rfl); (have q3 := HS.out.cell (k := 3) 4 rfl rfl); clear hb)
        clear c0 c1 c2 c3 hgw hgd htot
        go_loopg [98] n1 (fun gg i wz => ∃ k : Nat, n1 - k ≤ gg ∧ k ≤ n1 ∧ i = .int .i64 k ∧ Hid (Mm.Facts w wz [Mm.fsl Mm.u8 code A n c, Mm.fsl Mm.u8 more A' n' c', Mm.fsl Mm.str l A1 n1 c1, Mm.frd rHeavy y [.slice Ap np kp, .slice Bp mp dp, .int .i64 y.Gone, .int .i64 y.Total], Mm.fbk gp 38 [.slice Ap np kp, .slice Bp mp dp, .int .i64 y.Gone, .int .i64 y.Total]]))
        case atStart => exact ⟨0, Nat.le_refl _, Nat.zero_le _, rfl, HS.out.fewer (by simp)⟩
        case round =>
          obtain ⟨k2, hgk2, hk2, rfl, HS⟩ := hrel
          obtain ⟨wo, rfl⟩ : ∃ wo : World, wo = wr := ⟨_, rfl⟩
          obtain ⟨go, rfl⟩ : ∃ go : Nat, go = gk := ⟨_, rfl⟩
          by_cases hlt2 : k2 < n1
          · obtain ⟨v, bb, off, hx, rfl, hbb, hvs, hcell⟩ := str_get (HS.out.sl 2 rfl) hlt2
            have f1 : (k2 : Int) < (n1 : Nat) := by omega
            have f2 : (0 : Int) ≤ (k2 : Nat) := by omega
            have HW := Lib.hid (HWD.out v (List.mem_of_getElem? hx))
            clear hx
            go_wp2_with fail
            go_loopg [13, 104] n1 (fun gg s13 i wz => wz = wo ∧ ∃ j : Nat, n1 - j ≤ gg ∧ j ≤ n1 ∧ s13 = .int .i64 (Pl.occ v (l.take j) : Nat) ∧ i = .int .i64 j)
            case atStart => exact ⟨rfl, 0, Nat.le_refl _, Nat.zero_le _, rfl, rfl⟩
            case round =>
              obtain ⟨rfl, j, hgj, hj, rfl, rfl⟩ := hrel
              have hcn := Pl.occ_le v (l.take j)
              have hcl : (l.take j).length ≤ j := List.length_take_le _ _
              by_cases hlt3 : j < n1
              · obtain ⟨x, hx, hxb, hxs, hxc⟩ := str_get' (HS.out.sl 2 rfl) hlt3
                have e1 : (j : Int) < (n1 : Nat) := by omega
                have e2 : (0 : Int) ≤ (j : Nat) := by omega
                have HN := Lib.hid (Pl.occ_next (v := v) hx)
                clear hx
                by_cases hxv : x = v
                · subst hxv
                  have HN2 : Hid (Pl.occ x (l.take (j + 1)) = Pl.occ x (l.take j) + 1) := by show _ = _; rw [HN.out, if_pos rfl]
                  go_wp2
                  go_roundg (n1 - (j + 1))
                  case measure => omega
                  case rel => exact ⟨rfl, j + 1, Nat.le_refl _, by omega, by rw [HN2.out]; go_num, by go_num⟩
                · have HN2 : Hid (Pl.occ v (l.take (j + 1)) = Pl.occ v (l.take j)) := by show _ = _; rw [HN.out, if_neg hxv]; rfl
                  have hxe : (x.toList == v.toList) = false := ba_neq hxv
                  go_wp2
                  go_roundg (n1 - (j + 1))
                  case measure => omega
                  case rel => exact ⟨rfl, j + 1, Nat.le_refl _, by omega, by rw [HN2.out], by go_num⟩
              · have hjn : Hid (Pl.occ v (l.take j) = Pl.occ v l) := by show _ = _; rw [List.take_of_length_le (by have := hln.out; omega)]
                rw [hjn.out]
                obtain ⟨q, hq⟩ : ∃ q, Pl.occ v l = q := ⟨_, rfl⟩
                obtain ⟨lo, h1, h2, h3, h4⟩ := HFD.out.least hl200 HW.out
                rw [hq] at h2 h3 ⊢
                have HL := Lib.hid h1
                have hqn : q ≤ 200 := by have := Pl.occ_le v l; omega
                have t1 : ¬ (q : Int) < lo := by omega
                have t2 : ¬ lo + y.Gone < (q : Int) := by omega
                have HGB := HG.out
                have t3 : 0 ≤ (q : Int) * ((p : Int) + 1) := Int.mul_nonneg (by omega) (by omega)
                have t4 : (q : Int) * ((p : Int) + 1) ≤ 200 * 7 := Int.mul_le_mul (by omega) (by omega) (by omega) (by omega)
                have t5 : IntKind.i64.wrap ((q : Int) * ((p : Int) + 1)) = (q : Int) * ((p : Int) + 1) := IntWalk.i64_in _ (by omega)
                have t6 : lo = 0 → ¬ (n1 : Int) < (q : Int) * ((p : Int) + 1) := fun h0 => by
                  have a1 : (q : Int) ≤ y.Gone := by omega
                  have a2 := Int.mul_le_mul_of_nonneg_right a1 (show (0 : Int) ≤ (p : Int) + 1 by omega)
                  have := HGN.out
                  omega
                have T6 := Lib.hid t6
                clear hjn hcn hcl h1 h2 h3 h4 hq t3 t4 t6
                have p0 := HS.out.cell (k := 0) 4 rfl rfl
                have p1 := HS.out.cell (k := 1) 4 rfl rfl
                have p2 := HS.out.cell (k := 2) 4 rfl rfl
                have p3 := HS.out.cell (k := 3) 4 rfl rfl
                by_cases hlo : lo = 0
                · subst hlo
                  have t7 : decide ((n1 : Int) < (q : Int) * ((p : Int) + 1)) = false := decide_eq_false (T6.out rfl)
                  go_wp2_with (go_at_call 46; (have C1 := implLeastOf_c y _ v _ _ (HS.out.rd 3 rfl) (Nat.le_refl _) hvs); rw [HL.out] at C1; unfold Pl.ret3 at C1; (with_reducible refine C1.mono ?_); clear C1; rintro e w6 ⟨rfl, hb⟩; (replace HS := Lib.hid (HS.out.step hb)); clear hb)
                  go_roundg (n1 - (k2 + 1))
                  case measure => omega
                  case rel => exact ⟨k2 + 1, Nat.le_refl _, by omega, by go_num, HS.out⟩
                · have t8 : (lo == 0) = false := by simpa using hlo
                  by_cases hgt : (n1 : Int) < (q : Int) * ((p : Int) + 1)
                  · have t7 : decide ((n1 : Int) < (q : Int) * ((p : Int) + 1)) = true := decide_eq_true hgt
                    go_wp2_with (go_at_call 46; (have C1 := implLeastOf_c y _ v _ _ (HS.out.rd 3 rfl) (Nat.le_refl _) hvs); rw [HL.out] at C1; unfold Pl.ret3 at C1; (with_reducible refine C1.mono ?_); clear C1; rintro e w6 ⟨rfl, hb⟩; (replace HS := Lib.hid (HS.out.step hb)); clear hb)
                    go_roundg (n1 - (k2 + 1))
                    case measure => omega
                    case rel => exact ⟨k2 + 1, Nat.le_refl _, by omega, by go_num, HS.out⟩
                  · have t7 : decide ((n1 : Int) < (q : Int) * ((p : Int) + 1)) = false := decide_eq_false hgt
                    go_wp2_with (go_at_call 46; (have C1 := implLeastOf_c y _ v _ _ (HS.out.rd 3 rfl) (Nat.le_refl _) hvs); rw [HL.out] at C1; unfold Pl.ret3 at C1; (with_reducible refine C1.mono ?_); clear C1; rintro e w6 ⟨rfl, hb⟩; (replace HS := Lib.hid (HS.out.step hb)); clear hb)
                    go_roundg (n1 - (k2 + 1))
                    case measure => omega
                    case rel => exact ⟨k2 + 1, Nat.le_refl _, by omega, by go_num, HS.out⟩
          · have f1 : ¬ (k2 : Int) < (n1 : Nat) := by omega
            go_wp2_with fail
            go_meet
            exact HS.out
    case rest =>
    have HS := Lib.hid hcut
    clear hcut HF
    go_upto_region 37 with first
      | (go_at_call 47; refine (DrawAddHeavy_c more _ _ _ _ _ (HS.out.sl 1 rfl) (Nat.le_refl _)).mono ?_; rintro e w11 ⟨x, AX, BX, nX, kX, mX, dX, fpX, nm, rfl, hsz, hS⟩; (have hnm : nm.size ≤ maxLen := by unfold maxLen; omega); (replace HS := Lib.hid ((HS.out.add hS.bel0 (f := Mm.frd rHeavy _ _) (hS.rd 0 rfl)).var rfl 38 [.slice AX nX kX, .slice BX mX dX, .int .i64 x.Gone, .int .i64 x.Total])); clear hS hsz; (have c0X := HS.out.cell (k := 0) 6 rfl rfl); (have c1X := HS.out.cell (k := 1) 6 rfl rfl); (have c2X := HS.out.cell (k := 2) 6 rfl rfl); (have c3X := HS.out.cell (k := 3) 6 rfl rfl))
      | (go_at_call 18; refine (implAddHeavy_c x _ nm _ _ (HS.out.rd 5 rfl) (Nat.le_refl _) hnm).mono ?_; rintro e w12 ⟨csY, fpY, rfl, ho, hnd, hnf, hb⟩; obtain ⟨AY, nY, kY, BY, mY, dY, fY, gY, rfl, rfl, -⟩ := rHeavy_own ho; (replace HS := Lib.hid ((HS.out.add hb (f := Mm.frd rHeavy _ _) (rHeavy.weak ho (rHeavy.olt ho))).var rfl 38 [.slice AY nY kY, .slice BY mY dY, .int .i64 (Pl.addHeavy x nm).1.Gone, .int .i64 (Pl.addHeavy x nm).1.Total])); clear ho hnd hnf hb; (have c0X2 := HS.out.cell (k := 0) 6 rfl rfl); (have c1X2 := HS.out.cell (k := 1) 6 rfl rfl); (have c2X2 := HS.out.cell (k := 2) 6 rfl rfl); (have c3X2 := HS.out.cell (k := 3) 6 rfl rfl))
      | (go_at_call 16; refine (specAddHeavy_c x _ nm _ _ (HS.out.rd 5 rfl) (Nat.le_refl _) hnm).mono ?_; rintro e w13 ⟨csZ, fpZ, rfl, ho, hnd, hnf, hb⟩; obtain ⟨AZ, nZ, kZ, BZ, mZ, dZ, fZ, gZ, rfl, rfl, -⟩ := rHeavy_own ho; (replace HS := Lib.hid ((HS.out.add hb (f := Mm.frd rHeavy _ _) (rHeavy.weak ho (rHeavy.olt ho))).var rfl 38 [.slice AZ nZ kZ, .slice BZ mZ dZ, .int .i64 (Pl.addHeavy x nm).1.Gone, .int .i64 (Pl.addHeavy x nm).1.Total])); clear ho hnd hnf hb)
      | (go_at_call 48; refine (DrawLeastOf_c more _ _ _ _ _ (HS.out.sl 1 rfl) (Nat.le_refl _)).mono ?_; rintro e w14 ⟨z, AW, BW, nW, kW, mW, dW, fpW, who, rfl, hsz, hS⟩; (have hwho : who.size ≤ maxLen := by unfold maxLen; omega); (replace HS := Lib.hid ((HS.out.add hS.bel0 (f := Mm.frd rHeavy _ _) (hS.rd 0 rfl)).var rfl 38 [.slice AW nW kW, .slice BW mW dW, .int .i64 z.Gone, .int .i64 z.Total])); clear hS hsz; (have c0W := HS.out.cell (k := 0) 12 rfl rfl); (have c1W := HS.out.cell (k := 1) 12 rfl rfl); (have c2W := HS.out.cell (k := 2) 12 rfl rfl); (have c3W := HS.out.cell (k := 3) 12 rfl rfl))
      | (go_at_call 46; (have C1 := implLeastOf_c z _ who _ _ (HS.out.rd 11 rfl) (Nat.le_refl _) hwho); unfold Pl.ret3 at C1; (with_reducible refine C1.mono ?_); clear C1; rintro e w15 ⟨rfl, hb⟩; (replace HS := Lib.hid (HS.out.step hb)); (have c0W2 := HS.out.cell (k := 0) 12 rfl rfl); (have c1W2 := HS.out.cell (k := 1) 12 rfl rfl); (have c2W2 := HS.out.cell (k := 2) 12 rfl rfl); (have c3W2 := HS.out.cell (k := 3) 12 rfl rfl); clear hb)
      | (go_at_call 49; (have C1 := specLeastOf_c z _ who _ _ (HS.out.rd 11 rfl) (Nat.le_refl _) hwho); unfold Pl.ret3 at C1; (with_reducible refine C1.mono ?_); clear C1; rintro e w16 ⟨rfl, hb⟩; (replace HS := Lib.hid (HS.out.step hb)); clear hb)
      | (go_at_call 50; refine (DrawNewHeavy_c more _ _ _ _ _ (HS.out.sl 1 rfl) (Nat.le_refl _)).mono ?_; rintro e w17 ⟨pn, rfl, hpn0, hpn8, hb⟩; (replace HS := Lib.hid (HS.out.step hb)); clear hb)
      | (go_at_call 51; refine (implNewHeavy_c pn _).mono ?_; rintro e w18 ⟨csU, fpU, rfl, ho, hnd, hnf, hb⟩; obtain ⟨AU, nU, kU, BU, mU, dU, fU, gU, rfl, rfl, -⟩ := rHeavy_own ho; (replace HS := Lib.hid ((HS.out.add hb (f := Mm.frd rHeavy _ _) (rHeavy.weak ho (rHeavy.olt ho))).var rfl 38 [.slice AU nU kU, .slice BU mU dU, .int .i64 (Pl.newHeavy pn).1.Gone, .int .i64 (Pl.newHeavy pn).1.Total])); clear ho hnd hnf hb)
      | (go_at_call 52; refine (specNewHeavy_c pn _).mono ?_; rintro e w19 ⟨csV, fpV, rfl, ho, hnd, hnf, hb⟩; obtain ⟨AV, nV, kV, BV, mV, dV, fV, gV, rfl, rfl, -⟩ := rHeavy_own ho; (replace HS := Lib.hid ((HS.out.add hb (f := Mm.frd rHeavy _ _) (rHeavy.weak ho (rHeavy.olt ho))).var rfl 38 [.slice AV nV kV, .slice BV mV dV, .int .i64 (Pl.newHeavy pn).1.Gone, .int .i64 (Pl.newHeavy pn).1.Total])); clear ho hnd hnf hb)
      | (go_at_call 53; refine (DrawNewSketch_c more _ _ _ _ _ (HS.out.sl 1 rfl) (Nat.le_refl _)).mono ?_; rintro e w20 ⟨pm, rfl, hpm0, hpm8, hb⟩; (replace HS := Lib.hid (HS.out.step hb)); clear hb)
      | (go_at_call 29; refine (implNewSketch_c pm _).mono ?_; rintro e w21 ⟨csS, fpS, rfl, ho, hnd, hnf, hb⟩; obtain ⟨AS, nS, kS, fS, rfl, rfl, -⟩ := sk_own ho; (replace HS := Lib.hid ((HS.out.add hb (f := Mm.frd sk _ _) (sk.weak ho (sk.olt ho))).var rfl 26 [.slice AS nS kS, .int .i64 (Pl.newSketch pm).1.Total])); clear ho hnd hnf hb)
      | (go_at_call 54; refine (specNewSketch_c pm _).mono ?_; rintro e w22 ⟨csT, fpT, rfl, ho, hnd, hnf, hb⟩; obtain ⟨AT, nT, kT, fT, rfl, rfl, -⟩ := sk_own ho; (replace HS := Lib.hid ((HS.out.add hb (f := Mm.frd sk _ _) (sk.weak ho (sk.olt ho))).var rfl 26 [.slice AT nT kT, .int .i64 (Pl.newSketch pm).1.Total])); clear ho hnd hnf hb)
    simp only [List.cons_append, List.nil_append] at HS
    generalize Pl.addHeavy x nm = vA at HS ⊢
    generalize Pl.newHeavy pn = vN at HS ⊢
    generalize Pl.newSketch pm = vS at HS ⊢
    have c0a := HS.out.cell (k := 0) 6 rfl rfl
    have c1a := HS.out.cell (k := 1) 6 rfl rfl
    have c2a := HS.out.cell (k := 2) 6 rfl rfl
    have c3a := HS.out.cell (k := 3) 6 rfl rfl
    have c0b := HS.out.cell (k := 0) 8 rfl rfl
    have c1b := HS.out.cell (k := 1) 8 rfl rfl
    have c2b := HS.out.cell (k := 2) 8 rfl rfl
    have c3b := HS.out.cell (k := 3) 8 rfl rfl
    have c0cc := HS.out.cell (k := 0) 10 rfl rfl
    have c1cc := HS.out.cell (k := 1) 10 rfl rfl
    have c2cc := HS.out.cell (k := 2) 10 rfl rfl
    have c3cc := HS.out.cell (k := 3) 10 rfl rfl
    have c0dd := HS.out.cell (k := 0) 14 rfl rfl
    have c1dd := HS.out.cell (k := 1) 14 rfl rfl
    have c2dd := HS.out.cell (k := 2) 14 rfl rfl
    have c3dd := HS.out.cell (k := 3) 14 rfl rfl
    have c0ee := HS.out.cell (k := 0) 16 rfl rfl
    have c1ee := HS.out.cell (k := 1) 16 rfl rfl
    have c2ee := HS.out.cell (k := 2) 16 rfl rfl
    have c3ee := HS.out.cell (k := 3) 16 rfl rfl
    have c0ff := HS.out.cell (k := 0) 18 rfl rfl
    have c1ff := HS.out.cell (k := 1) 18 rfl rfl
    have c0gg := HS.out.cell (k := 0) 20 rfl rfl
    have c1gg := HS.out.cell (k := 1) 20 rfl rfl
    have CA := fun q => und_call q (sameHeavy_c vA.1 _ _ _ _ _ _ _ _ _ _ _ _ _ _ ((HS.out.und q).rd 7 rfl) ((HS.out.und q).rd 9 rfl) (Nat.le_refl _))
    have CN := fun q => und_call q (sameHeavy_c vN.1 _ _ _ _ _ _ _ _ _ _ _ _ _ _ ((HS.out.und q).rd 13 rfl) ((HS.out.und q).rd 15 rfl) (Nat.le_refl _))
    have CS := fun q => und_call q (sameSketch_c vS.1 _ _ _ _ _ _ _ _ ((HS.out.und q).rd 17 rfl) ((HS.out.und q).rd 19 rfl) (Nat.le_refl _))
    have CG := fun q => und_call q (implGoodHeavy_c x _ _ _ ((HS.out.und q).rd 5 rfl) (Nat.le_refl _))
    have CH := fun q => und_call q (specGoodHeavy_c x _ _ _ ((HS.out.und q).rd 5 rfl) (Nat.le_refl _))
    refine wp_region_und (by kernel_rfl) (by kernel_rfl) ?_
    repeat (go_big_quiet_step ((first | first | (go_at_call 44; (with_reducible exact CA _)) | (go_at_call 44; (with_reducible exact CN _)) | (go_at_call 33; (with_reducible exact CS _)) | (go_at_call 45; (with_reducible exact CG _)) | (go_at_call 55; (with_reducible exact CH _)))))
    refine wpQuiet_nil ?_
    intro X hX
    go_wp2
    go_ret
    exact ⟨by simp, below_step HS.out.bel hX⟩
end Go.Proofs.Ytjmcbggdckfefaa
