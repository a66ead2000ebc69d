/-
  Joined texts, in build order: LwFnOnce, LawFnOnce. Each part says what it proves; no conditions beyond those that a part names.
-/
import Derived.Test.YtaepohocabealaaZ01
import Derived.Test.YtaepohocabealaaZ02
import Derived.Test.YtaepohocabealaaZ03
import Derived.Test.YtaepohocabealaaZ04
import Derived.Test.YtaepohocabealaaZ05
import Derived.Test.YtaepohocabealaaZ06
import Derived.Test.YtaepohocabealaaZ07
import Derived.Test.YtaepohocabealaaZ08
import Derived.Test.YtaepohocabealaaZ09
import Derived.Deep.DeepCutAuto
import Derived.Test.YtaepohocabealaaRows
import Derived.WalkKit
import Derived.ProofKit
import Derived.OpenShut
import Derived.ShutString
import Derived.ChangeOld
import Derived.Below
/-
  The walk of the law on writings in order (chapter 10). No conditions.
-/
namespace Go.Proofs.Ytaepohocabealaa
open Go.RowKit
attribute [local go_sem] und_cell cha_cell World.cell?_alloc_some
theorem rTell_rd {w : World} {B : Nat} {x : Tell} {a0 a1 a2 a3 a4 : Option Addr} {n0 k0 n1 k1 n2 k2 n3 k3 n4 k4 : Nat} (h : rTell.at_ w B x [.slice a0 n0 k0, .slice a1 n1 k1, .slice a2 n2 k2, .slice a3 n3 k3, .slice a4 n4 k4]) : Mm.SlAt strs w B x.Texts a0 n0 k0 ∧ Mm.SlAt Mm.int w B x.Heard a1 n1 k1 := by
  obtain ⟨A0, m0, c0, A1, m1, c1, A2, m2, c2, A3, m3, c3, A4, m4, c4, hcs, r0, r1, -⟩ := rTell_at h
  simp only [List.cons.injEq, Value.slice.injEq] at hcs
  obtain ⟨⟨rfl, rfl, rfl⟩, ⟨rfl, rfl, rfl⟩, -⟩ := hcs
  exact ⟨r0, r1⟩
set_option maxRecDepth 100000 in
set_option maxHeartbeats 8000000 in
theorem walk_FnOnce (A : Option Addr) (n c : Nat) (code : List Int) (w : World) (hc : Mm.SlAt Mm.u8 w w.heap.size code A n c) :
    Calls Try.prog 3 #[.slice A n c] w fun e w' => e = .returned (.bool true) ∧ Below w.heap.size w w' := by
  have HC := Lib.hid hc
  have hlc : n ≤ maxLen := Nat.le_trans hc.2.1 hc.2.2.1
  unfold maxLen at hlc
  clear hc
  by_cases hbig : (1048576 : Int) < (n : Int)
  · go_enter Try.func3, Try.ntmps3
    go_wp2
    go_ret
    exact ⟨rfl, Below.refl _ _⟩
  · go_enter Try.func3, Try.ntmps3
    go_upto_region 4 with (go_at_call 8; refine (DrawPlayTell_c code _ _ _ _ w.heap.size HC.out (Nat.le_refl _)).mono ?_; rintro e w1 ⟨l, A1, n1, c1, m, rfl, hm1, hm3, hl150, hsl, hb1⟩; (have HF1 := Lib.hid (((Mm.Facts.nil w).step hb1).put (f := Mm.fsl rTellStep l A1 n1 c1) hsl)); clear hsl hb1)
    obtain ⟨t, bs, ok, hr⟩ : ∃ t bs ok, Pl.playTell m l = (t, bs, ok) := ⟨_, _, _, rfl⟩
    have HR := Lib.hid hr
    clear hr
    have CP := implPlayTell_c m l A1 n1 c1 w1 _ (HF1.out.sl 0 rfl) (Nat.le_refl _)
    rw [HR.out] at CP
    go_upto_region 5 with (go_at_call 9; (with_reducible refine CP.mono ?_); clear CP; rintro e w2 ⟨cs, A2, n2, c2, fp0, fp1, rfl, hs2⟩; obtain ⟨a0, k0, a1, k1, a2, k2, a3, k3, a4, k4, rfl⟩ := own_form (hs2.at_ 0 rfl); (have HF2 := Lib.hid ((((HF1.out.step hs2.bel0).put (f := Mm.frd rTell t _) (hs2.rd 0 rfl)).put (f := Mm.fsl Mm.bool bs A2 n2 c2) ((hs2.sl 1 rfl).weak (hs2.sl 1 rfl).olt)).var rfl 31 [.slice a0 t.Texts.length k0, .slice a1 t.Heard.length k1, .slice a2 t.Line.length k2, .slice a3 t.Log.length k3, .slice a4 t.Next.length k4])); clear hs2)
    obtain ⟨g5, hg5⟩ : ∃ g5, w2.heap.size = g5 := ⟨_, rfl⟩
    obtain ⟨W2, hW2⟩ : ∃ W2, w2.alloc (.cells #[.slice a0 t.Texts.length k0, .slice a1 t.Heard.length k1, .slice a2 t.Line.length k2, .slice a3 t.Log.length k3, .slice a4 t.Next.length k4] 31) = W2 := ⟨_, rfl⟩
    rw [List.toArray, hg5, hW2] at HF2
    rw [hg5, hW2]
    clear hg5 hW2
    have CQ := specPlayTell_c m l A1 n1 c1 W2 _ (HF2.out.sl 0 rfl) (Nat.le_refl _)
    rw [HR.out] at CQ
    go_upto_region 6 with (go_at_call 10; (with_reducible refine CQ.mono ?_); clear CQ; rintro e w3 ⟨cs, A3, n3, c3, fp2, fp3, rfl, hs3⟩; obtain ⟨e0, j0, e1, j1, e2, j2, e3, j3, e4, j4, rfl⟩ := own_form (hs3.at_ 0 rfl); (have HF3 := Lib.hid ((((HF2.out.step hs3.bel0).put (f := Mm.frd rTell t _) (hs3.rd 0 rfl)).put (f := Mm.fsl Mm.bool bs A3 n3 c3) ((hs3.sl 1 rfl).weak (hs3.sl 1 rfl).olt)).var rfl 31 [.slice e0 t.Texts.length j0, .slice e1 t.Heard.length j1, .slice e2 t.Line.length j2, .slice e3 t.Log.length j3, .slice e4 t.Next.length j4])); clear hs3)
    obtain ⟨g8, hg8⟩ : ∃ g8, w3.heap.size = g8 := ⟨_, rfl⟩
    obtain ⟨W3, hW3⟩ : ∃ W3, w3.alloc (.cells #[.slice e0 t.Texts.length j0, .slice e1 t.Heard.length j1, .slice e2 t.Line.length j2, .slice e3 t.Log.length j3, .slice e4 t.Next.length j4] 31) = W3 := ⟨_, rfl⟩
    rw [List.toArray, hg8, hW3] at HF3
    rw [hg8, hW3]
    clear hg8 hW3 HF2 HF1
    obtain rfl : n2 = n3 := (HF3.out.sl 2 rfl).1.symm.trans (HF3.out.sl 5 rfl).1
    have HF := HF3
    clear HF3
    cases ok with
    | false =>
      go_wp2_with first
        | (go_at_call 11; (with_reducible refine (sameBools_c bs A2 A3 n2 c2 c3 W3 _ (HF.out.sl 2 rfl) (HF.out.sl 5 rfl) (Nat.le_refl _)).mono ?_); rintro e w4 ⟨rfl, hb4⟩; (replace HF := Lib.hid (HF.out.step hb4)); clear hb4; (have b0 := HF.out.cell (k := 0) 3 rfl rfl); (have b1 := HF.out.cell (k := 1) 3 rfl rfl); (have b2 := HF.out.cell (k := 2) 3 rfl rfl); (have b3 := HF.out.cell (k := 3) 3 rfl rfl); (have b4 := HF.out.cell (k := 4) 3 rfl rfl); (have d0 := HF.out.cell (k := 0) 6 rfl rfl); (have d1 := HF.out.cell (k := 1) 6 rfl rfl); (have d2 := HF.out.cell (k := 2) 6 rfl rfl); (have d3 := HF.out.cell (k := 3) 6 rfl rfl); (have d4 := HF.out.cell (k := 4) 6 rfl rfl))
        | (go_at_call 12; (with_reducible refine (sameTells_c t _ _ w4 _ (HF.out.rd 1 rfl) (HF.out.rd 4 rfl) (Nat.le_refl _)).mono ?_); rintro e w5 ⟨rfl, hb5⟩; (replace HF := Lib.hid (HF.out.step hb5)); clear hb5; (clear b0 b1 b2 b3 b4); (clear d0 d1 d2 d3 d4))
      go_ret
      exact ⟨rfl, HF.out.bel⟩
    | true =>
      have HG : Hid (Pl.GoodP t ∧ (t.Texts.length : Int) = m) := by
        have h := HR.out
        unfold Pl.playTell at h
        split at h
        · injection h with h _
          have h1 := Pl.isIn_iff'.1 (‹_ ∧ _›).1
          have h2 := (Pl.GoodP.new (n := m.toNat) (by omega) (by omega)).play _ l rfl
          rw [h] at h2
          refine ⟨h2.1, ?_⟩
          rw [h2.2]
          show ((List.replicate m.toNat _).length : Int) = m
          rw [List.length_replicate]; omega
        · injection h with _ h; injection h with _ h; cases h
      have HSE : Hid (Pl.settleTell t = ((Pl.settleTo t t.Texts.length).1, (Pl.settleTo t t.Texts.length).2, true)) := Lib.hid (if_pos (Pl.good_iff.2 HG.out.1))
      go_upto_region 9 with first
        | (go_at_call 11; (with_reducible refine (sameBools_c bs A2 A3 n2 c2 c3 W3 _ (HF.out.sl 2 rfl) (HF.out.sl 5 rfl) (Nat.le_refl _)).mono ?_); rintro e w4 ⟨rfl, hb4⟩; (replace HF := Lib.hid (HF.out.step hb4)); clear hb4; (have b0 := HF.out.cell (k := 0) 3 rfl rfl); (have b1 := HF.out.cell (k := 1) 3 rfl rfl); (have b2 := HF.out.cell (k := 2) 3 rfl rfl); (have b3 := HF.out.cell (k := 3) 3 rfl rfl); (have b4 := HF.out.cell (k := 4) 3 rfl rfl); (have d0 := HF.out.cell (k := 0) 6 rfl rfl); (have d1 := HF.out.cell (k := 1) 6 rfl rfl); (have d2 := HF.out.cell (k := 2) 6 rfl rfl); (have d3 := HF.out.cell (k := 3) 6 rfl rfl); (have d4 := HF.out.cell (k := 4) 6 rfl rfl))
        | (go_at_call 12; (with_reducible refine (sameTells_c t _ _ w4 _ (HF.out.rd 1 rfl) (HF.out.rd 4 rfl) (Nat.le_refl _)).mono ?_); rintro e w5 ⟨rfl, hb5⟩; (replace HF := Lib.hid (HF.out.step hb5)); clear hb5; (clear b0 b1 b2 b3 b4); (clear d0 d1 d2 d3 d4); (have b0 := HF.out.cell (k := 0) 3 rfl rfl); (have b1 := HF.out.cell (k := 1) 3 rfl rfl); (have b2 := HF.out.cell (k := 2) 3 rfl rfl); (have b3 := HF.out.cell (k := 3) 3 rfl rfl); (have b4 := HF.out.cell (k := 4) 3 rfl rfl))
      obtain ⟨s, cnt, hst⟩ : ∃ s cnt, Pl.settleTo t t.Texts.length = (s, cnt) := ⟨_, _, rfl⟩
      have HGS : Hid (Pl.GoodP s ∧ 0 ≤ cnt ∧ s.Texts = t.Texts ∧ ∀ (k : Nat) (l : List ByteArray), t.Texts[k]? = some l → Pl.writtenOf s k = (l, true)) := by
        have h1 := HG.out.1.settleTo t.Texts.length (Nat.le_refl _)
        have h2 := Pl.settleTo_ok (Pl.good_wf (Pl.good_iff.2 HG.out.1)) (Pl.good_hle (Pl.good_iff.2 HG.out.1)) t.Texts.length (Nat.le_refl _)
        rw [hst] at h1 h2
        refine ⟨h1.1, h2.2.2.2.1, h1.2.2.1, fun k l hl => ?_⟩
        have := Pl.once_settled HG.out.1 (List.getElem?_eq_some_iff.1 hl).1 hl
        rw [hst] at this
        exact this
      rw [hst] at HSE
      dsimp only at HSE
      clear hst
      have CS := implSettleTell_c t _ w5 _ (HF.out.rd 1 rfl) (Nat.le_refl _)
      rw [HSE.out] at CS
      go_upto_region 10 with (go_at_call 13; (with_reducible refine CS.mono ?_); clear CS; rintro e w6 ⟨cs, fp6, rfl, hs6⟩; obtain ⟨y0, z0, y1, z1, y2, z2, y3, z3, y4, z4, rfl⟩ := own_form (hs6.at_ 0 rfl); (replace HF := Lib.hid (((HF.out.step hs6.bel0).put (f := Mm.frd rTell s _) (hs6.rd 0 rfl)).var rfl 31 [.slice y0 s.Texts.length z0, .slice y1 s.Heard.length z1, .slice y2 s.Line.length z2, .slice y3 s.Log.length z3, .slice y4 s.Next.length z4])); clear hs6; (clear b0 b1 b2 b3 b4))
      obtain ⟨g11, hg11⟩ : ∃ g11, w6.heap.size = g11 := ⟨_, rfl⟩
      obtain ⟨W6, hW6⟩ : ∃ W6, w6.alloc (.cells #[.slice y0 s.Texts.length z0, .slice y1 s.Heard.length z1, .slice y2 s.Line.length z2, .slice y3 s.Log.length z3, .slice y4 s.Next.length z4] 31) = W6 := ⟨_, rfl⟩
      rw [List.toArray, hg11, hW6] at HF
      rw [hg11, hW6]
      clear hg11 hW6
      have b0 := HF.out.cell (k := 0) 3 rfl rfl
      have b1 := HF.out.cell (k := 1) 3 rfl rfl
      have b2 := HF.out.cell (k := 2) 3 rfl rfl
      have b3 := HF.out.cell (k := 3) 3 rfl rfl
      have b4 := HF.out.cell (k := 4) 3 rfl rfl
      have x0 := HF.out.cell (k := 0) 8 rfl rfl
      have x1 := HF.out.cell (k := 1) 8 rfl rfl
      have x2 := HF.out.cell (k := 2) 8 rfl rfl
      have x3 := HF.out.cell (k := 3) 8 rfl rfl
      have x4 := HF.out.cell (k := 4) 8 rfl rfl
      have f0 : decide (cnt < 0) = false := by have := HGS.out.2.1; simp; omega
      have C1 := implGoodTell_c t _ W6 _ (HF.out.rd 1 rfl) (Nat.le_refl _)
      rw [Pl.good_iff.2 HG.out.1] at C1
      go_wp2_with (go_at_call 14; (with_reducible refine C1.mono ?_); clear C1; rintro e w7 ⟨rfl, hb7⟩; (replace HF := Lib.hid (HF.out.step hb7)); clear hb7; (clear b0 b1 b2 b3 b4); (clear x0 x1 x2 x3 x4); (have x0 := HF.out.cell (k := 0) 8 rfl rfl); (have x1 := HF.out.cell (k := 1) 8 rfl rfl); (have x2 := HF.out.cell (k := 2) 8 rfl rfl); (have x3 := HF.out.cell (k := 3) 8 rfl rfl); (have x4 := HF.out.cell (k := 4) 8 rfl rfl); (have C2 := implGoodTell_c s _ w7 _ (HF.out.rd 7 rfl) (Nat.le_refl _)); rw [Pl.good_iff.2 HGS.out.1] at C2; go_wp2_with (go_at_call 14; (with_reducible refine C2.mono ?_); clear C2; rintro e w8 ⟨rfl, hb8⟩; (replace HF := Lib.hid (HF.out.step hb8)); clear hb8; (clear x0 x1 x2 x3 x4)))
      obtain ⟨q, rfl⟩ : ∃ q : Nat, m = q := ⟨m.toNat, by omega⟩
      have HQ : Hid (t.Texts.length = q) := by have := HG.out.2; show _ = _; omega
      go_loopg [14] q (fun gg i wr => ∃ k : Nat, q - k ≤ gg ∧ k ≤ q ∧ i = .int .i64 k ∧ Below w8.heap.size w8 wr)
      case atStart => exact ⟨0, Nat.le_refl _, Nat.zero_le _, rfl, Below.refl _ _⟩
      case round =>
        obtain ⟨k, hgk, hk, rfl, hbel⟩ := hrel
        obtain ⟨W9, rfl⟩ : ∃ W9 : World, W9 = wr := ⟨_, rfl⟩
        have HK := Lib.hid hbel
        have HF9 := Lib.hid (HF.out.step hbel)
        clear hbel
        by_cases hlt : k < q
        · have f1 : (k : Int) < (q : Nat) := by omega
          have f2 : (0 : Int) ≤ (k : Nat) := by omega
          have f3 : ((k : Nat) : Int).toNat = k := by omega
          obtain ⟨l, hl⟩ : ∃ l, t.Texts[k]? = some l := ⟨_, List.getElem?_eq_getElem (by rw [HQ.out]; exact hlt)⟩
          have HL := Lib.hid hl
          have HW2 := Lib.hid (HGS.out.2.2.2 k l hl)
          have HO := Lib.hid (Pl.once_texts HG.out.1 (by rw [HQ.out]; exact hlt) hl)
          obtain ⟨tl, htl⟩ : ∃ tl, Pl.textsOf t.Log k = tl := ⟨_, rfl⟩
          rw [htl] at HO
          clear hl htl
          have C3 := implWrittenOf_c t k _ W9 _ (HF9.out.rd 1 rfl) (Nat.le_refl _)
          rw [HO.out.1] at C3
          have HF := HF9
          have b0 := HF.out.cell (k := 0) 3 rfl rfl
          have b1 := HF.out.cell (k := 1) 3 rfl rfl
          have b2 := HF.out.cell (k := 2) 3 rfl rfl
          have b3 := HF.out.cell (k := 3) 3 rfl rfl
          have b4 := HF.out.cell (k := 4) 3 rfl rfl
          go_upto_region 16 with (go_at_call 15; (with_reducible refine C3.mono ?_); clear C3; rintro e w10 ⟨P1, p1, q1, fp1, rfl, ho1, -, -, hb1⟩; (have HF10 := Lib.hid ((HF.out.step hb1).put (f := Mm.fsl Mm.str tl P1 p1 q1) (ho1.weak ho1.olt))); (replace HK := Lib.hid (below_step HK.out hb1)); clear ho1 hb1; (clear b0 b1 b2 b3 b4))
          clear HF HF9
          have HF := HF10
          clear HF10
          have C4 := implWrittenOf_c s k _ w10 _ (HF.out.rd 7 rfl) (Nat.le_refl _)
          rw [HW2.out] at C4
          have x0 := HF.out.cell (k := 0) 8 rfl rfl
          have x1 := HF.out.cell (k := 1) 8 rfl rfl
          have x2 := HF.out.cell (k := 2) 8 rfl rfl
          have x3 := HF.out.cell (k := 3) 8 rfl rfl
          have x4 := HF.out.cell (k := 4) 8 rfl rfl
          go_upto_region 17 with (go_at_call 15; (with_reducible refine C4.mono ?_); clear C4; rintro e w11 ⟨P2, p2, q2, fp2, rfl, ho2, -, -, hb2⟩; (have HF11 := Lib.hid ((HF.out.step hb2).put (f := Mm.fsl Mm.str l P2 p2 q2) (ho2.weak ho2.olt))); (replace HK := Lib.hid (below_step HK.out hb2)); clear ho2 hb2; (clear x0 x1 x2 x3 x4))
          clear HF
          have HF := HF11
          clear HF11
          have hpl := (HF.out.sl 9 rfl).1
          have hp2 := (HF.out.sl 10 rfl).1
          obtain ⟨r0, r1⟩ := rTell_rd (HF.out.rd 1 rfl)
          have hTl : t.Texts.length = q := HQ.out
          have hHl : t.Heard.length = q := (Pl.good_pre HG.out.1.pre).2.1.trans hTl
          obtain ⟨l', ba, offa, a', m1, d1, hx0, rfl, hb0, hsl, g0⟩ := strs_get r0 (show k < t.Texts.length by omega)
          obtain ⟨b, bh, offh, hxh, rfl, hbh, hih, gh⟩ := int_get r1 (show k < t.Heard.length by omega)
          obtain rfl : l' = l := by rw [HL.out] at hx0; injection hx0 with hx0; exact hx0.symm
          obtain ⟨b', hb', hbb⟩ := HO.out.2.2.2
          obtain rfl : b' = b := by rw [hb'] at hxh; injection hxh
          have hlt2 := HO.out.2.1
          have hm1 := hsl.1
          obtain rfl : m1 = p2 := hm1.symm.trans hp2
          have hcap := Nat.le_trans hsl.2.1 (Nat.le_refl _)
          have hdm := hsl.2.2.1
          unfold maxLen at hdm
          have HS1 := Lib.hid hsl
          have HS2 : Hid (Mm.SlAt Mm.str w11 w11.heap.size tl a' p1 d1) := by
            have h5 := hsl.take (k := p1) (by omega)
            show Mm.SlAt _ _ _ _ _ _ _
            rw [HO.out.2.2.1, hpl]
            exact h5
          clear r0 r1 hx0 hxh hsl hih hb'
          have f4 : (k : Int) < (t.Texts.length : Nat) := by omega
          have f5 : (k : Int) < (t.Heard.length : Nat) := by omega
          have u1 : decide ((m1 : Int) < (p1 : Nat)) = false := by simp; omega
          have u6 : p1 ≤ m1 := by omega
          have u2 : decide (((p1 : Nat) : Int) < b') = false := by simp; omega
          have u3 : (0 : Int) ≤ (p1 : Nat) := by omega
          have u4 : (p1 : Int) ≤ (d1 : Nat) := by omega
          have u5 : ((p1 : Nat) : Int).toNat = p1 := by omega
          have b0 := HF.out.cell (k := 0) 3 rfl rfl
          have b1 := HF.out.cell (k := 1) 3 rfl rfl
          have b2 := HF.out.cell (k := 2) 3 rfl rfl
          have b3 := HF.out.cell (k := 3) 3 rfl rfl
          have b4 := HF.out.cell (k := 4) 3 rfl rfl
          clear hTl hHl hpl hp2 hm1
          go_wp2_with first
            | (go_at_call 16; (with_reducible refine (sameTexts_c tl P1 a' p1 q1 d1 w11 _ (HF.out.sl 9 rfl) HS2.out (Nat.le_refl _)).mono ?_); rintro e w12 ⟨rfl, hb12⟩; (have HF12 := Lib.hid (HF.out.step hb12)); (have HS3 := Lib.hid ((HS1.out.keep fun b hb => hb12.block b hb).more hb12.size)); (replace g0 := below_some hb12 g0); (replace gh := below_some hb12 gh); (replace b0 := below_some hb12 b0); (replace b1 := below_some hb12 b1); (replace HK := Lib.hid (below_step HK.out hb12)); clear hb12 b2 b3 b4)
            | (go_at_call 16; (with_reducible refine (sameTexts_c _ P2 a' m1 q2 d1 w12 _ (HF12.out.sl 10 rfl) HS3.out (Nat.le_refl _)).mono ?_); rintro e w13 ⟨rfl, hb13⟩; (replace HK := Lib.hid (below_step HK.out hb13)); clear hb13)
          go_roundg (q - (k + 1))
          case measure => omega
          case rel => exact ⟨k + 1, Nat.le_refl _, by omega, by go_num, HK.out⟩
        · have f1 : ¬ (k : Int) < (q : Nat) := by omega
          go_wp2
          go_ret
          exact ⟨rfl, HF9.out.bel⟩
end Go.Proofs.Ytaepohocabealaa

/-
  The statement of FnOnce: for every input the law returns true, and every argument reads afterwards as it read before. No conditions.
-/
namespace Go.Proofs.Ytaepohocabealaa.fnOnce
open Go.ChangeShapes Go.WideShapes Go.ChangeAt Go.RowKit
open Go.ChangeMaps (open_string shut_string)
set_option linter.unusedVariables false

theorem own : ownKnob Try.prog.godebug = none := by kernel_rfl
theorem laidOut : laidOutB Try.prog = true := by kernel_rfl

set_option maxRecDepth 100000 in
theorem lifted (os : Os) (started : os.Started) (H : Type) (enc : TypeId × Value → H) :
    ReturnsInHanded {} Try.checked os 3 .any (Rows.fnOnceSpec.pre6 enc Try.prog Try.f3 Rows.fnOnceRow.domain false) (Rows.fnOnceSpec.post enc Try.prog Try.f3 false true false false) := by
  refine returnsInHanded_of_change (C := Try.checked) own started (by kernel_rfl) Try.func3
    (ChangeSpec.witness6 (enc := enc) (C := Try.checked) false ⟨#[], #[.slice none 0 0], []⟩ 8 (by kernel_rfl) (by kernel_rfl) (by kernel_rfl) (by kernel_rfl)) ?_
  intro W base args ds gs before hval0 hW hcnd _
  have hval : ∀ (j : Nat) t v, Try.f3.params[j]? = some t → args[j]? = some v → Value.okWide Try.prog W .any base t v := hval0
  have hW' := hW
  obtain ⟨p, q, hA0, hV, rfl, hfz, hnd⟩ := hW
  have hA : DataW.TrodAll enc Try.prog W 0 (fun _ => true) true Try.f3.params.toList args.toList ds p := hA0
  rw [Try.params3] at hA hval
  obtain ⟨v0, vs0, d0, ds0, p0, q0, hargs, rfl, rfl, h0, r0⟩ := trodAll_cons hA
  obtain ⟨rfl, rfl, rfl⟩ := trodAll_nil r0
  obtain rfl : args = #[v0] := by cases args; simp_all
  obtain ⟨rfl, rfl⟩ := trodVars_none hV
  have k0 := h0
  have lt0 : ∀ x ∈ p0, x.block < W.heap.size := by obtain ⟨m, hm⟩ := k0; exact DataW.trod_lt m _ _ _ hm
  obtain ⟨A0, n0, c0, a0, rfl, w0⟩ := Mm.open_sl opens_u8S Try.underlying22 (hval 0 22 v0 rfl rfl) h0
  clear hA0 hval0
  refine (walk_FnOnce A0 n0 c0 a0 W w0).mono fun e W' ⟨he, bel⟩ => ?_
  subst he
  exact ⟨_, rfl, _, _, _, [], _, [], hW', trodAll_mk1 (shut_bool Try.underlying4 _), (trodAll_cons_mk (Below.trod laidOut (by kernel_rfl) (of_decide_eq_true (by kernel_rfl)) k0 bel lt0) trodAll_mk0), rfl, bel.frame _, fun h => by cases h⟩

theorem over : Rows.fnOnceRow.holds Try.pinned (OpenSpec.ofChange Rows.fnOnceSpec) :=
  OpenClaim.holds_of_wide 3 Try.f3 rfl rfl rfl rfl rfl rfl rfl ⟨rfl, rfl, rfl, rfl, rfl⟩ rfl rfl rfl rfl rfl (by kernel_rfl) Try.func3 (by kernel_rfl)
    (of_decide_eq_true (by kernel_rfl)) (by unfold Func.isWrapper; first | (rw [if_pos (by decide +kernel)]; kernel_rfl) | (rw [if_neg (by decide +kernel)]; exact ⟨rfl, rfl⟩))
    (fun os started H enc _ => lifted os started H enc)

theorem proved : Rows.FnOnceSaid := over
#print axioms proved
end Go.Proofs.Ytaepohocabealaa.fnOnce
