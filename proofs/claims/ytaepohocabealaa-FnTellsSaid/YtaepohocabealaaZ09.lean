/-
  Joined texts, in build order: LwFnTells, LawFnTells. Each part says what it proves; no conditions beyond those that a part names.
-/
import Derived.Test.YtaepohocabealaaZ01
import Derived.Test.YtaepohocabealaaZ02
import Derived.Test.YtaepohocabealaaZ03
import Derived.Test.YtaepohocabealaaZ04
import Derived.Test.YtaepohocabealaaZ05
import Derived.Test.YtaepohocabealaaZ06
import Derived.Test.YtaepohocabealaaZ07
import Derived.Test.YtaepohocabealaaZ08
import Derived.Deep.DeepCutAuto
import Derived.Deep.CutBlock
import Derived.Test.YtaepohocabealaaRows
import Derived.WalkKit
import Derived.ProofKit
import Derived.OpenShut
import Derived.ShutString
import Derived.ChangeOld
import Derived.Below
/-
  The walk of the law on tellers (chapter 10). No conditions.
-/
namespace Go.Proofs.Ytaepohocabealaa
open Go.RowKit
attribute [local go_sem] und_cell cha_cell World.cell?_alloc_some
theorem Mm.Facts.varW {w0 w W : World} {fs : List Mm.Fact} {g : Nat} (h : Mm.Facts w0 w fs) (hg : w.heap.size = g) (t : TypeId) (cs : List Value) (hW : w.alloc (.cells cs.toArray t) = W) : Mm.Facts w0 W (fs ++ [Mm.fbk g t cs]) := hW ▸ h.var hg t cs
theorem rTell_all {w : World} {B : Nat} {x : Tell} {a0 a1 a2 a3 a4 : Option Addr} {n0 k0 n1 k1 n2 k2 n3 k3 n4 k4 : Nat} (h : rTell.at_ w B x [.slice a0 n0 k0, .slice a1 n1 k1, .slice a2 n2 k2, .slice a3 n3 k3, .slice a4 n4 k4]) : Mm.SlAt Mm.int w B x.Heard a1 n1 k1 ∧ Mm.SlAt rTold w B x.Log a3 n3 k3 ∧ Mm.SlAt Mm.int w B x.Next a4 n4 k4 := by
  obtain ⟨A0, m0, c0, A1, m1, c1, A2, m2, c2, A3, m3, c3, A4, m4, c4, hcs, r0, r1, r2, r3, r4⟩ := rTell_at h
  simp only [List.cons.injEq, Value.slice.injEq] at hcs
  obtain ⟨⟨rfl, rfl, rfl⟩, ⟨rfl, rfl, rfl⟩, ⟨rfl, rfl, rfl⟩, ⟨rfl, rfl, rfl⟩, ⟨rfl, rfl, rfl⟩, -⟩ := hcs
  exact ⟨r1, r3, r4⟩
theorem Pl.stepTell_true {t x : Tell} {s : TellStep} (h : Pl.stepTell t s = (x, true)) : Pl.GoodP t ∧ Pl.GoodP x ∧ Pl.Kept t x ∧ Pl.Grew t x := by
  unfold Pl.stepTell at h
  split at h
  · rename_i h1
    injection h with h _
    have hg := Pl.good_iff.1 h1.1
    subst h
    exact ⟨hg, hg.step s, Pl.step_kept t s, Pl.step_grew t s⟩
  · injection h with _ h; cases h
theorem Pl.settle_again {t x : Tell} {c : Int} (h : Pl.settleTell t = (x, c, true)) : Pl.settleTell x = (x, 0, true) := by
  have hg : Pl.GoodP t := by
    unfold Pl.settleTell at h
    split at h
    · exact Pl.good_iff.1 (by assumption)
    · injection h with _ h; injection h with _ h; cases h
  have h2 := Pl.settle_twice hg
  rw [h] at h2
  exact h2
set_option maxRecDepth 100000 in
set_option maxHeartbeats 8000000 in
theorem walk_FnTells (A A' : Option Addr) (n c n' c' : Nat) (code more : List Int) (w : World) (hc : Mm.SlAt Mm.u8 w w.heap.size code A n c) (hm : Mm.SlAt Mm.u8 w w.heap.size more A' n' c') :
    Calls Try.prog 4 #[.slice A n c, .slice A' n' c'] w fun e w' => e = .returned (.bool true) ∧ Below w.heap.size w w' := by
  have HC := Lib.hid hc
  have HM := Lib.hid hm
  have hlc : n ≤ maxLen := Nat.le_trans hc.2.1 hc.2.2.1
  have hlm : n' ≤ maxLen := Nat.le_trans hm.2.1 hm.2.2.1
  unfold maxLen at hlc hlm
  clear hc hm
  by_cases hbig : (1048576 : Int) < wrap64 ((n : Int) + (n' : Int))
  · go_enter Try.func4, Try.ntmps4
    go_wp2
    go_ret
    exact ⟨rfl, Below.refl _ _⟩
  · go_enter Try.func4, Try.ntmps4
    go_upto_region 4 with (go_at_call 17; refine (DrawStepTell_c code _ _ _ _ w.heap.size HC.out (Nat.le_refl _)).mono ?_; rintro e w1 ⟨t, cs, fp, s, rfl, hst, hs1⟩; obtain ⟨a0, ak0, a1, ak1, a2, ak2, a3, ak3, a4, ak4, rfl⟩ := own_form (hs1.at_ 0 rfl); (have HST := Lib.hid hst); (have HF := Lib.hid (((Mm.Facts.nil w).step hs1.bel0).put (f := Mm.frd rTell t _) (hs1.rd 0 rfl))); clear hs1 hst)
    obtain ⟨g5, hg5⟩ : ∃ g, w1.heap.size = g := ⟨_, rfl⟩
    obtain ⟨g6, hg6⟩ : ∃ g, g5 + 1 = g := ⟨_, rfl⟩
    obtain ⟨W1, hW1⟩ : ∃ W, w1.alloc (.cells #[.slice a0 t.Texts.length ak0, .slice a1 t.Heard.length ak1, .slice a2 t.Line.length ak2, .slice a3 t.Log.length ak3, .slice a4 t.Next.length ak4] 31) = W := ⟨_, rfl⟩
    obtain ⟨W2, hW2⟩ : ∃ W, W1.alloc (.cells #[.int .i64 s.Kind, .int .i64 s.K, .string s.Text] 46) = W := ⟨_, rfl⟩
    have hz1 : W1.heap.size = g6 := by rw [← hW1, Mm.sz1, hg5, hg6]
    replace HF := Lib.hid ((HF.out.varW hg5 31 [.slice a0 t.Texts.length ak0, .slice a1 t.Heard.length ak1, .slice a2 t.Line.length ak2, .slice a3 t.Log.length ak3, .slice a4 t.Next.length ak4] hW1).varW hz1 46 [.int .i64 s.Kind, .int .i64 s.K, .string s.Text] hW2)
    rw [hW1, hW2, hg5, hg6]
    clear hW1 hW2 hg5 hg6 hz1
    obtain ⟨x, ok, hr⟩ : ∃ x ok, Pl.stepTell t s = (x, ok) := ⟨_, _, rfl⟩
    have HR := Lib.hid hr
    clear hr
    have CI := implStepTell_c t _ s [.int .i64 s.Kind, .int .i64 s.K, .string s.Text] W2 _ (HF.out.rd 0 rfl) ⟨rfl, HST.out⟩ (Nat.le_refl _)
    rw [HR.out] at CI
    (have u0 := HF.out.cell (k := 0) 1 rfl rfl); (have u1 := HF.out.cell (k := 1) 1 rfl rfl); (have u2 := HF.out.cell (k := 2) 1 rfl rfl); (have u3 := HF.out.cell (k := 3) 1 rfl rfl); (have u4 := HF.out.cell (k := 4) 1 rfl rfl)
    have v0 := HF.out.cell (k := 0) 2 rfl rfl
    have v1 := HF.out.cell (k := 1) 2 rfl rfl
    have v2 := HF.out.cell (k := 2) 2 rfl rfl
    go_upto_region 5 with (go_at_call 18; (with_reducible refine CI.mono ?_); clear CI; rintro e w3 ⟨cs, fp1, rfl, ho, hnd, hnew, hb⟩; obtain ⟨b0, bk0, b1, bk1, b2, bk2, b3, bk3, b4, bk4, rfl⟩ := own_form ho; (replace HF := Lib.hid ((HF.out.step hb).put (f := Mm.frd rTell x _) (rTell.weak ho (rTell.olt ho)))); clear ho hnd hnew hb; clear u0 u1 u2 u3 u4; clear v0 v1 v2)
    obtain ⟨g7, hg7⟩ : ∃ g, w3.heap.size = g := ⟨_, rfl⟩
    obtain ⟨W3, hW3⟩ : ∃ W, w3.alloc (.cells #[.slice b0 x.Texts.length bk0, .slice b1 x.Heard.length bk1, .slice b2 x.Line.length bk2, .slice b3 x.Log.length bk3, .slice b4 x.Next.length bk4] 31) = W := ⟨_, rfl⟩
    replace HF := Lib.hid (HF.out.varW hg7 31 [.slice b0 x.Texts.length bk0, .slice b1 x.Heard.length bk1, .slice b2 x.Line.length bk2, .slice b3 x.Log.length bk3, .slice b4 x.Next.length bk4] hW3)
    rw [hW3, hg7]
    clear hW3 hg7
    have CJ := specStepTell_c t _ s [.int .i64 s.Kind, .int .i64 s.K, .string s.Text] W3 _ (HF.out.rd 0 rfl) ⟨rfl, HST.out⟩ (Nat.le_refl _)
    rw [HR.out] at CJ
    (have u0 := HF.out.cell (k := 0) 1 rfl rfl); (have u1 := HF.out.cell (k := 1) 1 rfl rfl); (have u2 := HF.out.cell (k := 2) 1 rfl rfl); (have u3 := HF.out.cell (k := 3) 1 rfl rfl); (have u4 := HF.out.cell (k := 4) 1 rfl rfl)
    have v0 := HF.out.cell (k := 0) 2 rfl rfl
    have v1 := HF.out.cell (k := 1) 2 rfl rfl
    have v2 := HF.out.cell (k := 2) 2 rfl rfl
    go_upto_region 6 with (go_at_call 19; (with_reducible refine CJ.mono ?_); clear CJ; rintro e w4 ⟨cs, fp1, rfl, ho, hnd, hnew, hb⟩; obtain ⟨c0, ck0, c1, ck1, c2, ck2, c3, ck3, c4, ck4, rfl⟩ := own_form ho; (replace HF := Lib.hid ((HF.out.step hb).put (f := Mm.frd rTell x _) (rTell.weak ho (rTell.olt ho)))); clear ho hnd hnew hb; clear u0 u1 u2 u3 u4; clear v0 v1 v2)
    obtain ⟨g9, hg9⟩ : ∃ g, w4.heap.size = g := ⟨_, rfl⟩
    obtain ⟨W4, hW4⟩ : ∃ W, w4.alloc (.cells #[.slice c0 x.Texts.length ck0, .slice c1 x.Heard.length ck1, .slice c2 x.Line.length ck2, .slice c3 x.Log.length ck3, .slice c4 x.Next.length ck4] 31) = W := ⟨_, rfl⟩
    replace HF := Lib.hid (HF.out.varW hg9 31 [.slice c0 x.Texts.length ck0, .slice c1 x.Heard.length ck1, .slice c2 x.Line.length ck2, .slice c3 x.Log.length ck3, .slice c4 x.Next.length ck4] hW4)
    rw [hW4, hg9]
    clear hW4 hg9
    obtain ⟨gd, hgd⟩ : ∃ gd, Pl.goodTell t = gd := ⟨_, rfl⟩
    have C1 := fun z : Und W4 => und_call z (sameTells_c x _ _ (und W4 z) _ ((HF.out.und z).rd 3 rfl) ((HF.out.und z).rd 5 rfl) (Nat.le_refl _))
    have C2 := fun z : Und W4 => und_call z (implGoodTell_c t _ (und W4 z) _ ((HF.out.und z).rd 0 rfl) (Nat.le_refl _))
    have C3 := fun z : Und W4 => und_call z (GoodTell_c t _ (und W4 z) _ ((HF.out.und z).rd 0 rfl) (Nat.le_refl _))
    rw [hgd] at C2 C3
    clear hgd
    have f1 : (ok != ok) = false := by cases ok <;> rfl
    have f2 : (gd != gd) = false := by cases gd <;> rfl
    (have u0 := HF.out.cell (k := 0) 1 rfl rfl); (have u1 := HF.out.cell (k := 1) 1 rfl rfl); (have u2 := HF.out.cell (k := 2) 1 rfl rfl); (have u3 := HF.out.cell (k := 3) 1 rfl rfl); (have u4 := HF.out.cell (k := 4) 1 rfl rfl)
    (have x0 := HF.out.cell (k := 0) 4 rfl rfl); (have x1 := HF.out.cell (k := 1) 4 rfl rfl); (have x2 := HF.out.cell (k := 2) 4 rfl rfl); (have x3 := HF.out.cell (k := 3) 4 rfl rfl); (have x4 := HF.out.cell (k := 4) 4 rfl rfl)
    (have y0 := HF.out.cell (k := 0) 6 rfl rfl); (have y1 := HF.out.cell (k := 1) 6 rfl rfl); (have y2 := HF.out.cell (k := 2) 6 rfl rfl); (have y3 := HF.out.cell (k := 3) 6 rfl rfl); (have y4 := HF.out.cell (k := 4) 6 rfl rfl)
    go_wp2
    refine wp_region_und (by kernel_rfl) (by kernel_rfl) ?_
    repeat (go_big_quiet_step ((first | (first | (go_at_call 12; with_reducible exact C1 _) | (go_at_call 14; with_reducible exact C2 _) | (go_at_call 20; with_reducible exact C3 _)))))
    refine wpQuiet_nil ?_
    intro X hX
    replace HF := Lib.hid (HF.out.step hX)
    clear C1 C2 C3 f1 f2 hX
    clear u0 u1 u2 u3 u4
    clear x0 x1 x2 x3 x4
    clear y0 y1 y2 y3 y4
    go_upto_if 79 with fail
    go_cut [] (fun wx => Below w.heap.size w wx)
    case first =>
      cases ok with
      | false =>
        go_wp2_with fail
        go_meet
        exact HF.out.bel
      | true =>
        have HG := Lib.hid (Pl.stepTell_true HR.out)
        have CG := implGoodTell_c x _ X _ (HF.out.rd 3 rfl) (Nat.le_refl _)
        rw [Pl.good_iff.2 HG.out.2.1] at CG
        have hl1 := HG.out.2.2.1.len.1
        have hl2 := HG.out.2.2.1.len.2
        have hl3 := (Pl.good_wf (Pl.good_iff.2 HG.out.1)).log_len
        have f1 : decide (((x.Log.length : Nat) : Int) < (t.Log.length : Nat)) = false := by simp; omega
        have f3 : IntKind.i64.wrap (((t.Log.length : Nat) : Int) + 1) = ((t.Log.length : Nat) : Int) + 1 := IntWalk.i64_in _ (by omega)
        have f2 : decide (((t.Log.length : Nat) : Int) + 1 < (x.Log.length : Nat)) = false := by simp; omega
        (have u0 := HF.out.cell (k := 0) 1 rfl rfl); (have u1 := HF.out.cell (k := 1) 1 rfl rfl); (have u2 := HF.out.cell (k := 2) 1 rfl rfl); (have u3 := HF.out.cell (k := 3) 1 rfl rfl); (have u4 := HF.out.cell (k := 4) 1 rfl rfl)
        (have x0 := HF.out.cell (k := 0) 4 rfl rfl); (have x1 := HF.out.cell (k := 1) 4 rfl rfl); (have x2 := HF.out.cell (k := 2) 4 rfl rfl); (have x3 := HF.out.cell (k := 3) 4 rfl rfl); (have x4 := HF.out.cell (k := 4) 4 rfl rfl)
        go_upto_region 11 with (go_at_call 14; (with_reducible refine CG.mono ?_); clear CG; rintro e w5 ⟨rfl, hb5⟩; (replace HF := Lib.hid (HF.out.step hb5)); clear hb5; clear u0 u1 u2 u3 u4; clear x0 x1 x2 x3 x4; (have u0 := HF.out.cell (k := 0) 1 rfl rfl); (have u1 := HF.out.cell (k := 1) 1 rfl rfl); (have u2 := HF.out.cell (k := 2) 1 rfl rfl); (have u3 := HF.out.cell (k := 3) 1 rfl rfl); (have u4 := HF.out.cell (k := 4) 1 rfl rfl); (have x0 := HF.out.cell (k := 0) 4 rfl rfl); (have x1 := HF.out.cell (k := 1) 4 rfl rfl); (have x2 := HF.out.cell (k := 2) 4 rfl rfl); (have x3 := HF.out.cell (k := 3) 4 rfl rfl); (have x4 := HF.out.cell (k := 4) 4 rfl rfl))
        clear f1 f2 f3
        have HF0 := HF
        go_wp2
        clear HF
        clear u0 u1 u2 u3 u4
        clear x0 x1 x2 x3 x4
        go_loopg [105] t.Log.length (fun gg i wr => ∃ k : Nat, t.Log.length - k ≤ gg ∧ k ≤ t.Log.length ∧ i = .int .i64 k ∧ Below w5.heap.size w5 wr)
        case atStart => exact ⟨0, Nat.le_refl _, Nat.zero_le _, rfl, Below.refl _ _⟩
        case round =>
          obtain ⟨k, hgk, hk, rfl, hbel⟩ := hrel
          obtain ⟨W9, rfl⟩ : ∃ W9 : World, W9 = wr := ⟨_, rfl⟩
          have HK := Lib.hid hbel
          have HF := Lib.hid (HF0.out.step hbel)
          clear hbel
          (have u0 := HF.out.cell (k := 0) 1 rfl rfl); (have u1 := HF.out.cell (k := 1) 1 rfl rfl); (have u2 := HF.out.cell (k := 2) 1 rfl rfl); (have u3 := HF.out.cell (k := 3) 1 rfl rfl); (have u4 := HF.out.cell (k := 4) 1 rfl rfl)
          (have x0 := HF.out.cell (k := 0) 4 rfl rfl); (have x1 := HF.out.cell (k := 1) 4 rfl rfl); (have x2 := HF.out.cell (k := 2) 4 rfl rfl); (have x3 := HF.out.cell (k := 3) 4 rfl rfl); (have x4 := HF.out.cell (k := 4) 4 rfl rfl)
          by_cases hlt : k < t.Log.length
          · obtain ⟨p, b, off, hx, rfl, hb, q0, q1, q2, x00, x01, x02⟩ := rTold_get (rTell_all (HF.out.rd 0 rfl)).2.1 hlt
            obtain ⟨p', b', off', hy, rfl, hb', v0, v1, v2, y00, y01, y02⟩ := rTold_get (rTell_all (HF.out.rd 3 rfl)).2.1 (show k < x.Log.length by omega)
            obtain rfl : p = p' := by rw [HG.out.2.2.1.at_ hx] at hy; injection hy
            clear hx hy
            have f1 : (k : Int) < (t.Log.length : Nat) := by omega
            have f4 : (k : Int) < (x.Log.length : Nat) := by omega
            have f2 : (0 : Int) ≤ (k : Nat) := by omega
            have f3 : ((k : Nat) : Int).toNat = k := by omega
            go_wp2
            go_quiet (fail)
            go_wp2
            go_roundg (t.Log.length - (k + 1))
            case measure => omega
            case rel => exact ⟨k + 1, Nat.le_refl _, by omega, by go_num, below_drewN HK.out _⟩
          · have f1 : ¬ (k : Int) < (t.Log.length : Nat) := by omega
            have HP : Hid (x.Heard.length = t.Heard.length ∧ t.Next.length = t.Heard.length ∧ x.Next.length = t.Heard.length ∧ t.Heard.length ≤ 4) := by
              have hp := Pl.good_pre HG.out.1.pre
              have hp2 := Pl.good_pre HG.out.2.1.pre
              have hgr := HG.out.2.2.2.1
              refine ⟨?_, ?_, ?_, ?_⟩ <;> omega
            have HKB := HK
            clear HF0
            have HF0 := HF
            go_wp2
            clear HF f1
            clear u0 u1 u2 u3 u4
            clear x0 x1 x2 x3 x4
            go_loopg [123] t.Heard.length (fun gg i wr => ∃ k : Nat, t.Heard.length - k ≤ gg ∧ k ≤ t.Heard.length ∧ i = .int .i64 k ∧ Below W9.heap.size W9 wr)
            case atStart => exact ⟨0, Nat.le_refl _, Nat.zero_le _, rfl, Below.refl _ _⟩
            case round =>
              obtain ⟨j, hgk, hk, rfl, hbel⟩ := hrel
              obtain ⟨W8, rfl⟩ : ∃ W8 : World, W8 = wr := ⟨_, rfl⟩
              have HK := Lib.hid hbel
              have HF := Lib.hid (HF0.out.step hbel)
              clear hbel
              (have u0 := HF.out.cell (k := 0) 1 rfl rfl); (have u1 := HF.out.cell (k := 1) 1 rfl rfl); (have u2 := HF.out.cell (k := 2) 1 rfl rfl); (have u3 := HF.out.cell (k := 3) 1 rfl rfl); (have u4 := HF.out.cell (k := 4) 1 rfl rfl)
              (have x0 := HF.out.cell (k := 0) 4 rfl rfl); (have x1 := HF.out.cell (k := 1) 4 rfl rfl); (have x2 := HF.out.cell (k := 2) 4 rfl rfl); (have x3 := HF.out.cell (k := 3) 4 rfl rfl); (have x4 := HF.out.cell (k := 4) 4 rfl rfl)
              by_cases hlt : j < t.Heard.length
              · obtain ⟨p1, b1, o1, hx1, rfl, hb1, i1, e1⟩ := int_get (rTell_all (HF.out.rd 0 rfl)).1 hlt
                obtain ⟨p2, b2, o2, hx2, rfl, hb2, i2, e2⟩ := int_get (rTell_all (HF.out.rd 3 rfl)).1 (show j < x.Heard.length by rw [HP.out.1]; exact hlt)
                obtain ⟨p3, b3, o3, hx3, rfl, hb3, i3, e3⟩ := int_get (rTell_all (HF.out.rd 0 rfl)).2.2 (show j < t.Next.length by rw [HP.out.2.1]; exact hlt)
                obtain ⟨p4, b4, o4, hx4, rfl, hb4, i4, e4⟩ := int_get (rTell_all (HF.out.rd 3 rfl)).2.2 (show j < x.Next.length by rw [HP.out.2.2.1]; exact hlt)
                have hm1 := HG.out.2.2.2.2 j
                rw [Pl.iAt_of (l := t.Heard) (k := (j : Int)) (by rw [show ((j : Nat) : Int).toNat = j by omega]; exact hx1), Pl.iAt_of (l := x.Heard) (k := (j : Int)) (by rw [show ((j : Nat) : Int).toNat = j by omega]; exact hx2)] at hm1
                have hm2 := HG.out.2.2.1.2 j
                rw [Pl.iAt_of (l := t.Next) (k := (j : Int)) (by rw [show ((j : Nat) : Int).toNat = j by omega]; exact hx3), Pl.iAt_of (l := x.Next) (k := (j : Int)) (by rw [show ((j : Nat) : Int).toNat = j by omega]; exact hx4)] at hm2
                clear hx1 hx2 hx3 hx4
                have d1 : decide (p2 < p1) = false := by simp; omega
                have d2 : decide (p4 < p3) = false := by simp; omega
                have f1 : (j : Int) < (t.Heard.length : Nat) := by omega
                have f4 : (j : Int) < (x.Heard.length : Nat) := by rw [HP.out.1]; omega
                have f5 : (j : Int) < (t.Next.length : Nat) := by rw [HP.out.2.1]; omega
                have f6 : (j : Int) < (x.Next.length : Nat) := by rw [HP.out.2.2.1]; omega
                have f2 : (0 : Int) ≤ (j : Nat) := by omega
                have f3 : ((j : Nat) : Int).toNat = j := by omega
                have f9 : j < 4 := Nat.lt_of_lt_of_le hlt HP.out.2.2.2
                go_wp2
                go_quiet (fail)
                go_wp2
                go_roundg (t.Heard.length - (j + 1))
                case measure => omega
                case rel => exact ⟨j + 1, Nat.le_refl _, by omega, by go_num, below_drewN HK.out _⟩
              · have f1 : ¬ (j : Int) < (t.Heard.length : Nat) := by omega
                go_wp2
                go_meet
                exact HF.out.bel
    case rest =>
    clear HF HR HST
    have HM1 := Lib.hid (HM.out.keep fun b hb => hcut.block b hb)
    have hsz := hcut.size
    have HCUT := Lib.hid hcut
    clear hcut
    go_upto_region 24 with (go_at_call 21; refine (DrawSettleTell_c more _ _ _ wc w.heap.size HM1.out hsz).mono ?_; rintro e w5 ⟨y, cs, fp, rfl, hs1⟩; obtain ⟨d0, dk0, d1, dk1, d2, dk2, d3, dk3, d4, dk4, rfl⟩ := own_form (hs1.at_ 0 rfl); (have HF := Lib.hid (((Mm.Facts.nil wc).step hs1.bel0).put (f := Mm.frd rTell y _) (hs1.rd 0 rfl))); clear hs1)
    obtain ⟨g13, hg13⟩ : ∃ g, w5.heap.size = g := ⟨_, rfl⟩
    obtain ⟨W5, hW5⟩ : ∃ W, w5.alloc (.cells #[.slice d0 y.Texts.length dk0, .slice d1 y.Heard.length dk1, .slice d2 y.Line.length dk2, .slice d3 y.Log.length dk3, .slice d4 y.Next.length dk4] 31) = W := ⟨_, rfl⟩
    replace HF := Lib.hid (HF.out.varW hg13 31 [.slice d0 y.Texts.length dk0, .slice d1 y.Heard.length dk1, .slice d2 y.Line.length dk2, .slice d3 y.Log.length dk3, .slice d4 y.Next.length dk4] hW5)
    rw [hW5, hg13]
    clear hW5 hg13
    obtain ⟨z, cnt, one, hst⟩ : ∃ z cnt one, Pl.settleTell y = (z, cnt, one) := ⟨_, _, _, rfl⟩
    have HST := Lib.hid hst
    clear hst
    have CI := implSettleTell_c y _ W5 _ (HF.out.rd 0 rfl) (Nat.le_refl _)
    rw [HST.out] at CI
    (have u0 := HF.out.cell (k := 0) 1 rfl rfl); (have u1 := HF.out.cell (k := 1) 1 rfl rfl); (have u2 := HF.out.cell (k := 2) 1 rfl rfl); (have u3 := HF.out.cell (k := 3) 1 rfl rfl); (have u4 := HF.out.cell (k := 4) 1 rfl rfl)
    go_upto_region 25 with (go_at_call 13; (with_reducible refine CI.mono ?_); clear CI; rintro e w6 ⟨cs, fp1, rfl, hs1⟩; obtain ⟨h0, hk0, h1, hk1, h2, hk2, h3, hk3, h4, hk4, rfl⟩ := own_form (hs1.at_ 0 rfl); (replace HF := Lib.hid ((HF.out.step hs1.bel0).put (f := Mm.frd rTell z _) (hs1.rd 0 rfl))); clear hs1; clear u0 u1 u2 u3 u4)
    obtain ⟨g14, hg14⟩ : ∃ g, w6.heap.size = g := ⟨_, rfl⟩
    obtain ⟨W6, hW6⟩ : ∃ W, w6.alloc (.cells #[.slice h0 z.Texts.length hk0, .slice h1 z.Heard.length hk1, .slice h2 z.Line.length hk2, .slice h3 z.Log.length hk3, .slice h4 z.Next.length hk4] 31) = W := ⟨_, rfl⟩
    replace HF := Lib.hid (HF.out.varW hg14 31 [.slice h0 z.Texts.length hk0, .slice h1 z.Heard.length hk1, .slice h2 z.Line.length hk2, .slice h3 z.Log.length hk3, .slice h4 z.Next.length hk4] hW6)
    rw [hW6, hg14]
    clear hW6 hg14
    have CJ := specSettleTell_c y _ W6 _ (HF.out.rd 0 rfl) (Nat.le_refl _)
    rw [HST.out] at CJ
    (have u0 := HF.out.cell (k := 0) 1 rfl rfl); (have u1 := HF.out.cell (k := 1) 1 rfl rfl); (have u2 := HF.out.cell (k := 2) 1 rfl rfl); (have u3 := HF.out.cell (k := 3) 1 rfl rfl); (have u4 := HF.out.cell (k := 4) 1 rfl rfl)
    go_upto_region 26 with (go_at_call 22; (with_reducible refine CJ.mono ?_); clear CJ; rintro e w7 ⟨cs, fp1, rfl, hs1⟩; obtain ⟨p0, pk0, p1, pk1, p2, pk2, p3, pk3, p4, pk4, rfl⟩ := own_form (hs1.at_ 0 rfl); (replace HF := Lib.hid ((HF.out.step hs1.bel0).put (f := Mm.frd rTell z _) (hs1.rd 0 rfl))); clear hs1; clear u0 u1 u2 u3 u4)
    obtain ⟨g17, hg17⟩ : ∃ g, w7.heap.size = g := ⟨_, rfl⟩
    obtain ⟨W7, hW7⟩ : ∃ W, w7.alloc (.cells #[.slice p0 z.Texts.length pk0, .slice p1 z.Heard.length pk1, .slice p2 z.Line.length pk2, .slice p3 z.Log.length pk3, .slice p4 z.Next.length pk4] 31) = W := ⟨_, rfl⟩
    replace HF := Lib.hid (HF.out.varW hg17 31 [.slice p0 z.Texts.length pk0, .slice p1 z.Heard.length pk1, .slice p2 z.Line.length pk2, .slice p3 z.Log.length pk3, .slice p4 z.Next.length pk4] hW7)
    rw [hW7, hg17]
    clear hW7 hg17
    have f1 : (one != one) = false := by cases one <;> rfl
    have f2 : (cnt != cnt) = false := by simp
    (have x0 := HF.out.cell (k := 0) 3 rfl rfl); (have x1 := HF.out.cell (k := 1) 3 rfl rfl); (have x2 := HF.out.cell (k := 2) 3 rfl rfl); (have x3 := HF.out.cell (k := 3) 3 rfl rfl); (have x4 := HF.out.cell (k := 4) 3 rfl rfl)
    (have y0 := HF.out.cell (k := 0) 5 rfl rfl); (have y1 := HF.out.cell (k := 1) 5 rfl rfl); (have y2 := HF.out.cell (k := 2) 5 rfl rfl); (have y3 := HF.out.cell (k := 3) 5 rfl rfl); (have y4 := HF.out.cell (k := 4) 5 rfl rfl)
    go_upto_if 179 with (go_at_call 12; (with_reducible refine (sameTells_c z _ _ W7 _ (HF.out.rd 2 rfl) (HF.out.rd 4 rfl) (Nat.le_refl _)).mono ?_); rintro e w8 ⟨rfl, hb8⟩; (replace HF := Lib.hid (HF.out.step hb8)); clear hb8; clear x0 x1 x2 x3 x4; clear y0 y1 y2 y3 y4)
    clear f1 f2
    go_cut [] (fun wx => Below wc.heap.size wc wx)
    case first =>
      cases one with
      | false =>
        go_wp2_with fail
        go_meet
        exact HF.out.bel
      | true =>
        have HAG := Lib.hid (Pl.settle_again HST.out)
        have CI := implSettleTell_c z _ w8 _ (HF.out.rd 2 rfl) (Nat.le_refl _)
        rw [HAG.out] at CI
        (have x0 := HF.out.cell (k := 0) 3 rfl rfl); (have x1 := HF.out.cell (k := 1) 3 rfl rfl); (have x2 := HF.out.cell (k := 2) 3 rfl rfl); (have x3 := HF.out.cell (k := 3) 3 rfl rfl); (have x4 := HF.out.cell (k := 4) 3 rfl rfl)
        go_upto_region 30 with (go_at_call 13; (with_reducible refine CI.mono ?_); clear CI; rintro e w9 ⟨cs, fp1, rfl, hs1⟩; obtain ⟨q0, qk0, q1, qk1, q2, qk2, q3, qk3, q4, qk4, rfl⟩ := own_form (hs1.at_ 0 rfl); (replace HF := Lib.hid ((HF.out.step hs1.bel0).put (f := Mm.frd rTell z _) (hs1.rd 0 rfl))); clear hs1; clear x0 x1 x2 x3 x4)
        obtain ⟨g20, hg20⟩ : ∃ g, w9.heap.size = g := ⟨_, rfl⟩
        obtain ⟨W9, hW9⟩ : ∃ W, w9.alloc (.cells #[.slice q0 z.Texts.length qk0, .slice q1 z.Heard.length qk1, .slice q2 z.Line.length qk2, .slice q3 z.Log.length qk3, .slice q4 z.Next.length qk4] 31) = W := ⟨_, rfl⟩
        replace HF := Lib.hid (HF.out.varW hg20 31 [.slice q0 z.Texts.length qk0, .slice q1 z.Heard.length qk1, .slice q2 z.Line.length qk2, .slice q3 z.Log.length qk3, .slice q4 z.Next.length qk4] hW9)
        rw [hW9, hg20]
        clear hW9 hg20
        (have x0 := HF.out.cell (k := 0) 3 rfl rfl); (have x1 := HF.out.cell (k := 1) 3 rfl rfl); (have x2 := HF.out.cell (k := 2) 3 rfl rfl); (have x3 := HF.out.cell (k := 3) 3 rfl rfl); (have x4 := HF.out.cell (k := 4) 3 rfl rfl)
        (have y0 := HF.out.cell (k := 0) 7 rfl rfl); (have y1 := HF.out.cell (k := 1) 7 rfl rfl); (have y2 := HF.out.cell (k := 2) 7 rfl rfl); (have y3 := HF.out.cell (k := 3) 7 rfl rfl); (have y4 := HF.out.cell (k := 4) 7 rfl rfl)
        go_wp2_with (go_at_call 12; (with_reducible refine (sameTells_c z _ _ W9 _ (HF.out.rd 6 rfl) (HF.out.rd 2 rfl) (Nat.le_refl _)).mono ?_); rintro e w10 ⟨rfl, hb8⟩; (replace HF := Lib.hid (HF.out.step hb8)); clear hb8; clear x0 x1 x2 x3 x4; clear y0 y1 y2 y3 y4)
        go_meet
        exact HF.out.bel
    case rest =>
    clear HF HST
    have HM2 := Lib.hid (HM1.out.keep fun b hb => hcut.block b (Nat.lt_of_lt_of_le hb hsz))
    have hsz2 := Nat.le_trans hsz hcut.size
    have HCUT2 := Lib.hid (below_step HCUT.out hcut)
    clear hcut HM1 HCUT
    go_upto_region 33 with (go_at_call 23; refine (DrawJudgeTold_c more _ _ _ wc w.heap.size HM2.out hsz2).mono ?_; rintro e w9 ⟨ja, jb, rfl, hja, hjb, hb⟩; (have HF := Lib.hid ((Mm.Facts.nil wc).step hb)); clear hb hja hjb)
    obtain ⟨j, jo, hj⟩ : ∃ j jo, Pl.judgeTold ja jb = (j, jo) := ⟨_, _, rfl⟩
    have CI := implJudgeTold_c ja jb w9
    have CJ := specJudgeTold_c ja jb w9
    rw [hj] at CI CJ
    clear hj
    go_upto_region 35 with first | (go_at_call 24; (with_reducible refine CI.mono ?_); clear CI; rintro e w' ⟨rfl, rfl⟩) | (go_at_call 25; (with_reducible refine CJ.mono ?_); clear CJ; rintro e w' ⟨rfl, rfl⟩)
    have HM3 := Lib.hid (HM2.out.keep fun b hb => HF.out.bel.block b (Nat.lt_of_lt_of_le hb hsz2))
    have hsz3 := Nat.le_trans hsz2 HF.out.bel.size
    go_upto_region 36 with (go_at_call 26; refine (DrawNewTell_c more _ _ _ w9 w.heap.size HM3.out hsz3).mono ?_; rintro e w10 ⟨m, rfl, hm0, hm5, hb⟩; (replace HF := Lib.hid (HF.out.step hb)); clear hb)
    obtain ⟨x, ok, hr⟩ : ∃ x ok, Pl.newTell m = (x, ok) := ⟨_, _, rfl⟩
    have HR := Lib.hid hr
    clear hr
    have CI := implNewTell_c m w10
    rw [HR.out] at CI
    go_upto_region 37 with (go_at_call 27; (with_reducible refine CI.mono ?_); clear CI; rintro e w11 ⟨cs, fp1, rfl, ho, hnd, hnew, hb⟩; obtain ⟨r0, rk0, r1, rk1, r2, rk2, r3, rk3, r4, rk4, rfl⟩ := own_form ho; (replace HF := Lib.hid ((HF.out.step hb).put (f := Mm.frd rTell x _) (rTell.weak ho (rTell.olt ho)))); clear ho hnd hnew hb; skip)
    obtain ⟨g30, hg30⟩ : ∃ g, w11.heap.size = g := ⟨_, rfl⟩
    obtain ⟨W11, hW11⟩ : ∃ W, w11.alloc (.cells #[.slice r0 x.Texts.length rk0, .slice r1 x.Heard.length rk1, .slice r2 x.Line.length rk2, .slice r3 x.Log.length rk3, .slice r4 x.Next.length rk4] 31) = W := ⟨_, rfl⟩
    replace HF := Lib.hid (HF.out.varW hg30 31 [.slice r0 x.Texts.length rk0, .slice r1 x.Heard.length rk1, .slice r2 x.Line.length rk2, .slice r3 x.Log.length rk3, .slice r4 x.Next.length rk4] hW11)
    rw [hW11, hg30]
    clear hW11 hg30
    have CJ := specNewTell_c m W11
    rw [HR.out] at CJ
    go_upto_region 38 with (go_at_call 28; (with_reducible refine CJ.mono ?_); clear CJ; rintro e w12 ⟨cs, fp1, rfl, ho, hnd, hnew, hb⟩; obtain ⟨s0, sk0, s1, sk1, s2, sk2, s3, sk3, s4, sk4, rfl⟩ := own_form ho; (replace HF := Lib.hid ((HF.out.step hb).put (f := Mm.frd rTell x _) (rTell.weak ho (rTell.olt ho)))); clear ho hnd hnew hb; skip)
    obtain ⟨g32, hg32⟩ : ∃ g, w12.heap.size = g := ⟨_, rfl⟩
    obtain ⟨W12, hW12⟩ : ∃ W, w12.alloc (.cells #[.slice s0 x.Texts.length sk0, .slice s1 x.Heard.length sk1, .slice s2 x.Line.length sk2, .slice s3 x.Log.length sk3, .slice s4 x.Next.length sk4] 31) = W := ⟨_, rfl⟩
    replace HF := Lib.hid (HF.out.varW hg32 31 [.slice s0 x.Texts.length sk0, .slice s1 x.Heard.length sk1, .slice s2 x.Line.length sk2, .slice s3 x.Log.length sk3, .slice s4 x.Next.length sk4] hW12)
    rw [hW12, hg32]
    clear hW12 hg32
    have HM4 := Lib.hid (HM2.out.keep fun b hb => HF.out.bel.block b (Nat.lt_of_lt_of_le hb hsz2))
    have hsz4 := Nat.le_trans hsz2 HF.out.bel.size
    go_upto_region 39 with (go_at_call 29; refine (DrawWrittenOf_c more _ _ _ W12 w.heap.size HM4.out hsz4).mono ?_; rintro e w13 ⟨v, cs, fp, who, rfl, hwho, hs1⟩; obtain ⟨t0, tk0, t1, tk1, t2, tk2, t3, tk3, t4, tk4, rfl⟩ := own_form (hs1.at_ 0 rfl); (replace HF := Lib.hid ((HF.out.step hs1.bel0).put (f := Mm.frd rTell v _) (hs1.rd 0 rfl))); clear hs1 hwho)
    obtain ⟨g34, hg34⟩ : ∃ g, w13.heap.size = g := ⟨_, rfl⟩
    obtain ⟨W13, hW13⟩ : ∃ W, w13.alloc (.cells #[.slice t0 v.Texts.length tk0, .slice t1 v.Heard.length tk1, .slice t2 v.Line.length tk2, .slice t3 v.Log.length tk3, .slice t4 v.Next.length tk4] 31) = W := ⟨_, rfl⟩
    replace HF := Lib.hid (HF.out.varW hg34 31 [.slice t0 v.Texts.length tk0, .slice t1 v.Heard.length tk1, .slice t2 v.Line.length tk2, .slice t3 v.Log.length tk3, .slice t4 v.Next.length tk4] hW13)
    rw [hW13, hg34]
    clear hW13 hg34
    obtain ⟨tl, tok, htl⟩ : ∃ tl tok, Pl.writtenOf v who = (tl, tok) := ⟨_, _, rfl⟩
    have CI := implWrittenOf_c v who _ W13 _ (HF.out.rd 4 rfl) (Nat.le_refl _)
    rw [htl] at CI
    (have u0 := HF.out.cell (k := 0) 5 rfl rfl); (have u1 := HF.out.cell (k := 1) 5 rfl rfl); (have u2 := HF.out.cell (k := 2) 5 rfl rfl); (have u3 := HF.out.cell (k := 3) 5 rfl rfl); (have u4 := HF.out.cell (k := 4) 5 rfl rfl)
    go_upto_region 40 with (go_at_call 15; (with_reducible refine CI.mono ?_); clear CI; rintro e w14 ⟨P1, p1, q1, fp1, rfl, ho1, -, -, hb1⟩; (replace HF := Lib.hid ((HF.out.step hb1).put (f := Mm.fsl Mm.str tl P1 p1 q1) (ho1.weak ho1.olt))); clear ho1 hb1; clear u0 u1 u2 u3 u4)
    have CJ := specWrittenOf_c v who _ w14 _ (HF.out.rd 4 rfl) (Nat.le_refl _)
    rw [htl] at CJ
    (have u0 := HF.out.cell (k := 0) 5 rfl rfl); (have u1 := HF.out.cell (k := 1) 5 rfl rfl); (have u2 := HF.out.cell (k := 2) 5 rfl rfl); (have u3 := HF.out.cell (k := 3) 5 rfl rfl); (have u4 := HF.out.cell (k := 4) 5 rfl rfl)
    go_upto_region 41 with (go_at_call 30; (with_reducible refine CJ.mono ?_); clear CJ; rintro e w15 ⟨P2, p2, q2, fp2, rfl, ho1, -, -, hb1⟩; (replace HF := Lib.hid ((HF.out.step hb1).put (f := Mm.fsl Mm.str tl P2 p2 q2) (ho1.weak ho1.olt))); clear ho1 hb1; clear u0 u1 u2 u3 u4)
    clear htl
    obtain rfl : p1 = p2 := (HF.out.sl 6 rfl).1.symm.trans (HF.out.sl 7 rfl).1
    (have u0 := HF.out.cell (k := 0) 1 rfl rfl); (have u1 := HF.out.cell (k := 1) 1 rfl rfl); (have u2 := HF.out.cell (k := 2) 1 rfl rfl); (have u3 := HF.out.cell (k := 3) 1 rfl rfl); (have u4 := HF.out.cell (k := 4) 1 rfl rfl)
    (have x0 := HF.out.cell (k := 0) 3 rfl rfl); (have x1 := HF.out.cell (k := 1) 3 rfl rfl); (have x2 := HF.out.cell (k := 2) 3 rfl rfl); (have x3 := HF.out.cell (k := 3) 3 rfl rfl); (have x4 := HF.out.cell (k := 4) 3 rfl rfl)
    go_wp2_with (first | (go_at_call 12; (with_reducible refine (sameTells_c x _ _ w15 _ (HF.out.rd 0 rfl) (HF.out.rd 2 rfl) (Nat.le_refl _)).mono ?_); rintro e w16 ⟨rfl, hb8⟩; (replace HF := Lib.hid (HF.out.step hb8)); clear hb8; clear u0 u1 u2 u3 u4; clear x0 x1 x2 x3 x4) | (go_at_call 16; (with_reducible refine (sameTexts_c tl P1 P2 p1 q1 q2 w16 _ (HF.out.sl 6 rfl) (HF.out.sl 7 rfl) (Nat.le_refl _)).mono ?_); rintro e w17 ⟨rfl, hb8⟩; (replace HF := Lib.hid (HF.out.step hb8)); clear hb8))
    go_ret
    exact ⟨rfl, below_step HCUT2.out HF.out.bel⟩
end Go.Proofs.Ytaepohocabealaa

/-
  The statement of FnTells: for every input the law returns true, and every argument reads afterwards as it read before. No conditions.
-/
namespace Go.Proofs.Ytaepohocabealaa.fnTells
open Go.ChangeShapes Go.WideShapes Go.ChangeAt Go.RowKit
open Go.ChangeMaps (open_string shut_string)
set_option linter.unusedVariables false

theorem own : ownKnob Try.prog.godebug = none := by kernel_rfl
theorem laidOut : laidOutB Try.prog = true := by kernel_rfl

set_option maxRecDepth 100000 in
theorem lifted (os : Os) (started : os.Started) (H : Type) (enc : TypeId × Value → H) :
    ReturnsInHanded {} Try.checked os 4 .any (Rows.fnTellsSpec.pre6 enc Try.prog Try.f4 Rows.fnTellsRow.domain false) (Rows.fnTellsSpec.post enc Try.prog Try.f4 false true false false) := by
  refine returnsInHanded_of_change (C := Try.checked) own started (by kernel_rfl) Try.func4
    (ChangeSpec.witness6 (enc := enc) (C := Try.checked) false ⟨#[], #[.slice none 0 0, .slice none 0 0], []⟩ 8 (by kernel_rfl) (by kernel_rfl) (by kernel_rfl) (by kernel_rfl)) ?_
  intro W base args ds gs before hval0 hW hcnd _
  have hval : ∀ (j : Nat) t v, Try.f4.params[j]? = some t → args[j]? = some v → Value.okWide Try.prog W .any base t v := hval0
  have hW' := hW
  obtain ⟨p, q, hA0, hV, rfl, hfz, hnd⟩ := hW
  have hA : DataW.TrodAll enc Try.prog W 0 (fun _ => true) true Try.f4.params.toList args.toList ds p := hA0
  rw [Try.params4] at hA hval
  obtain ⟨v0, vs0, d0, ds0, p0, q0, hargs, rfl, rfl, h0, r0⟩ := trodAll_cons hA
  obtain ⟨v1, vs1, d1, ds1, p1, q1, rfl, rfl, rfl, h1, r1⟩ := trodAll_cons r0
  obtain ⟨rfl, rfl, rfl⟩ := trodAll_nil r1
  obtain rfl : args = #[v0, v1] := by cases args; simp_all
  obtain ⟨rfl, rfl⟩ := trodVars_none hV
  have k0 := h0
  have lt0 : ∀ x ∈ p0, x.block < W.heap.size := by obtain ⟨m, hm⟩ := k0; exact DataW.trod_lt m _ _ _ hm
  have k1 := h1
  have lt1 : ∀ x ∈ p1, x.block < W.heap.size := by obtain ⟨m, hm⟩ := k1; exact DataW.trod_lt m _ _ _ hm
  obtain ⟨A0, n0, c0, a0, rfl, w0⟩ := Mm.open_sl opens_u8S Try.underlying22 (hval 0 22 v0 rfl rfl) h0
  obtain ⟨A1, n1, c1, a1, rfl, w1⟩ := Mm.open_sl opens_u8S Try.underlying22 (hval 1 22 v1 rfl rfl) h1
  clear hA0 hval0
  refine (walk_FnTells A0 A1 n0 c0 n1 c1 a0 a1 W w0 w1).mono fun e W' ⟨he, bel⟩ => ?_
  subst he
  exact ⟨_, rfl, _, _, _, [], _, [], hW', trodAll_mk1 (shut_bool Try.underlying4 _), (trodAll_cons_mk (Below.trod laidOut (by kernel_rfl) (of_decide_eq_true (by kernel_rfl)) k0 bel lt0) (trodAll_cons_mk (Below.trod laidOut (by kernel_rfl) (of_decide_eq_true (by kernel_rfl)) k1 bel lt1) trodAll_mk0)), rfl, bel.frame _, fun h => by cases h⟩

theorem over : Rows.fnTellsRow.holds Try.pinned (OpenSpec.ofChange Rows.fnTellsSpec) :=
  OpenClaim.holds_of_wide 4 Try.f4 rfl rfl rfl rfl rfl rfl rfl ⟨rfl, rfl, rfl, rfl, rfl⟩ rfl rfl rfl rfl rfl (by kernel_rfl) Try.func4 (by kernel_rfl)
    (of_decide_eq_true (by kernel_rfl)) (by unfold Func.isWrapper; first | (rw [if_pos (by decide +kernel)]; kernel_rfl) | (rw [if_neg (by decide +kernel)]; exact ⟨rfl, rfl⟩))
    (fun os started H enc _ => lifted os started H enc)

theorem proved : Rows.FnTellsSaid := over
#print axioms proved
end Go.Proofs.Ytaepohocabealaa.fnTells
