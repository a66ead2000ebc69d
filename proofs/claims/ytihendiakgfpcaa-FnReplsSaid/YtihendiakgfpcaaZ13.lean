/-
  Joined texts, in build order: LwFnRepls, LawFnRepls. Each part says what it proves; no conditions beyond those that a part names.
-/
import Derived.Test.YtihendiakgfpcaaZ12
import Derived.Deep.DeepCutAuto
import Derived.Deep.CutBlock
import Derived.Test.YtihendiakgfpcaaRows
import Derived.WalkKit
import Derived.ProofKit
import Derived.OpenShut
import Derived.ShutString
import Derived.ChangeOld
import Derived.Below
/-
  The walk of the law on fetching (chapter 9). No conditions.
-/
namespace Go.Proofs.Ytihendiakgfpcaa
open Go.RowKit
attribute [local go_sem] und_cell cha_cell World.cell?_alloc_some
set_option maxRecDepth 100000 in
set_option maxHeartbeats 8000000 in
theorem walk_FnRepls (A A' : Option Addr) (n c n' c' : Nat) (code more : List Int) (w : World) (hc : Mm.SlAt Mm.u8 w w.heap.size code A n c) (hm : Mm.SlAt Mm.u8 w w.heap.size more A' n' c') :
    Calls Try.prog 5 #[.slice A n c, .slice A' n' c'] w fun e w' => e = .returned (.bool true) ∧ Below w.heap.size w w' := by
  have HC := Lib.hid hc
  have HM := Lib.hid hm
  have hlc : n ≤ maxLen := Nat.le_trans hc.2.1 hc.2.2.1
  have hlm : n' ≤ maxLen := Nat.le_trans hm.2.1 hm.2.2.1
  unfold maxLen at hlc hlm
  clear hc hm
  by_cases hbig : (1048576 : Int) < wrap64 ((n : Int) + (n' : Int))
  · go_enter Try.func5, Try.ntmps5
    go_wp2
    go_ret
    exact ⟨rfl, Below.refl _ _⟩
  · go_enter Try.func5, Try.ntmps5
    have HF := Lib.hid (((Mm.Facts.nil w).put (f := Mm.fsl Mm.u8 more A' n' c') HM.out).put (f := Mm.fsl Mm.u8 code A n c) HC.out)
    go_upto_region 4 with (go_at_call 27; refine (DrawStepRepl_c code _ _ _ _ w.heap.size HC.out (Nat.le_refl _)).mono ?_; rintro e w1 ⟨t, cs, fp, s, rfl, hst, hs1⟩; obtain ⟨a0, p0, k0, a1, p1, k1, a2, p2, k2, a3, p3, k3, rfl⟩ := own_formR (hs1.at_ 0 rfl); (have HST := Lib.hid hst); (replace HF := Lib.hid ((HF.out.step hs1.bel0).put (f := Mm.frd rRepl t _) (hs1.rd 0 rfl))); clear hs1 hst)
    clear hbig
    obtain ⟨g5, hg5⟩ : ∃ g, w1.heap.size = g := ⟨_, rfl⟩
    obtain ⟨g6, hg6⟩ : ∃ g, g5 + 1 = g := ⟨_, rfl⟩
    obtain ⟨W1, hW1⟩ : ∃ W, w1.alloc (.cells #[.slice a0 p0 k0, .slice a1 p1 k1, .int .i64 t.Leader, .int .i64 t.Epoch, .slice a2 p2 k2, .slice a3 p3 k3] 31) = W := ⟨_, rfl⟩
    obtain ⟨W2, hW2⟩ : ∃ W, W1.alloc (.cells #[.int .i64 s.Kind, .int .i64 s.Node, .string s.Text] 53) = W := ⟨_, rfl⟩
    have hz1 : W1.heap.size = g6 := by rw [← hW1, Mm.sz1, hg5, hg6]
    replace HF := Lib.hid ((HF.out.varR hg5 31 [.slice a0 p0 k0, .slice a1 p1 k1, .int .i64 t.Leader, .int .i64 t.Epoch, .slice a2 p2 k2, .slice a3 p3 k3] hW1).varR hz1 53 [.int .i64 s.Kind, .int .i64 s.Node, .string s.Text] hW2)
    rw [hW1, hW2, hg5, hg6]
    clear hW1 hW2 hg5 hg6 hz1
    obtain ⟨x, ok, hr⟩ : ∃ x ok, Pl.stepRepl t s = (x, ok) := ⟨_, _, rfl⟩
    have HR := Lib.hid hr
    clear hr
    have CI := implStepRepl_c t _ s [.int .i64 s.Kind, .int .i64 s.Node, .string s.Text] W2 _ (HF.out.rd 2 rfl) ⟨rfl, HST.out⟩ (Nat.le_refl _)
    rw [HR.out] at CI
    have t0 := HF.out.cell (k := 0) 3 rfl rfl
    have t1 := HF.out.cell (k := 1) 3 rfl rfl
    have t2 := HF.out.cell (k := 2) 3 rfl rfl
    have t3 := HF.out.cell (k := 3) 3 rfl rfl
    have t4 := HF.out.cell (k := 4) 3 rfl rfl
    have t5 := HF.out.cell (k := 5) 3 rfl rfl
    have s0 := HF.out.cell (k := 0) 4 rfl rfl
    have s1 := HF.out.cell (k := 1) 4 rfl rfl
    have s2 := HF.out.cell (k := 2) 4 rfl rfl
    go_upto_region 5 with (go_at_call 28; (with_reducible refine CI.mono ?_); clear CI; rintro e w3 ⟨cs, fp1, rfl, ho, hnd, hnew, hb⟩; obtain ⟨b0, q0, j0, b1, q1, j1, b2, q2, j2, b3, q3, j3, rfl⟩ := own_formR ho; (replace HF := Lib.hid ((HF.out.step hb).put (f := Mm.frd rRepl x _) (rRepl.weak ho (rRepl.olt ho)))); clear ho hnd hnew hb)
    clear t0 t1 t2 t3 t4 t5
    clear s0 s1 s2
    obtain ⟨g7, hg7⟩ : ∃ g, w3.heap.size = g := ⟨_, rfl⟩
    obtain ⟨W3, hW3⟩ : ∃ W, w3.alloc (.cells (List.toArray ([.slice b0 q0 j0, .slice b1 q1 j1, .int .i64 x.Leader, .int .i64 x.Epoch, .slice b2 q2 j2, .slice b3 q3 j3])) 31) = W := ⟨_, rfl⟩
    replace HF := Lib.hid (HF.out.varR hg7 31 ([.slice b0 q0 j0, .slice b1 q1 j1, .int .i64 x.Leader, .int .i64 x.Epoch, .slice b2 q2 j2, .slice b3 q3 j3]) hW3)
    rw [hW3, hg7]
    clear hW3 hg7
    have CJ := specStepRepl_c t _ s [.int .i64 s.Kind, .int .i64 s.Node, .string s.Text] W3 _ (HF.out.rd 2 rfl) ⟨rfl, HST.out⟩ (Nat.le_refl _)
    rw [HR.out] at CJ
    have t0 := HF.out.cell (k := 0) 3 rfl rfl
    have t1 := HF.out.cell (k := 1) 3 rfl rfl
    have t2 := HF.out.cell (k := 2) 3 rfl rfl
    have t3 := HF.out.cell (k := 3) 3 rfl rfl
    have t4 := HF.out.cell (k := 4) 3 rfl rfl
    have t5 := HF.out.cell (k := 5) 3 rfl rfl
    have s0 := HF.out.cell (k := 0) 4 rfl rfl
    have s1 := HF.out.cell (k := 1) 4 rfl rfl
    have s2 := HF.out.cell (k := 2) 4 rfl rfl
    go_upto_region 6 with (go_at_call 29; (with_reducible refine CJ.mono ?_); clear CJ; rintro e w4 ⟨cs, fp1, rfl, ho, hnd, hnew, hb⟩; obtain ⟨d0, u0, v0, d1, u1, v1, d2, u2, v2, d3, u3, v3, rfl⟩ := own_formR ho; (replace HF := Lib.hid ((HF.out.step hb).put (f := Mm.frd rRepl x _) (rRepl.weak ho (rRepl.olt ho)))); clear ho hnd hnew hb)
    clear t0 t1 t2 t3 t4 t5
    clear s0 s1 s2
    obtain ⟨g9, hg9⟩ : ∃ g, w4.heap.size = g := ⟨_, rfl⟩
    obtain ⟨W4, hW4⟩ : ∃ W, w4.alloc (.cells (List.toArray ([.slice d0 u0 v0, .slice d1 u1 v1, .int .i64 x.Leader, .int .i64 x.Epoch, .slice d2 u2 v2, .slice d3 u3 v3])) 31) = W := ⟨_, rfl⟩
    replace HF := Lib.hid (HF.out.varR hg9 31 ([.slice d0 u0 v0, .slice d1 u1 v1, .int .i64 x.Leader, .int .i64 x.Epoch, .slice d2 u2 v2, .slice d3 u3 v3]) hW4)
    rw [hW4, hg9]
    clear hW4 hg9
    obtain ⟨cn, gd, hcr⟩ : ∃ cn gd, Pl.certR t = (cn, gd) := ⟨_, _, rfl⟩
    have hgd : Pl.replOk t = gd := by rw [← Pl.certR_ok, hcr]
    have HCR := Lib.hid (And.intro hcr hgd)
    clear hcr hgd
    have CC := implCertR_c t _ W4 _ (HF.out.rd 2 rfl) (Nat.le_refl _)
    rw [HCR.out.1] at CC
    have t0 := HF.out.cell (k := 0) 3 rfl rfl
    have t1 := HF.out.cell (k := 1) 3 rfl rfl
    have t2 := HF.out.cell (k := 2) 3 rfl rfl
    have t3 := HF.out.cell (k := 3) 3 rfl rfl
    have t4 := HF.out.cell (k := 4) 3 rfl rfl
    have t5 := HF.out.cell (k := 5) 3 rfl rfl
    go_upto_region 7 with (go_at_call 12; (with_reducible refine CC.mono ?_); clear CC; rintro e w5 ⟨rfl, hb⟩; (replace HF := Lib.hid (HF.out.step hb)); clear hb)
    clear t0 t1 t2 t3 t4 t5
    have CC := specCertR_c t _ w5 _ (HF.out.rd 2 rfl) (Nat.le_refl _)
    rw [HCR.out.1] at CC
    have t0 := HF.out.cell (k := 0) 3 rfl rfl
    have t1 := HF.out.cell (k := 1) 3 rfl rfl
    have t2 := HF.out.cell (k := 2) 3 rfl rfl
    have t3 := HF.out.cell (k := 3) 3 rfl rfl
    have t4 := HF.out.cell (k := 4) 3 rfl rfl
    have t5 := HF.out.cell (k := 5) 3 rfl rfl
    go_upto_region 8 with (go_at_call 30; (with_reducible refine CC.mono ?_); clear CC; rintro e w6 ⟨rfl, hb⟩; (replace HF := Lib.hid (HF.out.step hb)); clear hb)
    clear t0 t1 t2 t3 t4 t5
    have f1 : (ok != ok) = false := by cases ok <;> rfl
    have f2 : (gd != gd) = false := by cases gd <;> rfl
    have f3 : (cn != cn) = false := by simp
    have x0 := HF.out.cell (k := 0) 6 rfl rfl
    have x1 := HF.out.cell (k := 1) 6 rfl rfl
    have x2 := HF.out.cell (k := 2) 6 rfl rfl
    have x3 := HF.out.cell (k := 3) 6 rfl rfl
    have x4 := HF.out.cell (k := 4) 6 rfl rfl
    have x5 := HF.out.cell (k := 5) 6 rfl rfl
    have y0 := HF.out.cell (k := 0) 8 rfl rfl
    have y1 := HF.out.cell (k := 1) 8 rfl rfl
    have y2 := HF.out.cell (k := 2) 8 rfl rfl
    have y3 := HF.out.cell (k := 3) 8 rfl rfl
    have y4 := HF.out.cell (k := 4) 8 rfl rfl
    have y5 := HF.out.cell (k := 5) 8 rfl rfl
    go_upto_region 10 with first
      | (go_at_call 11; (with_reducible refine (sameRepls_c x _ _ w6 _ (HF.out.rd 5 rfl) (HF.out.rd 7 rfl) (Nat.le_refl _)).mono ?_); rintro e w7 ⟨rfl, hb⟩; (replace HF := Lib.hid (HF.out.step hb)); clear hb; (clear x0 x1 x2 x3 x4 x5); (clear y0 y1 y2 y3 y4 y5); (have CG := implGoodRepl_c t _ w7 _ (HF.out.rd 2 rfl) (Nat.le_refl _)); rw [HCR.out.2] at CG; (have t0 := HF.out.cell (k := 0) 3 rfl rfl); (have t1 := HF.out.cell (k := 1) 3 rfl rfl); (have t2 := HF.out.cell (k := 2) 3 rfl rfl); (have t3 := HF.out.cell (k := 3) 3 rfl rfl); (have t4 := HF.out.cell (k := 4) 3 rfl rfl); (have t5 := HF.out.cell (k := 5) 3 rfl rfl))
      | (go_at_call 13; (with_reducible refine CG.mono ?_); clear CG; rintro e w8 ⟨rfl, hb⟩; (replace HF := Lib.hid (HF.out.step hb)); clear hb; (clear t0 t1 t2 t3 t4 t5))
    have hbel := HF.out.bel
    clear f1 f2 f3 HF HCR HR HST
    have HF := Lib.hid ((((Mm.Facts.nil w).put (f := Mm.fsl Mm.u8 more A' n' c') HM.out).put (f := Mm.fsl Mm.u8 code A n c) HC.out).step hbel)
    clear hbel
    go_upto_region 11 with (go_at_call 7; refine (DrawPlayRepl_c more _ _ _ _ _ (HF.out.sl 0 rfl) (Nat.le_refl _)).mono ?_; rintro e w9 ⟨l, A1, n1, c1, m, rfl, hm1, hm3, hl120, hsl, hb⟩; (replace HF := Lib.hid ((HF.out.step hb).put (f := Mm.fsl rReplStep l A1 n1 c1) hsl)); clear hsl hb)
    obtain ⟨pp, bs, ok2, hr⟩ : ∃ r bs ok, Pl.playRepl m l = (r, bs, ok) := ⟨_, _, _, rfl⟩
    have HR := Lib.hid hr
    clear hr
    have CP := implPlayRepl_c m l A1 n1 c1 w9 _ (HF.out.sl 2 rfl) (Nat.le_refl _)
    rw [HR.out] at CP
    go_upto_region 12 with (go_at_call 8; (with_reducible refine CP.mono ?_); clear CP; rintro e wa ⟨cs, A2, n2, c2, fpP, fp1, rfl, hs2⟩; obtain ⟨a0, p0, k0, a1, p1, k1, a2, p2, k2, a3, p3, k3, rfl⟩ := own_formR (hs2.at_ 0 rfl); (replace HF := Lib.hid (HF.out.step hs2.bel0)); (have HPO := Lib.hid (hs2.at_ 0 rfl)); clear hs2)
    obtain ⟨g17, hg17⟩ : ∃ g, wa.heap.size = g := ⟨_, rfl⟩
    obtain ⟨WA, hWA⟩ : ∃ W, wa.alloc (.cells #[.slice a0 p0 k0, .slice a1 p1 k1, .int .i64 pp.Leader, .int .i64 pp.Epoch, .slice a2 p2 k2, .slice a3 p3 k3] 31) = W := ⟨_, rfl⟩
    have HG17 : Hid (w.heap.size ≤ g17) := Lib.hid (by have := HF.out.bel.size; omega)
    have hbA : Below wa.heap.size wa WA := by rw [← hWA]; exact below_new (Below.refl _ _) _
    have HP17 : Hid (g17 ∉ fpP) := Lib.hid (fun h => by have := rRepl.olt HPO.out _ h; omega)
    replace HPO : Hid (rRepl.own WA pp [.slice a0 p0 k0, .slice a1 p1 k1, .int .i64 pp.Leader, .int .i64 pp.Epoch, .slice a2 p2 k2, .slice a3 p3 k3] fpP) := Lib.hid (rRepl.okeep HPO.out fun b hb => hbA.block b (rRepl.olt HPO.out b hb))
    replace HF := Lib.hid (HF.out.varR hg17 31 [.slice a0 p0 k0, .slice a1 p1 k1, .int .i64 pp.Leader, .int .i64 pp.Epoch, .slice a2 p2 k2, .slice a3 p3 k3] hWA)
    rw [hWA, hg17]
    clear hWA hg17 hbA
    cases ok2 with
    | false =>
      go_upto_region 26 with fail
      have HBX := HF.out.bel
      clear HF HR HPO HP17 HG17
      have HF := Lib.hid (((Mm.Facts.nil w).put (f := Mm.fsl Mm.u8 more A' n' c') HM.out).step HBX)
      go_upto_region 27 with (go_at_call 32; refine (DrawNewRepl_c more _ _ _ _ _ (HF.out.sl 0 rfl) (Nat.le_refl _)).mono ?_; rintro e e1 ⟨mq, rfl, hmq, hb⟩; (replace HF := Lib.hid (HF.out.step hb)); clear hb hmq)
      obtain ⟨z, zk, hz⟩ : ∃ z zk, Pl.newRepl mq = (z, zk) := ⟨_, _, rfl⟩
      have CN := implNewRepl_c mq e1
      rw [hz] at CN
      go_upto_region 28 with (go_at_call 33; (with_reducible refine CN.mono ?_); clear CN; rintro e e2 ⟨cs, fp1, rfl, ho, hnd, hnew, hb⟩; obtain ⟨b0, q0, j0, b1, q1, j1, b2, q2, j2, b3, q3, j3, rfl⟩ := own_formR ho; (replace HF := Lib.hid ((HF.out.step hb).put (f := Mm.frd rRepl z _) (rRepl.weak ho (rRepl.olt ho)))); clear ho hnd hnew hb)
      obtain ⟨g28, hg28⟩ : ∃ g, e2.heap.size = g := ⟨_, rfl⟩
      obtain ⟨V2, hV2⟩ : ∃ W, e2.alloc (.cells (List.toArray ([.slice b0 q0 j0, .slice b1 q1 j1, .int .i64 z.Leader, .int .i64 z.Epoch, .slice b2 q2 j2, .slice b3 q3 j3])) 31) = W := ⟨_, rfl⟩
      replace HF := Lib.hid (HF.out.varR hg28 31 ([.slice b0 q0 j0, .slice b1 q1 j1, .int .i64 z.Leader, .int .i64 z.Epoch, .slice b2 q2 j2, .slice b3 q3 j3]) hV2)
      rw [hV2, hg28]
      clear hV2 hg28
      have CN := specNewRepl_c mq V2
      rw [hz] at CN
      clear hz
      go_upto_region 29 with (go_at_call 34; (with_reducible refine CN.mono ?_); clear CN; rintro e e3 ⟨cs, fp1, rfl, ho, hnd, hnew, hb⟩; obtain ⟨d0, u0, v0, d1, u1, v1, d2, u2, v2, d3, u3, v3, rfl⟩ := own_formR ho; (replace HF := Lib.hid ((HF.out.step hb).put (f := Mm.frd rRepl z _) (rRepl.weak ho (rRepl.olt ho)))); clear ho hnd hnew hb)
      obtain ⟨g30, hg30⟩ : ∃ g, e3.heap.size = g := ⟨_, rfl⟩
      obtain ⟨V3, hV3⟩ : ∃ W, e3.alloc (.cells (List.toArray ([.slice d0 u0 v0, .slice d1 u1 v1, .int .i64 z.Leader, .int .i64 z.Epoch, .slice d2 u2 v2, .slice d3 u3 v3])) 31) = W := ⟨_, rfl⟩
      replace HF := Lib.hid (HF.out.varR hg30 31 ([.slice d0 u0 v0, .slice d1 u1 v1, .int .i64 z.Leader, .int .i64 z.Epoch, .slice d2 u2 v2, .slice d3 u3 v3]) hV3)
      rw [hV3, hg30]
      clear hV3 hg30
      go_upto_region 30 with (go_at_call 35; refine (DrawInStep_c more _ _ _ _ _ (HF.out.sl 0 rfl) (Nat.le_refl _)).mono ?_; rintro e e4 ⟨vv, cs, fp1, nd, rfl, hnd, hs1⟩; obtain ⟨a0, p0, k0, a1, p1, k1, a2, p2, k2, a3, p3, k3, rfl⟩ := own_formR (hs1.at_ 0 rfl); (replace HF := Lib.hid ((HF.out.step hs1.bel0).put (f := Mm.frd rRepl vv _) (hs1.rd 0 rfl))); clear hs1 hnd)
      obtain ⟨g32, hg32⟩ : ∃ g, e4.heap.size = g := ⟨_, rfl⟩
      obtain ⟨V4, hV4⟩ : ∃ W, e4.alloc (.cells (List.toArray ([.slice a0 p0 k0, .slice a1 p1 k1, .int .i64 vv.Leader, .int .i64 vv.Epoch, .slice a2 p2 k2, .slice a3 p3 k3])) 31) = W := ⟨_, rfl⟩
      replace HF := Lib.hid (HF.out.varR hg32 31 ([.slice a0 p0 k0, .slice a1 p1 k1, .int .i64 vv.Leader, .int .i64 vv.Epoch, .slice a2 p2 k2, .slice a3 p3 k3]) hV4)
      rw [hV4, hg32]
      clear hV4 hg32
      obtain ⟨i1, i2, hin⟩ : ∃ i1 i2, Pl.inStepR vv nd = (i1, i2) := ⟨_, _, rfl⟩
      have CI := implInStep_c vv nd _ V4 _ (HF.out.rd 5 rfl) (Nat.le_refl _)
      rw [hin] at CI
      have t0 := HF.out.cell (k := 0) 6 rfl rfl
      have t1 := HF.out.cell (k := 1) 6 rfl rfl
      have t2 := HF.out.cell (k := 2) 6 rfl rfl
      have t3 := HF.out.cell (k := 3) 6 rfl rfl
      have t4 := HF.out.cell (k := 4) 6 rfl rfl
      have t5 := HF.out.cell (k := 5) 6 rfl rfl
      go_upto_region 31 with (go_at_call 31; (with_reducible refine CI.mono ?_); clear CI; rintro e e5 ⟨rfl, hb⟩; (replace HF := Lib.hid (HF.out.step hb)); clear hb)
      clear t0 t1 t2 t3 t4 t5
      have CI := specInStep_c vv nd _ e5 _ (HF.out.rd 5 rfl) (Nat.le_refl _)
      rw [hin] at CI
      clear hin
      have t0 := HF.out.cell (k := 0) 6 rfl rfl
      have t1 := HF.out.cell (k := 1) 6 rfl rfl
      have t2 := HF.out.cell (k := 2) 6 rfl rfl
      have t3 := HF.out.cell (k := 3) 6 rfl rfl
      have t4 := HF.out.cell (k := 4) 6 rfl rfl
      have t5 := HF.out.cell (k := 5) 6 rfl rfl
      go_upto_region 32 with (go_at_call 36; (with_reducible refine CI.mono ?_); clear CI; rintro e e6 ⟨rfl, hb⟩; (replace HF := Lib.hid (HF.out.step hb)); clear hb)
      clear t0 t1 t2 t3 t4 t5
      have f1 : (zk == zk) = true := by simp
      have f2 : (i2 == i2) = true := by simp
      have f3 : (i1 == i1) = true := by simp
      have x0 := HF.out.cell (k := 0) 2 rfl rfl
      have x1 := HF.out.cell (k := 1) 2 rfl rfl
      have x2 := HF.out.cell (k := 2) 2 rfl rfl
      have x3 := HF.out.cell (k := 3) 2 rfl rfl
      have x4 := HF.out.cell (k := 4) 2 rfl rfl
      have x5 := HF.out.cell (k := 5) 2 rfl rfl
      have y0 := HF.out.cell (k := 0) 4 rfl rfl
      have y1 := HF.out.cell (k := 1) 4 rfl rfl
      have y2 := HF.out.cell (k := 2) 4 rfl rfl
      have y3 := HF.out.cell (k := 3) 4 rfl rfl
      have y4 := HF.out.cell (k := 4) 4 rfl rfl
      have y5 := HF.out.cell (k := 5) 4 rfl rfl
      go_wp2_with (go_at_call 11; (with_reducible refine (sameRepls_c z _ _ e6 _ (HF.out.rd 1 rfl) (HF.out.rd 3 rfl) (Nat.le_refl _)).mono ?_); rintro e e7 ⟨rfl, hb⟩; (replace HF := Lib.hid (HF.out.step hb)); clear hb; (clear x0 x1 x2 x3 x4 x5); (clear y0 y1 y2 y3 y4 y5))
      go_ret
      exact ⟨rfl, HF.out.bel⟩
    | true =>
      have HG := Lib.hid (Pl.playRepl_tr HR.out)
      have hrd := rRepl_rd4 (rRepl.weak HPO.out (rRepl.olt HPO.out))
      have HL0 : Hid (pp.Logs.length = p0) := hrd.1.1
      have hl0 : 0 ≤ pp.Leader := HG.out.1.rw.lead.1
      have hl1 : pp.Leader < (p0 : Nat) := by have := HG.out.1.rw.lead.2; have := HL0.out; omega
      have hp10 : p1 = p0 := by rw [← hrd.2.1, ← HL0.out]; exact HG.out.1.rw.down
      have hp05 : p0 ≤ 5 := by have := HG.out.1.rw.n5; have := HL0.out; omega
      have hmp : (p0 : Int) = m := by have := HG.out.2; rw [HL0.out] at this; exact this
      obtain ⟨xb, bb, ob, hxb, rfl, hbb, xb0⟩ := bool_get hrd.2 (k := pp.Leader.toNat) (by omega)
      have HDL : Hid (Pl.downAt pp pp.Leader = xb) := Lib.hid (Pl.downAt_of hxb)
      have hl2 : pp.Leader < (p1 : Nat) := by omega
      have t0 := HF.out.cell (k := 0) 3 rfl rfl
      have t1 := HF.out.cell (k := 1) 3 rfl rfl
      have t2 := HF.out.cell (k := 2) 3 rfl rfl
      have t3 := HF.out.cell (k := 3) 3 rfl rfl
      have t4 := HF.out.cell (k := 4) 3 rfl rfl
      have t5 := HF.out.cell (k := 5) 3 rfl rfl
      have HRD := Lib.hid hrd
      have HMP := Lib.hid hmp
      clear hrd hxb hmp
      have HP10 := Lib.hid hp10
      clear hp10
      go_upto_if 117 with fail
      go_cut [] (fun wx => Below w.heap.size w wx)
      case rest =>
        have HBX := hcut
        clear HF HR HPO HP17 HG17 HG HRD t0 t1 t2 t3 t4 t5
        have HF := Lib.hid (((Mm.Facts.nil w).put (f := Mm.fsl Mm.u8 more A' n' c') HM.out).step HBX)
        go_upto_region 27 with (go_at_call 32; refine (DrawNewRepl_c more _ _ _ _ _ (HF.out.sl 0 rfl) (Nat.le_refl _)).mono ?_; rintro e e1 ⟨mq, rfl, hmq, hb⟩; (replace HF := Lib.hid (HF.out.step hb)); clear hb hmq)
        obtain ⟨z, zk, hz⟩ : ∃ z zk, Pl.newRepl mq = (z, zk) := ⟨_, _, rfl⟩
        have CN := implNewRepl_c mq e1
        rw [hz] at CN
        go_upto_region 28 with (go_at_call 33; (with_reducible refine CN.mono ?_); clear CN; rintro e e2 ⟨cs, fp1, rfl, ho, hnd, hnew, hb⟩; obtain ⟨b0, q0, j0, b1, q1, j1, b2, q2, j2, b3, q3, j3, rfl⟩ := own_formR ho; (replace HF := Lib.hid ((HF.out.step hb).put (f := Mm.frd rRepl z _) (rRepl.weak ho (rRepl.olt ho)))); clear ho hnd hnew hb)
        obtain ⟨g28, hg28⟩ : ∃ g, e2.heap.size = g := ⟨_, rfl⟩
        obtain ⟨V2, hV2⟩ : ∃ W, e2.alloc (.cells (List.toArray ([.slice b0 q0 j0, .slice b1 q1 j1, .int .i64 z.Leader, .int .i64 z.Epoch, .slice b2 q2 j2, .slice b3 q3 j3])) 31) = W := ⟨_, rfl⟩
        replace HF := Lib.hid (HF.out.varR hg28 31 ([.slice b0 q0 j0, .slice b1 q1 j1, .int .i64 z.Leader, .int .i64 z.Epoch, .slice b2 q2 j2, .slice b3 q3 j3]) hV2)
        rw [hV2, hg28]
        clear hV2 hg28
        have CN := specNewRepl_c mq V2
        rw [hz] at CN
        clear hz
        go_upto_region 29 with (go_at_call 34; (with_reducible refine CN.mono ?_); clear CN; rintro e e3 ⟨cs, fp1, rfl, ho, hnd, hnew, hb⟩; obtain ⟨d0, u0, v0, d1, u1, v1, d2, u2, v2, d3, u3, v3, rfl⟩ := own_formR ho; (replace HF := Lib.hid ((HF.out.step hb).put (f := Mm.frd rRepl z _) (rRepl.weak ho (rRepl.olt ho)))); clear ho hnd hnew hb)
        obtain ⟨g30, hg30⟩ : ∃ g, e3.heap.size = g := ⟨_, rfl⟩
        obtain ⟨V3, hV3⟩ : ∃ W, e3.alloc (.cells (List.toArray ([.slice d0 u0 v0, .slice d1 u1 v1, .int .i64 z.Leader, .int .i64 z.Epoch, .slice d2 u2 v2, .slice d3 u3 v3])) 31) = W := ⟨_, rfl⟩
        replace HF := Lib.hid (HF.out.varR hg30 31 ([.slice d0 u0 v0, .slice d1 u1 v1, .int .i64 z.Leader, .int .i64 z.Epoch, .slice d2 u2 v2, .slice d3 u3 v3]) hV3)
        rw [hV3, hg30]
        clear hV3 hg30
        go_upto_region 30 with (go_at_call 35; refine (DrawInStep_c more _ _ _ _ _ (HF.out.sl 0 rfl) (Nat.le_refl _)).mono ?_; rintro e e4 ⟨vv, cs, fp1, nd, rfl, hnd, hs1⟩; obtain ⟨a0, p0, k0, a1, p1, k1, a2, p2, k2, a3, p3, k3, rfl⟩ := own_formR (hs1.at_ 0 rfl); (replace HF := Lib.hid ((HF.out.step hs1.bel0).put (f := Mm.frd rRepl vv _) (hs1.rd 0 rfl))); clear hs1 hnd)
        obtain ⟨g32, hg32⟩ : ∃ g, e4.heap.size = g := ⟨_, rfl⟩
        obtain ⟨V4, hV4⟩ : ∃ W, e4.alloc (.cells (List.toArray ([.slice a0 p0 k0, .slice a1 p1 k1, .int .i64 vv.Leader, .int .i64 vv.Epoch, .slice a2 p2 k2, .slice a3 p3 k3])) 31) = W := ⟨_, rfl⟩
        replace HF := Lib.hid (HF.out.varR hg32 31 ([.slice a0 p0 k0, .slice a1 p1 k1, .int .i64 vv.Leader, .int .i64 vv.Epoch, .slice a2 p2 k2, .slice a3 p3 k3]) hV4)
        rw [hV4, hg32]
        clear hV4 hg32
        obtain ⟨i1, i2, hin⟩ : ∃ i1 i2, Pl.inStepR vv nd = (i1, i2) := ⟨_, _, rfl⟩
        have CI := implInStep_c vv nd _ V4 _ (HF.out.rd 5 rfl) (Nat.le_refl _)
        rw [hin] at CI
        have t0 := HF.out.cell (k := 0) 6 rfl rfl
        have t1 := HF.out.cell (k := 1) 6 rfl rfl
        have t2 := HF.out.cell (k := 2) 6 rfl rfl
        have t3 := HF.out.cell (k := 3) 6 rfl rfl
        have t4 := HF.out.cell (k := 4) 6 rfl rfl
        have t5 := HF.out.cell (k := 5) 6 rfl rfl
        go_upto_region 31 with (go_at_call 31; (with_reducible refine CI.mono ?_); clear CI; rintro e e5 ⟨rfl, hb⟩; (replace HF := Lib.hid (HF.out.step hb)); clear hb)
        clear t0 t1 t2 t3 t4 t5
        have CI := specInStep_c vv nd _ e5 _ (HF.out.rd 5 rfl) (Nat.le_refl _)
        rw [hin] at CI
        clear hin
        have t0 := HF.out.cell (k := 0) 6 rfl rfl
        have t1 := HF.out.cell (k := 1) 6 rfl rfl
        have t2 := HF.out.cell (k := 2) 6 rfl rfl
        have t3 := HF.out.cell (k := 3) 6 rfl rfl
        have t4 := HF.out.cell (k := 4) 6 rfl rfl
        have t5 := HF.out.cell (k := 5) 6 rfl rfl
        go_upto_region 32 with (go_at_call 36; (with_reducible refine CI.mono ?_); clear CI; rintro e e6 ⟨rfl, hb⟩; (replace HF := Lib.hid (HF.out.step hb)); clear hb)
        clear t0 t1 t2 t3 t4 t5
        have f1 : (zk == zk) = true := by simp
        have f2 : (i2 == i2) = true := by simp
        have f3 : (i1 == i1) = true := by simp
        have x0 := HF.out.cell (k := 0) 2 rfl rfl
        have x1 := HF.out.cell (k := 1) 2 rfl rfl
        have x2 := HF.out.cell (k := 2) 2 rfl rfl
        have x3 := HF.out.cell (k := 3) 2 rfl rfl
        have x4 := HF.out.cell (k := 4) 2 rfl rfl
        have x5 := HF.out.cell (k := 5) 2 rfl rfl
        have y0 := HF.out.cell (k := 0) 4 rfl rfl
        have y1 := HF.out.cell (k := 1) 4 rfl rfl
        have y2 := HF.out.cell (k := 2) 4 rfl rfl
        have y3 := HF.out.cell (k := 3) 4 rfl rfl
        have y4 := HF.out.cell (k := 4) 4 rfl rfl
        have y5 := HF.out.cell (k := 5) 4 rfl rfl
        go_wp2_with (go_at_call 11; (with_reducible refine (sameRepls_c z _ _ e6 _ (HF.out.rd 1 rfl) (HF.out.rd 3 rfl) (Nat.le_refl _)).mono ?_); rintro e e7 ⟨rfl, hb⟩; (replace HF := Lib.hid (HF.out.step hb)); clear hb; (clear x0 x1 x2 x3 x4 x5); (clear y0 y1 y2 y3 y4 y5))
        go_ret
        exact ⟨rfl, HF.out.bel⟩
      case first =>
        cases xb with
        | true =>
          go_wp2_with fail
          go_meet
          exact HF.out.bel
        | false =>
          have hm0 : m ≠ 0 := by omega
          go_upto_region 14 with (go_at_call 16; refine (numberOf_c code _ _ _ _ WA.heap.size (HF.out.sl 1 rfl)).mono ?_; rintro e w8 ⟨q, rfl, q0', q1', rfl⟩)
          obtain ⟨k, hk⟩ : ∃ k : Nat, q % m = k := ⟨(q % m).toNat, by have := Int.emod_nonneg q hm0; omega⟩
          rw [hk]
          have hkm : (k : Int) < m := by have := Int.emod_lt_of_pos q (show (0 : Int) < m by omega); omega
          clear hk q0' q1'
          have hkp : (k : Int) < (p0 : Nat) := by have := HMP.out; omega
          have hkp1 : (k : Int) < (p1 : Nat) := by have := HP10.out; omega
          have hk0 : (0 : Int) ≤ (k : Nat) := by omega
          have hkt : ((k : Nat) : Int).toNat = k := by omega
          obtain ⟨yb, hyb, -, yb0⟩ := bool_get' HRD.out.2 (k := k) (by omega)
          have HDK : Hid (Pl.downAt pp (k : Int) = yb) := Lib.hid (Pl.downAt_of (by rw [hkt]; exact hyb))
          have HRT := Lib.hid HRD.out.1
          clear hyb HRD xb0 hm0 hkm
          by_cases hne : (k : Int) = pp.Leader
          · have f1 : ((k : Int) != pp.Leader) = false := by simp [hne]
            have HNE := Lib.hid hne
            clear hne
            go_wp2_with fail
            go_meet
            exact HF.out.bel
          have f1 : ((k : Int) != pp.Leader) = true := by simpa using hne
          have HNE := Lib.hid hne
          clear hne
          cases yb with
          | true =>
            go_wp2_with fail
            go_meet
            exact HF.out.bel
          | false =>
            go_upto_region 16 with fail
            obtain ⟨LL, hLL⟩ : ∃ LL, (Pl.logAt pp pp.Leader).length = LL := ⟨_, rfl⟩
            have HLL := Lib.hid hLL
            obtain ⟨g21, hg21⟩ : ∃ g, w8.heap.size = g := ⟨_, rfl⟩
            obtain ⟨WB, hWB⟩ : ∃ W, w8.alloc (.cells #[.slice a0 p0 k0, .slice (some ⟨bb, ob, none⟩) p1 k1, .int .i64 pp.Leader, .int .i64 pp.Epoch, .slice a2 p2 k2, .slice a3 p3 k3] 31) = W := ⟨_, rfl⟩
            have hlt17 : g17 < w8.heap.size := (show Mm.Blk w8 g17 _ _ from HF.out.at_ 3 rfl).lt
            have hbB : Below w8.heap.size w8 WB := by rw [← hWB]; exact below_new (Below.refl _ _) _
            have hFP : FetchW w WB pp pp [.slice a0 p0 k0, .slice (some ⟨bb, ob, none⟩) p1 k1, .int .i64 pp.Leader, .int .i64 pp.Epoch, .slice a2 p2 k2, .slice a3 p3 k3] [.slice a0 p0 k0, .slice (some ⟨bb, ob, none⟩) p1 k1, .int .i64 pp.Leader, .int .i64 pp.Epoch, .slice a2 p2 k2, .slice a3 p3 k3] g17 g21 fpP fpP := by
              have hno : g21 ∉ fpP := fun h => by have := rRepl.olt HPO.out _ h; omega
              have ho := rRepl.okeep HPO.out fun b hb => hbB.block b (rRepl.olt HPO.out b hb)
              exact ⟨below_step HF.out.bel hbB, ho, hno, ho, hno, Mm.Blk.bel (HF.out.at_ 3 rfl) hbB, by rw [← hWB, ← hg21]; exact Mm.Blk.new w8 _ _, by omega, by have := HF.out.bel.size; omega⟩
            have HFP := Lib.hid hFP
            rw [hWB, hg21]
            clear hWB hg21 hbB hFP hlt17 hLL HF HRT HPO HP17 t0 t1 t2 t3 t4 t5 yb0
            have hLB : LL ≤ 40 := by have := (HG.out.1.rw.ok hl0 (by rw [HL0.out]; exact hl1)).len; have := HLL.out; omega
            go_wp2_with fail
            go_loopg [22] (LL + 1) (fun gg i wr => ∃ (j : Nat) (y : Repl) (csY : List Value) (fpY : List Nat), LL + 1 - j ≤ gg ∧ j ≤ LL + 1 ∧ i = .int .i64 j ∧ Hid (Pl.FetchS pp (k : Int) j y ∧ FetchW w wr pp y [.slice a0 p0 k0, .slice (some ⟨bb, ob, none⟩) p1 k1, .int .i64 pp.Leader, .int .i64 pp.Epoch, .slice a2 p2 k2, .slice a3 p3 k3] csY g17 g21 fpP fpY))
            case atStart => exact ⟨0, pp, _, fpP, by omega, by omega, rfl, Lib.hid ⟨Pl.FetchS.zero HG.out.1, HFP.out⟩⟩
            case round =>
              clear HFP
              obtain ⟨j, y, csY, fpY, hgj, hj, rfl, HY⟩ := hrel
              obtain ⟨W, rfl⟩ : ∃ W : World, W = wr := ⟨_, rfl⟩
              obtain ⟨e0, u0, v0, e1, u1, v1, e2, u2, v2, e3, u3, v3, rfl⟩ := own_formR HY.out.2.yo
              have h0 := HY.out.2.b17.cell (i := 0) rfl
              have h2 := HY.out.2.b17.cell (i := 2) rfl
              obtain ⟨b9, off9, AL, nL, cL, rfl, hb9, hlk, ek⟩ := log_at (rRepl_rd4 HY.out.2.rdP).1 hl0 hl1
              obtain rfl : LL = nL := by have := hlk.1; rw [HLL.out] at this; exact this
              clear hlk
              by_cases hlt : j ≤ LL
              · have f2 : (j : Int) ≤ (LL : Nat) := by omega
                obtain ⟨z, hz, hfz⟩ := Pl.step_fetch HY.out.1 (k := (k : Int)) hk0 (by rw [HL0.out]; exact hkp) HNE.out HDL.out HDK.out
                have HFZ := Lib.hid hfz
                have CS := implStepRepl_c y _ ⟨2, (k : Int), ⟨#[]⟩⟩ [.int .i64 2, .int .i64 k, .string ⟨#[]⟩] W _ HY.out.2.rdY ⟨rfl, by unfold Mm.I64; show _ ≤ (2 : Int) ∧ (2 : Int) ≤ _; omega, by unfold Mm.I64; show _ ≤ (k : Int) ∧ (k : Int) ≤ _; omega, by show (⟨#[]⟩ : ByteArray).size ≤ maxLen; decide⟩ (Nat.le_refl _)
                rw [hz] at CS
                clear hz hfz
                have g0 := HY.out.2.b21.cell (i := 0) rfl
                have g1 := HY.out.2.b21.cell (i := 1) rfl
                have g2 := HY.out.2.b21.cell (i := 2) rfl
                have g3 := HY.out.2.b21.cell (i := 3) rfl
                have g4 := HY.out.2.b21.cell (i := 4) rfl
                have g5' := HY.out.2.b21.cell (i := 5) rfl
                go_upto_region 20 with (go_at_call 28; (with_reducible refine CS.mono ?_); clear CS; rintro e w5 ⟨csZ, fpZ, rfl, ho, hnd, hnew, hb⟩; obtain ⟨z0, y0, x0, z1, y1, x1, z2, y2, x2, z3, y3, x3, rfl⟩ := own_formR ho)
                clear g0 g1 g2 g3 g4 g5'
                obtain ⟨g23, hg23⟩ : ∃ g, w5.heap.size = g := ⟨_, rfl⟩
                obtain ⟨W5, hW5⟩ : ∃ V, w5.alloc (.cells #[.slice z0 y0 x0, .slice z1 y1 x1, .int .i64 z.Leader, .int .i64 z.Epoch, .slice z2 y2 x2, .slice z3 y3 x3] 31) = V := ⟨_, rfl⟩
                have hb5 : Below w5.heap.size w5 W5 := by rw [← hW5]; exact below_new (Below.refl _ _) _
                have hb23 : Mm.Blk W5 g23 31 [.slice z0 y0 x0, .slice z1 y1 x1, .int .i64 z.Leader, .int .i64 z.Epoch, .slice z2 y2 x2, .slice z3 y3 x3] := by rw [← hW5, ← hg23]; exact Mm.Blk.new w5 _ _
                have HY5 := Lib.hid ((HY.out.2.step hb).step hb5)
                have hn21 : g21 ∉ fpZ := fun h => by have := hnew _ h; have := HY.out.2.b21.lt; omega
                have HZO := Lib.hid (And.intro (rRepl.okeep ho fun b hb' => hb5.block b (rRepl.olt ho b hb')) hn21)
                have h23 : g23 ≠ g21 := by have := HY.out.2.b21.lt; have := hb.size; omega
                rw [hW5, hg23]
                clear hW5 hg23 hb5 ho hnd hnew hb hn21
                have g0 := hb23.cell (i := 0) rfl
                have g1 := hb23.cell (i := 1) rfl
                have g2 := hb23.cell (i := 2) rfl
                have g3 := hb23.cell (i := 3) rfl
                have g4 := hb23.cell (i := 4) rfl
                have g5' := hb23.cell (i := 5) rfl
                have i0 := HY5.out.b21.cell (i := 0) rfl
                have i1 := HY5.out.b21.cell (i := 1) rfl
                have i2 := HY5.out.b21.cell (i := 2) rfl
                have i3 := HY5.out.b21.cell (i := 3) rfl
                have i4 := HY5.out.b21.cell (i := 4) rfl
                have i5 := HY5.out.b21.cell (i := 5) rfl
                have j0 := HY5.out.b21.frozen 0
                have j1 := HY5.out.b21.frozen 1
                have j2 := HY5.out.b21.frozen 2
                have j3 := HY5.out.b21.frozen 3
                have j4 := HY5.out.b21.frozen 4
                have j5 := HY5.out.b21.frozen 5
                clear hb23 h0 h2 ek
                go_wp2_with fail
                go_roundg (LL + 1 - (j + 1))
                case measure => omega
                case rel => exact ⟨j + 1, z, _, fpZ, by omega, by omega, by go_num, Lib.hid ⟨HFZ.out, HY5.out.set6 rfl rfl HZO.out.1 HZO.out.2⟩⟩
              · have f2 : ¬ (j : Int) ≤ (LL : Nat) := by omega
                have hjl : j = LL + 1 := by omega
                have HS : Hid (Pl.sameLog y (k : Int) = true) := Lib.hid (Pl.sameLog_iff.2 (Pl.FetchS.same (by rw [HLL.out, ← hjl]; exact HY.out.1)))
                have HOK : Hid (Pl.replOk y = true) := Lib.hid (Pl.replOk_iff.2 HY.out.1.inv.rw)
                have HIR : Hid (Pl.inStepR y (k : Int) = (true, true)) := Lib.hid (by
                  unfold Pl.inStepR
                  rw [if_pos ⟨HOK.out, hk0, by rw [HY.out.1.len, HL0.out]; exact hkp⟩, HS.out])
                clear hjl
                have CI := implInStep_c y (k : Int) _ W _ HY.out.2.rdY (Nat.le_refl _)
                rw [HIR.out] at CI
                have g0 := HY.out.2.b21.cell (i := 0) rfl
                have g1 := HY.out.2.b21.cell (i := 1) rfl
                have g2 := HY.out.2.b21.cell (i := 2) rfl
                have g3 := HY.out.2.b21.cell (i := 3) rfl
                have g4 := HY.out.2.b21.cell (i := 4) rfl
                have g5' := HY.out.2.b21.cell (i := 5) rfl
                go_upto_region 24 with (go_at_call 31; (with_reducible refine CI.mono ?_); clear CI; rintro e w5 ⟨rfl, hb⟩; (have HY5 := Lib.hid (HY.out.2.step hb)); clear hb)
                clear g0 g1 g2 g3 g4 g5' h0 h2 ek
                have CG := implGoodRepl_c y _ w5 _ HY5.out.rdY (Nat.le_refl _)
                rw [HOK.out] at CG
                have g0 := HY5.out.b21.cell (i := 0) rfl
                have g1 := HY5.out.b21.cell (i := 1) rfl
                have g2 := HY5.out.b21.cell (i := 2) rfl
                have g3 := HY5.out.b21.cell (i := 3) rfl
                have g4 := HY5.out.b21.cell (i := 4) rfl
                have g5' := HY5.out.b21.cell (i := 5) rfl
                go_wp2_with (go_at_call 13; (with_reducible refine CG.mono ?_); clear CG; rintro e w6 ⟨rfl, hb⟩; (have HY6 := Lib.hid (HY5.out.step hb)); clear hb)
                go_meet
                exact HY6.out.bel
end Go.Proofs.Ytihendiakgfpcaa

/-
  The statement of FnRepls: for every input the law returns true, and every argument reads afterwards as it read before. No conditions.
-/
namespace Go.Proofs.Ytihendiakgfpcaa.fnRepls
open Go.ChangeShapes Go.WideShapes Go.ChangeAt Go.RowKit
open Go.ChangeMaps (open_string shut_string)
set_option linter.unusedVariables false

theorem own : ownKnob Try.prog.godebug = none := by kernel_rfl
theorem laidOut : laidOutB Try.prog = true := by kernel_rfl

set_option maxRecDepth 100000 in
theorem lifted (os : Os) (started : os.Started) (H : Type) (enc : TypeId × Value → H) :
    ReturnsInHanded {} Try.checked os 5 .any (Rows.fnReplsSpec.pre6 enc Try.prog Try.f5 Rows.fnReplsRow.domain false) (Rows.fnReplsSpec.post enc Try.prog Try.f5 false true false false) := by
  refine returnsInHanded_of_change (C := Try.checked) own started (by kernel_rfl) Try.func5
    (ChangeSpec.witness6 (enc := enc) (C := Try.checked) false ⟨#[], #[.slice none 0 0, .slice none 0 0], []⟩ 8 (by kernel_rfl) (by kernel_rfl) (by kernel_rfl) (by kernel_rfl)) ?_
  intro W base args ds gs before hval0 hW hcnd _
  have hval : ∀ (j : Nat) t v, Try.f5.params[j]? = some t → args[j]? = some v → Value.okWide Try.prog W .any base t v := hval0
  have hW' := hW
  obtain ⟨p, q, hA0, hV, rfl, hfz, hnd⟩ := hW
  have hA : DataW.TrodAll enc Try.prog W 0 (fun _ => true) true Try.f5.params.toList args.toList ds p := hA0
  rw [Try.params5] at hA hval
  obtain ⟨v0, vs0, d0, ds0, p0, q0, hargs, rfl, rfl, h0, r0⟩ := trodAll_cons hA
  obtain ⟨v1, vs1, d1, ds1, p1, q1, rfl, rfl, rfl, h1, r1⟩ := trodAll_cons r0
  obtain ⟨rfl, rfl, rfl⟩ := trodAll_nil r1
  obtain rfl : args = #[v0, v1] := by cases args; simp_all
  obtain ⟨rfl, rfl⟩ := trodVars_none hV
  have k0 := h0
  have lt0 : ∀ x ∈ p0, x.block < W.heap.size := by obtain ⟨m, hm⟩ := k0; exact DataW.trod_lt m _ _ _ hm
  have k1 := h1
  have lt1 : ∀ x ∈ p1, x.block < W.heap.size := by obtain ⟨m, hm⟩ := k1; exact DataW.trod_lt m _ _ _ hm
  obtain ⟨A0, n0, c0, a0, rfl, w0⟩ := Mm.open_sl opens_u8S Try.underlying22 (hval 0 22 v0 rfl rfl) h0
  obtain ⟨A1, n1, c1, a1, rfl, w1⟩ := Mm.open_sl opens_u8S Try.underlying22 (hval 1 22 v1 rfl rfl) h1
  clear hA0 hval0
  refine (walk_FnRepls A0 A1 n0 c0 n1 c1 a0 a1 W w0 w1).mono fun e W' ⟨he, bel⟩ => ?_
  subst he
  exact ⟨_, rfl, _, _, _, [], _, [], hW', trodAll_mk1 (shut_bool Try.underlying4 _), (trodAll_cons_mk (Below.trod laidOut (by kernel_rfl) (of_decide_eq_true (by kernel_rfl)) k0 bel lt0) (trodAll_cons_mk (Below.trod laidOut (by kernel_rfl) (of_decide_eq_true (by kernel_rfl)) k1 bel lt1) trodAll_mk0)), rfl, bel.frame _, fun h => by cases h⟩

theorem over : Rows.fnReplsRow.holds Try.pinned (OpenSpec.ofChange Rows.fnReplsSpec) :=
  OpenClaim.holds_of_wide 5 Try.f5 rfl rfl rfl rfl rfl rfl rfl ⟨rfl, rfl, rfl, rfl, rfl⟩ rfl rfl rfl rfl rfl (by kernel_rfl) Try.func5 (by kernel_rfl)
    (of_decide_eq_true (by kernel_rfl)) (by unfold Func.isWrapper; first | (rw [if_pos (by decide +kernel)]; kernel_rfl) | (rw [if_neg (by decide +kernel)]; exact ⟨rfl, rfl⟩))
    (fun os started H enc _ => lifted os started H enc)

theorem proved : Rows.FnReplsSaid := over
#print axioms proved
end Go.Proofs.Ytihendiakgfpcaa.fnRepls
