/-
  Joined texts, in build order: LwFnPolls, LawFnPolls. Each part says what it proves; no conditions beyond those that a part names.
-/
import Derived.Test.YtkhchfbpmmiopaaZ01
import Derived.Test.YtkhchfbpmmiopaaZ08
import Derived.Deep.DeepCutAuto
import Derived.Test.YtkhchfbpmmiopaaRows
import Derived.WalkKit
import Derived.ProofKit
import Derived.OpenShut
import Derived.ShutString
import Derived.ChangeOld
import Derived.Below
/-
  The walk of the law on elections and majorities (chapter 8). No conditions.
-/
namespace Go.Proofs.Ytkhchfbpmmiopaa
open Go.RowKit
attribute [local go_sem] und_cell cha_cell World.cell?_alloc_some
theorem Mm.Facts.varP {w0 w W : World} {fs : List Mm.Fact} {g : Nat} (h : Mm.Facts w0 w fs) (hg : w.heap.size = g) (t : TypeId) (cs : List Value) (hW : w.alloc (.cells cs.toArray t) = W) : Mm.Facts w0 W (fs ++ [Mm.fbk g t cs]) := hW ▸ h.var hg t cs
theorem Pl.PS.step {p : Poll} (h : Pl.PS p) (s : VoteStep) : Pl.pollOk p = true → Pl.PW (Pl.pstep p s).1 := fun ok => (h.pw ok).stepS s
theorem rPoll_rdQ {w : World} {B : Nat} {x : Poll} {a0 a1 a2 : Option Addr} {n0 k0 n1 k1 n2 k2 : Nat} (h : rPoll.at_ w B x [.slice a0 n0 k0, .slice a1 n1 k1, .slice a2 n2 k2]) : Mm.SlAt rNode w B x.Nodes a0 n0 k0 ∧ Mm.SlAt rLetter w B x.Letters a1 n1 k1 ∧ Mm.SlAt ints w B x.Leaders a2 n2 k2 := by
  obtain ⟨A0, m0, c0, A1, m1, c1, A2, m2, c2, hcs, r0, r1, r2⟩ := rPoll_at h
  simp only [List.cons.injEq, Value.slice.injEq] at hcs
  obtain ⟨⟨rfl, rfl, rfl⟩, ⟨rfl, rfl, rfl⟩, ⟨rfl, rfl, rfl⟩, -⟩ := hcs
  exact ⟨r0, r1, r2⟩
theorem Pl.stepPo_true {p x : Poll} {s : VoteStep} (h : Pl.PS p) (hq : Pl.stepPo p s = (x, true)) : Pl.PW p ∧ Pl.Onward p x := by
  unfold Pl.stepPo at hq
  split at hq
  · rename_i hh
    injection hq with h1 _
    rw [← h1]
    exact ⟨h.pw hh.1, Pl.Onward.step (h.pw hh.1) s⟩
  · injection hq with _ h2
    cases h2
set_option maxRecDepth 100000 in
set_option maxHeartbeats 8000000 in
theorem walk_FnPolls (A A' : Option Addr) (n c n' c' : Nat) (code more : List Int) (w : World) (hc : Mm.SlAt Mm.u8 w w.heap.size code A n c) (hm : Mm.SlAt Mm.u8 w w.heap.size more A' n' c') :
    Calls Try.prog 5 #[.slice A n c, .slice A' n' c'] w fun e w' => e = .returned (.bool true) ∧ Below w.heap.size w w' := by
  have HC := Lib.hid hc
  have HM := Lib.hid hm
  have hlc : n ≤ maxLen := Nat.le_trans hc.2.1 hc.2.2.1
  have hlm : n' ≤ maxLen := Nat.le_trans hm.2.1 hm.2.2.1
  unfold maxLen at hlc hlm
  clear hc hm
  by_cases hbig : (1048576 : Int) < wrap64 ((n : Int) + (n' : Int))
  · go_enter Try.func5, Try.ntmps5
    go_wp2
    go_ret
    exact ⟨rfl, Below.refl _ _⟩
  · go_enter Try.func5, Try.ntmps5
    go_upto_region 4 with (go_at_call 27; refine (DrawStepPoll_c code _ _ _ _ w.heap.size HC.out (Nat.le_refl _)).mono ?_; rintro e w1 ⟨p, cs, fp, s, rfl, hsi, hps, hs1⟩; obtain ⟨a0, p0, k0, a1, p1, k1, a2, p2, k2, rfl⟩ := own_formP (hs1.at_ 0 rfl); (have HF1 := Lib.hid (((Mm.Facts.nil w).put (f := Mm.fsl Mm.u8 more A' n' c') HM.out).step hs1.bel0 |>.put (f := Mm.frd rPoll p _) (hs1.rd 0 rfl))); clear hs1)
    clear hbig
    have HPS := Lib.hid hps
    have HSI := Lib.hid hsi
    obtain ⟨g5, hg5⟩ : ∃ g, w1.heap.size = g := ⟨_, rfl⟩
    obtain ⟨Wa, hWa⟩ : ∃ V, w1.alloc (.cells #[.slice a0 p0 k0, .slice a1 p1 k1, .slice a2 p2 k2] 31) = V := ⟨_, rfl⟩
    have HFa := HF1.out.varP hg5 31 [.slice a0 p0 k0, .slice a1 p1 k1, .slice a2 p2 k2] hWa
    obtain ⟨g6, hg6⟩ : ∃ g, g5 + 1 = g := ⟨_, rfl⟩
    obtain ⟨Wb, hWb⟩ : ∃ V, Wa.alloc (.cells #[.int .i64 s.Kind, .int .i64 s.K] 56) = V := ⟨_, rfl⟩
    have HF := Lib.hid (HFa.varP (g := g6) (by rw [← hWa, Mm.sz1, hg5, hg6]) 56 [.int .i64 s.Kind, .int .i64 s.K] hWb)
    rw [hWa, hWb, hg5, hg6]
    clear hWa hWb hg5 hg6 HFa HF1 hps hsi
    obtain ⟨x, ok, hq⟩ : ∃ x ok, Pl.stepPo p s = (x, ok) := ⟨_, _, rfl⟩
    have HQ := Lib.hid hq
    have CI := implStepPoll_c p _ s [.int .i64 s.Kind, .int .i64 s.K] Wb _ (HF.out.rd 1 rfl) ⟨rfl, HSI.out⟩ (Nat.le_refl _) HPS.out
    rw [hq] at CI
    clear hq
    have b0 := HF.out.cell (k := 0) 2 rfl rfl
    have b1 := HF.out.cell (k := 1) 2 rfl rfl
    have b2 := HF.out.cell (k := 2) 2 rfl rfl
    have s0 := HF.out.cell (k := 0) 3 rfl rfl
    have s1 := HF.out.cell (k := 1) 3 rfl rfl
    go_upto_region 5 with (go_at_call 28; (with_reducible refine CI.mono ?_); clear CI; rintro e w2 ⟨cs2, fp2, rfl, ho, hnd, hnew, hb2⟩; obtain ⟨e0, q0, j0, e1, q1, j1, e2, q2v, j2, rfl⟩ := own_formP ho; (have HF2 := Lib.hid ((HF.out.step hb2).put (f := Mm.frd rPoll x _) (rPoll.weak ho (rPoll.olt ho)))); clear ho hnd hnew hb2)
    obtain ⟨g7, hg7⟩ : ∃ g, w2.heap.size = g := ⟨_, rfl⟩
    obtain ⟨Wc, hWc⟩ : ∃ V, w2.alloc (.cells #[.slice e0 q0 j0, .slice e1 q1 j1, .slice e2 q2v j2] 31) = V := ⟨_, rfl⟩
    have HF3 := Lib.hid (HF2.out.varP hg7 31 [.slice e0 q0 j0, .slice e1 q1 j1, .slice e2 q2v j2] hWc)
    rw [hWc, hg7]
    clear hWc hg7 HF HF2 b0 b1 b2 s0 s1
    have CI := specStepPoll_c p _ s [.int .i64 s.Kind, .int .i64 s.K] Wc _ (HF3.out.rd 1 rfl) ⟨rfl, HSI.out⟩ (Nat.le_refl _) HPS.out (HPS.out.step s)
    rw [HQ.out] at CI
    have b0 := HF3.out.cell (k := 0) 2 rfl rfl
    have b1 := HF3.out.cell (k := 1) 2 rfl rfl
    have b2 := HF3.out.cell (k := 2) 2 rfl rfl
    have s0 := HF3.out.cell (k := 0) 3 rfl rfl
    have s1 := HF3.out.cell (k := 1) 3 rfl rfl
    go_upto_region 6 with (go_at_call 29; (with_reducible refine CI.mono ?_); clear CI; rintro e w3 ⟨cs3, fp3, rfl, ho, hnd, hnew, hb3⟩; obtain ⟨r0, v0, m0, r1, v1, m1, r2, v2, m2, rfl⟩ := own_formP ho; (have HF4 := Lib.hid ((HF3.out.step hb3).put (f := Mm.frd rPoll x _) (rPoll.weak ho (rPoll.olt ho)))); clear ho hnd hnew hb3)
    obtain ⟨g9, hg9⟩ : ∃ g, w3.heap.size = g := ⟨_, rfl⟩
    obtain ⟨Wd, hWd⟩ : ∃ V, w3.alloc (.cells #[.slice r0 v0 m0, .slice r1 v1 m1, .slice r2 v2 m2] 31) = V := ⟨_, rfl⟩
    have HF := Lib.hid (HF4.out.varP hg9 31 [.slice r0 v0 m0, .slice r1 v1 m1, .slice r2 v2 m2] hWd)
    rw [hWd, hg9]
    clear hWd hg9 HF3 HF4 b0 b1 b2 s0 s1
    have b0 := HF.out.cell (k := 0) 2 rfl rfl
    have b1 := HF.out.cell (k := 1) 2 rfl rfl
    have b2 := HF.out.cell (k := 2) 2 rfl rfl
    have d0 := HF.out.cell (k := 0) 5 rfl rfl
    have d1 := HF.out.cell (k := 1) 5 rfl rfl
    have d2 := HF.out.cell (k := 2) 5 rfl rfl
    have s0 := HF.out.cell (k := 0) 7 rfl rfl
    have s1 := HF.out.cell (k := 1) 7 rfl rfl
    have s2 := HF.out.cell (k := 2) 7 rfl rfl
    have CS := fun z : Und Wd => und_call z (samePolls_c x _ _ (und Wd z) _ ((HF.out.und z).rd 4 rfl) ((HF.out.und z).rd 6 rfl) (Nat.le_refl _))
    have CG := fun z : Und Wd => und_call z (implGoodPoll_c p _ (und Wd z) _ ((HF.out.und z).rd 1 rfl) (Nat.le_refl _) HPS.out)
    have CH := fun z : Und Wd => und_call z (specGoodPoll_c p _ (und Wd z) _ ((HF.out.und z).rd 1 rfl) (Nat.le_refl _) HPS.out)
    obtain ⟨gd, hgd⟩ : ∃ gd, Pl.pollOk p = gd := ⟨_, rfl⟩
    have HGD := Lib.hid hgd
    rw [hgd] at CG CH
    clear hgd
    have q1 : (ok != ok) = false := by simp
    have q2 : (gd != gd) = false := by simp
    refine wp_region_und (by kernel_rfl) (by kernel_rfl) ?_
    repeat (go_big_quiet_step ((first | first | (go_at_call 10; with_reducible exact CS _) | (go_at_call 11; with_reducible exact CG _) | (go_at_call 30; with_reducible exact CH _))))
    refine wpQuiet_nil ?_
    intro X hX
    clear CS CG CH
    replace HF := Lib.hid (HF.out.step hX)
    clear hX b0 b1 b2 d0 d1 d2 s0 s1 s2
    go_upto_if 76 with fail
    go_cut [] (fun wx => Hid (Mm.Facts w wx [Mm.fsl Mm.u8 more A' n' c']))
    case first =>
      cases ok with
      | false =>
        go_wp2_with fail
        go_meet
        exact Lib.hid (HF.out.fewer (List.singleton_sublist.2 List.mem_cons_self))
      | true =>
        have HT := Lib.hid (Pl.stepPo_true HPS.out HQ.out)
        have hrp := rPoll_rdQ (HF.out.rd 1 rfl)
        have hrx := rPoll_rdQ (HF.out.rd 4 rfl)
        have HLP : Hid (p.Nodes.length = p0) := hrp.1.1
        have hq0 : q0 = p0 := by have h1 := hrx.1.1; have h2 := hrp.1.1; have h3 := HT.out.2.1.1; omega
        subst hq0
        have hl2 : p2 ≤ q2v ∧ q2v ≤ p2 + 1 := by have h1 := hrx.2.2.1; have h2 := hrp.2.2.1; have h3 := HT.out.2.2; omega
        have hp5 : q0 ≤ 5 := by have := HT.out.1.n5; have := HLP.out; omega
        have hp300 : p2 ≤ 300 := by have := HT.out.1.leads; have := hrp.2.2.1; omega
        clear hrp hrx
        have b0 := HF.out.cell (k := 0) 2 rfl rfl
        go_wp2
        clear b0
        have HF0 := HF
        obtain ⟨FS, hFS, hfx⟩ : ∃ FS, FS = _ ∧ Mm.Facts w _ FS := ⟨_, rfl, HF.out⟩
        have HFS := Lib.hid hFS
        have HFX := Lib.hid hfx
        clear hFS hfx HF HF0
        go_loopg [80] q0 (fun gg i wr => ∃ k : Nat, q0 - k ≤ gg ∧ k ≤ q0 ∧ i = .int .i64 k ∧ Hid (Mm.Facts w wr FS))
        case atStart => exact ⟨0, Nat.le_refl _, Nat.zero_le _, rfl, HFX.out⟩
        case round =>
          clear HFX
          obtain ⟨k, hgk, hk, rfl, HFr⟩ := hrel
          obtain ⟨W, rfl⟩ : ∃ W : World, W = wr := ⟨_, rfl⟩
          have hf := HFr.out
          rw [HFS.out] at hf
          have HF := Lib.hid hf
          clear hf
          by_cases hlt : k < q0
          · have hrp := rPoll_rdQ (HF.out.rd 1 rfl)
            have hrx := rPoll_rdQ (HF.out.rd 4 rfl)
            obtain ⟨nn, b, off, P1, m1', t1, hx, rfl, hb, -, -, -, -, -, e0', e1', e2', e3', e4'⟩ := rNode_get hrp.1 hlt
            obtain ⟨y, c9, o9, P2, m2', t2, hy, rfl, hb', -, -, -, -, -, u0', u1', u2', u3', u4'⟩ := rNode_get hrx.1 hlt
            have hk2 := HT.out.2.1.2 (k : Int) (by omega) (by have := HLP.out; omega)
            rw [Pl.nodeAt_of (k := (k : Int)) (by rw [Int.toNat_natCast]; exact hx), Pl.nodeAt_of (k := (k : Int)) (by rw [Int.toNat_natCast]; exact hy)] at hk2
            obtain ⟨v1', v2', v3'⟩ := hk2
            have HV2 := Lib.hid v2'
            have HV3 := Lib.hid v3'
            have f1 : (k : Int) < (q0 : Nat) := by omega
            have f2 : (0 : Int) ≤ (k : Nat) := by omega
            have f3 : ((k : Nat) : Int).toNat = k := by omega
            have d0 := HF.out.cell (k := 0) 5 rfl rfl
            clear hrp hrx hx hy hb hb' v2' v3'
            go_upto_region 13 with fail
            obtain ⟨gx, hgx⟩ : ∃ gx, W.heap.size = gx := ⟨_, rfl⟩
            obtain ⟨gy, hgy⟩ : ∃ gy, gx + 1 = gy := ⟨_, rfl⟩
            obtain ⟨W2, hW2⟩ : ∃ W2, (W.alloc (.cells #[.int .i64 nn.Term, .int .i64 nn.Voted, .int .i64 nn.Age, .slice P1 m1' t1, .int .i64 nn.Role] 42)).alloc (.cells #[.int .i64 y.Term, .int .i64 y.Voted, .int .i64 y.Age, .slice P2 m2' t2, .int .i64 y.Role] 42) = W2 := ⟨_, rfl⟩
            have HSR := Lib.hid ((((Mm.SepF.start W).alloc' hgx 42 [.int .i64 nn.Term, .int .i64 nn.Voted, .int .i64 nn.Age, .slice P1 m1' t1, .int .i64 nn.Role]).alloc' (g := gy) (by rw [Mm.sz1, hgx, hgy]) 42 [.int .i64 y.Term, .int .i64 y.Voted, .int .i64 y.Age, .slice P2 m2' t2, .int .i64 y.Role]).atW hW2)
            rw [hW2, hgx, hgy]
            clear hW2 hgx hgy e0' e1' e2' e3' e4' u0' u1' u2' u3' u4' d0
            have HB2 := Lib.hid HSR.out.bel0
            have g0 := HSR.out.cell (k := 0) 1 rfl rfl
            have g1 := HSR.out.cell (k := 1) 1 rfl rfl
            have g2 := HSR.out.cell (k := 2) 1 rfl rfl
            have y0 := HSR.out.cell (k := 0) 0 rfl rfl
            have y1 := HSR.out.cell (k := 1) 0 rfl rfl
            have y2 := HSR.out.cell (k := 2) 0 rfl rfl
            have w1' : ¬ y.Term < nn.Term := by omega
            have w2' : (y.Age != nn.Age) = false := by simp [HV3.out]
            have w3' : y.Age = nn.Age := HV3.out
            by_cases hte : y.Term = nn.Term
            · have w4' : (y.Term == nn.Term) = true := by simp [hte]
              by_cases hvt : 0 ≤ nn.Voted
              · have w5' : y.Voted = nn.Voted := HV2.out hte hvt
                have w6' : (y.Voted != nn.Voted) = false := by simp [w5']
                go_wp2
                go_roundg (q0 - (k + 1))
                case measure => omega
                case rel => exact ⟨k + 1, Nat.le_refl _, by omega, by go_num, HFr.out.step HB2.out⟩
              · go_wp2
                go_roundg (q0 - (k + 1))
                case measure => omega
                case rel => exact ⟨k + 1, Nat.le_refl _, by omega, by go_num, HFr.out.step HB2.out⟩
            · have w4' : (y.Term == nn.Term) = false := by simp [hte]
              go_wp2
              go_roundg (q0 - (k + 1))
              case measure => omega
              case rel => exact ⟨k + 1, Nat.le_refl _, by omega, by go_num, HFr.out.step HB2.out⟩
          · have f1 : ¬ (k : Int) < (q0 : Nat) := by omega
            have f2 : ¬ ((q2v : Nat) : Int) < (p2 : Nat) := by omega
            have f3 : ¬ ((p2 : Nat) : Int) + 1 < (q2v : Nat) := by omega
            have b2 := HF.out.cell (k := 2) 2 rfl rfl
            have d2 := HF.out.cell (k := 2) 5 rfl rfl
            go_wp2
            go_meet
            exact Lib.hid (HF.out.fewer (List.singleton_sublist.2 List.mem_cons_self))
    case rest =>
      clear HF HPS HSI HQ HGD
      have HF : Hid (Mm.Facts w wc [Mm.fsl Mm.u8 more A' n' c']) := hcut
      clear hcut
      go_upto_region 19 with (go_at_call 31; refine (DrawIsOverlap_c more _ _ _ _ _ (HF.out.sl 0 rfl) (Nat.le_refl _)).mono ?_; rintro e v1 ⟨qn, la, lb, A1, n1, c1, A2, n2, c2, rfl, hq1, hq5, hua, hub, hsa, hsb, hb⟩; (replace HF := Lib.hid (((HF.out.step hb).put (f := Mm.fsl Mm.int la A1 n1 c1) hsa).put (f := Mm.fsl Mm.int lb A2 n2 c2) (hsb))); clear hsa hsb hb)
      have hl1 : n1 ≤ 1000 := by have := hua.len; have := (HF.out.sl 1 rfl).1; omega
      have hl2 : n2 ≤ 1000 := by have := hub.len; have := (HF.out.sl 2 rfl).1; omega
      obtain ⟨o, ho⟩ : ∃ o, Pl.overOf qn la lb = o := ⟨_, rfl⟩
      have CI := implOver_c qn la lb A1 n1 c1 A2 n2 c2 v1 _ (HF.out.sl 1 rfl) (HF.out.sl 2 rfl) (Nat.le_refl _) hq1 hq5 hua.ris hub.ris hl1 hl2
      rw [ho] at CI
      go_upto_region 20 with (go_at_call 32; (with_reducible refine CI.mono ?_); clear CI; rintro e v2 ⟨rfl, hb⟩; (replace HF := Lib.hid (HF.out.step hb)); clear hb)
      have CI := specOver_c qn la lb A1 n1 c1 A2 n2 c2 v2 _ (HF.out.sl 1 rfl) (HF.out.sl 2 rfl) (Nat.le_refl _) hq1 hq5 hua.ris hub.ris hl1 hl2
      rw [ho] at CI
      go_upto_region 21 with (go_at_call 33; (with_reducible refine CI.mono ?_); clear CI; rintro e v3 ⟨rfl, hb⟩; (replace HF := Lib.hid (HF.out.step hb)); clear hb)
      clear ho hua hub hl1 hl2 hq1 hq5
      cases o with
      | true => 
        go_upto_region 24 with (go_at_call 34; refine (DrawNewPoll_c more _ _ _ _ _ (HF.out.sl 0 rfl) (Nat.le_refl _)).mono ?_; rintro e v4 ⟨ages, A3, n3, c3, rfl, hsl, hb⟩; (replace HF := Lib.hid ((HF.out.step hb).put (f := Mm.fsl Mm.int ages A3 n3 c3) hsl)); clear hsl hb)
        obtain ⟨np, nok, hnp⟩ : ∃ np nok, Pl.newPoll ages = (np, nok) := ⟨_, _, rfl⟩
        have CI := implNewPoll_c ages A3 n3 c3 v4 _ (HF.out.sl 3 rfl) (Nat.le_refl _)
        rw [hnp] at CI
        go_upto_region 25 with (go_at_call 35; (with_reducible refine CI.mono ?_); clear CI; rintro e v5 ⟨cs2, fp2, rfl, ho, hnd, hnew, hb2⟩; obtain ⟨e0, q0, j0, e1, q1, j1, e2, q2, j2, rfl⟩ := own_formP ho; (replace HF := Lib.hid ((HF.out.step hb2).put (f := Mm.frd rPoll np _) (rPoll.weak ho (rPoll.olt ho)))); clear ho hnd hnew hb2)
        obtain ⟨g22, hg22⟩ : ∃ g, v5.heap.size = g := ⟨_, rfl⟩
        obtain ⟨V5, hV5⟩ : ∃ V, v5.alloc (.cells #[.slice e0 q0 j0, .slice e1 q1 j1, .slice e2 q2 j2] 31) = V := ⟨_, rfl⟩
        replace HF := Lib.hid (HF.out.varP hg22 31 [.slice e0 q0 j0, .slice e1 q1 j1, .slice e2 q2 j2] hV5)
        rw [hV5, hg22]
        clear hV5 hg22
        have CI := specNewPoll_c ages A3 n3 c3 V5 _ (HF.out.sl 3 rfl) (Nat.le_refl _)
        rw [hnp] at CI
        clear hnp
        go_upto_region 26 with (go_at_call 36; (with_reducible refine CI.mono ?_); clear CI; rintro e v6 ⟨cs3, fp3, rfl, ho, hnd, hnew, hb2⟩; obtain ⟨r0, t0, i0, r1, t1, i1, r2, t2, i2, rfl⟩ := own_formP ho; (replace HF := Lib.hid ((HF.out.step hb2).put (f := Mm.frd rPoll np _) (rPoll.weak ho (rPoll.olt ho)))); clear ho hnd hnew hb2)
        obtain ⟨g24, hg24⟩ : ∃ g, v6.heap.size = g := ⟨_, rfl⟩
        obtain ⟨V6, hV6⟩ : ∃ V, v6.alloc (.cells #[.slice r0 t0 i0, .slice r1 t1 i1, .slice r2 t2 i2] 31) = V := ⟨_, rfl⟩
        replace HF := Lib.hid (HF.out.varP hg24 31 [.slice r0 t0 i0, .slice r1 t1 i1, .slice r2 t2 i2] hV6)
        rw [hV6, hg24]
        clear hV6 hg24
        go_upto_region 27 with (go_at_call 37; refine (DrawLeaderOf_c more _ _ _ _ _ (HF.out.sl 0 rfl) (Nat.le_refl _)).mono ?_; rintro e v7 ⟨pl, cs4, fp4, kk, rfl, hps, hs1⟩; obtain ⟨h0, u0, l0, h1, u1, l1, h2, u2, l2, rfl⟩ := own_formP (hs1.at_ 0 rfl); (replace HF := Lib.hid ((HF.out.step hs1.bel0).put (f := Mm.frd rPoll pl _) (hs1.rd 0 rfl))); clear hs1)
        have HPL := Lib.hid hps
        clear hps
        obtain ⟨g26, hg26⟩ : ∃ g, v7.heap.size = g := ⟨_, rfl⟩
        obtain ⟨V7, hV7⟩ : ∃ V, v7.alloc (.cells #[.slice h0 u0 l0, .slice h1 u1 l1, .slice h2 u2 l2] 31) = V := ⟨_, rfl⟩
        replace HF := Lib.hid (HF.out.varP hg26 31 [.slice h0 u0 l0, .slice h1 u1 l1, .slice h2 u2 l2] hV7)
        rw [hV7, hg26]
        clear hV7 hg26
        obtain ⟨y1, y2, hy⟩ : ∃ y1 y2, Pl.leaderOf pl kk = (y1, y2) := ⟨_, _, rfl⟩
        have HY := Lib.hid hy
        clear hy
        have CI := implLeader_c pl kk _ V7 _ (HF.out.rd 8 rfl) (Nat.le_refl _) HPL.out
        rw [HY.out] at CI
        have b0 := HF.out.cell (k := 0) 9 rfl rfl
        have b1 := HF.out.cell (k := 1) 9 rfl rfl
        have b2 := HF.out.cell (k := 2) 9 rfl rfl
        go_upto_region 28 with (go_at_call 12; (with_reducible refine CI.mono ?_); clear CI; rintro e v8 ⟨rfl, hb⟩; (replace HF := Lib.hid (HF.out.step hb)); clear hb)
        clear b0 b1 b2
        have CI := specLeader_c pl kk _ v8 _ (HF.out.rd 8 rfl) (Nat.le_refl _) HPL.out
        rw [HY.out] at CI
        have b0 := HF.out.cell (k := 0) 9 rfl rfl
        have b1 := HF.out.cell (k := 1) 9 rfl rfl
        have b2 := HF.out.cell (k := 2) 9 rfl rfl
        go_upto_region 29 with (go_at_call 38; (with_reducible refine CI.mono ?_); clear CI; rintro e v9 ⟨rfl, hb⟩; (replace HF := Lib.hid (HF.out.step hb)); clear hb)
        clear b0 b1 b2 HY HPL
        go_upto_region 30 with (go_at_call 39; refine (DrawMajorityOf_c more _ _ _ _ _ (HF.out.sl 0 rfl) (Nat.le_refl _)).mono ?_; rintro e v10 ⟨mm, rfl, hb⟩; (replace HF := Lib.hid (HF.out.step hb)); clear hb)
        obtain ⟨z1, z2, hz⟩ : ∃ z1 z2, Pl.majOf mm = (z1, z2) := ⟨_, _, rfl⟩
        have CI := implMaj_c mm v10
        have CJ := specMaj_c mm v10
        rw [hz] at CI CJ
        clear hz
        go_upto_region 32 with first | (go_at_call 13; (with_reducible refine CI.mono ?_); clear CI; rintro e v' ⟨rfl, rfl⟩) | (go_at_call 40; (with_reducible refine CJ.mono ?_); clear CJ; rintro e v' ⟨rfl, rfl⟩)
        have b0 := HF.out.cell (k := 0) 5 rfl rfl
        have b1 := HF.out.cell (k := 1) 5 rfl rfl
        have b2 := HF.out.cell (k := 2) 5 rfl rfl
        have d0 := HF.out.cell (k := 0) 7 rfl rfl
        have d1 := HF.out.cell (k := 1) 7 rfl rfl
        have d2 := HF.out.cell (k := 2) 7 rfl rfl
        have p1 : (nok == nok) = true := by simp
        have p2 : (y2 == y2) = true := by simp
        have p3 : (y1 == y1) = true := by simp
        have p4 : (z2 == z2) = true := by simp
        have p5 : (z1 == z1) = true := by simp
        go_wp2_with (go_at_call 10; (with_reducible refine (samePolls_c np _ _ v10 _ (HF.out.rd 4 rfl) (HF.out.rd 6 rfl) (Nat.le_refl _)).mono ?_); rintro e v11 ⟨rfl, hb⟩; (replace HF := Lib.hid (HF.out.step hb)); clear hb b0 b1 b2 d0 d1 d2)
        go_ret
        exact ⟨rfl, HF.out.bel⟩
      | false => 
        go_upto_region 24 with (go_at_call 34; refine (DrawNewPoll_c more _ _ _ _ _ (HF.out.sl 0 rfl) (Nat.le_refl _)).mono ?_; rintro e v4 ⟨ages, A3, n3, c3, rfl, hsl, hb⟩; (replace HF := Lib.hid ((HF.out.step hb).put (f := Mm.fsl Mm.int ages A3 n3 c3) hsl)); clear hsl hb)
        obtain ⟨np, nok, hnp⟩ : ∃ np nok, Pl.newPoll ages = (np, nok) := ⟨_, _, rfl⟩
        have CI := implNewPoll_c ages A3 n3 c3 v4 _ (HF.out.sl 3 rfl) (Nat.le_refl _)
        rw [hnp] at CI
        go_upto_region 25 with (go_at_call 35; (with_reducible refine CI.mono ?_); clear CI; rintro e v5 ⟨cs2, fp2, rfl, ho, hnd, hnew, hb2⟩; obtain ⟨e0, q0, j0, e1, q1, j1, e2, q2, j2, rfl⟩ := own_formP ho; (replace HF := Lib.hid ((HF.out.step hb2).put (f := Mm.frd rPoll np _) (rPoll.weak ho (rPoll.olt ho)))); clear ho hnd hnew hb2)
        obtain ⟨g22, hg22⟩ : ∃ g, v5.heap.size = g := ⟨_, rfl⟩
        obtain ⟨V5, hV5⟩ : ∃ V, v5.alloc (.cells #[.slice e0 q0 j0, .slice e1 q1 j1, .slice e2 q2 j2] 31) = V := ⟨_, rfl⟩
        replace HF := Lib.hid (HF.out.varP hg22 31 [.slice e0 q0 j0, .slice e1 q1 j1, .slice e2 q2 j2] hV5)
        rw [hV5, hg22]
        clear hV5 hg22
        have CI := specNewPoll_c ages A3 n3 c3 V5 _ (HF.out.sl 3 rfl) (Nat.le_refl _)
        rw [hnp] at CI
        clear hnp
        go_upto_region 26 with (go_at_call 36; (with_reducible refine CI.mono ?_); clear CI; rintro e v6 ⟨cs3, fp3, rfl, ho, hnd, hnew, hb2⟩; obtain ⟨r0, t0, i0, r1, t1, i1, r2, t2, i2, rfl⟩ := own_formP ho; (replace HF := Lib.hid ((HF.out.step hb2).put (f := Mm.frd rPoll np _) (rPoll.weak ho (rPoll.olt ho)))); clear ho hnd hnew hb2)
        obtain ⟨g24, hg24⟩ : ∃ g, v6.heap.size = g := ⟨_, rfl⟩
        obtain ⟨V6, hV6⟩ : ∃ V, v6.alloc (.cells #[.slice r0 t0 i0, .slice r1 t1 i1, .slice r2 t2 i2] 31) = V := ⟨_, rfl⟩
        replace HF := Lib.hid (HF.out.varP hg24 31 [.slice r0 t0 i0, .slice r1 t1 i1, .slice r2 t2 i2] hV6)
        rw [hV6, hg24]
        clear hV6 hg24
        go_upto_region 27 with (go_at_call 37; refine (DrawLeaderOf_c more _ _ _ _ _ (HF.out.sl 0 rfl) (Nat.le_refl _)).mono ?_; rintro e v7 ⟨pl, cs4, fp4, kk, rfl, hps, hs1⟩; obtain ⟨h0, u0, l0, h1, u1, l1, h2, u2, l2, rfl⟩ := own_formP (hs1.at_ 0 rfl); (replace HF := Lib.hid ((HF.out.step hs1.bel0).put (f := Mm.frd rPoll pl _) (hs1.rd 0 rfl))); clear hs1)
        have HPL := Lib.hid hps
        clear hps
        obtain ⟨g26, hg26⟩ : ∃ g, v7.heap.size = g := ⟨_, rfl⟩
        obtain ⟨V7, hV7⟩ : ∃ V, v7.alloc (.cells #[.slice h0 u0 l0, .slice h1 u1 l1, .slice h2 u2 l2] 31) = V := ⟨_, rfl⟩
        replace HF := Lib.hid (HF.out.varP hg26 31 [.slice h0 u0 l0, .slice h1 u1 l1, .slice h2 u2 l2] hV7)
        rw [hV7, hg26]
        clear hV7 hg26
        obtain ⟨y1, y2, hy⟩ : ∃ y1 y2, Pl.leaderOf pl kk = (y1, y2) := ⟨_, _, rfl⟩
        have HY := Lib.hid hy
        clear hy
        have CI := implLeader_c pl kk _ V7 _ (HF.out.rd 8 rfl) (Nat.le_refl _) HPL.out
        rw [HY.out] at CI
        have b0 := HF.out.cell (k := 0) 9 rfl rfl
        have b1 := HF.out.cell (k := 1) 9 rfl rfl
        have b2 := HF.out.cell (k := 2) 9 rfl rfl
        go_upto_region 28 with (go_at_call 12; (with_reducible refine CI.mono ?_); clear CI; rintro e v8 ⟨rfl, hb⟩; (replace HF := Lib.hid (HF.out.step hb)); clear hb)
        clear b0 b1 b2
        have CI := specLeader_c pl kk _ v8 _ (HF.out.rd 8 rfl) (Nat.le_refl _) HPL.out
        rw [HY.out] at CI
        have b0 := HF.out.cell (k := 0) 9 rfl rfl
        have b1 := HF.out.cell (k := 1) 9 rfl rfl
        have b2 := HF.out.cell (k := 2) 9 rfl rfl
        go_upto_region 29 with (go_at_call 38; (with_reducible refine CI.mono ?_); clear CI; rintro e v9 ⟨rfl, hb⟩; (replace HF := Lib.hid (HF.out.step hb)); clear hb)
        clear b0 b1 b2 HY HPL
        go_upto_region 30 with (go_at_call 39; refine (DrawMajorityOf_c more _ _ _ _ _ (HF.out.sl 0 rfl) (Nat.le_refl _)).mono ?_; rintro e v10 ⟨mm, rfl, hb⟩; (replace HF := Lib.hid (HF.out.step hb)); clear hb)
        obtain ⟨z1, z2, hz⟩ : ∃ z1 z2, Pl.majOf mm = (z1, z2) := ⟨_, _, rfl⟩
        have CI := implMaj_c mm v10
        have CJ := specMaj_c mm v10
        rw [hz] at CI CJ
        clear hz
        go_upto_region 32 with first | (go_at_call 13; (with_reducible refine CI.mono ?_); clear CI; rintro e v' ⟨rfl, rfl⟩) | (go_at_call 40; (with_reducible refine CJ.mono ?_); clear CJ; rintro e v' ⟨rfl, rfl⟩)
        have b0 := HF.out.cell (k := 0) 5 rfl rfl
        have b1 := HF.out.cell (k := 1) 5 rfl rfl
        have b2 := HF.out.cell (k := 2) 5 rfl rfl
        have d0 := HF.out.cell (k := 0) 7 rfl rfl
        have d1 := HF.out.cell (k := 1) 7 rfl rfl
        have d2 := HF.out.cell (k := 2) 7 rfl rfl
        have p1 : (nok == nok) = true := by simp
        have p2 : (y2 == y2) = true := by simp
        have p3 : (y1 == y1) = true := by simp
        have p4 : (z2 == z2) = true := by simp
        have p5 : (z1 == z1) = true := by simp
        go_wp2_with (go_at_call 10; (with_reducible refine (samePolls_c np _ _ v10 _ (HF.out.rd 4 rfl) (HF.out.rd 6 rfl) (Nat.le_refl _)).mono ?_); rintro e v11 ⟨rfl, hb⟩; (replace HF := Lib.hid (HF.out.step hb)); clear hb b0 b1 b2 d0 d1 d2)
        go_ret
        exact ⟨rfl, HF.out.bel⟩
end Go.Proofs.Ytkhchfbpmmiopaa

/-
  The statement of FnPolls: for every input the law returns true, and every argument reads afterwards as it read before. No conditions.
-/
namespace Go.Proofs.Ytkhchfbpmmiopaa.fnPolls
open Go.ChangeShapes Go.WideShapes Go.ChangeAt Go.RowKit
open Go.ChangeMaps (open_string shut_string)
set_option linter.unusedVariables false

theorem own : ownKnob Try.prog.godebug = none := by kernel_rfl
theorem laidOut : laidOutB Try.prog = true := by kernel_rfl

set_option maxRecDepth 100000 in
theorem lifted (os : Os) (started : os.Started) (H : Type) (enc : TypeId × Value → H) :
    ReturnsInHanded {} Try.checked os 5 .any (Rows.fnPollsSpec.pre6 enc Try.prog Try.f5 Rows.fnPollsRow.domain false) (Rows.fnPollsSpec.post enc Try.prog Try.f5 false true false false) := by
  refine returnsInHanded_of_change (C := Try.checked) own started (by kernel_rfl) Try.func5
    (ChangeSpec.witness6 (enc := enc) (C := Try.checked) false ⟨#[], #[.slice none 0 0, .slice none 0 0], []⟩ 8 (by kernel_rfl) (by kernel_rfl) (by kernel_rfl) (by kernel_rfl)) ?_
  intro W base args ds gs before hval0 hW hcnd _
  have hval : ∀ (j : Nat) t v, Try.f5.params[j]? = some t → args[j]? = some v → Value.okWide Try.prog W .any base t v := hval0
  have hW' := hW
  obtain ⟨p, q, hA0, hV, rfl, hfz, hnd⟩ := hW
  have hA : DataW.TrodAll enc Try.prog W 0 (fun _ => true) true Try.f5.params.toList args.toList ds p := hA0
  rw [Try.params5] at hA hval
  obtain ⟨v0, vs0, d0, ds0, p0, q0, hargs, rfl, rfl, h0, r0⟩ := trodAll_cons hA
  obtain ⟨v1, vs1, d1, ds1, p1, q1, rfl, rfl, rfl, h1, r1⟩ := trodAll_cons r0
  obtain ⟨rfl, rfl, rfl⟩ := trodAll_nil r1
  obtain rfl : args = #[v0, v1] := by cases args; simp_all
  obtain ⟨rfl, rfl⟩ := trodVars_none hV
  have k0 := h0
  have lt0 : ∀ x ∈ p0, x.block < W.heap.size := by obtain ⟨m, hm⟩ := k0; exact DataW.trod_lt m _ _ _ hm
  have k1 := h1
  have lt1 : ∀ x ∈ p1, x.block < W.heap.size := by obtain ⟨m, hm⟩ := k1; exact DataW.trod_lt m _ _ _ hm
  obtain ⟨A0, n0, c0, a0, rfl, w0⟩ := Mm.open_sl opens_u8S Try.underlying22 (hval 0 22 v0 rfl rfl) h0
  obtain ⟨A1, n1, c1, a1, rfl, w1⟩ := Mm.open_sl opens_u8S Try.underlying22 (hval 1 22 v1 rfl rfl) h1
  clear hA0 hval0
  refine (walk_FnPolls A0 A1 n0 c0 n1 c1 a0 a1 W w0 w1).mono fun e W' ⟨he, bel⟩ => ?_
  subst he
  exact ⟨_, rfl, _, _, _, [], _, [], hW', trodAll_mk1 (shut_bool Try.underlying4 _), (trodAll_cons_mk (Below.trod laidOut (by kernel_rfl) (of_decide_eq_true (by kernel_rfl)) k0 bel lt0) (trodAll_cons_mk (Below.trod laidOut (by kernel_rfl) (of_decide_eq_true (by kernel_rfl)) k1 bel lt1) trodAll_mk0)), rfl, bel.frame _, fun h => by cases h⟩

theorem over : Rows.fnPollsRow.holds Try.pinned (OpenSpec.ofChange Rows.fnPollsSpec) :=
  OpenClaim.holds_of_wide 5 Try.f5 rfl rfl rfl rfl rfl rfl rfl ⟨rfl, rfl, rfl, rfl, rfl⟩ rfl rfl rfl rfl rfl (by kernel_rfl) Try.func5 (by kernel_rfl)
    (of_decide_eq_true (by kernel_rfl)) (by unfold Func.isWrapper; first | (rw [if_pos (by decide +kernel)]; kernel_rfl) | (rw [if_neg (by decide +kernel)]; exact ⟨rfl, rfl⟩))
    (fun os started H enc _ => lifted os started H enc)

theorem proved : Rows.FnPollsSaid := over
#print axioms proved
end Go.Proofs.Ytkhchfbpmmiopaa.fnPolls
