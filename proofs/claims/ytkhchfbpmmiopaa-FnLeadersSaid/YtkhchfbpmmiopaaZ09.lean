/-
  Joined texts, in build order: LwFnLeaders, LawFnLeaders. Each part says what it proves; no conditions beyond those that a part names.
-/
import Derived.Test.YtkhchfbpmmiopaaZ07
import Derived.Test.YtkhchfbpmmiopaaZ08
import Derived.Deep.DeepCutAuto
import Derived.Test.YtkhchfbpmmiopaaRows
import Derived.WalkKit
import Derived.ProofKit
import Derived.OpenShut
import Derived.ShutString
import Derived.ChangeOld
import Derived.Below
/-
  The walk of the law on leaders (chapter 8). No conditions.
-/
namespace Go.Proofs.Ytkhchfbpmmiopaa
open Go.RowKit
attribute [local go_sem] und_cell cha_cell World.cell?_alloc_some
theorem rPoll_rd {w : World} {B : Nat} {x : Poll} {a0 a1 a2 : Option Addr} {n0 k0 n1 k1 n2 k2 : Nat} (h : rPoll.at_ w B x [.slice a0 n0 k0, .slice a1 n1 k1, .slice a2 n2 k2]) : Mm.SlAt rNode w B x.Nodes a0 n0 k0 ∧ Mm.SlAt rLetter w B x.Letters a1 n1 k1 ∧ Mm.SlAt ints w B x.Leaders a2 n2 k2 := by
  obtain ⟨A0, m0, c0, A1, m1, c1, A2, m2, c2, hcs, r0, r1, r2⟩ := rPoll_at h
  simp only [List.cons.injEq, Value.slice.injEq] at hcs
  obtain ⟨⟨rfl, rfl, rfl⟩, ⟨rfl, rfl, rfl⟩, ⟨rfl, rfl, rfl⟩, -⟩ := hcs
  exact ⟨r0, r1, r2⟩
theorem Pl.playPoll_true {ages : List Int} {l : List VoteStep} {p : Poll} {bs : List Bool} (h : Pl.playPoll ages l = (p, bs, true)) : ∃ V, Pl.PBook V p := by
  unfold Pl.playPoll at h
  split at h
  · rename_i hh
    injection h with h1 h2
    have hi := (Pl.playP_book (Pl.agesOk_book hh.1) _ l rfl).1
    rw [h1] at hi
    exact hi
  · injection h with _ h
    injection h with _ h
    cases h
set_option maxRecDepth 100000 in
set_option maxHeartbeats 8000000 in
theorem walk_FnLeaders (A : Option Addr) (n c : Nat) (code : List Int) (w : World) (hc : Mm.SlAt Mm.u8 w w.heap.size code A n c) :
    Calls Try.prog 3 #[.slice A n c] w fun e w' => e = .returned (.bool true) ∧ Below w.heap.size w w' := by
  have HC := Lib.hid hc
  have hlc : n ≤ maxLen := Nat.le_trans hc.2.1 hc.2.2.1
  unfold maxLen at hlc
  clear hc
  by_cases hbig : (1048576 : Int) < (n : Nat)
  · go_enter Try.func3, Try.ntmps3
    go_wp2
    go_ret
    exact ⟨rfl, Below.refl _ _⟩
  · go_enter Try.func3, Try.ntmps3
    go_upto_region 4 with (go_at_call 6; refine (DrawPlayPoll_c code _ _ _ _ w.heap.size HC.out (Nat.le_refl _)).mono ?_; rintro e w1 ⟨ages, l, A0, n0, c0, A1, n1, c1, rfl, hl5, hl201, hsa, hsl, hb1⟩; (have HF1 := Lib.hid ((((Mm.Facts.nil w).step hb1).put (f := Mm.fsl Mm.int ages A0 n0 c0) hsa).put (f := Mm.fsl rVoteStep l A1 n1 c1) hsl)); clear hsa hsl hb1)
    clear hbig
    obtain ⟨p, bs, ok, hr⟩ : ∃ p bs ok, Pl.playPoll ages l = (p, bs, ok) := ⟨_, _, _, rfl⟩
    have HR := Lib.hid hr
    clear hr
    have CP := implPlayPoll_c ages l A0 n0 c0 A1 n1 c1 w1 _ (HF1.out.sl 0 rfl) (HF1.out.sl 1 rfl) (Nat.le_refl _)
    rw [HR.out] at CP
    go_upto_region 5 with (go_at_call 7; (with_reducible refine CP.mono ?_); clear CP; rintro e w2 ⟨cs, A2, n2, c2, fp0, fp1, rfl, hs2⟩; obtain ⟨a0, p0, k0, a1, p1, k1, a2, p2, k2, _, _, _, rfl, -⟩ := rPoll_own (show rPoll.own _ _ _ _ from hs2.at_ 0 rfl); (have HF2 := Lib.hid ((((HF1.out.step hs2.bel0).put (f := Mm.frd rPoll p _) (hs2.rd 0 rfl)).put (f := Mm.fsl Mm.bool bs A2 n2 c2) ((hs2.sl 1 rfl).weak (hs2.sl 1 rfl).olt)).var rfl 31 [.slice a0 p0 k0, .slice a1 p1 k1, .slice a2 p2 k2])); clear hs2)
    obtain ⟨g7, hg7⟩ : ∃ g, w2.heap.size = g := ⟨_, rfl⟩
    obtain ⟨W2, hW2⟩ : ∃ W2, w2.alloc (.cells #[.slice a0 p0 k0, .slice a1 p1 k1, .slice a2 p2 k2] 31) = W2 := ⟨_, rfl⟩
    rw [List.toArray, hg7, hW2] at HF2
    rw [hg7, hW2]
    clear hg7 hW2
    have CQ := specPlayPoll_c ages l A0 n0 c0 A1 n1 c1 W2 _ (HF2.out.sl 0 rfl) (HF2.out.sl 1 rfl) (Nat.le_refl _)
    rw [HR.out] at CQ
    go_upto_region 6 with (go_at_call 8; (with_reducible refine CQ.mono ?_); clear CQ; rintro e w3 ⟨cs, A3, n3, c3, fp2, fp3, rfl, hs3⟩; obtain ⟨e0, q0, j0, e1, q1, j1, e2, q2, j2, _, _, _, rfl, -⟩ := rPoll_own (show rPoll.own _ _ _ _ from hs3.at_ 0 rfl); (have HF3 := Lib.hid ((((HF2.out.step hs3.bel0).put (f := Mm.frd rPoll p _) (hs3.rd 0 rfl)).put (f := Mm.fsl Mm.bool bs A3 n3 c3) ((hs3.sl 1 rfl).weak (hs3.sl 1 rfl).olt)).var rfl 31 [.slice e0 q0 j0, .slice e1 q1 j1, .slice e2 q2 j2])); clear hs3)
    obtain ⟨g10, hg10⟩ : ∃ g, w3.heap.size = g := ⟨_, rfl⟩
    obtain ⟨W3, hW3⟩ : ∃ W3, w3.alloc (.cells #[.slice e0 q0 j0, .slice e1 q1 j1, .slice e2 q2 j2] 31) = W3 := ⟨_, rfl⟩
    rw [List.toArray, hg10, hW3] at HF3
    rw [hg10, hW3]
    clear hg10 hW3 HF2 HF1
    obtain rfl : n2 = n3 := (HF3.out.sl 3 rfl).1.symm.trans (HF3.out.sl 6 rfl).1
    have HF := HF3
    clear HF3
    cases ok with
    | false =>
      go_wp2_with first
        | (go_at_call 9; (with_reducible refine (sameBools_c bs A2 A3 n2 c2 c3 W3 _ (HF.out.sl 3 rfl) (HF.out.sl 6 rfl) (Nat.le_refl _)).mono ?_); rintro e w4 ⟨rfl, hb4⟩; (replace HF := Lib.hid (HF.out.step hb4)); clear hb4; (have b0 := HF.out.cell (k := 0) 4 rfl rfl); (have b1 := HF.out.cell (k := 1) 4 rfl rfl); (have b2 := HF.out.cell (k := 2) 4 rfl rfl); (have d0 := HF.out.cell (k := 0) 7 rfl rfl); (have d1 := HF.out.cell (k := 1) 7 rfl rfl); (have d2 := HF.out.cell (k := 2) 7 rfl rfl))
        | (go_at_call 10; (with_reducible refine (samePolls_c p _ _ w4 _ (HF.out.rd 2 rfl) (HF.out.rd 5 rfl) (Nat.le_refl _)).mono ?_); rintro e w5 ⟨rfl, hb5⟩; (replace HF := Lib.hid (HF.out.step hb5)); clear hb5; (clear b0 b1 b2); (clear d0 d1 d2))
      go_ret
      exact ⟨rfl, HF.out.bel⟩
    | true =>
      obtain ⟨V, hV⟩ := Pl.playPoll_true HR.out
      have HV := Lib.hid hV
      clear hV
      go_upto_region 9 with first
        | (go_at_call 9; (with_reducible refine (sameBools_c bs A2 A3 n2 c2 c3 W3 _ (HF.out.sl 3 rfl) (HF.out.sl 6 rfl) (Nat.le_refl _)).mono ?_); rintro e w4 ⟨rfl, hb4⟩; (replace HF := Lib.hid (HF.out.step hb4)); clear hb4; (have b0 := HF.out.cell (k := 0) 4 rfl rfl); (have b1 := HF.out.cell (k := 1) 4 rfl rfl); (have b2 := HF.out.cell (k := 2) 4 rfl rfl); (have d0 := HF.out.cell (k := 0) 7 rfl rfl); (have d1 := HF.out.cell (k := 1) 7 rfl rfl); (have d2 := HF.out.cell (k := 2) 7 rfl rfl))
        | (go_at_call 10; (with_reducible refine (samePolls_c p _ _ w4 _ (HF.out.rd 2 rfl) (HF.out.rd 5 rfl) (Nat.le_refl _)).mono ?_); rintro e w5 ⟨rfl, hb5⟩; (replace HF := Lib.hid (HF.out.step hb5)); clear hb5; (clear b0 b1 b2); (clear d0 d1 d2); (have b0 := HF.out.cell (k := 0) 4 rfl rfl); (have b1 := HF.out.cell (k := 1) 4 rfl rfl); (have b2 := HF.out.cell (k := 2) 4 rfl rfl))
      have hrd := rPoll_rd (HF.out.rd 2 rfl)
      have HL0 : Hid (p.Nodes.length = p0) := hrd.1.1
      have HL2 : Hid (p.Leaders.length = p2) := hrd.2.2.1
      have hp01 : 1 ≤ p0 := by have := HV.out.pw.n1; have := HL0.out; omega
      have hp05 : p0 ≤ 5 := by have := HV.out.pw.n5; have := HL0.out; omega
      have hp23 : p2 ≤ 300 := by have := HV.out.pw.leads; have := HL2.out; omega
      have hcap2 : p2 ≤ k2 := hrd.2.2.2.1
      have hcap3 : k2 ≤ maxLen := hrd.2.2.2.2.1
      unfold maxLen at hcap3
      clear hrd
      have CG := implGoodPollYes_c p _ w5 _ (HF.out.rd 2 rfl) (Nat.le_refl _) HV.out.pw
      go_wp2_with (go_at_call 11; (with_reducible refine CG.mono ?_); clear CG; rintro e w7 ⟨rfl, hb7⟩; (replace HF := Lib.hid (HF.out.step hb7)); clear hb7; (clear b0 b1 b2); (have b0 := HF.out.cell (k := 0) 4 rfl rfl); (have b1 := HF.out.cell (k := 1) 4 rfl rfl); (have b2 := HF.out.cell (k := 2) 4 rfl rfl))
      clear b0 b1 b2
      go_loopg [68] p2 (fun gg i wr => ∃ k : Nat, p2 - k ≤ gg ∧ k ≤ p2 ∧ i = .int .i64 k ∧ Hid (Below w7.heap.size w7 wr))
      case atStart => exact ⟨0, Nat.le_refl _, Nat.zero_le _, rfl, Below.refl _ _⟩
      case round =>
        obtain ⟨k, hgk, hk, rfl, HB⟩ := hrel
        obtain ⟨W, rfl⟩ : ∃ W : World, W = wr := ⟨_, rfl⟩
        have HF0 := HF
        clear HF
        have HF := Lib.hid (HF0.out.step HB.out)
        by_cases hlt : k < p2
        · skip
          have b0 := HF.out.cell (k := 0) 4 rfl rfl
          have b1 := HF.out.cell (k := 1) 4 rfl rfl
          have b2 := HF.out.cell (k := 2) 4 rfl rfl
          have hrd := rPoll_rd (HF.out.rd 2 rfl)
          obtain ⟨x, b, off, AX, nX, cX, hx, rfl, hb, hrx, x0⟩ := ints_get hrd.2.2 hlt
          obtain ⟨t, v, rfl, -⟩ := HV.out.pw.lead x (List.mem_of_getElem? hx)
          obtain rfl : nX = 2 := hrx.1.symm
          obtain ⟨x', b', off', hx', rfl, hb', i0', y0⟩ := int_get hrx (show 0 < 2 by omega)
          obtain ⟨y', hy', _, j0', y1⟩ := int_get' hrx (show 1 < 2 by omega)
          obtain rfl : t = x' := by injection hx'
          obtain rfl : v = y' := by injection hy'
          rw [Nat.add_zero] at y0
          have CL := fun z : Und W => und_call z (implLeaderOf_c p t v _ (und W z) _ ((HF.out.und z).rd 2 rfl) (Nat.le_refl _) HV.out.pw HV.out.uniq (List.mem_of_getElem? hx))
          have HX := Lib.hid hx
          have f1 : (k : Int) < (p2 : Nat) := by omega
          clear hrd hx hx' hy' hrx i0' j0'
          go_wp2
          refine wp_region_und (by kernel_rfl) (by kernel_rfl) ?_
          repeat (go_big_quiet_step ((first | (go_at_call 12; with_reducible exact CL _))))
          refine wpQuiet_nil ?_
          intro X hX
          clear CL
          have HF2 := Lib.hid (HF.out.step hX)
          have y1' := below_some hX y1
          have Y0 := Lib.hid y0
          clear y0 y1 x0
          clear b0 b1 b2
          have b2 := HF2.out.cell (k := 2) 4 rfl rfl
          have s1 : (0 : Int) ≤ (k : Nat) := by omega
          have s2 : k ≤ k2 := by omega
          go_wp2
          have HBX := Lib.hid hX
          clear b2 y1' HF2 hX
          go_loopg [95] k (fun gg i wr => ∃ j : Nat, k - j ≤ gg ∧ j ≤ k ∧ i = .int .i64 j ∧ Hid (Below W.heap.size W wr))
          case atStart => exact ⟨0, Nat.le_refl _, Nat.zero_le _, rfl, HBX.out⟩
          case round =>
            obtain ⟨j, hgj, hj, rfl, HBJ⟩ := hrel
            obtain ⟨U, rfl⟩ : ∃ U : World, U = wr := ⟨_, rfl⟩
            by_cases hltj : j < k
            · have HFJ := Lib.hid (HF.out.step HBJ.out)
              have hrd := rPoll_rd (HFJ.out.rd 2 rfl)
              obtain ⟨x3, AZ, nZ, cZ, hx3, _, hrx3, z1⟩ := ints_get' hrd.2.2 (show j < p2 by omega)
              obtain ⟨t3, v3, rfl, -⟩ := HV.out.pw.lead x3 (List.mem_of_getElem? hx3)
              obtain rfl : nZ = 2 := hrx3.1.symm
              obtain ⟨x4, b4, off4, hx4, rfl, hb4, i4, z0⟩ := int_get hrx3 (show 0 < 2 by omega)
              obtain rfl : t3 = x4 := by injection hx4
              rw [Nat.add_zero] at z0
              have y0 := below_some HBJ.out Y0.out
              have hne : (t == t3) = false := by
                have e1 := List.getElem?_eq_some_iff.1 HX.out
                have e2 := List.getElem?_eq_some_iff.1 hx3
                have h := List.pairwise_iff_getElem.1 HV.out.uniq j k e2.1 e1.1 hltj
                rw [e1.2, e2.2] at h
                simp only [List.head?_cons, ne_eq, Option.some.injEq] at h
                rw [beq_eq_false_iff_ne]
                exact fun hh => h hh.symm
              have f2 : (j : Int) < (k : Nat) := by omega
              have f3 : (0 : Int) ≤ (j : Nat) := by omega
              have f4 : ((j : Nat) : Int).toNat = j := by omega
              clear hrd hx3 hrx3 hx4 i4
              go_wp2
              refine wp_region_und (by kernel_rfl) (by kernel_rfl) ?_
              repeat (go_big_quiet_step ((first | fail)))
              refine wpQuiet_nil ?_
              intro X hX
              clear y0 z0 z1
              go_wp2
              go_roundg (k - (j + 1))
              case measure => omega
              case rel => exact ⟨j + 1, Nat.le_refl _, by omega, by go_num, below_step HBJ.out hX⟩
            · have f2 : ¬ (j : Int) < (k : Nat) := by omega
              go_wp2
              go_roundg (p2 - (k + 1))
              case measure => omega
              case rel => exact ⟨k + 1, Nat.le_refl _, by omega, by go_num, below_step HB.out HBJ.out⟩
        · have f1 : ¬ (k : Int) < (p2 : Nat) := by omega
          clear HF0
          have b0 := HF.out.cell (k := 0) 4 rfl rfl
          have b1 := HF.out.cell (k := 1) 4 rfl rfl
          have b2 := HF.out.cell (k := 2) 4 rfl rfl
          obtain ⟨mj, hmj⟩ : ∃ mj : Nat, p0 / 2 + 1 = mj := ⟨_, rfl⟩
          have CM := implMajorityOf_c p0 W hp01 (by omega)
          rw [hmj] at CM
          go_wp2_with (go_at_call 13; (with_reducible refine CM.mono ?_); clear CM; rintro e w8 ⟨rfl, rfl⟩)
          clear b0 b1 b2
          go_loopg [118] p0 (fun gg i wr => ∃ i0 : Nat, p0 - i0 ≤ gg ∧ i0 ≤ p0 ∧ i = .int .i64 i0 ∧ Hid (Below W.heap.size W wr))
          case atStart => exact ⟨0, Nat.le_refl _, Nat.zero_le _, rfl, Below.refl _ _⟩
          case round =>
            obtain ⟨i, hgi, hi, rfl, HBI⟩ := hrel
            obtain ⟨U, rfl⟩ : ∃ U : World, U = wr := ⟨_, rfl⟩
            by_cases hlti : i < p0
            · have HFI := Lib.hid (HF.out.step HBI.out)
              have hrd := rPoll_rd (HFI.out.rd 2 rfl)
              obtain ⟨x, bn, on, P1, m1, t1, hx, rfl, hbn, -, -, -, uf0, -, e0, e1, e2, e3, e4⟩ := rNode_get hrd.1 hlti
              have NX : Hid (Pl.nodeAt p (i : Int) = x) := Lib.hid (Pl.nodeAt_of (k := (i : Int)) (by rw [Int.toNat_natCast]; exact hx))
              have UF := Lib.hid uf0
              have f2 : (i : Int) < (p0 : Nat) := by omega
              have f3 : (0 : Int) ≤ (i : Nat) := by omega
              have f4 : ((i : Nat) : Int).toNat = i := by omega
              have hm1 : m1 ≤ maxLen := Nat.le_trans uf0.2.1 uf0.2.2.1
              unfold maxLen at hm1
              clear hrd hx uf0 hbn
              go_upto_region 28 with fail
              obtain ⟨gx, hgx⟩ : ∃ gx, U.heap.size = gx := ⟨_, rfl⟩
              obtain ⟨W4, hW4⟩ : ∃ W4, U.alloc (.cells #[.int .i64 x.Term, .int .i64 x.Voted, .int .i64 x.Age, .slice P1 m1 t1, .int .i64 x.Role] 42) = W4 := ⟨_, rfl⟩
              have HSR := Lib.hid (((Mm.SepF.start U).alloc' hgx 42 [.int .i64 x.Term, .int .i64 x.Voted, .int .i64 x.Age, .slice P1 m1 t1, .int .i64 x.Role]).atW hW4)
              rw [hW4, hgx]
              clear hW4 hgx e0 e1 e2 e3 e4
              have HB4 := Lib.hid HSR.out.bel0
              have g3 := HSR.out.cell (k := 3) 0 rfl rfl
              have g4 := HSR.out.cell (k := 4) 0 rfl rfl
              by_cases hr2 : x.Role = 2
              · have hmaj : mj ≤ m1 := by
                  have h := HV.out.two (i : Int) f3 (by have := HL0.out; omega) (by rw [NX.out]; exact hr2)
                  rw [NX.out, HL0.out, UF.out.1] at h
                  omega
                have q1 : (x.Role != 2) = false := by simp [hr2]
                have q2 : ¬ ((m1 : Nat) : Int) < (mj : Nat) := by omega
                go_wp2
                clear g3 g4
                go_loopg [138] m1 (fun gg i wr => ∃ j0 : Nat, m1 - j0 ≤ gg ∧ j0 ≤ m1 ∧ i = .int .i64 j0 ∧ Hid (Below W4.heap.size W4 wr))
                case atStart => exact ⟨0, Nat.le_refl _, Nat.zero_le _, rfl, Below.refl _ _⟩
                case round =>
                  obtain ⟨j, hgj, hj, rfl, HBJ⟩ := hrel
                  obtain ⟨U2, rfl⟩ : ∃ U2 : World, U2 = wr := ⟨_, rfl⟩
                  by_cases hltj : j < m1
                  · have HFJ := Lib.hid ((HFI.out.step HB4.out).step HBJ.out)
                    have hrd := rPoll_rd (HFJ.out.rd 2 rfl)
                    obtain ⟨h, bh, oh, hh, rfl, hbh, ih, h0⟩ := int_get (UF.out.keep (w' := U2) fun b hb => (HBJ.out.block b (Nat.lt_of_lt_of_le hb HB4.out.size)).trans (HB4.out.block b hb)) hltj
                    have hvo := HV.out.voters (i := h) f3 (by have := HL0.out; omega) (by rw [NX.out]; exact List.mem_of_getElem? hh)
                    rw [NX.out, HL0.out] at hvo
                    obtain ⟨hv0, hv1, hv2, hv3⟩ := hvo
                    obtain ⟨y, P2, m2, t2, hy, -, -, -, -, -, -, e0, e1, e2, e3, e4⟩ := rNode_get' hrd.1 (show h.toNat < p0 by omega)
                    have NY := Pl.nodeAt_of (k := h) hy
                    rw [NY] at hv2 hv3
                    have b0 := HFJ.out.cell (k := 0) 4 rfl rfl
                    have f5 : (j : Int) < (m1 : Nat) := by omega
                    have f6 : (0 : Int) ≤ (j : Nat) := by omega
                    have f7 : ((j : Nat) : Int).toNat = j := by omega
                    have HV3 := Lib.hid hv3
                    clear hrd hh ih hy NY hv3 hbh
                    go_upto_region 35 with fail
                    obtain ⟨gy, hgy⟩ : ∃ gy, U2.heap.size = gy := ⟨_, rfl⟩
                    obtain ⟨W6, hW6⟩ : ∃ W6, U2.alloc (.cells #[.int .i64 y.Term, .int .i64 y.Voted, .int .i64 y.Age, .slice P2 m2 t2, .int .i64 y.Role] 42) = W6 := ⟨_, rfl⟩
                    have HS6 := Lib.hid (((Mm.SepF.start U2).alloc' hgy 42 [.int .i64 y.Term, .int .i64 y.Voted, .int .i64 y.Age, .slice P2 m2 t2, .int .i64 y.Role]).atW hW6)
                    rw [hW6, hgy]
                    clear hW6 hgy e0 e1 e2 e3 e4 b0 h0
                    have HB6 := Lib.hid HS6.out.bel0
                    have g0 := below_some HB6.out (below_some HBJ.out (HSR.out.cell (k := 0) 0 rfl rfl))
                    have j0 := HS6.out.cell (k := 0) 0 rfl rfl
                    have j1 := HS6.out.cell (k := 1) 0 rfl rfl
                    have q3 : ¬ y.Term < x.Term := by omega
                    by_cases hte : y.Term = x.Term
                    · have hvv := HV3.out hte
                      have q4 : (y.Term == x.Term) = true := by simp [hte]
                      have q5 : (y.Voted != (i : Int)) = false := by simp [hvv]
                      go_wp2
                      go_roundg (m1 - (j + 1))
                      case measure => omega
                      case rel => exact ⟨j + 1, Nat.le_refl _, by omega, by go_num, below_step HBJ.out HB6.out⟩
                    · have q4 : (y.Term == x.Term) = false := by simp [hte]
                      go_wp2
                      go_roundg (m1 - (j + 1))
                      case measure => omega
                      case rel => exact ⟨j + 1, Nat.le_refl _, by omega, by go_num, below_step HBJ.out HB6.out⟩
                  · have f5 : ¬ (j : Int) < (m1 : Nat) := by omega
                    go_wp2
                    go_roundg (p0 - (i + 1))
                    case measure => omega
                    case rel => exact ⟨i + 1, Nat.le_refl _, by omega, by go_num, below_step HBI.out (below_step HB4.out HBJ.out)⟩
              · have q1 : (x.Role != 2) = true := by simp [hr2]
                go_wp2
                go_roundg (p0 - (i + 1))
                case measure => omega
                case rel => exact ⟨i + 1, Nat.le_refl _, by omega, by go_num, below_step HBI.out HB4.out⟩
            · have f2 : ¬ (i : Int) < (p0 : Nat) := by omega
              go_wp2
              go_ret
              exact ⟨rfl, below_step HF.out.bel HBI.out⟩
end Go.Proofs.Ytkhchfbpmmiopaa

/-
  The statement of FnLeaders: for every input the law returns true, and every argument reads afterwards as it read before. No conditions.
-/
namespace Go.Proofs.Ytkhchfbpmmiopaa.fnLeaders
open Go.ChangeShapes Go.WideShapes Go.ChangeAt Go.RowKit
open Go.ChangeMaps (open_string shut_string)
set_option linter.unusedVariables false

theorem own : ownKnob Try.prog.godebug = none := by kernel_rfl
theorem laidOut : laidOutB Try.prog = true := by kernel_rfl

set_option maxRecDepth 100000 in
theorem lifted (os : Os) (started : os.Started) (H : Type) (enc : TypeId × Value → H) :
    ReturnsInHanded {} Try.checked os 3 .any (Rows.fnLeadersSpec.pre6 enc Try.prog Try.f3 Rows.fnLeadersRow.domain false) (Rows.fnLeadersSpec.post enc Try.prog Try.f3 false true false false) := by
  refine returnsInHanded_of_change (C := Try.checked) own started (by kernel_rfl) Try.func3
    (ChangeSpec.witness6 (enc := enc) (C := Try.checked) false ⟨#[], #[.slice none 0 0], []⟩ 8 (by kernel_rfl) (by kernel_rfl) (by kernel_rfl) (by kernel_rfl)) ?_
  intro W base args ds gs before hval0 hW hcnd _
  have hval : ∀ (j : Nat) t v, Try.f3.params[j]? = some t → args[j]? = some v → Value.okWide Try.prog W .any base t v := hval0
  have hW' := hW
  obtain ⟨p, q, hA0, hV, rfl, hfz, hnd⟩ := hW
  have hA : DataW.TrodAll enc Try.prog W 0 (fun _ => true) true Try.f3.params.toList args.toList ds p := hA0
  rw [Try.params3] at hA hval
  obtain ⟨v0, vs0, d0, ds0, p0, q0, hargs, rfl, rfl, h0, r0⟩ := trodAll_cons hA
  obtain ⟨rfl, rfl, rfl⟩ := trodAll_nil r0
  obtain rfl : args = #[v0] := by cases args; simp_all
  obtain ⟨rfl, rfl⟩ := trodVars_none hV
  have k0 := h0
  have lt0 : ∀ x ∈ p0, x.block < W.heap.size := by obtain ⟨m, hm⟩ := k0; exact DataW.trod_lt m _ _ _ hm
  obtain ⟨A0, n0, c0, a0, rfl, w0⟩ := Mm.open_sl opens_u8S Try.underlying22 (hval 0 22 v0 rfl rfl) h0
  clear hA0 hval0
  refine (walk_FnLeaders A0 n0 c0 a0 W w0).mono fun e W' ⟨he, bel⟩ => ?_
  subst he
  exact ⟨_, rfl, _, _, _, [], _, [], hW', trodAll_mk1 (shut_bool Try.underlying4 _), (trodAll_cons_mk (Below.trod laidOut (by kernel_rfl) (of_decide_eq_true (by kernel_rfl)) k0 bel lt0) trodAll_mk0), rfl, bel.frame _, fun h => by cases h⟩

theorem over : Rows.fnLeadersRow.holds Try.pinned (OpenSpec.ofChange Rows.fnLeadersSpec) :=
  OpenClaim.holds_of_wide 3 Try.f3 rfl rfl rfl rfl rfl rfl rfl ⟨rfl, rfl, rfl, rfl, rfl⟩ rfl rfl rfl rfl rfl (by kernel_rfl) Try.func3 (by kernel_rfl)
    (of_decide_eq_true (by kernel_rfl)) (by unfold Func.isWrapper; first | (rw [if_pos (by decide +kernel)]; kernel_rfl) | (rw [if_neg (by decide +kernel)]; exact ⟨rfl, rfl⟩))
    (fun os started H enc _ => lifted os started H enc)

theorem proved : Rows.FnLeadersSaid := over
#print axioms proved
end Go.Proofs.Ytkhchfbpmmiopaa.fnLeaders
