/-
  Joined texts, in build order: LwFnCertain, LawFnCertain. Each part says what it proves; no conditions beyond those that a part names.
-/
import Derived.Test.YtihendiakgfpcaaZ11
import Derived.Deep.DeepCutAuto
import Derived.Test.YtihendiakgfpcaaRows
import Derived.WalkKit
import Derived.ProofKit
import Derived.OpenShut
import Derived.ShutString
import Derived.ChangeOld
import Derived.Below
/-
  The walk of the law on what is certain (chapter 9). No conditions.
-/
namespace Go.Proofs.Ytihendiakgfpcaa
open Go.RowKit
attribute [local go_sem] und_cell cha_cell World.cell?_alloc_some
theorem rRepl_rd {w : World} {B : Nat} {x : Repl} {a0 a1 a2 a3 : Option Addr} {n0 k0 n1 k1 n2 k2 n3 k3 : Nat} (h : rRepl.at_ w B x [.slice a0 n0 k0, .slice a1 n1 k1, .int .i64 x.Leader, .int .i64 x.Epoch, .slice a2 n2 k2, .slice a3 n3 k3]) : Mm.SlAt rEntryS w B x.Logs a0 n0 k0 ∧ Mm.SlAt Mm.int w B x.InSync a2 n2 k2 ∧ Mm.SlAt rEntry w B x.Certain a3 n3 k3 := by
  obtain ⟨A0, m0, c0, A1, m1, c1, A2, m2, c2, A3, m3, c3, hcs, r0, r1, i2, i3, r2, r3⟩ := rRepl_at h
  simp only [List.cons.injEq, Value.slice.injEq] at hcs
  obtain ⟨⟨rfl, rfl, rfl⟩, ⟨rfl, rfl, rfl⟩, -, -, ⟨rfl, rfl, rfl⟩, ⟨rfl, rfl, rfl⟩, -⟩ := hcs
  exact ⟨r0, r2, r3⟩
theorem Pl.RW.certOk {r : Repl} (h : RW r) : LogOk r.Certain := (h.ok h.lead.1 h.lead.2).pre (h.cert _ h.leadIn)
theorem Pl.playRepl_true {m : Int} {l : List ReplStep} {r : Repl} {bs : List Bool} (h : Pl.playRepl m l = (r, bs, true)) : (1 ≤ m ∧ m ≤ 5) ∧ l.length ≤ 120 ∧ r = (Pl.playR (Pl.newRe m.toNat) l).1 ∧ Pl.RInv r := by
  unfold Pl.playRepl at h
  split at h
  · rename_i hh
    injection h with h1 h2
    have hb := Pl.isIn_iff.1 hh.1
    have hi := (Pl.playR_inv _ (Pl.newRe_inv (n := m.toNat) (by omega) (by omega)) _ l rfl).1
    rw [h1] at hi
    exact ⟨hb, hh.2, h1.symm, hi⟩
  · injection h with _ h
    injection h with _ h
    cases h
theorem Pl.playRepl_early {m : Int} {l : List ReplStep} (hm : 1 ≤ m ∧ m ≤ 5) (hl : l.length ≤ 120) (k : Nat) : ∃ re be, Pl.playRepl m (l.take k) = (re, be, true) ∧ re = (Pl.playR (Pl.newRe m.toNat) (l.take k)).1 ∧ Pl.RInv re ∧ re.Certain <+: (Pl.playR (Pl.newRe m.toNat) l).1.Certain := by
  have hinv := Pl.newRe_inv (n := m.toNat) (by omega) (by omega)
  refine ⟨_, _, if_pos ⟨Pl.isIn_iff.2 hm, by rw [List.length_take]; omega⟩, rfl, (Pl.playR_inv _ hinv _ _ rfl).1, ?_⟩
  have h := Pl.playR_pre _ hinv (l.drop k) (l.take k)
  rw [List.take_append_drop] at h
  exact h
set_option maxRecDepth 100000 in
set_option maxHeartbeats 8000000 in
theorem walk_FnCertain (A A' : Option Addr) (n c n' c' : Nat) (code more : List Int) (w : World) (hc : Mm.SlAt Mm.u8 w w.heap.size code A n c) (hm : Mm.SlAt Mm.u8 w w.heap.size more A' n' c') :
    Calls Try.prog 3 #[.slice A n c, .slice A' n' c'] w fun e w' => e = .returned (.bool true) ∧ Below w.heap.size w w' := by
  have HC := Lib.hid hc
  have HM := Lib.hid hm
  have hlc : n ≤ maxLen := Nat.le_trans hc.2.1 hc.2.2.1
  have hlm : n' ≤ maxLen := Nat.le_trans hm.2.1 hm.2.2.1
  unfold maxLen at hlc hlm
  clear hc hm
  by_cases hbig : (1048576 : Int) < wrap64 ((n : Int) + (n' : Int))
  · go_enter Try.func3, Try.ntmps3
    go_wp2
    go_ret
    exact ⟨rfl, Below.refl _ _⟩
  · go_enter Try.func3, Try.ntmps3
    go_upto_region 4 with (go_at_call 7; refine (DrawPlayRepl_c code _ _ _ _ w.heap.size HC.out (Nat.le_refl _)).mono ?_; rintro e w1 ⟨l, A1, n1, c1, m, rfl, hm1, hm3, hl120, hsl, hb1⟩; (have HF1 := Lib.hid ((((Mm.Facts.nil w).put (f := Mm.fsl Mm.u8 more A' n' c') HM.out).step hb1).put (f := Mm.fsl rReplStep l A1 n1 c1) hsl)); clear hsl hb1)
    clear hbig
    obtain ⟨r, bs, ok, hr⟩ : ∃ r bs ok, Pl.playRepl m l = (r, bs, ok) := ⟨_, _, _, rfl⟩
    have HR := Lib.hid hr
    clear hr
    have CP := implPlayRepl_c m l A1 n1 c1 w1 _ (HF1.out.sl 1 rfl) (Nat.le_refl _)
    rw [HR.out] at CP
    go_upto_region 5 with (go_at_call 8; (with_reducible refine CP.mono ?_); clear CP; rintro e w2 ⟨cs, A2, n2, c2, fp0, fp1, rfl, hs2⟩; obtain ⟨a0, p0, k0, a1, p1, k1, a2, p2, k2, a3, p3, k3, rfl⟩ := own_formR (hs2.at_ 0 rfl); (have HF2 := Lib.hid ((((HF1.out.step hs2.bel0).put (f := Mm.frd rRepl r _) (hs2.rd 0 rfl)).put (f := Mm.fsl Mm.bool bs A2 n2 c2) ((hs2.sl 1 rfl).weak (hs2.sl 1 rfl).olt)).var rfl 31 [.slice a0 p0 k0, .slice a1 p1 k1, .int .i64 r.Leader, .int .i64 r.Epoch, .slice a2 p2 k2, .slice a3 p3 k3])); clear hs2)
    obtain ⟨g7, hg7⟩ : ∃ g, w2.heap.size = g := ⟨_, rfl⟩
    obtain ⟨W2, hW2⟩ : ∃ W2, w2.alloc (.cells #[.slice a0 p0 k0, .slice a1 p1 k1, .int .i64 r.Leader, .int .i64 r.Epoch, .slice a2 p2 k2, .slice a3 p3 k3] 31) = W2 := ⟨_, rfl⟩
    rw [List.toArray, hg7, hW2] at HF2
    rw [hg7, hW2]
    clear hg7 hW2
    have CQ := specPlayRepl_c m l A1 n1 c1 W2 _ (HF2.out.sl 1 rfl) (Nat.le_refl _)
    rw [HR.out] at CQ
    go_upto_region 6 with (go_at_call 9; (with_reducible refine CQ.mono ?_); clear CQ; rintro e w3 ⟨cs, A3, n3, c3, fp2, fp3, rfl, hs3⟩; obtain ⟨e0, q0, j0, e1, q1, j1, e2, q2, j2, e3, q3, j3, rfl⟩ := own_formR (hs3.at_ 0 rfl); (have HF3 := Lib.hid ((((HF2.out.step hs3.bel0).put (f := Mm.frd rRepl r _) (hs3.rd 0 rfl)).put (f := Mm.fsl Mm.bool bs A3 n3 c3) ((hs3.sl 1 rfl).weak (hs3.sl 1 rfl).olt)).var rfl 31 [.slice e0 q0 j0, .slice e1 q1 j1, .int .i64 r.Leader, .int .i64 r.Epoch, .slice e2 q2 j2, .slice e3 q3 j3])); clear hs3)
    obtain ⟨g10, hg10⟩ : ∃ g, w3.heap.size = g := ⟨_, rfl⟩
    obtain ⟨W3, hW3⟩ : ∃ W3, w3.alloc (.cells #[.slice e0 q0 j0, .slice e1 q1 j1, .int .i64 r.Leader, .int .i64 r.Epoch, .slice e2 q2 j2, .slice e3 q3 j3] 31) = W3 := ⟨_, rfl⟩
    rw [List.toArray, hg10, hW3] at HF3
    rw [hg10, hW3]
    clear hg10 hW3 HF2 HF1
    obtain rfl : n2 = n3 := (HF3.out.sl 3 rfl).1.symm.trans (HF3.out.sl 6 rfl).1
    have HF := HF3
    clear HF3
    cases ok with
    | false =>
      go_wp2_with first
        | (go_at_call 10; (with_reducible refine (sameBools_c bs A2 A3 n2 c2 c3 W3 _ (HF.out.sl 3 rfl) (HF.out.sl 6 rfl) (Nat.le_refl _)).mono ?_); rintro e w4 ⟨rfl, hb4⟩; (replace HF := Lib.hid (HF.out.step hb4)); clear hb4; (have b0 := HF.out.cell (k := 0) 4 rfl rfl); (have b1 := HF.out.cell (k := 1) 4 rfl rfl); (have b2 := HF.out.cell (k := 2) 4 rfl rfl); (have b3 := HF.out.cell (k := 3) 4 rfl rfl); (have b4 := HF.out.cell (k := 4) 4 rfl rfl); (have b5 := HF.out.cell (k := 5) 4 rfl rfl); (have d0 := HF.out.cell (k := 0) 7 rfl rfl); (have d1 := HF.out.cell (k := 1) 7 rfl rfl); (have d2 := HF.out.cell (k := 2) 7 rfl rfl); (have d3 := HF.out.cell (k := 3) 7 rfl rfl); (have d4 := HF.out.cell (k := 4) 7 rfl rfl); (have d5 := HF.out.cell (k := 5) 7 rfl rfl))
        | (go_at_call 11; (with_reducible refine (sameRepls_c r _ _ w4 _ (HF.out.rd 2 rfl) (HF.out.rd 5 rfl) (Nat.le_refl _)).mono ?_); rintro e w5 ⟨rfl, hb5⟩; (replace HF := Lib.hid (HF.out.step hb5)); clear hb5; (clear b0 b1 b2 b3 b4 b5); (clear d0 d1 d2 d3 d4 d5))
      go_ret
      exact ⟨rfl, HF.out.bel⟩
    | true =>
      have HG := Lib.hid (Pl.playRepl_true HR.out)
      have hl1 := HG.out.2.1
      have hln1 := (HF.out.sl 1 rfl).1
      have hn1 : n1 ≤ 120 := by omega
      have HRW := Lib.hid HG.out.2.2.2.rw
      go_upto_region 9 with first
        | (go_at_call 10; (with_reducible refine (sameBools_c bs A2 A3 n2 c2 c3 W3 _ (HF.out.sl 3 rfl) (HF.out.sl 6 rfl) (Nat.le_refl _)).mono ?_); rintro e w4 ⟨rfl, hb4⟩; (replace HF := Lib.hid (HF.out.step hb4)); clear hb4; (have b0 := HF.out.cell (k := 0) 4 rfl rfl); (have b1 := HF.out.cell (k := 1) 4 rfl rfl); (have b2 := HF.out.cell (k := 2) 4 rfl rfl); (have b3 := HF.out.cell (k := 3) 4 rfl rfl); (have b4 := HF.out.cell (k := 4) 4 rfl rfl); (have b5 := HF.out.cell (k := 5) 4 rfl rfl); (have d0 := HF.out.cell (k := 0) 7 rfl rfl); (have d1 := HF.out.cell (k := 1) 7 rfl rfl); (have d2 := HF.out.cell (k := 2) 7 rfl rfl); (have d3 := HF.out.cell (k := 3) 7 rfl rfl); (have d4 := HF.out.cell (k := 4) 7 rfl rfl); (have d5 := HF.out.cell (k := 5) 7 rfl rfl))
        | (go_at_call 11; (with_reducible refine (sameRepls_c r _ _ w4 _ (HF.out.rd 2 rfl) (HF.out.rd 5 rfl) (Nat.le_refl _)).mono ?_); rintro e w5 ⟨rfl, hb5⟩; (replace HF := Lib.hid (HF.out.step hb5)); clear hb5; (clear b0 b1 b2 b3 b4 b5); (clear d0 d1 d2 d3 d4 d5); (have b0 := HF.out.cell (k := 0) 4 rfl rfl); (have b1 := HF.out.cell (k := 1) 4 rfl rfl); (have b2 := HF.out.cell (k := 2) 4 rfl rfl); (have b3 := HF.out.cell (k := 3) 4 rfl rfl); (have b4 := HF.out.cell (k := 4) 4 rfl rfl); (have b5 := HF.out.cell (k := 5) 4 rfl rfl))
      have hrd := rRepl_rd (HF.out.rd 2 rfl)
      have HL0 : Hid (r.Logs.length = p0) := hrd.1.1
      have HL2 : Hid (r.InSync.length = p2) := hrd.2.1.1
      have HL3 : Hid (r.Certain.length = p3) := hrd.2.2.1
      have hp05 : p0 ≤ 5 := by have := HRW.out.n5; have := HL0.out; omega
      have hp25 : p2 ≤ 5 := by have := HRW.out.sync5; have := HL2.out; omega
      clear hrd
      have CL := implCertainLength_c r _ w5 _ (HF.out.rd 2 rfl) (Nat.le_refl _) HRW.out
      rw [HG.out.2.2.2.cert, HL3.out] at CL
      go_upto_region 10 with (go_at_call 12; (with_reducible refine CL.mono ?_); clear CL; rintro e w6 ⟨rfl, hb6⟩; (replace HF := Lib.hid (HF.out.step hb6)); clear hb6; (clear b0 b1 b2 b3 b4 b5); (have b0 := HF.out.cell (k := 0) 4 rfl rfl); (have b1 := HF.out.cell (k := 1) 4 rfl rfl); (have b2 := HF.out.cell (k := 2) 4 rfl rfl); (have b3 := HF.out.cell (k := 3) 4 rfl rfl); (have b4 := HF.out.cell (k := 4) 4 rfl rfl); (have b5 := HF.out.cell (k := 5) 4 rfl rfl))
      have CG := implGoodRepl_c r _ w6 _ (HF.out.rd 2 rfl) (Nat.le_refl _)
      rw [Pl.replOk_iff.2 HRW.out] at CG
      go_wp2_with (go_at_call 13; (with_reducible refine CG.mono ?_); clear CG; rintro e w7 ⟨rfl, hb7⟩; (replace HF := Lib.hid (HF.out.step hb7)); clear hb7; (clear b0 b1 b2 b3 b4 b5); (have b0 := HF.out.cell (k := 0) 4 rfl rfl); (have b1 := HF.out.cell (k := 1) 4 rfl rfl); (have b2 := HF.out.cell (k := 2) 4 rfl rfl); (have b3 := HF.out.cell (k := 3) 4 rfl rfl); (have b4 := HF.out.cell (k := 4) 4 rfl rfl); (have b5 := HF.out.cell (k := 5) 4 rfl rfl))
      clear b0 b1 b2 b3 b4 b5
      go_loopg [92] p2 (fun gg i wr => ∃ k : Nat, p2 - k ≤ gg ∧ k ≤ p2 ∧ i = .int .i64 k ∧ Hid (Below w7.heap.size w7 wr))
      case atStart => exact ⟨0, Nat.le_refl _, Nat.zero_le _, rfl, Below.refl _ _⟩
      case round =>
        obtain ⟨k, hgk, hk, rfl, HB⟩ := hrel
        obtain ⟨W, rfl⟩ : ∃ W : World, W = wr := ⟨_, rfl⟩
        have HF0 := HF
        clear HF
        have HF := Lib.hid (HF0.out.step HB.out)
        by_cases hlt : k < p2
        · skip
          have b0 := HF.out.cell (k := 0) 4 rfl rfl
          have b1 := HF.out.cell (k := 1) 4 rfl rfl
          have b2 := HF.out.cell (k := 2) 4 rfl rfl
          have b3 := HF.out.cell (k := 3) 4 rfl rfl
          have b4 := HF.out.cell (k := 4) 4 rfl rfl
          have b5 := HF.out.cell (k := 5) 4 rfl rfl
          have hrd := rRepl_rd (HF.out.rd 2 rfl)
          obtain ⟨x, b, off, hx, rfl, hb, ix, x0⟩ := int_get hrd.2.1 hlt
          have hxm := List.mem_of_getElem? hx
          obtain ⟨xx0, xx1⟩ := HRW.out.syncIn x hxm
          have xx2 : x < (p0 : Nat) := by have := HL0.out; omega
          obtain ⟨b9, off9, AK, nK, cK, rfl, hb9, hlk, ek⟩ := log_at hrd.1 xx0 xx2
          have CPA := fun z : Und W => und_call z (implPartAt_c (Pl.logAt r x) r.Certain AK nK cK a3 p3 k3 (und W z) W.heap.size (hlk.und (Nat.le_refl _) z) (hrd.2.2.und (Nat.le_refl _) z) (und_size z) (HRW.out.ok xx0 xx1) HRW.out.certOk)
          rw [Pl.part_full.2 (HRW.out.cert x hxm), HL3.out] at CPA
          have f1 : (k : Int) < (p2 : Nat) := by omega
          clear hrd hx hxm hlk ix
          go_wp2
          refine wp_region_und (by kernel_rfl) (by kernel_rfl) ?_
          repeat (go_big_quiet_step ((first | (go_at_call 14; with_reducible exact CPA _))))
          refine wpQuiet_nil ?_
          intro X hX
          clear CPA
          have HF2 := Lib.hid (HF.out.step hX)
          clear b0 b1 b2 b3 b4 b5
          have b5 := HF2.out.cell (k := 5) 4 rfl rfl
          go_wp2
          go_roundg (p2 - (k + 1))
          case measure => omega
          case rel => exact ⟨k + 1, Nat.le_refl _, by omega, by go_num, below_step HB.out hX⟩
        · have f1 : ¬ (k : Int) < (p2 : Nat) := by omega
          clear HF0
          have b0 := HF.out.cell (k := 0) 4 rfl rfl
          have b1 := HF.out.cell (k := 1) 4 rfl rfl
          have b2 := HF.out.cell (k := 2) 4 rfl rfl
          have b3 := HF.out.cell (k := 3) 4 rfl rfl
          have b4 := HF.out.cell (k := 4) 4 rfl rfl
          have b5 := HF.out.cell (k := 5) 4 rfl rfl
          go_wp2
          clear b0 b1 b2 b3 b4 b5
          go_loopg [120] p0 (fun gg i wr => ∃ k : Nat, p0 - k ≤ gg ∧ k ≤ p0 ∧ i = .int .i64 k ∧ Hid (Below W.heap.size W wr))
          case atStart => exact ⟨0, Nat.le_refl _, Nat.zero_le _, rfl, Below.refl _ _⟩
          case round =>
            obtain ⟨i, hgi, hi, rfl, HBI⟩ := hrel
            obtain ⟨V, rfl⟩ : ∃ V : World, V = wr := ⟨_, rfl⟩
            have HF0 := HF
            clear HF
            have HF := Lib.hid (HF0.out.step HBI.out)
            by_cases hlti : i < p0
            · skip
              have b0 := HF.out.cell (k := 0) 4 rfl rfl
              have b1 := HF.out.cell (k := 1) 4 rfl rfl
              have b2 := HF.out.cell (k := 2) 4 rfl rfl
              have b3 := HF.out.cell (k := 3) 4 rfl rfl
              have b4 := HF.out.cell (k := 4) 4 rfl rfl
              have b5 := HF.out.cell (k := 5) 4 rfl rfl
              have f2 : (i : Int) < (p0 : Nat) := by omega
              go_wp2
              clear b0 b1 b2 b3 b4 b5
              go_loopg [126] p0 (fun gg i wr => ∃ k : Nat, p0 - k ≤ gg ∧ k ≤ p0 ∧ i = .int .i64 k ∧ Hid (Below V.heap.size V wr))
              case atStart => exact ⟨0, Nat.le_refl _, Nat.zero_le _, rfl, Below.refl _ _⟩
              case round =>
                obtain ⟨j, hgj, hj, rfl, HBJ⟩ := hrel
                obtain ⟨U, rfl⟩ : ∃ U : World, U = wr := ⟨_, rfl⟩
                by_cases hltj : j < p0
                · have HFJ := Lib.hid (HF.out.step HBJ.out)
                  have b0 := HFJ.out.cell (k := 0) 4 rfl rfl
                  have hrd := rRepl_rd (HFJ.out.rd 2 rfl)
                  obtain ⟨x, bx, ox, AX, nX, cX, hx, rfl, hbx, hrx, x0⟩ := rEntryS_get hrd.1 hlti
                  obtain ⟨y, AY, nY, cY, hy, hby, hry, y0⟩ := rEntryS_get' hrd.1 hltj
                  have hmt := HG.out.2.2.2.match_ hx hy
                  have CM := fun z : Und U => und_call z (implMatchLogs_c x y AX nX cX AY nY cY (und U z) U.heap.size (hrx.und (Nat.le_refl _) z) (hry.und (Nat.le_refl _) z) (und_size z) (HRW.out.logs _ _ hx) (HRW.out.logs _ _ hy) hmt.1 hmt.2)
                  have f3 : (j : Int) < (p0 : Nat) := by omega
                  have f4 : (0 : Int) ≤ (i : Nat) := by omega
                  have f5 : (0 : Int) ≤ (j : Nat) := by omega
                  have f6 : ((i : Nat) : Int).toNat = i := by omega
                  have f7 : ((j : Nat) : Int).toNat = j := by omega
                  clear hrd hx hy hrx hry hmt
                  go_wp2
                  refine wp_region_und (by kernel_rfl) (by kernel_rfl) ?_
                  repeat (go_big_quiet_step ((first | (go_at_call 15; with_reducible exact CM _))))
                  refine wpQuiet_nil ?_
                  intro X hX
                  clear CM b0
                  go_wp2
                  go_roundg (p0 - (j + 1))
                  case measure => omega
                  case rel => exact ⟨j + 1, Nat.le_refl _, by omega, by go_num, below_step HBJ.out hX⟩
                · have f3 : ¬ (j : Int) < (p0 : Nat) := by omega
                  go_wp2
                  go_roundg (p0 - (i + 1))
                  case measure => omega
                  case rel => exact ⟨i + 1, Nat.le_refl _, by omega, by go_num, below_step HBI.out HBJ.out⟩
            · have f2 : ¬ (i : Int) < (p0 : Nat) := by omega
              clear HF0
              have g0 : (n1 : Int) + 1 ≠ 0 := by omega
              go_upto_region 31 with (go_at_call 16; refine (numberOf_c more _ _ _ _ V.heap.size (HF.out.sl 0 rfl)).mono ?_; rintro e w8 ⟨q, rfl, q0', q1', rfl⟩)
              obtain ⟨k, hk⟩ : ∃ k : Nat, q % ((n1 : Int) + 1) = k := ⟨(q % ((n1 : Int) + 1)).toNat, by have := Int.emod_nonneg q g0; omega⟩
              rw [hk]
              have hkl : k ≤ n1 := by have := Int.emod_lt_of_pos q (show (0 : Int) < (n1 : Int) + 1 by omega); omega
              clear hk g0
              have hcap := (HF.out.sl 1 rfl).2.1
              have u1 : ((k : Nat) : Int) ≤ (c1 : Nat) := by omega
              have u3 : ((k : Nat) : Int) ≤ (n1 : Nat) := by omega
              have u4 : (0 : Int) ≤ (k : Nat) := by omega
              have u5 : ((k : Nat) : Int).toNat = k := by omega
              have u6 : k ≤ c1 := by omega
              obtain ⟨re, be, hre, -, hri, hpre⟩ := Pl.playRepl_early HG.out.1 hl1 k
              rw [← HG.out.2.2.1] at hpre
              have HRE := Lib.hid (And.intro hri hpre)
              have CP := implPlayRepl_c m (l.take k) A1 k c1 w8 _ ((HF.out.sl 1 rfl).take hkl) (Nat.le_refl _)
              rw [hre] at CP
              clear hri hpre hre hcap
              go_upto_region 32 with (go_at_call 8; (with_reducible refine CP.mono ?_); clear CP; rintro e w9 ⟨cs, A9, n9, c9, fp0, fp1, rfl, hs2⟩; obtain ⟨z0, s0, m0, z1, s1, m1, z2, s2, m2, z3, s3, m3, rfl⟩ := own_formR (hs2.at_ 0 rfl); (have HF2 := Lib.hid (((HF.out.step hs2.bel0).put (f := Mm.frd rRepl re _) (hs2.rd 0 rfl)).var rfl 31 [.slice z0 s0 m0, .slice z1 s1 m1, .int .i64 re.Leader, .int .i64 re.Epoch, .slice z2 s2 m2, .slice z3 s3 m3])); clear hs2)
              clear HF
              obtain ⟨g24, hg24⟩ : ∃ g, w9.heap.size = g := ⟨_, rfl⟩
              obtain ⟨W9, hW9⟩ : ∃ W9, w9.alloc (.cells #[.slice z0 s0 m0, .slice z1 s1 m1, .int .i64 re.Leader, .int .i64 re.Epoch, .slice z2 s2 m2, .slice z3 s3 m3] 31) = W9 := ⟨_, rfl⟩
              rw [List.toArray, hg24, hW9] at HF2
              rw [hg24, hW9]
              clear hg24 hW9
              have b5 := HF2.out.cell (k := 5) 4 rfl rfl
              have x5 := HF2.out.cell (k := 5) 9 rfl rfl
              have hrd := rRepl_rd (HF2.out.rd 2 rfl)
              have hre := rRepl_rd (HF2.out.rd 8 rfl)
              have CPA := implPartAt_c re.Certain r.Certain z3 s3 m3 a3 p3 k3 W9 _ hre.2.2 hrd.2.2 (Nat.le_refl _) HRE.out.1.rw.certOk HRW.out.certOk
              rw [Pl.part_comm, Pl.part_full.2 HRE.out.2, hre.2.2.1] at CPA
              clear hrd hre
              go_wp2_with (go_at_call 14; (with_reducible refine CPA.mono ?_); clear CPA; rintro e w10 ⟨rfl, hb10⟩; clear b5 x5; (have HF3 := Lib.hid (HF2.out.step hb10)); (have x5 := HF3.out.cell (k := 5) 9 rfl rfl); clear hb10)
              go_ret
              exact ⟨rfl, HF3.out.bel⟩
end Go.Proofs.Ytihendiakgfpcaa

/-
  The statement of FnCertain: for every input the law returns true, and every argument reads afterwards as it read before. No conditions.
-/
namespace Go.Proofs.Ytihendiakgfpcaa.fnCertain
open Go.ChangeShapes Go.WideShapes Go.ChangeAt Go.RowKit
open Go.ChangeMaps (open_string shut_string)
set_option linter.unusedVariables false

theorem own : ownKnob Try.prog.godebug = none := by kernel_rfl
theorem laidOut : laidOutB Try.prog = true := by kernel_rfl

set_option maxRecDepth 100000 in
theorem lifted (os : Os) (started : os.Started) (H : Type) (enc : TypeId × Value → H) :
    ReturnsInHanded {} Try.checked os 3 .any (Rows.fnCertainSpec.pre6 enc Try.prog Try.f3 Rows.fnCertainRow.domain false) (Rows.fnCertainSpec.post enc Try.prog Try.f3 false true false false) := by
  refine returnsInHanded_of_change (C := Try.checked) own started (by kernel_rfl) Try.func3
    (ChangeSpec.witness6 (enc := enc) (C := Try.checked) false ⟨#[], #[.slice none 0 0, .slice none 0 0], []⟩ 8 (by kernel_rfl) (by kernel_rfl) (by kernel_rfl) (by kernel_rfl)) ?_
  intro W base args ds gs before hval0 hW hcnd _
  have hval : ∀ (j : Nat) t v, Try.f3.params[j]? = some t → args[j]? = some v → Value.okWide Try.prog W .any base t v := hval0
  have hW' := hW
  obtain ⟨p, q, hA0, hV, rfl, hfz, hnd⟩ := hW
  have hA : DataW.TrodAll enc Try.prog W 0 (fun _ => true) true Try.f3.params.toList args.toList ds p := hA0
  rw [Try.params3] at hA hval
  obtain ⟨v0, vs0, d0, ds0, p0, q0, hargs, rfl, rfl, h0, r0⟩ := trodAll_cons hA
  obtain ⟨v1, vs1, d1, ds1, p1, q1, rfl, rfl, rfl, h1, r1⟩ := trodAll_cons r0
  obtain ⟨rfl, rfl, rfl⟩ := trodAll_nil r1
  obtain rfl : args = #[v0, v1] := by cases args; simp_all
  obtain ⟨rfl, rfl⟩ := trodVars_none hV
  have k0 := h0
  have lt0 : ∀ x ∈ p0, x.block < W.heap.size := by obtain ⟨m, hm⟩ := k0; exact DataW.trod_lt m _ _ _ hm
  have k1 := h1
  have lt1 : ∀ x ∈ p1, x.block < W.heap.size := by obtain ⟨m, hm⟩ := k1; exact DataW.trod_lt m _ _ _ hm
  obtain ⟨A0, n0, c0, a0, rfl, w0⟩ := Mm.open_sl opens_u8S Try.underlying22 (hval 0 22 v0 rfl rfl) h0
  obtain ⟨A1, n1, c1, a1, rfl, w1⟩ := Mm.open_sl opens_u8S Try.underlying22 (hval 1 22 v1 rfl rfl) h1
  clear hA0 hval0
  refine (walk_FnCertain A0 A1 n0 c0 n1 c1 a0 a1 W w0 w1).mono fun e W' ⟨he, bel⟩ => ?_
  subst he
  exact ⟨_, rfl, _, _, _, [], _, [], hW', trodAll_mk1 (shut_bool Try.underlying4 _), (trodAll_cons_mk (Below.trod laidOut (by kernel_rfl) (of_decide_eq_true (by kernel_rfl)) k0 bel lt0) (trodAll_cons_mk (Below.trod laidOut (by kernel_rfl) (of_decide_eq_true (by kernel_rfl)) k1 bel lt1) trodAll_mk0)), rfl, bel.frame _, fun h => by cases h⟩

theorem over : Rows.fnCertainRow.holds Try.pinned (OpenSpec.ofChange Rows.fnCertainSpec) :=
  OpenClaim.holds_of_wide 3 Try.f3 rfl rfl rfl rfl rfl rfl rfl ⟨rfl, rfl, rfl, rfl, rfl⟩ rfl rfl rfl rfl rfl (by kernel_rfl) Try.func3 (by kernel_rfl)
    (of_decide_eq_true (by kernel_rfl)) (by unfold Func.isWrapper; first | (rw [if_pos (by decide +kernel)]; kernel_rfl) | (rw [if_neg (by decide +kernel)]; exact ⟨rfl, rfl⟩))
    (fun os started H enc _ => lifted os started H enc)

theorem proved : Rows.FnCertainSaid := over
#print axioms proved
end Go.Proofs.Ytihendiakgfpcaa.fnCertain
