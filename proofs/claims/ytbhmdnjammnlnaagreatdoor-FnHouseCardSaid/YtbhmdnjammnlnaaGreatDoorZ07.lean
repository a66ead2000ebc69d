/-
  Joined texts, in build order: Ka, Kb, Jv, Jx, Jz, M0, M1, Jy, M2, M3, M4. Each part says what it proves; no conditions beyond those that a part names.
-/
import Derived.Test.YtbhmdnjammnlnaaGreatDoorZ06
import Derived.Deep.LoopGhost
set_option linter.unusedVariables false
set_option linter.unusedSimpArgs false
namespace Go.Proofs.YtbhmdnjammnlnaaGreatDoor
open Go.RowKit
attribute [local go_sem] und_cell cha_cell World.cell?_alloc_some
def TakeR (h : Head) (x : Say) (fp : List Nat) (w : World) (e : Ending) (w' : World) : Prop :=
  ∃ A' m' d' fp', e = .returned (.tuple #[.agg #[.slice A' m' d', .int .i64 (h.Offset + 1)], .int .i64 (Pl.takeS h x).2]) ∧ Mm.SepF fp w w' [Mm.tsl rRow 139 (Pl.takeS h x).1.Rows (.slice A' m' d') fp']
theorem Mm.oneSmp {w : World} {g : Nat} {x : Sample} (hb : Mm.Blk w g 124 [.int .i64 x.At, .int .i64 x.Value]) (hi : Mm.I64 x.At ∧ Mm.I64 x.Value) : Mm.SlOwn smp 124 w [x] (.slice (some ⟨g, 0, none⟩) 1 1) [g] := by
  refine ⟨[([.int .i64 x.At, .int .i64 x.Value], [])], ⟨rfl, fun i a b ha hb => ?_⟩, ?_, by simp [Value.ownBlock]⟩
  · cases i with
    | zero => simp at ha hb; subst ha; subst hb; exact smp_own_mk hi
    | succ i => simp at ha
  · exact ⟨rfl, .inr ⟨g, 1, _, rfl, Nat.zero_le _, hb, Nat.le_refl _, by unfold maxLen; omega, rfl, rfl⟩⟩
set_option maxRecDepth 100000 in
set_option maxHeartbeats 4000000 in
theorem l13Take_c (h : Head) (x : Say) (A : Option Addr) (m d : Nat) (fp : List Nat) (w : World) (hs : Mm.SlOwn rRow 139 w h.Rows (.slice A m d) fp) (hnd : fp.Nodup) (hw : Pl.HW h) (off : 0 ≤ h.Offset ∧ h.Offset ≤ 1000000) (nm : x.Name.size ≤ maxLen) (ia : Mm.I64 x.At) (iv : Mm.I64 x.Value) :
    Calls Tryz.prog 128 #[.agg #[.slice A m d, .int .i64 h.Offset], .agg #[.string x.Name, .int .i64 x.At, .int .i64 x.Value]] w (TakeR h x fp w) := by
  have HML : Hid (m = h.Rows.length) := by obtain ⟨_, _, _, hv, q1, _⟩ := hs.form; injection hv with _ q2 _; exact q2.trans q1
  have HW := Lib.hid hw
  have hm8 : m ≤ 8 := by rw [HML.out]; exact hw.len
  have hf0 := off.1
  have hf1 := off.2
  have HI := Lib.hid (show Mm.I64 x.At ∧ Mm.I64 x.Value from ⟨ia, iv⟩)
  have HNM := Lib.hid nm
  obtain ⟨o1, ho1⟩ : ∃ o1, h.Offset + 1 = o1 := ⟨_, rfl⟩
  have f1 : IntKind.i64.wrap (h.Offset + 1) = o1 := by rw [IntWalk.i64_in _ (by omega)]; exact ho1
  have HO1 := Lib.hid ho1
  obtain ⟨p, hp⟩ : ∃ p, Pl.rpos x.Name h.Rows = p := ⟨_, rfl⟩
  have HP := Lib.hid hp
  have hpm : p ≤ m := by rw [HML.out, ← hp]; exact Pl.rpos_le _ _
  have HS0 : Mm.SepF fp w w [Mm.tsl rRow 139 h.Rows (.slice A m d) fp] := Mm.SepF.one (Mm.tsl rRow 139 h.Rows (.slice A m d) fp) w hs hnd
  obtain ⟨gh, hgh⟩ : ∃ g, w.heap.size = g := ⟨_, rfl⟩
  obtain ⟨gx, hgx⟩ : ∃ g, gh + 1 = g := ⟨_, rfl⟩
  obtain ⟨gr, hgr⟩ : ∃ g, gx + 1 = g := ⟨_, rfl⟩
  obtain ⟨W0, hW0⟩ : ∃ W, ((w.alloc (.cells #[.slice A m d, .int .i64 h.Offset] 73)).alloc (.cells #[.string x.Name, .int .i64 x.At, .int .i64 x.Value] 55)).alloc (.cells #[.slice none 0 0, .int .i64 0] 73) = W := ⟨_, rfl⟩
  have HS := Lib.hid ((((HS0.alloc' hgh 73 [.slice A m d, .int .i64 h.Offset]).alloc' (g := gx) (by rw [Mm.sz1, hgh, hgx]) 55 [.string x.Name, .int .i64 x.At, .int .i64 x.Value]).alloc' (g := gr) (by rw [Mm.sz1, Mm.sz1, hgh, hgx, hgr]) 73 [.slice none 0 0, .int .i64 0]).atW hW0)
  clear HS0 hs hnd hw off nm ia iv ho1 hp
  go_enter Tryz.func128, Tryz.ntmps128
  go_upto_region 1 with fail
  clear hW0 hgh hgx hgr
  have b1 := HS.out.cell (k := 1) 2 rfl rfl
  have z1 := HS.out.frz (k := 1) 2 rfl
  go_upto_region 2 with fail
  obtain ⟨W2, hW2⟩ : ∃ W, W0.setCell ⟨gh, 1, none⟩ (.int .i64 o1) = W := ⟨_, rfl⟩
  have HS2 := Lib.hid ((HS.out.setBlk (k := 1) 2 rfl (.int .i64 o1)).atW hW2)
  rw [hW2]
  clear hW2 HS b1 z1 f1
  go_upto_block 0 with fail
  go_cut [6] (fun s6 wx => s6 = .int .i64 p ∧ Hid (Below W2.heap.size W2 wx))
  case first =>
    go_wp2_with fail
    go_loopg [6] m (fun g i wr => ∃ k : Nat, m - k ≤ g ∧ k ≤ p ∧ i = .int .i64 k ∧ Hid (Below W2.heap.size W2 wr))
    case atStart => exact ⟨0, Nat.le_refl _, Nat.zero_le _, rfl, Below.refl _ _⟩
    case round =>
      obtain ⟨k, hg, hk, rfl, HB⟩ := hrel
      obtain ⟨W, rfl⟩ : ∃ W : World, W = wr := ⟨_, rfl⟩
      have HSW := Lib.hid (HS2.out.step HB.out)
      have c0 := HSW.out.cell (k := 0) 2 rfl rfl
      by_cases hlt : k < m
      · obtain ⟨y, b, off, A4, n4, c4, hy, rfl, hb, hnm, hrd, e0, -⟩ := rRow_get ((HSW.out.sl 3 rfl).weak (HSW.out.sl 3 rfl).olt) hlt
        have s0 := HSW.out.cell (k := 0) 1 rfl rfl
        have HY := Lib.hid hy
        have f1 : (k : Int) < (m : Nat) := by omega
        have f2 : (0 : Int) ≤ (k : Nat) := by omega
        have f3 : ((k : Nat) : Int).toNat = k := by omega
        clear hy hb hnm hrd
        cases hls : Pl.lessB (Pl.rnm y) x.Name with
        | true =>
          have hkp : k < p := by
            apply Classical.byContradiction
            intro hh
            have := Pl.rpos_ge x.Name h.Rows HW.out.srt k y (by have := HP.out; omega) HY.out
            rw [hls] at this; cases this
          have hq : Op.bytesLess y.Name.toList x.Name.toList = true := hls
          clear hls
          go_wp2
          refine wp_region_und (by kernel_rfl) (by kernel_rfl) ?_
          repeat (go_big_quiet_step ((first | fail)))
          refine wpQuiet_nil ?_
          intro X hX
          go_wp2
          go_roundg (m - (k + 1))
          case measure => omega
          case rel => exact ⟨k + 1, Nat.le_refl _, by omega, by go_num, below_step HB.out hX⟩
        | false =>
          have HKP : Hid (k = p) := by
            show k = p
            apply Classical.byContradiction
            intro hh
            have := Pl.rpos_lt x.Name h.Rows k y (by have := HP.out; omega) HY.out
            rw [hls] at this; cases this
          have hq : Op.bytesLess y.Name.toList x.Name.toList = false := hls
          clear hls
          go_wp2
          refine wp_region_und (by kernel_rfl) (by kernel_rfl) ?_
          repeat (go_big_quiet_step ((first | fail)))
          refine wpQuiet_nil ?_
          intro X hX
          go_wp2
          go_meet
          exact ⟨by rw [HKP.out], below_step HB.out hX⟩
      · have f1 : ¬ (k : Int) < (m : Nat) := by omega
        have f4 : decide (k < m) = false := by simp; omega
        have HKP : Hid (k = p) := by show k = p; omega
        clear hlt
        go_wp2
        refine wp_region_und (by kernel_rfl) (by kernel_rfl) ?_
        repeat (go_big_quiet_step ((first | fail)))
        refine wpQuiet_nil ?_
        intro X hX
        go_wp2
        go_meet
        exact ⟨by rw [HKP.out], below_step HB.out hX⟩
  case rest =>
  obtain ⟨rfl, HB⟩ := hcut
  obtain ⟨W, rfl⟩ : ∃ W : World, W = wc := ⟨_, rfl⟩
  have HS := Lib.hid (HS2.out.step HB.out)
  clear HS2 HB
  have s1 := HS.out.cell (k := 1) 1 rfl rfl
  have s2 := HS.out.cell (k := 2) 1 rfl rfl
  go_upto_region 6 with fail
  obtain ⟨gs, hgs⟩ : ∃ g, W.heap.size = g := ⟨_, rfl⟩
  obtain ⟨W3, hW3⟩ : ∃ V, W.alloc (.cells #[.int .i64 x.At, .int .i64 x.Value] 124) = V := ⟨_, rfl⟩
  have HS3 := Lib.hid ((HS.out.alloc' hgs 124 [.int .i64 x.At, .int .i64 x.Value]).atW hW3)
  rw [hW3, hgs]
  clear hW3 hgs HS s1 s2
  have c0 := HS3.out.cell (k := 0) 3 rfl rfl
  have s0 := HS3.out.cell (k := 0) 2 rfl rfl
  by_cases hit : ∃ r, h.Rows[p]? = some r ∧ r.Name = x.Name
  · obtain ⟨r, hr, hrn⟩ := hit
    have hne := HW.out.ne r (List.mem_of_getElem? hr)
    have HNE := Lib.hid hne
    have HMS : Hid (Pl.takeS h x = Pl.hitS h p r x) := Lib.hid (by rw [← HP.out]; exact Pl.takeS_hit (by rw [HP.out]; exact hr) hrn)
    have HR := Lib.hid hr
    have hpl : p < m := by have := (List.getElem?_eq_some_iff.1 hr).1; have := HML.out; omega
    obtain ⟨g2, rfl, -, -⟩ := Mm.sl_addr (HS3.out.sl 4 rfl) (by show 0 < h.Rows.length; have := HML.out; omega)
    obtain ⟨_, _, _, _, r0, -⟩ := HS3.out.rowSam 4 rfl hr
    rw [hrn] at r0
    have HRN := Lib.hid hrn
    have f1 : (p : Int) < (m : Nat) := by omega
    have f2 : (0 : Int) ≤ (p : Nat) := by omega
    have f3 : ((p : Nat) : Int).toNat = p := by omega
    clear hr hrn hne
    refine wp_region_und (by kernel_rfl) (by kernel_rfl) ?_
    repeat (go_big_quiet_step ((first | fail)))
    refine wpQuiet_nil ?_
    intro X hX
    have HZ := Lib.hid (HS3.out.step hX)
    clear hX HS3 c0 s0 r0
    obtain ⟨As, ms, ds, fx2, -, r1, hsl, hso2, hfn2, hfx2, hrow⟩ := HZ.out.rowSam 4 rfl HR.out
    have HROW := Lib.hid hrow
    have HSO2 := Lib.hid (And.intro hso2 hfn2)
    have HFX := Lib.hid hfx2
    have HSL : Hid (ms = r.Samples.length) := hsl
    have c0 := HZ.out.cell (k := 0) 3 rfl rfl
    have s1 := HZ.out.cell (k := 1) 2 rfl rfl
    have hms0 : 0 < ms := by
      have h1 := HSL.out
      have h2 : r.Samples.length ≠ 0 := fun hh => HNE.out.1 (List.length_eq_zero_iff.1 hh)
      omega
    have hms40 : ms ≤ 40 := by have := HSL.out; have := HNE.out.2; omega
    obtain ⟨q, hq⟩ : ∃ q, ms - 1 = q := ⟨_, rfl⟩
    have hrd := HSO2.out.1.weak HSO2.out.1.olt
    obtain ⟨y, bm, om, hy, hAs, hbm, -, -, d0, -⟩ := smp_get hrd (show q < ms by omega)
    subst hAs
    have HLA : Hid (Pl.lastAt r = y.At) := Lib.hid (by unfold Pl.lastAt; rw [← HSL.out, hq, Pl.sampleAt_of hy])
    have g1 : (0 : Int) < (ms : Nat) := by omega
    have g2' : IntKind.i64.wrap ((ms : Int) - 1) = (q : Int) := by rw [IntWalk.i64_in _ (by omega)]; omega
    have g3 : (0 : Int) ≤ (q : Nat) := by omega
    have g4 : ((q : Nat) : Int).toNat = q := by omega
    have g5 : (q : Int) < (ms : Nat) := by omega
    clear hrd hy hbm hq hsl hso2 hfn2 hfx2 hrow
    by_cases c1 : y.At = x.At
    · as_aux_lemma =>
      have HF : Hid (Pl.takeS h x = (⟨h.Rows, o1⟩, 2)) := Lib.hid (by rw [HMS.out, ← HO1.out]; exact if_pos (by rw [HLA.out]; exact c1))
      have q1 : (y.At == x.At) = true := by simp [c1]
      clear c1
      have z0 := HZ.out.frz (k := 0) 1 rfl
      have z1 := HZ.out.frz (k := 1) 1 rfl
      have b0 := HZ.out.cell (k := 0) 1 rfl rfl
      have b1 := HZ.out.cell (k := 1) 1 rfl rfl
      have h0 := HZ.out.cell (k := 0) 3 rfl rfl
      have h1 := HZ.out.cell (k := 1) 3 rfl rfl
      have HSF := Lib.hid ((HZ.out.setBlk (k := 0) 1 rfl ((.slice (some ⟨g2, 0, none⟩) m d))).setBlk (k := 1) 1 rfl (.int .i64 o1))
      have u0 := HSF.out.cell (k := 0) 1 rfl rfl
      have u1 := HSF.out.cell (k := 1) 1 rfl rfl
      go_wp2
      exact bodyPost_ret (v := .tuple #[.agg #[(.slice (some ⟨g2, 0, none⟩) m d), .int .i64 o1], .int .i64 2]) (by simp [results, Tryz.results128, go_sem, u0, u1]) rfl ⟨_, _, _, _, by rw [HO1.out, HF.out], by rw [HF.out]; exact HSF.out.sel [4] (by decide) rfl⟩
    · have q1 : (y.At == x.At) = false := by simp [c1]
      by_cases c2 : x.At < y.At
      · as_aux_lemma =>
        have HF : Hid (Pl.takeS h x = (⟨h.Rows, o1⟩, 3)) := Lib.hid (by rw [HMS.out, ← HO1.out]; exact (if_neg (by rw [HLA.out]; exact c1)).trans (if_pos (by rw [HLA.out]; exact c2)))
        clear c1
        have z0 := HZ.out.frz (k := 0) 1 rfl
        have z1 := HZ.out.frz (k := 1) 1 rfl
        have b0 := HZ.out.cell (k := 0) 1 rfl rfl
        have b1 := HZ.out.cell (k := 1) 1 rfl rfl
        have h0 := HZ.out.cell (k := 0) 3 rfl rfl
        have h1 := HZ.out.cell (k := 1) 3 rfl rfl
        have HSF := Lib.hid ((HZ.out.setBlk (k := 0) 1 rfl ((.slice (some ⟨g2, 0, none⟩) m d))).setBlk (k := 1) 1 rfl (.int .i64 o1))
        have u0 := HSF.out.cell (k := 0) 1 rfl rfl
        have u1 := HSF.out.cell (k := 1) 1 rfl rfl
        go_wp2
        exact bodyPost_ret (v := .tuple #[.agg #[(.slice (some ⟨g2, 0, none⟩) m d), .int .i64 o1], .int .i64 3]) (by simp [results, Tryz.results128, go_sem, u0, u1]) rfl ⟨_, _, _, _, by rw [HO1.out, HF.out], by rw [HF.out]; exact HSF.out.sel [4] (by decide) rfl⟩
      · by_cases c3 : ms = 40
        · as_aux_lemma =>
          have HF : Hid (Pl.takeS h x = (⟨h.Rows, o1⟩, 4)) := Lib.hid (by rw [HMS.out, ← HO1.out]; exact (if_neg (by rw [HLA.out]; exact c1)).trans ((if_neg (by rw [HLA.out]; exact c2)).trans (if_pos (by rw [← HSL.out]; exact c3))))
          have q3 : ((ms : Int) == 40) = true := by rw [c3]; rfl
          clear c1 c3
          have z0 := HZ.out.frz (k := 0) 1 rfl
          have z1 := HZ.out.frz (k := 1) 1 rfl
          have b0 := HZ.out.cell (k := 0) 1 rfl rfl
          have b1 := HZ.out.cell (k := 1) 1 rfl rfl
          have h0 := HZ.out.cell (k := 0) 3 rfl rfl
          have h1 := HZ.out.cell (k := 1) 3 rfl rfl
          have HSF := Lib.hid ((HZ.out.setBlk (k := 0) 1 rfl ((.slice (some ⟨g2, 0, none⟩) m d))).setBlk (k := 1) 1 rfl (.int .i64 o1))
          have u0 := HSF.out.cell (k := 0) 1 rfl rfl
          have u1 := HSF.out.cell (k := 1) 1 rfl rfl
          go_wp2
          exact bodyPost_ret (v := .tuple #[.agg #[(.slice (some ⟨g2, 0, none⟩) m d), .int .i64 o1], .int .i64 4]) (by simp [results, Tryz.results128, go_sem, u0, u1]) rfl ⟨_, _, _, _, by rw [HO1.out, HF.out], by rw [HF.out]; exact HSF.out.sel [4] (by decide) rfl⟩
        · as_aux_lemma =>
          have HF : Hid (Pl.takeS h x = (⟨h.Rows.set p ⟨r.Name, r.Samples ++ [⟨x.At, x.Value⟩]⟩, o1⟩, 1)) := Lib.hid (by rw [HMS.out, ← HO1.out]; exact (if_neg (by rw [HLA.out]; exact c1)).trans ((if_neg (by rw [HLA.out]; exact c2)).trans (if_neg (by rw [← HSL.out]; exact c3))))
          have q3 : ((ms : Int) == 40) = false := by rw [beq_eq_false_iff_ne]; omega
          clear c1 c3
          go_upto_region 15 with fail
          clear d0 s1 q1 q3 c2 g1 g2' g3 g4 g5
          obtain ⟨i0, hi, hz0, hz1, hz2⟩ := info_parts Tryz.infoSmpK
          have s1 := HZ.out.cell (k := 0) 0 rfl rfl
          have s2 := HZ.out.cell (k := 1) 0 rfl rfl
          have n1' : gs ∉ fx2 := fun hh => HZ.out.apart (i := 0) (j := 4) rfl rfl (by decide) gs (by simp [Mm.tblk]) (HFX.out _ hh).1
          have n2' : gh ∉ fx2 := fun hh => HZ.out.apart (i := 3) (j := 4) rfl rfl (by decide) gh (by simp [Mm.tblk]) (HFX.out _ hh).1
          have hg2 : g2 ∉ fx2 := fun hh => (HFX.out _ hh).2 rfl
          have zr := (HZ.out.sl 4 rfl).frozen (p * 2 + 1)
          have hg2l : g2 < X.heap.size := (HZ.out.sl 4 rfl).olt g2 (HZ.out.sl 4 rfl).mem_block
          have hslm : r.Samples.length ≤ 40 := HNE.out.2
          refine Mm.wp_region_give 9 (fun i => match i with | 5 => some (Mm.gBs 124 [.int .i64 x.At, .int .i64 x.Value]) | 6 => some (Mm.gSl smp 124 (r.Samples ++ [⟨x.At, x.Value⟩])) | _ => none) (fun i => match i with | 6 => [5, 10] | _ => []) (fun i => match i with | 10 => [Mm.tsl smp 124 r.Samples (.slice (some ⟨bm, om, none⟩) ms ds) fx2] | _ => []) (F := fx2) (D := fun w' => ∃ z : Cha fx2 X, w' = cha fx2 X z) (fun X us h => Mm.sep_cha h) (by kernel_rfl) (by kernel_rfl) (by kernel_rfl) (Mm.sep_eq ((Mm.SepF.one (Mm.tsl smp 124 r.Samples (.slice (some ⟨bm, om, none⟩) ms ds) fx2) X HSO2.out.1 HSO2.out.2).step (Below.refl _ _).drew) rfl) ?_
          repeat (refine Mm.give_det (by rfl) (by rfl) (by rfl) (fun K hK => ?_); go_big_quiet_op; refine hK _ ?_; clear hK K)
          refine Mm.give_op0 89 (by rfl) rfl (by rfl) (by rfl) (by rfl) (by rfl) Mm.gBs_in (fun others X6 hX6 => ?_) ?_
          · go_wp2
            exact Mm.gvq_bs hX6 rfl rfl rfl
          rintro v ds' ⟨gb, rfl, rfl⟩
          simp only [Act.put, List.setIfInBounds_toArray, List.set_cons_succ, List.set_cons_zero]
          refine Mm.give_op2 90 5 10 (by rfl) rfl (by rfl) (by rfl) (by rfl) rfl (by rfl) (by rfl) (by rfl) _ _ rfl rfl Mm.gSl_in (fun others X6 hX6 => Mm.app_gvq rfl (.tmp 87) (.tmp 89) 62 rfl 90 rfl (by rfl) i0 _ 16 Tryz.underlying62 hi hz0 hz1 hz2 rfl (by decide) rfl rfl (fun W => smp_own_mk (x := ⟨x.At, x.Value⟩) HI.out) (by unfold maxLen; omega) (by omega) hX6) ?_
          rintro v ds' ⟨A8, n8, c8, f8', rfl, rfl, hn8⟩
          simp only [Act.put, List.setIfInBounds_toArray, List.set_cons_succ, List.set_cons_zero]
          repeat (refine Mm.give_det (by rfl) (by rfl) (by rfl) (fun K hK => ?_); go_big_quiet_op; refine hK _ ?_; clear hK K)
          refine Mm.give_nil ?_
          rintro X7 hX7
          have hx7 : Mm.SepF fx2 X X7 [Mm.tsl smp 124 (r.Samples ++ [⟨x.At, x.Value⟩]) (.slice A8 n8 c8) f8'] := Mm.sep_eq hX7 rfl
          have HS4 := Lib.hid hx7
          have d4 : X7.cell? ⟨g2, p * 2 + 1, none⟩ = some (.slice (some ⟨bm, om, none⟩) ms ds) := (World.cell?_of_block (hx7.chg.block g2 hg2l hg2)).trans r1
          have z4 : X7.frozen? ⟨g2, p * 2 + 1, none⟩ = false := (World.frozen?_of_block (hx7.chg.block g2 hg2l hg2)).trans zr
          clear hX7 hx7 r1 zr s1 s2 n1' n2' hg2 hg2l c0
          obtain ⟨fp5, hs5⟩ := HROW.out _ _ _ _ _ _ HS4.out
          obtain ⟨XT, hXT⟩ : ∃ XT, X7.setCell ⟨g2, p * 2 + 1, none⟩ (.slice A8 n8 c8) = XT := ⟨_, rfl⟩
          replace HZ := Lib.hid (hs5.atW hXT)
          clear hs5
          go_upto_region 16 with fail
          clear hXT d4 z4
          have z0 := HZ.out.frz (k := 0) 1 rfl
          have z1 := HZ.out.frz (k := 1) 1 rfl
          have b0 := HZ.out.cell (k := 0) 1 rfl rfl
          have b1 := HZ.out.cell (k := 1) 1 rfl rfl
          have h0 := HZ.out.cell (k := 0) 3 rfl rfl
          have h1 := HZ.out.cell (k := 1) 3 rfl rfl
          have HSF := Lib.hid ((HZ.out.setBlk (k := 0) 1 rfl ((.slice (some ⟨g2, 0, none⟩) m d))).setBlk (k := 1) 1 rfl (.int .i64 o1))
          have u0 := HSF.out.cell (k := 0) 1 rfl rfl
          have u1 := HSF.out.cell (k := 1) 1 rfl rfl
          go_wp2
          exact bodyPost_ret (v := .tuple #[.agg #[(.slice (some ⟨g2, 0, none⟩) m d), .int .i64 o1], .int .i64 1]) (by simp [results, Tryz.results128, go_sem, u0, u1]) rfl ⟨_, _, _, _, by rw [HO1.out, HF.out], by rw [HF.out]; exact HSF.out.sel [4] (by decide) rfl⟩
  · have HMS : Hid (Pl.takeS h x = Pl.missS h p x) := Lib.hid (by rw [← HP.out]; exact Pl.takeS_miss (fun o ho he => by rw [HP.out] at ho; exact hit ⟨o, ho, he⟩))
    have f2 : (0 : Int) ≤ (p : Nat) := by omega
    have f3 : ((p : Nat) : Int).toNat = p := by omega
    by_cases hpl : p < m
    · obtain ⟨g2, rfl, -, -⟩ := Mm.sl_addr (HS3.out.sl 4 rfl) (by show 0 < h.Rows.length; have := HML.out; omega)
      obtain ⟨r, hr⟩ : ∃ r, h.Rows[p]? = some r := ⟨_, List.getElem?_eq_getElem (by have := HML.out; omega)⟩
      obtain ⟨_, _, _, _, r0, -⟩ := HS3.out.rowSam 4 rfl hr
      have f1 : (p : Int) < (m : Nat) := by omega
      have q1 : (r.Name.toList == x.Name.toList) = false := by
        rw [beq_eq_false_iff_ne]
        exact fun hh => hit ⟨r, hr, Pl.ba_inj hh⟩
      clear hr hit
      refine wp_region_und (by kernel_rfl) (by kernel_rfl) ?_
      repeat (go_big_quiet_step ((first | fail)))
      refine wpQuiet_nil ?_
      intro X hX
      clear r0 q1
      have HZ := Lib.hid (HS3.out.step hX)
      clear hX HS3 c0 s0
      have c0 := HZ.out.cell (k := 0) 3 rfl rfl
      by_cases h8 : m = 8
      · as_aux_lemma =>
        have HF : Hid (Pl.takeS h x = (⟨h.Rows, o1⟩, 4)) := Lib.hid (by rw [HMS.out, ← HO1.out]; exact if_pos (by have := HML.out; omega))
        have f8 : ((m : Int) == 8) = true := by rw [h8]; rfl
        clear h8
        have z0 := HZ.out.frz (k := 0) 1 rfl
        have z1 := HZ.out.frz (k := 1) 1 rfl
        have b0 := HZ.out.cell (k := 0) 1 rfl rfl
        have b1 := HZ.out.cell (k := 1) 1 rfl rfl
        have h0 := HZ.out.cell (k := 0) 3 rfl rfl
        have h1 := HZ.out.cell (k := 1) 3 rfl rfl
        have HSF := Lib.hid ((HZ.out.setBlk (k := 0) 1 rfl ((.slice (some ⟨g2, 0, none⟩) m d))).setBlk (k := 1) 1 rfl (.int .i64 o1))
        have u0 := HSF.out.cell (k := 0) 1 rfl rfl
        have u1 := HSF.out.cell (k := 1) 1 rfl rfl
        go_wp2
        exact bodyPost_ret (v := .tuple #[.agg #[(.slice (some ⟨g2, 0, none⟩) m d), .int .i64 o1], .int .i64 4]) (by simp [results, Tryz.results128, go_sem, u0, u1]) rfl ⟨_, _, _, _, by rw [HO1.out, HF.out], by rw [HF.out]; exact HSF.out.sel [4] (by decide) rfl⟩
      have HF : Hid (Pl.takeS h x = (⟨Mm.insertAt h.Rows p ⟨x.Name, [⟨x.At, x.Value⟩]⟩, o1⟩, 1)) := Lib.hid (by rw [HMS.out, ← HO1.out]; exact if_neg (by have := HML.out; omega))
      have f8 : ((m : Int) == 8) = false := by rw [beq_eq_false_iff_ne]; omega
      go_upto_region 19 with fail
      clear f8 h8
      have s0 := HZ.out.cell (k := 0) 2 rfl rfl
      have t0 := HZ.out.cell (k := 0) 0 rfl rfl
      have t1 := HZ.out.cell (k := 1) 0 rfl rfl
      have hghl : gh < X.heap.size := World.block_lt_of_cell? X ⟨gh, 0, none⟩ c0
      obtain ⟨lc, ho, h1c, hnext⟩ := HZ.out.insLate 4 rfl (k := p) (by rw [← HML.out]; exact hpm)
      rw [← HML.out] at ho hnext
      have ho : X.ownsRow 0 139 2 (.slice (some ⟨g2, 0, none⟩) m d) m lc := ho
      have HNX := Lib.hid hnext
      clear hnext
      have hcc : ∀ j u, lc[j]? = some u → X.cell? ⟨g2, j, none⟩ = some u := fun j u hj => by
        have := ho.cells (g := g2) rfl j u hj
        rwa [Mm.add0] at this
      have hmd : m ≤ d := by
        rcases ho.2 with ⟨hv, _⟩ | ⟨g, cap, cur, hv, _, _, hnc, _⟩
        · cases hv
        · injection hv with _ _ e3
          subst e3
          exact hnc
      have hcl := ho.1
      as_aux_lemma =>
      obtain ⟨A8, c8, w8, e1, kk1, nn8, hV⟩ := put3R X ((some ⟨g2, 0, none⟩)) ((some ⟨g2, p * 2, none⟩)) m p ((m - p)) (d) ((d - p)) lc ho h1c hpm (by omega) (fun hh => by cases hh) (by omega) (fun hh => by cases hh) (fun a ha j u hj => by injection ha with ha; subst ha; rw [Mm.add0]; rw [List.getElem?_take] at hj; split at hj; exact hcc j u hj; cases hj) (fun a ha j u hj => by injection ha with ha; subst ha; rw [Addr.add_lit]; rw [List.getElem?_drop] at hj; exact hcc _ u hj)
      obtain ⟨g8, hg8⟩ : ∃ g, w8.heap.size = g := ⟨_, rfl⟩
      obtain ⟨V, hVd⟩ : ∃ V, w8.alloc (.cells #[.int .i64 x.At, .int .i64 x.Value] 124) = V := ⟨_, rfl⟩
      have hVs : V.heap.size = g8 + 1 := by rw [← hVd, Mm.sz1, hg8]
      have hVb : Below w8.heap.size w8 V := by rw [← hVd]; exact below_new (Below.refl _ _) _
      obtain ⟨A10, c10, w10, e2, k10, A11, c11, w11, e3, r4, kb, k11, n11⟩ := hV V [.string x.Name, .slice (some ⟨g8, 0, none⟩) 1 1] hVb rfl (by simp [Value.oneCell'])
      rw [hVs] at e2 k10 k11 n11
      have hX8 := kk1.size
      have hn8 : (Value.slice A8 p c8).ownBlock ≠ some g8 := fun hh => by have := (nn8 _ hh).2; omega
      have hbl : Mm.Blk w11 g8 124 [.int .i64 x.At, .int .i64 x.Value] := Mm.Blk.keep (by have h9 := Mm.Blk.new w8 124 [.int .i64 x.At, .int .i64 x.Value]; rw [hg8] at h9; rw [← hVd]; exact h9) (k11 g8 (by omega) hn8)
      obtain ⟨fp', hsE⟩ := HNX.out w11 (.slice A11 (m + 1) c11) ⟨x.Name, [⟨x.At, x.Value⟩]⟩ [.string x.Name, .slice (some ⟨g8, 0, none⟩) 1 1] [g8] kb (rRow_own_mk (x := ⟨x.Name, [⟨x.At, x.Value⟩]⟩) HNM.out (Mm.oneSmp (x := ⟨x.At, x.Value⟩) hbl HI.out)) (by simp) (fun b hb => by simp at hb; omega) r4 (fun g hg => by
        rcases n11 g hg with hh | hh
        · have := nn8 g hh
          exact ⟨this.1, by simp; omega⟩
        · exact ⟨by omega, by simp; omega⟩)
      have HSE := Lib.hid hsE
      have HK := Lib.hid (And.intro e1 (And.intro e2 e3))
      have s8 := below_some kk1 s0
      have t80 := below_some kk1 t0
      have t81 := below_some kk1 t1
      have c10' : w10.cell? ⟨gh, 0, none⟩ = some (.slice (some ⟨g2, 0, none⟩) m d) := (World.cell?_of_block (k10 gh (by omega) (fun hh => by have := (nn8 _ hh).1; omega))).trans (below_some (below_step kk1 hVb) c0)
      obtain ⟨XT, hXT⟩ : ∃ XT, w11.setCell ⟨gh, 0, none⟩ (.slice A11 (m + 1) c11) = XT := ⟨_, rfl⟩
      replace HZ := Lib.hid ((HSE.out.setBlk (k := 0) 3 rfl (.slice A11 (m + 1) c11)).atW hXT)
      have h11 := HSE.out.cell (k := 0) 3 rfl rfl
      have z11 := HSE.out.frz (k := 0) 3 rfl
      clear hsE e1 e2 e3 r4 kk1 kb k10 k11 n11 nn8 hV hVb hX8 hn8 hbl HSE HNX h1c ho s0 t0 t1
      go_upto_region 20 with (at_builtin; refine Lib.wpList_append_run _ rfl _ _ _ _ rfl _ _ rfl rfl _ _ (HK.out.1 _) ?_)
      clear c0
      go_upto_region 21 with (at_builtin; refine Lib.wpList_append_run _ rfl _ _ _ _ rfl _ _ rfl rfl _ _ (HK.out.2.1 _) ?_)
      go_upto_region 22 with (at_builtin; refine Lib.wpList_append_run _ rfl _ _ _ _ rfl _ _ rfl rfl _ _ (HK.out.2.2 _) ?_)
      clear hXT h11 z11 c10' s8 t80 t81 HK
      have z0 := HZ.out.frz (k := 0) 1 rfl
      have z1 := HZ.out.frz (k := 1) 1 rfl
      have b0 := HZ.out.cell (k := 0) 1 rfl rfl
      have b1 := HZ.out.cell (k := 1) 1 rfl rfl
      have h0 := HZ.out.cell (k := 0) 3 rfl rfl
      have h1 := HZ.out.cell (k := 1) 3 rfl rfl
      have HSF := Lib.hid ((HZ.out.setBlk (k := 0) 1 rfl ((.slice A11 (m + 1) c11))).setBlk (k := 1) 1 rfl (.int .i64 o1))
      have u0 := HSF.out.cell (k := 0) 1 rfl rfl
      have u1 := HSF.out.cell (k := 1) 1 rfl rfl
      go_wp2
      exact bodyPost_ret (v := .tuple #[.agg #[(.slice A11 (m + 1) c11), .int .i64 o1], .int .i64 1]) (by simp [results, Tryz.results128, go_sem, u0, u1]) rfl ⟨_, _, _, _, by rw [HO1.out, HF.out], by rw [HF.out]; exact HSF.out.sel [4] (by decide) rfl⟩
    · have f1 : ¬ (p : Int) < (m : Nat) := by omega
      have f4 : decide (p < m) = false := by simp; omega
      clear hit hpl
      refine wp_region_und (by kernel_rfl) (by kernel_rfl) ?_
      repeat (go_big_quiet_step ((first | fail)))
      refine wpQuiet_nil ?_
      intro X hX
      have HZ := Lib.hid (HS3.out.step hX)
      clear hX HS3 c0 s0
      have c0 := HZ.out.cell (k := 0) 3 rfl rfl
      by_cases h8 : m = 8
      · as_aux_lemma =>
        have HF : Hid (Pl.takeS h x = (⟨h.Rows, o1⟩, 4)) := Lib.hid (by rw [HMS.out, ← HO1.out]; exact if_pos (by have := HML.out; omega))
        have f8 : ((m : Int) == 8) = true := by rw [h8]; rfl
        clear h8
        have z0 := HZ.out.frz (k := 0) 1 rfl
        have z1 := HZ.out.frz (k := 1) 1 rfl
        have b0 := HZ.out.cell (k := 0) 1 rfl rfl
        have b1 := HZ.out.cell (k := 1) 1 rfl rfl
        have h0 := HZ.out.cell (k := 0) 3 rfl rfl
        have h1 := HZ.out.cell (k := 1) 3 rfl rfl
        have HSF := Lib.hid ((HZ.out.setBlk (k := 0) 1 rfl ((.slice A m d))).setBlk (k := 1) 1 rfl (.int .i64 o1))
        have u0 := HSF.out.cell (k := 0) 1 rfl rfl
        have u1 := HSF.out.cell (k := 1) 1 rfl rfl
        go_wp2
        exact bodyPost_ret (v := .tuple #[.agg #[(.slice A m d), .int .i64 o1], .int .i64 4]) (by simp [results, Tryz.results128, go_sem, u0, u1]) rfl ⟨_, _, _, _, by rw [HO1.out, HF.out], by rw [HF.out]; exact HSF.out.sel [4] (by decide) rfl⟩
      have HF : Hid (Pl.takeS h x = (⟨Mm.insertAt h.Rows p ⟨x.Name, [⟨x.At, x.Value⟩]⟩, o1⟩, 1)) := Lib.hid (by rw [HMS.out, ← HO1.out]; exact if_neg (by have := HML.out; omega))
      have f8 : ((m : Int) == 8) = false := by rw [beq_eq_false_iff_ne]; omega
      go_upto_region 19 with fail
      clear f8 h8
      have s0 := HZ.out.cell (k := 0) 2 rfl rfl
      have t0 := HZ.out.cell (k := 0) 0 rfl rfl
      have t1 := HZ.out.cell (k := 1) 0 rfl rfl
      have hghl : gh < X.heap.size := World.block_lt_of_cell? X ⟨gh, 0, none⟩ c0
      obtain ⟨lc, ho, h1c, hnext⟩ := HZ.out.insLate 4 rfl (k := p) (by rw [← HML.out]; exact hpm)
      rw [← HML.out] at ho hnext
      have ho : X.ownsRow 0 139 2 (.slice A m d) m lc := ho
      have HNX := Lib.hid hnext
      clear hnext
      rcases ho.2 with ⟨hv, hn0⟩ | ⟨g2, cap, cur, hv, _, hg, hnc, hcm, hcs, htake⟩
      · injection hv with e1 e2 e3
        subst e1 e3
        subst hn0
        obtain rfl : p = 0 := by omega
        as_aux_lemma =>
        obtain ⟨A8, c8, w8, e1, kk1, nn8, hV⟩ := put3R X (none) (none) 0 0 (0) (0) (0) lc ho h1c hpm (by omega) (fun _ => ⟨rfl, rfl⟩) rfl (fun _ => ⟨rfl, rfl⟩) (fun a hh => by cases hh) (fun a hh => by cases hh)
        obtain ⟨g8, hg8⟩ : ∃ g, w8.heap.size = g := ⟨_, rfl⟩
        obtain ⟨V, hVd⟩ : ∃ V, w8.alloc (.cells #[.int .i64 x.At, .int .i64 x.Value] 124) = V := ⟨_, rfl⟩
        have hVs : V.heap.size = g8 + 1 := by rw [← hVd, Mm.sz1, hg8]
        have hVb : Below w8.heap.size w8 V := by rw [← hVd]; exact below_new (Below.refl _ _) _
        obtain ⟨A10, c10, w10, e2, k10, A11, c11, w11, e3, r4, kb, k11, n11⟩ := hV V [.string x.Name, .slice (some ⟨g8, 0, none⟩) 1 1] hVb rfl (by simp [Value.oneCell'])
        rw [hVs] at e2 k10 k11 n11
        have hX8 := kk1.size
        have hn8 : (Value.slice A8 0 c8).ownBlock ≠ some g8 := fun hh => by have := (nn8 _ hh).2; omega
        have hbl : Mm.Blk w11 g8 124 [.int .i64 x.At, .int .i64 x.Value] := Mm.Blk.keep (by have h9 := Mm.Blk.new w8 124 [.int .i64 x.At, .int .i64 x.Value]; rw [hg8] at h9; rw [← hVd]; exact h9) (k11 g8 (by omega) hn8)
        obtain ⟨fp', hsE⟩ := HNX.out w11 (.slice A11 (0 + 1) c11) ⟨x.Name, [⟨x.At, x.Value⟩]⟩ [.string x.Name, .slice (some ⟨g8, 0, none⟩) 1 1] [g8] kb (rRow_own_mk (x := ⟨x.Name, [⟨x.At, x.Value⟩]⟩) HNM.out (Mm.oneSmp (x := ⟨x.At, x.Value⟩) hbl HI.out)) (by simp) (fun b hb => by simp at hb; omega) r4 (fun g hg => by
          rcases n11 g hg with hh | hh
          · have := nn8 g hh
            exact ⟨this.1, by simp; omega⟩
          · exact ⟨by omega, by simp; omega⟩)
        have HSE := Lib.hid hsE
        have HK := Lib.hid (And.intro e1 (And.intro e2 e3))
        have s8 := below_some kk1 s0
        have t80 := below_some kk1 t0
        have t81 := below_some kk1 t1
        have c10' : w10.cell? ⟨gh, 0, none⟩ = some (.slice none 0 0) := (World.cell?_of_block (k10 gh (by omega) (fun hh => by have := (nn8 _ hh).1; omega))).trans (below_some (below_step kk1 hVb) c0)
        obtain ⟨XT, hXT⟩ : ∃ XT, w11.setCell ⟨gh, 0, none⟩ (.slice A11 (0 + 1) c11) = XT := ⟨_, rfl⟩
        replace HZ := Lib.hid ((HSE.out.setBlk (k := 0) 3 rfl (.slice A11 (0 + 1) c11)).atW hXT)
        have h11 := HSE.out.cell (k := 0) 3 rfl rfl
        have z11 := HSE.out.frz (k := 0) 3 rfl
        clear hsE e1 e2 e3 r4 kk1 kb k10 k11 n11 nn8 hV hVb hX8 hn8 hbl HSE HNX h1c ho s0 t0 t1
        go_upto_region 20 with (at_builtin; refine Lib.wpList_append_run _ rfl _ _ _ _ rfl _ _ rfl rfl _ _ (HK.out.1 _) ?_)
        clear c0
        go_upto_region 21 with (at_builtin; refine Lib.wpList_append_run _ rfl _ _ _ _ rfl _ _ rfl rfl _ _ (HK.out.2.1 _) ?_)
        go_upto_region 22 with (at_builtin; refine Lib.wpList_append_run _ rfl _ _ _ _ rfl _ _ rfl rfl _ _ (HK.out.2.2 _) ?_)
        clear hXT h11 z11 c10' s8 t80 t81 HK
        have z0 := HZ.out.frz (k := 0) 1 rfl
        have z1 := HZ.out.frz (k := 1) 1 rfl
        have b0 := HZ.out.cell (k := 0) 1 rfl rfl
        have b1 := HZ.out.cell (k := 1) 1 rfl rfl
        have h0 := HZ.out.cell (k := 0) 3 rfl rfl
        have h1 := HZ.out.cell (k := 1) 3 rfl rfl
        have HSF := Lib.hid ((HZ.out.setBlk (k := 0) 1 rfl ((.slice A11 (0 + 1) c11))).setBlk (k := 1) 1 rfl (.int .i64 o1))
        have u0 := HSF.out.cell (k := 0) 1 rfl rfl
        have u1 := HSF.out.cell (k := 1) 1 rfl rfl
        go_wp2
        exact bodyPost_ret (v := .tuple #[.agg #[(.slice A11 (0 + 1) c11), .int .i64 o1], .int .i64 1]) (by simp [results, Tryz.results128, go_sem, u0, u1]) rfl ⟨_, _, _, _, by rw [HO1.out, HF.out], by rw [HF.out]; exact HSF.out.sel [4] (by decide) rfl⟩
      · injection hv with e1 e2 e3
        subst e1 e3
        have hcc : ∀ j u, lc[j]? = some u → X.cell? ⟨g2, j, none⟩ = some u := fun j u hj => by
          have := ho.cells (g := g2) rfl j u hj
          rwa [Mm.add0] at this
        have hcl := ho.1
        unfold maxLen at hcm
        clear hg hcs htake
        by_cases hcp : d = p
        · subst hcp
          as_aux_lemma =>
          obtain ⟨A8, c8, w8, e1, kk1, nn8, hV⟩ := put3R X ((some ⟨g2, 0, none⟩)) ((some ⟨g2, 0, none⟩)) m d (0) (d) (0) lc ho h1c hpm (by omega) (fun hh => by cases hh) (by omega) (fun hh => by cases hh) (fun a ha j u hj => by injection ha with ha; subst ha; rw [Mm.add0]; rw [List.getElem?_take] at hj; split at hj; exact hcc j u hj; cases hj) (fun a ha j u hj => by rw [List.drop_of_length_le (by omega)] at hj; simp at hj)
          obtain ⟨g8, hg8⟩ : ∃ g, w8.heap.size = g := ⟨_, rfl⟩
          obtain ⟨V, hVd⟩ : ∃ V, w8.alloc (.cells #[.int .i64 x.At, .int .i64 x.Value] 124) = V := ⟨_, rfl⟩
          have hVs : V.heap.size = g8 + 1 := by rw [← hVd, Mm.sz1, hg8]
          have hVb : Below w8.heap.size w8 V := by rw [← hVd]; exact below_new (Below.refl _ _) _
          obtain ⟨A10, c10, w10, e2, k10, A11, c11, w11, e3, r4, kb, k11, n11⟩ := hV V [.string x.Name, .slice (some ⟨g8, 0, none⟩) 1 1] hVb rfl (by simp [Value.oneCell'])
          rw [hVs] at e2 k10 k11 n11
          have hX8 := kk1.size
          have hn8 : (Value.slice A8 d c8).ownBlock ≠ some g8 := fun hh => by have := (nn8 _ hh).2; omega
          have hbl : Mm.Blk w11 g8 124 [.int .i64 x.At, .int .i64 x.Value] := Mm.Blk.keep (by have h9 := Mm.Blk.new w8 124 [.int .i64 x.At, .int .i64 x.Value]; rw [hg8] at h9; rw [← hVd]; exact h9) (k11 g8 (by omega) hn8)
          obtain ⟨fp', hsE⟩ := HNX.out w11 (.slice A11 (m + 1) c11) ⟨x.Name, [⟨x.At, x.Value⟩]⟩ [.string x.Name, .slice (some ⟨g8, 0, none⟩) 1 1] [g8] kb (rRow_own_mk (x := ⟨x.Name, [⟨x.At, x.Value⟩]⟩) HNM.out (Mm.oneSmp (x := ⟨x.At, x.Value⟩) hbl HI.out)) (by simp) (fun b hb => by simp at hb; omega) r4 (fun g hg => by
            rcases n11 g hg with hh | hh
            · have := nn8 g hh
              exact ⟨this.1, by simp; omega⟩
            · exact ⟨by omega, by simp; omega⟩)
          have HSE := Lib.hid hsE
          have HK := Lib.hid (And.intro e1 (And.intro e2 e3))
          have s8 := below_some kk1 s0
          have t80 := below_some kk1 t0
          have t81 := below_some kk1 t1
          have c10' : w10.cell? ⟨gh, 0, none⟩ = some (.slice (some ⟨g2, 0, none⟩) m d) := (World.cell?_of_block (k10 gh (by omega) (fun hh => by have := (nn8 _ hh).1; omega))).trans (below_some (below_step kk1 hVb) c0)
          obtain ⟨XT, hXT⟩ : ∃ XT, w11.setCell ⟨gh, 0, none⟩ (.slice A11 (m + 1) c11) = XT := ⟨_, rfl⟩
          replace HZ := Lib.hid ((HSE.out.setBlk (k := 0) 3 rfl (.slice A11 (m + 1) c11)).atW hXT)
          have h11 := HSE.out.cell (k := 0) 3 rfl rfl
          have z11 := HSE.out.frz (k := 0) 3 rfl
          clear hsE e1 e2 e3 r4 kk1 kb k10 k11 n11 nn8 hV hVb hX8 hn8 hbl HSE HNX h1c ho s0 t0 t1
          go_upto_region 20 with (at_builtin; refine Lib.wpList_append_run _ rfl _ _ _ _ rfl _ _ rfl rfl _ _ (HK.out.1 _) ?_)
          clear c0
          go_upto_region 21 with (at_builtin; refine Lib.wpList_append_run _ rfl _ _ _ _ rfl _ _ rfl rfl _ _ (HK.out.2.1 _) ?_)
          go_upto_region 22 with (at_builtin; refine Lib.wpList_append_run _ rfl _ _ _ _ rfl _ _ rfl rfl _ _ (HK.out.2.2 _) ?_)
          clear hXT h11 z11 c10' s8 t80 t81 HK
          have z0 := HZ.out.frz (k := 0) 1 rfl
          have z1 := HZ.out.frz (k := 1) 1 rfl
          have b0 := HZ.out.cell (k := 0) 1 rfl rfl
          have b1 := HZ.out.cell (k := 1) 1 rfl rfl
          have h0 := HZ.out.cell (k := 0) 3 rfl rfl
          have h1 := HZ.out.cell (k := 1) 3 rfl rfl
          have HSF := Lib.hid ((HZ.out.setBlk (k := 0) 1 rfl ((.slice A11 (m + 1) c11))).setBlk (k := 1) 1 rfl (.int .i64 o1))
          have u0 := HSF.out.cell (k := 0) 1 rfl rfl
          have u1 := HSF.out.cell (k := 1) 1 rfl rfl
          go_wp2
          exact bodyPost_ret (v := .tuple #[.agg #[(.slice A11 (m + 1) c11), .int .i64 o1], .int .i64 1]) (by simp [results, Tryz.results128, go_sem, u0, u1]) rfl ⟨_, _, _, _, by rw [HO1.out, HF.out], by rw [HF.out]; exact HSF.out.sel [4] (by decide) rfl⟩
        · have hcp2 : ¬ (d = p) := hcp
          as_aux_lemma =>
          obtain ⟨A8, c8, w8, e1, kk1, nn8, hV⟩ := put3R X ((some ⟨g2, 0, none⟩)) ((some ⟨g2, p * 2, none⟩)) m p ((m - p)) (d) ((d - p)) lc ho h1c hpm (by omega) (fun hh => by cases hh) (by omega) (fun hh => by cases hh) (fun a ha j u hj => by injection ha with ha; subst ha; rw [Mm.add0]; rw [List.getElem?_take] at hj; split at hj; exact hcc j u hj; cases hj) (fun a ha j u hj => by injection ha with ha; subst ha; rw [Addr.add_lit]; rw [List.getElem?_drop] at hj; exact hcc _ u hj)
          obtain ⟨g8, hg8⟩ : ∃ g, w8.heap.size = g := ⟨_, rfl⟩
          obtain ⟨V, hVd⟩ : ∃ V, w8.alloc (.cells #[.int .i64 x.At, .int .i64 x.Value] 124) = V := ⟨_, rfl⟩
          have hVs : V.heap.size = g8 + 1 := by rw [← hVd, Mm.sz1, hg8]
          have hVb : Below w8.heap.size w8 V := by rw [← hVd]; exact below_new (Below.refl _ _) _
          obtain ⟨A10, c10, w10, e2, k10, A11, c11, w11, e3, r4, kb, k11, n11⟩ := hV V [.string x.Name, .slice (some ⟨g8, 0, none⟩) 1 1] hVb rfl (by simp [Value.oneCell'])
          rw [hVs] at e2 k10 k11 n11
          have hX8 := kk1.size
          have hn8 : (Value.slice A8 p c8).ownBlock ≠ some g8 := fun hh => by have := (nn8 _ hh).2; omega
          have hbl : Mm.Blk w11 g8 124 [.int .i64 x.At, .int .i64 x.Value] := Mm.Blk.keep (by have h9 := Mm.Blk.new w8 124 [.int .i64 x.At, .int .i64 x.Value]; rw [hg8] at h9; rw [← hVd]; exact h9) (k11 g8 (by omega) hn8)
          obtain ⟨fp', hsE⟩ := HNX.out w11 (.slice A11 (m + 1) c11) ⟨x.Name, [⟨x.At, x.Value⟩]⟩ [.string x.Name, .slice (some ⟨g8, 0, none⟩) 1 1] [g8] kb (rRow_own_mk (x := ⟨x.Name, [⟨x.At, x.Value⟩]⟩) HNM.out (Mm.oneSmp (x := ⟨x.At, x.Value⟩) hbl HI.out)) (by simp) (fun b hb => by simp at hb; omega) r4 (fun g hg => by
            rcases n11 g hg with hh | hh
            · have := nn8 g hh
              exact ⟨this.1, by simp; omega⟩
            · exact ⟨by omega, by simp; omega⟩)
          have HSE := Lib.hid hsE
          have HK := Lib.hid (And.intro e1 (And.intro e2 e3))
          have s8 := below_some kk1 s0
          have t80 := below_some kk1 t0
          have t81 := below_some kk1 t1
          have c10' : w10.cell? ⟨gh, 0, none⟩ = some (.slice (some ⟨g2, 0, none⟩) m d) := (World.cell?_of_block (k10 gh (by omega) (fun hh => by have := (nn8 _ hh).1; omega))).trans (below_some (below_step kk1 hVb) c0)
          obtain ⟨XT, hXT⟩ : ∃ XT, w11.setCell ⟨gh, 0, none⟩ (.slice A11 (m + 1) c11) = XT := ⟨_, rfl⟩
          replace HZ := Lib.hid ((HSE.out.setBlk (k := 0) 3 rfl (.slice A11 (m + 1) c11)).atW hXT)
          have h11 := HSE.out.cell (k := 0) 3 rfl rfl
          have z11 := HSE.out.frz (k := 0) 3 rfl
          clear hsE e1 e2 e3 r4 kk1 kb k10 k11 n11 nn8 hV hVb hX8 hn8 hbl HSE HNX h1c ho s0 t0 t1
          go_upto_region 20 with (at_builtin; refine Lib.wpList_append_run _ rfl _ _ _ _ rfl _ _ rfl rfl _ _ (HK.out.1 _) ?_)
          clear c0
          go_upto_region 21 with (at_builtin; refine Lib.wpList_append_run _ rfl _ _ _ _ rfl _ _ rfl rfl _ _ (HK.out.2.1 _) ?_)
          go_upto_region 22 with (at_builtin; refine Lib.wpList_append_run _ rfl _ _ _ _ rfl _ _ rfl rfl _ _ (HK.out.2.2 _) ?_)
          clear hXT h11 z11 c10' s8 t80 t81 HK
          have z0 := HZ.out.frz (k := 0) 1 rfl
          have z1 := HZ.out.frz (k := 1) 1 rfl
          have b0 := HZ.out.cell (k := 0) 1 rfl rfl
          have b1 := HZ.out.cell (k := 1) 1 rfl rfl
          have h0 := HZ.out.cell (k := 0) 3 rfl rfl
          have h1 := HZ.out.cell (k := 1) 3 rfl rfl
          have HSF := Lib.hid ((HZ.out.setBlk (k := 0) 1 rfl ((.slice A11 (m + 1) c11))).setBlk (k := 1) 1 rfl (.int .i64 o1))
          have u0 := HSF.out.cell (k := 0) 1 rfl rfl
          have u1 := HSF.out.cell (k := 1) 1 rfl rfl
          go_wp2
          exact bodyPost_ret (v := .tuple #[.agg #[(.slice A11 (m + 1) c11), .int .i64 o1], .int .i64 1]) (by simp [results, Tryz.results128, go_sem, u0, u1]) rfl ⟨_, _, _, _, by rw [HO1.out, HF.out], by rw [HF.out]; exact HSF.out.sel [4] (by decide) rfl⟩
end Go.Proofs.YtbhmdnjammnlnaaGreatDoor

namespace Go.Proofs.YtbhmdnjammnlnaaGreatDoor
open Go.RowKit
attribute [local go_sem] und_cell cha_cell World.cell?_alloc_some
end Go.Proofs.YtbhmdnjammnlnaaGreatDoor

namespace Go.Proofs.YtbhmdnjammnlnaaGreatDoor
open Go.RowKit
attribute [local go_sem] und_cell cha_cell World.cell?_alloc_some
theorem Pl.LogOkR.zero {g : Log} (h : Pl.LogOkR g) (hb : g.Begin = 0) : Pl.LogOk g ∧ Pl.from0 g.Pieces = 0 := by
  refine ⟨h.1, ?_⟩
  have h1 := h.1.bg.1
  have h2 := h.1.from0.1
  rw [hb] at h1
  omega
theorem Pl.LogOkR.of {g : Log} (h : Pl.LogOk g) (hf : Pl.from0 g.Pieces = 0) (hb : g.Begin = 0) : Pl.LogOkR g :=
  ⟨h, fun p hp => by rw [hb]; have := Pl.from0_get hp; omega⟩
def gFoldH (x : Head) : Mm.Rel := fun _ _ v ds => ∃ A n c f, v = .agg #[.slice A n c, .int .i64 x.Offset] ∧ ds = [Mm.tow rHead x [.slice A n c, .int .i64 x.Offset] f]
theorem gFoldH_in {x : Head} {vals : List Value} {tk : List Mm.Thing} : ∃ v ds, gFoldH x vals tk v ds := ⟨_, _, none, 0, 0, [], rfl, rfl⟩
end Go.Proofs.YtbhmdnjammnlnaaGreatDoor

namespace Go.Proofs.YtbhmdnjammnlnaaGreatDoor
open Go.RowKit
attribute [local go_sem] und_cell cha_cell World.cell?_alloc_some
theorem implGoodHouse_c (h : House) (b : Bool) (hb : b = true ↔ Pl.HouseOk h) (Bt : Nat) (cs : List Value) (w : World) (B : Nat) (hh : rHouse.at_ w B h cs) (hB : B ≤ w.heap.size) (ht : Tab Bt w) :
    Calls Tryz.prog 25 #[.agg cs.toArray] w fun e w' => e = .returned (.bool b) ∧ Below w.heap.size w w' := by
  obtain ⟨A0, n0, c0, A1, n1, c1, A2, n2, c2, rfl, -, -, -⟩ := rHouse_at hh
  obtain ⟨ga, hga⟩ : ∃ g, w.heap.size = g := ⟨_, rfl⟩
  obtain ⟨W0, hW0⟩ : ∃ W, w.alloc (.cells #[.slice A0 n0 c0, .slice A1 n1 c1, .slice A2 n2 c2] 27) = W := ⟨_, rfl⟩
  have KS0 := Lib.hid (((Mm.SepF.start w).alloc' hga 27 [.slice A0 n0 c0, .slice A1 n1 c1, .slice A2 n2 c2]).atW hW0)
  have d0 := KS0.out.cell (k := 0) 0 rfl rfl
  have d1 := KS0.out.cell (k := 1) 0 rfl rfl
  have d2 := KS0.out.cell (k := 2) 0 rfl rfl
  have CI := BoolAns.fix hb (isHouse_c h _ W0 B Bt (rHouse.keep hh fun b hb => KS0.out.bel0.block b (by omega)) (by have := KS0.out.bel0.size; omega) (ht.on KS0.out.bel0))
  clear hh
  go_enter Tryz.func25, Tryz.ntmps25
  go_wp2_with fail
  refine CI.mono ?_
  rintro e w1 ⟨rfl, hb1⟩
  have HB1 := Lib.hid (below_step KS0.out.bel0 hb1)
  clear CI d0 d1 d2
  go_wp2
  go_ret
  exact ⟨rfl, HB1.out⟩
end Go.Proofs.YtbhmdnjammnlnaaGreatDoor

namespace Go.Proofs.YtbhmdnjammnlnaaGreatDoor
open Go.RowKit
attribute [local go_sem] und_cell cha_cell World.cell?_alloc_some
namespace Pl
def rowOf (s : ByteArray) : List Row → Option Row
  | [] => none
  | r :: t => if rnm r = s then some r else rowOf s t
theorem rowOf_miss {s : ByteArray} : ∀ {l : List Row}, (∀ (i : Nat) x, l[i]? = some x → rnm x ≠ s) → rowOf s l = none
  | [], _ => rfl
  | r :: t, h => by
    unfold rowOf
    rw [if_neg (h 0 r rfl)]
    exact rowOf_miss fun i x hx => h (i + 1) x (by simpa using hx)
theorem rowOf_hit {s : ByteArray} : ∀ {l : List Row} {i : Nat} {x : Row}, RSort l → l[i]? = some x → rnm x = s → rowOf s l = some x
  | [], _, _, _, h, _ => by simp at h
  | r :: t, 0, x, _, h, e => by
    simp at h
    unfold rowOf
    rw [h, if_pos e]
  | r :: t, i + 1, x, hs, h, e => by
    unfold rowOf
    rw [if_neg (fun e2 => by
      have h1 := hs 0 (i + 1) r x (by omega) rfl h
      rw [e, e2, rless_irrefl] at h1; cases h1)]
    exact rowOf_hit hs.tail (by simpa using h) e
theorem rpos_none {s : ByteArray} {l : List Row} (hs : RSort l) (h : ∀ o, l[rpos s l]? = some o → rnm o ≠ s) : rowOf s l = none :=
  rowOf_miss fun i x hx e => by
    rcases Nat.lt_trichotomy i (rpos s l) with h1 | h1 | h1
    · have := rpos_lt s l i x h1 hx
      rw [e, rless_irrefl] at this; cases this
    · rw [h1] at hx; exact h x hx e
    · obtain ⟨y, hy⟩ : ∃ y, l[rpos s l]? = some y := ⟨_, List.getElem?_eq_getElem (by have := (List.getElem?_eq_some_iff.1 hx).1; omega)⟩
      have h2 := hs _ _ y x h1 hy hx
      rw [e] at h2
      rw [rpos_ge s l hs _ y (Nat.le_refl _) hy] at h2; cases h2
def smpsOf : Option Row → List Sample
  | none => []
  | some r => r.Samples
end Pl
def RowAns (o : Option Row) (w : World) (e : Ending) (w' : World) : Prop :=
  ∃ A n c fp, e = .returned (.tuple #[.slice A n c, .bool o.isSome]) ∧ Mm.SepF [] w w' [Mm.tsl smp 124 (Pl.smpsOf o) (.slice A n c) fp]
theorem RowAns.no {o : Option Row} (h : o = none) {w w' : World} (hb : Below w.heap.size w w') : RowAns o w (.returned (.tuple #[.slice none 0 0, .bool false])) w' := by
  subst h
  exact ⟨none, 0, 0, [], rfl, ((Mm.SepF.start w).add hb (t := Mm.tsl smp 124 [] (.slice none 0 0) []) Mm.SlOwn.nil List.nodup_nil (fun b hb => by cases hb))⟩
set_option maxRecDepth 100000 in
set_option maxHeartbeats 4000000 in
theorem implRowOf_c (h : Head) (s : ByteArray) (cs : List Value) (w : World) (B : Nat) (hh : rHead.at_ w B h cs) (hB : B ≤ w.heap.size) (hok : Pl.HeadOk h) (hs : s.size ≤ maxLen) :
    Calls Tryz.prog 41 #[.agg cs.toArray, .string s] w (RowAns (Pl.rowOf s h.Rows) w) := by
  obtain ⟨A0, n0, c0, rfl, r0, io⟩ := rHead_at hh
  have h8 : n0 ≤ 8 := by have := hok.len; have := r0.1; omega
  have HN0 : Hid (n0 = h.Rows.length) := r0.1.symm
  have R0 := Lib.hid r0
  have HBW := Lib.hid hB
  have HK := Lib.hid hok
  obtain ⟨ga, hga⟩ : ∃ g, w.heap.size = g := ⟨_, rfl⟩
  obtain ⟨W0, hW0⟩ : ∃ W, w.alloc (.cells #[.slice A0 n0 c0, .int .i64 h.Offset] 73) = W := ⟨_, rfl⟩
  have KS0 := Lib.hid (((Mm.SepF.start w).alloc' hga 73 [.slice A0 n0 c0, .int .i64 h.Offset]).atW hW0)
  have d0 := KS0.out.cell (k := 0) 0 rfl rfl
  have d1 := KS0.out.cell (k := 1) 0 rfl rfl
  have CI := BoolAns.fix (b := true) ⟨fun _ => hok, fun _ => rfl⟩ (isHead_c h _ W0 B (rHead.keep hh fun b hb => KS0.out.bel0.block b (by omega)) (by have := KS0.out.bel0.size; omega))
  clear hh r0 hok hB
  go_enter Tryz.func41, Tryz.ntmps41
  go_wp2_with fail
  refine CI.mono ?_
  rintro e w1 ⟨rfl, hb1⟩
  obtain ⟨W1, rfl⟩ : ∃ W : World, W = w1 := ⟨_, rfl⟩
  have KS1 := Lib.hid (KS0.out.step hb1)
  clear CI d0 d1 hb1 KS0 hW0 hga
  have d0 := KS1.out.cell (k := 0) 0 rfl rfl
  have d1 := KS1.out.cell (k := 1) 0 rfl rfl
  have CF := find_c h.Rows s A0 n0 c0 ga 0 W1 B (R0.out.keep fun b hb => KS1.out.bel0.block b (by have := HBW.out; omega)) (by have := KS1.out.bel0.size; have := HBW.out; omega) (by omega) HK.out.srt d0
  go_wp2_with fail
  refine CF.mono ?_
  rintro e w2 ⟨fd, rfl, hfd, hb2⟩
  obtain ⟨W2, rfl⟩ : ∃ W : World, W = w2 := ⟨_, rfl⟩
  have KS2 := Lib.hid (KS1.out.step hb2)
  have HFD := Lib.hid hfd
  clear CF d0 d1 hb2 hfd KS1
  have d0 := KS2.out.cell (k := 0) 0 rfl rfl
  have d1 := KS2.out.cell (k := 1) 0 rfl rfl
  cases fd with
  | false =>
    have HN : Hid (Pl.rowOf s h.Rows = none) := Pl.rpos_none HK.out.srt fun o ho e => by have := HFD.out.2 ⟨o, ho, e⟩; cases this
    have HBN := Lib.hid KS2.out.bel0
    go_wp2
    go_ret2
    exact RowAns.no HN.out HBN.out
  | true =>
    obtain ⟨o, ho, he⟩ := HFD.out.1 rfl
    obtain ⟨p, hp⟩ : ∃ p, Pl.rpos s h.Rows = p := ⟨_, rfl⟩
    rw [hp] at ho ⊢
    have hpn : p < n0 := by have := (List.getElem?_eq_some_iff.1 ho).1; have := HN0.out; omega
    have HN : Hid (Pl.rowOf s h.Rows = some o) := Pl.rowOf_hit HK.out.srt ho he
    obtain ⟨x, bX, off, AH, mH, dH, hx, rfl, hbX, hnm2, hrd, e0, e1⟩ := rRow_get (R0.out.keep (w' := W2) fun b hb => KS2.out.bel0.block b (by have := HBW.out; omega)) hpn
    obtain rfl : x = o := by rw [ho] at hx; injection hx with hx; exact hx.symm
    have h40 : mH ≤ 40 := by have := Pl.samplesOk_len (HK.out.row x (List.mem_of_getElem? ho)).2.2; have := hrd.1; omega
    have CC := clSmp_c x.Samples AH mH dH W2 B hrd (by omega)
    have f2 : (0 : Int) ≤ (p : Nat) := by omega
    have f3 : ((p : Nat) : Int).toNat = p := by omega
    have f4 : (p : Int) < (n0 : Nat) := by omega
    clear hx ho he hp hnm2 hrd
    go_wp2_with (go_at_call 96; refine CC.mono ?_; clear CC; rintro e w3 ⟨A2, m2, c2, fp2, rfl, ho2, hnd2, hnew2, hb3⟩; (have HS3 := Lib.hid (KS2.out.add hb3 (t := Mm.tsl smp 124 x.Samples (.slice A2 m2 c2) fp2) ho2 hnd2 hnew2)); clear ho2 hnd2 hnew2 hb3)
    go_ret2
    rw [HN.out]
    exact ⟨A2, m2, c2, fp2, rfl, HS3.out.sel [0] (by decide) rfl⟩
end Go.Proofs.YtbhmdnjammnlnaaGreatDoor

namespace Go.Proofs.YtbhmdnjammnlnaaGreatDoor
open Go.RowKit
attribute [local go_sem] und_cell cha_cell World.cell?_alloc_some
namespace Pl
theorem HouseOk.ex {h : House} (k : HouseOk h) {i : Nat} (hi : i < h.Logs.length) : ∃ g a b l, h.Logs[i]? = some g ∧ h.Heads[i]? = some a ∧ h.Kept[i]? = some b ∧ PartOk h.Logs.length i g a b l := by
  obtain ⟨l, hl⟩ := k.part i _ _ _ (List.getElem?_eq_getElem hi) (List.getElem?_eq_getElem (by rw [k.hdn]; exact hi)) (List.getElem?_eq_getElem (by rw [k.kpn]; exact hi))
  exact ⟨_, _, _, l, List.getElem?_eq_getElem hi, List.getElem?_eq_getElem (by rw [k.hdn]; exact hi), List.getElem?_eq_getElem (by rw [k.kpn]; exact hi), hl⟩
theorem PartOk.head {n k : Nat} {g : Log} {hd kp : Head} {l : List Say} (h : PartOk n k g hd kp l) : HeadOk hd := (h.hdf.ok h.sayOk (by have := h.len; omega)).1
theorem PartOk.kept {n k : Nat} {g : Log} {hd kp : Head} {l : List Say} (h : PartOk n k g hd kp l) : HeadOk kp := (h.kpf.ok h.sayOk (by have := h.len; omega)).1
theorem HouseOk.head {h : House} (k : HouseOk h) {i : Nat} {a : Head} (ha : h.Heads[i]? = some a) : HeadOk a := by
  obtain ⟨g, a', b, l, h1, h2, h3, h4⟩ := k.ex (i := i) (by have := (List.getElem?_eq_some_iff.1 ha).1; rw [k.hdn] at this; exact this)
  rw [ha] at h2; injection h2 with h2; subst h2; exact h4.head
def askHd (h : House) (s : ByteArray) : Head := h.Heads.getD (partN (h.Logs.length : Int) s).toNat ⟨[], 0⟩
def askOf (b : Bool) (h : House) (s : ByteArray) (wait : Int) : List Sample × Bool × Bool :=
  if b = true ∧ word false s.data.toList = true ∧ isIn wait 0 60 = true then
    if (askHd h s).Offset < wait then ([], false, true) else (smpsOf (rowOf s (askHd h s).Rows), true, true)
  else ([], false, false)
theorem askOf_no {b : Bool} {h : House} {s : ByteArray} {wait : Int} (k : ¬ (b = true ∧ word false s.data.toList = true ∧ isIn wait 0 60 = true)) : askOf b h s wait = ([], false, false) := if_neg k
theorem askHd_at {h : House} {s : ByteArray} {k : Nat} {a : Head} (hk : partN (h.Logs.length : Int) s = (k : Nat)) (ha : h.Heads[k]? = some a) : askHd h s = a := by
  unfold askHd
  rw [hk, List.getD_eq_getElem?_getD, Int.toNat_natCast, ha]; rfl
end Pl
def AskAns (x : List Sample × Bool × Bool) (w : World) (e : Ending) (w' : World) : Prop :=
  ∃ A n c fp, e = .returned (.tuple #[.slice A n c, .bool x.2.1, .bool x.2.2]) ∧ Mm.SepF [] w w' [Mm.tsl smp 124 x.1 (.slice A n c) fp]
theorem AskAns.no {x : List Sample × Bool × Bool} {b : Bool} (h : x = ([], false, b)) {w w' : World} (hb : Below w.heap.size w w') : AskAns x w (.returned (.tuple #[.slice none 0 0, .bool false, .bool b])) w' := by
  subst h
  exact ⟨none, 0, 0, [], rfl, ((Mm.SepF.start w).add hb (t := Mm.tsl smp 124 [] (.slice none 0 0) []) Mm.SlOwn.nil List.nodup_nil (fun b hb => by cases hb))⟩
set_option maxRecDepth 100000 in
set_option maxHeartbeats 4000000 in
theorem implAskHouse_c (h : House) (b : Bool) (hb : b = true ↔ Pl.HouseOk h) (Bt : Nat) (cs : List Value) (s : ByteArray) (wait : Int) (w : World) (B : Nat) (hh : rHouse.at_ w B h cs) (hB : B ≤ w.heap.size) (ht : Tab Bt w) (hs : s.size ≤ maxLen) :
    Calls Tryz.prog 33 #[.agg cs.toArray, .string s, .int .i64 wait] w (AskAns (Pl.askOf b h s wait) w) := by
  obtain ⟨A0, n0, c0, A1, n1, c1, A2, n2, c2, rfl, r0, r1, r2⟩ := rHouse_at hh
  have HNN : Hid (h.Logs.length = n0) := r0.1
  have HNH : Hid (h.Heads.length = n1) := r1.1
  have R1 := Lib.hid r1
  have HBW := Lib.hid hB
  have HBO := Lib.hid hb
  obtain ⟨ga, hga⟩ : ∃ g, w.heap.size = g := ⟨_, rfl⟩
  obtain ⟨W0, hW0⟩ : ∃ W, w.alloc (.cells #[.slice A0 n0 c0, .slice A1 n1 c1, .slice A2 n2 c2] 27) = W := ⟨_, rfl⟩
  have KS0 := Lib.hid (((Mm.SepF.start w).alloc' hga 27 [.slice A0 n0 c0, .slice A1 n1 c1, .slice A2 n2 c2]).atW hW0)
  have d0 := KS0.out.cell (k := 0) 0 rfl rfl
  have d1 := KS0.out.cell (k := 1) 0 rfl rfl
  have d2 := KS0.out.cell (k := 2) 0 rfl rfl
  have CG := (BoolAns.fix hb (isHouse_c h _ W0 B Bt (rHouse.keep hh fun b hb => KS0.out.bel0.block b (by omega)) (by have := KS0.out.bel0.size; omega) (ht.on KS0.out.bel0)))
  clear hh r0 r1 r2 hb hB
  go_enter Tryz.func33, Tryz.ntmps33
  go_wp2_with fail
  refine CG.mono ?_
  rintro e w1 ⟨rfl, hb1⟩
  obtain ⟨W1, rfl⟩ : ∃ W : World, W = w1 := ⟨_, rfl⟩
  have HS1 := Lib.hid (KS0.out.step hb1)
  have HB1 := Lib.hid HS1.out.bel0
  clear CG d0 d1 d2 hb1 KS0 hW0 hga
  have d0 := HS1.out.cell (k := 0) 0 rfl rfl
  have d1 := HS1.out.cell (k := 1) 0 rfl rfl
  obtain ⟨wd, hwd⟩ : ∃ z, Pl.word false s.data.toList = z := ⟨_, rfl⟩
  obtain ⟨inb, hin⟩ : ∃ z, Pl.isIn wait 0 60 = z := ⟨_, rfl⟩
  have CW := isWord_c s false W1 hs
  rw [hwd] at CW
  have CI := within_isJ hin W1
  have HWD := Lib.hid hwd
  have HIN := Lib.hid hin
  clear hwd hin
  cases b with
  | false =>
    have HN : Hid (Pl.askOf false h s wait = ([], false, false)) := Pl.askOf_no (fun hh => by cases hh.1)
    go_wp2_with (first | (go_at_call 85; (with_reducible refine CW.mono ?_); rintro e w' ⟨rfl, rfl⟩) | (go_at_call 55; (with_reducible refine CI.mono ?_); rintro e w' ⟨rfl, rfl⟩))
    go_ret3
    exact AskAns.no HN.out HB1.out
  | true =>
    cases wd with
    | false =>
      have HN : Hid (Pl.askOf true h s wait = ([], false, false)) := Pl.askOf_no (fun hh => by have := HWD.out.symm.trans hh.2.1; cases this)
      go_wp2_with (first | (go_at_call 85; (with_reducible refine CW.mono ?_); rintro e w' ⟨rfl, rfl⟩) | (go_at_call 55; (with_reducible refine CI.mono ?_); rintro e w' ⟨rfl, rfl⟩))
      go_ret3
      exact AskAns.no HN.out HB1.out
    | true =>
      cases inb with
      | false =>
        have HN : Hid (Pl.askOf true h s wait = ([], false, false)) := Pl.askOf_no (fun hh => by have := HIN.out.symm.trans hh.2.2; cases this)
        go_wp2_with (first | (go_at_call 85; (with_reducible refine CW.mono ?_); rintro e w' ⟨rfl, rfl⟩) | (go_at_call 55; (with_reducible refine CI.mono ?_); rintro e w' ⟨rfl, rfl⟩))
        go_ret3
        exact AskAns.no HN.out HB1.out
      | true =>
        have HK := Lib.hid (HBO.out.1 rfl)
        obtain rfl : n1 = n0 := by have := HK.out.hdn; have := HNN.out; have := HNH.out; omega
        have hn1 : 1 ≤ n1 ∧ n1 ≤ 3 := by have := HK.out.n1; have := HK.out.n3; have := HNN.out; omega
        have hn1' : (1 : Int) ≤ (n1 : Nat) := by omega
        have hn0 : ¬ ((n1 : Nat) : Int) = 0 := by omega
        have CH := fun z : World => hashText_c s z hs
        have hh := Pl.hash_bd s.data.toList
        have HPN : Hid (Pl.partN (n1 : Int) s = Pl.hash s.data.toList % (n1 : Int)) := rfl
        obtain ⟨hv, hhv⟩ : ∃ v, Pl.hash s.data.toList = v := ⟨_, rfl⟩
        rw [hhv] at hh HPN
        simp only [hhv] at CH
        obtain ⟨hh1, hh2⟩ := hh
        have htm : hv.tmod (n1 : Int) = hv % (n1 : Int) := Int.tmod_eq_emod_of_nonneg hh1
        obtain ⟨k, hk⟩ : ∃ k : Nat, hv % (n1 : Int) = k := ⟨(hv % (n1 : Int)).toNat, by have := Int.emod_nonneg hv (b := (n1 : Int)) (by omega); omega⟩
        have hkn : k < n1 := by have := Int.emod_lt_of_pos hv (b := (n1 : Int)) (by omega); omega
        rw [hk] at htm HPN
        obtain ⟨x, bX, oX, AH, mH, dH, hx, rfl, hbX, hrp, hbg, e0, e1⟩ := rHead_get (R1.out.keep (w' := W1) fun b hb => HS1.out.bel0.block b (by have := HBW.out; omega)) hkn
        have HAT := Lib.hid (rHead_at_mk hrp hbg)
        have HX : Hid (Pl.askHd h s = x) := Pl.askHd_at (by rw [HNN.out]; exact HPN.out) hx
        have HXK := Lib.hid (HK.out.head hx)
        have f2 : (0 : Int) ≤ (k : Nat) := by omega
        have f3 : ((k : Nat) : Int).toNat = k := by omega
        have f4 : (k : Int) < (n1 : Nat) := by omega
        clear hhv hk hrp hbg hx
        go_upto_region 3 with (first | (go_at_call 85; (with_reducible refine CW.mono ?_); rintro e w' ⟨rfl, rfl⟩) | (go_at_call 55; (with_reducible refine CI.mono ?_); rintro e w' ⟨rfl, rfl⟩))
        clear CW CI
        refine Mm.wp_region_give 11 (fun i => match i with | 3 => some (Mm.gVal (.int .i64 hv)) | 10 => some (Mm.gPtr 73 [.slice none 0 0, .int .i64 0]) | _ => none) (fun _ => []) (fun _ => []) (F := []) (D := fun w' => ∃ x : Und W1, w' = und W1 x) (fun X us h => Mm.sep_und h) (by kernel_rfl) (by kernel_rfl) (by kernel_rfl) (Mm.SepF.startDrew _) ?_
        repeat (refine Mm.give_det (by rfl) (by rfl) (by rfl) (fun K hK => ?_); go_big_quiet_op; refine hK _ ?_; clear hK K)
        refine Mm.give_op0 28 (by rfl) rfl (by rfl) (by rfl) (by rfl) (by rfl) ⟨_, _, rfl, rfl⟩ (fun others X hX => ?_) ?_
        · go_wp2_with (go_at_call 86; (with_reducible refine (CH _).mono ?_); rintro e w' ⟨rfl, rfl⟩)
          exact Mm.gvq_val hX (Below.refl _ _) rfl rfl
        rintro v ds ⟨rfl, rfl⟩
        simp only [Act.put, List.setIfInBounds_toArray, List.set_cons_succ, List.set_cons_zero]
        repeat (refine Mm.give_det (by rfl) (by rfl) (by rfl) (fun K hK => ?_); go_big_quiet_op; refine hK _ ?_; clear hK K)
        refine Mm.give_op0 9 (by rfl) rfl (by rfl) (by rfl) (by rfl) (by rfl) Mm.gPtr_in (fun others X hX => ?_) ?_
        · go_wp2
          exact Mm.gvq_ptr hX rfl rfl rfl
        rintro v ds ⟨gp, rfl, rfl⟩
        simp only [Act.put, List.setIfInBounds_toArray, List.set_cons_succ, List.set_cons_zero]
        repeat (refine Mm.give_det (by rfl) (by rfl) (by rfl) (fun K hK => ?_); go_big_quiet_op; refine hK _ ?_; clear hK K)
        refine Mm.give_nil ?_
        rintro X hX
        have HSX := Lib.hid (HS1.out.join (us := [Mm.tblk gp 73 [.slice none 0 0, .int .i64 0]]) hX)
        clear hX d0 d1 e0 e1 CH
        have b0 := HSX.out.cell (k := 0) 0 rfl rfl
        have b1 := HSX.out.cell (k := 1) 0 rfl rfl
        have y0 := HSX.out.frz (k := 0) 0 rfl
        have y1 := HSX.out.frz (k := 1) 0 rfl
        go_upto_region 4 with fail
        obtain ⟨WN, hWN⟩ : ∃ W, (X.setCell ⟨gp, 0, none⟩ (.slice AH mH dH)).setCell ⟨gp, 1, none⟩ (.int .i64 x.Offset) = W := ⟨_, rfl⟩
        have HSN := Lib.hid (((HSX.out.setBlk (k := 0) 0 rfl (.slice AH mH dH)).setBlk (k := 1) 0 rfl (.int .i64 x.Offset)).atW hWN)
        rw [hWN]
        clear hWN HSX b0 b1 y0 y1
        have b0 := HSN.out.cell (k := 0) 0 rfl rfl
        have b1 := HSN.out.cell (k := 1) 0 rfl rfl
        by_cases hof : x.Offset < wait
        · have HN : Hid (Pl.askOf true h s wait = ([], false, true)) := by
            unfold Pl.askOf
            show _ = _
            rw [if_pos ⟨rfl, HWD.out, HIN.out⟩, HX.out, if_pos hof]
          have HBN := Lib.hid HSN.out.bel0
          go_wp2
          go_ret3
          exact AskAns.no HN.out HBN.out
        · have HN : Hid (Pl.askOf true h s wait = (Pl.smpsOf (Pl.rowOf s x.Rows), true, true)) := by
            unfold Pl.askOf
            show _ = _
            rw [if_pos ⟨rfl, HWD.out, HIN.out⟩, HX.out, if_neg hof]
          have CR := implRowOf_c x s [.slice AH mH dH, .int .i64 x.Offset] WN B (rHead.keep HAT.out fun b hb => (HSN.out.bel0.block b (by have := HBW.out; omega)).trans (HS1.out.bel0.block b (by have := HBW.out; omega)).symm) (by have := HSN.out.bel0.size; have := HBW.out; omega) HXK.out hs
          go_wp2_with (go_at_call 41; (with_reducible refine CR.mono ?_); clear CR; rintro e w5 ⟨A5, n5, c5, f5, rfl, hS5⟩; (have HS5 := Lib.hid (HSN.out.join hS5)); clear hS5)
          go_ret3
          rw [HN.out]
          exact ⟨A5, n5, c5, f5, rfl, HS5.out.sel [0] (by decide) rfl⟩
end Go.Proofs.YtbhmdnjammnlnaaGreatDoor

namespace Go.Proofs.YtbhmdnjammnlnaaGreatDoor
open Go.RowKit
namespace Pl
theorem FoldOf.mono {h : Head} {l : List Say} (k : FoldOf h l) (x : Say) : FoldOf h (l ++ [x]) := by
  obtain ⟨m, hm, rfl⟩ := k
  exact ⟨m, by rw [List.length_append]; omega, by rw [List.take_append_of_le_length hm]⟩
theorem FoldOf.next {h : Head} {l : List Say} (k : FoldOf h l) {x : Say} (hx : l[h.Offset.toNat]? = some x) : FoldOf (takeS h x).1 l := by
  obtain ⟨m, hm, rfl⟩ := k
  have h1 := fold_off0 l m hm
  rw [h1, Int.toNat_natCast] at hx
  have h2 := (List.getElem?_eq_some_iff.1 hx).1
  exact ⟨m + 1, h2, by rw [Mm.take_succ_some hx, foldS_snoc]⟩
theorem logOut_from {g : Log} {s : ByteArray} (h : LogOk g) : from0 (logOut g s).Pieces = from0 g.Pieces := by
  have h1 := h.len.1
  obtain ⟨ps, bg⟩ := g
  dsimp only at h1
  cases ps with
  | nil => simp at h1
  | cons p t =>
    unfold logOut
    split
    · rfl
    · cases t with
      | nil => rfl
      | cons q t => rfl
theorem PartOk.next {n k : Nat} {g : Log} {a b : Head} {l : List Say} (h : PartOk n k g a b l) {x : Say} (hx : l[a.Offset.toNat]? = some x) : PartOk n k g (takeS a x).1 b l :=
  ⟨h.log, h.fr, h.bg, h.txt, h.hdf.next hx, h.kpf, by rw [takeS_off]; have := h.le; omega⟩
theorem PartOk.keep {n k : Nat} {g : Log} {a b : Head} {l : List Say} (h : PartOk n k g a b l) : PartOk n k g a a l := ⟨h.log, h.fr, h.bg, h.txt, h.hdf, h.hdf, Int.le_refl _⟩
theorem PartOk.lose {n k : Nat} {g : Log} {a b : Head} {l : List Say} (h : PartOk n k g a b l) : PartOk n k g b b l := ⟨h.log, h.fr, h.bg, h.txt, h.kpf, h.kpf, Int.le_refl _⟩
theorem PartOk.tell {n k : Nat} {g : Log} {a b : Head} {l : List Say} (h : PartOk n k g a b l) {x : Say} (hx : Pl.sayOk x = true) (hp : partN n x.Name = k) (ho : appOk g (sayTxt x) = true) : PartOk n k (logOut g (sayTxt x)) a b (l ++ [x]) := by
  obtain ⟨h20, hok⟩ := (appOk_iff h.log).1 ho
  refine ⟨hok, by rw [logOut_from h.log]; exact h.fr, by rw [logOut_bg]; exact h.bg, saysOf_iff.2 ⟨?_, fun y hy => ?_⟩, h.hdf.mono x, h.kpf.mono x, h.le⟩
  · rw [logOut_recs h.log h20, h.says.1, List.map_append]; rfl
  · rcases List.mem_append.1 hy with hy | hy
    · exact h.says.2 y hy
    · rw [List.mem_singleton] at hy; subst hy; exact ⟨hx, hp⟩
theorem HouseOk.upd {h h' : House} (H : HouseOk h) (k : Nat) (e0 : h'.Logs.length = h.Logs.length) (e1 : h'.Heads.length = h.Heads.length) (e2 : h'.Kept.length = h.Kept.length)
    (o0 : ∀ i, i ≠ k → h'.Logs[i]? = h.Logs[i]?) (o1 : ∀ i, i ≠ k → h'.Heads[i]? = h.Heads[i]?) (o2 : ∀ i, i ≠ k → h'.Kept[i]? = h.Kept[i]?)
    (hp : ∀ g a b, h'.Logs[k]? = some g → h'.Heads[k]? = some a → h'.Kept[k]? = some b → ∃ l, PartOk h.Logs.length k g a b l) : HouseOk h' := by
  refine ⟨by rw [e0]; exact H.n1, by rw [e0]; exact H.n3, by rw [e0, e1]; exact H.hdn, by rw [e0, e2]; exact H.kpn, fun i g a b hg ha hb => ?_⟩
  rw [e0]
  by_cases hi : i = k
  · subst hi; exact hp g a b hg ha hb
  · rw [o0 i hi] at hg
    rw [o1 i hi] at ha
    rw [o2 i hi] at hb
    exact H.part i g a b hg ha hb
theorem set_ne {α : Type} {l : List α} {k : Nat} {x : α} : ∀ i, i ≠ k → (l.set k x)[i]? = l[i]? := fun i hi => List.getElem?_set_ne (fun e => hi e.symm)
theorem set_me {α : Type} {l : List α} {k : Nat} {x y : α} (h : (l.set k x)[k]? = some y) : y = x := by
  have h1 := (List.getElem?_eq_some_iff.1 h).1
  rw [List.length_set] at h1
  rw [List.getElem?_set_self h1] at h
  injection h with h
  exact h.symm
def zSay : Say := ⟨⟨#[]⟩, 0, 0⟩
def noSay (x : Say) : Bool := decide (x.Name.size = 0) && decide (x.At = 0) && decide (x.Value = 0)
def zLog : Log := ⟨[], 0⟩
def zHead : Head := ⟨[], 0⟩
def sayAt (g : Log) (m : Nat) : Say := (readS ((lRecs g.Pieces).getD m ⟨#[]⟩)).getD zSay
def logK (h : House) (k : Nat) : Log := h.Logs.getD k zLog
def headK (h : House) (k : Nat) : Head := h.Heads.getD k zHead
def keptK (h : House) (k : Nat) : Head := h.Kept.getD k zHead
theorem getDz {α : Type} {l : List α} {k : Nat} {x z : α} (h : l[k]? = some x) : l.getD k z = x := by rw [List.getD_eq_getElem?_getD, h]; rfl
theorem logK_of {h : House} {k : Nat} {g : Log} (hg : h.Logs[k]? = some g) : logK h k = g := getDz hg
theorem headK_of {h : House} {k : Nat} {a : Head} (ha : h.Heads[k]? = some a) : headK h k = a := getDz ha
theorem keptK_of {h : House} {k : Nat} {a : Head} (ha : h.Kept[k]? = some a) : keptK h k = a := getDz ha
def followS (h : House) (k : Nat) : House × Bool :=
  if (headK h k).Offset < (lRecs (logK h k).Pieces).length then (⟨h.Logs, h.Heads.set k (takeS (headK h k) (sayAt (logK h k) (headK h k).Offset.toNat)).1, h.Kept⟩, true) else (h, false)
theorem sayAt_of {n k : Nat} {g : Log} {a b : Head} {l : List Say} (h : PartOk n k g a b l) {m : Nat} (hm : m < (lRecs g.Pieces).length) : ∃ x, l[m]? = some x ∧ sayAt g m = x ∧ (lRecs g.Pieces)[m]? = some (sayTxt x) ∧ readS (sayTxt x) = some x := by
  have h1 := h.says.1
  rw [h1, List.length_map] at hm
  have h2 : l[m]? = some l[m] := List.getElem?_eq_getElem hm
  have h3 : (lRecs g.Pieces)[m]? = some (sayTxt l[m]) := by rw [h1, List.getElem?_map, h2]; rfl
  have h4 := readS_of (h.sayOk _ (List.mem_of_getElem? h2))
  exact ⟨l[m], h2, by unfold sayAt; rw [List.getD_eq_getElem?_getD, h3]; show (readS (sayTxt l[m])).getD zSay = _; rw [h4]; rfl, h3, h4⟩
theorem HouseOk.follow {h : House} (H : HouseOk h) (k : Nat) : HouseOk (followS h k).1 := by
  unfold followS
  split
  · rename_i hc
    refine H.upd k rfl (List.length_set) rfl (fun _ _ => rfl) set_ne (fun _ _ => rfl) fun g a b hg ha hb => ?_
    dsimp only at hg ha hb
    have hk : k < h.Logs.length := (List.getElem?_eq_some_iff.1 hg).1
    obtain ⟨g', a', b', l, h1, h2, h3, h4⟩ := H.ex hk
    rw [hg] at h1; injection h1 with h1; subst h1
    rw [hb] at h3; injection h3 with h3; subst h3
    rw [logK_of hg, headK_of h2] at hc
    have ho := h4.head.off
    obtain ⟨x, hx, hs, -, -⟩ := sayAt_of h4 (m := a'.Offset.toNat) (by omega)
    rw [set_me ha, logK_of hg, headK_of h2, hs]
    exact ⟨l, h4.next hx⟩
  · exact H
def stepS (h : House) (s : HouseStep) : House × Bool :=
  if 0 ≤ s.Part ∧ s.Part < h.Logs.length then
    if s.Kind = 1 then
      if sayOk s.What = true ∧ partN h.Logs.length s.What.Name = s.Part ∧ appOk (logK h s.Part.toNat) (sayTxt s.What) = true then (⟨h.Logs.set s.Part.toNat (logOut (logK h s.Part.toNat) (sayTxt s.What)), h.Heads, h.Kept⟩, true) else (h, false)
    else if noSay s.What = true then
      if s.Kind = 2 then followS h s.Part.toNat
      else if s.Kind = 3 then (⟨h.Logs, h.Heads, h.Kept.set s.Part.toNat (headK h s.Part.toNat)⟩, true)
      else if s.Kind = 4 then (⟨h.Logs, h.Heads.set s.Part.toNat (keptK h s.Part.toNat), h.Kept⟩, true)
      else (h, false)
    else (h, false)
  else (h, false)
theorem HouseOk.step {h : House} (H : HouseOk h) (s : HouseStep) : HouseOk (stepS h s).1 := by
  unfold stepS
  split
  · rename_i hp
    obtain ⟨k, hk⟩ : ∃ k : Nat, s.Part = k := ⟨s.Part.toNat, by omega⟩
    have hkn : k < h.Logs.length := by omega
    obtain ⟨g, a, b, l, h1, h2, h3, h4⟩ := H.ex hkn
    rw [hk, Int.toNat_natCast]
    split
    · split
      · rename_i hc
        refine H.upd k (List.length_set) rfl rfl set_ne (fun _ _ => rfl) (fun _ _ => rfl) fun g' a' b' hg' ha' hb' => ?_
        dsimp only at hg' ha' hb'
        rw [h2] at ha'; injection ha' with ha'; subst ha'
        rw [h3] at hb'; injection hb' with hb'; subst hb'
        rw [logK_of h1] at hc
        rw [set_me hg', logK_of h1]
        exact ⟨_, h4.tell hc.1 hc.2.1 hc.2.2⟩
      · exact H
    · split
      · split
        · exact H.follow k
        · split
          · refine H.upd k rfl rfl (List.length_set) (fun _ _ => rfl) (fun _ _ => rfl) set_ne fun g' a' b' hg' ha' hb' => ?_
            dsimp only at hg' ha' hb'
            rw [h1] at hg'; injection hg' with hg'; subst hg'
            rw [h2] at ha'; injection ha' with ha'; subst ha'
            rw [set_me hb', headK_of h2]
            exact ⟨l, h4.keep⟩
          · split
            · refine H.upd k rfl (List.length_set) rfl (fun _ _ => rfl) set_ne (fun _ _ => rfl) fun g' a' b' hg' ha' hb' => ?_
              dsimp only at hg' ha' hb'
              rw [h1] at hg'; injection hg' with hg'; subst hg'
              rw [h3] at hb'; injection hb' with hb'; subst hb'
              rw [set_me ha', keptK_of h3]
              exact ⟨l, h4.lose⟩
            · exact H
      · exact H
  · exact H
end Pl
end Go.Proofs.YtbhmdnjammnlnaaGreatDoor

namespace Go.Proofs.YtbhmdnjammnlnaaGreatDoor
open Go.RowKit
attribute [local go_sem] und_cell cha_cell World.cell?_alloc_some
theorem Tryz.infoLogY : (Tryz.prog.info? 80).map (fun i => (i.zero, i.size, i.bytes)) = some (some (.agg #[.slice none 0 0, .int .i64 0]), 2, 32) := by kernel_rfl
theorem Tryz.infoHeadY : (Tryz.prog.info? 73).map (fun i => (i.zero, i.size, i.bytes)) = some (some (.agg #[.slice none 0 0, .int .i64 0]), 2, 32) := by kernel_rfl
structure Pl.HoS (h : House) : Prop where
  n3 : h.Logs.length ≤ 3
  hdn : h.Heads.length = h.Logs.length
  kpn : h.Kept.length = h.Logs.length
  lg : ∀ g, g ∈ h.Logs → Pl.LS g
  hd : ∀ a, a ∈ h.Heads → Pl.HW a
  kp : ∀ a, a ∈ h.Kept → Pl.HW a
theorem Pl.HouseOk.hos {h : House} (k : Pl.HouseOk h) : Pl.HoS h := by
  have ex : ∀ i, i < h.Logs.length → ∃ g a b, h.Logs[i]? = some g ∧ h.Heads[i]? = some a ∧ h.Kept[i]? = some b := fun i hi =>
    ⟨_, _, _, List.getElem?_eq_getElem hi, List.getElem?_eq_getElem (by rw [k.hdn]; exact hi), List.getElem?_eq_getElem (by rw [k.kpn]; exact hi)⟩
  refine ⟨k.n3, k.hdn, k.kpn, fun g hg => ?_, fun a ha => ?_, fun a ha => ?_⟩
  · obtain ⟨i, hi⟩ := List.getElem?_of_mem hg
    obtain ⟨g', a, b, h1, h2, h3⟩ := ex i (List.getElem?_eq_some_iff.1 hi).1
    obtain ⟨l, hl⟩ := k.part i g a b hi h2 h3
    exact hl.log.ls
  · obtain ⟨i, hi⟩ := List.getElem?_of_mem ha
    obtain ⟨g', a', b, h1, h2, h3⟩ := ex i (by rw [← k.hdn]; exact (List.getElem?_eq_some_iff.1 hi).1)
    obtain ⟨l, hl⟩ := k.part i g' a b h1 hi h3
    exact (hl.hdf.ok hl.sayOk (by have := hl.len; omega)).1.hw
  · obtain ⟨i, hi⟩ := List.getElem?_of_mem ha
    obtain ⟨g', a', b, h1, h2, h3⟩ := ex i (by rw [← k.kpn]; exact (List.getElem?_eq_some_iff.1 hi).1)
    obtain ⟨l, hl⟩ := k.part i g' a' a h1 h2 hi
    exact (hl.kpf.ok hl.sayOk (by have := hl.len; omega)).1.hw
def gLgA (x : Log) : Mm.Rel := fun _ _ v ds => ∃ A n c f, v = .agg #[.slice A n c, .int .i64 x.Begin] ∧ ds = [Mm.tow rLog x [.slice A n c, .int .i64 x.Begin] f]
theorem gLgA_in {x : Log} {vals : List Value} {tk : List Mm.Thing} : ∃ v ds, gLgA x vals tk v ds := ⟨_, _, none, 0, 0, [], rfl, rfl⟩
def gLgE (x : Log) : Mm.Rel := fun _ _ v ds => ∃ g A n c f, v = .slice (some ⟨g, 0, none⟩) 1 1 ∧ ds = [Mm.tblk g 80 [.slice A n c, .int .i64 x.Begin], Mm.tow rLog x [.slice A n c, .int .i64 x.Begin] f]
theorem gLgE_in {x : Log} {vals : List Value} {tk : List Mm.Thing} : ∃ v ds, gLgE x vals tk v ds := ⟨_, _, 0, none, 0, 0, [], rfl, rfl⟩
def gHdE (x : Head) : Mm.Rel := fun _ _ v ds => ∃ g A n c f, v = .slice (some ⟨g, 0, none⟩) 1 1 ∧ ds = [Mm.tblk g 73 [.slice A n c, .int .i64 x.Offset], Mm.tow rHead x [.slice A n c, .int .i64 x.Offset] f]
theorem gHdE_in {x : Head} {vals : List Value} {tk : List Mm.Thing} : ∃ v ds, gHdE x vals tk v ds := ⟨_, _, 0, none, 0, 0, [], rfl, rfl⟩
theorem Mm.SepF.nd3 {F : List Nat} {w0 wr : World} {t0 t1 t2 : Mm.Thing} {ts : List Mm.Thing} (h : Mm.SepF F w0 wr (t0 :: t1 :: t2 :: ts)) : (t0.fp ++ (t1.fp ++ t2.fp)).Nodup := by
  have := h.nd
  rw [List.flatMap_cons, List.flatMap_cons, List.flatMap_cons, ← List.append_assoc, ← List.append_assoc, List.append_assoc t0.fp] at this
  exact (List.nodup_append.1 this).1
set_option maxRecDepth 100000 in
set_option maxHeartbeats 8000000 in
theorem cloneHouse_c (h : House) (cs : List Value) (w : World) (B : Nat) (hh : rHouse.at_ w B h cs) (hB : B ≤ w.heap.size) (hs : Pl.HoS h) :
    Calls Tryz.prog 79 #[.agg cs.toArray] w (Mm.NewAg rHouse w h) := by
  obtain ⟨A0, n0, c0, A1, n1, c1, A2, n2, c2, rfl, r0, r1, r2⟩ := rHouse_at hh
  have R0 := Lib.hid r0
  have R1 := Lib.hid r1
  have R2 := Lib.hid r2
  have HS0 := Lib.hid hs
  have HNN : Hid (h.Logs.length = n0) := r0.1
  obtain rfl : n1 = n0 := by have h1 := r1.1; have h2 := r0.1; have := hs.hdn; omega
  obtain rfl : n2 = n1 := by have h1 := r2.1; have h2 := r0.1; have := hs.kpn; omega
  obtain ⟨n0, rfl⟩ : ∃ n, n = n2 := ⟨_, rfl⟩
  have HNH : Hid (h.Heads.length = n0) := r1.1
  have HNK : Hid (h.Kept.length = n0) := r2.1
  have hn3 : n0 ≤ 3 := by have := hs.n3; have := r0.1; omega
  have HBW := Lib.hid hB
  obtain ⟨iL, qL, qL0, qL1, qL2⟩ := info_parts Tryz.infoLogY
  obtain ⟨iH, qH, qH0, qH1, qH2⟩ := info_parts Tryz.infoHeadY
  clear hh r0 r1 r2 hs hB
  obtain ⟨ga, hga⟩ : ∃ g, w.heap.size = g := ⟨_, rfl⟩
  obtain ⟨gc, hgc⟩ : ∃ g, ga + 1 = g := ⟨_, rfl⟩
  obtain ⟨gp, hgp⟩ : ∃ g, gc + 1 = g := ⟨_, rfl⟩
  obtain ⟨W0, hW0⟩ : ∃ W, ((w.alloc (.cells #[.slice A0 n0 c0, .slice A1 n0 c1, .slice A2 n0 c2] 27)).alloc (.cells #[.slice none 0 0, .slice none 0 0, .slice none 0 0] 27)).alloc (.cells #[.slice none 0 0, .slice none 0 0, .slice none 0 0] 27) = W := ⟨_, rfl⟩
  have KS0 := Lib.hid ((((((Mm.SepF.start w).alloc' hga 27 [.slice A0 n0 c0, .slice A1 n0 c1, .slice A2 n0 c2]).alloc' (g := gc) (by rw [Mm.sz1, hga, hgc]) 27 [.slice none 0 0, .slice none 0 0, .slice none 0 0]).alloc' (g := gp) (by rw [Mm.sz1, Mm.sz1, hga, hgc, hgp]) 27 [.slice none 0 0, .slice none 0 0, .slice none 0 0])).atW hW0)
  have KS := Lib.hid (((KS0.out.add (Below.refl _ _) (t := Mm.tsl rHead 73 [] (.slice none 0 0) []) Mm.SlOwn.nil List.nodup_nil (fun b hb => by cases hb)).add (Below.refl _ _) (t := Mm.tsl rHead 73 [] (.slice none 0 0) []) Mm.SlOwn.nil List.nodup_nil (fun b hb => by cases hb)).add (Below.refl _ _) (t := Mm.tsl rLog 80 [] (.slice none 0 0) []) Mm.SlOwn.nil List.nodup_nil (fun b hb => by cases hb))
  have d0 := KS0.out.cell (k := 0) 2 rfl rfl
  go_enter Tryz.func79, Tryz.ntmps79
  go_upto_region 3 with fail
  clear hW0 hga hgc hgp d0 KS0
  go_loopg [9] n0 (fun gg i wr => ∃ (k : Nat) (AL : Option Addr) (cL : Nat) (fL : List Nat) (AH : Option Addr) (cH : Nat) (fH : List Nat) (AK : Option Addr) (cK : Nat) (fK : List Nat), n0 - k ≤ gg ∧ k ≤ n0 ∧ i = .int .i64 k ∧ Hid (Mm.SepF [] w wr [Mm.tsl rLog 80 (h.Logs.take k) (.slice AL k cL) fL, Mm.tsl rHead 73 (h.Heads.take k) (.slice AH k cH) fH, Mm.tsl rHead 73 (h.Kept.take k) (.slice AK k cK) fK, Mm.tblk gp 27 [.slice AL k cL, .slice AH k cH, .slice AK k cK], Mm.tblk gc 27 [.slice none 0 0, .slice none 0 0, .slice none 0 0], Mm.tblk ga 27 [.slice A0 n0 c0, .slice A1 n0 c1, .slice A2 n0 c2]]))
  case atStart => exact ⟨0, none, 0, [], none, 0, [], none, 0, [], Nat.le_refl _, Nat.zero_le _, rfl, KS.out⟩
  case round =>
    clear KS
    obtain ⟨k, AL, cL, fL, AH, cH, fH, AK, cK, fK, hgk, hk', rfl, HS⟩ := hrel
    obtain ⟨W, rfl⟩ : ∃ W : World, W = wr := ⟨_, rfl⟩
    by_cases hlt : k < n0
    · have fc : (k : Int) < (n0 : Nat) := by omega
      have hbw := Lib.hid (fun b (hb : b < B) => HS.out.bel0.block b (by have := HBW.out; omega))
      obtain ⟨x, bX, oX, AY, mY, dY, hx, rfl, hbX, hrp, hbg, e0, e1⟩ := rLog_get (R0.out.keep (w' := W) hbw.out) hlt
      have HNX := Lib.hid (Mm.take_succ_some hx)
      have HWX := Lib.hid (HS0.out.lg x (List.mem_of_getElem? hx))
      have HAT0 := Lib.hid (rLog_at_mk hrp hbg)
      obtain ⟨gl, hgl⟩ : ∃ g, W.heap.size = g := ⟨_, rfl⟩
      obtain ⟨WI, hWI⟩ : ∃ V, W.alloc (.cells #[.slice AY mY dY, .int .i64 x.Begin] 80) = V := ⟨_, rfl⟩
      have HSI := Lib.hid (((HS.out.alloc' hgl 80 [.slice AY mY dY, .int .i64 x.Begin]).sel [1, 2, 3, 4, 5, 6, 0] (by decide) rfl).atW hWI)
      have hbI : Below W.heap.size W WI := by rw [← hWI]; exact below_new (Below.refl _ _) _
      have HXAT : Hid (rLog.at_ WI B x [.slice AY mY dY, .int .i64 x.Begin]) := rLog.keep HAT0.out fun b hb => hbI.block b (by have := HBW.out; have := HS.out.bel0.size; omega)
      have nL : gl ∉ fL := fun hh => HSI.out.apart (i := 6) (j := 0) rfl rfl (by decide) gl (by simp [Mm.tblk]) hh
      go_upto_region 5 with fail
      clear hWI hgl e0 e1 hx hrp hbg hbI HS HAT0
      have q0 := HSI.out.cell (k := 0) 6 rfl rfl
      have q1 := HSI.out.cell (k := 1) 6 rfl rfl
      have b0 := HSI.out.cell (k := 0) 3 rfl rfl
      have nF : ∀ b, b < B → b ∉ fL := fun b hb hh => by
        rcases (HSI.out.slnew 0 rfl b hh).1 with h | h
        · cases h
        · have := HBW.out; omega
      have nG : gp ∉ fL := fun hh => HSI.out.apart (i := 3) (j := 0) rfl rfl (by decide) gp (by simp [Mm.tblk]) hh
      have nA : ga ∉ fL := fun hh => HSI.out.apart (i := 5) (j := 0) rfl rfl (by decide) ga (by simp [Mm.tblk]) hh
      have nX : bX ∉ fL := nF bX hbX
      have hsI : B ≤ WI.heap.size := by have := HBW.out; have := HSI.out.bel0.size; omega
      have hcl : (h.Logs.take k).length = k := by rw [List.length_take]; have := HNN.out; omega
      refine Mm.wp_region_give 7 (fun i => match i with | 3 => some (gLgA x) | 4 => some (gLgE x) | 5 => some (Mm.gSl rLog 80 (h.Logs.take k ++ [x])) | _ => none) (fun i => match i with | 4 => [3] | 5 => [4, 8] | _ => []) (fun i => match i with | 8 => [Mm.tsl rLog 80 (h.Logs.take k) (.slice AL k cL) fL] | _ => []) (F := fL) (D := fun w' => ∃ z : Cha fL WI, w' = cha fL WI z) (fun X us h => Mm.sep_cha h) (by kernel_rfl) (by kernel_rfl) (by kernel_rfl) (Mm.sep_eq ((Mm.SepF.one (Mm.tsl rLog 80 (h.Logs.take k) (.slice AL k cL) fL) WI (HSI.out.sl 0 rfl) (HSI.out.ndat (i := 0) rfl)).step (Below.refl _ _).drew) rfl) ?_
      repeat (refine Mm.give_det (by rfl) (by rfl) (by rfl) (fun K hK => ?_); go_big_quiet_op; refine hK _ ?_; clear hK K)
      refine Mm.give_op0 17 (by rfl) rfl (by rfl) (by rfl) (by rfl) (by rfl) gLgA_in (fun others X hX => ?_) ?_
      · have CC := cloneLog_c x [.slice AY mY dY, .int .i64 x.Begin] X B (rLog.keep HXAT.out fun b hb => hX.chg.block b (Nat.lt_of_lt_of_le hb hsI) (nF b hb)) (Nat.le_trans hsI hX.chg.size) HWX.out
        go_wp2_with (go_at_call 133; refine CC.mono ?_; rintro e w5 ⟨cs5, f5, rfl, ho5, hnd5, hnew5, hb5⟩; obtain ⟨A5, n5, c5, g5, rfl, rfl, -, -⟩ := rLog_own ho5)
        exact ⟨rfl, rfl, _, ⟨A5, n5, c5, _, rfl, rfl⟩, hX.add hb5 (t := Mm.tow rLog x [.slice A5 n5 c5, .int .i64 x.Begin] _) ho5 hnd5 hnew5⟩
      rintro v ds ⟨A3, m3, c3, f3, rfl, rfl⟩
      simp only [Act.put, List.setIfInBounds_toArray, List.set_cons_succ, List.set_cons_zero]
      repeat (refine Mm.give_det (by rfl) (by rfl) (by rfl) (fun K hK => ?_); go_big_quiet_op; refine hK _ ?_; clear hK K)
      refine Mm.give_op1 18 3 (by rfl) rfl (by rfl) (by rfl) (by rfl) rfl (by rfl) _ rfl gLgE_in (fun others X hX => ?_) ?_
      · go_wp2
        exact ⟨rfl, rfl, _, ⟨_, A3, m3, c3, f3, rfl, rfl⟩, hX.alloc' rfl 80 [.slice A3 m3 c3, .int .i64 x.Begin]⟩
      rintro v ds ⟨ge, A4, m4, c4, f4, rfl, rfl⟩
      simp only [Act.put, List.setIfInBounds_toArray, List.set_cons_succ, List.set_cons_zero]
      repeat (refine Mm.give_det (by rfl) (by rfl) (by rfl) (fun K hK => ?_); go_big_quiet_op; refine hK _ ?_; clear hK K)
      refine Mm.give_op2 19 4 8 (by rfl) rfl (by rfl) (by rfl) (by rfl) rfl (by rfl) (by rfl) (by rfl) _ _ rfl rfl Mm.gSl_in (fun others X6 hX6 => Mm.app_gve rfl (.tmp 15) (.tmp 18) 24 rfl 19 rfl (by rfl) iL _ 32 Tryz.underlying24 qL qL0 qL1 qL2 rfl (by decide) rfl rfl hcl (by unfold maxLen; omega) (by omega) hX6) ?_
      rintro v ds ⟨Ad, nd, cap, fpn, rfl, rfl, hnd⟩
      simp only [Act.put, List.setIfInBounds_toArray, List.set_cons_succ, List.set_cons_zero]
      repeat (refine Mm.give_det (by rfl) (by rfl) (by rfl) (fun K hK => ?_); go_big_quiet_op; refine hK _ ?_; clear hK K)
      refine Mm.give_nil ?_
      rintro X7 hX7
      have hx7 : Mm.SepF fL WI X7 [Mm.tsl rLog 80 (h.Logs.take k ++ [x]) (.slice Ad nd cap) fpn] := Mm.sep_eq hX7 rfl
      obtain rfl : nd = k + 1 := by have h1 := hnd.out; rw [List.length_append, hcl] at h1; simpa using h1
      rw [← HNX.out] at hx7
      have HSN := Lib.hid ((HSI.out.sel [0,1,2,3,4,5,6] (by decide) rfl).callSome (us := [Mm.tsl rLog 80 (h.Logs.take k) (.slice AL k cL) fL]) (rest := _) (by simpa [Mm.tsl] using hx7))
      clear hX7 hnd hx7 HSI
      have b0 := HSN.out.cell (k := 0) 3 rfl rfl
      have y0 := HSN.out.frz (k := 0) 3 rfl
      go_upto_region 6 with fail
      obtain ⟨WN, hWN⟩ : ∃ W, X7.setCell ⟨gp, 0, none⟩ (.slice Ad (k + 1) cap) = W := ⟨_, rfl⟩
      have HSJ := Lib.hid (((HSN.out.setBlk (k := 0) 3 rfl (.slice Ad (k + 1) cap)).sel [0,1,2,3,4,5] (by decide) rfl).atW hWN)
      rw [hWN]
      clear hWN HSN b0 y0 nF nG nA nX hsI hcl
      clear HNX HWX HXAT nL q0 q1 hbw
      obtain ⟨WI, rfl⟩ : ∃ W : World, W = WN := ⟨_, rfl⟩
      have HSI := HSJ
      clear HSJ
      have hbw2 := Lib.hid (fun b (hb : b < B) => HSI.out.bel0.block b (by have := HBW.out; omega))
      obtain ⟨x, bX, oX, AY, mY, dY, hx, rfl, hbX, hrp, hbg, e0, e1⟩ := rHead_get (R1.out.keep (w' := WI) hbw2.out) hlt
      have HNX := Lib.hid (Mm.take_succ_some hx)
      have HWX := Lib.hid (HS0.out.hd x (List.mem_of_getElem? hx))
      have HXAT := Lib.hid (rHead_at_mk hrp hbg)
      clear hx hrp hbg
      have q0 := HSI.out.cell (k := 1) 5 rfl rfl
      have b0 := HSI.out.cell (k := 1) 3 rfl rfl
      have fk0 : (0 : Int) ≤ (k : Nat) := by omega
      have fkt : ((k : Nat) : Int).toNat = k := by omega
      have nF : ∀ b, b < B → b ∉ fH := fun b hb hh => by
        rcases (HSI.out.slnew 1 rfl b hh).1 with h | h
        · cases h
        · have := HBW.out; omega
      have nG : gp ∉ fH := fun hh => HSI.out.apart (i := 3) (j := 1) rfl rfl (by decide) gp (by simp [Mm.tblk]) hh
      have nA : ga ∉ fH := fun hh => HSI.out.apart (i := 5) (j := 1) rfl rfl (by decide) ga (by simp [Mm.tblk]) hh
      have nX : bX ∉ fH := nF bX hbX
      have hsI : B ≤ WI.heap.size := by have := HBW.out; have := HSI.out.bel0.size; omega
      have hcl : (h.Heads.take k).length = k := by rw [List.length_take]; have := HNH.out; omega
      refine Mm.wp_region_give 11 (fun i => match i with | 7 => some (gFoldH x) | 8 => some (gHdE x) | 9 => some (Mm.gSl rHead 73 (h.Heads.take k ++ [x])) | _ => none) (fun i => match i with | 8 => [7] | 9 => [8, 12] | _ => []) (fun i => match i with | 12 => [Mm.tsl rHead 73 (h.Heads.take k) (.slice AH k cH) fH] | _ => []) (F := fH) (D := fun w' => ∃ z : Cha fH WI, w' = cha fH WI z) (fun X us h => Mm.sep_cha h) (by kernel_rfl) (by kernel_rfl) (by kernel_rfl) (Mm.sep_eq ((Mm.SepF.one (Mm.tsl rHead 73 (h.Heads.take k) (.slice AH k cH) fH) WI (HSI.out.sl 1 rfl) (HSI.out.ndat (i := 1) rfl)).step (Below.refl _ _).drew) rfl) ?_
      repeat (refine Mm.give_det (by rfl) (by rfl) (by rfl) (fun K hK => ?_); go_big_quiet_op; refine hK _ ?_; clear hK K)
      refine Mm.give_op0 28 (by rfl) rfl (by rfl) (by rfl) (by rfl) (by rfl) gFoldH_in (fun others X hX => ?_) ?_
      · have CC := cloneHead_c x [.slice AY mY dY, .int .i64 x.Offset] X B (rHead.keep HXAT.out fun b hb => hX.chg.block b (Nat.lt_of_lt_of_le hb hsI) (nF b hb)) (Nat.le_trans hsI hX.chg.size) HWX.out
        go_wp2_with (go_at_call 113; refine CC.mono ?_; rintro e w5 ⟨cs5, f5, rfl, ho5, hnd5, hnew5, hb5⟩; obtain ⟨A5, n5, c5, g5, rfl, rfl, -, -⟩ := rHead_own ho5)
        exact ⟨rfl, rfl, _, ⟨A5, n5, c5, _, rfl, rfl⟩, hX.add hb5 (t := Mm.tow rHead x [.slice A5 n5 c5, .int .i64 x.Offset] _) ho5 hnd5 hnew5⟩
      rintro v ds ⟨A3, m3, c3, f3, rfl, rfl⟩
      simp only [Act.put, List.setIfInBounds_toArray, List.set_cons_succ, List.set_cons_zero]
      repeat (refine Mm.give_det (by rfl) (by rfl) (by rfl) (fun K hK => ?_); go_big_quiet_op; refine hK _ ?_; clear hK K)
      refine Mm.give_op1 29 7 (by rfl) rfl (by rfl) (by rfl) (by rfl) rfl (by rfl) _ rfl gHdE_in (fun others X hX => ?_) ?_
      · go_wp2
        exact ⟨rfl, rfl, _, ⟨_, A3, m3, c3, f3, rfl, rfl⟩, hX.alloc' rfl 73 [.slice A3 m3 c3, .int .i64 x.Offset]⟩
      rintro v ds ⟨ge, A4, m4, c4, f4, rfl, rfl⟩
      simp only [Act.put, List.setIfInBounds_toArray, List.set_cons_succ, List.set_cons_zero]
      repeat (refine Mm.give_det (by rfl) (by rfl) (by rfl) (fun K hK => ?_); go_big_quiet_op; refine hK _ ?_; clear hK K)
      refine Mm.give_op2 30 8 12 (by rfl) rfl (by rfl) (by rfl) (by rfl) rfl (by rfl) (by rfl) (by rfl) _ _ rfl rfl Mm.gSl_in (fun others X6 hX6 => Mm.app_gve rfl (.tmp 22) (.tmp 29) 25 rfl 30 rfl (by rfl) iH _ 32 Tryz.underlying25 qH qH0 qH1 qH2 rfl (by decide) rfl rfl hcl (by unfold maxLen; omega) (by omega) hX6) ?_
      rintro v ds ⟨Ad, nd, cap, fpn, rfl, rfl, hnd⟩
      simp only [Act.put, List.setIfInBounds_toArray, List.set_cons_succ, List.set_cons_zero]
      repeat (refine Mm.give_det (by rfl) (by rfl) (by rfl) (fun K hK => ?_); go_big_quiet_op; refine hK _ ?_; clear hK K)
      refine Mm.give_nil ?_
      rintro X7 hX7
      have hx7 : Mm.SepF fH WI X7 [Mm.tsl rHead 73 (h.Heads.take k ++ [x]) (.slice Ad nd cap) fpn] := Mm.sep_eq hX7 rfl
      obtain rfl : nd = k + 1 := by have h1 := hnd.out; rw [List.length_append, hcl] at h1; simpa using h1
      rw [← HNX.out] at hx7
      have HSN := Lib.hid ((HSI.out.sel [1,0,2,3,4,5] (by decide) rfl).callSome (us := [Mm.tsl rHead 73 (h.Heads.take k) (.slice AH k cH) fH]) (rest := _) (by simpa [Mm.tsl] using hx7))
      clear hX7 hnd hx7 HSI
      have b0 := HSN.out.cell (k := 1) 3 rfl rfl
      have y0 := HSN.out.frz (k := 1) 3 rfl
      go_upto_region 7 with fail
      obtain ⟨WN, hWN⟩ : ∃ W, X7.setCell ⟨gp, 1, none⟩ (.slice Ad (k + 1) cap) = W := ⟨_, rfl⟩
      have HSJ := Lib.hid (((HSN.out.setBlk (k := 1) 3 rfl (.slice Ad (k + 1) cap)).sel [1,0,2,3,4,5] (by decide) rfl).atW hWN)
      rw [hWN]
      clear hWN HSN b0 y0 nF nG nA nX hsI hcl
      clear HNX HWX HXAT q0 hbw2
      obtain ⟨WI, rfl⟩ : ∃ W : World, W = WN := ⟨_, rfl⟩
      have HSI := HSJ
      clear HSJ
      have hbw2 := Lib.hid (fun b (hb : b < B) => HSI.out.bel0.block b (by have := HBW.out; omega))
      obtain ⟨x, bX, oX, AY, mY, dY, hx, rfl, hbX, hrp, hbg, e0, e1⟩ := rHead_get (R2.out.keep (w' := WI) hbw2.out) hlt
      have HNX := Lib.hid (Mm.take_succ_some hx)
      have HWX := Lib.hid (HS0.out.kp x (List.mem_of_getElem? hx))
      have HXAT := Lib.hid (rHead_at_mk hrp hbg)
      clear hx hrp hbg
      have q0 := HSI.out.cell (k := 2) 5 rfl rfl
      have b0 := HSI.out.cell (k := 2) 3 rfl rfl
      have fk0 : (0 : Int) ≤ (k : Nat) := by omega
      have fkt : ((k : Nat) : Int).toNat = k := by omega
      have nF : ∀ b, b < B → b ∉ fK := fun b hb hh => by
        rcases (HSI.out.slnew 2 rfl b hh).1 with h | h
        · cases h
        · have := HBW.out; omega
      have nG : gp ∉ fK := fun hh => HSI.out.apart (i := 3) (j := 2) rfl rfl (by decide) gp (by simp [Mm.tblk]) hh
      have nA : ga ∉ fK := fun hh => HSI.out.apart (i := 5) (j := 2) rfl rfl (by decide) ga (by simp [Mm.tblk]) hh
      have nX : bX ∉ fK := nF bX hbX
      have hsI : B ≤ WI.heap.size := by have := HBW.out; have := HSI.out.bel0.size; omega
      have hcl : (h.Kept.take k).length = k := by rw [List.length_take]; have := HNK.out; omega
      refine Mm.wp_region_give 11 (fun i => match i with | 7 => some (gFoldH x) | 8 => some (gHdE x) | 9 => some (Mm.gSl rHead 73 (h.Kept.take k ++ [x])) | _ => none) (fun i => match i with | 8 => [7] | 9 => [8, 12] | _ => []) (fun i => match i with | 12 => [Mm.tsl rHead 73 (h.Kept.take k) (.slice AK k cK) fK] | _ => []) (F := fK) (D := fun w' => ∃ z : Cha fK WI, w' = cha fK WI z) (fun X us h => Mm.sep_cha h) (by kernel_rfl) (by kernel_rfl) (by kernel_rfl) (Mm.sep_eq ((Mm.SepF.one (Mm.tsl rHead 73 (h.Kept.take k) (.slice AK k cK) fK) WI (HSI.out.sl 2 rfl) (HSI.out.ndat (i := 2) rfl)).step (Below.refl _ _).drew) rfl) ?_
      repeat (refine Mm.give_det (by rfl) (by rfl) (by rfl) (fun K hK => ?_); go_big_quiet_op; refine hK _ ?_; clear hK K)
      refine Mm.give_op0 39 (by rfl) rfl (by rfl) (by rfl) (by rfl) (by rfl) gFoldH_in (fun others X hX => ?_) ?_
      · have CC := cloneHead_c x [.slice AY mY dY, .int .i64 x.Offset] X B (rHead.keep HXAT.out fun b hb => hX.chg.block b (Nat.lt_of_lt_of_le hb hsI) (nF b hb)) (Nat.le_trans hsI hX.chg.size) HWX.out
        go_wp2_with (go_at_call 113; refine CC.mono ?_; rintro e w5 ⟨cs5, f5, rfl, ho5, hnd5, hnew5, hb5⟩; obtain ⟨A5, n5, c5, g5, rfl, rfl, -, -⟩ := rHead_own ho5)
        exact ⟨rfl, rfl, _, ⟨A5, n5, c5, _, rfl, rfl⟩, hX.add hb5 (t := Mm.tow rHead x [.slice A5 n5 c5, .int .i64 x.Offset] _) ho5 hnd5 hnew5⟩
      rintro v ds ⟨A3, m3, c3, f3, rfl, rfl⟩
      simp only [Act.put, List.setIfInBounds_toArray, List.set_cons_succ, List.set_cons_zero]
      repeat (refine Mm.give_det (by rfl) (by rfl) (by rfl) (fun K hK => ?_); go_big_quiet_op; refine hK _ ?_; clear hK K)
      refine Mm.give_op1 40 7 (by rfl) rfl (by rfl) (by rfl) (by rfl) rfl (by rfl) _ rfl gHdE_in (fun others X hX => ?_) ?_
      · go_wp2
        exact ⟨rfl, rfl, _, ⟨_, A3, m3, c3, f3, rfl, rfl⟩, hX.alloc' rfl 73 [.slice A3 m3 c3, .int .i64 x.Offset]⟩
      rintro v ds ⟨ge, A4, m4, c4, f4, rfl, rfl⟩
      simp only [Act.put, List.setIfInBounds_toArray, List.set_cons_succ, List.set_cons_zero]
      repeat (refine Mm.give_det (by rfl) (by rfl) (by rfl) (fun K hK => ?_); go_big_quiet_op; refine hK _ ?_; clear hK K)
      refine Mm.give_op2 41 8 12 (by rfl) rfl (by rfl) (by rfl) (by rfl) rfl (by rfl) (by rfl) (by rfl) _ _ rfl rfl Mm.gSl_in (fun others X6 hX6 => Mm.app_gve rfl (.tmp 33) (.tmp 40) 25 rfl 41 rfl (by rfl) iH _ 32 Tryz.underlying25 qH qH0 qH1 qH2 rfl (by decide) rfl rfl hcl (by unfold maxLen; omega) (by omega) hX6) ?_
      rintro v ds ⟨Ad, nd, cap, fpn, rfl, rfl, hnd⟩
      simp only [Act.put, List.setIfInBounds_toArray, List.set_cons_succ, List.set_cons_zero]
      repeat (refine Mm.give_det (by rfl) (by rfl) (by rfl) (fun K hK => ?_); go_big_quiet_op; refine hK _ ?_; clear hK K)
      refine Mm.give_nil ?_
      rintro X7 hX7
      have hx7 : Mm.SepF fK WI X7 [Mm.tsl rHead 73 (h.Kept.take k ++ [x]) (.slice Ad nd cap) fpn] := Mm.sep_eq hX7 rfl
      obtain rfl : nd = k + 1 := by have h1 := hnd.out; rw [List.length_append, hcl] at h1; simpa using h1
      rw [← HNX.out] at hx7
      have HSN := Lib.hid ((HSI.out.sel [2,0,1,3,4,5] (by decide) rfl).callSome (us := [Mm.tsl rHead 73 (h.Kept.take k) (.slice AK k cK) fK]) (rest := _) (by simpa [Mm.tsl] using hx7))
      clear hX7 hnd hx7 HSI
      have b0 := HSN.out.cell (k := 2) 3 rfl rfl
      have y0 := HSN.out.frz (k := 2) 3 rfl
      go_upto_region 8 with fail
      obtain ⟨WN, hWN⟩ : ∃ W, X7.setCell ⟨gp, 2, none⟩ (.slice Ad (k + 1) cap) = W := ⟨_, rfl⟩
      have HSJ := Lib.hid (((HSN.out.setBlk (k := 2) 3 rfl (.slice Ad (k + 1) cap)).sel [1,2,0,3,4,5] (by decide) rfl).atW hWN)
      rw [hWN]
      clear hWN HSN b0 y0 nF nG nA nX hsI hcl
      clear HNX HWX HXAT q0 hbw2
      go_wp2
      go_roundg (n0 - (k + 1))
      case measure => omega
      case rel => exact ⟨k + 1, _, _, _, _, _, _, _, _, _, Nat.le_refl _, by omega, by go_num, HSJ.out⟩
    · obtain rfl : k = n0 := by omega
      have E0 : Hid (h.Logs.take k = h.Logs) := List.take_of_length_le (by have := HNN.out; omega)
      have E1 : Hid (h.Heads.take k = h.Heads) := List.take_of_length_le (by have := HNH.out; omega)
      have E2 : Hid (h.Kept.take k = h.Kept) := List.take_of_length_le (by have := HNK.out; omega)
      rw [E0.out, E1.out, E2.out] at HS
      have fc : ¬ ((k : Nat) : Int) < (k : Nat) := by omega
      have b0 := HS.out.cell (k := 0) 3 rfl rfl
      have b1 := HS.out.cell (k := 1) 3 rfl rfl
      have b2 := HS.out.cell (k := 2) 3 rfl rfl
      have o0 := HS.out.cell (k := 0) 4 rfl rfl
      have o1 := HS.out.cell (k := 1) 4 rfl rfl
      have o2 := HS.out.cell (k := 2) 4 rfl rfl
      have z0 := HS.out.frz (k := 0) 4 rfl
      have z1 := HS.out.frz (k := 1) 4 rfl
      have z2 := HS.out.frz (k := 2) 4 rfl
      obtain ⟨WR, hWR⟩ : ∃ V, ((W.setCell ⟨gc, 0, none⟩ (.slice AL k cL)).setCell ⟨gc, 1, none⟩ (.slice AH k cH)).setCell ⟨gc, 2, none⟩ (.slice AK k cK) = V := ⟨_, rfl⟩
      have HSF := Lib.hid ((((HS.out.setBlk (k := 0) 4 rfl (.slice AL k cL)).setBlk (k := 1) 4 rfl (.slice AH k cH)).setBlk (k := 2) 4 rfl (.slice AK k cK)).atW hWR)
      have u0 := HSF.out.cell (k := 0) 4 rfl rfl
      have u1 := HSF.out.cell (k := 1) 4 rfl rfl
      have u2 := HSF.out.cell (k := 2) 4 rfl rfl
      go_wp2
      exact bodyPost_ret (v := .agg #[.slice AL k cL, .slice AH k cH, .slice AK k cK]) (by simp [results, Tryz.results79, go_sem, u0, u1, u2]) rfl ⟨_, fL ++ (fH ++ fK), rfl, rHouse_own_mk (HSF.out.sl 0 rfl) (HSF.out.sl 1 rfl) (HSF.out.sl 2 rfl), HSF.out.nd3, fun b hb => by
        rcases List.mem_append.1 hb with hb | hb
        · exact (HSF.out.new b (Mm.SepF.mem (i := 0) rfl hb)).resolve_left (fun h => by cases h)
        · rcases List.mem_append.1 hb with hb | hb
          · exact (HSF.out.new b (Mm.SepF.mem (i := 1) rfl hb)).resolve_left (fun h => by cases h)
          · exact (HSF.out.new b (Mm.SepF.mem (i := 2) rfl hb)).resolve_left (fun h => by cases h), HSF.out.bel0⟩
set_option maxRecDepth 100000 in
set_option maxHeartbeats 8000000 in
theorem l17Own_c (h : House) (cs : List Value) (w : World) (B : Nat) (hh : rHouse.at_ w B h cs) (hB : B ≤ w.heap.size) (hs : Pl.HoS h) :
    Calls Tryz.prog 54 #[.agg cs.toArray] w (Mm.NewAg rHouse w h) := by
  obtain ⟨A0, n0, c0, A1, n1, c1, A2, n2, c2, rfl, r0, r1, r2⟩ := rHouse_at hh
  have R0 := Lib.hid r0
  have R1 := Lib.hid r1
  have R2 := Lib.hid r2
  have HS0 := Lib.hid hs
  have HNN : Hid (h.Logs.length = n0) := r0.1
  obtain rfl : n1 = n0 := by have h1 := r1.1; have h2 := r0.1; have := hs.hdn; omega
  obtain rfl : n2 = n1 := by have h1 := r2.1; have h2 := r0.1; have := hs.kpn; omega
  obtain ⟨n0, rfl⟩ : ∃ n, n = n2 := ⟨_, rfl⟩
  have HNH : Hid (h.Heads.length = n0) := r1.1
  have HNK : Hid (h.Kept.length = n0) := r2.1
  have hn3 : n0 ≤ 3 := by have := hs.n3; have := r0.1; omega
  have HBW := Lib.hid hB
  obtain ⟨iL, qL, qL0, qL1, qL2⟩ := info_parts Tryz.infoLogY
  obtain ⟨iH, qH, qH0, qH1, qH2⟩ := info_parts Tryz.infoHeadY
  clear hh r0 r1 r2 hs hB
  obtain ⟨ga, hga⟩ : ∃ g, w.heap.size = g := ⟨_, rfl⟩
  obtain ⟨gc, hgc⟩ : ∃ g, ga + 1 = g := ⟨_, rfl⟩
  obtain ⟨gp, hgp⟩ : ∃ g, gc + 1 = g := ⟨_, rfl⟩
  obtain ⟨W0, hW0⟩ : ∃ W, ((w.alloc (.cells #[.slice A0 n0 c0, .slice A1 n0 c1, .slice A2 n0 c2] 27)).alloc (.cells #[.slice none 0 0, .slice none 0 0, .slice none 0 0] 27)).alloc (.cells #[.slice none 0 0, .slice none 0 0, .slice none 0 0] 27) = W := ⟨_, rfl⟩
  have KS0 := Lib.hid ((((((Mm.SepF.start w).alloc' hga 27 [.slice A0 n0 c0, .slice A1 n0 c1, .slice A2 n0 c2]).alloc' (g := gc) (by rw [Mm.sz1, hga, hgc]) 27 [.slice none 0 0, .slice none 0 0, .slice none 0 0]).alloc' (g := gp) (by rw [Mm.sz1, Mm.sz1, hga, hgc, hgp]) 27 [.slice none 0 0, .slice none 0 0, .slice none 0 0])).atW hW0)
  have KS := Lib.hid (((KS0.out.add (Below.refl _ _) (t := Mm.tsl rHead 73 [] (.slice none 0 0) []) Mm.SlOwn.nil List.nodup_nil (fun b hb => by cases hb)).add (Below.refl _ _) (t := Mm.tsl rHead 73 [] (.slice none 0 0) []) Mm.SlOwn.nil List.nodup_nil (fun b hb => by cases hb)).add (Below.refl _ _) (t := Mm.tsl rLog 80 [] (.slice none 0 0) []) Mm.SlOwn.nil List.nodup_nil (fun b hb => by cases hb))
  have d0 := KS0.out.cell (k := 0) 2 rfl rfl
  go_enter Tryz.func54, Tryz.ntmps54
  go_upto_region 3 with fail
  clear hW0 hga hgc hgp d0 KS0
  go_loopg [8] n0 (fun gg i wr => ∃ (k : Nat) (AL : Option Addr) (cL : Nat) (fL : List Nat) (AH : Option Addr) (cH : Nat) (fH : List Nat) (AK : Option Addr) (cK : Nat) (fK : List Nat), n0 - k ≤ gg ∧ k ≤ n0 ∧ i = .int .i64 k ∧ Hid (Mm.SepF [] w wr [Mm.tsl rLog 80 (h.Logs.take k) (.slice AL k cL) fL, Mm.tsl rHead 73 (h.Heads.take k) (.slice AH k cH) fH, Mm.tsl rHead 73 (h.Kept.take k) (.slice AK k cK) fK, Mm.tblk gp 27 [.slice AL k cL, .slice AH k cH, .slice AK k cK], Mm.tblk gc 27 [.slice none 0 0, .slice none 0 0, .slice none 0 0], Mm.tblk ga 27 [.slice A0 n0 c0, .slice A1 n0 c1, .slice A2 n0 c2]]))
  case atStart => exact ⟨0, none, 0, [], none, 0, [], none, 0, [], Nat.le_refl _, Nat.zero_le _, rfl, KS.out⟩
  case round =>
    clear KS
    obtain ⟨k, AL, cL, fL, AH, cH, fH, AK, cK, fK, hgk, hk', rfl, HS⟩ := hrel
    obtain ⟨W, rfl⟩ : ∃ W : World, W = wr := ⟨_, rfl⟩
    by_cases hlt : k < n0
    · have fc : (k : Int) < (n0 : Nat) := by omega
      have HSI := HS
      obtain ⟨WI, rfl⟩ : ∃ V : World, V = W := ⟨_, rfl⟩
      clear HS
      have hbw := Lib.hid (fun b (hb : b < B) => HSI.out.bel0.block b (by have := HBW.out; omega))
      obtain ⟨x, bX, oX, AY, mY, dY, hx, rfl, hbX, hrp, hbg, e0, e1⟩ := rLog_get (R0.out.keep (w' := WI) hbw.out) hlt
      have HNX := Lib.hid (Mm.take_succ_some hx)
      have HWX := Lib.hid (HS0.out.lg x (List.mem_of_getElem? hx))
      have HXAT := Lib.hid (rLog_at_mk hrp hbg)
      clear hx hrp hbg
      go_upto_region 5 with fail
      have q0 := HSI.out.cell (k := 0) 5 rfl rfl
      have b0 := HSI.out.cell (k := 0) 3 rfl rfl
      have fk0 : (0 : Int) ≤ (k : Nat) := by omega
      have fkt : ((k : Nat) : Int).toNat = k := by omega
      have nF : ∀ b, b < B → b ∉ fL := fun b hb hh => by
        rcases (HSI.out.slnew 0 rfl b hh).1 with h | h
        · cases h
        · have := HBW.out; omega
      have nG : gp ∉ fL := fun hh => HSI.out.apart (i := 3) (j := 0) rfl rfl (by decide) gp (by simp [Mm.tblk]) hh
      have nA : ga ∉ fL := fun hh => HSI.out.apart (i := 5) (j := 0) rfl rfl (by decide) ga (by simp [Mm.tblk]) hh
      have nX : bX ∉ fL := nF bX hbX
      have hsI : B ≤ WI.heap.size := by have := HBW.out; have := HSI.out.bel0.size; omega
      have hcl : (h.Logs.take k).length = k := by rw [List.length_take]; have := HNN.out; omega
      refine Mm.wp_region_give 11 (fun i => match i with | 7 => some (gLgA x) | 8 => some (gLgE x) | 9 => some (Mm.gSl rLog 80 (h.Logs.take k ++ [x])) | _ => none) (fun i => match i with | 8 => [7] | 9 => [8, 12] | _ => []) (fun i => match i with | 12 => [Mm.tsl rLog 80 (h.Logs.take k) (.slice AL k cL) fL] | _ => []) (F := fL) (D := fun w' => ∃ z : Cha fL WI, w' = cha fL WI z) (fun X us h => Mm.sep_cha h) (by kernel_rfl) (by kernel_rfl) (by kernel_rfl) (Mm.sep_eq ((Mm.SepF.one (Mm.tsl rLog 80 (h.Logs.take k) (.slice AL k cL) fL) WI (HSI.out.sl 0 rfl) (HSI.out.ndat (i := 0) rfl)).step (Below.refl _ _).drew) rfl) ?_
      repeat (refine Mm.give_det (by rfl) (by rfl) (by rfl) (fun K hK => ?_); go_big_quiet_op; refine hK _ ?_; clear hK K)
      refine Mm.give_op0 18 (by rfl) rfl (by rfl) (by rfl) (by rfl) (by rfl) gLgA_in (fun others X hX => ?_) ?_
      · have CC := l6Own_c x [.slice AY mY dY, .int .i64 x.Begin] X B (rLog.keep HXAT.out fun b hb => hX.chg.block b (Nat.lt_of_lt_of_le hb hsI) (nF b hb)) (Nat.le_trans hsI hX.chg.size) HWX.out
        go_wp2_with (go_at_call 108; refine CC.mono ?_; rintro e w5 ⟨cs5, f5, rfl, ho5, hnd5, hnew5, hb5⟩; obtain ⟨A5, n5, c5, g5, rfl, rfl, -, -⟩ := rLog_own ho5)
        exact ⟨rfl, rfl, _, ⟨A5, n5, c5, _, rfl, rfl⟩, hX.add hb5 (t := Mm.tow rLog x [.slice A5 n5 c5, .int .i64 x.Begin] _) ho5 hnd5 hnew5⟩
      rintro v ds ⟨A3, m3, c3, f3, rfl, rfl⟩
      simp only [Act.put, List.setIfInBounds_toArray, List.set_cons_succ, List.set_cons_zero]
      repeat (refine Mm.give_det (by rfl) (by rfl) (by rfl) (fun K hK => ?_); go_big_quiet_op; refine hK _ ?_; clear hK K)
      refine Mm.give_op1 19 7 (by rfl) rfl (by rfl) (by rfl) (by rfl) rfl (by rfl) _ rfl gLgE_in (fun others X hX => ?_) ?_
      · go_wp2
        exact ⟨rfl, rfl, _, ⟨_, A3, m3, c3, f3, rfl, rfl⟩, hX.alloc' rfl 80 [.slice A3 m3 c3, .int .i64 x.Begin]⟩
      rintro v ds ⟨ge, A4, m4, c4, f4, rfl, rfl⟩
      simp only [Act.put, List.setIfInBounds_toArray, List.set_cons_succ, List.set_cons_zero]
      repeat (refine Mm.give_det (by rfl) (by rfl) (by rfl) (fun K hK => ?_); go_big_quiet_op; refine hK _ ?_; clear hK K)
      refine Mm.give_op2 20 8 12 (by rfl) rfl (by rfl) (by rfl) (by rfl) rfl (by rfl) (by rfl) (by rfl) _ _ rfl rfl Mm.gSl_in (fun others X6 hX6 => Mm.app_gve rfl (.tmp 12) (.tmp 19) 24 rfl 20 rfl (by rfl) iL _ 32 Tryz.underlying24 qL qL0 qL1 qL2 rfl (by decide) rfl rfl hcl (by unfold maxLen; omega) (by omega) hX6) ?_
      rintro v ds ⟨Ad, nd, cap, fpn, rfl, rfl, hnd⟩
      simp only [Act.put, List.setIfInBounds_toArray, List.set_cons_succ, List.set_cons_zero]
      repeat (refine Mm.give_det (by rfl) (by rfl) (by rfl) (fun K hK => ?_); go_big_quiet_op; refine hK _ ?_; clear hK K)
      refine Mm.give_nil ?_
      rintro X7 hX7
      have hx7 : Mm.SepF fL WI X7 [Mm.tsl rLog 80 (h.Logs.take k ++ [x]) (.slice Ad nd cap) fpn] := Mm.sep_eq hX7 rfl
      obtain rfl : nd = k + 1 := by have h1 := hnd.out; rw [List.length_append, hcl] at h1; simpa using h1
      rw [← HNX.out] at hx7
      have HSN := Lib.hid ((HSI.out.sel [0,1,2,3,4,5] (by decide) rfl).callSome (us := [Mm.tsl rLog 80 (h.Logs.take k) (.slice AL k cL) fL]) (rest := _) (by simpa [Mm.tsl] using hx7))
      clear hX7 hnd hx7 HSI
      have b0 := HSN.out.cell (k := 0) 3 rfl rfl
      have y0 := HSN.out.frz (k := 0) 3 rfl
      go_upto_region 6 with fail
      obtain ⟨WN, hWN⟩ : ∃ W, X7.setCell ⟨gp, 0, none⟩ (.slice Ad (k + 1) cap) = W := ⟨_, rfl⟩
      have HSJ := Lib.hid (((HSN.out.setBlk (k := 0) 3 rfl (.slice Ad (k + 1) cap)).sel [0,1,2,3,4,5] (by decide) rfl).atW hWN)
      rw [hWN]
      clear hWN HSN b0 y0 nF nG nA nX hsI hcl
      clear HNX HWX HXAT q0 hbw fk0 fkt
      obtain ⟨WI, rfl⟩ : ∃ W : World, W = WN := ⟨_, rfl⟩
      have HSI := HSJ
      clear HSJ
      have hbw2 := Lib.hid (fun b (hb : b < B) => HSI.out.bel0.block b (by have := HBW.out; omega))
      obtain ⟨x, bX, oX, AY, mY, dY, hx, rfl, hbX, hrp, hbg, e0, e1⟩ := rHead_get (R1.out.keep (w' := WI) hbw2.out) hlt
      have HNX := Lib.hid (Mm.take_succ_some hx)
      have HWX := Lib.hid (HS0.out.hd x (List.mem_of_getElem? hx))
      have HXAT := Lib.hid (rHead_at_mk hrp hbg)
      clear hx hrp hbg
      have q0 := HSI.out.cell (k := 1) 5 rfl rfl
      have b0 := HSI.out.cell (k := 1) 3 rfl rfl
      have fk0 : (0 : Int) ≤ (k : Nat) := by omega
      have fkt : ((k : Nat) : Int).toNat = k := by omega
      have nF : ∀ b, b < B → b ∉ fH := fun b hb hh => by
        rcases (HSI.out.slnew 1 rfl b hh).1 with h | h
        · cases h
        · have := HBW.out; omega
      have nG : gp ∉ fH := fun hh => HSI.out.apart (i := 3) (j := 1) rfl rfl (by decide) gp (by simp [Mm.tblk]) hh
      have nA : ga ∉ fH := fun hh => HSI.out.apart (i := 5) (j := 1) rfl rfl (by decide) ga (by simp [Mm.tblk]) hh
      have nX : bX ∉ fH := nF bX hbX
      have hsI : B ≤ WI.heap.size := by have := HBW.out; have := HSI.out.bel0.size; omega
      have hcl : (h.Heads.take k).length = k := by rw [List.length_take]; have := HNH.out; omega
      refine Mm.wp_region_give 11 (fun i => match i with | 7 => some (gFoldH x) | 8 => some (gHdE x) | 9 => some (Mm.gSl rHead 73 (h.Heads.take k ++ [x])) | _ => none) (fun i => match i with | 8 => [7] | 9 => [8, 12] | _ => []) (fun i => match i with | 12 => [Mm.tsl rHead 73 (h.Heads.take k) (.slice AH k cH) fH] | _ => []) (F := fH) (D := fun w' => ∃ z : Cha fH WI, w' = cha fH WI z) (fun X us h => Mm.sep_cha h) (by kernel_rfl) (by kernel_rfl) (by kernel_rfl) (Mm.sep_eq ((Mm.SepF.one (Mm.tsl rHead 73 (h.Heads.take k) (.slice AH k cH) fH) WI (HSI.out.sl 1 rfl) (HSI.out.ndat (i := 1) rfl)).step (Below.refl _ _).drew) rfl) ?_
      repeat (refine Mm.give_det (by rfl) (by rfl) (by rfl) (fun K hK => ?_); go_big_quiet_op; refine hK _ ?_; clear hK K)
      refine Mm.give_op0 29 (by rfl) rfl (by rfl) (by rfl) (by rfl) (by rfl) gFoldH_in (fun others X hX => ?_) ?_
      · have CC := l13Own_c x [.slice AY mY dY, .int .i64 x.Offset] X B (rHead.keep HXAT.out fun b hb => hX.chg.block b (Nat.lt_of_lt_of_le hb hsI) (nF b hb)) (Nat.le_trans hsI hX.chg.size) HWX.out
        go_wp2_with (go_at_call 107; refine CC.mono ?_; rintro e w5 ⟨cs5, f5, rfl, ho5, hnd5, hnew5, hb5⟩; obtain ⟨A5, n5, c5, g5, rfl, rfl, -, -⟩ := rHead_own ho5)
        exact ⟨rfl, rfl, _, ⟨A5, n5, c5, _, rfl, rfl⟩, hX.add hb5 (t := Mm.tow rHead x [.slice A5 n5 c5, .int .i64 x.Offset] _) ho5 hnd5 hnew5⟩
      rintro v ds ⟨A3, m3, c3, f3, rfl, rfl⟩
      simp only [Act.put, List.setIfInBounds_toArray, List.set_cons_succ, List.set_cons_zero]
      repeat (refine Mm.give_det (by rfl) (by rfl) (by rfl) (fun K hK => ?_); go_big_quiet_op; refine hK _ ?_; clear hK K)
      refine Mm.give_op1 30 7 (by rfl) rfl (by rfl) (by rfl) (by rfl) rfl (by rfl) _ rfl gHdE_in (fun others X hX => ?_) ?_
      · go_wp2
        exact ⟨rfl, rfl, _, ⟨_, A3, m3, c3, f3, rfl, rfl⟩, hX.alloc' rfl 73 [.slice A3 m3 c3, .int .i64 x.Offset]⟩
      rintro v ds ⟨ge, A4, m4, c4, f4, rfl, rfl⟩
      simp only [Act.put, List.setIfInBounds_toArray, List.set_cons_succ, List.set_cons_zero]
      repeat (refine Mm.give_det (by rfl) (by rfl) (by rfl) (fun K hK => ?_); go_big_quiet_op; refine hK _ ?_; clear hK K)
      refine Mm.give_op2 31 8 12 (by rfl) rfl (by rfl) (by rfl) (by rfl) rfl (by rfl) (by rfl) (by rfl) _ _ rfl rfl Mm.gSl_in (fun others X6 hX6 => Mm.app_gve rfl (.tmp 23) (.tmp 30) 25 rfl 31 rfl (by rfl) iH _ 32 Tryz.underlying25 qH qH0 qH1 qH2 rfl (by decide) rfl rfl hcl (by unfold maxLen; omega) (by omega) hX6) ?_
      rintro v ds ⟨Ad, nd, cap, fpn, rfl, rfl, hnd⟩
      simp only [Act.put, List.setIfInBounds_toArray, List.set_cons_succ, List.set_cons_zero]
      repeat (refine Mm.give_det (by rfl) (by rfl) (by rfl) (fun K hK => ?_); go_big_quiet_op; refine hK _ ?_; clear hK K)
      refine Mm.give_nil ?_
      rintro X7 hX7
      have hx7 : Mm.SepF fH WI X7 [Mm.tsl rHead 73 (h.Heads.take k ++ [x]) (.slice Ad nd cap) fpn] := Mm.sep_eq hX7 rfl
      obtain rfl : nd = k + 1 := by have h1 := hnd.out; rw [List.length_append, hcl] at h1; simpa using h1
      rw [← HNX.out] at hx7
      have HSN := Lib.hid ((HSI.out.sel [1,0,2,3,4,5] (by decide) rfl).callSome (us := [Mm.tsl rHead 73 (h.Heads.take k) (.slice AH k cH) fH]) (rest := _) (by simpa [Mm.tsl] using hx7))
      clear hX7 hnd hx7 HSI
      have b0 := HSN.out.cell (k := 1) 3 rfl rfl
      have y0 := HSN.out.frz (k := 1) 3 rfl
      go_upto_region 7 with fail
      obtain ⟨WN, hWN⟩ : ∃ W, X7.setCell ⟨gp, 1, none⟩ (.slice Ad (k + 1) cap) = W := ⟨_, rfl⟩
      have HSJ := Lib.hid (((HSN.out.setBlk (k := 1) 3 rfl (.slice Ad (k + 1) cap)).sel [1,0,2,3,4,5] (by decide) rfl).atW hWN)
      rw [hWN]
      clear hWN HSN b0 y0 nF nG nA nX hsI hcl
      clear HNX HWX HXAT q0 hbw2 fk0 fkt
      obtain ⟨WI, rfl⟩ : ∃ W : World, W = WN := ⟨_, rfl⟩
      have HSI := HSJ
      clear HSJ
      have hbw2 := Lib.hid (fun b (hb : b < B) => HSI.out.bel0.block b (by have := HBW.out; omega))
      obtain ⟨x, bX, oX, AY, mY, dY, hx, rfl, hbX, hrp, hbg, e0, e1⟩ := rHead_get (R2.out.keep (w' := WI) hbw2.out) hlt
      have HNX := Lib.hid (Mm.take_succ_some hx)
      have HWX := Lib.hid (HS0.out.kp x (List.mem_of_getElem? hx))
      have HXAT := Lib.hid (rHead_at_mk hrp hbg)
      clear hx hrp hbg
      have q0 := HSI.out.cell (k := 2) 5 rfl rfl
      have b0 := HSI.out.cell (k := 2) 3 rfl rfl
      have fk0 : (0 : Int) ≤ (k : Nat) := by omega
      have fkt : ((k : Nat) : Int).toNat = k := by omega
      have nF : ∀ b, b < B → b ∉ fK := fun b hb hh => by
        rcases (HSI.out.slnew 2 rfl b hh).1 with h | h
        · cases h
        · have := HBW.out; omega
      have nG : gp ∉ fK := fun hh => HSI.out.apart (i := 3) (j := 2) rfl rfl (by decide) gp (by simp [Mm.tblk]) hh
      have nA : ga ∉ fK := fun hh => HSI.out.apart (i := 5) (j := 2) rfl rfl (by decide) ga (by simp [Mm.tblk]) hh
      have nX : bX ∉ fK := nF bX hbX
      have hsI : B ≤ WI.heap.size := by have := HBW.out; have := HSI.out.bel0.size; omega
      have hcl : (h.Kept.take k).length = k := by rw [List.length_take]; have := HNK.out; omega
      refine Mm.wp_region_give 11 (fun i => match i with | 7 => some (gFoldH x) | 8 => some (gHdE x) | 9 => some (Mm.gSl rHead 73 (h.Kept.take k ++ [x])) | _ => none) (fun i => match i with | 8 => [7] | 9 => [8, 12] | _ => []) (fun i => match i with | 12 => [Mm.tsl rHead 73 (h.Kept.take k) (.slice AK k cK) fK] | _ => []) (F := fK) (D := fun w' => ∃ z : Cha fK WI, w' = cha fK WI z) (fun X us h => Mm.sep_cha h) (by kernel_rfl) (by kernel_rfl) (by kernel_rfl) (Mm.sep_eq ((Mm.SepF.one (Mm.tsl rHead 73 (h.Kept.take k) (.slice AK k cK) fK) WI (HSI.out.sl 2 rfl) (HSI.out.ndat (i := 2) rfl)).step (Below.refl _ _).drew) rfl) ?_
      repeat (refine Mm.give_det (by rfl) (by rfl) (by rfl) (fun K hK => ?_); go_big_quiet_op; refine hK _ ?_; clear hK K)
      refine Mm.give_op0 40 (by rfl) rfl (by rfl) (by rfl) (by rfl) (by rfl) gFoldH_in (fun others X hX => ?_) ?_
      · have CC := l13Own_c x [.slice AY mY dY, .int .i64 x.Offset] X B (rHead.keep HXAT.out fun b hb => hX.chg.block b (Nat.lt_of_lt_of_le hb hsI) (nF b hb)) (Nat.le_trans hsI hX.chg.size) HWX.out
        go_wp2_with (go_at_call 107; refine CC.mono ?_; rintro e w5 ⟨cs5, f5, rfl, ho5, hnd5, hnew5, hb5⟩; obtain ⟨A5, n5, c5, g5, rfl, rfl, -, -⟩ := rHead_own ho5)
        exact ⟨rfl, rfl, _, ⟨A5, n5, c5, _, rfl, rfl⟩, hX.add hb5 (t := Mm.tow rHead x [.slice A5 n5 c5, .int .i64 x.Offset] _) ho5 hnd5 hnew5⟩
      rintro v ds ⟨A3, m3, c3, f3, rfl, rfl⟩
      simp only [Act.put, List.setIfInBounds_toArray, List.set_cons_succ, List.set_cons_zero]
      repeat (refine Mm.give_det (by rfl) (by rfl) (by rfl) (fun K hK => ?_); go_big_quiet_op; refine hK _ ?_; clear hK K)
      refine Mm.give_op1 41 7 (by rfl) rfl (by rfl) (by rfl) (by rfl) rfl (by rfl) _ rfl gHdE_in (fun others X hX => ?_) ?_
      · go_wp2
        exact ⟨rfl, rfl, _, ⟨_, A3, m3, c3, f3, rfl, rfl⟩, hX.alloc' rfl 73 [.slice A3 m3 c3, .int .i64 x.Offset]⟩
      rintro v ds ⟨ge, A4, m4, c4, f4, rfl, rfl⟩
      simp only [Act.put, List.setIfInBounds_toArray, List.set_cons_succ, List.set_cons_zero]
      repeat (refine Mm.give_det (by rfl) (by rfl) (by rfl) (fun K hK => ?_); go_big_quiet_op; refine hK _ ?_; clear hK K)
      refine Mm.give_op2 42 8 12 (by rfl) rfl (by rfl) (by rfl) (by rfl) rfl (by rfl) (by rfl) (by rfl) _ _ rfl rfl Mm.gSl_in (fun others X6 hX6 => Mm.app_gve rfl (.tmp 34) (.tmp 41) 25 rfl 42 rfl (by rfl) iH _ 32 Tryz.underlying25 qH qH0 qH1 qH2 rfl (by decide) rfl rfl hcl (by unfold maxLen; omega) (by omega) hX6) ?_
      rintro v ds ⟨Ad, nd, cap, fpn, rfl, rfl, hnd⟩
      simp only [Act.put, List.setIfInBounds_toArray, List.set_cons_succ, List.set_cons_zero]
      repeat (refine Mm.give_det (by rfl) (by rfl) (by rfl) (fun K hK => ?_); go_big_quiet_op; refine hK _ ?_; clear hK K)
      refine Mm.give_nil ?_
      rintro X7 hX7
      have hx7 : Mm.SepF fK WI X7 [Mm.tsl rHead 73 (h.Kept.take k ++ [x]) (.slice Ad nd cap) fpn] := Mm.sep_eq hX7 rfl
      obtain rfl : nd = k + 1 := by have h1 := hnd.out; rw [List.length_append, hcl] at h1; simpa using h1
      rw [← HNX.out] at hx7
      have HSN := Lib.hid ((HSI.out.sel [2,0,1,3,4,5] (by decide) rfl).callSome (us := [Mm.tsl rHead 73 (h.Kept.take k) (.slice AK k cK) fK]) (rest := _) (by simpa [Mm.tsl] using hx7))
      clear hX7 hnd hx7 HSI
      have b0 := HSN.out.cell (k := 2) 3 rfl rfl
      have y0 := HSN.out.frz (k := 2) 3 rfl
      go_upto_region 8 with fail
      obtain ⟨WN, hWN⟩ : ∃ W, X7.setCell ⟨gp, 2, none⟩ (.slice Ad (k + 1) cap) = W := ⟨_, rfl⟩
      have HSJ := Lib.hid (((HSN.out.setBlk (k := 2) 3 rfl (.slice Ad (k + 1) cap)).sel [1,2,0,3,4,5] (by decide) rfl).atW hWN)
      rw [hWN]
      clear hWN HSN b0 y0 nF nG nA nX hsI hcl
      clear HNX HWX HXAT q0 hbw2
      go_wp2
      go_roundg (n0 - (k + 1))
      case measure => omega
      case rel => exact ⟨k + 1, _, _, _, _, _, _, _, _, _, Nat.le_refl _, by omega, by go_num, HSJ.out⟩
    · obtain rfl : k = n0 := by omega
      have E0 : Hid (h.Logs.take k = h.Logs) := List.take_of_length_le (by have := HNN.out; omega)
      have E1 : Hid (h.Heads.take k = h.Heads) := List.take_of_length_le (by have := HNH.out; omega)
      have E2 : Hid (h.Kept.take k = h.Kept) := List.take_of_length_le (by have := HNK.out; omega)
      rw [E0.out, E1.out, E2.out] at HS
      have fc : ¬ ((k : Nat) : Int) < (k : Nat) := by omega
      have b0 := HS.out.cell (k := 0) 3 rfl rfl
      have b1 := HS.out.cell (k := 1) 3 rfl rfl
      have b2 := HS.out.cell (k := 2) 3 rfl rfl
      have o0 := HS.out.cell (k := 0) 4 rfl rfl
      have o1 := HS.out.cell (k := 1) 4 rfl rfl
      have o2 := HS.out.cell (k := 2) 4 rfl rfl
      have z0 := HS.out.frz (k := 0) 4 rfl
      have z1 := HS.out.frz (k := 1) 4 rfl
      have z2 := HS.out.frz (k := 2) 4 rfl
      obtain ⟨WR, hWR⟩ : ∃ V, ((W.setCell ⟨gc, 0, none⟩ (.slice AL k cL)).setCell ⟨gc, 1, none⟩ (.slice AH k cH)).setCell ⟨gc, 2, none⟩ (.slice AK k cK) = V := ⟨_, rfl⟩
      have HSF := Lib.hid ((((HS.out.setBlk (k := 0) 4 rfl (.slice AL k cL)).setBlk (k := 1) 4 rfl (.slice AH k cH)).setBlk (k := 2) 4 rfl (.slice AK k cK)).atW hWR)
      have u0 := HSF.out.cell (k := 0) 4 rfl rfl
      have u1 := HSF.out.cell (k := 1) 4 rfl rfl
      have u2 := HSF.out.cell (k := 2) 4 rfl rfl
      go_wp2
      exact bodyPost_ret (v := .agg #[.slice AL k cL, .slice AH k cH, .slice AK k cK]) (by simp [results, Tryz.results54, go_sem, u0, u1, u2]) rfl ⟨_, fL ++ (fH ++ fK), rfl, rHouse_own_mk (HSF.out.sl 0 rfl) (HSF.out.sl 1 rfl) (HSF.out.sl 2 rfl), HSF.out.nd3, fun b hb => by
        rcases List.mem_append.1 hb with hb | hb
        · exact (HSF.out.new b (Mm.SepF.mem (i := 0) rfl hb)).resolve_left (fun h => by cases h)
        · rcases List.mem_append.1 hb with hb | hb
          · exact (HSF.out.new b (Mm.SepF.mem (i := 1) rfl hb)).resolve_left (fun h => by cases h)
          · exact (HSF.out.new b (Mm.SepF.mem (i := 2) rfl hb)).resolve_left (fun h => by cases h), HSF.out.bel0⟩
end Go.Proofs.YtbhmdnjammnlnaaGreatDoor

namespace Go.Proofs.YtbhmdnjammnlnaaGreatDoor
open Go.RowKit
attribute [local go_sem] und_cell cha_cell World.cell?_alloc_some
def HoSep (w0 w : World) (h : House) (gp : Nat) (rest : List Mm.Thing) : Prop :=
  ∃ (n : Nat) (AL : Option Addr) (cL : Nat) (fL : List Nat) (AH : Option Addr) (cH : Nat) (fH : List Nat) (AK : Option Addr) (cK : Nat) (fK : List Nat),
    Mm.SepF [] w0 w (Mm.tsl rLog 80 h.Logs (.slice AL n cL) fL :: Mm.tsl rHead 73 h.Heads (.slice AH n cH) fH :: Mm.tsl rHead 73 h.Kept (.slice AK n cK) fK :: Mm.tblk gp 27 [.slice AL n cL, .slice AH n cH, .slice AK n cK] :: rest)
theorem Mm.SlOwn.nlen {α : Type} {E : Mm.Rep α} {e : TypeId} {w : World} {xs : List α} {A : Option Addr} {n c : Nat} {fp : List Nat} (h : Mm.SlOwn E e w xs (.slice A n c) fp) : xs.length = n := by
  obtain ⟨_, _, _, hv, q1, _⟩ := h.form
  injection hv with _ q2 _
  exact (q2.trans q1).symm
structure HoAt (h : House) (k : Nat) (g : Log) (a b : Head) (l : List Say) : Prop where
  lg : h.Logs[k]? = some g
  hd : h.Heads[k]? = some a
  kp : h.Kept[k]? = some b
  p : Pl.PartOk h.Logs.length k g a b l
  n3 : h.Logs.length ≤ 3
theorem Pl.PartOk.mo {n k : Nat} {g : Log} {hd kp : Head} {l : List Say} (h : Pl.PartOk n k g hd kp l) : 0 ≤ hd.Offset ∧ hd.Offset ≤ 60 := by
  have h1 := (h.hdf.ok h.sayOk (by have := h.len; omega)).2.1
  have := h.len
  have := h.head.off
  omega
set_option maxRecDepth 100000 in
set_option maxHeartbeats 4000000 in
theorem follow_c (h : House) (k gp Bt : Nat) (rest : List Mm.Thing) (g : Log) (a b : Head) (l : List Say) (at_ : HoAt h k g a b l) (w0 w : World) (ht : Tab Bt w0) (hs : HoSep w0 w h gp rest) :
    Calls Tryz.prog 112 #[.pointer (some ⟨gp, 0, none⟩), .int .i64 (k : Nat)] w fun e w' => e = .returned (.bool (Pl.followS h k).2) ∧ HoSep w0 w' (Pl.followS h k).1 gp rest := by
  obtain ⟨n, AL, cL, fL, AH, cH, fH, AK, cK, fK, hS⟩ := hs
  have HNN : Hid (h.Logs.length = n) := (hS.sl 0 rfl).nlen
  have HNH : Hid (h.Heads.length = n) := (hS.sl 1 rfl).nlen
  have hkn : k < n := by have := (List.getElem?_eq_some_iff.1 at_.lg).1; have := HNN.out; omega
  obtain ⟨gH, rfl, -, -⟩ := Mm.sl_addr (hS.sl 1 rfl) (by have := HNH.out; omega)
  have HS := Lib.hid hS
  have HA := Lib.hid at_
  have HW0 := Lib.hid ht
  clear hS at_ ht
  have p0 := HS.out.cell (k := 0) 3 rfl rfl
  have p1 := HS.out.cell (k := 1) 3 rfl rfl
  have fk0 : (0 : Int) ≤ (k : Nat) := by omega
  have fkt : ((k : Nat) : Int).toNat = k := by omega
  have fkn : (k : Int) < (n : Nat) := by omega
  obtain ⟨x, bX, oX, AP, mP, cP, hx, rfl, hbX, hrp, hbg, e0, e1⟩ := rLog_get (HS.out.rdSl 0 rfl) hkn
  obtain rfl : x = g := by have := HA.out.lg; rw [hx] at this; injection this
  have CA := logAll_c x.Pieces x.Begin AP mP cP w w.heap.size hrp (Nat.le_refl _) (by have := hrp.1; have := HA.out.p.log.len.2; omega) HA.out.p.log.sizes
  clear hx hrp hbg
  go_enter Tryz.func112, Tryz.ntmps112
  go_wp2_with fail
  refine CA.mono ?_
  rintro e w1 ⟨A5, m5, c5, f5, rfl, hm5, hS5⟩
  obtain ⟨W1, rfl⟩ : ∃ W : World, W = w1 := ⟨_, rfl⟩
  have HS1 := Lib.hid (HS.out.join hS5)
  have HM5 : Hid (m5 = (Pl.lRecs x.Pieces).length) := hm5
  clear CA p0 p1 e0 e1 hS5 hm5 HS
  obtain ⟨A6, m6, c6, q0, q1⟩ := rHead_ocell (HS1.out.sl 2 rfl) (HS1.out.ndat (i := 2) rfl) HA.out.hd
  clear q0
  have ho := HA.out.p.mo
  obtain ⟨m, hm⟩ : ∃ m : Nat, a.Offset = m := ⟨a.Offset.toNat, by omega⟩
  have HMO := Lib.hid hm
  have hm60 : m ≤ 60 := by omega
  rw [hm] at q1
  clear ho hm
  by_cases hc : m < m5
  · have hc1 : ¬ ((m5 : Nat) : Int) ≤ (m : Nat) := by omega
    have f2 : (0 : Int) ≤ (m : Nat) := by omega
    have f3 : ((m : Nat) : Int).toNat = m := by omega
    have f4 : (m : Int) < (m5 : Nat) := by omega
    obtain ⟨y, hy, hsay, hrec, hrd⟩ := Pl.sayAt_of HA.out.p (m := m) (by have := HM5.out; omega)
    have HF : Hid (Pl.followS h k = (⟨h.Logs, h.Heads.set k (Pl.takeS a y).1, h.Kept⟩, true)) := by
      show _ = _
      unfold Pl.followS
      rw [Pl.headK_of HA.out.hd, Pl.logK_of HA.out.lg, HMO.out, Int.toNat_natCast, hsay, if_pos (by have := HM5.out; omega)]
    have HRD := Lib.hid hrd
    have HTI : Hid (TakeIn y h.Heads n k a) := by
      have hyo := HA.out.p.sayOk y (List.mem_of_getElem? hy)
      have h1 := Pl.sayOk_bounds hyo
      have h2 := Pl.sayOk_name hyo
      exact ⟨HA.out.hd, HA.out.p.head.hw, by rw [HMO.out]; omega, by have := HNN.out; have := HA.out.n3; omega, by unfold maxLen; omega, by unfold Mm.I64; omega, by unfold Mm.I64; omega⟩
    obtain ⟨s, bs, os, cs0, hs, hA5, -, hat, hcell⟩ := (HS1.out.rdSl 0 rfl).get hc
    subst hA5
    obtain ⟨rfl, -⟩ := hat
    have r0 := hcell 0 _ rfl
    rw [show os + m * Mm.str.size + 0 = os + m from by show os + m * 1 + 0 = _; omega] at r0
    obtain rfl : s = Pl.sayTxt y := by rw [hs] at hrec; injection hrec
    obtain ⟨s, hsx⟩ : ∃ s, Pl.sayTxt y = s := ⟨_, rfl⟩
    rw [hsx] at r0 HRD hs
    have hs20 : s.size ≤ 20 := Pl.lRecs_size (List.mem_of_getElem? hs)
    have CR := readSay_c s hs20 Bt W1 (HW0.out.on HS1.out.bel0)
    clear hy hsay hrec hrd hs hcell hsx
    go_wp2_with fail
    refine CR.mono ?_
    rintro e w2 ⟨z, ok, rfl, hb2, hzi, hz⟩
    rw [HRD.out] at hz
    obtain ⟨rfl, rfl⟩ : ok = true ∧ z = y := by
      cases ok with
      | true => injection (by simpa using hz : some y = some z) with hz; exact ⟨rfl, hz.symm⟩
      | false => simp at hz
    obtain ⟨W2, rfl⟩ : ∃ W : World, W = w2 := ⟨_, rfl⟩
    have HS2 := Lib.hid (HS1.out.step hb2)
    clear CR q1 r0 hb2 hz hzi HS1 HRD
    obtain ⟨gs, hgs⟩ : ∃ g, W2.heap.size = g := ⟨_, rfl⟩
    obtain ⟨W3, hW3⟩ : ∃ W, W2.alloc (.cells #[.string z.Name, .int .i64 z.At, .int .i64 z.Value] 55) = W := ⟨_, rfl⟩
    have HS3 := Lib.hid ((HS2.out.alloc' hgs 55 [.string z.Name, .int .i64 z.At, .int .i64 z.Value]).atW hW3)
    go_upto_region 6 with fail
    clear hW3 hgs HS2
    have s0 := HS3.out.cell (k := 0) 0 rfl rfl
    have s1 := HS3.out.cell (k := 1) 0 rfl rfl
    have s2 := HS3.out.cell (k := 2) 0 rfl rfl
    have CT := take_c z h.Heads gH n cH k _ a W3 (HS3.out.sl 3 rfl) (HS3.out.ndat (i := 3) rfl) HTI.out
    go_wp2_with fail
    refine CT.mono ?_
    rintro e w4 ⟨rfl, fp', hS4⟩
    have HS4 := Lib.hid (HS3.out.call 3 rfl hS4.left)
    clear CT hS4 s0 s1 s2 HS3
    go_wp2
    go_ret
    rw [HF.out]
    exact ⟨rfl, n, _, cL, fL, _, cH, fp', AK, cK, fK, HS4.out.tail.tail⟩
  · have hc1 : ((m5 : Nat) : Int) ≤ (m : Nat) := by omega
    have HF : Hid (Pl.followS h k = (h, false)) := by
      show _ = _
      unfold Pl.followS
      rw [Pl.headK_of HA.out.hd, Pl.logK_of HA.out.lg, HMO.out, if_neg (by have := HM5.out; omega)]
    go_wp2
    go_ret
    rw [HF.out]
    exact ⟨rfl, n, _, cL, fL, _, cH, fH, AK, cK, fK, HS1.out.tail⟩
end Go.Proofs.YtbhmdnjammnlnaaGreatDoor

namespace Go.Proofs.YtbhmdnjammnlnaaGreatDoor
open Go.RowKit
attribute [local go_sem] und_cell cha_cell World.cell?_alloc_some
namespace Pl
def folN (h : House) (k : Nat) : Nat → House
  | 0 => h
  | j + 1 => (followS (folN h k j) k).1
def manyN (h : House) (k : Nat) : Nat := ((lRecs (logK h k).Pieces).length : Int).toNat - (headK h k).Offset.toNat
def catchN (h : House) : Nat → House × Nat
  | 0 => (h, 0)
  | i + 1 => (folN (catchN h i).1 i (manyN (catchN h i).1 i), (catchN h i).2 + manyN (catchN h i).1 i)
theorem HouseOk.folN {h : House} (H : HouseOk h) (k : Nat) : ∀ j, HouseOk (folN h k j)
  | 0 => H
  | j + 1 => (HouseOk.folN H k j).follow k
theorem followS_len (h : House) (k : Nat) : (followS h k).1.Logs = h.Logs ∧ (followS h k).1.Kept = h.Kept := by
  unfold followS
  split <;> exact ⟨rfl, rfl⟩
theorem folN_len (h : House) (k : Nat) : ∀ j, (folN h k j).Logs = h.Logs ∧ (folN h k j).Kept = h.Kept
  | 0 => ⟨rfl, rfl⟩
  | j + 1 => by
    have h1 := followS_len (folN h k j) k
    have h2 := folN_len h k j
    exact ⟨h1.1.trans h2.1, h1.2.trans h2.2⟩
theorem HouseOk.catchN {h : House} (H : HouseOk h) : ∀ i, HouseOk (catchN h i).1
  | 0 => H
  | i + 1 => (HouseOk.catchN H i).folN i _
theorem catchN_len (h : House) : ∀ i, (catchN h i).1.Logs = h.Logs
  | 0 => rfl
  | i + 1 => by
    show (folN _ i _).Logs = _
    rw [(folN_len _ i _).1]; exact catchN_len h i
theorem folN_off {h : House} (H : HouseOk h) {k : Nat} (hk : k < h.Logs.length) : ∀ {j}, j ≤ manyN h k → (headK (folN h k j) k).Offset = (headK h k).Offset + j
  | 0, _ => by simp [folN]
  | j + 1, hj => by
    have ih := folN_off H hk (j := j) (by omega)
    have H2 := H.folN k j
    have hl := (folN_len h k j).1
    obtain ⟨g, a, b, l, h1, h2, h3, h4⟩ := H2.ex (i := k) (by rw [hl]; exact hk)
    obtain ⟨g', a', b', l', h1', h2', h3', h4'⟩ := H.ex (i := k) hk
    have hm := h4'.mo
    rw [headK_of h2] at ih
    rw [headK_of h2'] at ih ⊢
    have hg : logK h k = g := by rw [hl] at h1; exact logK_of h1
    have hjm : j + 1 ≤ manyN h k := hj
    unfold manyN at hjm
    rw [hg, headK_of h2'] at hjm
    have hc : (headK (folN h k j) k).Offset < (lRecs (logK (folN h k j) k).Pieces).length := by rw [headK_of h2, logK_of h1, ih]; omega
    show (headK (followS (folN h k j) k).1 k).Offset = _
    unfold followS
    rw [if_pos hc]
    have hs : ((folN h k j).Heads.set k (takeS (headK (folN h k j) k) (sayAt (logK (folN h k j) k) (headK (folN h k j) k).Offset.toNat)).1)[k]? = some (takeS (headK (folN h k j) k) (sayAt (logK (folN h k j) k) (headK (folN h k j) k).Offset.toNat)).1 := List.getElem?_set_self (List.getElem?_eq_some_iff.1 h2).1
    rw [headK_of (h := ⟨_, (folN h k j).Heads.set k _, _⟩) hs, takeS_off, headK_of h2, ih]
    omega
theorem fol_yes {h : House} (H : HouseOk h) {k : Nat} (hk : k < h.Logs.length) {j : Nat} (hj : j < manyN h k) : (followS (folN h k j) k).2 = true := by
  have h1 := folN_off H hk (j := j) (by omega)
  obtain ⟨g', a', b', l', h1', h2', h3', h4'⟩ := H.ex (i := k) hk
  have hm := h4'.mo
  have hl := (folN_len h k j).1
  have e : logK (folN h k j) k = logK h k := by unfold logK; rw [hl]
  unfold manyN at hj
  unfold followS
  rw [if_pos (by rw [h1, e]; rw [headK_of h2'] at hj ⊢; omega)]
theorem fol_no {h : House} (H : HouseOk h) {k : Nat} (hk : k < h.Logs.length) : followS (folN h k (manyN h k)) k = (folN h k (manyN h k), false) := by
  have h1 := folN_off H hk (j := manyN h k) (Nat.le_refl _)
  obtain ⟨g', a', b', l', h1', h2', h3', h4'⟩ := H.ex (i := k) hk
  have hm := h4'.mo
  have hl := (folN_len h k (manyN h k)).1
  have e : logK (folN h k (manyN h k)) k = logK h k := by unfold logK; rw [hl]
  have hle := (h4'.hdf.ok h4'.sayOk (by have := h4'.len; omega)).2.1
  have hr : (lRecs g'.Pieces).length = l'.length := by rw [h4'.says.1, List.length_map]
  have e1 := headK_of h2'
  have e2 := logK_of h1'
  have hM : manyN h k = ((lRecs (logK h k).Pieces).length : Int).toNat - (headK h k).Offset.toNat := rfl
  unfold followS
  rw [if_neg (by rw [h1, e, e1, e2]; rw [e1, e2] at hM; omega)]
theorem many_le {h : House} (H : HouseOk h) {k : Nat} (hk : k < h.Logs.length) : manyN h k ≤ 60 := by
  obtain ⟨g', a', b', l', h1', h2', h3', h4'⟩ := H.ex (i := k) hk
  have := h4'.log.sum
  unfold manyN
  rw [logK_of h1']; omega
theorem catchN_le {h : House} (H : HouseOk h) : ∀ i, i ≤ h.Logs.length → (catchN h i).2 ≤ 60 * i
  | 0, _ => Nat.le_refl _
  | i + 1, hi => by
    have h1 := catchN_le H i (by omega)
    have h2 := many_le (H.catchN i) (k := i) (by rw [catchN_len]; omega)
    show (catchN h i).2 + manyN _ i ≤ _
    omega
end Pl
theorem Pl.HouseOk.at_ {h : House} (H : Pl.HouseOk h) {k : Nat} (hk : k < h.Logs.length) : ∃ g a b l, HoAt h k g a b l := by
  obtain ⟨g, a, b, l, h1, h2, h3, h4⟩ := H.ex hk
  exact ⟨g, a, b, l, h1, h2, h3, h4, H.n3⟩
set_option maxRecDepth 100000 in
set_option maxHeartbeats 4000000 in
theorem catchUp_c (h : House) (gp Bt : Nat) (rest : List Mm.Thing) (H : Pl.HouseOk h) (w0 w : World) (ht : Tab Bt w0) (hs : HoSep w0 w h gp rest) :
    Calls Tryz.prog 81 #[.pointer (some ⟨gp, 0, none⟩)] w fun e w' => e = .returned (.int .i64 ((Pl.catchN h h.Logs.length).2 : Nat)) ∧ HoSep w0 w' (Pl.catchN h h.Logs.length).1 gp rest := by
  have HS := Lib.hid hs
  obtain ⟨n, AL, cL, fL, AH, cH, fH, AK, cK, fK, hS⟩ := hs
  have hnn : h.Logs.length = n := (hS.sl 0 rfl).nlen
  rw [hnn]
  have HNN := Lib.hid hnn
  have hn3 : n ≤ 3 := by have := H.n3; omega
  have p0 := hS.cell (k := 0) 3 rfl rfl
  have HK := Lib.hid H
  have HT := Lib.hid ht
  have HLE := Lib.hid (Pl.catchN_le H)
  clear hS H ht hnn
  go_enter Tryz.func81, Tryz.ntmps81
  go_upto_region 3 with fail
  clear p0
  go_loopg [3, 10] n (fun gg c_ i_ wr => ∃ (k : Nat), n - k ≤ gg ∧ k ≤ n ∧ i_ = .int .i64 (k : Nat) ∧ (∃ c : Nat, c_ = .int .i64 (c : Nat) ∧ Hid (c = (Pl.catchN h k).2)) ∧ Hid (HoSep w0 wr (Pl.catchN h k).1 gp rest))
  case atStart => exact ⟨0, by omega, by omega, rfl, ⟨0, rfl, rfl⟩, HS.out⟩
  case round =>
    clear HS
    obtain ⟨k, hgk, hk', rfl, ⟨c, rfl, HC⟩, HS⟩ := hrel
    obtain ⟨Wo, rfl⟩ : ∃ W : World, W = wr := ⟨_, rfl⟩
    by_cases hlt : k < n
    · have fc : (k : Int) < (n : Nat) := by omega
      obtain ⟨hx, hhx⟩ : ∃ x, (Pl.catchN h k).1 = x := ⟨_, rfl⟩
      have HX := Lib.hid hhx
      have HXO : Hid (Pl.HouseOk hx) := by show _; rw [← hhx]; exact HK.out.catchN k
      have HXL : Hid (k < hx.Logs.length) := by show _ < _; rw [← hhx, Pl.catchN_len, HNN.out]; exact hlt
      rw [hhx] at HS
      obtain ⟨mm, hmm⟩ : ∃ m, Pl.manyN hx k = m := ⟨_, rfl⟩
      have HM := Lib.hid hmm
      have hm60 : mm ≤ 60 := by rw [← hmm]; exact Pl.many_le HXO.out HXL.out
      have hc180 : c ≤ 180 := by have := HLE.out k (by rw [HNN.out]; omega); have := HC.out; omega
      clear hhx hmm
      go_upto_region 5 with fail
      go_loopg [3] mm (fun gi c_ wr => ∃ (j : Nat), mm - j ≤ gi ∧ j ≤ mm ∧ c_ = .int .i64 ((c + j : Nat) : Nat) ∧ Hid (HoSep w0 wr (Pl.folN hx k j) gp rest))
      case atStart => exact ⟨0, by omega, by omega, rfl, HS.out⟩
      case round =>
        clear HS
        obtain ⟨j, hgj, hj', rfl, HS⟩ := hrel
        obtain ⟨W, rfl⟩ : ∃ W : World, W = wr := ⟨_, rfl⟩
        obtain ⟨g, a, b, l, hat⟩ := (HXO.out.folN k j).at_ (k := k) (by rw [(Pl.folN_len hx k j).1]; exact HXL.out)
        have CF := follow_c (Pl.folN hx k j) k gp Bt rest g a b l hat w0 W HT.out HS.out
        clear hat
        by_cases hjm : j < mm
        · rw [Pl.fol_yes HXO.out HXL.out (j := j) (by rw [HM.out]; exact hjm)] at CF
          go_wp2_with fail
          refine CF.mono ?_
          rintro e w1 ⟨rfl, hS1⟩
          have HS1 : Hid (HoSep w0 w1 (Pl.folN hx k (j + 1)) gp rest) := hS1
          clear CF hS1 HS
          go_wp2
          go_roundg (mm - (j + 1))
          case measure => omega
          case rel => exact ⟨j + 1, Nat.le_refl _, by omega, by go_num, HS1.out⟩
        · obtain rfl : j = mm := by omega
          have e9 := Pl.fol_no HXO.out HXL.out
          rw [HM.out] at e9
          rw [e9] at CF
          clear e9
          go_wp2_with fail
          refine CF.mono ?_
          rintro e w1 ⟨rfl, hS1⟩
          have HS1 : Hid (HoSep w0 w1 (Pl.catchN h (k + 1)).1 gp rest) := by
            show HoSep w0 w1 (Pl.folN (Pl.catchN h k).1 k (Pl.manyN (Pl.catchN h k).1 k)) gp rest
            rw [HX.out, HM.out]; exact hS1
          have HC1 : Hid (c + j = (Pl.catchN h (k + 1)).2) := by
            show c + j = (Pl.catchN h k).2 + Pl.manyN (Pl.catchN h k).1 k
            rw [HX.out, HM.out, HC.out]
          clear CF hS1 HS
          go_wp2
          go_roundg (n - (k + 1))
          case measure => omega
          case rel => exact ⟨k + 1, Nat.le_refl _, by omega, by go_num, ⟨c + j, rfl, HC1.out⟩, HS1.out⟩
    · obtain rfl : k = n := by omega
      have fc : ¬ ((k : Nat) : Int) < (k : Nat) := by omega
      go_wp2
      go_ret
      exact ⟨by have e5 := HC.out; subst e5; rfl, HS.out⟩
end Go.Proofs.YtbhmdnjammnlnaaGreatDoor

namespace Go.Proofs.YtbhmdnjammnlnaaGreatDoor
open Go.RowKit
attribute [local go_sem] und_cell cha_cell World.cell?_alloc_some
theorem Mm.SepF.hoShut {F : List Nat} {w0 w : World} {h : House} {A0 : Option Addr} {n0 c0 : Nat} {A1 : Option Addr} {n1 c1 : Nat} {A2 : Option Addr} {n2 c2 : Nat} {f0 f1 f2 : List Nat} {rest : List Mm.Thing}
    (k : Mm.SepF F w0 w (Mm.tsl rLog 80 h.Logs (.slice A0 n0 c0) f0 :: Mm.tsl rHead 73 h.Heads (.slice A1 n1 c1) f1 :: Mm.tsl rHead 73 h.Kept (.slice A2 n2 c2) f2 :: rest)) :
    Mm.SepF F w0 w (Mm.tow rHouse h [.slice A0 n0 c0, .slice A1 n1 c1, .slice A2 n2 c2] (f0 ++ (f1 ++ f2)) :: rest) := by
  refine k.conv (by simp [Mm.tow, Mm.tsl]) fun u hu => ?_
  rcases List.mem_cons.1 hu with rfl | hu
  · exact rHouse_own_mk (k.sl 0 rfl) (k.sl 1 rfl) (k.sl 2 rfl)
  · exact k.hold u (by simp [hu])
theorem Mm.SepF.hoOpen {F : List Nat} {w0 w : World} {h : House} {cs : List Value} {fp : List Nat} {rest : List Mm.Thing} (k : Mm.SepF F w0 w (Mm.tow rHouse h cs fp :: rest)) :
    ∃ A0 n0 c0 A1 n1 c1 A2 n2 c2 f0 f1 f2, cs = [.slice A0 n0 c0, .slice A1 n1 c1, .slice A2 n2 c2] ∧ h.Logs.length = n0 ∧ h.Heads.length = n1 ∧ h.Kept.length = n2 ∧
      Mm.SepF F w0 w (Mm.tsl rLog 80 h.Logs (.slice A0 n0 c0) f0 :: Mm.tsl rHead 73 h.Heads (.slice A1 n1 c1) f1 :: Mm.tsl rHead 73 h.Kept (.slice A2 n2 c2) f2 :: rest) := by
  obtain ⟨A0, n0, c0, A1, n1, c1, A2, n2, c2, f0, f1, f2, rfl, rfl, h0, h1, h2⟩ := rHouse_own (k.at_ 0 rfl)
  refine ⟨A0, n0, c0, A1, n1, c1, A2, n2, c2, f0, f1, f2, rfl, h0.nlen, h1.nlen, h2.nlen, k.conv (by simp [Mm.tow, Mm.tsl]) fun u hu => ?_⟩
  rcases List.mem_cons.1 hu with rfl | hu
  · exact h0
  · rcases List.mem_cons.1 hu with rfl | hu
    · exact h1
    · rcases List.mem_cons.1 hu with rfl | hu
      · exact h2
      · exact k.hold u (List.mem_cons_of_mem _ hu)
def zHo : House := ⟨[], [], []⟩
theorem zHo_own (w : World) : rHouse.own w zHo [.slice none 0 0, .slice none 0 0, .slice none 0 0] [] := by
  have h := rHouse_own_mk (w := w) (x := zHo) Mm.SlOwn.nil Mm.SlOwn.nil Mm.SlOwn.nil
  simpa using h
def CatAns (x : House × Nat × Bool) (w : World) (e : Ending) (w' : World) : Prop :=
  ∃ cs fp, e = .returned (.tuple #[.agg cs.toArray, .int .i64 (x.2.1 : Nat), .bool x.2.2]) ∧ Mm.SepF [] w w' [Mm.tow rHouse x.1 cs fp]
def Pl.catchOf (b : Bool) (h : House) : House × Nat × Bool := if b = true then ((Pl.catchN h h.Logs.length).1, (Pl.catchN h h.Logs.length).2, true) else (zHo, 0, false)
theorem catNo {h : House} {w w' : World} (hb : Below w.heap.size w w') : CatAns (Pl.catchOf false h) w (.returned (.tuple #[.agg #[.slice none 0 0, .slice none 0 0, .slice none 0 0], .int .i64 (0 : Nat), .bool false])) w' :=
  ⟨[.slice none 0 0, .slice none 0 0, .slice none 0 0], [], rfl, (Mm.SepF.start w).add hb (t := Mm.tow rHouse zHo _ []) (zHo_own w') List.nodup_nil (fun b hb => by cases hb)⟩
set_option maxRecDepth 100000 in
set_option maxHeartbeats 4000000 in
theorem implCatchUp_c (h : House) (b : Bool) (hb : b = true ↔ Pl.HouseOk h) (Bt : Nat) (cs : List Value) (w : World) (B : Nat) (hh : rHouse.at_ w B h cs) (hB : B ≤ w.heap.size) (ht : Tab Bt w) :
    Calls Tryz.prog 31 #[.agg cs.toArray] w (CatAns (Pl.catchOf b h) w) := by
  obtain ⟨A0, n0, c0, A1, n1, c1, A2, n2, c2, rfl, -, -, -⟩ := rHouse_at hh
  have HR := Lib.hid hh
  have HBW := Lib.hid hB
  have HT := Lib.hid ht
  obtain ⟨ga, hga⟩ : ∃ g, w.heap.size = g := ⟨_, rfl⟩
  obtain ⟨gz, hgz⟩ : ∃ g, ga + 1 = g := ⟨_, rfl⟩
  obtain ⟨W0, hW0⟩ : ∃ W, (w.alloc (.cells #[.slice A0 n0 c0, .slice A1 n1 c1, .slice A2 n2 c2] 27)).alloc (.cells #[.slice none 0 0, .slice none 0 0, .slice none 0 0] 27) = W := ⟨_, rfl⟩
  have KS0 := Lib.hid ((((Mm.SepF.start w).alloc' hga 27 [.slice A0 n0 c0, .slice A1 n1 c1, .slice A2 n2 c2]).alloc' (g := gz) (by rw [Mm.sz1, hga, hgz]) 27 [.slice none 0 0, .slice none 0 0, .slice none 0 0]).atW hW0)
  have d0 := KS0.out.cell (k := 0) 1 rfl rfl
  have d1 := KS0.out.cell (k := 1) 1 rfl rfl
  have d2 := KS0.out.cell (k := 2) 1 rfl rfl
  have CI := BoolAns.fix hb (isHouse_c h _ W0 B Bt (rHouse.keep hh fun b hb => KS0.out.bel0.block b (by omega)) (by have := KS0.out.bel0.size; omega) (ht.on KS0.out.bel0))
  have HBO := Lib.hid hb
  clear hh hB ht hb
  go_enter Tryz.func31, Tryz.ntmps31
  go_wp2_with fail
  refine CI.mono ?_
  rintro e w1 ⟨rfl, hb1⟩
  obtain ⟨W1, rfl⟩ : ∃ W : World, W = w1 := ⟨_, rfl⟩
  have HS1 := Lib.hid (KS0.out.step hb1)
  clear CI d0 d1 d2 hb1 KS0 hW0 hga hgz
  cases b with
  | false =>
    obtain ⟨WR, hWR⟩ : ∃ V, ((W1.setCell ⟨gz, 0, none⟩ (.slice none 0 0)).setCell ⟨gz, 1, none⟩ (.slice none 0 0)).setCell ⟨gz, 2, none⟩ (.slice none 0 0) = V := ⟨_, rfl⟩
    have HSF := Lib.hid ((((HS1.out.setBlk (k := 0) 0 rfl (.slice none 0 0)).setBlk (k := 1) 0 rfl (.slice none 0 0)).setBlk (k := 2) 0 rfl (.slice none 0 0)).atW hWR)
    have u0 := HSF.out.cell (k := 0) 0 rfl rfl
    have u1 := HSF.out.cell (k := 1) 0 rfl rfl
    have u2 := HSF.out.cell (k := 2) 0 rfl rfl
    have z0 := HS1.out.cell (k := 0) 0 rfl rfl
    have z1 := HS1.out.cell (k := 1) 0 rfl rfl
    have z2 := HS1.out.cell (k := 2) 0 rfl rfl
    have y0 := HS1.out.frz (k := 0) 0 rfl
    have y1 := HS1.out.frz (k := 1) 0 rfl
    have y2 := HS1.out.frz (k := 2) 0 rfl
    go_wp2
    exact bodyPost_ret (v := .tuple #[.agg #[.slice none 0 0, .slice none 0 0, .slice none 0 0], .int .i64 (0 : Nat), .bool false]) (by simp [results, Tryz.results31, go_sem, u0, u1, u2]) rfl (catNo HSF.out.bel0)
  | true =>
    have HHO := Lib.hid (HBO.out.1 rfl)
    have d0 := HS1.out.cell (k := 0) 1 rfl rfl
    have d1 := HS1.out.cell (k := 1) 1 rfl rfl
    have d2 := HS1.out.cell (k := 2) 1 rfl rfl
    have CC := cloneHouse_c h _ W1 B (rHouse.keep HR.out fun b hb => HS1.out.bel0.block b (by have := HBW.out; omega)) (by have := HBW.out; have := HS1.out.bel0.size; omega) HHO.out.hos
    go_wp2_with fail
    refine CC.mono ?_
    rintro e w2 ⟨csc, fpc, rfl, hoc, hndc, hnewc, hbc⟩
    clear CC d0 d1 d2
    obtain ⟨Wc, rfl⟩ : ∃ W : World, W = w2 := ⟨_, rfl⟩
    obtain ⟨A3, m3, k3, A4, m4, k4, A5, m5, k5, f3, f4, f5, rfl, l3, l4, l5, hso⟩ := Mm.SepF.hoOpen (h := h) (HS1.out.add hbc (t := Mm.tow rHouse h csc fpc) hoc hndc hnewc)
    obtain rfl : m4 = m3 := by have := HHO.out.hdn; omega
    obtain rfl : m5 = m4 := by have := HHO.out.kpn; omega
    have HS2 := Lib.hid hso
    clear hso hbc hoc hndc hnewc l3 l4 l5
    obtain ⟨gp, hgp⟩ : ∃ g, Wc.heap.size = g := ⟨_, rfl⟩
    obtain ⟨Wd, hWd⟩ : ∃ W, Wc.alloc (.cells #[.slice none 0 0, .slice none 0 0, .slice none 0 0] 27) = W := ⟨_, rfl⟩
    have HS3 := Lib.hid ((HS2.out.alloc' hgp 27 [.slice none 0 0, .slice none 0 0, .slice none 0 0]).atW hWd)
    have q0 := HS3.out.cell (k := 0) 0 rfl rfl
    have q1 := HS3.out.cell (k := 1) 0 rfl rfl
    have q2 := HS3.out.cell (k := 2) 0 rfl rfl
    have y0 := HS3.out.frz (k := 0) 0 rfl
    have y1 := HS3.out.frz (k := 1) 0 rfl
    have y2 := HS3.out.frz (k := 2) 0 rfl
    go_upto_region 4 with fail
    obtain ⟨WF, hWF⟩ : ∃ V, ((Wd.setCell ⟨gp, 0, none⟩ (.slice A3 m5 k3)).setCell ⟨gp, 1, none⟩ (.slice A4 m5 k4)).setCell ⟨gp, 2, none⟩ (.slice A5 m5 k5) = V := ⟨_, rfl⟩
    have HS4 := Lib.hid ((((HS3.out.setBlk (k := 0) 0 rfl (.slice A3 m5 k3)).setBlk (k := 1) 0 rfl (.slice A4 m5 k4)).setBlk (k := 2) 0 rfl (.slice A5 m5 k5)).atW hWF)
    rw [hWF]
    clear hWF hWd hgp q0 q1 q2 y0 y1 y2 HS3 HS2 HS1
    have CU := catchUp_c h gp Bt [Mm.tblk gz 27 [.slice none 0 0, .slice none 0 0, .slice none 0 0], Mm.tblk ga 27 [.slice A0 n0 c0, .slice A1 n1 c1, .slice A2 n2 c2]] HHO.out w WF HT.out ⟨m5, A3, k3, f3, A4, k4, f4, A5, k5, f5, HS4.out.sel [1, 2, 3, 0, 4, 5] (by decide) rfl⟩
    go_wp2_with fail
    refine CU.mono ?_
    rintro e w5 ⟨rfl, n, AL, cL, fL, AH, cH, fH, AK, cK, fK, hS⟩
    obtain ⟨W5, rfl⟩ : ∃ W : World, W = w5 := ⟨_, rfl⟩
    have HS5 := Lib.hid hS
    clear CU hS HS4
    have p0 := HS5.out.cell (k := 0) 3 rfl rfl
    have p1 := HS5.out.cell (k := 1) 3 rfl rfl
    have p2 := HS5.out.cell (k := 2) 3 rfl rfl
    obtain ⟨WR, hWR⟩ : ∃ V, ((W5.setCell ⟨gz, 0, none⟩ (.slice AL n cL)).setCell ⟨gz, 1, none⟩ (.slice AH n cH)).setCell ⟨gz, 2, none⟩ (.slice AK n cK) = V := ⟨_, rfl⟩
    have HSF := Lib.hid ((((HS5.out.setBlk (k := 0) 4 rfl (.slice AL n cL)).setBlk (k := 1) 4 rfl (.slice AH n cH)).setBlk (k := 2) 4 rfl (.slice AK n cK)).atW hWR)
    have u0 := HSF.out.cell (k := 0) 4 rfl rfl
    have u1 := HSF.out.cell (k := 1) 4 rfl rfl
    have u2 := HSF.out.cell (k := 2) 4 rfl rfl
    have z0 := HS5.out.cell (k := 0) 4 rfl rfl
    have z1 := HS5.out.cell (k := 1) 4 rfl rfl
    have z2 := HS5.out.cell (k := 2) 4 rfl rfl
    have y0 := HS5.out.frz (k := 0) 4 rfl
    have y1 := HS5.out.frz (k := 1) 4 rfl
    have y2 := HS5.out.frz (k := 2) 4 rfl
    go_wp2
    exact bodyPost_ret (v := .tuple #[.agg #[.slice AL n cL, .slice AH n cH, .slice AK n cK], .int .i64 ((Pl.catchN h h.Logs.length).2 : Nat), .bool true]) (by simp [results, Tryz.results31, go_sem, u0, u1, u2]) rfl ⟨_, _, rfl, (HSF.out.hoShut (h := (Pl.catchN h h.Logs.length).1)).sel [0] (by decide) rfl⟩
end Go.Proofs.YtbhmdnjammnlnaaGreatDoor

