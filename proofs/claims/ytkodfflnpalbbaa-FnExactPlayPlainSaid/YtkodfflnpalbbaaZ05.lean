/-
  Joined texts, in build order: Ka, Kb, He, Hs, Ht, Mt. Each part says what it proves; no conditions beyond those that a part names.
-/
import Derived.Test.YtkodfflnpalbbaaZ01
import Derived.Test.YtkodfflnpalbbaaZ02
import Derived.Test.YtkodfflnpalbbaaZ03
import Derived.Test.YtkodfflnpalbbaaZ04
import Derived.Lib.Hide
import Derived.Deep.DeepFit
import Derived.Test.YtkodfflnpalbbaaRows
import Derived.WalkLawsBesides
import Derived.WalkSpells
import Derived.Outline
import Derived.Laws.IdiomStrings
import Derived.Laws.Concat
/-
  Contract: a measurement put into a head, the reference's (l13Take). No conditions beyond those named.
-/
namespace Go.Proofs.Ytkodfflnpalbbaa
open Go.RowKit
attribute [local go_sem] und_cell cha_cell World.cell?_alloc_some
def TakeR (h : Head) (x : Say) (fp : List Nat) (w : World) (e : Ending) (w' : World) : Prop :=
  ∃ A' m' d' fp', e = .returned (.tuple #[.agg #[.slice A' m' d', .int .i64 (h.Offset + 1)], .int .i64 (Pl.takeS h x).2]) ∧ Mm.SepF fp w w' [Mm.tsl rRow 83 (Pl.takeS h x).1.Rows (.slice A' m' d') fp']
theorem Mm.oneSmp {w : World} {g : Nat} {x : Sample} (hb : Mm.Blk w g 89 [.int .i64 x.At, .int .i64 x.Value]) (hi : Mm.I64 x.At ∧ Mm.I64 x.Value) : Mm.SlOwn smp 89 w [x] (.slice (some ⟨g, 0, none⟩) 1 1) [g] := by
  refine ⟨[([.int .i64 x.At, .int .i64 x.Value], [])], ⟨rfl, fun i a b ha hb => ?_⟩, ?_, by simp [Value.ownBlock]⟩
  · cases i with
    | zero => simp at ha hb; subst ha; subst hb; exact smp_own_mk hi
    | succ i => simp at ha
  · exact ⟨rfl, .inr ⟨g, 1, _, rfl, Nat.zero_le _, hb, Nat.le_refl _, by unfold maxLen; omega, rfl, rfl⟩⟩
set_option maxRecDepth 100000 in
set_option maxHeartbeats 4000000 in
theorem l13Take_c (h : Head) (x : Say) (A : Option Addr) (m d : Nat) (fp : List Nat) (w : World) (hs : Mm.SlOwn rRow 83 w h.Rows (.slice A m d) fp) (hnd : fp.Nodup) (hw : Pl.HW h) (off : 0 ≤ h.Offset ∧ h.Offset ≤ 1000000) (nm : x.Name.size ≤ maxLen) (ia : Mm.I64 x.At) (iv : Mm.I64 x.Value) :
    Calls Try.prog 47 #[.agg #[.slice A m d, .int .i64 h.Offset], .agg #[.string x.Name, .int .i64 x.At, .int .i64 x.Value]] w (TakeR h x fp w) := by
  have HML : Hid (m = h.Rows.length) := by obtain ⟨_, _, _, hv, q1, _⟩ := hs.form; injection hv with _ q2 _; exact q2.trans q1
  have HW := Lib.hid hw
  have hm8 : m ≤ 8 := by rw [HML.out]; exact hw.len
  have hf0 := off.1
  have hf1 := off.2
  have HI := Lib.hid (show Mm.I64 x.At ∧ Mm.I64 x.Value from ⟨ia, iv⟩)
  have HNM := Lib.hid nm
  obtain ⟨o1, ho1⟩ : ∃ o1, h.Offset + 1 = o1 := ⟨_, rfl⟩
  have f1 : IntKind.i64.wrap (h.Offset + 1) = o1 := by rw [IntWalk.i64_in _ (by omega)]; exact ho1
  have HO1 := Lib.hid ho1
  obtain ⟨p, hp⟩ : ∃ p, Pl.rpos x.Name h.Rows = p := ⟨_, rfl⟩
  have HP := Lib.hid hp
  have hpm : p ≤ m := by rw [HML.out, ← hp]; exact Pl.rpos_le _ _
  have HS0 : Mm.SepF fp w w [Mm.tsl rRow 83 h.Rows (.slice A m d) fp] := Mm.SepF.one (Mm.tsl rRow 83 h.Rows (.slice A m d) fp) w hs hnd
  obtain ⟨gh, hgh⟩ : ∃ g, w.heap.size = g := ⟨_, rfl⟩
  obtain ⟨gx, hgx⟩ : ∃ g, gh + 1 = g := ⟨_, rfl⟩
  obtain ⟨gr, hgr⟩ : ∃ g, gx + 1 = g := ⟨_, rfl⟩
  obtain ⟨W0, hW0⟩ : ∃ W, ((w.alloc (.cells #[.slice A m d, .int .i64 h.Offset] 35)).alloc (.cells #[.string x.Name, .int .i64 x.At, .int .i64 x.Value] 61)).alloc (.cells #[.slice none 0 0, .int .i64 0] 35) = W := ⟨_, rfl⟩
  have HS := Lib.hid ((((HS0.alloc' hgh 35 [.slice A m d, .int .i64 h.Offset]).alloc' (g := gx) (by rw [Mm.sz1, hgh, hgx]) 61 [.string x.Name, .int .i64 x.At, .int .i64 x.Value]).alloc' (g := gr) (by rw [Mm.sz1, Mm.sz1, hgh, hgx, hgr]) 35 [.slice none 0 0, .int .i64 0]).atW hW0)
  clear HS0 hs hnd hw off nm ia iv ho1 hp
  go_enter Try.func47, Try.ntmps47
  go_upto_region 1 with fail
  clear hW0 hgh hgx hgr
  have b1 := HS.out.cell (k := 1) 2 rfl rfl
  have z1 := HS.out.frz (k := 1) 2 rfl
  go_upto_region 2 with fail
  obtain ⟨W2, hW2⟩ : ∃ W, W0.setCell ⟨gh, 1, none⟩ (.int .i64 o1) = W := ⟨_, rfl⟩
  have HS2 := Lib.hid ((HS.out.setBlk (k := 1) 2 rfl (.int .i64 o1)).atW hW2)
  rw [hW2]
  clear hW2 HS b1 z1 f1
  go_upto_block 0 with fail
  go_cut [6] (fun s6 wx => s6 = .int .i64 p ∧ Hid (Below W2.heap.size W2 wx))
  case first =>
    go_wp2_with fail
    go_loopg [6] m (fun g i wr => ∃ k : Nat, m - k ≤ g ∧ k ≤ p ∧ i = .int .i64 k ∧ Hid (Below W2.heap.size W2 wr))
    case atStart => exact ⟨0, Nat.le_refl _, Nat.zero_le _, rfl, Below.refl _ _⟩
    case round =>
      obtain ⟨k, hg, hk, rfl, HB⟩ := hrel
      obtain ⟨W, rfl⟩ : ∃ W : World, W = wr := ⟨_, rfl⟩
      have HSW := Lib.hid (HS2.out.step HB.out)
      have c0 := HSW.out.cell (k := 0) 2 rfl rfl
      by_cases hlt : k < m
      · obtain ⟨y, b, off, A4, n4, c4, hy, rfl, hb, hnm, hrd, e0, -⟩ := rRow_get ((HSW.out.sl 3 rfl).weak (HSW.out.sl 3 rfl).olt) hlt
        have s0 := HSW.out.cell (k := 0) 1 rfl rfl
        have HY := Lib.hid hy
        have f1 : (k : Int) < (m : Nat) := by omega
        have f2 : (0 : Int) ≤ (k : Nat) := by omega
        have f3 : ((k : Nat) : Int).toNat = k := by omega
        clear hy hb hnm hrd
        cases hls : Pl.lessB (Pl.rnm y) x.Name with
        | true =>
          have hkp : k < p := by
            apply Classical.byContradiction
            intro hh
            have := Pl.rpos_ge x.Name h.Rows HW.out.srt k y (by have := HP.out; omega) HY.out
            rw [hls] at this; cases this
          have hq : Op.bytesLess y.Name.toList x.Name.toList = true := hls
          clear hls
          go_wp2
          refine wp_region_und (by kernel_rfl) (by kernel_rfl) ?_
          repeat (go_big_quiet_step ((first | fail)))
          refine wpQuiet_nil ?_
          intro X hX
          go_wp2
          go_roundg (m - (k + 1))
          case measure => omega
          case rel => exact ⟨k + 1, Nat.le_refl _, by omega, by go_num, below_step HB.out hX⟩
        | false =>
          have HKP : Hid (k = p) := by
            show k = p
            apply Classical.byContradiction
            intro hh
            have := Pl.rpos_lt x.Name h.Rows k y (by have := HP.out; omega) HY.out
            rw [hls] at this; cases this
          have hq : Op.bytesLess y.Name.toList x.Name.toList = false := hls
          clear hls
          go_wp2
          refine wp_region_und (by kernel_rfl) (by kernel_rfl) ?_
          repeat (go_big_quiet_step ((first | fail)))
          refine wpQuiet_nil ?_
          intro X hX
          go_wp2
          go_meet
          exact ⟨by rw [HKP.out], below_step HB.out hX⟩
      · have f1 : ¬ (k : Int) < (m : Nat) := by omega
        have f4 : decide (k < m) = false := by simp; omega
        have HKP : Hid (k = p) := by show k = p; omega
        clear hlt
        go_wp2
        refine wp_region_und (by kernel_rfl) (by kernel_rfl) ?_
        repeat (go_big_quiet_step ((first | fail)))
        refine wpQuiet_nil ?_
        intro X hX
        go_wp2
        go_meet
        exact ⟨by rw [HKP.out], below_step HB.out hX⟩
  case rest =>
  obtain ⟨rfl, HB⟩ := hcut
  obtain ⟨W, rfl⟩ : ∃ W : World, W = wc := ⟨_, rfl⟩
  have HS := Lib.hid (HS2.out.step HB.out)
  clear HS2 HB
  have s1 := HS.out.cell (k := 1) 1 rfl rfl
  have s2 := HS.out.cell (k := 2) 1 rfl rfl
  go_upto_region 6 with fail
  obtain ⟨gs, hgs⟩ : ∃ g, W.heap.size = g := ⟨_, rfl⟩
  obtain ⟨W3, hW3⟩ : ∃ V, W.alloc (.cells #[.int .i64 x.At, .int .i64 x.Value] 89) = V := ⟨_, rfl⟩
  have HS3 := Lib.hid ((HS.out.alloc' hgs 89 [.int .i64 x.At, .int .i64 x.Value]).atW hW3)
  rw [hW3, hgs]
  clear hW3 hgs HS s1 s2
  have c0 := HS3.out.cell (k := 0) 3 rfl rfl
  have s0 := HS3.out.cell (k := 0) 2 rfl rfl
  by_cases hit : ∃ r, h.Rows[p]? = some r ∧ r.Name = x.Name
  · obtain ⟨r, hr, hrn⟩ := hit
    have hne := HW.out.ne r (List.mem_of_getElem? hr)
    have HNE := Lib.hid hne
    have HMS : Hid (Pl.takeS h x = Pl.hitS h p r x) := Lib.hid (by rw [← HP.out]; exact Pl.takeS_hit (by rw [HP.out]; exact hr) hrn)
    have HR := Lib.hid hr
    have hpl : p < m := by have := (List.getElem?_eq_some_iff.1 hr).1; have := HML.out; omega
    obtain ⟨g2, rfl, -, -⟩ := Mm.sl_addr (HS3.out.sl 4 rfl) (by show 0 < h.Rows.length; have := HML.out; omega)
    obtain ⟨_, _, _, _, r0, -⟩ := HS3.out.rowSam 4 rfl hr
    rw [hrn] at r0
    have HRN := Lib.hid hrn
    have f1 : (p : Int) < (m : Nat) := by omega
    have f2 : (0 : Int) ≤ (p : Nat) := by omega
    have f3 : ((p : Nat) : Int).toNat = p := by omega
    clear hr hrn hne
    refine wp_region_und (by kernel_rfl) (by kernel_rfl) ?_
    repeat (go_big_quiet_step ((first | fail)))
    refine wpQuiet_nil ?_
    intro X hX
    have HZ := Lib.hid (HS3.out.step hX)
    clear hX HS3 c0 s0 r0
    obtain ⟨As, ms, ds, fx2, -, r1, hsl, hso2, hfn2, hfx2, hrow⟩ := HZ.out.rowSam 4 rfl HR.out
    have HROW := Lib.hid hrow
    have HSO2 := Lib.hid (And.intro hso2 hfn2)
    have HFX := Lib.hid hfx2
    have HSL : Hid (ms = r.Samples.length) := hsl
    have c0 := HZ.out.cell (k := 0) 3 rfl rfl
    have s1 := HZ.out.cell (k := 1) 2 rfl rfl
    have hms0 : 0 < ms := by
      have h1 := HSL.out
      have h2 : r.Samples.length ≠ 0 := fun hh => HNE.out.1 (List.length_eq_zero_iff.1 hh)
      omega
    have hms40 : ms ≤ 40 := by have := HSL.out; have := HNE.out.2; omega
    obtain ⟨q, hq⟩ : ∃ q, ms - 1 = q := ⟨_, rfl⟩
    have hrd := HSO2.out.1.weak HSO2.out.1.olt
    obtain ⟨y, bm, om, hy, hAs, hbm, -, -, d0, -⟩ := smp_get hrd (show q < ms by omega)
    subst hAs
    have HLA : Hid (Pl.lastAt r = y.At) := Lib.hid (by unfold Pl.lastAt; rw [← HSL.out, hq, Pl.sampleAt_of hy])
    have g1 : (0 : Int) < (ms : Nat) := by omega
    have g2' : IntKind.i64.wrap ((ms : Int) - 1) = (q : Int) := by rw [IntWalk.i64_in _ (by omega)]; omega
    have g3 : (0 : Int) ≤ (q : Nat) := by omega
    have g4 : ((q : Nat) : Int).toNat = q := by omega
    have g5 : (q : Int) < (ms : Nat) := by omega
    clear hrd hy hbm hq hsl hso2 hfn2 hfx2 hrow
    by_cases c1 : y.At = x.At
    · as_aux_lemma =>
      have HF : Hid (Pl.takeS h x = (⟨h.Rows, o1⟩, 2)) := Lib.hid (by rw [HMS.out, ← HO1.out]; exact if_pos (by rw [HLA.out]; exact c1))
      have q1 : (y.At == x.At) = true := by simp [c1]
      clear c1
      have z0 := HZ.out.frz (k := 0) 1 rfl
      have z1 := HZ.out.frz (k := 1) 1 rfl
      have b0 := HZ.out.cell (k := 0) 1 rfl rfl
      have b1 := HZ.out.cell (k := 1) 1 rfl rfl
      have h0 := HZ.out.cell (k := 0) 3 rfl rfl
      have h1 := HZ.out.cell (k := 1) 3 rfl rfl
      have HSF := Lib.hid ((HZ.out.setBlk (k := 0) 1 rfl ((.slice (some ⟨g2, 0, none⟩) m d))).setBlk (k := 1) 1 rfl (.int .i64 o1))
      have u0 := HSF.out.cell (k := 0) 1 rfl rfl
      have u1 := HSF.out.cell (k := 1) 1 rfl rfl
      go_wp2
      exact bodyPost_ret (v := .tuple #[.agg #[(.slice (some ⟨g2, 0, none⟩) m d), .int .i64 o1], .int .i64 2]) (by simp [results, Try.results47, go_sem, u0, u1]) rfl ⟨_, _, _, _, by rw [HO1.out, HF.out], by rw [HF.out]; exact HSF.out.sel [4] (by decide) rfl⟩
    · have q1 : (y.At == x.At) = false := by simp [c1]
      by_cases c2 : x.At < y.At
      · as_aux_lemma =>
        have HF : Hid (Pl.takeS h x = (⟨h.Rows, o1⟩, 3)) := Lib.hid (by rw [HMS.out, ← HO1.out]; exact (if_neg (by rw [HLA.out]; exact c1)).trans (if_pos (by rw [HLA.out]; exact c2)))
        clear c1
        have z0 := HZ.out.frz (k := 0) 1 rfl
        have z1 := HZ.out.frz (k := 1) 1 rfl
        have b0 := HZ.out.cell (k := 0) 1 rfl rfl
        have b1 := HZ.out.cell (k := 1) 1 rfl rfl
        have h0 := HZ.out.cell (k := 0) 3 rfl rfl
        have h1 := HZ.out.cell (k := 1) 3 rfl rfl
        have HSF := Lib.hid ((HZ.out.setBlk (k := 0) 1 rfl ((.slice (some ⟨g2, 0, none⟩) m d))).setBlk (k := 1) 1 rfl (.int .i64 o1))
        have u0 := HSF.out.cell (k := 0) 1 rfl rfl
        have u1 := HSF.out.cell (k := 1) 1 rfl rfl
        go_wp2
        exact bodyPost_ret (v := .tuple #[.agg #[(.slice (some ⟨g2, 0, none⟩) m d), .int .i64 o1], .int .i64 3]) (by simp [results, Try.results47, go_sem, u0, u1]) rfl ⟨_, _, _, _, by rw [HO1.out, HF.out], by rw [HF.out]; exact HSF.out.sel [4] (by decide) rfl⟩
      · by_cases c3 : ms = 40
        · as_aux_lemma =>
          have HF : Hid (Pl.takeS h x = (⟨h.Rows, o1⟩, 4)) := Lib.hid (by rw [HMS.out, ← HO1.out]; exact (if_neg (by rw [HLA.out]; exact c1)).trans ((if_neg (by rw [HLA.out]; exact c2)).trans (if_pos (by rw [← HSL.out]; exact c3))))
          have q3 : ((ms : Int) == 40) = true := by rw [c3]; rfl
          clear c1 c3
          have z0 := HZ.out.frz (k := 0) 1 rfl
          have z1 := HZ.out.frz (k := 1) 1 rfl
          have b0 := HZ.out.cell (k := 0) 1 rfl rfl
          have b1 := HZ.out.cell (k := 1) 1 rfl rfl
          have h0 := HZ.out.cell (k := 0) 3 rfl rfl
          have h1 := HZ.out.cell (k := 1) 3 rfl rfl
          have HSF := Lib.hid ((HZ.out.setBlk (k := 0) 1 rfl ((.slice (some ⟨g2, 0, none⟩) m d))).setBlk (k := 1) 1 rfl (.int .i64 o1))
          have u0 := HSF.out.cell (k := 0) 1 rfl rfl
          have u1 := HSF.out.cell (k := 1) 1 rfl rfl
          go_wp2
          exact bodyPost_ret (v := .tuple #[.agg #[(.slice (some ⟨g2, 0, none⟩) m d), .int .i64 o1], .int .i64 4]) (by simp [results, Try.results47, go_sem, u0, u1]) rfl ⟨_, _, _, _, by rw [HO1.out, HF.out], by rw [HF.out]; exact HSF.out.sel [4] (by decide) rfl⟩
        · as_aux_lemma =>
          have HF : Hid (Pl.takeS h x = (⟨h.Rows.set p ⟨r.Name, r.Samples ++ [⟨x.At, x.Value⟩]⟩, o1⟩, 1)) := Lib.hid (by rw [HMS.out, ← HO1.out]; exact (if_neg (by rw [HLA.out]; exact c1)).trans ((if_neg (by rw [HLA.out]; exact c2)).trans (if_neg (by rw [← HSL.out]; exact c3))))
          have q3 : ((ms : Int) == 40) = false := by rw [beq_eq_false_iff_ne]; omega
          clear c1 c3
          go_upto_region 15 with fail
          clear d0 s1 q1 q3 c2 g1 g2' g3 g4 g5
          obtain ⟨i0, hi, hz0, hz1, hz2⟩ := info_parts Try.infoSmpK
          have s1 := HZ.out.cell (k := 0) 0 rfl rfl
          have s2 := HZ.out.cell (k := 1) 0 rfl rfl
          have n1' : gs ∉ fx2 := fun hh => HZ.out.apart (i := 0) (j := 4) rfl rfl (by decide) gs (by simp [Mm.tblk]) (HFX.out _ hh).1
          have n2' : gh ∉ fx2 := fun hh => HZ.out.apart (i := 3) (j := 4) rfl rfl (by decide) gh (by simp [Mm.tblk]) (HFX.out _ hh).1
          have hg2 : g2 ∉ fx2 := fun hh => (HFX.out _ hh).2 rfl
          have zr := (HZ.out.sl 4 rfl).frozen (p * 2 + 1)
          have hg2l : g2 < X.heap.size := (HZ.out.sl 4 rfl).olt g2 (HZ.out.sl 4 rfl).mem_block
          have hslm : r.Samples.length ≤ 40 := HNE.out.2
          refine Mm.wp_region_give 9 (fun i => match i with | 5 => some (Mm.gBs 89 [.int .i64 x.At, .int .i64 x.Value]) | 6 => some (Mm.gSl smp 89 (r.Samples ++ [⟨x.At, x.Value⟩])) | _ => none) (fun i => match i with | 6 => [5, 10] | _ => []) (fun i => match i with | 10 => [Mm.tsl smp 89 r.Samples (.slice (some ⟨bm, om, none⟩) ms ds) fx2] | _ => []) (F := fx2) (D := fun w' => ∃ z : Cha fx2 X, w' = cha fx2 X z) (fun X us h => Mm.sep_cha h) (by kernel_rfl) (by kernel_rfl) (by kernel_rfl) (Mm.sep_eq ((Mm.SepF.one (Mm.tsl smp 89 r.Samples (.slice (some ⟨bm, om, none⟩) ms ds) fx2) X HSO2.out.1 HSO2.out.2).step (Below.refl _ _).drew) rfl) ?_
          repeat (refine Mm.give_det (by rfl) (by rfl) (by rfl) (fun K hK => ?_); go_big_quiet_op; refine hK _ ?_; clear hK K)
          refine Mm.give_op0 89 (by rfl) rfl (by rfl) (by rfl) (by rfl) (by rfl) Mm.gBs_in (fun others X6 hX6 => ?_) ?_
          · go_wp2
            exact Mm.gvq_bs hX6 rfl rfl rfl
          rintro v ds' ⟨gb, rfl, rfl⟩
          simp only [Act.put, List.setIfInBounds_toArray, List.set_cons_succ, List.set_cons_zero]
          refine Mm.give_op2 90 5 10 (by rfl) rfl (by rfl) (by rfl) (by rfl) rfl (by rfl) (by rfl) (by rfl) _ _ rfl rfl Mm.gSl_in (fun others X6 hX6 => Mm.app_gvq rfl (.tmp 87) (.tmp 89) 81 rfl 90 rfl (by rfl) i0 _ 16 Try.underlying81 hi hz0 hz1 hz2 rfl (by decide) rfl rfl (fun W => smp_own_mk (x := ⟨x.At, x.Value⟩) HI.out) (by unfold maxLen; omega) (by omega) hX6) ?_
          rintro v ds' ⟨A8, n8, c8, f8', rfl, rfl, hn8⟩
          simp only [Act.put, List.setIfInBounds_toArray, List.set_cons_succ, List.set_cons_zero]
          repeat (refine Mm.give_det (by rfl) (by rfl) (by rfl) (fun K hK => ?_); go_big_quiet_op; refine hK _ ?_; clear hK K)
          refine Mm.give_nil ?_
          rintro X7 hX7
          have hx7 : Mm.SepF fx2 X X7 [Mm.tsl smp 89 (r.Samples ++ [⟨x.At, x.Value⟩]) (.slice A8 n8 c8) f8'] := Mm.sep_eq hX7 rfl
          have HS4 := Lib.hid hx7
          have d4 : X7.cell? ⟨g2, p * 2 + 1, none⟩ = some (.slice (some ⟨bm, om, none⟩) ms ds) := (World.cell?_of_block (hx7.chg.block g2 hg2l hg2)).trans r1
          have z4 : X7.frozen? ⟨g2, p * 2 + 1, none⟩ = false := (World.frozen?_of_block (hx7.chg.block g2 hg2l hg2)).trans zr
          clear hX7 hx7 r1 zr s1 s2 n1' n2' hg2 hg2l c0
          obtain ⟨fp5, hs5⟩ := HROW.out _ _ _ _ _ _ HS4.out
          obtain ⟨XT, hXT⟩ : ∃ XT, X7.setCell ⟨g2, p * 2 + 1, none⟩ (.slice A8 n8 c8) = XT := ⟨_, rfl⟩
          replace HZ := Lib.hid (hs5.atW hXT)
          clear hs5
          go_upto_region 16 with fail
          clear hXT d4 z4
          have z0 := HZ.out.frz (k := 0) 1 rfl
          have z1 := HZ.out.frz (k := 1) 1 rfl
          have b0 := HZ.out.cell (k := 0) 1 rfl rfl
          have b1 := HZ.out.cell (k := 1) 1 rfl rfl
          have h0 := HZ.out.cell (k := 0) 3 rfl rfl
          have h1 := HZ.out.cell (k := 1) 3 rfl rfl
          have HSF := Lib.hid ((HZ.out.setBlk (k := 0) 1 rfl ((.slice (some ⟨g2, 0, none⟩) m d))).setBlk (k := 1) 1 rfl (.int .i64 o1))
          have u0 := HSF.out.cell (k := 0) 1 rfl rfl
          have u1 := HSF.out.cell (k := 1) 1 rfl rfl
          go_wp2
          exact bodyPost_ret (v := .tuple #[.agg #[(.slice (some ⟨g2, 0, none⟩) m d), .int .i64 o1], .int .i64 1]) (by simp [results, Try.results47, go_sem, u0, u1]) rfl ⟨_, _, _, _, by rw [HO1.out, HF.out], by rw [HF.out]; exact HSF.out.sel [4] (by decide) rfl⟩
  · have HMS : Hid (Pl.takeS h x = Pl.missS h p x) := Lib.hid (by rw [← HP.out]; exact Pl.takeS_miss (fun o ho he => by rw [HP.out] at ho; exact hit ⟨o, ho, he⟩))
    have f2 : (0 : Int) ≤ (p : Nat) := by omega
    have f3 : ((p : Nat) : Int).toNat = p := by omega
    by_cases hpl : p < m
    · obtain ⟨g2, rfl, -, -⟩ := Mm.sl_addr (HS3.out.sl 4 rfl) (by show 0 < h.Rows.length; have := HML.out; omega)
      obtain ⟨r, hr⟩ : ∃ r, h.Rows[p]? = some r := ⟨_, List.getElem?_eq_getElem (by have := HML.out; omega)⟩
      obtain ⟨_, _, _, _, r0, -⟩ := HS3.out.rowSam 4 rfl hr
      have f1 : (p : Int) < (m : Nat) := by omega
      have q1 : (r.Name.toList == x.Name.toList) = false := by
        rw [beq_eq_false_iff_ne]
        exact fun hh => hit ⟨r, hr, Pl.ba_inj hh⟩
      clear hr hit
      refine wp_region_und (by kernel_rfl) (by kernel_rfl) ?_
      repeat (go_big_quiet_step ((first | fail)))
      refine wpQuiet_nil ?_
      intro X hX
      clear r0 q1
      have HZ := Lib.hid (HS3.out.step hX)
      clear hX HS3 c0 s0
      have c0 := HZ.out.cell (k := 0) 3 rfl rfl
      by_cases h8 : m = 8
      · as_aux_lemma =>
        have HF : Hid (Pl.takeS h x = (⟨h.Rows, o1⟩, 4)) := Lib.hid (by rw [HMS.out, ← HO1.out]; exact if_pos (by have := HML.out; omega))
        have f8 : ((m : Int) == 8) = true := by rw [h8]; rfl
        clear h8
        have z0 := HZ.out.frz (k := 0) 1 rfl
        have z1 := HZ.out.frz (k := 1) 1 rfl
        have b0 := HZ.out.cell (k := 0) 1 rfl rfl
        have b1 := HZ.out.cell (k := 1) 1 rfl rfl
        have h0 := HZ.out.cell (k := 0) 3 rfl rfl
        have h1 := HZ.out.cell (k := 1) 3 rfl rfl
        have HSF := Lib.hid ((HZ.out.setBlk (k := 0) 1 rfl ((.slice (some ⟨g2, 0, none⟩) m d))).setBlk (k := 1) 1 rfl (.int .i64 o1))
        have u0 := HSF.out.cell (k := 0) 1 rfl rfl
        have u1 := HSF.out.cell (k := 1) 1 rfl rfl
        go_wp2
        exact bodyPost_ret (v := .tuple #[.agg #[(.slice (some ⟨g2, 0, none⟩) m d), .int .i64 o1], .int .i64 4]) (by simp [results, Try.results47, go_sem, u0, u1]) rfl ⟨_, _, _, _, by rw [HO1.out, HF.out], by rw [HF.out]; exact HSF.out.sel [4] (by decide) rfl⟩
      have HF : Hid (Pl.takeS h x = (⟨Mm.insertAt h.Rows p ⟨x.Name, [⟨x.At, x.Value⟩]⟩, o1⟩, 1)) := Lib.hid (by rw [HMS.out, ← HO1.out]; exact if_neg (by have := HML.out; omega))
      have f8 : ((m : Int) == 8) = false := by rw [beq_eq_false_iff_ne]; omega
      go_upto_region 19 with fail
      clear f8 h8
      have s0 := HZ.out.cell (k := 0) 2 rfl rfl
      have t0 := HZ.out.cell (k := 0) 0 rfl rfl
      have t1 := HZ.out.cell (k := 1) 0 rfl rfl
      have hghl : gh < X.heap.size := World.block_lt_of_cell? X ⟨gh, 0, none⟩ c0
      obtain ⟨lc, ho, h1c, hnext⟩ := HZ.out.insLate 4 rfl (k := p) (by rw [← HML.out]; exact hpm)
      rw [← HML.out] at ho hnext
      have ho : X.ownsRow 0 83 2 (.slice (some ⟨g2, 0, none⟩) m d) m lc := ho
      have HNX := Lib.hid hnext
      clear hnext
      have hcc : ∀ j u, lc[j]? = some u → X.cell? ⟨g2, j, none⟩ = some u := fun j u hj => by
        have := ho.cells (g := g2) rfl j u hj
        rwa [Mm.add0] at this
      have hmd : m ≤ d := by
        rcases ho.2 with ⟨hv, _⟩ | ⟨g, cap, cur, hv, _, _, hnc, _⟩
        · cases hv
        · injection hv with _ _ e3
          subst e3
          exact hnc
      have hcl := ho.1
      as_aux_lemma =>
      obtain ⟨A8, c8, w8, e1, kk1, nn8, hV⟩ := put3R X ((some ⟨g2, 0, none⟩)) ((some ⟨g2, p * 2, none⟩)) m p ((m - p)) (d) ((d - p)) lc ho h1c hpm (by omega) (fun hh => by cases hh) (by omega) (fun hh => by cases hh) (fun a ha j u hj => by injection ha with ha; subst ha; rw [Mm.add0]; rw [List.getElem?_take] at hj; split at hj; exact hcc j u hj; cases hj) (fun a ha j u hj => by injection ha with ha; subst ha; rw [Addr.add_lit]; rw [List.getElem?_drop] at hj; exact hcc _ u hj)
      obtain ⟨g8, hg8⟩ : ∃ g, w8.heap.size = g := ⟨_, rfl⟩
      obtain ⟨V, hVd⟩ : ∃ V, w8.alloc (.cells #[.int .i64 x.At, .int .i64 x.Value] 89) = V := ⟨_, rfl⟩
      have hVs : V.heap.size = g8 + 1 := by rw [← hVd, Mm.sz1, hg8]
      have hVb : Below w8.heap.size w8 V := by rw [← hVd]; exact below_new (Below.refl _ _) _
      obtain ⟨A10, c10, w10, e2, k10, A11, c11, w11, e3, r4, kb, k11, n11⟩ := hV V [.string x.Name, .slice (some ⟨g8, 0, none⟩) 1 1] hVb rfl (by simp [Value.oneCell'])
      rw [hVs] at e2 k10 k11 n11
      have hX8 := kk1.size
      have hn8 : (Value.slice A8 p c8).ownBlock ≠ some g8 := fun hh => by have := (nn8 _ hh).2; omega
      have hbl : Mm.Blk w11 g8 89 [.int .i64 x.At, .int .i64 x.Value] := Mm.Blk.keep (by have h9 := Mm.Blk.new w8 89 [.int .i64 x.At, .int .i64 x.Value]; rw [hg8] at h9; rw [← hVd]; exact h9) (k11 g8 (by omega) hn8)
      obtain ⟨fp', hsE⟩ := HNX.out w11 (.slice A11 (m + 1) c11) ⟨x.Name, [⟨x.At, x.Value⟩]⟩ [.string x.Name, .slice (some ⟨g8, 0, none⟩) 1 1] [g8] kb (rRow_own_mk (x := ⟨x.Name, [⟨x.At, x.Value⟩]⟩) HNM.out (Mm.oneSmp (x := ⟨x.At, x.Value⟩) hbl HI.out)) (by simp) (fun b hb => by simp at hb; omega) r4 (fun g hg => by
        rcases n11 g hg with hh | hh
        · have := nn8 g hh
          exact ⟨this.1, by simp; omega⟩
        · exact ⟨by omega, by simp; omega⟩)
      have HSE := Lib.hid hsE
      have HK := Lib.hid (And.intro e1 (And.intro e2 e3))
      have s8 := below_some kk1 s0
      have t80 := below_some kk1 t0
      have t81 := below_some kk1 t1
      have c10' : w10.cell? ⟨gh, 0, none⟩ = some (.slice (some ⟨g2, 0, none⟩) m d) := (World.cell?_of_block (k10 gh (by omega) (fun hh => by have := (nn8 _ hh).1; omega))).trans (below_some (below_step kk1 hVb) c0)
      obtain ⟨XT, hXT⟩ : ∃ XT, w11.setCell ⟨gh, 0, none⟩ (.slice A11 (m + 1) c11) = XT := ⟨_, rfl⟩
      replace HZ := Lib.hid ((HSE.out.setBlk (k := 0) 3 rfl (.slice A11 (m + 1) c11)).atW hXT)
      have h11 := HSE.out.cell (k := 0) 3 rfl rfl
      have z11 := HSE.out.frz (k := 0) 3 rfl
      clear hsE e1 e2 e3 r4 kk1 kb k10 k11 n11 nn8 hV hVb hX8 hn8 hbl HSE HNX h1c ho s0 t0 t1
      go_upto_region 20 with (at_builtin; refine Lib.wpList_append_run _ rfl _ _ _ _ rfl _ _ rfl rfl _ _ (HK.out.1 _) ?_)
      clear c0
      go_upto_region 21 with (at_builtin; refine Lib.wpList_append_run _ rfl _ _ _ _ rfl _ _ rfl rfl _ _ (HK.out.2.1 _) ?_)
      go_upto_region 22 with (at_builtin; refine Lib.wpList_append_run _ rfl _ _ _ _ rfl _ _ rfl rfl _ _ (HK.out.2.2 _) ?_)
      clear hXT h11 z11 c10' s8 t80 t81 HK
      have z0 := HZ.out.frz (k := 0) 1 rfl
      have z1 := HZ.out.frz (k := 1) 1 rfl
      have b0 := HZ.out.cell (k := 0) 1 rfl rfl
      have b1 := HZ.out.cell (k := 1) 1 rfl rfl
      have h0 := HZ.out.cell (k := 0) 3 rfl rfl
      have h1 := HZ.out.cell (k := 1) 3 rfl rfl
      have HSF := Lib.hid ((HZ.out.setBlk (k := 0) 1 rfl ((.slice A11 (m + 1) c11))).setBlk (k := 1) 1 rfl (.int .i64 o1))
      have u0 := HSF.out.cell (k := 0) 1 rfl rfl
      have u1 := HSF.out.cell (k := 1) 1 rfl rfl
      go_wp2
      exact bodyPost_ret (v := .tuple #[.agg #[(.slice A11 (m + 1) c11), .int .i64 o1], .int .i64 1]) (by simp [results, Try.results47, go_sem, u0, u1]) rfl ⟨_, _, _, _, by rw [HO1.out, HF.out], by rw [HF.out]; exact HSF.out.sel [4] (by decide) rfl⟩
    · have f1 : ¬ (p : Int) < (m : Nat) := by omega
      have f4 : decide (p < m) = false := by simp; omega
      clear hit hpl
      refine wp_region_und (by kernel_rfl) (by kernel_rfl) ?_
      repeat (go_big_quiet_step ((first | fail)))
      refine wpQuiet_nil ?_
      intro X hX
      have HZ := Lib.hid (HS3.out.step hX)
      clear hX HS3 c0 s0
      have c0 := HZ.out.cell (k := 0) 3 rfl rfl
      by_cases h8 : m = 8
      · as_aux_lemma =>
        have HF : Hid (Pl.takeS h x = (⟨h.Rows, o1⟩, 4)) := Lib.hid (by rw [HMS.out, ← HO1.out]; exact if_pos (by have := HML.out; omega))
        have f8 : ((m : Int) == 8) = true := by rw [h8]; rfl
        clear h8
        have z0 := HZ.out.frz (k := 0) 1 rfl
        have z1 := HZ.out.frz (k := 1) 1 rfl
        have b0 := HZ.out.cell (k := 0) 1 rfl rfl
        have b1 := HZ.out.cell (k := 1) 1 rfl rfl
        have h0 := HZ.out.cell (k := 0) 3 rfl rfl
        have h1 := HZ.out.cell (k := 1) 3 rfl rfl
        have HSF := Lib.hid ((HZ.out.setBlk (k := 0) 1 rfl ((.slice A m d))).setBlk (k := 1) 1 rfl (.int .i64 o1))
        have u0 := HSF.out.cell (k := 0) 1 rfl rfl
        have u1 := HSF.out.cell (k := 1) 1 rfl rfl
        go_wp2
        exact bodyPost_ret (v := .tuple #[.agg #[(.slice A m d), .int .i64 o1], .int .i64 4]) (by simp [results, Try.results47, go_sem, u0, u1]) rfl ⟨_, _, _, _, by rw [HO1.out, HF.out], by rw [HF.out]; exact HSF.out.sel [4] (by decide) rfl⟩
      have HF : Hid (Pl.takeS h x = (⟨Mm.insertAt h.Rows p ⟨x.Name, [⟨x.At, x.Value⟩]⟩, o1⟩, 1)) := Lib.hid (by rw [HMS.out, ← HO1.out]; exact if_neg (by have := HML.out; omega))
      have f8 : ((m : Int) == 8) = false := by rw [beq_eq_false_iff_ne]; omega
      go_upto_region 19 with fail
      clear f8 h8
      have s0 := HZ.out.cell (k := 0) 2 rfl rfl
      have t0 := HZ.out.cell (k := 0) 0 rfl rfl
      have t1 := HZ.out.cell (k := 1) 0 rfl rfl
      have hghl : gh < X.heap.size := World.block_lt_of_cell? X ⟨gh, 0, none⟩ c0
      obtain ⟨lc, ho, h1c, hnext⟩ := HZ.out.insLate 4 rfl (k := p) (by rw [← HML.out]; exact hpm)
      rw [← HML.out] at ho hnext
      have ho : X.ownsRow 0 83 2 (.slice A m d) m lc := ho
      have HNX := Lib.hid hnext
      clear hnext
      rcases ho.2 with ⟨hv, hn0⟩ | ⟨g2, cap, cur, hv, _, hg, hnc, hcm, hcs, htake⟩
      · injection hv with e1 e2 e3
        subst e1 e3
        subst hn0
        obtain rfl : p = 0 := by omega
        as_aux_lemma =>
        obtain ⟨A8, c8, w8, e1, kk1, nn8, hV⟩ := put3R X (none) (none) 0 0 (0) (0) (0) lc ho h1c hpm (by omega) (fun _ => ⟨rfl, rfl⟩) rfl (fun _ => ⟨rfl, rfl⟩) (fun a hh => by cases hh) (fun a hh => by cases hh)
        obtain ⟨g8, hg8⟩ : ∃ g, w8.heap.size = g := ⟨_, rfl⟩
        obtain ⟨V, hVd⟩ : ∃ V, w8.alloc (.cells #[.int .i64 x.At, .int .i64 x.Value] 89) = V := ⟨_, rfl⟩
        have hVs : V.heap.size = g8 + 1 := by rw [← hVd, Mm.sz1, hg8]
        have hVb : Below w8.heap.size w8 V := by rw [← hVd]; exact below_new (Below.refl _ _) _
        obtain ⟨A10, c10, w10, e2, k10, A11, c11, w11, e3, r4, kb, k11, n11⟩ := hV V [.string x.Name, .slice (some ⟨g8, 0, none⟩) 1 1] hVb rfl (by simp [Value.oneCell'])
        rw [hVs] at e2 k10 k11 n11
        have hX8 := kk1.size
        have hn8 : (Value.slice A8 0 c8).ownBlock ≠ some g8 := fun hh => by have := (nn8 _ hh).2; omega
        have hbl : Mm.Blk w11 g8 89 [.int .i64 x.At, .int .i64 x.Value] := Mm.Blk.keep (by have h9 := Mm.Blk.new w8 89 [.int .i64 x.At, .int .i64 x.Value]; rw [hg8] at h9; rw [← hVd]; exact h9) (k11 g8 (by omega) hn8)
        obtain ⟨fp', hsE⟩ := HNX.out w11 (.slice A11 (0 + 1) c11) ⟨x.Name, [⟨x.At, x.Value⟩]⟩ [.string x.Name, .slice (some ⟨g8, 0, none⟩) 1 1] [g8] kb (rRow_own_mk (x := ⟨x.Name, [⟨x.At, x.Value⟩]⟩) HNM.out (Mm.oneSmp (x := ⟨x.At, x.Value⟩) hbl HI.out)) (by simp) (fun b hb => by simp at hb; omega) r4 (fun g hg => by
          rcases n11 g hg with hh | hh
          · have := nn8 g hh
            exact ⟨this.1, by simp; omega⟩
          · exact ⟨by omega, by simp; omega⟩)
        have HSE := Lib.hid hsE
        have HK := Lib.hid (And.intro e1 (And.intro e2 e3))
        have s8 := below_some kk1 s0
        have t80 := below_some kk1 t0
        have t81 := below_some kk1 t1
        have c10' : w10.cell? ⟨gh, 0, none⟩ = some (.slice none 0 0) := (World.cell?_of_block (k10 gh (by omega) (fun hh => by have := (nn8 _ hh).1; omega))).trans (below_some (below_step kk1 hVb) c0)
        obtain ⟨XT, hXT⟩ : ∃ XT, w11.setCell ⟨gh, 0, none⟩ (.slice A11 (0 + 1) c11) = XT := ⟨_, rfl⟩
        replace HZ := Lib.hid ((HSE.out.setBlk (k := 0) 3 rfl (.slice A11 (0 + 1) c11)).atW hXT)
        have h11 := HSE.out.cell (k := 0) 3 rfl rfl
        have z11 := HSE.out.frz (k := 0) 3 rfl
        clear hsE e1 e2 e3 r4 kk1 kb k10 k11 n11 nn8 hV hVb hX8 hn8 hbl HSE HNX h1c ho s0 t0 t1
        go_upto_region 20 with (at_builtin; refine Lib.wpList_append_run _ rfl _ _ _ _ rfl _ _ rfl rfl _ _ (HK.out.1 _) ?_)
        clear c0
        go_upto_region 21 with (at_builtin; refine Lib.wpList_append_run _ rfl _ _ _ _ rfl _ _ rfl rfl _ _ (HK.out.2.1 _) ?_)
        go_upto_region 22 with (at_builtin; refine Lib.wpList_append_run _ rfl _ _ _ _ rfl _ _ rfl rfl _ _ (HK.out.2.2 _) ?_)
        clear hXT h11 z11 c10' s8 t80 t81 HK
        have z0 := HZ.out.frz (k := 0) 1 rfl
        have z1 := HZ.out.frz (k := 1) 1 rfl
        have b0 := HZ.out.cell (k := 0) 1 rfl rfl
        have b1 := HZ.out.cell (k := 1) 1 rfl rfl
        have h0 := HZ.out.cell (k := 0) 3 rfl rfl
        have h1 := HZ.out.cell (k := 1) 3 rfl rfl
        have HSF := Lib.hid ((HZ.out.setBlk (k := 0) 1 rfl ((.slice A11 (0 + 1) c11))).setBlk (k := 1) 1 rfl (.int .i64 o1))
        have u0 := HSF.out.cell (k := 0) 1 rfl rfl
        have u1 := HSF.out.cell (k := 1) 1 rfl rfl
        go_wp2
        exact bodyPost_ret (v := .tuple #[.agg #[(.slice A11 (0 + 1) c11), .int .i64 o1], .int .i64 1]) (by simp [results, Try.results47, go_sem, u0, u1]) rfl ⟨_, _, _, _, by rw [HO1.out, HF.out], by rw [HF.out]; exact HSF.out.sel [4] (by decide) rfl⟩
      · injection hv with e1 e2 e3
        subst e1 e3
        have hcc : ∀ j u, lc[j]? = some u → X.cell? ⟨g2, j, none⟩ = some u := fun j u hj => by
          have := ho.cells (g := g2) rfl j u hj
          rwa [Mm.add0] at this
        have hcl := ho.1
        unfold maxLen at hcm
        clear hg hcs htake
        by_cases hcp : d = p
        · subst hcp
          as_aux_lemma =>
          obtain ⟨A8, c8, w8, e1, kk1, nn8, hV⟩ := put3R X ((some ⟨g2, 0, none⟩)) ((some ⟨g2, 0, none⟩)) m d (0) (d) (0) lc ho h1c hpm (by omega) (fun hh => by cases hh) (by omega) (fun hh => by cases hh) (fun a ha j u hj => by injection ha with ha; subst ha; rw [Mm.add0]; rw [List.getElem?_take] at hj; split at hj; exact hcc j u hj; cases hj) (fun a ha j u hj => by rw [List.drop_of_length_le (by omega)] at hj; simp at hj)
          obtain ⟨g8, hg8⟩ : ∃ g, w8.heap.size = g := ⟨_, rfl⟩
          obtain ⟨V, hVd⟩ : ∃ V, w8.alloc (.cells #[.int .i64 x.At, .int .i64 x.Value] 89) = V := ⟨_, rfl⟩
          have hVs : V.heap.size = g8 + 1 := by rw [← hVd, Mm.sz1, hg8]
          have hVb : Below w8.heap.size w8 V := by rw [← hVd]; exact below_new (Below.refl _ _) _
          obtain ⟨A10, c10, w10, e2, k10, A11, c11, w11, e3, r4, kb, k11, n11⟩ := hV V [.string x.Name, .slice (some ⟨g8, 0, none⟩) 1 1] hVb rfl (by simp [Value.oneCell'])
          rw [hVs] at e2 k10 k11 n11
          have hX8 := kk1.size
          have hn8 : (Value.slice A8 d c8).ownBlock ≠ some g8 := fun hh => by have := (nn8 _ hh).2; omega
          have hbl : Mm.Blk w11 g8 89 [.int .i64 x.At, .int .i64 x.Value] := Mm.Blk.keep (by have h9 := Mm.Blk.new w8 89 [.int .i64 x.At, .int .i64 x.Value]; rw [hg8] at h9; rw [← hVd]; exact h9) (k11 g8 (by omega) hn8)
          obtain ⟨fp', hsE⟩ := HNX.out w11 (.slice A11 (m + 1) c11) ⟨x.Name, [⟨x.At, x.Value⟩]⟩ [.string x.Name, .slice (some ⟨g8, 0, none⟩) 1 1] [g8] kb (rRow_own_mk (x := ⟨x.Name, [⟨x.At, x.Value⟩]⟩) HNM.out (Mm.oneSmp (x := ⟨x.At, x.Value⟩) hbl HI.out)) (by simp) (fun b hb => by simp at hb; omega) r4 (fun g hg => by
            rcases n11 g hg with hh | hh
            · have := nn8 g hh
              exact ⟨this.1, by simp; omega⟩
            · exact ⟨by omega, by simp; omega⟩)
          have HSE := Lib.hid hsE
          have HK := Lib.hid (And.intro e1 (And.intro e2 e3))
          have s8 := below_some kk1 s0
          have t80 := below_some kk1 t0
          have t81 := below_some kk1 t1
          have c10' : w10.cell? ⟨gh, 0, none⟩ = some (.slice (some ⟨g2, 0, none⟩) m d) := (World.cell?_of_block (k10 gh (by omega) (fun hh => by have := (nn8 _ hh).1; omega))).trans (below_some (below_step kk1 hVb) c0)
          obtain ⟨XT, hXT⟩ : ∃ XT, w11.setCell ⟨gh, 0, none⟩ (.slice A11 (m + 1) c11) = XT := ⟨_, rfl⟩
          replace HZ := Lib.hid ((HSE.out.setBlk (k := 0) 3 rfl (.slice A11 (m + 1) c11)).atW hXT)
          have h11 := HSE.out.cell (k := 0) 3 rfl rfl
          have z11 := HSE.out.frz (k := 0) 3 rfl
          clear hsE e1 e2 e3 r4 kk1 kb k10 k11 n11 nn8 hV hVb hX8 hn8 hbl HSE HNX h1c ho s0 t0 t1
          go_upto_region 20 with (at_builtin; refine Lib.wpList_append_run _ rfl _ _ _ _ rfl _ _ rfl rfl _ _ (HK.out.1 _) ?_)
          clear c0
          go_upto_region 21 with (at_builtin; refine Lib.wpList_append_run _ rfl _ _ _ _ rfl _ _ rfl rfl _ _ (HK.out.2.1 _) ?_)
          go_upto_region 22 with (at_builtin; refine Lib.wpList_append_run _ rfl _ _ _ _ rfl _ _ rfl rfl _ _ (HK.out.2.2 _) ?_)
          clear hXT h11 z11 c10' s8 t80 t81 HK
          have z0 := HZ.out.frz (k := 0) 1 rfl
          have z1 := HZ.out.frz (k := 1) 1 rfl
          have b0 := HZ.out.cell (k := 0) 1 rfl rfl
          have b1 := HZ.out.cell (k := 1) 1 rfl rfl
          have h0 := HZ.out.cell (k := 0) 3 rfl rfl
          have h1 := HZ.out.cell (k := 1) 3 rfl rfl
          have HSF := Lib.hid ((HZ.out.setBlk (k := 0) 1 rfl ((.slice A11 (m + 1) c11))).setBlk (k := 1) 1 rfl (.int .i64 o1))
          have u0 := HSF.out.cell (k := 0) 1 rfl rfl
          have u1 := HSF.out.cell (k := 1) 1 rfl rfl
          go_wp2
          exact bodyPost_ret (v := .tuple #[.agg #[(.slice A11 (m + 1) c11), .int .i64 o1], .int .i64 1]) (by simp [results, Try.results47, go_sem, u0, u1]) rfl ⟨_, _, _, _, by rw [HO1.out, HF.out], by rw [HF.out]; exact HSF.out.sel [4] (by decide) rfl⟩
        · have hcp2 : ¬ (d = p) := hcp
          as_aux_lemma =>
          obtain ⟨A8, c8, w8, e1, kk1, nn8, hV⟩ := put3R X ((some ⟨g2, 0, none⟩)) ((some ⟨g2, p * 2, none⟩)) m p ((m - p)) (d) ((d - p)) lc ho h1c hpm (by omega) (fun hh => by cases hh) (by omega) (fun hh => by cases hh) (fun a ha j u hj => by injection ha with ha; subst ha; rw [Mm.add0]; rw [List.getElem?_take] at hj; split at hj; exact hcc j u hj; cases hj) (fun a ha j u hj => by injection ha with ha; subst ha; rw [Addr.add_lit]; rw [List.getElem?_drop] at hj; exact hcc _ u hj)
          obtain ⟨g8, hg8⟩ : ∃ g, w8.heap.size = g := ⟨_, rfl⟩
          obtain ⟨V, hVd⟩ : ∃ V, w8.alloc (.cells #[.int .i64 x.At, .int .i64 x.Value] 89) = V := ⟨_, rfl⟩
          have hVs : V.heap.size = g8 + 1 := by rw [← hVd, Mm.sz1, hg8]
          have hVb : Below w8.heap.size w8 V := by rw [← hVd]; exact below_new (Below.refl _ _) _
          obtain ⟨A10, c10, w10, e2, k10, A11, c11, w11, e3, r4, kb, k11, n11⟩ := hV V [.string x.Name, .slice (some ⟨g8, 0, none⟩) 1 1] hVb rfl (by simp [Value.oneCell'])
          rw [hVs] at e2 k10 k11 n11
          have hX8 := kk1.size
          have hn8 : (Value.slice A8 p c8).ownBlock ≠ some g8 := fun hh => by have := (nn8 _ hh).2; omega
          have hbl : Mm.Blk w11 g8 89 [.int .i64 x.At, .int .i64 x.Value] := Mm.Blk.keep (by have h9 := Mm.Blk.new w8 89 [.int .i64 x.At, .int .i64 x.Value]; rw [hg8] at h9; rw [← hVd]; exact h9) (k11 g8 (by omega) hn8)
          obtain ⟨fp', hsE⟩ := HNX.out w11 (.slice A11 (m + 1) c11) ⟨x.Name, [⟨x.At, x.Value⟩]⟩ [.string x.Name, .slice (some ⟨g8, 0, none⟩) 1 1] [g8] kb (rRow_own_mk (x := ⟨x.Name, [⟨x.At, x.Value⟩]⟩) HNM.out (Mm.oneSmp (x := ⟨x.At, x.Value⟩) hbl HI.out)) (by simp) (fun b hb => by simp at hb; omega) r4 (fun g hg => by
            rcases n11 g hg with hh | hh
            · have := nn8 g hh
              exact ⟨this.1, by simp; omega⟩
            · exact ⟨by omega, by simp; omega⟩)
          have HSE := Lib.hid hsE
          have HK := Lib.hid (And.intro e1 (And.intro e2 e3))
          have s8 := below_some kk1 s0
          have t80 := below_some kk1 t0
          have t81 := below_some kk1 t1
          have c10' : w10.cell? ⟨gh, 0, none⟩ = some (.slice (some ⟨g2, 0, none⟩) m d) := (World.cell?_of_block (k10 gh (by omega) (fun hh => by have := (nn8 _ hh).1; omega))).trans (below_some (below_step kk1 hVb) c0)
          obtain ⟨XT, hXT⟩ : ∃ XT, w11.setCell ⟨gh, 0, none⟩ (.slice A11 (m + 1) c11) = XT := ⟨_, rfl⟩
          replace HZ := Lib.hid ((HSE.out.setBlk (k := 0) 3 rfl (.slice A11 (m + 1) c11)).atW hXT)
          have h11 := HSE.out.cell (k := 0) 3 rfl rfl
          have z11 := HSE.out.frz (k := 0) 3 rfl
          clear hsE e1 e2 e3 r4 kk1 kb k10 k11 n11 nn8 hV hVb hX8 hn8 hbl HSE HNX h1c ho s0 t0 t1
          go_upto_region 20 with (at_builtin; refine Lib.wpList_append_run _ rfl _ _ _ _ rfl _ _ rfl rfl _ _ (HK.out.1 _) ?_)
          clear c0
          go_upto_region 21 with (at_builtin; refine Lib.wpList_append_run _ rfl _ _ _ _ rfl _ _ rfl rfl _ _ (HK.out.2.1 _) ?_)
          go_upto_region 22 with (at_builtin; refine Lib.wpList_append_run _ rfl _ _ _ _ rfl _ _ rfl rfl _ _ (HK.out.2.2 _) ?_)
          clear hXT h11 z11 c10' s8 t80 t81 HK
          have z0 := HZ.out.frz (k := 0) 1 rfl
          have z1 := HZ.out.frz (k := 1) 1 rfl
          have b0 := HZ.out.cell (k := 0) 1 rfl rfl
          have b1 := HZ.out.cell (k := 1) 1 rfl rfl
          have h0 := HZ.out.cell (k := 0) 3 rfl rfl
          have h1 := HZ.out.cell (k := 1) 3 rfl rfl
          have HSF := Lib.hid ((HZ.out.setBlk (k := 0) 1 rfl ((.slice A11 (m + 1) c11))).setBlk (k := 1) 1 rfl (.int .i64 o1))
          have u0 := HSF.out.cell (k := 0) 1 rfl rfl
          have u1 := HSF.out.cell (k := 1) 1 rfl rfl
          go_wp2
          exact bodyPost_ret (v := .tuple #[.agg #[(.slice A11 (m + 1) c11), .int .i64 o1], .int .i64 1]) (by simp [results, Try.results47, go_sem, u0, u1]) rfl ⟨_, _, _, _, by rw [HO1.out, HF.out], by rw [HF.out]; exact HSF.out.sel [4] (by decide) rfl⟩
end Go.Proofs.Ytkodfflnpalbbaa

/-
  Contracts: measurements put into a head one after another, the reference's (l17Fold); PlayPlain of the reference. No conditions beyond those named.
-/
namespace Go.Proofs.Ytkodfflnpalbbaa
open Go.RowKit
attribute [local go_sem] und_cell cha_cell World.cell?_alloc_some
def FoldR (l : List Say) (w : World) (e : Ending) (w' : World) : Prop :=
  ∃ A n c fp, e = .returned (.agg #[.slice A n c, .int .i64 (Pl.foldS ⟨[], 0⟩ l).Offset]) ∧ Mm.SepF [] w w' [Mm.tsl rRow 83 (Pl.foldS ⟨[], 0⟩ l).Rows (.slice A n c) fp]
set_option maxRecDepth 100000 in
set_option maxHeartbeats 4000000 in
theorem l17Fold_c (l : List Say) (A : Option Addr) (n c : Nat) (w : World) (B : Nat) (hl : Mm.SlAt rSay w B l A n c) (hB : B ≤ w.heap.size) (hn : n ≤ 1000) :
    Calls Try.prog 32 #[.slice A n c] w (FoldR l w) := by
  have HL := Lib.hid hl
  have HLN : Hid (l.length = n) := hl.1
  have HBW := Lib.hid hB
  have HFO : Hid ((Pl.foldS ⟨[], 0⟩ l).Offset = (n : Nat)) := Lib.hid (by rw [Pl.foldS_off, HLN.out]; simp)
  clear hl hB
  obtain ⟨gr, hgr⟩ : ∃ g, w.heap.size = g := ⟨_, rfl⟩
  obtain ⟨gh, hgh⟩ : ∃ g, gr + 1 = g := ⟨_, rfl⟩
  obtain ⟨W0, hW0⟩ : ∃ W, (w.alloc (.cells #[.slice none 0 0, .int .i64 0] 35)).alloc (.cells #[.slice none 0 0, .int .i64 0] 35) = W := ⟨_, rfl⟩
  have HS := Lib.hid ((((Mm.SepF.start w).alloc' hgr 35 [.slice none 0 0, .int .i64 0]).alloc' (g := gh) (by rw [Mm.sz1, hgr, hgh]) 35 [.slice none 0 0, .int .i64 0]).atW hW0)
  go_enter Try.func32, Try.ntmps32
  go_upto_region 1 with fail
  go_upto_region 2 with fail
  clear hW0 hgr hgh
  have KS := Lib.hid (HS.out.add (Below.refl _ _) (t := Mm.tsl rRow 83 [] (.slice none 0 0) []) Mm.SlOwn.nil List.nodup_nil (fun b hb => by cases hb))
  go_wp2
  clear HS
  go_loopg [10] n (fun gg i wr => ∃ (k : Nat) (A' : Option Addr) (m' c' : Nat) (o : Int) (fp : List Nat), n - k ≤ gg ∧ k ≤ n ∧ i = .int .i64 k ∧ Hid (o = (k : Nat)) ∧ Hid (Mm.SepF [] w wr [Mm.tsl rRow 83 (Pl.foldS ⟨[], 0⟩ (l.take k)).Rows (.slice A' m' c') fp, Mm.tblk gh 35 [.slice A' m' c', .int .i64 o], Mm.tblk gr 35 [.slice none 0 0, .int .i64 0]]))
  case atStart => exact ⟨0, none, 0, 0, 0, [], Nat.le_refl _, Nat.zero_le _, rfl, rfl, KS.out⟩
  case round =>
    clear KS
    obtain ⟨k, A', m', c', o, fp, hgk, hk', rfl, HO, HS⟩ := hrel
    obtain ⟨W, rfl⟩ : ∃ W : World, W = wr := ⟨_, rfl⟩
    by_cases hlt : k < n
    · as_aux_lemma =>
      have fc : (k : Int) < (n : Nat) := by omega
      obtain ⟨x, b, off, hx, rfl, hb, hnm, ia, iv, e0, e1, e2⟩ := rSay_get (HL.out.keep (w' := W) fun b hb => HS.out.bel0.block b (by have := HBW.out; omega)) hlt
      have HNX := Lib.hid (Pl.fold_next (h := ⟨[], 0⟩) hx)
      have HIX := Lib.hid (And.intro hnm (And.intro ia iv))
      clear hx hnm ia iv
      go_upto_region 5 with fail
      obtain ⟨gn, hgn⟩ : ∃ g, W.heap.size = g := ⟨_, rfl⟩
      obtain ⟨W1, hW1⟩ : ∃ V, W.alloc (.cells #[.string x.Name, .int .i64 x.At, .int .i64 x.Value] 61) = V := ⟨_, rfl⟩
      have HS1 := Lib.hid ((HS.out.alloc' hgn 61 [.string x.Name, .int .i64 x.At, .int .i64 x.Value]).atW hW1)
      rw [hW1, hgn]
      clear hW1 e0 e1 e2 HS hgn
      obtain ⟨fk, hfk⟩ : ∃ fk, Pl.foldS ⟨[], 0⟩ (l.take k) = fk := ⟨_, rfl⟩
      have hof : fk.Offset = o := by rw [← hfk, Pl.foldS_off, List.length_take, HO.out]; have := HLN.out; simp; omega
      have HFW : Hid (Pl.HW fk) := Lib.hid (by rw [← hfk]; exact Pl.HW.zero.fold _)
      rw [hfk] at HS1 HNX
      have HS1 : Hid (Mm.SepF [] w W1 [Mm.tblk gn 61 [.string x.Name, .int .i64 x.At, .int .i64 x.Value], Mm.tsl rRow 83 fk.Rows (.slice A' m' c') fp, Mm.tblk gh 35 [.slice A' m' c', .int .i64 o], Mm.tblk gr 35 [.slice none 0 0, .int .i64 0]]) := HS1
      have CT := l13Take_c fk x A' m' c' fp W1 (HS1.out.sl 1 rfl) (HS1.out.ndat (i := 1) rfl) HFW.out (by rw [hof, HO.out]; omega) HIX.out.1 HIX.out.2.1 HIX.out.2.2
      unfold TakeR at CT
      rw [hof] at CT
      obtain ⟨o1, ho1⟩ : ∃ o1, o + 1 = o1 := ⟨_, rfl⟩
      rw [ho1] at CT
      have HO1 : Hid (o1 = ((k + 1 : Nat) : Int)) := Lib.hid (by have := HO.out; omega)
      obtain ⟨cd, hcd⟩ : ∃ cd, (Pl.takeS fk x).2 = cd := ⟨_, rfl⟩
      rw [hcd] at CT
      have q0 := HS1.out.cell (k := 0) 0 rfl rfl
      have q1 := HS1.out.cell (k := 1) 0 rfl rfl
      have q2 := HS1.out.cell (k := 2) 0 rfl rfl
      have h0 := HS1.out.cell (k := 0) 2 rfl rfl
      have h1 := HS1.out.cell (k := 1) 2 rfl rfl
      clear hfk hof hcd ho1
      go_upto_region 6 with (go_at_call 47; (with_reducible refine CT.mono ?_); clear CT; rintro e w3 ⟨A2, m2, d2, fp3, rfl, hS⟩; (have HS3 := Lib.hid (HS1.out.call 1 rfl hS.left)); clear hS q0 q1 q2 h0 h1)
      obtain ⟨gy, hgy⟩ : ∃ g, w3.heap.size = g := ⟨_, rfl⟩
      obtain ⟨W4, hW4⟩ : ∃ V, w3.alloc (.cells #[.slice A2 m2 d2, .int .i64 o1] 35) = V := ⟨_, rfl⟩
      have HS4 := Lib.hid ((HS3.out.alloc' hgy 35 [.slice A2 m2 d2, .int .i64 o1]).atW hW4)
      rw [hW4, hgy]
      clear hW4 hgy HS3 HS1
      have y0 := HS4.out.cell (k := 0) 0 rfl rfl
      have y1 := HS4.out.cell (k := 1) 0 rfl rfl
      have h0 := HS4.out.cell (k := 0) 3 rfl rfl
      have h1 := HS4.out.cell (k := 1) 3 rfl rfl
      have z0 := HS4.out.frz (k := 0) 3 rfl
      have z1 := HS4.out.frz (k := 1) 3 rfl
      obtain ⟨W5, hW5⟩ : ∃ V, (W4.setCell ⟨gh, 0, none⟩ (.slice A2 m2 d2)).setCell ⟨gh, 1, none⟩ (.int .i64 o1) = V := ⟨_, rfl⟩
      have HS5 := Lib.hid (((HS4.out.setBlk (k := 0) 3 rfl (.slice A2 m2 d2)).setBlk (k := 1) 3 rfl (.int .i64 o1)).atW hW5)
      go_wp2
      go_roundg (n - (k + 1))
      case measure => omega
      case rel => exact ⟨k + 1, A2, m2, d2, o1, fp3, Nat.le_refl _, by omega, by go_num, HO1, by rw [HNX.out.1]; exact HS5.out.sel [2, 3, 4] (by decide) rfl⟩
    · as_aux_lemma =>
      obtain rfl : k = n := by omega
      have HE : Hid (l.take k = l) := Lib.hid (List.take_of_length_le (by have := HLN.out; omega))
      rw [HE.out] at HS
      have fc : ¬ ((k : Nat) : Int) < (k : Nat) := by omega
      have b0 := HS.out.cell (k := 0) 1 rfl rfl
      have b1 := HS.out.cell (k := 1) 1 rfl rfl
      have o0 := HS.out.cell (k := 0) 2 rfl rfl
      have o1 := HS.out.cell (k := 1) 2 rfl rfl
      have z0 := HS.out.frz (k := 0) 2 rfl
      have z1 := HS.out.frz (k := 1) 2 rfl
      have HSF := Lib.hid ((HS.out.setBlk (k := 0) 2 rfl (.slice A' m' c')).setBlk (k := 1) 2 rfl (.int .i64 o))
      have u0 := HSF.out.cell (k := 0) 2 rfl rfl
      have u1 := HSF.out.cell (k := 1) 2 rfl rfl
      go_wp2
      exact bodyPost_ret (v := .agg #[.slice A' m' c', .int .i64 o]) (by simp [results, Try.results32, go_sem, u0, u1]) rfl ⟨A', m', c', fp, by rw [HFO.out, HO.out], HSF.out.sel [0] (by decide) rfl⟩
set_option maxRecDepth 100000 in
set_option maxHeartbeats 4000000 in
theorem specPlayPlain_c (l : List HouseStep) (A : Option Addr) (n c : Nat) (w : World) (B : Nat) (hl : Mm.SlAt rHouseStep w B l A n c) (hB : B ≤ w.heap.size) :
    Calls Try.prog 11 #[.slice A n c] w (Mm.Ret2 rHead w (Pl.playPlain l).1 (Pl.playPlain l).2) := by
  have HL := Lib.hid hl
  have HLN : Hid (l.length = n) := hl.1
  have hnm : n ≤ 9223372036854775807 := by have := hl.2.1; have := hl.2.2.1; unfold maxLen at this; omega
  have HBW := Lib.hid hB
  clear hl hB
  obtain ⟨gr, hgr⟩ : ∃ g, w.heap.size = g := ⟨_, rfl⟩
  obtain ⟨W0, hW0⟩ : ∃ W, w.alloc (.cells #[.slice none 0 0, .int .i64 0] 35) = W := ⟨_, rfl⟩
  have HS := Lib.hid (((Mm.SepF.start w).alloc' hgr 35 [.slice none 0 0, .int .i64 0]).atW hW0)
  by_cases h60 : 60 < n
  · have HF : Hid (Pl.playPlain l = (⟨[], 0⟩, false)) := Lib.hid (if_neg (by have := HLN.out; omega))
    have f1 : (60 : Int) < (n : Nat) := by omega
    rw [HF.out]
    go_enter Try.func11, Try.ntmps11
    go_upto_region 1 with fail
    clear hW0 hgr
    have b0 := HS.out.cell (k := 0) 0 rfl rfl
    have b1 := HS.out.cell (k := 1) 0 rfl rfl
    have z0 := HS.out.frz (k := 0) 0 rfl
    have z1 := HS.out.frz (k := 1) 0 rfl
    have HSF := Lib.hid ((HS.out.setBlk (k := 0) 0 rfl (.slice none 0 0)).setBlk (k := 1) 0 rfl (.int .i64 0))
    have u0 := HSF.out.cell (k := 0) 0 rfl rfl
    have u1 := HSF.out.cell (k := 1) 0 rfl rfl
    go_wp2
    exact bodyPost_ret (v := .tuple #[.agg #[.slice none 0 0, .int .i64 0], .bool false]) (by simp [results, Try.results11, go_sem, u0, u1]) rfl ⟨_, [], rfl, zHead_own, List.nodup_nil, (fun b hb => by cases hb), HSF.out.bel0⟩
  have HF : Hid (Pl.playPlain l = (Pl.foldS ⟨[], 0⟩ (Pl.toldS l), true)) := Lib.hid (if_pos (by have := HLN.out; omega))
  have f1 : ¬ (60 : Int) < (n : Nat) := by omega
  obtain ⟨iP, qP, qP0, qP1, qP2⟩ := info_parts Try.infoSayK
  rw [HF.out]
  go_enter Try.func11, Try.ntmps11
  go_upto_region 1 with fail
  clear hW0 hgr
  have KS := Lib.hid (HS.out.add (Below.refl _ _) (t := Mm.tsl rSay 61 [] (.slice none 0 0) []) Mm.SlOwn.nil List.nodup_nil (fun b hb => by cases hb))
  go_wp2
  clear HS
  go_loopg [4, 13] n (fun gg s4 i wr => ∃ (k m : Nat) (A' : Option Addr) (c' : Nat) (fq : List Nat), n - k ≤ gg ∧ k ≤ n ∧ s4 = .slice A' m c' ∧ i = .int .i64 k ∧ Hid ((Pl.toldS (l.take k)).length = m) ∧ Hid (Mm.SepF [] w wr [Mm.tsl rSay 61 (Pl.toldS (l.take k)) (.slice A' m c') fq, Mm.tblk gr 35 [.slice none 0 0, .int .i64 0]]))
  case atStart => exact ⟨0, 0, none, 0, [], Nat.le_refl _, Nat.zero_le _, rfl, rfl, rfl, KS.out⟩
  case round =>
    clear KS
    obtain ⟨k, m, A', c', fq, hgk, hk', rfl, rfl, HM, HS⟩ := hrel
    obtain ⟨W, rfl⟩ : ∃ W : World, W = wr := ⟨_, rfl⟩
    have hm60 : m ≤ 60 := by have h9 := Pl.toldS_len (l.take k); rw [List.length_take] at h9; have := HM.out; omega
    by_cases hlt : k < n
    · as_aux_lemma =>
      have fc : (k : Int) < (n : Nat) := by omega
      obtain ⟨s, b, off, hs, rfl, hb, ik, ip, hnm2, ia, iv, e0, e1, e2, e3, e4⟩ := rHouseStep_get (HL.out.keep (w' := W) fun b hb => HS.out.bel0.block b (by have := HBW.out; omega)) hlt
      have HNX := Lib.hid (Pl.toldS_next hs)
      have HIX := Lib.hid (And.intro hnm2 (And.intro ia iv))
      clear hs ik ip hnm2 ia iv
      go_upto_region 7 with fail
      obtain ⟨gn, hgn⟩ : ∃ g, W.heap.size = g := ⟨_, rfl⟩
      obtain ⟨W1, hW1⟩ : ∃ V, W.alloc (.cells #[.int .i64 s.Kind, .int .i64 s.Part, .string s.What.Name, .int .i64 s.What.At, .int .i64 s.What.Value] 63) = V := ⟨_, rfl⟩
      have HS1 := Lib.hid ((HS.out.alloc' hgn 63 [.int .i64 s.Kind, .int .i64 s.Part, .string s.What.Name, .int .i64 s.What.At, .int .i64 s.What.Value]).atW hW1)
      rw [hW1, hgn]
      clear hW1 e0 e1 e2 e3 e4 HS hgn
      have q0 := HS1.out.cell (k := 0) 0 rfl rfl
      have q2 := HS1.out.cell (k := 2) 0 rfl rfl
      have q3 := HS1.out.cell (k := 3) 0 rfl rfl
      have q4 := HS1.out.cell (k := 4) 0 rfl rfl
      by_cases hk1 : s.Kind = 1
      · have g1 : (s.Kind == 1) = true := by simp [hk1]
        have CI := l13Say_c s.What W1 HIX.out.1
        cases hso : Pl.sayOk s.What with
        | true =>
          have HNY : Hid (Pl.toldS (l.take (k + 1)) = Pl.toldS (l.take k) ++ [s.What]) := Lib.hid (by rw [HNX.out]; exact if_pos (by unfold Pl.tells; rw [hso, decide_eq_true hk1]; rfl))
          rw [hso] at CI
          clear hk1 hso
          go_upto_region 8 with (go_at_call 30; (with_reducible refine CI.mono ?_); clear CI; rintro e w2 ⟨rfl, hb2⟩; (have HS2 := Lib.hid (HS1.out.step hb2)); clear hb2 q0 q2 q3 q4; (have q2 := HS2.out.cell (k := 2) 0 rfl rfl); (have q3 := HS2.out.cell (k := 3) 0 rfl rfl); (have q4 := HS2.out.cell (k := 4) 0 rfl rfl))
          go_wp2_with (at_builtin; refine Mm.app_list (x := s.What) HS2.out 1 rfl rfl (.tmp 25) (.tmp 28) 60 rfl iP _ 32 Try.underlying60 qP qP0 qP1 qP2 rfl (by decide) rfl rfl (fun W => (rSay_own_mk (x := s.What) HIX.out)) HM.out (by unfold maxLen; omega) (by omega) ?_; intro g cap w' fp' hs; (have HS4 := Lib.hid hs); clear hs)
          go_roundg (n - (k + 1))
          case measure => omega
          case rel => exact ⟨k + 1, m + 1, _, cap, fp', Nat.le_refl _, by omega, rfl, by go_num, by show _ = _; rw [HNY.out, List.length_append, HM.out]; rfl, by rw [HNY.out]; exact HS4.out.sel [1, 2] (by decide) rfl⟩
        | false =>
          have HNY : Hid (Pl.toldS (l.take (k + 1)) = Pl.toldS (l.take k)) := Lib.hid (by rw [HNX.out]; exact if_neg (by unfold Pl.tells; rw [hso]; simp))
          rw [hso] at CI
          clear hk1 hso
          go_wp2_with (go_at_call 30; (with_reducible refine CI.mono ?_); clear CI; rintro e w2 ⟨rfl, hb2⟩; (have HS2 := Lib.hid (HS1.out.step hb2)); clear hb2)
          go_roundg (n - (k + 1))
          case measure => omega
          case rel => exact ⟨k + 1, m, A', c', fq, Nat.le_refl _, by omega, rfl, by go_num, by show _ = _; rw [HNY.out]; exact HM.out, by rw [HNY.out]; exact HS2.out.sel [1, 2] (by decide) rfl⟩
      · have g1 : (s.Kind == 1) = false := by simp [hk1]
        have HNY : Hid (Pl.toldS (l.take (k + 1)) = Pl.toldS (l.take k)) := Lib.hid (by rw [HNX.out]; exact if_neg (by unfold Pl.tells; rw [decide_eq_false hk1]; simp))
        clear hk1
        go_wp2
        go_roundg (n - (k + 1))
        case measure => omega
        case rel => exact ⟨k + 1, m, A', c', fq, Nat.le_refl _, by omega, rfl, by go_num, by show _ = _; rw [HNY.out]; exact HM.out, by rw [HNY.out]; exact HS1.out.sel [1, 2] (by decide) rfl⟩
    · obtain rfl : k = n := by omega
      have HE : Hid (l.take k = l) := Lib.hid (List.take_of_length_le (by have := HLN.out; omega))
      rw [HE.out] at HS HM
      have fc : ¬ ((k : Nat) : Int) < (k : Nat) := by omega
      have hsz := HS.out.bel0.size
      have CF := l17Fold_c (Pl.toldS l) A' m c' W W.heap.size ((HS.out.sl 0 rfl).weak (HS.out.sl 0 rfl).olt) (Nat.le_refl _) (by omega)
      unfold FoldR at CF
      obtain ⟨fh, hfh⟩ : ∃ fh, Pl.foldS ⟨[], 0⟩ (Pl.toldS l) = fh := ⟨_, rfl⟩
      have HFH := Lib.hid hfh
      have HFW : Hid (Pl.HW fh) := Lib.hid (by rw [← hfh]; exact Pl.HW.zero.fold _)
      have HIO : Hid (Mm.I64 fh.Offset) := Lib.hid (by rw [← hfh, Pl.foldS_off, HM.out]; unfold Mm.I64; simp; omega)
      rw [hfh] at CF ⊢
      have CO := fun (A2 : Option Addr) (n2 c2 : Nat) (V : World) (h : Mm.SlAt rRow V V.heap.size fh.Rows A2 n2 c2) => l13Own_c fh [.slice A2 n2 c2, .int .i64 fh.Offset] V V.heap.size (rHead_at_mk h HIO.out) (Nat.le_refl _) HFW.out
      obtain ⟨of, hof⟩ : ∃ of, fh.Offset = of := ⟨_, rfl⟩
      rw [hof] at CF CO
      have HOF := Lib.hid hof
      clear hof hfh
      have hgrl := HS.out.at_ 1 rfl
      go_wp2_with first
        | (go_at_call 32; (with_reducible refine CF.mono ?_); clear CF; rintro e w2 ⟨A2, n2, c2, fp, rfl, hS⟩; (have HS2 := Lib.hid (HS.out.add hS.bel0 (t := Mm.tsl rRow 83 fh.Rows (.slice A2 n2 c2) fp) (hS.at_ 0 rfl) (hS.ndat (i := 0) rfl) (fun b hb => (hS.new b (Mm.SepF.mem (i := 0) rfl hb)).resolve_left (fun h => by cases h)))); clear hS)
        | (go_at_call 31; (with_reducible refine (CO A2 n2 c2 w2 ((HS2.out.sl 0 rfl).weak (HS2.out.sl 0 rfl).olt)).mono ?_); clear CO; rintro e w3 ⟨cs, f3, rfl, ho, hnd, hnew, hb3⟩; obtain ⟨A5, n5, c5, -, rfl, -⟩ := rHead_own ho; (have HS3 := Lib.hid (HS2.out.add hb3 (t := Mm.tow rHead fh _ f3) ho hnd hnew)); clear ho hnd hnew hb3; rw [HOF.out] at HS3 ⊢; (have b0 := HS3.out.cell (k := 0) 3 rfl rfl); (have b1 := HS3.out.cell (k := 1) 3 rfl rfl); (have z0 := HS3.out.frz (k := 0) 3 rfl); (have z1 := HS3.out.frz (k := 1) 3 rfl))
      have HSF := Lib.hid ((HS3.out.setBlk (k := 0) 3 rfl (.slice A5 n5 c5)).setBlk (k := 1) 3 rfl (.int .i64 of))
      have u0 := HSF.out.cell (k := 0) 3 rfl rfl
      have u1 := HSF.out.cell (k := 1) 3 rfl rfl
      exact bodyPost_ret (v := .tuple #[.agg #[.slice A5 n5 c5, .int .i64 of], .bool true]) (by simp [results, Try.results11, go_sem, u0, u1]) rfl ⟨_, f3, rfl, (by rw [HFH.out]; exact HSF.out.at_ 0 rfl), HSF.out.ndat (i := 0) rfl, (fun b hb => (HSF.out.new b (Mm.SepF.mem (i := 0) rfl hb)).resolve_left (fun h => by cases h)), HSF.out.bel0⟩
end Go.Proofs.Ytkodfflnpalbbaa

/-
  The laws' own comparisons answer true of two things that read alike. No conditions.
-/
namespace Go.Proofs.Ytkodfflnpalbbaa
open Go.RowKit
attribute [local go_sem] und_cell
set_option maxHeartbeats 1000000 in
theorem eqIntS_c (l : List Int) (A A' : Option Addr) (n n' c c' : Nat) (w : World) (B : Nat) (hl : Mm.SlAt Mm.int w B l A n c) (hl' : Mm.SlAt Mm.int w B l A' n' c') (hB : B ≤ w.heap.size) :
    Calls Try.prog 71 #[.slice A n c, .slice A' n' c'] w fun e w' => e = .returned (.bool true) ∧ Below w.heap.size w w' := by
  obtain rfl : n = n' := hl.1.symm.trans hl'.1
  have hn : n ≤ 9223372036854775807 := by have := hl.2.1; have := hl.2.2.1; unfold maxLen at this; omega
  have HL : Hid (Mm.SlAt Mm.int w B l A n c ∧ Mm.SlAt Mm.int w B l A' n c') := ⟨hl, hl'⟩
  clear hl hl'
  go_enter Try.func71, Try.ntmps71
  go_wp2
  go_loopw [5] (fun i wr => ∃ k : Nat, k ≤ n ∧ i = .int .i64 k ∧ Below w.heap.size w wr) (fun i _ => n - (intOf i).toNat)
  case atStart => exact ⟨0, Nat.zero_le _, rfl, Below.refl _ _⟩
  case round =>
    obtain ⟨k, hk, rfl, hbel⟩ := hrel
    rename_i wr _
    by_cases hlt : k < n
    · obtain ⟨x, b, off, hx, rfl, hb, uf0, uc0⟩ := int_get (HL.out.1.keep (w' := wr) (fun b hb => hbel.block b (by omega))) hlt
      obtain ⟨y, b', off', hy, rfl, hb', vf0, vc0⟩ := int_get (HL.out.2.keep (w' := wr) (fun b hb => hbel.block b (by omega))) hlt
      obtain rfl : x = y := by rw [hx] at hy; injection hy
      have hBw : B ≤ wr.heap.size := Nat.le_trans hB hbel.size
      clear hx hy uf0 vf0
      go_wp2
      refine wp_region_und (by kernel_rfl) (by kernel_rfl) ?_
      repeat (go_big_quiet_step ((first | fail)))
      refine wpQuiet_nil ?_
      intro X hX
      go_wp2
      go_roundw
      case rel => exact ⟨k + 1, by omega, by go_num, below_step hbel hX⟩
      case measure => simp [intOf]; omega
    · go_wp2
      go_ret
      exact ⟨rfl, hbel⟩
set_option maxHeartbeats 1000000 in
theorem eqSample_c (x : Sample)  (w : World) :
    Calls Try.prog 70 #[.agg #[.int .i64 x.At, .int .i64 x.Value], .agg #[.int .i64 x.At, .int .i64 x.Value]] w fun e w' => e = .returned (.bool true) ∧ Below w.heap.size w w' := by
  go_enter Try.func70, Try.ntmps70
  go_wp2
  go_ret
  exact ⟨rfl, below_new (below_new (Below.refl _ _) _) _⟩
set_option maxHeartbeats 1000000 in
theorem eqSampleS_c (l : List Sample) (A A' : Option Addr) (n n' c c' : Nat) (w : World) (B : Nat) (hl : Mm.SlAt smp w B l A n c) (hl' : Mm.SlAt smp w B l A' n' c') (hB : B ≤ w.heap.size) :
    Calls Try.prog 63 #[.slice A n c, .slice A' n' c'] w fun e w' => e = .returned (.bool true) ∧ Below w.heap.size w w' := by
  obtain rfl : n = n' := hl.1.symm.trans hl'.1
  have hn : n ≤ 9223372036854775807 := by have := hl.2.1; have := hl.2.2.1; unfold maxLen at this; omega
  have HL : Hid (Mm.SlAt smp w B l A n c ∧ Mm.SlAt smp w B l A' n c') := ⟨hl, hl'⟩
  clear hl hl'
  go_enter Try.func63, Try.ntmps63
  go_wp2
  go_loopw [5] (fun i wr => ∃ k : Nat, k ≤ n ∧ i = .int .i64 k ∧ Below w.heap.size w wr) (fun i _ => n - (intOf i).toNat)
  case atStart => exact ⟨0, Nat.zero_le _, rfl, Below.refl _ _⟩
  case round =>
    obtain ⟨k, hk, rfl, hbel⟩ := hrel
    rename_i wr _
    by_cases hlt : k < n
    · obtain ⟨x, b, off, hx, rfl, hb, uf0, uf1, uc0, uc1⟩ := smp_get (HL.out.1.keep (w' := wr) (fun b hb => hbel.block b (by omega))) hlt
      obtain ⟨y, b', off', hy, rfl, hb', vf0, vf1, vc0, vc1⟩ := smp_get (HL.out.2.keep (w' := wr) (fun b hb => hbel.block b (by omega))) hlt
      obtain rfl : x = y := by rw [hx] at hy; injection hy
      have hBw : B ≤ wr.heap.size := Nat.le_trans hB hbel.size
      clear hx hy uf0 uf1 vf0 vf1
      go_wp2
      refine wp_region_und (by kernel_rfl) (by kernel_rfl) ?_
      repeat (go_big_quiet_step ((first | (go_at_call 70; exact und_call _ (eqSample_c x _)))))
      refine wpQuiet_nil ?_
      intro X hX
      go_wp2
      go_roundw
      case rel => exact ⟨k + 1, by omega, by go_num, below_step hbel hX⟩
      case measure => simp [intOf]; omega
    · go_wp2
      go_ret
      exact ⟨rfl, hbel⟩
set_option maxHeartbeats 1000000 in
theorem eqSay_c (x : Say)  (w : World) :
    Calls Try.prog 54 #[.agg #[.string x.Name, .int .i64 x.At, .int .i64 x.Value], .agg #[.string x.Name, .int .i64 x.At, .int .i64 x.Value]] w fun e w' => e = .returned (.bool true) ∧ Below w.heap.size w w' := by
  go_enter Try.func54, Try.ntmps54
  go_wp2
  go_ret
  exact ⟨rfl, below_new (below_new (Below.refl _ _) _) _⟩
set_option maxHeartbeats 1000000 in
theorem eqHouseStep_c (x : HouseStep)  (w : World) :
    Calls Try.prog 37 #[.agg #[.int .i64 x.Kind, .int .i64 x.Part, .string x.What.Name, .int .i64 x.What.At, .int .i64 x.What.Value], .agg #[.int .i64 x.Kind, .int .i64 x.Part, .string x.What.Name, .int .i64 x.What.At, .int .i64 x.What.Value]] w fun e w' => e = .returned (.bool true) ∧ Below w.heap.size w w' := by
  have HK1 := Lib.hid ((Mm.Blk.new w 63 [.int .i64 x.Kind, .int .i64 x.Part, .string x.What.Name, .int .i64 x.What.At, .int .i64 x.What.Value]).alloc (.cells #[.int .i64 x.Kind, .int .i64 x.Part, .string x.What.Name, .int .i64 x.What.At, .int .i64 x.What.Value] 63))
  have HK2 := Lib.hid (Mm.Blk.new' (w.alloc (.cells #[.int .i64 x.Kind, .int .i64 x.Part, .string x.What.Name, .int .i64 x.What.At, .int .i64 x.What.Value] 63)) 63 [.int .i64 x.Kind, .int .i64 x.Part, .string x.What.Name, .int .i64 x.What.At, .int .i64 x.What.Value] (Mm.sz1 _ _))
  have hb0 : Below w.heap.size w ((w.alloc (.cells #[.int .i64 x.Kind, .int .i64 x.Part, .string x.What.Name, .int .i64 x.What.At, .int .i64 x.What.Value] 63)).alloc (.cells #[.int .i64 x.Kind, .int .i64 x.Part, .string x.What.Name, .int .i64 x.What.At, .int .i64 x.What.Value] 63)) := below_new (below_new (Below.refl _ _) _) _
  have HB0 := Lib.hid hb0
  clear hb0
  go_enter Try.func37, Try.ntmps37
  go_wp2_with fail
  refine (eqSay_c x.What _).mono ?_
  rintro e w1 ⟨rfl, hb1⟩
  have HB1 := Lib.hid (below_step HB0.out hb1)
  have HK1 := Lib.hid (HK1.out.bel hb1)
  have HK2 := Lib.hid (HK2.out.bel hb1)
  clear hb1
  go_wp2
  go_ret
  exact ⟨rfl, HB1.out⟩
set_option maxHeartbeats 1000000 in
theorem eqHouseStepS_c (l : List HouseStep) (A A' : Option Addr) (n n' c c' : Nat) (w : World) (B : Nat) (hl : Mm.SlAt rHouseStep w B l A n c) (hl' : Mm.SlAt rHouseStep w B l A' n' c') (hB : B ≤ w.heap.size) :
    Calls Try.prog 15 #[.slice A n c, .slice A' n' c'] w fun e w' => e = .returned (.bool true) ∧ Below w.heap.size w w' := by
  obtain rfl : n = n' := hl.1.symm.trans hl'.1
  have hn : n ≤ 9223372036854775807 := by have := hl.2.1; have := hl.2.2.1; unfold maxLen at this; omega
  have HL : Hid (Mm.SlAt rHouseStep w B l A n c ∧ Mm.SlAt rHouseStep w B l A' n c') := ⟨hl, hl'⟩
  clear hl hl'
  go_enter Try.func15, Try.ntmps15
  go_wp2
  go_loopw [5] (fun i wr => ∃ k : Nat, k ≤ n ∧ i = .int .i64 k ∧ Below w.heap.size w wr) (fun i _ => n - (intOf i).toNat)
  case atStart => exact ⟨0, Nat.zero_le _, rfl, Below.refl _ _⟩
  case round =>
    obtain ⟨k, hk, rfl, hbel⟩ := hrel
    rename_i wr _
    by_cases hlt : k < n
    · obtain ⟨x, b, off, hx, rfl, hb, uf0, uf1, uf2, uf3, uf4, uc0, uc1, uc2, uc3, uc4⟩ := rHouseStep_get (HL.out.1.keep (w' := wr) (fun b hb => hbel.block b (by omega))) hlt
      obtain ⟨y, b', off', hy, rfl, hb', vf0, vf1, vf2, vf3, vf4, vc0, vc1, vc2, vc3, vc4⟩ := rHouseStep_get (HL.out.2.keep (w' := wr) (fun b hb => hbel.block b (by omega))) hlt
      obtain rfl : x = y := by rw [hx] at hy; injection hy
      have hBw : B ≤ wr.heap.size := Nat.le_trans hB hbel.size
      clear hx hy uf0 uf1 uf2 uf3 uf4 vf0 vf1 vf2 vf3 vf4
      go_wp2
      refine wp_region_und (by kernel_rfl) (by kernel_rfl) ?_
      repeat (go_big_quiet_step ((first | (go_at_call 37; exact und_call _ (eqHouseStep_c x _)))))
      refine wpQuiet_nil ?_
      intro X hX
      go_wp2
      go_roundw
      case rel => exact ⟨k + 1, by omega, by go_num, below_step hbel hX⟩
      case measure => simp [intOf]; omega
    · go_wp2
      go_ret
      exact ⟨rfl, hbel⟩
set_option maxHeartbeats 1000000 in
theorem eqRow_c (x : Row) (A : Option Addr) (n c : Nat) (A' : Option Addr) (n' c' : Nat) (w : World) (B : Nat) (g0 : Mm.SlAt smp w B x.Samples A n c) (g0' : Mm.SlAt smp w B x.Samples A' n' c') (hB : B ≤ w.heap.size) :
    Calls Try.prog 53 #[.agg #[.string x.Name, .slice A n c], .agg #[.string x.Name, .slice A' n' c']] w fun e w' => e = .returned (.bool true) ∧ Below w.heap.size w w' := by
  have HK1 := Lib.hid ((Mm.Blk.new w 83 [.string x.Name, .slice A n c]).alloc (.cells #[.string x.Name, .slice A' n' c'] 83))
  have HK2 := Lib.hid (Mm.Blk.new' (w.alloc (.cells #[.string x.Name, .slice A n c] 83)) 83 [.string x.Name, .slice A' n' c'] (Mm.sz1 _ _))
  have hb0 : Below w.heap.size w ((w.alloc (.cells #[.string x.Name, .slice A n c] 83)).alloc (.cells #[.string x.Name, .slice A' n' c'] 83)) := below_new (below_new (Below.refl _ _) _) _
  have HB0 := Lib.hid hb0
  have HG := Lib.hid (And.intro hB (And.intro g0 g0'))
  clear hB g0 g0'
  clear hb0
  go_enter Try.func53, Try.ntmps53
  go_wp2_with fail
  refine (eqSampleS_c x.Samples _ _ _ _ _ _ _ B (HG.out.2.1.keep fun b hb => HB0.out.block b (Nat.lt_of_lt_of_le hb HG.out.1)) (HG.out.2.2.keep fun b hb => HB0.out.block b (Nat.lt_of_lt_of_le hb HG.out.1)) (Nat.le_trans HG.out.1 HB0.out.size)).mono ?_
  rintro e w1 ⟨rfl, hb1⟩
  have HB1 := Lib.hid (below_step HB0.out hb1)
  have HK1 := Lib.hid (HK1.out.bel hb1)
  have HK2 := Lib.hid (HK2.out.bel hb1)
  clear hb1
  go_wp2
  go_ret
  exact ⟨rfl, HB1.out⟩
theorem eqRow_at (x : Row) (cs cs' : List Value) (w : World) (B : Nat) (h : rRow.at_ w B x cs) (h' : rRow.at_ w B x cs') (hB : B ≤ w.heap.size) :
    Calls Try.prog 53 #[.agg cs.toArray, .agg cs'.toArray] w fun e w' => e = .returned (.bool true) ∧ Below w.heap.size w w' := by
  obtain ⟨A, n, c, rfl, g0, g1⟩ := rRow_at h
  obtain ⟨A', n', c', rfl, k0, k1⟩ := rRow_at h'
  exact eqRow_c x _ _ _ _ _ _ _ B g1 k1 hB
set_option maxHeartbeats 1000000 in
theorem eqRowS_c (l : List Row) (A A' : Option Addr) (n n' c c' : Nat) (w : World) (B : Nat) (hl : Mm.SlAt rRow w B l A n c) (hl' : Mm.SlAt rRow w B l A' n' c') (hB : B ≤ w.heap.size) :
    Calls Try.prog 36 #[.slice A n c, .slice A' n' c'] w fun e w' => e = .returned (.bool true) ∧ Below w.heap.size w w' := by
  obtain rfl : n = n' := hl.1.symm.trans hl'.1
  have hn : n ≤ 9223372036854775807 := by have := hl.2.1; have := hl.2.2.1; unfold maxLen at this; omega
  have HL : Hid (Mm.SlAt rRow w B l A n c ∧ Mm.SlAt rRow w B l A' n c') := ⟨hl, hl'⟩
  clear hl hl'
  go_enter Try.func36, Try.ntmps36
  go_wp2
  go_loopw [5] (fun i wr => ∃ k : Nat, k ≤ n ∧ i = .int .i64 k ∧ Below w.heap.size w wr) (fun i _ => n - (intOf i).toNat)
  case atStart => exact ⟨0, Nat.zero_le _, rfl, Below.refl _ _⟩
  case round =>
    obtain ⟨k, hk, rfl, hbel⟩ := hrel
    rename_i wr _
    by_cases hlt : k < n
    · obtain ⟨x, b, off, A1, n1, c1, hx, rfl, hb, uf0, uf1, uc0, uc1⟩ := rRow_get (HL.out.1.keep (w' := wr) (fun b hb => hbel.block b (by omega))) hlt
      obtain ⟨y, b', off', A2, n2, c2, hy, rfl, hb', vf0, vf1, vc0, vc1⟩ := rRow_get (HL.out.2.keep (w' := wr) (fun b hb => hbel.block b (by omega))) hlt
      obtain rfl : x = y := by rw [hx] at hy; injection hy
      have hBw : B ≤ wr.heap.size := Nat.le_trans hB hbel.size
      have HF := Lib.hid (And.intro uf1 vf1)
      clear hx hy uf0 uf1 vf0 vf1
      go_wp2
      refine wp_region_und (by kernel_rfl) (by kernel_rfl) ?_
      repeat (go_big_quiet_step ((first | (go_at_call 53; exact und_call _ (eqRow_c x _ _ _ _ _ _ _ B (HF.out.1.und hBw _) (HF.out.2.und hBw _) (Nat.le_trans hBw (und_size _)))))))
      refine wpQuiet_nil ?_
      intro X hX
      go_wp2
      go_roundw
      case rel => exact ⟨k + 1, by omega, by go_num, below_step hbel hX⟩
      case measure => simp [intOf]; omega
    · go_wp2
      go_ret
      exact ⟨rfl, hbel⟩
set_option maxHeartbeats 1000000 in
theorem eqHead_c (x : Head) (A : Option Addr) (n c : Nat) (A' : Option Addr) (n' c' : Nat) (w : World) (B : Nat) (g0 : Mm.SlAt rRow w B x.Rows A n c) (g0' : Mm.SlAt rRow w B x.Rows A' n' c') (hB : B ≤ w.heap.size) :
    Calls Try.prog 14 #[.agg #[.slice A n c, .int .i64 x.Offset], .agg #[.slice A' n' c', .int .i64 x.Offset]] w fun e w' => e = .returned (.bool true) ∧ Below w.heap.size w w' := by
  have HK1 := Lib.hid ((Mm.Blk.new w 35 [.slice A n c, .int .i64 x.Offset]).alloc (.cells #[.slice A' n' c', .int .i64 x.Offset] 35))
  have HK2 := Lib.hid (Mm.Blk.new' (w.alloc (.cells #[.slice A n c, .int .i64 x.Offset] 35)) 35 [.slice A' n' c', .int .i64 x.Offset] (Mm.sz1 _ _))
  have hb0 : Below w.heap.size w ((w.alloc (.cells #[.slice A n c, .int .i64 x.Offset] 35)).alloc (.cells #[.slice A' n' c', .int .i64 x.Offset] 35)) := below_new (below_new (Below.refl _ _) _) _
  have HB0 := Lib.hid hb0
  have HG := Lib.hid (And.intro hB (And.intro g0 g0'))
  clear hB g0 g0'
  clear hb0
  go_enter Try.func14, Try.ntmps14
  go_wp2_with fail
  refine (eqRowS_c x.Rows _ _ _ _ _ _ _ B (HG.out.2.1.keep fun b hb => HB0.out.block b (Nat.lt_of_lt_of_le hb HG.out.1)) (HG.out.2.2.keep fun b hb => HB0.out.block b (Nat.lt_of_lt_of_le hb HG.out.1)) (Nat.le_trans HG.out.1 HB0.out.size)).mono ?_
  rintro e w1 ⟨rfl, hb1⟩
  have HB1 := Lib.hid (below_step HB0.out hb1)
  have HK1 := Lib.hid (HK1.out.bel hb1)
  have HK2 := Lib.hid (HK2.out.bel hb1)
  have p1_1 := HK1.out.cell (i := 1) rfl
  have q1_1 := HK2.out.cell (i := 1) rfl
  clear hb1
  go_wp2
  go_ret
  exact ⟨rfl, HB1.out⟩
theorem eqHead_at (x : Head) (cs cs' : List Value) (w : World) (B : Nat) (h : rHead.at_ w B x cs) (h' : rHead.at_ w B x cs') (hB : B ≤ w.heap.size) :
    Calls Try.prog 14 #[.agg cs.toArray, .agg cs'.toArray] w fun e w' => e = .returned (.bool true) ∧ Below w.heap.size w w' := by
  obtain ⟨A, n, c, rfl, g0, g1⟩ := rHead_at h
  obtain ⟨A', n', c', rfl, k0, k1⟩ := rHead_at h'
  exact eqHead_c x _ _ _ _ _ _ _ B g0 k0 hB
set_option maxHeartbeats 1000000 in
theorem eqHeadS_c (l : List Head) (A A' : Option Addr) (n n' c c' : Nat) (w : World) (B : Nat) (hl : Mm.SlAt rHead w B l A n c) (hl' : Mm.SlAt rHead w B l A' n' c') (hB : B ≤ w.heap.size) :
    Calls Try.prog 24 #[.slice A n c, .slice A' n' c'] w fun e w' => e = .returned (.bool true) ∧ Below w.heap.size w w' := by
  obtain rfl : n = n' := hl.1.symm.trans hl'.1
  have hn : n ≤ 9223372036854775807 := by have := hl.2.1; have := hl.2.2.1; unfold maxLen at this; omega
  have HL : Hid (Mm.SlAt rHead w B l A n c ∧ Mm.SlAt rHead w B l A' n c') := ⟨hl, hl'⟩
  clear hl hl'
  go_enter Try.func24, Try.ntmps24
  go_wp2
  go_loopw [5] (fun i wr => ∃ k : Nat, k ≤ n ∧ i = .int .i64 k ∧ Below w.heap.size w wr) (fun i _ => n - (intOf i).toNat)
  case atStart => exact ⟨0, Nat.zero_le _, rfl, Below.refl _ _⟩
  case round =>
    obtain ⟨k, hk, rfl, hbel⟩ := hrel
    rename_i wr _
    by_cases hlt : k < n
    · obtain ⟨x, b, off, A1, n1, c1, hx, rfl, hb, uf0, uf1, uc0, uc1⟩ := rHead_get (HL.out.1.keep (w' := wr) (fun b hb => hbel.block b (by omega))) hlt
      obtain ⟨y, b', off', A2, n2, c2, hy, rfl, hb', vf0, vf1, vc0, vc1⟩ := rHead_get (HL.out.2.keep (w' := wr) (fun b hb => hbel.block b (by omega))) hlt
      obtain rfl : x = y := by rw [hx] at hy; injection hy
      have hBw : B ≤ wr.heap.size := Nat.le_trans hB hbel.size
      have HF := Lib.hid (And.intro uf0 vf0)
      clear hx hy uf0 uf1 vf0 vf1
      go_wp2
      refine wp_region_und (by kernel_rfl) (by kernel_rfl) ?_
      repeat (go_big_quiet_step ((first | (go_at_call 14; exact und_call _ (eqHead_c x _ _ _ _ _ _ _ B (HF.out.1.und hBw _) (HF.out.2.und hBw _) (Nat.le_trans hBw (und_size _)))))))
      refine wpQuiet_nil ?_
      intro X hX
      go_wp2
      go_roundw
      case rel => exact ⟨k + 1, by omega, by go_num, below_step hbel hX⟩
      case measure => simp [intOf]; omega
    · go_wp2
      go_ret
      exact ⟨rfl, hbel⟩
set_option maxHeartbeats 1000000 in
theorem eqPiece_c (x : Piece) (A : Option Addr) (n c : Nat) (A' : Option Addr) (n' c' : Nat) (w : World) (B : Nat) (g0 : Mm.SlAt Mm.int w B x.Index A n c) (g0' : Mm.SlAt Mm.int w B x.Index A' n' c') (hB : B ≤ w.heap.size) :
    Calls Try.prog 64 #[.agg #[.int .i64 x.From, .string x.Bytes, .slice A n c], .agg #[.int .i64 x.From, .string x.Bytes, .slice A' n' c']] w fun e w' => e = .returned (.bool true) ∧ Below w.heap.size w w' := by
  have HK1 := Lib.hid ((Mm.Blk.new w 76 [.int .i64 x.From, .string x.Bytes, .slice A n c]).alloc (.cells #[.int .i64 x.From, .string x.Bytes, .slice A' n' c'] 76))
  have HK2 := Lib.hid (Mm.Blk.new' (w.alloc (.cells #[.int .i64 x.From, .string x.Bytes, .slice A n c] 76)) 76 [.int .i64 x.From, .string x.Bytes, .slice A' n' c'] (Mm.sz1 _ _))
  have hb0 : Below w.heap.size w ((w.alloc (.cells #[.int .i64 x.From, .string x.Bytes, .slice A n c] 76)).alloc (.cells #[.int .i64 x.From, .string x.Bytes, .slice A' n' c'] 76)) := below_new (below_new (Below.refl _ _) _) _
  have HB0 := Lib.hid hb0
  have HG := Lib.hid (And.intro hB (And.intro g0 g0'))
  clear hB g0 g0'
  clear hb0
  go_enter Try.func64, Try.ntmps64
  go_wp2_with fail
  refine (eqIntS_c x.Index _ _ _ _ _ _ _ B (HG.out.2.1.keep fun b hb => HB0.out.block b (Nat.lt_of_lt_of_le hb HG.out.1)) (HG.out.2.2.keep fun b hb => HB0.out.block b (Nat.lt_of_lt_of_le hb HG.out.1)) (Nat.le_trans HG.out.1 HB0.out.size)).mono ?_
  rintro e w1 ⟨rfl, hb1⟩
  have HB1 := Lib.hid (below_step HB0.out hb1)
  have HK1 := Lib.hid (HK1.out.bel hb1)
  have HK2 := Lib.hid (HK2.out.bel hb1)
  clear hb1
  go_wp2
  go_ret
  exact ⟨rfl, HB1.out⟩
theorem eqPiece_at (x : Piece) (cs cs' : List Value) (w : World) (B : Nat) (h : rPiece.at_ w B x cs) (h' : rPiece.at_ w B x cs') (hB : B ≤ w.heap.size) :
    Calls Try.prog 64 #[.agg cs.toArray, .agg cs'.toArray] w fun e w' => e = .returned (.bool true) ∧ Below w.heap.size w w' := by
  obtain ⟨A, n, c, rfl, g0, g1, g2⟩ := rPiece_at h
  obtain ⟨A', n', c', rfl, k0, k1, k2⟩ := rPiece_at h'
  exact eqPiece_c x _ _ _ _ _ _ _ B g2 k2 hB
set_option maxHeartbeats 1000000 in
theorem eqPieceS_c (l : List Piece) (A A' : Option Addr) (n n' c c' : Nat) (w : World) (B : Nat) (hl : Mm.SlAt rPiece w B l A n c) (hl' : Mm.SlAt rPiece w B l A' n' c') (hB : B ≤ w.heap.size) :
    Calls Try.prog 57 #[.slice A n c, .slice A' n' c'] w fun e w' => e = .returned (.bool true) ∧ Below w.heap.size w w' := by
  obtain rfl : n = n' := hl.1.symm.trans hl'.1
  have hn : n ≤ 9223372036854775807 := by have := hl.2.1; have := hl.2.2.1; unfold maxLen at this; omega
  have HL : Hid (Mm.SlAt rPiece w B l A n c ∧ Mm.SlAt rPiece w B l A' n c') := ⟨hl, hl'⟩
  clear hl hl'
  go_enter Try.func57, Try.ntmps57
  go_wp2
  go_loopw [5] (fun i wr => ∃ k : Nat, k ≤ n ∧ i = .int .i64 k ∧ Below w.heap.size w wr) (fun i _ => n - (intOf i).toNat)
  case atStart => exact ⟨0, Nat.zero_le _, rfl, Below.refl _ _⟩
  case round =>
    obtain ⟨k, hk, rfl, hbel⟩ := hrel
    rename_i wr _
    by_cases hlt : k < n
    · obtain ⟨x, b, off, A1, n1, c1, hx, rfl, hb, uf0, uf1, uf2, uc0, uc1, uc2⟩ := rPiece_get (HL.out.1.keep (w' := wr) (fun b hb => hbel.block b (by omega))) hlt
      obtain ⟨y, b', off', A2, n2, c2, hy, rfl, hb', vf0, vf1, vf2, vc0, vc1, vc2⟩ := rPiece_get (HL.out.2.keep (w' := wr) (fun b hb => hbel.block b (by omega))) hlt
      obtain rfl : x = y := by rw [hx] at hy; injection hy
      have hBw : B ≤ wr.heap.size := Nat.le_trans hB hbel.size
      have HF := Lib.hid (And.intro uf2 vf2)
      clear hx hy uf0 uf1 uf2 vf0 vf1 vf2
      go_wp2
      refine wp_region_und (by kernel_rfl) (by kernel_rfl) ?_
      repeat (go_big_quiet_step ((first | (go_at_call 64; exact und_call _ (eqPiece_c x _ _ _ _ _ _ _ B (HF.out.1.und hBw _) (HF.out.2.und hBw _) (Nat.le_trans hBw (und_size _)))))))
      refine wpQuiet_nil ?_
      intro X hX
      go_wp2
      go_roundw
      case rel => exact ⟨k + 1, by omega, by go_num, below_step hbel hX⟩
      case measure => simp [intOf]; omega
    · go_wp2
      go_ret
      exact ⟨rfl, hbel⟩
set_option maxHeartbeats 1000000 in
theorem eqLog_c (x : Log) (A : Option Addr) (n c : Nat) (A' : Option Addr) (n' c' : Nat) (w : World) (B : Nat) (g0 : Mm.SlAt rPiece w B x.Pieces A n c) (g0' : Mm.SlAt rPiece w B x.Pieces A' n' c') (hB : B ≤ w.heap.size) :
    Calls Try.prog 42 #[.agg #[.slice A n c, .int .i64 x.Begin], .agg #[.slice A' n' c', .int .i64 x.Begin]] w fun e w' => e = .returned (.bool true) ∧ Below w.heap.size w w' := by
  have HK1 := Lib.hid ((Mm.Blk.new w 48 [.slice A n c, .int .i64 x.Begin]).alloc (.cells #[.slice A' n' c', .int .i64 x.Begin] 48))
  have HK2 := Lib.hid (Mm.Blk.new' (w.alloc (.cells #[.slice A n c, .int .i64 x.Begin] 48)) 48 [.slice A' n' c', .int .i64 x.Begin] (Mm.sz1 _ _))
  have hb0 : Below w.heap.size w ((w.alloc (.cells #[.slice A n c, .int .i64 x.Begin] 48)).alloc (.cells #[.slice A' n' c', .int .i64 x.Begin] 48)) := below_new (below_new (Below.refl _ _) _) _
  have HB0 := Lib.hid hb0
  have HG := Lib.hid (And.intro hB (And.intro g0 g0'))
  clear hB g0 g0'
  clear hb0
  go_enter Try.func42, Try.ntmps42
  go_wp2_with fail
  refine (eqPieceS_c x.Pieces _ _ _ _ _ _ _ B (HG.out.2.1.keep fun b hb => HB0.out.block b (Nat.lt_of_lt_of_le hb HG.out.1)) (HG.out.2.2.keep fun b hb => HB0.out.block b (Nat.lt_of_lt_of_le hb HG.out.1)) (Nat.le_trans HG.out.1 HB0.out.size)).mono ?_
  rintro e w1 ⟨rfl, hb1⟩
  have HB1 := Lib.hid (below_step HB0.out hb1)
  have HK1 := Lib.hid (HK1.out.bel hb1)
  have HK2 := Lib.hid (HK2.out.bel hb1)
  have p1_1 := HK1.out.cell (i := 1) rfl
  have q1_1 := HK2.out.cell (i := 1) rfl
  clear hb1
  go_wp2
  go_ret
  exact ⟨rfl, HB1.out⟩
theorem eqLog_at (x : Log) (cs cs' : List Value) (w : World) (B : Nat) (h : rLog.at_ w B x cs) (h' : rLog.at_ w B x cs') (hB : B ≤ w.heap.size) :
    Calls Try.prog 42 #[.agg cs.toArray, .agg cs'.toArray] w fun e w' => e = .returned (.bool true) ∧ Below w.heap.size w w' := by
  obtain ⟨A, n, c, rfl, g0, g1⟩ := rLog_at h
  obtain ⟨A', n', c', rfl, k0, k1⟩ := rLog_at h'
  exact eqLog_c x _ _ _ _ _ _ _ B g0 k0 hB
set_option maxHeartbeats 1000000 in
theorem eqLogS_c (l : List Log) (A A' : Option Addr) (n n' c c' : Nat) (w : World) (B : Nat) (hl : Mm.SlAt rLog w B l A n c) (hl' : Mm.SlAt rLog w B l A' n' c') (hB : B ≤ w.heap.size) :
    Calls Try.prog 23 #[.slice A n c, .slice A' n' c'] w fun e w' => e = .returned (.bool true) ∧ Below w.heap.size w w' := by
  obtain rfl : n = n' := hl.1.symm.trans hl'.1
  have hn : n ≤ 9223372036854775807 := by have := hl.2.1; have := hl.2.2.1; unfold maxLen at this; omega
  have HL : Hid (Mm.SlAt rLog w B l A n c ∧ Mm.SlAt rLog w B l A' n c') := ⟨hl, hl'⟩
  clear hl hl'
  go_enter Try.func23, Try.ntmps23
  go_wp2
  go_loopw [5] (fun i wr => ∃ k : Nat, k ≤ n ∧ i = .int .i64 k ∧ Below w.heap.size w wr) (fun i _ => n - (intOf i).toNat)
  case atStart => exact ⟨0, Nat.zero_le _, rfl, Below.refl _ _⟩
  case round =>
    obtain ⟨k, hk, rfl, hbel⟩ := hrel
    rename_i wr _
    by_cases hlt : k < n
    · obtain ⟨x, b, off, A1, n1, c1, hx, rfl, hb, uf0, uf1, uc0, uc1⟩ := rLog_get (HL.out.1.keep (w' := wr) (fun b hb => hbel.block b (by omega))) hlt
      obtain ⟨y, b', off', A2, n2, c2, hy, rfl, hb', vf0, vf1, vc0, vc1⟩ := rLog_get (HL.out.2.keep (w' := wr) (fun b hb => hbel.block b (by omega))) hlt
      obtain rfl : x = y := by rw [hx] at hy; injection hy
      have hBw : B ≤ wr.heap.size := Nat.le_trans hB hbel.size
      have HF := Lib.hid (And.intro uf0 vf0)
      clear hx hy uf0 uf1 vf0 vf1
      go_wp2
      refine wp_region_und (by kernel_rfl) (by kernel_rfl) ?_
      repeat (go_big_quiet_step ((first | (go_at_call 42; exact und_call _ (eqLog_c x _ _ _ _ _ _ _ B (HF.out.1.und hBw _) (HF.out.2.und hBw _) (Nat.le_trans hBw (und_size _)))))))
      refine wpQuiet_nil ?_
      intro X hX
      go_wp2
      go_roundw
      case rel => exact ⟨k + 1, by omega, by go_num, below_step hbel hX⟩
      case measure => simp [intOf]; omega
    · go_wp2
      go_ret
      exact ⟨rfl, hbel⟩
set_option maxHeartbeats 1000000 in
theorem eqHouse_c (x : House) (A0 : Option Addr) (n0 c0 : Nat) (A1 : Option Addr) (n1 c1 : Nat) (A2 : Option Addr) (n2 c2 : Nat) (A0' : Option Addr) (n0' c0' : Nat) (A1' : Option Addr) (n1' c1' : Nat) (A2' : Option Addr) (n2' c2' : Nat) (w : World) (B : Nat) (g0 : Mm.SlAt rLog w B x.Logs A0 n0 c0) (g0' : Mm.SlAt rLog w B x.Logs A0' n0' c0') (g1 : Mm.SlAt rHead w B x.Heads A1 n1 c1) (g1' : Mm.SlAt rHead w B x.Heads A1' n1' c1') (g2 : Mm.SlAt rHead w B x.Kept A2 n2 c2) (g2' : Mm.SlAt rHead w B x.Kept A2' n2' c2') (hB : B ≤ w.heap.size) :
    Calls Try.prog 7 #[.agg #[.slice A0 n0 c0, .slice A1 n1 c1, .slice A2 n2 c2], .agg #[.slice A0' n0' c0', .slice A1' n1' c1', .slice A2' n2' c2']] w fun e w' => e = .returned (.bool true) ∧ Below w.heap.size w w' := by
  have HK1 := Lib.hid ((Mm.Blk.new w 25 [.slice A0 n0 c0, .slice A1 n1 c1, .slice A2 n2 c2]).alloc (.cells #[.slice A0' n0' c0', .slice A1' n1' c1', .slice A2' n2' c2'] 25))
  have HK2 := Lib.hid (Mm.Blk.new' (w.alloc (.cells #[.slice A0 n0 c0, .slice A1 n1 c1, .slice A2 n2 c2] 25)) 25 [.slice A0' n0' c0', .slice A1' n1' c1', .slice A2' n2' c2'] (Mm.sz1 _ _))
  have hb0 : Below w.heap.size w ((w.alloc (.cells #[.slice A0 n0 c0, .slice A1 n1 c1, .slice A2 n2 c2] 25)).alloc (.cells #[.slice A0' n0' c0', .slice A1' n1' c1', .slice A2' n2' c2'] 25)) := below_new (below_new (Below.refl _ _) _) _
  have HB0 := Lib.hid hb0
  have HG := Lib.hid (And.intro hB (And.intro (And.intro g0 g0') (And.intro (And.intro g1 g1') (And.intro g2 g2'))))
  clear hB g0 g0' g1 g1' g2 g2'
  clear hb0
  go_enter Try.func7, Try.ntmps7
  go_wp2_with fail
  refine (eqLogS_c x.Logs _ _ _ _ _ _ _ B (HG.out.2.1.1.keep fun b hb => HB0.out.block b (Nat.lt_of_lt_of_le hb HG.out.1)) (HG.out.2.1.2.keep fun b hb => HB0.out.block b (Nat.lt_of_lt_of_le hb HG.out.1)) (Nat.le_trans HG.out.1 HB0.out.size)).mono ?_
  rintro e w1 ⟨rfl, hb1⟩
  have HB1 := Lib.hid (below_step HB0.out hb1)
  have HK1 := Lib.hid (HK1.out.bel hb1)
  have HK2 := Lib.hid (HK2.out.bel hb1)
  have p1_1 := HK1.out.cell (i := 1) rfl
  have q1_1 := HK2.out.cell (i := 1) rfl
  have p1_2 := HK1.out.cell (i := 2) rfl
  have q1_2 := HK2.out.cell (i := 2) rfl
  clear hb1
  go_wp2_with fail
  refine (eqHeadS_c x.Heads _ _ _ _ _ _ _ B (HG.out.2.2.1.1.keep fun b hb => HB1.out.block b (Nat.lt_of_lt_of_le hb HG.out.1)) (HG.out.2.2.1.2.keep fun b hb => HB1.out.block b (Nat.lt_of_lt_of_le hb HG.out.1)) (Nat.le_trans HG.out.1 HB1.out.size)).mono ?_
  rintro e w2 ⟨rfl, hb2⟩
  have HB2 := Lib.hid (below_step HB1.out hb2)
  have HK1 := Lib.hid (HK1.out.bel hb2)
  have HK2 := Lib.hid (HK2.out.bel hb2)
  have p2_2 := HK1.out.cell (i := 2) rfl
  have q2_2 := HK2.out.cell (i := 2) rfl
  clear hb2
  go_wp2_with fail
  refine (eqHeadS_c x.Kept _ _ _ _ _ _ _ B (HG.out.2.2.2.1.keep fun b hb => HB2.out.block b (Nat.lt_of_lt_of_le hb HG.out.1)) (HG.out.2.2.2.2.keep fun b hb => HB2.out.block b (Nat.lt_of_lt_of_le hb HG.out.1)) (Nat.le_trans HG.out.1 HB2.out.size)).mono ?_
  rintro e w3 ⟨rfl, hb3⟩
  have HB3 := Lib.hid (below_step HB2.out hb3)
  have HK1 := Lib.hid (HK1.out.bel hb3)
  have HK2 := Lib.hid (HK2.out.bel hb3)
  clear hb3
  go_wp2
  go_ret
  exact ⟨rfl, HB3.out⟩
theorem eqHouse_at (x : House) (cs cs' : List Value) (w : World) (B : Nat) (h : rHouse.at_ w B x cs) (h' : rHouse.at_ w B x cs') (hB : B ≤ w.heap.size) :
    Calls Try.prog 7 #[.agg cs.toArray, .agg cs'.toArray] w fun e w' => e = .returned (.bool true) ∧ Below w.heap.size w w' := by
  obtain ⟨A0, n0, c0, A1, n1, c1, A2, n2, c2, rfl, g0, g1, g2⟩ := rHouse_at h
  obtain ⟨A0', n0', c0', A1', n1', c1', A2', n2', c2', rfl, k0, k1, k2⟩ := rHouse_at h'
  exact eqHouse_c x _ _ _ _ _ _ _ _ _ _ _ _ _ _ _ _ _ _ _ B g0 k0 g1 k1 g2 k2 hB
end Go.Proofs.Ytkodfflnpalbbaa

/-
  The laws' own sizes of arguments. No conditions.
-/
namespace Go.Proofs.Ytkodfflnpalbbaa
open Go.RowKit
attribute [local go_sem] und_cell
set_option maxHeartbeats 1000000 in
theorem szSay_c (x : Say)  (left : Int) (w : World) (B : Nat) (s0 : x.Name.size ≤ maxLen) (hB : B ≤ w.heap.size) (h0 : 0 ≤ left) (h1 : left ≤ 1048576) :
    Calls Try.prog 45 #[.agg #[.string x.Name, .int .i64 x.At, .int .i64 x.Value], .int .i64 left] w fun e w' => e = .returned (.int .i64 (Pl.szRet left (Pl.szSay x))) ∧ Below w.heap.size w w' := by
  unfold maxLen at s0
  have HK := Lib.hid (Mm.Blk.new w 57 [.string x.Name, .int .i64 x.At, .int .i64 x.Value])
  have hb0 : Below w.heap.size w (w.alloc (.cells #[.string x.Name, .int .i64 x.At, .int .i64 x.Value] 57)) := below_new (Below.refl _ _) _
  have HB0 := Lib.hid hb0
  clear hb0
  have zn0 := Pl.szStr_nn x.Name
  have e0 : Pl.szStr x.Name = (x.Name.size : Int) := rfl
  have hz : Pl.szSay x = Pl.szStr x.Name := rfl
  have HZ := Lib.hid hz
  clear hz
  have E0 := Lib.hid e0
  clear e0
  by_cases t0 : left - Pl.szStr x.Name < 0
  · have t0' := t0
    rw [E0.out] at t0'
    go_enter Try.func45, Try.ntmps45
    go_wp2
    go_ret
    exact ⟨ret_int (by rw [HZ.out, Pl.szRet_lt (by omega)]), HB0.out⟩
  · have t0' := t0
    rw [E0.out] at t0'
    go_enter Try.func45, Try.ntmps45
    go_wp2
    go_ret
    exact ⟨ret_int (by have hh : Pl.szRet left (Pl.szSay x) = left - Pl.szSay x := Pl.szRet_ge (by rw [HZ.out]; omega); have h2 := HZ.out; have := E0.out; omega), HB0.out⟩
set_option maxHeartbeats 1000000 in
theorem szHouseStep_c (x : HouseStep)  (left : Int) (w : World) (B : Nat) (s0 : x.What.Name.size ≤ maxLen) (hB : B ≤ w.heap.size) (h0 : 0 ≤ left) (h1 : left ≤ 1048576) :
    Calls Try.prog 29 #[.agg #[.int .i64 x.Kind, .int .i64 x.Part, .string x.What.Name, .int .i64 x.What.At, .int .i64 x.What.Value], .int .i64 left] w fun e w' => e = .returned (.int .i64 (Pl.szRet left (Pl.szHouseStep x))) ∧ Below w.heap.size w w' := by
  unfold maxLen at s0
  have HK := Lib.hid (Mm.Blk.new w 59 [.int .i64 x.Kind, .int .i64 x.Part, .string x.What.Name, .int .i64 x.What.At, .int .i64 x.What.Value])
  have hb0 : Below w.heap.size w (w.alloc (.cells #[.int .i64 x.Kind, .int .i64 x.Part, .string x.What.Name, .int .i64 x.What.At, .int .i64 x.What.Value] 59)) := below_new (Below.refl _ _) _
  have HB0 := Lib.hid hb0
  clear hb0
  have zn0 := Pl.szSay_nn x.What
  have hz : Pl.szHouseStep x = Pl.szSay x.What := rfl
  have HZ := Lib.hid hz
  clear hz
  by_cases t0 : left - Pl.szSay x.What < 0
  · go_enter Try.func29, Try.ntmps29
    go_wp2_with fail
    refine (szSay_c x.What _ _ (_) (by unfold maxLen; omega) (Nat.le_refl _) (by omega) (by omega)).mono ?_
    rintro e w1 ⟨rfl, hb1⟩
    rw [Pl.szRet_lt (by omega)]
    have HB1 := Lib.hid (below_step HB0.out hb1)
    have HK := Lib.hid (HK.out.bel hb1)
    clear hb1
    go_wp2
    go_ret
    exact ⟨ret_int (by rw [HZ.out, Pl.szRet_lt (by omega)]), HB1.out⟩
  · go_enter Try.func29, Try.ntmps29
    go_wp2_with fail
    refine (szSay_c x.What _ _ (_) (by unfold maxLen; omega) (Nat.le_refl _) (by omega) (by omega)).mono ?_
    rintro e w1 ⟨rfl, hb1⟩
    rw [Pl.szRet_ge (by omega)]
    have HB1 := Lib.hid (below_step HB0.out hb1)
    have HK := Lib.hid (HK.out.bel hb1)
    clear hb1
    go_wp2
    go_ret
    exact ⟨ret_int (by have hh : Pl.szRet left (Pl.szHouseStep x) = left - Pl.szHouseStep x := Pl.szRet_ge (by rw [HZ.out]; omega); have h2 := HZ.out; omega), HB1.out⟩
set_option maxHeartbeats 1000000 in
theorem szHouseStepS_c (l : List HouseStep) (A : Option Addr) (n c : Nat) (left : Int) (w : World) (B : Nat) (hl : Mm.SlAt rHouseStep w B l A n c) (hB : B ≤ w.heap.size) (h0 : 0 ≤ left) (h1 : left ≤ 1048576) :
    Calls Try.prog 10 #[.slice A n c, .int .i64 left] w fun e w' => e = .returned (.int .i64 (Pl.szRet left (Pl.szl Pl.szHouseStep l))) ∧ Below w.heap.size w w' := by
  have hn : n ≤ 9223372036854775807 := by have := hl.2.1; have := hl.2.2.1; unfold maxLen at this; omega
  have hlen : Hid (l.length = n) := hl.1
  have HL := Lib.hid hl
  have HZ : Hid (Pl.szl Pl.szHouseStep l = (n : Int) + Pl.sumI Pl.szHouseStep l) := by show _ = _; unfold Pl.szl; rw [hlen.out]
  have HN : Hid (∀ x : HouseStep, 0 ≤ Pl.szHouseStep x) := Pl.szHouseStep_nn
  have hs0 := Pl.sumI_nn HN.out l
  clear hl
  by_cases h : left - (n : Int) < 0
  · go_enter Try.func10, Try.ntmps10
    go_wp2
    go_ret
    exact ⟨ret_int (by rw [HZ.out, Pl.szRet_lt (by omega)]), Below.refl _ _⟩
  · go_enter Try.func10, Try.ntmps10
    go_wp2
    go_loopw [1, 5] (fun lf i wr => ∃ k : Nat, k ≤ n ∧ i = .int .i64 k ∧ (∃ s : Int, 0 ≤ s ∧ s ≤ left ∧ s = left - n - Pl.sumI Pl.szHouseStep (l.take k) ∧ lf = .int .i64 s) ∧ Below w.heap.size w wr) (fun _ i _ => n - (intOf i).toNat)
    case atStart => exact ⟨0, Nat.zero_le _, rfl, ⟨_, by omega, by omega, by simp [Pl.sumI], rfl⟩, Below.refl _ _⟩
    case round =>
      obtain ⟨k, hk, rfl, ⟨s, hs1, hs2, hs3, rfl⟩, hbel⟩ := hrel
      rename_i wr _
      have HS := Lib.hid hs3
      clear hs3
      by_cases hlt : k < n
      · obtain ⟨x, b, off, hx, rfl, hb, f0, f1, f2, f3, f4, d0, d1, d2, d3, d4⟩ := rHouseStep_get (HL.out.keep (w' := wr) (fun b hb => hbel.block b (by omega))) hlt
        have hBw : B ≤ wr.heap.size := Nat.le_trans hB hbel.size
        have hx0 := HN.out x
        have hsn : Pl.sumI Pl.szHouseStep (l.take (k + 1)) = Pl.sumI Pl.szHouseStep (l.take k) + Pl.szHouseStep x := Pl.sumI_succ hx
        have hst := Pl.sumI_take HN.out l (k + 1)
        have HA := Lib.hid (And.intro hsn hst)
        clear hsn hst hx
        have HF := Lib.hid f2
        clear f0 f1 f2 f3 f4
        by_cases hneg : s - Pl.szHouseStep x < 0
        · go_wp2_with fail
          refine (szHouseStep_c x _ _ B HF.out hBw (by omega) (by omega)).mono ?_
          rintro e w1 ⟨rfl, hb1⟩
          rw [Pl.szRet_lt hneg]
          go_wp2
          go_ret
          exact ⟨ret_int (by rw [HZ.out, Pl.szRet_lt (by have := HA.out.1; have := HA.out.2; have := HS.out; omega)]), below_step hbel hb1⟩
        · go_wp2_with fail
          refine (szHouseStep_c x _ _ B HF.out hBw (by omega) (by omega)).mono ?_
          rintro e w1 ⟨rfl, hb1⟩
          rw [Pl.szRet_ge (by omega)]
          go_wp2
          go_roundw
          case rel => exact ⟨k + 1, by omega, by go_num, ⟨_, by omega, by omega, by have := HA.out.1; have := HS.out; omega, rfl⟩, below_step hbel hb1⟩
          case measure => simp [intOf]; omega
      · have HK : Hid (l.take k = l) := List.take_of_length_le (by have := hlen.out; omega)
        go_wp2
        go_ret
        exact ⟨ret_int (by have := HS.out; rw [HK.out] at this; rw [HZ.out, Pl.szRet_ge (by omega)]; omega), hbel⟩
end Go.Proofs.Ytkodfflnpalbbaa

/-
  The laws' own copies of arguments. No conditions.
-/
namespace Go.Proofs.Ytkodfflnpalbbaa
open Go.RowKit
attribute [local go_sem] und_cell
theorem toSay_c (x : Say) (w : World) :
    Calls Try.prog 48 #[.agg #[.string x.Name, .int .i64 x.At, .int .i64 x.Value]] w fun e w' => e = .returned (.agg #[.string x.Name, .int .i64 x.At, .int .i64 x.Value]) ∧ Below w.heap.size w w' := by
  go_enter Try.func48, Try.ntmps48
  go_wp2
  exact bodyPost_ret (v := .agg #[.string x.Name, .int .i64 x.At, .int .i64 x.Value]) (by simp [results, Try.results48, go_sem]) rfl ⟨rfl, below_new (below_new (below_new (Below.refl _ _) _) _) _⟩
theorem toHouseStep_c (x : HouseStep) (w : World) :
    Calls Try.prog 33 #[.agg #[.int .i64 x.Kind, .int .i64 x.Part, .string x.What.Name, .int .i64 x.What.At, .int .i64 x.What.Value]] w fun e w' => e = .returned (.agg #[.int .i64 x.Kind, .int .i64 x.Part, .string x.What.Name, .int .i64 x.What.At, .int .i64 x.What.Value]) ∧ Below w.heap.size w w' := by
  have KA := Lib.hid (((Mm.Blk.new w 59 [.int .i64 x.Kind, .int .i64 x.Part, .string x.What.Name, .int .i64 x.What.At, .int .i64 x.What.Value]).alloc (.cells #[.int .i64 0, .int .i64 0, .string ⟨#[]⟩, .int .i64 0, .int .i64 0] 63)).alloc (.cells #[.int .i64 x.Kind, .int .i64 x.Part, .string ⟨#[]⟩, .int .i64 0, .int .i64 0] 63))
  have KR := Lib.hid ((Mm.Blk.new' (w.alloc (.cells #[.int .i64 x.Kind, .int .i64 x.Part, .string x.What.Name, .int .i64 x.What.At, .int .i64 x.What.Value] 59)) 63 [.int .i64 0, .int .i64 0, .string ⟨#[]⟩, .int .i64 0, .int .i64 0] (Mm.sz1 _ _)).alloc (.cells #[.int .i64 x.Kind, .int .i64 x.Part, .string ⟨#[]⟩, .int .i64 0, .int .i64 0] 63))
  have KO := Lib.hid (Mm.Blk.new' ((w.alloc (.cells #[.int .i64 x.Kind, .int .i64 x.Part, .string x.What.Name, .int .i64 x.What.At, .int .i64 x.What.Value] 59)).alloc (.cells #[.int .i64 0, .int .i64 0, .string ⟨#[]⟩, .int .i64 0, .int .i64 0] 63)) 63 [.int .i64 x.Kind, .int .i64 x.Part, .string ⟨#[]⟩, .int .i64 0, .int .i64 0] (Mm.sz2 _ _ _))
  have hb0 : Below w.heap.size w (((w.alloc (.cells #[.int .i64 x.Kind, .int .i64 x.Part, .string x.What.Name, .int .i64 x.What.At, .int .i64 x.What.Value] 59)).alloc (.cells #[.int .i64 0, .int .i64 0, .string ⟨#[]⟩, .int .i64 0, .int .i64 0] 63)).alloc (.cells #[.int .i64 x.Kind, .int .i64 x.Part, .string ⟨#[]⟩, .int .i64 0, .int .i64 0] 63)) := below_new (below_new (below_new (Below.refl _ _) _) _) _
  have HB := Lib.hid hb0
  have hlt0 := KO.out.lt
  clear hb0
  go_enter Try.func33, Try.ntmps33
  go_wp2_with fail
  refine (toSay_c x.What _).mono ?_
  rintro e w1 ⟨rfl, hb1⟩
  have KA := Lib.hid (KA.out.bel hb1)
  have KR := Lib.hid (KR.out.bel hb1)
  have KO := Lib.hid (KO.out.bel hb1)
  have HB := Lib.hid (below_step HB.out hb1)
  have o1_0 := KO.out.cell (i := 0) rfl
  have r1_0 := KR.out.cell (i := 0) rfl
  have x1_0 := KO.out.frozen 0
  have y1_0 := KR.out.frozen 0
  have o1_1 := KO.out.cell (i := 1) rfl
  have r1_1 := KR.out.cell (i := 1) rfl
  have x1_1 := KO.out.frozen 1
  have y1_1 := KR.out.frozen 1
  have o1_2 := KO.out.cell (i := 2) rfl
  have r1_2 := KR.out.cell (i := 2) rfl
  have x1_2 := KO.out.frozen 2
  have y1_2 := KR.out.frozen 2
  have o1_3 := KO.out.cell (i := 3) rfl
  have r1_3 := KR.out.cell (i := 3) rfl
  have x1_3 := KO.out.frozen 3
  have y1_3 := KR.out.frozen 3
  have o1_4 := KO.out.cell (i := 4) rfl
  have r1_4 := KR.out.cell (i := 4) rfl
  have x1_4 := KO.out.frozen 4
  have y1_4 := KR.out.frozen 4
  clear hb1
  have KA := Lib.hid (KA.out.far (p := ⟨w.heap.size + 2, 2, none⟩) (by show w.heap.size ≠ w.heap.size + 2; omega) (.string x.What.Name))
  have KR := Lib.hid (KR.out.far (p := ⟨w.heap.size + 2, 2, none⟩) (by show w.heap.size + 1 ≠ w.heap.size + 2; omega) (.string x.What.Name))
  have KO := Lib.hid (KO.out.set_ 2 (.string x.What.Name))
  have HB := Lib.hid (HB.out.setCell (p := ⟨w.heap.size + 2, 2, none⟩) (by show w.heap.size ≤ w.heap.size + 2; omega) (.string x.What.Name))
  have KA := Lib.hid (KA.out.far (p := ⟨w.heap.size + 2, 3, none⟩) (by show w.heap.size ≠ w.heap.size + 2; omega) (.int .i64 x.What.At))
  have KR := Lib.hid (KR.out.far (p := ⟨w.heap.size + 2, 3, none⟩) (by show w.heap.size + 1 ≠ w.heap.size + 2; omega) (.int .i64 x.What.At))
  have KO := Lib.hid (KO.out.set_ 3 (.int .i64 x.What.At))
  have HB := Lib.hid (HB.out.setCell (p := ⟨w.heap.size + 2, 3, none⟩) (by show w.heap.size ≤ w.heap.size + 2; omega) (.int .i64 x.What.At))
  have KA := Lib.hid (KA.out.far (p := ⟨w.heap.size + 2, 4, none⟩) (by show w.heap.size ≠ w.heap.size + 2; omega) (.int .i64 x.What.Value))
  have KR := Lib.hid (KR.out.far (p := ⟨w.heap.size + 2, 4, none⟩) (by show w.heap.size + 1 ≠ w.heap.size + 2; omega) (.int .i64 x.What.Value))
  have KO := Lib.hid (KO.out.set_ 4 (.int .i64 x.What.Value))
  have HB := Lib.hid (HB.out.setCell (p := ⟨w.heap.size + 2, 4, none⟩) (by show w.heap.size ≤ w.heap.size + 2; omega) (.int .i64 x.What.Value))
  go_wp2
  have HB := Lib.hid (HB.out.setCell (p := ⟨w.heap.size + 1, 0, none⟩) (by show w.heap.size ≤ w.heap.size + 1; omega) (.int .i64 x.Kind))
  have HB := Lib.hid (HB.out.setCell (p := ⟨w.heap.size + 1, 1, none⟩) (by show w.heap.size ≤ w.heap.size + 1; omega) (.int .i64 x.Part))
  have HB := Lib.hid (HB.out.setCell (p := ⟨w.heap.size + 1, 2, none⟩) (by show w.heap.size ≤ w.heap.size + 1; omega) (.string x.What.Name))
  have HB := Lib.hid (HB.out.setCell (p := ⟨w.heap.size + 1, 3, none⟩) (by show w.heap.size ≤ w.heap.size + 1; omega) (.int .i64 x.What.At))
  have HB := Lib.hid (HB.out.setCell (p := ⟨w.heap.size + 1, 4, none⟩) (by show w.heap.size ≤ w.heap.size + 1; omega) (.int .i64 x.What.Value))
  exact bodyPost_ret (v := .agg #[.int .i64 x.Kind, .int .i64 x.Part, .string x.What.Name, .int .i64 x.What.At, .int .i64 x.What.Value]) (by simp [results, Try.results33, go_sem, r1_0, r1_1, r1_2, r1_3, r1_4]) rfl ⟨rfl, HB.out⟩
theorem Try.info_HouseStep : (Try.prog.info? 63).map (fun i => (i.zero, i.size, i.bytes)) = some (some (.agg #[.int .i64 0, .int .i64 0, .string ⟨#[]⟩, .int .i64 0, .int .i64 0]), 5, 48) := by kernel_rfl
set_option maxHeartbeats 1000000 in
theorem toHouseStepS_c (l : List HouseStep) (A : Option Addr) (n c : Nat) (w : World) (B : Nat) (hl : Mm.SlAt rHouseStep w B l A n c) (hB : B ≤ w.heap.size) (hsz : Pl.szl Pl.szHouseStep l ≤ 1048576) :
    Calls Try.prog 12 #[.slice A n c] w (Mm.NewSl rHouseStep 63 w l) := by
  have hlen : Hid (l.length = n) := hl.1
  have HL := Lib.hid hl
  have HN : Hid (∀ x : HouseStep, 0 ≤ Pl.szHouseStep x) := Pl.szHouseStep_nn
  have HSZ := Lib.hid hsz
  have hn : n ≤ 1048576 := by have := Pl.szl_len HN.out l; have := hlen.out; omega
  clear hl hsz
  obtain ⟨i0, hi, hz0, hz1, hz2⟩ := info_parts Try.info_HouseStep
  go_enter Try.func12, Try.ntmps12
  go_wp2_with (at_make; refine wpList_make_full _ rfl _ _ 38 rfl 0 63 i0 _ 5 Try.underlying38 hi hz0 hz1 _ _ _ _ n rfl rfl rfl rfl (by rw [hz2]; omega) (by unfold maxLen; omega) (Nat.zero_le _) ?_; intro w1 hown hgrow)
  go_loopw [4] (fun i wr => ∃ k : Nat, k ≤ n ∧ i = .int .i64 k ∧ Mm.Filled rHouseStep 63 w l ⟨0, 0, ⟨⟨#[]⟩, 0, 0⟩⟩ n k wr) (fun i _ => n - (intOf i).toNat)
  case atStart => exact ⟨0, Nat.zero_le _, rfl, Mm.Filled.start (zv := .agg #[.int .i64 0, .int .i64 0, .string ⟨#[]⟩, .int .i64 0, .int .i64 0]) hlen.out hown hgrow ⟨rfl, ⟨(by unfold Mm.I64; simp), (by unfold Mm.I64; simp), (by show 0 ≤ _; exact Nat.zero_le _), (by unfold Mm.I64; simp), (by unfold Mm.I64; simp)⟩, rfl⟩ (by decide)⟩
  case round =>
    obtain ⟨k, hk, rfl, hfil⟩ := hrel
    rename_i wr _
    have HF : Hid (Mm.Filled rHouseStep 63 w l ⟨0, 0, ⟨⟨#[]⟩, 0, 0⟩⟩ n k wr) := hfil
    clear hfil hown hgrow
    by_cases hlt : k < n
    · obtain ⟨x, b, off, hx, rfl, hb, f0, f1, f2, f3, f4, d0, d1, d2, d3, d4⟩ := rHouseStep_get (HL.out.keep (w' := wr) (fun b hb => HF.out.below.block b (by omega))) hlt
      have hBw : B ≤ wr.heap.size := Nat.le_trans hB HF.out.below.size
      have hxs := Pl.szl_mem HN.out (List.mem_of_getElem? hx)
      have HX := Lib.hid (And.intro hx (And.intro hxs (And.intro f0 (And.intro f1 (And.intro f2 (And.intro f3 f4))))))
      have hw := HF.out.lt
      clear hx hxs f0 f1 f2 f3 f4
      go_wp2_with fail
      refine (toHouseStep_c x _).mono ?_
      rintro e w2 ⟨rfl, hb2⟩
      have HK := Lib.hid (HF.out.keep hb2)
      obtain ⟨u0, t0⟩ := HK.out.cell hlt (j := 0) (by decide)
      have d0' : w2.cell? ⟨w.heap.size, k * 5, none⟩ = some u0 := t0
      have z0 := HK.out.frozen (k * 5)
      clear t0
      obtain ⟨u1, t1⟩ := HK.out.cell hlt (j := 1) (by decide)
      have d1' : w2.cell? ⟨w.heap.size, k * 5 + 1, none⟩ = some u1 := t1
      have z1 := HK.out.frozen (k * 5 + 1)
      clear t1
      obtain ⟨u2, t2⟩ := HK.out.cell hlt (j := 2) (by decide)
      have d2' : w2.cell? ⟨w.heap.size, k * 5 + 2, none⟩ = some u2 := t2
      have z2 := HK.out.frozen (k * 5 + 2)
      clear t2
      obtain ⟨u3, t3⟩ := HK.out.cell hlt (j := 3) (by decide)
      have d3' : w2.cell? ⟨w.heap.size, k * 5 + 3, none⟩ = some u3 := t3
      have z3 := HK.out.frozen (k * 5 + 3)
      clear t3
      obtain ⟨u4, t4⟩ := HK.out.cell hlt (j := 4) (by decide)
      have d4' : w2.cell? ⟨w.heap.size, k * 5 + 4, none⟩ = some u4 := t4
      have z4 := HK.out.frozen (k * 5 + 4)
      clear t4
      go_wp2
      go_roundw
      case rel => exact ⟨k + 1, by omega, by go_num, HF.out.step hlt HX.out.1 hb2 (cs := [.int .i64 x.Kind, .int .i64 x.Part, .string x.What.Name, .int .i64 x.What.At, .int .i64 x.What.Value]) (fx := []) ⟨rfl, ⟨HX.out.2.2.1, HX.out.2.2.2.1, HX.out.2.2.2.2.1, HX.out.2.2.2.2.2.1, HX.out.2.2.2.2.2.2⟩, rfl⟩ List.nodup_nil (fun b hb => by cases hb)⟩
      case measure => simp [intOf]; omega
    · go_wp2
      go_ret
      exact HF.out.done (by omega)
end Go.Proofs.Ytkodfflnpalbbaa

/-
  The text of a mark. No conditions.
-/
namespace Go.Proofs.Ytkodfflnpalbbaa
open Go.RowKit
theorem conv_byte (W : World) (n : Nat) (hn : n < 256) : (convert 93 9 (.slice (some ⟨W.heap.size, 0, none⟩) 1 1)).run Try.prog (W.alloc (.cells #[.int .u8 (n : Int)] 5)) = .ok (.string ⟨#[UInt8.ofNat n]⟩) (W.alloc (.cells #[.int .u8 (n : Int)] 5)) := by
  refine run_convert_bytes_back _ _ _ 5 ⟨W.heap.size, 0, none⟩ 1 [UInt8.ofNat n] Try.underlying93 Try.underlying5 Try.underlying9 (fun j hj => ?_)
  obtain rfl : j = 0 := by simp at hj; exact hj
  have := cell_of_row (W.alloc (.cells #[.int .u8 (n : Int)] 5)) W.heap.size 0 _ _ _ (heap_alloc_new _ _)
  rw [show ((⟨W.heap.size, 0, none⟩ : Addr).add 0) = ⟨W.heap.size, 0, none⟩ from rfl, this]
  simp [Nat.mod_eq_of_lt hn]
theorem str_add (c : UInt8) (acc : List UInt8) : (⟨#[c]⟩ : ByteArray) ++ ⟨acc.toArray⟩ = ⟨(c :: acc).toArray⟩ := by
  apply ByteArray.ext
  simp
set_option maxRecDepth 100000 in
set_option maxHeartbeats 1000000 in
theorem markText_c (k : Int) (w : World) (h0 : 1 ≤ k) (h1 : k ≤ 1000000000000) :
    Calls Try.prog 38 #[.int .i64 k] w fun e w' => e = .returned (.string (Pl.mkText k)) ∧ Below w.heap.size w w' := by
  go_enter Try.func38, Try.ntmps38
  go_wp2
  go_loopw [0, 3] (fun kk s wr => ∃ (f q : Nat) (acc : List UInt8), q ≤ f ∧ acc.length + f ≤ 1000000000000 ∧ kk = .int .i64 q ∧ s = .string ⟨acc.toArray⟩ ∧ Below w.heap.size w wr ∧ Pl.digs f q acc = Pl.digs k.toNat k.toNat []) (fun kk _ _ => (intOf kk).toNat)
  case atStart => exact ⟨k.toNat, k.toNat, [], Nat.le_refl _, by simp; omega, by rw [Int.toNat_of_nonneg (by omega)], rfl, Below.refl _ _, rfl⟩
  case round =>
      obtain ⟨f, q, acc, hq, hq2, rfl, rfl, hbel, hd⟩ := hrel
      rename_i wr _
      have HD := Lib.hid hd
      clear hd
      by_cases h0 : 0 < q
      · obtain ⟨f', rfl⟩ : ∃ f', f = f' + 1 := ⟨f - 1, by omega⟩
        have hdv : q / 10 ≤ f' := by omega
        have HD2 : Hid (Pl.digs f' (q / 10) (UInt8.ofNat (48 + q % 10) :: acc) = Pl.digs k.toNat k.toNat []) := by
          rw [← HD.out]
          show _ = _
          conv => rhs; unfold Pl.digs
          rw [if_neg (by omega)]
        have hcv := fun W : World => conv_byte W (48 + q % 10) (by omega)
        have hca : ((48 + q % 10 : Nat) : Int) = 48 + (q : Int) % 10 := by omega
        rw [hca] at hcv
        clear hca
        go_wp2
        go_roundw
        case rel => exact ⟨f', q / 10, UInt8.ofNat (48 + q % 10) :: acc, hdv, by simp; omega, by simp, by rw [← str_add (UInt8.ofNat (48 + q % 10)) acc, show UInt8.ofNat (48 + q % 10) = 48 + UInt8.ofNat (q % 10) from by simp], below_new hbel _, HD2.out⟩
        case measure => simp [intOf]; omega
      · obtain rfl : q = 0 := by omega
        have HF : Hid (Pl.mkText k = ⟨#[109]⟩ ++ ⟨acc.toArray⟩) := by
          show _ = _
          have h2 := HD.out
          have h3 : Pl.digs f 0 acc = acc := by cases f <;> simp [Pl.digs]
          rw [h3] at h2
          unfold Pl.mkText
          rw [← h2, str_add]
        go_wp2
        go_ret
        exact ⟨by rw [HF.out]; rfl, hbel⟩
end Go.Proofs.Ytkodfflnpalbbaa
