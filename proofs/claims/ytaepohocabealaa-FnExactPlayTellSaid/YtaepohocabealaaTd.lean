/-
  Contracts: the reference's copy of a teller (chapter 10). No conditions.
-/
import Derived.Test.YtaepohocabealaaTc
namespace Go.Proofs.Ytaepohocabealaa
open Go.RowKit
attribute [local go_sem] und_cell cha_cell World.cell?_alloc_some
def Mm.encTold (m : Told) : List Value := [.int .i64 m.Who, .int .i64 m.No, .string m.Text]
theorem Mm.flat_told : Mm.FlatN rTold Mm.encTold := ⟨by decide, fun h => by
  obtain ⟨rfl, h1, rfl⟩ := rTold_own h
  exact ⟨rfl, rfl, fun w' => rTold_own_mk h1⟩⟩
theorem Mm.flatA_told : Mm.Flat rTold Mm.encTold := ⟨fun h => (rTold_at h).1, fun h w' => rTold_own_mk (rTold_at h).2⟩
theorem Mm.flatN_int : Mm.FlatN Mm.int (fun x => [.int .i64 x]) := ⟨by decide, fun h => by
  obtain ⟨rfl, h1, rfl⟩ := h
  exact ⟨rfl, rfl, fun w' => ⟨rfl, h1, rfl⟩⟩⟩
theorem Mm.flatN_str : Mm.FlatN Mm.str (fun x => [.string x]) := ⟨by decide, fun h => by
  obtain ⟨rfl, h1, rfl⟩ := h
  exact ⟨rfl, rfl, fun w' => ⟨rfl, h1, rfl⟩⟩⟩
theorem Try.infoI : (Try.prog.info? 3).map (fun i => (i.zero, i.size, i.bytes)) = some (some (.int .i64 0), 1, 8) := by kernel_rfl
theorem Try.infoStrs : (Try.prog.info? 40).map (fun i => (i.zero, i.size, i.bytes)) = some (some (.slice none 0 0), 1, 24) := by kernel_rfl
/-- what a copy of a teller asks: the sizes -/
structure Pl.TSz (t : Tell) : Prop where
  n4 : t.Texts.length ≤ 4
  heard : t.Heard.length ≤ 4
  next : t.Next.length ≤ 4
  line : t.Line.length ≤ 30
  log : t.Log.length ≤ 80
  texts : ∀ (k : Nat) (l : List ByteArray), t.Texts[k]? = some l → l.length ≤ 20
theorem Pl.TWf.sz {t : Tell} (h : Pl.TWf t) : Pl.TSz t := ⟨h.n4, by rw [h.heard]; exact h.n4, by rw [h.next]; exact h.n4, h.line, h.log_len, h.texts⟩
set_option maxRecDepth 100000 in
set_option maxHeartbeats 2000000 in
theorem l10Own_c (t : Tell) (cs : List Value) (w : World) (B : Nat) (hh : rTell.at_ w B t cs) (hB : B ≤ w.heap.size) (hz : Pl.TSz t) :
    Calls Try.prog 51 #[.agg cs.toArray] w (Mm.NewAg rTell w t) := by
  obtain ⟨A0, n0, c0, A1, n1, c1, A2, n2, c2, A3, n3, c3, A4, n4, c4, rfl, r0, r1, r2, r3, r4⟩ := rTell_at hh
  have g0 := r0.1
  have g1 := r1.1
  have g2 := r2.1
  have g3 := r3.1
  have g4 := r4.1
  have z0 := hz.n4
  have z1 := hz.heard
  have z2 := hz.line
  have z3 := hz.log
  have z4 := hz.next
  have z5 := Lib.hid hz.texts
  rw [g0] at z0
  rw [g1] at z1
  rw [g2] at z2
  rw [g3] at z3
  rw [g4] at z4
  have G0 := Lib.hid g0
  have R0 := Lib.hid r0
  have KS0 := Lib.hid (((Mm.SepF.start w).alloc' rfl 31 [.slice A0 n0 c0, .slice A1 n1 c1, .slice A2 n2 c2, .slice A3 n3 c3, .slice A4 n4 c4]).alloc' (Mm.sz1 _ _) 31 zTell)
  obtain ⟨iI, qI, qI0, qI1, qI2⟩ := info_parts Try.infoI
  obtain ⟨iN, qN, qN0, qN1, qN2⟩ := info_parts Try.infoNote
  obtain ⟨iT, qT, qT0, qT1, qT2⟩ := info_parts Try.infoTold
  obtain ⟨iS, qS, qS0, qS1, qS2⟩ := info_parts Try.infoStr
  obtain ⟨iL, qL, qL0, qL1, qL2⟩ := info_parts Try.infoStrs
  have R1 := Lib.hid r1
  have R2 := Lib.hid r2
  have R3 := Lib.hid r3
  have R4 := Lib.hid r4
  clear hh r0 r1 r2 r3 r4 hz g0 g1 g2 g3 g4
  go_enter Try.func51, Try.ntmps51
  go_upto_region 1 with fail
  obtain ⟨W1, hW1⟩ : ∃ W1, (w.alloc (.cells #[.slice A0 n0 c0, .slice A1 n1 c1, .slice A2 n2 c2, .slice A3 n3 c3, .slice A4 n4 c4] 31)).alloc (.cells #[.slice none 0 0, .slice none 0 0, .slice none 0 0, .slice none 0 0, .slice none 0 0] 31) = W1 := ⟨_, rfl⟩
  have KS1 := Lib.hid (KS0.out.atW hW1)
  have hsz := KS1.out.chg.size
  have S1 := Lib.hid (R1.out.keep (fun b hb => KS1.out.bel0.block b (by omega)))
  have S2 := Lib.hid (R2.out.keep (fun b hb => KS1.out.bel0.block b (by omega)))
  have S3 := Lib.hid (R3.out.keep (fun b hb => KS1.out.bel0.block b (by omega)))
  have S4 := Lib.hid (R4.out.keep (fun b hb => KS1.out.bel0.block b (by omega)))
  clear KS0 R1 R2 R3 R4
  obtain ⟨ga, hga⟩ : ∃ ga, w.heap.size = ga := ⟨_, rfl⟩
  obtain ⟨gb, hgb⟩ : ∃ gb, ga + 1 = gb := ⟨_, rfl⟩
  rw [hga] at KS1
  rw [hgb] at KS1
  rw [hW1, hga, hgb]
  clear hW1 hgb
  have HGA := Lib.hid hga
  clear hga
  have b1 := KS1.out.cell (k := 1) 1 rfl rfl
  have b2 := KS1.out.cell (k := 2) 1 rfl rfl
  have b3 := KS1.out.cell (k := 3) 1 rfl rfl
  have b4 := KS1.out.cell (k := 4) 1 rfl rfl
  refine Mm.wp_region_give 18 (fun i => match i with | 0 => some (Mm.gSl Mm.int 3 []) | 3 => some (Mm.gSl Mm.int 3 t.Heard) | 4 => some (Mm.gSl rNote 94 []) | 7 => some (Mm.gSl rNote 94 t.Line) | 8 => some (Mm.gSl rTold 52 []) | 11 => some (Mm.gSl rTold 52 t.Log) | 12 => some (Mm.gSl Mm.int 3 []) | 15 => some (Mm.gSl Mm.int 3 t.Next) | 17 => some (Mm.gPtr 31 zTell) | _ => none) (fun i => match i with | 3 => [0] | 7 => [4] | 11 => [8] | 15 => [12] | _ => []) (fun _ => []) (F := []) (D := fun w' => ∃ x : Und W1, w' = und W1 x) (fun X us h => Mm.sep_und h) (by kernel_rfl) (by kernel_rfl) (by kernel_rfl) (Mm.SepF.startDrew _) ?_
  refine Mm.give_op0 6 (by rfl) rfl (by rfl) (by rfl) (by rfl) (by rfl) Mm.gSl_in (fun others X hX => ?_) ?_
  · go_wp2
    exact Mm.gvq_fresh hX rfl rfl rfl
  rintro v ds ⟨a0, p0, d0, f0, rfl, rfl, e0⟩
  simp only [Act.put, List.setIfInBounds_toArray, List.set_cons_succ, List.set_cons_zero]
  repeat (refine Mm.give_det (by rfl) (by rfl) (by rfl) (fun K hK => ?_); go_big_quiet_op; refine hK _ ?_; clear hK K)
  refine Mm.give_op1 9 0 (by rfl) rfl (by rfl) (by rfl) (by rfl) rfl (by rfl) _ rfl Mm.gSl_in (fun others X hX => Mm.clone_gvq rfl (.tmp 6) (.tmp 8) 27 rfl 9 rfl (by rfl) Mm.flat_int Mm.flatN_int iI _ 8 Try.underlying27 qI qI0 qI1 qI2 rfl rfl rfl (S1.out.keep (fun b hb => hX.bel0.block b (by omega))) (by unfold maxLen; omega) (by omega) hX) ?_
  rintro v ds ⟨a1, q1, d1, f1, rfl, rfl, e1⟩
  simp only [Act.put, List.setIfInBounds_toArray, List.set_cons_succ, List.set_cons_zero]
  repeat (refine Mm.give_det (by rfl) (by rfl) (by rfl) (fun K hK => ?_); go_big_quiet_op; refine hK _ ?_; clear hK K)
  refine Mm.give_op0 10 (by rfl) rfl (by rfl) (by rfl) (by rfl) (by rfl) Mm.gSl_in (fun others X hX => ?_) ?_
  · go_wp2
    exact Mm.gvq_fresh hX rfl rfl rfl
  rintro v ds ⟨a0, p0, d0, f0, rfl, rfl, e0⟩
  simp only [Act.put, List.setIfInBounds_toArray, List.set_cons_succ, List.set_cons_zero]
  repeat (refine Mm.give_det (by rfl) (by rfl) (by rfl) (fun K hK => ?_); go_big_quiet_op; refine hK _ ?_; clear hK K)
  refine Mm.give_op1 13 4 (by rfl) rfl (by rfl) (by rfl) (by rfl) rfl (by rfl) _ rfl Mm.gSl_in (fun others X hX => Mm.clone_gvq rfl (.tmp 10) (.tmp 12) 28 rfl 13 rfl (by rfl) Mm.flatA_note Mm.flat_note iN _ 40 Try.underlying28 qN qN0 qN1 qN2 rfl rfl rfl (S2.out.keep (fun b hb => hX.bel0.block b (by omega))) (by unfold maxLen; omega) (by omega) hX) ?_
  rintro v ds ⟨a2, q2, d2, f2, rfl, rfl, e2⟩
  simp only [Act.put, List.setIfInBounds_toArray, List.set_cons_succ, List.set_cons_zero]
  repeat (refine Mm.give_det (by rfl) (by rfl) (by rfl) (fun K hK => ?_); go_big_quiet_op; refine hK _ ?_; clear hK K)
  refine Mm.give_op0 14 (by rfl) rfl (by rfl) (by rfl) (by rfl) (by rfl) Mm.gSl_in (fun others X hX => ?_) ?_
  · go_wp2
    exact Mm.gvq_fresh hX rfl rfl rfl
  rintro v ds ⟨a0, p0, d0, f0, rfl, rfl, e0⟩
  simp only [Act.put, List.setIfInBounds_toArray, List.set_cons_succ, List.set_cons_zero]
  repeat (refine Mm.give_det (by rfl) (by rfl) (by rfl) (fun K hK => ?_); go_big_quiet_op; refine hK _ ?_; clear hK K)
  refine Mm.give_op1 17 8 (by rfl) rfl (by rfl) (by rfl) (by rfl) rfl (by rfl) _ rfl Mm.gSl_in (fun others X hX => Mm.clone_gvq rfl (.tmp 14) (.tmp 16) 29 rfl 17 rfl (by rfl) Mm.flatA_told Mm.flat_told iT _ 32 Try.underlying29 qT qT0 qT1 qT2 rfl rfl rfl (S3.out.keep (fun b hb => hX.bel0.block b (by omega))) (by unfold maxLen; omega) (by omega) hX) ?_
  rintro v ds ⟨a3, q3, d3, f3, rfl, rfl, e3⟩
  simp only [Act.put, List.setIfInBounds_toArray, List.set_cons_succ, List.set_cons_zero]
  repeat (refine Mm.give_det (by rfl) (by rfl) (by rfl) (fun K hK => ?_); go_big_quiet_op; refine hK _ ?_; clear hK K)
  refine Mm.give_op0 18 (by rfl) rfl (by rfl) (by rfl) (by rfl) (by rfl) Mm.gSl_in (fun others X hX => ?_) ?_
  · go_wp2
    exact Mm.gvq_fresh hX rfl rfl rfl
  rintro v ds ⟨a0, p0, d0, f0, rfl, rfl, e0⟩
  simp only [Act.put, List.setIfInBounds_toArray, List.set_cons_succ, List.set_cons_zero]
  repeat (refine Mm.give_det (by rfl) (by rfl) (by rfl) (fun K hK => ?_); go_big_quiet_op; refine hK _ ?_; clear hK K)
  refine Mm.give_op1 21 12 (by rfl) rfl (by rfl) (by rfl) (by rfl) rfl (by rfl) _ rfl Mm.gSl_in (fun others X hX => Mm.clone_gvq rfl (.tmp 18) (.tmp 20) 27 rfl 21 rfl (by rfl) Mm.flat_int Mm.flatN_int iI _ 8 Try.underlying27 qI qI0 qI1 qI2 rfl rfl rfl (S4.out.keep (fun b hb => hX.bel0.block b (by omega))) (by unfold maxLen; omega) (by omega) hX) ?_
  rintro v ds ⟨a4, q4, d4, f4, rfl, rfl, e4⟩
  simp only [Act.put, List.setIfInBounds_toArray, List.set_cons_succ, List.set_cons_zero]
  repeat (refine Mm.give_det (by rfl) (by rfl) (by rfl) (fun K hK => ?_); go_big_quiet_op; refine hK _ ?_; clear hK K)
  refine Mm.give_op0 3 (by rfl) rfl (by rfl) (by rfl) (by rfl) (by rfl) Mm.gPtr_in (fun others X hX => ?_) ?_
  · go_wp2
    exact Mm.gvq_ptr hX rfl rfl rfl
  rintro v ds ⟨gp, rfl, rfl⟩
  simp only [Act.put, List.setIfInBounds_toArray, List.set_cons_succ, List.set_cons_zero]
  refine Mm.give_nil ?_
  rintro X hX
  have HX := Lib.hid (KS1.out.join (us := [Mm.tsl Mm.int 3 t.Heard (.slice a1 q1 d1) f1, Mm.tsl rNote 94 t.Line (.slice a2 q2 d2) f2, Mm.tsl rTold 52 t.Log (.slice a3 q3 d3) f3, Mm.tsl Mm.int 3 t.Next (.slice a4 q4 d4) f4, Mm.tblk gp 31 zTell]) hX)
  clear hX b1 b2 b3 b4
  have p0 := HX.out.frz (k := 0) 4 rfl
  have p1 := HX.out.frz (k := 1) 4 rfl
  have p2 := HX.out.frz (k := 2) 4 rfl
  have p3 := HX.out.frz (k := 3) 4 rfl
  have p4 := HX.out.frz (k := 4) 4 rfl
  have s0 := HX.out.cell (k := 0) 4 rfl rfl
  have s1 := HX.out.cell (k := 1) 4 rfl rfl
  have s2 := HX.out.cell (k := 2) 4 rfl rfl
  have s3 := HX.out.cell (k := 3) 4 rfl rfl
  have s4 := HX.out.cell (k := 4) 4 rfl rfl
  have HX2 := Lib.hid (((((HX.out.setBlk (k := 0) 4 rfl (.slice none 0 0)).setBlk (k := 1) 4 rfl (.slice a1 q1 d1)).setBlk (k := 2) 4 rfl (.slice a2 q2 d2)).setBlk (k := 3) 4 rfl (.slice a3 q3 d3)).setBlk (k := 4) 4 rfl (.slice a4 q4 d4))
  have b0 := HX2.out.cell (k := 0) 6 rfl rfl
  have KS2 := Lib.hid (((HX2.out.sel [4, 0, 1, 2, 3, 5] (by decide) rfl).add (Below.refl _ _) (t := Mm.tsl strs 40 [] (.slice none 0 0) []) Mm.SlOwn.nil List.nodup_nil (fun b hb => by cases hb)).toSep)
  have HB : Hid (B ≤ w.heap.size) := Lib.hid hB
  have G0' := G0
  go_wp2
  clear p0 p1 p2 p3 p4 s0 s1 s2 s3 s4 b0
  go_loopg [26] n0 (fun g i wr => ∃ (k : Nat) (A' : Option Addr) (c' : Nat) (fp : List Nat), n0 - k ≤ g ∧ k ≤ n0 ∧ i = .int .i64 k ∧ Hid (Mm.Sep w wr [Mm.tsl strs 40 (t.Texts.take k) (.slice A' k c') fp, Mm.tblk gp 31 [.slice A' k c', .slice a1 q1 d1, .slice a2 q2 d2, .slice a3 q3 d3, .slice a4 q4 d4], Mm.tsl Mm.int 3 t.Heard (.slice a1 q1 d1) f1, Mm.tsl rNote 94 t.Line (.slice a2 q2 d2) f2, Mm.tsl rTold 52 t.Log (.slice a3 q3 d3) f3, Mm.tsl Mm.int 3 t.Next (.slice a4 q4 d4) f4, Mm.tblk gb 31 zTell]))
  case atStart => exact ⟨0, none, 0, [], Nat.le_refl _, Nat.zero_le _, rfl, KS2.out⟩
  case round =>
    obtain ⟨k, A', c', fp, hgk, hk', rfl, HS⟩ := hrel
    have hbel := HS.out.bel
    have hsw := hbel.size
    have y0 := HS.out.cell (k := 0) 1 rfl rfl
    have z0 := HS.out.frz (k := 0) 1 rfl
    by_cases hlt : k < n0
    · obtain ⟨r, b0, off, A1', n1', c1', hx, rfl, hb, hr, e0⟩ := strs_get R0.out hlt
      have hn20 := z5.out k r hx
      rw [hr.1] at hn20
      have e0' := below_some hbel e0
      have HRW := Lib.hid (show Mm.SlAt Mm.str (wr.alloc (.cells #[] 9)).drew B r A1' n1' c1' from hr.keep fun b' hb' => (Below.heap_alloc wr _ b' (by omega)).trans (hbel.block b' (by omega)))
      have HN := Lib.hid (Mm.take_succ_some hx)
      have htl := List.length_take_of_le (l := t.Texts) (i := k) (by rw [G0.out]; omega)
      have HTL := Lib.hid htl
      clear hx hr e0 htl
      go_wp2
      go_region_law (first
        | (refine Mm.step_clone (by rfl) (.tmp 32) (.tmp 33) 40 (by rfl) Mm.flat_str iS _ 16 Try.underlying40 qS qS0 qS1 qS2 rfl (by decide) HS.out ((below_new (Below.refl wr.heap.size wr) (.cells #[] 9)).drew) (heap_alloc_new wr _) (Nat.le_refl _) HRW.out (by unfold maxLen; omega) (by omega) (by rfl) (by rfl) ?_; intro A2 c2 fp2 w1 hs1 hb1; obtain ⟨l0, ho3, hnext⟩ := hs1.push (W2 := w1.alloc (.cells #[.slice A2 n1' c2] 40)) 1 0 (by decide) rfl rfl (below_new (Below.refl _ _) _) (x := r) (cx := [.slice A2 n1' c2]) (fun W h => ⟨_, rfl, h⟩); rw [HTL.out] at ho3 hnext; (have HNX := Lib.hid hnext); (have HS1 := Lib.hid hs1); (have y1 := hs1.cell (k := 0) 2 rfl rfl); (have z1 := hs1.frz (k := 0) 2 rfl); clear hnext hs1 hb1)
        | (refine step_append_lies _ (by rfl) (.tmp 31) (.tmp 35) 26 (by rfl) 0 40 iL _ 1 24 Try.underlying26 qL qL0 qL1 qL2 rfl (by omega) (.slice A' k c') k l0 (by rfl) ho3 ⟨w1.heap.size, 0, none⟩ 1 1 [.slice A2 n1' c2] (by rfl) (by rfl) (World.news_of_block (B := w1.heap.size) (cs := #[.slice A2 n1' c2]) (t := 40) (fr := (0, 0)) (heap_alloc_new w1 _)) (by simp [Value.oneCell']) (by omega) (by unfold maxLen; omega) (by omega) (Nat.zero_le _) _ rfl ?_; intro gg cap w4 hown1 hgrow hat hlt'; obtain ⟨fp', hs4⟩ := HNX.out gg cap w4 hown1 hgrow hat; (have HS4 := Lib.hid hs4); (have y0' := HS4.out.cell (k := 0) 2 rfl rfl); (have z0' := HS4.out.frz (k := 0) 2 rfl); clear hs4 hown1 hgrow hat))
      all_goals
        go_wp2
        go_roundg (n0 - (k + 1))
        case measure => omega
        case rel => exact ⟨k + 1, _, cap, fp', Nat.le_refl _, by omega, by go_num, by rw [HN.out]; exact (HS4.out.setBlk 2 rfl _).tail⟩
    · obtain rfl : k = n0 := by omega
      have HE : Hid (t.Texts.take k = t.Texts) := List.take_of_length_le (by rw [G0.out]; exact Nat.le_refl _)
      have HSR := Lib.hid HS.out.toF
      clear y0 z0
      have y0 := HSR.out.cell (k := 0) 1 rfl rfl
      have y1 := HSR.out.cell (k := 1) 1 rfl rfl
      have y2 := HSR.out.cell (k := 2) 1 rfl rfl
      have y3 := HSR.out.cell (k := 3) 1 rfl rfl
      have y4 := HSR.out.cell (k := 4) 1 rfl rfl
      have r0 := HSR.out.cell (k := 0) 6 rfl rfl
      have r1 := HSR.out.cell (k := 1) 6 rfl rfl
      have r2 := HSR.out.cell (k := 2) 6 rfl rfl
      have r3 := HSR.out.cell (k := 3) 6 rfl rfl
      have r4 := HSR.out.cell (k := 4) 6 rfl rfl
      have z0 := HSR.out.frz (k := 0) 6 rfl
      have z1 := HSR.out.frz (k := 1) 6 rfl
      have z2 := HSR.out.frz (k := 2) 6 rfl
      have z3 := HSR.out.frz (k := 3) 6 rfl
      have z4 := HSR.out.frz (k := 4) 6 rfl
      have HSF := Lib.hid (((((HSR.out.setBlk (k := 0) 6 rfl (.slice A' k c')).setBlk (k := 1) 6 rfl (.slice a1 q1 d1)).setBlk (k := 2) 6 rfl (.slice a2 q2 d2)).setBlk (k := 3) 6 rfl (.slice a3 q3 d3)).setBlk (k := 4) 6 rfl (.slice a4 q4 d4))
      have u0 := HSF.out.cell (k := 0) 6 rfl rfl
      have u1 := HSF.out.cell (k := 1) 6 rfl rfl
      have u2 := HSF.out.cell (k := 2) 6 rfl rfl
      have u3 := HSF.out.cell (k := 3) 6 rfl rfl
      have u4 := HSF.out.cell (k := 4) 6 rfl rfl
      have HFI := Lib.hid (HSF.out.sel [0, 2, 3, 4, 5] (by decide) rfl)
      rw [HE.out] at HFI
      go_wp2
      exact bodyPost_ret (v := .agg #[.slice A' k c', .slice a1 q1 d1, .slice a2 q2 d2, .slice a3 q3 d3, .slice a4 q4 d4]) (by simp [results, Try.results51, go_sem, u0, u1, u2, u3, u4]) rfl (tell_ret (shutv_Tell (x := t) HFI.out))
end Go.Proofs.Ytaepohocabealaa
