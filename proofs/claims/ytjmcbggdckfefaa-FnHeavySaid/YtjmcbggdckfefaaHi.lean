/-
  Contracts: the program's AddHeavy, FeedHeavy. No conditions.
-/
import Derived.Test.YtjmcbggdckfefaaHg
import Derived.Test.YtjmcbggdckfefaaHf
import Derived.Test.YtjmcbggdckfefaaRg
namespace Go.Proofs.Ytjmcbggdckfefaa
open Go.RowKit
attribute [local go_sem] und_cell World.cell?_alloc_some
theorem hv_rd {h : Heavy} {w : World} {B : Nat} {A0 A1 : Option Addr} {n0 c0 n1 c1 : Nat} {a b : Value} (hh : rHeavy.at_ w B h [.slice A0 n0 c0, .slice A1 n1 c1, a, b]) : Mm.SlAt Mm.str w B h.Names A0 n0 c0 ∧ Mm.SlAt Mm.int w B h.Counts A1 n1 c1 := by
  obtain ⟨_, _, _, _, _, _, hcs, h0, h1, -⟩ := rHeavy_at hh
  injection hcs with e0 hcs
  injection hcs with e1 hcs
  injection e0 with a0 a1 a2
  injection e1 with b0 b1 b2
  subst a0 a1 a2 b0 b1 b2
  exact ⟨h0, h1⟩
set_option maxRecDepth 100000 in
set_option maxHeartbeats 1000000 in
theorem implAddHeavy_c (h : Heavy) (cs : List Value) (name : ByteArray) (w : World) (B : Nat) (hh : rHeavy.at_ w B h cs) (hB : B ≤ w.heap.size) (hs : name.size ≤ maxLen) :
    Calls Try.prog 18 #[.agg cs.toArray, .string name] w (Mm.Ret2 rHeavy w (Pl.addHeavy h name).1 (Pl.addHeavy h name).2) := by
  have HH := Lib.hid hh
  obtain ⟨A0, n0, c0, A1, n1, c1, rfl, -⟩ := rHeavy_at hh
  clear hh
  have KS0 := Lib.hid (((Mm.SepF.start w).alloc' rfl 38 [.slice A0 n0 c0, .slice A1 n1 c1, .int .i64 h.Gone, .int .i64 h.Total]).alloc' (Mm.sz1 _ _) 38 [.slice none 0 0, .slice none 0 0, .int .i64 0, .int .i64 0])
  have HB0 := Lib.hid KS0.out.bel0
  cases kk : Pl.heavyOk h
  · have HF : Hid (Pl.addHeavy h name = (⟨[], [], 0, 0⟩, false)) := if_neg (by rw [kk]; simp)
    rw [HF.out]
    go_enter Try.func18, Try.ntmps18
    go_wp2_with first
      | (go_at_call 70; refine (isHeavy_c h [.slice A0 n0 c0, .slice A1 n1 c1, .int .i64 h.Gone, .int .i64 h.Total] _ B (rHeavy.keep HH.out fun b hb => HB0.out.block b (by omega)) (by have := HB0.out.size; omega)).mono ?_; rintro e w1 ⟨rfl, hb1⟩; have KS1 := Lib.hid (KS0.out.step hb1); (have r0 := KS1.out.cell (k := 0) 0 rfl rfl); (have r1 := KS1.out.cell (k := 1) 0 rfl rfl); (have r2 := KS1.out.cell (k := 2) 0 rfl rfl); (have r3 := KS1.out.cell (k := 3) 0 rfl rfl); (have x0 := KS1.out.frz (k := 0) 0 rfl); (have x1 := KS1.out.frz (k := 1) 0 rfl); (have x2 := KS1.out.frz (k := 2) 0 rfl); (have x3 := KS1.out.frz (k := 3) 0 rfl); clear hb1)
      | (go_at_call 71; refine (isWord_c _ _ _ hs).mono ?_; rintro e w' ⟨rfl, rfl⟩)
    exact bodyPost_ret (v := .tuple #[.agg #[.slice none 0 0, .slice none 0 0, .int .i64 0, .int .i64 0], .bool false]) (by simp [results, Try.results18, go_sem, r0, r1, r2, r3]) rfl (hvz_ret _ _ ((((KS1.out.setBlk 0 rfl _).setBlk 0 rfl _).setBlk 0 rfl _).setBlk 0 rfl _).bel0)
  have hk := kk
  cases kk : Pl.word false name.data.toList
  · have HF : Hid (Pl.addHeavy h name = (⟨[], [], 0, 0⟩, false)) := if_neg (by rw [kk]; simp)
    rw [HF.out]
    go_enter Try.func18, Try.ntmps18
    go_wp2_with first
      | (go_at_call 70; refine (isHeavy_c h [.slice A0 n0 c0, .slice A1 n1 c1, .int .i64 h.Gone, .int .i64 h.Total] _ B (rHeavy.keep HH.out fun b hb => HB0.out.block b (by omega)) (by have := HB0.out.size; omega)).mono ?_; rintro e w1 ⟨rfl, hb1⟩; have KS1 := Lib.hid (KS0.out.step hb1); (have r0 := KS1.out.cell (k := 0) 0 rfl rfl); (have r1 := KS1.out.cell (k := 1) 0 rfl rfl); (have r2 := KS1.out.cell (k := 2) 0 rfl rfl); (have r3 := KS1.out.cell (k := 3) 0 rfl rfl); (have x0 := KS1.out.frz (k := 0) 0 rfl); (have x1 := KS1.out.frz (k := 1) 0 rfl); (have x2 := KS1.out.frz (k := 2) 0 rfl); (have x3 := KS1.out.frz (k := 3) 0 rfl); clear hb1)
      | (go_at_call 71; refine (isWord_c _ _ _ hs).mono ?_; rintro e w' ⟨rfl, rfl⟩)
    exact bodyPost_ret (v := .tuple #[.agg #[.slice none 0 0, .slice none 0 0, .int .i64 0, .int .i64 0], .bool false]) (by simp [results, Try.results18, go_sem, r0, r1, r2, r3]) rfl (hvz_ret _ _ ((((KS1.out.setBlk 0 rfl _).setBlk 0 rfl _).setBlk 0 rfl _).setBlk 0 rfl _).bel0)
  have HI := Lib.hid (Pl.HIn.of_ok hk)
  have HNE := Lib.hid (word_ne kk)
  have HF : Hid (Pl.addHeavy h name = (if Pl.heavyOk (Pl.hadd h name) = true then (Pl.hadd h name, true) else (⟨[], [], 0, 0⟩, false))) := if_pos (by rw [hk, kk]; rfl)
  obtain ⟨y, hy⟩ : ∃ y, Pl.hadd h name = y := ⟨_, rfl⟩
  rw [hy] at HF
  have HY := Lib.hid hy
  clear hy
  have hpl := HI.out.pl
  have hcl := HI.out.cl
  go_enter Try.func18, Try.ntmps18
  go_wp2_with first
    | (go_at_call 70; refine (isHeavy_c h [.slice A0 n0 c0, .slice A1 n1 c1, .int .i64 h.Gone, .int .i64 h.Total] _ B (rHeavy.keep HH.out fun b hb => HB0.out.block b (by omega)) (by have := HB0.out.size; omega)).mono ?_; rintro e w1 ⟨rfl, hb1⟩; have KS1 := Lib.hid (KS0.out.step hb1); (have q0 := KS1.out.cell (k := 0) 1 rfl rfl); (have q1 := KS1.out.cell (k := 1) 1 rfl rfl); (have q2 := KS1.out.cell (k := 2) 1 rfl rfl); (have q3 := KS1.out.cell (k := 3) 1 rfl rfl); clear hb1)
    | (go_at_call 71; refine (isWord_c _ _ _ hs).mono ?_; rintro e w' ⟨rfl, rfl⟩)
  have HL := Lib.hid (hv_rd (rHeavy.keep HH.out fun b hb => KS1.out.bel0.block b (by omega)))
  have hn0 : n0 ≤ 6 := by have := HL.out.1.1; omega
  have hn1 : n1 ≤ 6 := by have := HL.out.2.1; omega
  have hsz1 := KS1.out.bel0.size
  refine Mm.wp_region_give 12 (fun i => match i with | 2 => some (Mm.gSl Mm.str 9 h.Names) | 5 => some (Mm.gSl Mm.int 3 h.Counts) | 11 => some (Mm.gPtr 38 [.slice none 0 0, .slice none 0 0, .int .i64 0, .int .i64 0]) | _ => none) (fun _ => []) (fun _ => []) (F := []) (D := fun w' => ∃ x : Und w1, w' = und w1 x) (fun X us h => Mm.sep_und h) (by kernel_rfl) (by kernel_rfl) (by kernel_rfl) (Mm.SepF.startDrew _) ?_
  repeat (refine Mm.give_det (by rfl) (by rfl) (by rfl) (fun K hK => ?_); go_big_quiet_op; refine hK _ ?_; clear hK K)
  refine Mm.give_op0 18 (by rfl) rfl (by rfl) (by rfl) (by rfl) (by rfl) Mm.gSl_in (fun others X hX => ?_) ?_
  · go_wp2_with (go_at_call 72; refine (clStr_c h.Names A0 n0 c0 X B (HL.out.1.keep fun b hb => hX.bel0.block b (by omega)) (by omega)).mono ?_; rintro e w5 ⟨A, n, c, fp, rfl, k1, k2, k3, k4⟩)
    exact Mm.gvq_sl hX k4 k1 k2 k3 rfl rfl
  rintro v ds ⟨A2, n2, c2, f2, rfl, rfl, hn2⟩
  simp only [Act.put, List.setIfInBounds_toArray, List.set_cons_succ, List.set_cons_zero]
  repeat (refine Mm.give_det (by rfl) (by rfl) (by rfl) (fun K hK => ?_); go_big_quiet_op; refine hK _ ?_; clear hK K)
  refine Mm.give_op0 21 (by rfl) rfl (by rfl) (by rfl) (by rfl) (by rfl) Mm.gSl_in (fun others X hX => ?_) ?_
  · go_wp2_with (go_at_call 60; refine (clInt_c h.Counts A1 n1 c1 X B (HL.out.2.keep fun b hb => hX.bel0.block b (by omega)) (by omega)).mono ?_; rintro e w5 ⟨A, n, c, fp, rfl, k1, k2, k3, k4⟩)
    exact Mm.gvq_sl hX k4 k1 k2 k3 rfl rfl
  rintro v ds ⟨A3, n3, c3, f3, rfl, rfl, hn3⟩
  simp only [Act.put, List.setIfInBounds_toArray, List.set_cons_succ, List.set_cons_zero]
  repeat (refine Mm.give_det (by rfl) (by rfl) (by rfl) (fun K hK => ?_); go_big_quiet_op; refine hK _ ?_; clear hK K)
  refine Mm.give_op0 6 (by rfl) rfl (by rfl) (by rfl) (by rfl) (by rfl) Mm.gPtr_in (fun others X hX => ?_) ?_
  · go_wp2
    exact Mm.gvq_ptr hX rfl rfl rfl
  rintro v ds ⟨g6, rfl, rfl⟩
  simp only [Act.put, List.setIfInBounds_toArray, List.set_cons_succ, List.set_cons_zero]
  refine Mm.give_nil ?_
  rintro X hX
  have HX := Lib.hid (KS1.out.join (us := [Mm.tsl Mm.str 9 h.Names (.slice A2 n2 c2) f2, Mm.tsl Mm.int 3 h.Counts (.slice A3 n3 c3) f3, Mm.tblk g6 38 [.slice none 0 0, .slice none 0 0, .int .i64 0, .int .i64 0]]) hX)
  clear hX
  have p0 := HX.out.frz (k := 0) 2 rfl
  have p1 := HX.out.frz (k := 1) 2 rfl
  have p2 := HX.out.frz (k := 2) 2 rfl
  have p3 := HX.out.frz (k := 3) 2 rfl
  have s0 := HX.out.cell (k := 0) 2 rfl rfl
  have s1 := HX.out.cell (k := 1) 2 rfl rfl
  have s2 := HX.out.cell (k := 2) 2 rfl rfl
  have s3 := HX.out.cell (k := 3) 2 rfl rfl
  have HX2 := Lib.hid ((((HX.out.setBlk (k := 0) 2 rfl (.slice A2 n2 c2)).setBlk (k := 1) 2 rfl (.slice A3 n3 c3)).setBlk (k := 2) 2 rfl (.int .i64 h.Gone)).setBlk (k := 3) 2 rfl (.int .i64 h.Total)).front3
  have HC := Lib.hid (hvAdd_c h y name 1000000 HI.out (by omega) HNE.out hs HY.out [] w _ _ g6 A2 A3 n2 c2 n3 c3 f2 f3 HX2.out)
  clear p0 p1 p2 p3 s0 s1 s2 s3
  have p0 := HX.out.frz (k := 0) 2 rfl
  have p1 := HX.out.frz (k := 1) 2 rfl
  have p2 := HX.out.frz (k := 2) 2 rfl
  have p3 := HX.out.frz (k := 3) 2 rfl
  have s0 := HX.out.cell (k := 0) 2 rfl rfl
  have s1 := HX.out.cell (k := 1) 2 rfl rfl
  have s2 := HX.out.cell (k := 2) 2 rfl rfl
  have s3 := HX.out.cell (k := 3) 2 rfl rfl
  have HIY := Lib.hid (show Pl.HIn y (1000000 + 1) from HY.out ▸ Pl.hadd_in HI.out HNE.out)
  have HJ := Lib.hid (hIn_i64 HIY.out (by omega))
  cases hz : Pl.heavyOk y
  · have HZ : Hid (Pl.addHeavy h name = (⟨[], [], 0, 0⟩, false)) := by show _ = _; rw [HF.out, hz]; rfl
    go_wp2_with first
      | (go_at_call 73; (with_reducible refine HC.out.mono ?_); rintro e w4 ⟨A4, n4, c4, A5, n5, c5, f4, f5, rfl, hs4⟩; (have HS4 := Lib.hid hs4); (have t0 := hs4.cell (k := 0) 0 rfl rfl); (have t1 := hs4.cell (k := 1) 0 rfl rfl); (have t2 := hs4.cell (k := 2) 0 rfl rfl); (have t3 := hs4.cell (k := 3) 0 rfl rfl); clear hs4)
      | (go_at_call 70; refine (isHeavy_c y [.slice A4 n4 c4, .slice A5 n5 c5, .int .i64 y.Gone, .int .i64 y.Total] _ w4.heap.size (rHeavy_at_mk ((HS4.out.sl 1 rfl).weak (HS4.out.sl 1 rfl).olt) ((HS4.out.sl 2 rfl).weak (HS4.out.sl 2 rfl).olt) HJ.out.1 HJ.out.2) (Nat.le_refl _)).mono ?_; rintro e w5 ⟨rfl, hb5⟩; (have HS5 := Lib.hid (HS4.out.step hb5)); (have r0 := HS5.out.cell (k := 0) 3 rfl rfl); (have r1 := HS5.out.cell (k := 1) 3 rfl rfl); (have r2 := HS5.out.cell (k := 2) 3 rfl rfl); (have r3 := HS5.out.cell (k := 3) 3 rfl rfl); (have x0 := HS5.out.frz (k := 0) 3 rfl); (have x1 := HS5.out.frz (k := 1) 3 rfl); (have x2 := HS5.out.frz (k := 2) 3 rfl); (have x3 := HS5.out.frz (k := 3) 3 rfl); clear hb5)
    rw [HZ.out]
    exact bodyPost_ret (v := .tuple #[.agg #[.slice none 0 0, .slice none 0 0, .int .i64 0, .int .i64 0], .bool false]) (by simp [results, Try.results18, go_sem, r0, r1, r2, r3]) rfl (hvz_ret _ _ ((((HS5.out.setBlk 3 rfl _).setBlk 3 rfl _).setBlk 3 rfl _).setBlk 3 rfl _).bel0)
  · have HZ : Hid (Pl.addHeavy h name = (y, true)) := by show _ = _; rw [HF.out, hz]; rfl
    go_wp2_with first
      | (go_at_call 73; (with_reducible refine HC.out.mono ?_); rintro e w4 ⟨A4, n4, c4, A5, n5, c5, f4, f5, rfl, hs4⟩; (have HS4 := Lib.hid hs4); (have t0 := hs4.cell (k := 0) 0 rfl rfl); (have t1 := hs4.cell (k := 1) 0 rfl rfl); (have t2 := hs4.cell (k := 2) 0 rfl rfl); (have t3 := hs4.cell (k := 3) 0 rfl rfl); clear hs4)
      | (go_at_call 70; refine (isHeavy_c y [.slice A4 n4 c4, .slice A5 n5 c5, .int .i64 y.Gone, .int .i64 y.Total] _ w4.heap.size (rHeavy_at_mk ((HS4.out.sl 1 rfl).weak (HS4.out.sl 1 rfl).olt) ((HS4.out.sl 2 rfl).weak (HS4.out.sl 2 rfl).olt) HJ.out.1 HJ.out.2) (Nat.le_refl _)).mono ?_; rintro e w5 ⟨rfl, hb5⟩; (have HS5 := Lib.hid (HS4.out.step hb5)); (have r0 := HS5.out.cell (k := 0) 3 rfl rfl); (have r1 := HS5.out.cell (k := 1) 3 rfl rfl); (have r2 := HS5.out.cell (k := 2) 3 rfl rfl); (have r3 := HS5.out.cell (k := 3) 3 rfl rfl); (have x0 := HS5.out.frz (k := 0) 3 rfl); (have x1 := HS5.out.frz (k := 1) 3 rfl); (have x2 := HS5.out.frz (k := 2) 3 rfl); (have x3 := HS5.out.frz (k := 3) 3 rfl); (have t4 := HS5.out.cell (k := 0) 0 rfl rfl); (have t5 := HS5.out.cell (k := 1) 0 rfl rfl); (have t6 := HS5.out.cell (k := 2) 0 rfl rfl); (have t7 := HS5.out.cell (k := 3) 0 rfl rfl); clear hb5)
    rw [HZ.out]
    have HS6 := Lib.hid (((((HS5.out.setBlk (k := 0) 3 rfl (.slice A4 n4 c4)).setBlk (k := 1) 3 rfl (.slice A5 n5 c5)).setBlk (k := 2) 3 rfl (.int .i64 y.Gone)).setBlk (k := 3) 3 rfl (.int .i64 y.Total))).tail
    exact bodyPost_ret (v := .tuple #[.agg #[.slice A4 n4 c4, .slice A5 n5 c5, .int .i64 y.Gone, .int .i64 y.Total], .bool true]) (by simp [results, Try.results18, go_sem, r0, r1, r2, r3]) rfl (hv_ret HS6.out rfl rfl HJ.out.1 HJ.out.2)
theorem mkStr_own {X : World} {n : Nat} (h6 : n ≤ 6) : Mm.SlOwn Mm.str 9 (X.alloc (.cells (Array.replicate n (.string ByteArray.empty)) 9)) (List.replicate n ⟨#[]⟩) (.slice (some ⟨X.heap.size, 0, none⟩) n n) [X.heap.size] :=
  Mm.SlOwn.of_blk (fun s => [.string s]) (by rw [fm_rep, show (ByteArray.empty : ByteArray) = ⟨#[]⟩ from rfl]; have := Mm.Blk.new X 9 (List.replicate n (.string ⟨#[]⟩)); simpa using this) (fun x hx => by rw [(List.mem_replicate.1 hx).2]; exact ⟨rfl, by show (0 : Nat) ≤ _; exact Nat.zero_le _, rfl⟩) (by simp) (by unfold maxLen; omega)
theorem mkInt_own {X : World} {n : Nat} (h6 : n ≤ 6) : Mm.SlOwn Mm.int 3 (X.alloc (.cells (Array.replicate n (.int .i64 0)) 3)) (List.replicate n 0) (.slice (some ⟨X.heap.size, 0, none⟩) n n) [X.heap.size] :=
  Mm.SlOwn.of_blk (fun s => [.int .i64 s]) (by rw [fm_rep]; have := Mm.Blk.new X 3 (List.replicate n (.int .i64 0)); simpa using this) (fun x hx => by rw [(List.mem_replicate.1 hx).2]; exact ⟨rfl, by show Mm.I64 0; unfold Mm.I64; simp, rfl⟩) (by simp) (by unfold maxLen; omega)
set_option maxRecDepth 100000 in
set_option maxHeartbeats 1000000 in
theorem implFeedHeavy_c (n : Int) (l : List ByteArray) (A : Option Addr) (nl cl : Nat) (w : World) (B : Nat) (hl : Mm.SlAt Mm.str w B l A nl cl) (hB : B ≤ w.heap.size) :
    Calls Try.prog 25 #[.int .i64 n, .slice A nl cl] w (Mm.Ret2 rHeavy w (Pl.feedHeavy n l).1 (Pl.feedHeavy n l).2) := by
  have HL := Lib.hid hl
  have hlen := Lib.hid hl.1
  have hnc : nl ≤ maxLen := Nat.le_trans hl.2.1 hl.2.2.1
  unfold maxLen at hnc
  clear hl
  have KS0 := Lib.hid ((Mm.SepF.start w).alloc' rfl 38 [.slice none 0 0, .slice none 0 0, .int .i64 0, .int .i64 0])
  cases hin : Pl.isIn n 1 6
  · have HF : Hid (Pl.feedHeavy n l = (⟨[], [], 0, 0⟩, false)) := if_neg (by rw [hin]; simp)
    rw [HF.out]
    go_enter Try.func25, Try.ntmps25
    go_wp2_with (go_at_call 78; refine (within_c _ _ _ _).mono ?_; rintro e w' ⟨rfl, rfl⟩)
    exact bodyPost_ret (v := .tuple #[.agg #[.slice none 0 0, .slice none 0 0, .int .i64 0, .int .i64 0], .bool false]) (by simp [results, Try.results25, go_sem]) rfl (hvz_ret _ _ (below_new (Below.refl _ _) _))
  · have h16 := Pl.isIn_iff.1 hin
    obtain ⟨pn, rfl⟩ : ∃ pn : Nat, n = (pn : Int) := ⟨n.toNat, by omega⟩
    obtain ⟨y0, hy0⟩ : ∃ y0, Pl.hv0 pn = y0 := ⟨_, rfl⟩
    have HI0 := Lib.hid (hy0 ▸ Pl.hv0_in (n := pn) (by omega) (by omega))
    by_cases h200 : nl ≤ 200
    · have HF : Hid (Pl.feedHeavy pn l = Pl.feedFrom y0 (l.drop 0)) := by
        show _ = _
        unfold Pl.feedHeavy
        rw [if_pos ⟨hin, by rw [hlen.out]; exact h200⟩, Int.toNat_natCast, hy0]; rfl
      have HY0 : Hid (y0 = ⟨List.replicate pn ⟨#[]⟩, List.replicate pn 0, 0, 0⟩) := by show _ = _; rw [← hy0]; rfl
      clear hy0
      have hms := make_strs pn (by omega) (by omega)
      have hmi := make_ints pn (by omega) (by omega)
      have h200' : (nl : Int) ≤ 200 := by omega
      go_enter Try.func25, Try.ntmps25
      go_wp2_with (go_at_call 78; refine (within_c _ _ _ _).mono ?_; rintro e w' ⟨rfl, rfl⟩)
      obtain ⟨W1, hW1⟩ : ∃ W1, W1 = w.alloc (.cells #[.slice none 0 0, .slice none 0 0, .int .i64 0, .int .i64 0] 38) := ⟨_, rfl⟩
      rw [show [Value.slice none 0 0, .slice none 0 0, .int .i64 0, .int .i64 0].toArray = #[.slice none 0 0, .slice none 0 0, .int .i64 0, .int .i64 0] from rfl, ← hW1] at KS0
      rw [← hW1]
      clear hW1
      refine Mm.wp_region_give 6 (fun i => match i with | 1 => some (Mm.gSl Mm.str 9 (List.replicate pn ⟨#[]⟩)) | 3 => some (Mm.gSl Mm.int 3 (List.replicate pn 0)) | 5 => some (Mm.gPtr 38 [.slice none 0 0, .slice none 0 0, .int .i64 0, .int .i64 0]) | _ => none) (fun _ => []) (fun _ => []) (F := []) (D := fun w' => ∃ x : Und W1, w' = und W1 x) (fun X us h => Mm.sep_und h) (by kernel_rfl) (by kernel_rfl) (by kernel_rfl) (Mm.SepF.startDrew _) ?_
      repeat (refine Mm.give_det (by rfl) (by rfl) (by rfl) (fun K hK => ?_); go_big_quiet_op; refine hK _ ?_; clear hK K)
      refine Mm.give_op0 19 (by rfl) rfl (by rfl) (by rfl) (by rfl) (by rfl) Mm.gSl_in (fun others X hX => ?_) ?_
      · go_wp2
        exact Mm.gvq_sl hX (below_new (Below.refl _ _) _) (mkStr_own (by omega)) (by simp) (by simp) rfl rfl
      rintro v ds ⟨A2, n2, c2, f2, rfl, rfl, hn2⟩
      simp only [Act.put, List.setIfInBounds_toArray, List.set_cons_succ, List.set_cons_zero]
      repeat (refine Mm.give_det (by rfl) (by rfl) (by rfl) (fun K hK => ?_); go_big_quiet_op; refine hK _ ?_; clear hK K)
      refine Mm.give_op0 21 (by rfl) rfl (by rfl) (by rfl) (by rfl) (by rfl) Mm.gSl_in (fun others X hX => ?_) ?_
      · go_wp2
        exact Mm.gvq_sl hX (below_new (Below.refl _ _) _) (mkInt_own (by omega)) (by simp) (by simp) rfl rfl
      rintro v ds ⟨A3, n3, c3, f3, rfl, rfl, hn3⟩
      simp only [Act.put, List.setIfInBounds_toArray, List.set_cons_succ, List.set_cons_zero]
      repeat (refine Mm.give_det (by rfl) (by rfl) (by rfl) (fun K hK => ?_); go_big_quiet_op; refine hK _ ?_; clear hK K)
      refine Mm.give_op0 6 (by rfl) rfl (by rfl) (by rfl) (by rfl) (by rfl) Mm.gPtr_in (fun others X hX => ?_) ?_
      · go_wp2
        exact Mm.gvq_ptr hX rfl rfl rfl
      rintro v ds ⟨g6, rfl, rfl⟩
      simp only [Act.put, List.setIfInBounds_toArray, List.set_cons_succ, List.set_cons_zero]
      refine Mm.give_nil ?_
      rintro X hX
      have HX := Lib.hid (KS0.out.join (us := [Mm.tsl Mm.str 9 (List.replicate pn ⟨#[]⟩) (.slice A2 n2 c2) f2, Mm.tsl Mm.int 3 (List.replicate pn 0) (.slice A3 n3 c3) f3, Mm.tblk g6 38 [.slice none 0 0, .slice none 0 0, .int .i64 0, .int .i64 0]]) hX)
      clear hX
      have p0 := HX.out.frz (k := 0) 2 rfl
      have p1 := HX.out.frz (k := 1) 2 rfl
      have p2 := HX.out.frz (k := 2) 2 rfl
      have p3 := HX.out.frz (k := 3) 2 rfl
      have s0 := HX.out.cell (k := 0) 2 rfl rfl
      have s1 := HX.out.cell (k := 1) 2 rfl rfl
      have s2 := HX.out.cell (k := 2) 2 rfl rfl
      have s3 := HX.out.cell (k := 3) 2 rfl rfl
      have HX2 := Lib.hid ((((HX.out.setBlk (k := 0) 2 rfl (.slice A2 n2 c2)).setBlk (k := 1) 2 rfl (.slice A3 n3 c3)).setBlk (k := 2) 2 rfl (.int .i64 0)).setBlk (k := 3) 2 rfl (.int .i64 0)).front3
      have HX3 := Lib.hid (Mm.sep_eq HX2.out (us := [Mm.tblk g6 38 [.slice A2 n2 c2, .slice A3 n3 c3, .int .i64 y0.Gone, .int .i64 y0.Total], Mm.tsl Mm.str 9 y0.Names (.slice A2 n2 c2) f2, Mm.tsl Mm.int 3 y0.Counts (.slice A3 n3 c3) f3, Mm.tblk w.heap.size 38 [.slice none 0 0, .slice none 0 0, .int .i64 0, .int .i64 0]]) (by rw [HY0.out]; rfl))
      clear HX2
      go_wp2
      clear p0 p1 p2 p3 s0 s1 s2 s3
      go_loopg [25] nl (fun g i wx => ∃ (k : Nat) (cur : Heavy) (A2 A3 : Option Addr) (n2 c2 n3 c3 : Nat) (f2 f3 : List Nat), nl - k ≤ g ∧ k ≤ nl ∧ i = .int .i64 k ∧ Hid (Pl.HIn cur k) ∧ Hid (Pl.feedHeavy pn l = Pl.feedFrom cur (l.drop k)) ∧ Hid (Mm.SepF [] w wx [Mm.tblk g6 38 [.slice A2 n2 c2, .slice A3 n3 c3, .int .i64 cur.Gone, .int .i64 cur.Total], Mm.tsl Mm.str 9 cur.Names (.slice A2 n2 c2) f2, Mm.tsl Mm.int 3 cur.Counts (.slice A3 n3 c3) f3, Mm.tblk w.heap.size 38 [.slice none 0 0, .slice none 0 0, .int .i64 0, .int .i64 0]]))
      case atStart => exact ⟨0, y0, A2, A3, n2, c2, n3, c3, f2, f3, Nat.le_refl _, Nat.zero_le _, rfl, HI0.out, HF.out, HX3.out⟩
      case round =>
        obtain ⟨W, rfl⟩ : ∃ W : World, W = wr := ⟨_, rfl⟩
        obtain ⟨k, cur, A2, A3, n2, c2, n3, c3, f2, f3, hgk, hk, rfl, HI, HF, HS⟩ := hrel
        have hbel := HS.out.bel0
        have hsw := hbel.size
        have r0 := HS.out.cell (k := 0) 3 rfl rfl
        have r1 := HS.out.cell (k := 1) 3 rfl rfl
        have r2 := HS.out.cell (k := 2) 3 rfl rfl
        have r3 := HS.out.cell (k := 3) 3 rfl rfl
        have x0 := HS.out.frz (k := 0) 3 rfl
        have x1 := HS.out.frz (k := 1) 3 rfl
        have x2 := HS.out.frz (k := 2) 3 rfl
        have x3 := HS.out.frz (k := 3) 3 rfl
        have q0 := HS.out.cell (k := 0) 0 rfl rfl
        have q1 := HS.out.cell (k := 1) 0 rfl rfl
        have q2 := HS.out.cell (k := 2) 0 rfl rfl
        have q3 := HS.out.cell (k := 3) 0 rfl rfl
        have HJ := Lib.hid (hIn_i64 HI.out (by omega))
        by_cases hlt : k < nl
        · obtain ⟨x, b0, o0, hx, rfl, hb0, bx, e0⟩ := str_get HL.out hlt
          have e0' := below_some hbel e0
          have HD : Hid (l.drop k = x :: l.drop (k + 1)) := by
            show _ = _
            rw [List.drop_eq_getElem_cons (by rw [hlen.out]; exact hlt), (List.getElem?_eq_some_iff.1 hx).2]
          clear hx e0
          cases kk : Pl.word false x.data.toList
          · have HZ : Hid (Pl.feedHeavy pn l = (⟨[], [], 0, 0⟩, false)) := by show _ = _; rw [HF.out, HD.out, Pl.feedFrom, if_neg (by rw [kk]; simp)]
            go_wp2_with (go_at_call 71; refine (isWord_c _ _ _ bx).mono ?_; rintro e w' ⟨rfl, rfl⟩)
            rw [HZ.out]
            exact bodyPost_ret (v := .tuple #[.agg #[.slice none 0 0, .slice none 0 0, .int .i64 0, .int .i64 0], .bool false]) (by simp [results, Try.results25, go_sem, r0, r1, r2, r3]) rfl (hvz_ret _ _ ((((HS.out.setBlk 3 rfl _).setBlk 3 rfl _).setBlk 3 rfl _).setBlk 3 rfl _).bel0)
          · have HNE := Lib.hid (word_ne kk)
            obtain ⟨y, hy⟩ : ∃ y, Pl.hadd cur x = y := ⟨_, rfl⟩
            have HZ : Hid (Pl.feedHeavy pn l = Pl.feedFrom y (l.drop (k + 1))) := by show _ = _; rw [HF.out, HD.out, Pl.feedFrom, if_pos kk, hy]
            have HIY := Lib.hid (feed_in HI.out HNE.out hy)
            have HC := Lib.hid (hvAdd_c cur y x k HI.out (by omega) HNE.out bx hy [] w _ _ g6 A2 A3 n2 c2 n3 c3 f2 f3 HS.out)
            clear hy
            go_wp2_with first
              | (go_at_call 71; refine (isWord_c _ _ _ bx).mono ?_; rintro e w' ⟨rfl, rfl⟩)
              | (go_at_call 73; (with_reducible refine HC.out.mono ?_); rintro e w3 ⟨A4, n4, c4, A5, n5, c5, f4, f5, rfl, hs3⟩; (have HS4 := Lib.hid hs3); clear hs3)
            go_roundg (nl - (k + 1))
            case measure => omega
            case rel => exact ⟨k + 1, y, A4, A5, n4, c4, n5, c5, f4, f5, Nat.le_refl _, by omega, by go_num, HIY.out, HZ.out, HS4.out⟩
        · obtain rfl : k = nl := by omega
          have HZ : Hid (Pl.feedHeavy pn l = (cur, true)) := by show _ = _; rw [HF.out, List.drop_of_length_le (by rw [hlen.out]; exact Nat.le_refl _)]; rfl
          go_wp2
          rw [HZ.out]
          have HS6 := Lib.hid (((((HS.out.setBlk (k := 0) 3 rfl (.slice A2 n2 c2)).setBlk (k := 1) 3 rfl (.slice A3 n3 c3)).setBlk (k := 2) 3 rfl (.int .i64 cur.Gone)).setBlk (k := 3) 3 rfl (.int .i64 cur.Total))).tail
          exact bodyPost_ret (v := .tuple #[.agg #[.slice A2 n2 c2, .slice A3 n3 c3, .int .i64 cur.Gone, .int .i64 cur.Total], .bool true]) (by simp [results, Try.results25, go_sem, r0, r1, r2, r3]) rfl (hv_ret HS6.out rfl rfl HJ.out.1 HJ.out.2)
    · have HF : Hid (Pl.feedHeavy pn l = (⟨[], [], 0, 0⟩, false)) := if_neg (by rw [hlen.out]; exact fun h => h200 h.2)
      rw [HF.out]
      have h200' : (200 : Int) < (nl : Int) := by omega
      go_enter Try.func25, Try.ntmps25
      go_wp2_with (go_at_call 78; refine (within_c _ _ _ _).mono ?_; rintro e w' ⟨rfl, rfl⟩)
      exact bodyPost_ret (v := .tuple #[.agg #[.slice none 0 0, .slice none 0 0, .int .i64 0, .int .i64 0], .bool false]) (by simp [results, Try.results25, go_sem]) rfl (hvz_ret _ _ (below_new (Below.refl _ _) _))
end Go.Proofs.Ytjmcbggdckfefaa
