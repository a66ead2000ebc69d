/-
  Joined texts, in build order: Ja, Jb, Jc, Je, Jj, Jk, Jl, K6. Each part says what it proves; no conditions beyond those that a part names.
-/
import Derived.Test.YtbhmdnjammnlnaaGreatDoorZ02
import Derived.Test.YtbhmdnjammnlnaaGreatDoorZ04
import Derived.Deep.LoopGhost
set_option linter.unusedVariables false
set_option linter.unusedSimpArgs false
namespace Go.Proofs.YtbhmdnjammnlnaaGreatDoor
open Go.RowKit
attribute [local go_sem] und_cell cha_cell World.cell?_alloc_some
def Mm.encIJ (n : Int) : List Value := [.int .i64 n]
theorem Mm.flatA_ij : Mm.Flat Mm.int Mm.encIJ := Mm.flat_int
theorem Tryz.info_clIJ : (Tryz.prog.info? 3).map (fun i => (i.zero, i.size, i.bytes)) = some (some (.int .i64 0), 1, 8) := by kernel_rfl
set_option maxRecDepth 100000 in
set_option maxHeartbeats 1000000 in
theorem clIJ_c (l : List Int) (A : Option Addr) (n c : Nat) (w : World) (B : Nat) (hl : Mm.SlAt Mm.int w B l A n c) (hn : n ≤ 1048576) :
    Calls Tryz.prog 171 #[.slice A n c] w (Mm.NewSl Mm.int 3 w l) := by
  have hlen := Lib.hid hl.1
  have hcap := hl.2.1
  have hq : ∀ (w : World) (a : Option Addr) (n c n' c' : Nat), (binOp .eql 133 (.slice a n c) (.slice none n' c')).run Tryz.prog w = .ok (.bool a.isNone) w := fun w a n c n' c' => Lib.run_eql_slice_nil w _ _ a n c n' c' Tryz.underlying133
  cases A with
  | none =>
    have hc : c = 0 := hl.2.2.2.1 rfl
    have hl0 : l = [] := List.length_eq_zero_iff.1 (by rw [hlen.out]; omega)
    subst hl0
    clear hl
    go_enter Tryz.func171, Tryz.ntmps171
    go_wp2
    go_ret
    exact (Mm.Acc.nil (Below.refl _ _)).newsl
  | some a =>
    have HC := Lib.hid (Mm.flat_cells' (E := Mm.int) (enc := Mm.encIJ) (fun x cs h => (Mm.flatA_ij).at_ h) hl)
    have HLN := Lib.hid (Mm.flat_len (E := Mm.int) (enc := Mm.encIJ) (fun x cs h => (Mm.flatA_ij).at_ h) hl)
    have HOK : Hid (∀ (w' : World) x, x ∈ l → (Mm.int).own w' x ((Mm.encIJ) x) []) := fun w' x hx => by
      obtain ⟨i, hi, rfl⟩ := List.mem_iff_getElem.1 hx
      obtain ⟨y, b, off, cs, hy, _, _, ha, _⟩ := hl.get (k := i) (by rw [← hlen.out]; exact hi)
      rw [List.getElem?_eq_getElem hi] at hy
      injection hy with hy
      subst hy
      exact (Mm.flatA_ij).own ha w'
    have H1 : Hid (∀ u : Value, u ∈ l.flatMap Mm.encIJ → u.oneCell' = true) := fun u hu => by
      obtain ⟨x, hx, hu⟩ := List.mem_flatMap.1 hu
      exact (Mm.int).one (HOK.out w x hx) u hu
    clear hl
    obtain ⟨i0, hi, hz0, hz1, hz2⟩ := info_parts Tryz.info_clIJ
    go_enter Tryz.func171, Tryz.ntmps171
    go_wp2_with (at_builtin; refine wpList_append_own_at _ rfl _ _ 133 rfl w.heap.size 3 i0 (.int .i64 0) 1 8 Tryz.underlying133 hi hz0 hz1 hz2 rfl (by decide) _ _ _ rfl (World.ownsRow_made w #[] 0 (Nat.le_refl _) (Nat.zero_le _) rfl) a n c (l.flatMap Mm.encIJ) rfl HLN.out (fun j u hj => Lib.cell?_alloc_some _ (HC.out j u hj)) H1.out (by unfold maxLen; omega) (by omega) (by simp) ?_; intro v' w1 hown hgrow hnil hat)
    have HA := Lib.hid (Mm.clone_post (E := Mm.int) (e := 3) (Nat.zero_add _) (List.nil_append _) hown hgrow (fun x hx => HOK.out _ x hx) hlen.out)
    clear hown hgrow hat hnil
    go_wp2
    go_ret
    exact HA.out.newsl
theorem Tryz.infoPcJ : (Tryz.prog.info? 164).map (fun i => (i.zero, i.size, i.bytes)) = some (some (.agg #[.int .i64 0, .string ⟨#[]⟩, .slice none 0 0]), 3, 48) := by kernel_rfl
def gPcA (x : Piece) : Mm.Rel := fun _ _ v ds => ∃ A n c f, v = .agg #[.int .i64 x.From, .string x.Bytes, .slice A n c] ∧ ds = [Mm.tow rPiece x [.int .i64 x.From, .string x.Bytes, .slice A n c] f]
theorem gPcA_in {x : Piece} {vals : List Value} {tk : List Mm.Thing} : ∃ v ds, gPcA x vals tk v ds := ⟨_, _, none, 0, 0, [], rfl, rfl⟩
def gPcE (x : Piece) : Mm.Rel := fun _ _ v ds => ∃ g A n c f, v = .slice (some ⟨g, 0, none⟩) 1 1 ∧ ds = [Mm.tblk g 164 [.int .i64 x.From, .string x.Bytes, .slice A n c], Mm.tow rPiece x [.int .i64 x.From, .string x.Bytes, .slice A n c] f]
theorem gPcE_in {x : Piece} {vals : List Value} {tk : List Mm.Thing} : ∃ v ds, gPcE x vals tk v ds := ⟨_, _, 0, none, 0, 0, [], rfl, rfl⟩
structure Pl.LS (g : Log) : Prop where
  len : g.Pieces.length ≤ 30
  ix : ∀ p, p ∈ g.Pieces → p.Index.length ≤ 1000
set_option maxRecDepth 100000 in
set_option maxHeartbeats 4000000 in
theorem cloneLog_c (h : Log) (cs : List Value) (w : World) (B : Nat) (hh : rLog.at_ w B h cs) (hB : B ≤ w.heap.size) (hw : Pl.LS h) :
    Calls Tryz.prog 133 #[.agg cs.toArray] w (Mm.NewAg rLog w h) := by
  obtain ⟨A0, n0, c0, rfl, r0, io⟩ := rLog_at hh
  have g0 := r0.1
  have hn0 : n0 ≤ 30 := by have := hw.len; omega
  have HW := Lib.hid hw
  have G0 := Lib.hid g0
  have R0 := Lib.hid r0
  have IO := Lib.hid io
  have HBW := Lib.hid hB
  obtain ⟨iR, qR, qR0, qR1, qR2⟩ := info_parts Tryz.infoPcJ
  obtain ⟨iS, qS, qS0, qS1, qS2⟩ := info_parts Tryz.infoI5
  clear hh r0 hw g0 io
  obtain ⟨ga, hga⟩ : ∃ g, w.heap.size = g := ⟨_, rfl⟩
  obtain ⟨gc, hgc⟩ : ∃ g, ga + 1 = g := ⟨_, rfl⟩
  obtain ⟨W0, hW0⟩ : ∃ W, (w.alloc (.cells #[.slice A0 n0 c0, .int .i64 h.Begin] 80)).alloc (.cells #[.slice none 0 0, .int .i64 0] 80) = W := ⟨_, rfl⟩
  have HS := Lib.hid ((((Mm.SepF.start w).alloc' hga 80 [.slice A0 n0 c0, .int .i64 h.Begin]).alloc' (g := gc) (by rw [Mm.sz1, hga, hgc]) 80 [.slice none 0 0, .int .i64 0]).atW hW0)
  go_enter Tryz.func133, Tryz.ntmps133
  go_upto_region 1 with fail
  clear hW0 hga hgc
  have b0 := HS.out.cell (k := 0) 1 rfl rfl
  have b1 := HS.out.cell (k := 1) 1 rfl rfl
  go_upto_region 2 with fail
  clear b0 b1
  obtain ⟨gp, hgp⟩ : ∃ g, W0.heap.size = g := ⟨_, rfl⟩
  obtain ⟨W6, hW6⟩ : ∃ W, W0.alloc (.cells #[.slice none 0 0, .int .i64 h.Begin] 80) = W := ⟨_, rfl⟩
  have HS6 := Lib.hid ((HS.out.alloc' hgp 80 [.slice none 0 0, .int .i64 h.Begin]).atW hW6)
  rw [hW6, hgp]
  clear hW6 hgp HS
  have KS := Lib.hid (HS6.out.add (Below.refl _ _) (t := Mm.tsl rPiece 164 [] (.slice none 0 0) []) Mm.SlOwn.nil List.nodup_nil (fun b hb => by cases hb))
  have b0 := HS6.out.cell (k := 0) 2 rfl rfl
  go_upto_region 3 with fail
  clear b0 HS6
  go_loopg [12] n0 (fun gg i wr => ∃ (k : Nat) (A' : Option Addr) (c' : Nat) (fp : List Nat), n0 - k ≤ gg ∧ k ≤ n0 ∧ i = .int .i64 k ∧ Hid (Mm.SepF [] w wr [Mm.tsl rPiece 164 (h.Pieces.take k) (.slice A' k c') fp, Mm.tblk gp 80 [.slice A' k c', .int .i64 h.Begin], Mm.tblk gc 80 [.slice none 0 0, .int .i64 0], Mm.tblk ga 80 [.slice A0 n0 c0, .int .i64 h.Begin]]))
  case atStart => exact ⟨0, none, 0, [], Nat.le_refl _, Nat.zero_le _, rfl, KS.out⟩
  case round =>
    clear KS
    obtain ⟨k, A', c', fp, hgk, hk', rfl, HS⟩ := hrel
    obtain ⟨W, rfl⟩ : ∃ W : World, W = wr := ⟨_, rfl⟩
    by_cases hlt : k < n0
    · have fc : (k : Int) < (n0 : Nat) := by omega
      obtain ⟨x, b, off, AH, mH, dH, hx, rfl, hb, hfr, hnm, hrd, e0, e1, e2⟩ := rPiece_get (R0.out.keep (w' := W) fun b hb => HS.out.bel0.block b (by have := HBW.out; omega)) hlt
      have HNM := Lib.hid (And.intro hfr hnm)
      have HRD := Lib.hid hrd
      have HNX := Lib.hid (Mm.take_succ_some hx)
      have hmH : mH ≤ 1000 := by have := HW.out.ix x (List.mem_of_getElem? hx); have := hrd.1; omega
      have hlk : (h.Pieces.take k).length = k := by rw [List.length_take]; have := G0.out; omega
      have HLK := Lib.hid hlk
      have hBW : B ≤ W.heap.size := by have := HBW.out; have := HS.out.bel0.size; omega
      clear hx hrd hlk hnm hfr
      go_upto_region 5 with fail
      obtain ⟨gn, hgn⟩ : ∃ g, W.heap.size = g := ⟨_, rfl⟩
      obtain ⟨W1, hW1⟩ : ∃ V, W.alloc (.cells #[.int .i64 x.From, .string x.Bytes, .slice AH mH dH] 164) = V := ⟨_, rfl⟩
      have HS1 := Lib.hid ((HS.out.alloc' hgn 164 [.int .i64 x.From, .string x.Bytes, .slice AH mH dH]).atW hW1)
      have hb1 : Below W.heap.size W W1 := by rw [← hW1]; exact below_new (Below.refl _ _) _
      rw [hW1, hgn]
      have hsz1 : W.heap.size ≤ W1.heap.size := hb1.size
      have HB1 := Lib.hid hb1
      have HRW := Lib.hid (show Mm.SlAt Mm.int W1.drew B x.Index AH mH dH from HRD.out.keep (fun b hb => hb1.block b (by omega)))
      clear hW1 e0 e1 e2 hb1 HS hgn
      have q0 := HS1.out.cell (k := 0) 0 rfl rfl
      have q1 := HS1.out.cell (k := 1) 0 rfl rfl
      have q2 := HS1.out.cell (k := 2) 0 rfl rfl
      have b0 := HS1.out.cell (k := 0) 2 rfl rfl
      have y0 := HS1.out.frz (k := 0) 2 rfl
      have HSL := Lib.hid (HS1.out.sel [1, 0, 2, 3, 4] (by decide) rfl)
      have nG : gp ∉ fp := fun hh => HS1.out.apart (i := 2) (j := 1) rfl rfl (by decide) gp (by simp [Mm.tblk]) hh
      have nN : gn ∉ fp := fun hh => HS1.out.apart (i := 0) (j := 1) rfl rfl (by decide) gn (by simp [Mm.tblk]) hh
      have nB : ∀ b, b < B → b ∉ fp := fun b hb hh => by
        rcases (HS1.out.slnew 1 rfl b hh).1 with h | h
        · cases h
        · have := HBW.out; omega
      have hBW1 : B ≤ W1.heap.size := by omega
      clear y0 HRW
      refine Mm.wp_region_give 13 (fun i => match i with | 8 => some (Mm.gSl Mm.int 3 x.Index) | 9 => some (gPcA x) | 10 => some (gPcE x) | 11 => some (Mm.gSl rPiece 164 (h.Pieces.take k ++ [x])) | _ => none) (fun i => match i with | 9 => [8] | 10 => [9] | 11 => [10, 14] | _ => []) (fun i => match i with | 14 => [Mm.tsl rPiece 164 (h.Pieces.take k) (.slice A' k c') fp] | _ => []) (F := fp) (D := fun w' => ∃ z : Cha fp W1, w' = cha fp W1 z) (fun X us h => Mm.sep_cha h) (by kernel_rfl) (by kernel_rfl) (by kernel_rfl) (Mm.sep_eq ((Mm.SepF.one (Mm.tsl rPiece 164 (h.Pieces.take k) (.slice A' k c') fp) W1 (HSL.out.sl 0 rfl) (HSL.out.ndat (i := 0) rfl)).step (Below.refl _ _).drew) rfl) ?_
      repeat (refine Mm.give_det (by rfl) (by rfl) (by rfl) (fun K hK => ?_); go_big_quiet_op; refine hK _ ?_; clear hK K)
      refine Mm.give_op0 24 (by rfl) rfl (by rfl) (by rfl) (by rfl) (by rfl) Mm.gSl_in (fun others X hX => ?_) ?_
      · go_wp2_with (go_at_call 171; refine (clIJ_c x.Index AH mH dH X B (HRD.out.keep fun b hb => (hX.chg.block b (by omega) (nB b hb)).trans (HB1.out.block b (by omega))) (by omega)).mono ?_; rintro e w5 ⟨A2, m2, c2, fp2, rfl, ho, hnd, hnew, hb5⟩)
        exact Mm.gvq_sl hX hb5 ho hnd hnew rfl rfl
      rintro v ds ⟨A2, m2, c2, fp2, rfl, rfl, -⟩
      simp only [Act.put, List.setIfInBounds_toArray, List.set_cons_succ, List.set_cons_zero]
      repeat (refine Mm.give_det (by rfl) (by rfl) (by rfl) (fun K hK => ?_); go_big_quiet_op; refine hK _ ?_; clear hK K)
      refine Mm.give_op1 25 8 (by rfl) rfl (by rfl) (by rfl) (by rfl) rfl (by rfl) _ rfl gPcA_in (fun others X hX => ?_) ?_
      · go_wp2
        exact ⟨rfl, rfl, _, ⟨A2, m2, c2, fp2, rfl, rfl⟩, hX.toOw (R := rPiece) (x := x) (cs := [.int .i64 x.From, .string x.Bytes, .slice A2 m2 c2]) (fun W hw => rPiece_own_mk HNM.out.1 HNM.out.2 hw)⟩
      rintro v ds ⟨A3, m3, c3, f3, rfl, rfl⟩
      simp only [Act.put, List.setIfInBounds_toArray, List.set_cons_succ, List.set_cons_zero]
      repeat (refine Mm.give_det (by rfl) (by rfl) (by rfl) (fun K hK => ?_); go_big_quiet_op; refine hK _ ?_; clear hK K)
      refine Mm.give_op1 26 9 (by rfl) rfl (by rfl) (by rfl) (by rfl) rfl (by rfl) _ rfl gPcE_in (fun others X hX => ?_) ?_
      · go_wp2
        exact ⟨rfl, rfl, _, ⟨_, A3, m3, c3, f3, rfl, rfl⟩, hX.alloc' rfl 164 [.int .i64 x.From, .string x.Bytes, .slice A3 m3 c3]⟩
      rintro v ds ⟨ge, A4, m4, c4, f4, rfl, rfl⟩
      simp only [Act.put, List.setIfInBounds_toArray, List.set_cons_succ, List.set_cons_zero]
      repeat (refine Mm.give_det (by rfl) (by rfl) (by rfl) (fun K hK => ?_); go_big_quiet_op; refine hK _ ?_; clear hK K)
      refine Mm.give_op2 27 10 14 (by rfl) rfl (by rfl) (by rfl) (by rfl) rfl (by rfl) (by rfl) (by rfl) _ _ rfl rfl Mm.gSl_in (fun others X6 hX6 => Mm.app_gve rfl (.tmp 17) (.tmp 26) 78 rfl 27 rfl (by rfl) iR _ 48 Tryz.underlying78 qR qR0 qR1 qR2 rfl (by decide) rfl rfl HLK.out (by unfold maxLen; omega) (by omega) hX6) ?_
      rintro v ds ⟨Ad, nd, cap, fp', rfl, rfl, hnd⟩
      simp only [Act.put, List.setIfInBounds_toArray, List.set_cons_succ, List.set_cons_zero]
      repeat (refine Mm.give_det (by rfl) (by rfl) (by rfl) (fun K hK => ?_); go_big_quiet_op; refine hK _ ?_; clear hK K)
      refine Mm.give_nil ?_
      rintro X7 hX7
      have hx7 : Mm.SepF fp W1 X7 [Mm.tsl rPiece 164 (h.Pieces.take k ++ [x]) (.slice Ad nd cap) fp'] := Mm.sep_eq hX7 rfl
      obtain rfl : nd = k + 1 := by have h1 := hnd.out; rw [List.length_append, HLK.out] at h1; simpa using h1
      have HS4 := Lib.hid (HSL.out.callSome (us := [Mm.tsl rPiece 164 (h.Pieces.take k) (.slice A' k c') fp]) (rest := _) (by simpa [Mm.tsl] using hx7))
      clear hX7 hnd hx7 b0 q0 q1 q2 HSL HS1
      have b0 := HS4.out.cell (k := 0) 2 rfl rfl
      have y0 := HS4.out.frz (k := 0) 2 rfl
      all_goals
        go_wp2
        go_roundg (n0 - (k + 1))
        case measure => omega
        case rel => exact ⟨k + 1, _, cap, fp', Nat.le_refl _, by omega, by go_num, by rw [HNX.out]; exact (HS4.out.setBlk (k := 0) 2 rfl _).sel ([0, 2, 3, 4]) (by decide) rfl⟩
    · obtain rfl : k = n0 := by omega
      have HE : Hid (h.Pieces.take k = h.Pieces) := Lib.hid (List.take_of_length_le (by have := G0.out; omega))
      rw [HE.out] at HS
      have fc : ¬ ((k : Nat) : Int) < (k : Nat) := by omega
      have b0 := HS.out.cell (k := 0) 1 rfl rfl
      have b1 := HS.out.cell (k := 1) 1 rfl rfl
      have o0 := HS.out.cell (k := 0) 2 rfl rfl
      have o1 := HS.out.cell (k := 1) 2 rfl rfl
      have z0 := HS.out.frz (k := 0) 2 rfl
      have z1 := HS.out.frz (k := 1) 2 rfl
      have HSF := Lib.hid ((HS.out.setBlk (k := 0) 2 rfl (.slice A' k c')).setBlk (k := 1) 2 rfl (.int .i64 h.Begin))
      have u0 := HSF.out.cell (k := 0) 2 rfl rfl
      have u1 := HSF.out.cell (k := 1) 2 rfl rfl
      go_wp2
      exact bodyPost_ret (v := .agg #[.slice A' k c', .int .i64 h.Begin]) (by simp [results, Tryz.results133, go_sem, u0, u1]) rfl ⟨_, fp, rfl, rLog_own_mk (HSF.out.sl 0 rfl) IO.out, HSF.out.ndat (i := 0) rfl, fun b hb => (HSF.out.new b (Mm.SepF.mem (i := 0) rfl hb)).resolve_left (fun h => by cases h), HSF.out.bel0⟩
end Go.Proofs.YtbhmdnjammnlnaaGreatDoor

namespace Go.Proofs.YtbhmdnjammnlnaaGreatDoor
open Go.RowKit
attribute [local go_sem] und_cell cha_cell World.cell?_alloc_some
set_option maxRecDepth 100000 in
set_option maxHeartbeats 4000000 in
theorem l6Own_c (h : Log) (cs : List Value) (w : World) (B : Nat) (hh : rLog.at_ w B h cs) (hB : B ≤ w.heap.size) (hw : Pl.LS h) :
    Calls Tryz.prog 108 #[.agg cs.toArray] w (Mm.NewAg rLog w h) := by
  obtain ⟨A0, n0, c0, rfl, r0, io⟩ := rLog_at hh
  have g0 := r0.1
  have hn0 : n0 ≤ 30 := by have := hw.len; omega
  have HW := Lib.hid hw
  have G0 := Lib.hid g0
  have R0 := Lib.hid r0
  have IO := Lib.hid io
  have HBW := Lib.hid hB
  obtain ⟨iR, qR, qR0, qR1, qR2⟩ := info_parts Tryz.infoPcJ
  obtain ⟨iS, qS, qS0, qS1, qS2⟩ := info_parts Tryz.infoI5
  clear hh r0 hw g0 io
  obtain ⟨ga, hga⟩ : ∃ g, w.heap.size = g := ⟨_, rfl⟩
  obtain ⟨gc, hgc⟩ : ∃ g, ga + 1 = g := ⟨_, rfl⟩
  obtain ⟨W0, hW0⟩ : ∃ W, (w.alloc (.cells #[.slice A0 n0 c0, .int .i64 h.Begin] 80)).alloc (.cells #[.slice none 0 0, .int .i64 0] 80) = W := ⟨_, rfl⟩
  have HS := Lib.hid ((((Mm.SepF.start w).alloc' hga 80 [.slice A0 n0 c0, .int .i64 h.Begin]).alloc' (g := gc) (by rw [Mm.sz1, hga, hgc]) 80 [.slice none 0 0, .int .i64 0]).atW hW0)
  go_enter Tryz.func108, Tryz.ntmps108
  go_upto_region 1 with fail
  clear hW0 hga hgc
  have b0 := HS.out.cell (k := 0) 1 rfl rfl
  have b1 := HS.out.cell (k := 1) 1 rfl rfl
  go_upto_region 2 with fail
  clear b0 b1
  obtain ⟨gp, hgp⟩ : ∃ g, W0.heap.size = g := ⟨_, rfl⟩
  obtain ⟨W6, hW6⟩ : ∃ W, W0.alloc (.cells #[.slice none 0 0, .int .i64 h.Begin] 80) = W := ⟨_, rfl⟩
  have HS6 := Lib.hid ((HS.out.alloc' hgp 80 [.slice none 0 0, .int .i64 h.Begin]).atW hW6)
  rw [hW6, hgp]
  clear hW6 hgp HS
  have KS := Lib.hid (HS6.out.add (Below.refl _ _) (t := Mm.tsl rPiece 164 [] (.slice none 0 0) []) Mm.SlOwn.nil List.nodup_nil (fun b hb => by cases hb))
  have b0 := HS6.out.cell (k := 0) 2 rfl rfl
  go_upto_region 3 with fail
  clear b0 HS6
  go_loopg [12] n0 (fun gg i wr => ∃ (k : Nat) (A' : Option Addr) (c' : Nat) (fp : List Nat), n0 - k ≤ gg ∧ k ≤ n0 ∧ i = .int .i64 k ∧ Hid (Mm.SepF [] w wr [Mm.tsl rPiece 164 (h.Pieces.take k) (.slice A' k c') fp, Mm.tblk gp 80 [.slice A' k c', .int .i64 h.Begin], Mm.tblk gc 80 [.slice none 0 0, .int .i64 0], Mm.tblk ga 80 [.slice A0 n0 c0, .int .i64 h.Begin]]))
  case atStart => exact ⟨0, none, 0, [], Nat.le_refl _, Nat.zero_le _, rfl, KS.out⟩
  case round =>
    clear KS
    obtain ⟨k, A', c', fp, hgk, hk', rfl, HS⟩ := hrel
    obtain ⟨W, rfl⟩ : ∃ W : World, W = wr := ⟨_, rfl⟩
    by_cases hlt : k < n0
    · have fc : (k : Int) < (n0 : Nat) := by omega
      obtain ⟨x, b, off, AH, mH, dH, hx, rfl, hb, hfr, hnm, hrd, e0, e1, e2⟩ := rPiece_get (R0.out.keep (w' := W) fun b hb => HS.out.bel0.block b (by have := HBW.out; omega)) hlt
      have HNM := Lib.hid (And.intro hfr hnm)
      have HRD := Lib.hid hrd
      have HNX := Lib.hid (Mm.take_succ_some hx)
      have hmH : mH ≤ 1000 := by have := HW.out.ix x (List.mem_of_getElem? hx); have := hrd.1; omega
      have hlk : (h.Pieces.take k).length = k := by rw [List.length_take]; have := G0.out; omega
      have HLK := Lib.hid hlk
      have hBW : B ≤ W.heap.size := by have := HBW.out; have := HS.out.bel0.size; omega
      clear hx hrd hlk hnm hfr
      go_upto_region 5 with fail
      obtain ⟨gn, hgn⟩ : ∃ g, W.heap.size = g := ⟨_, rfl⟩
      obtain ⟨W1, hW1⟩ : ∃ V, W.alloc (.cells #[.int .i64 x.From, .string x.Bytes, .slice AH mH dH] 164) = V := ⟨_, rfl⟩
      have HS1 := Lib.hid ((HS.out.alloc' hgn 164 [.int .i64 x.From, .string x.Bytes, .slice AH mH dH]).atW hW1)
      have hb1 : Below W.heap.size W W1 := by rw [← hW1]; exact below_new (Below.refl _ _) _
      rw [hW1, hgn]
      have hsz1 : W.heap.size ≤ W1.heap.size := hb1.size
      have HB1 := Lib.hid hb1
      have HRW := Lib.hid (show Mm.SlAt Mm.int W1.drew B x.Index AH mH dH from HRD.out.keep (fun b hb => hb1.block b (by omega)))
      clear hW1 e0 e1 e2 hb1 HS hgn
      have q0 := HS1.out.cell (k := 0) 0 rfl rfl
      have q1 := HS1.out.cell (k := 1) 0 rfl rfl
      have q2 := HS1.out.cell (k := 2) 0 rfl rfl
      have b0 := HS1.out.cell (k := 0) 2 rfl rfl
      have y0 := HS1.out.frz (k := 0) 2 rfl
      have HSP := Lib.hid HS1.out.toSep
      have HRW2 := Lib.hid (show Mm.SlAt Mm.int (W1.alloc (.cells #[] 3)) B x.Index AH mH dH from HRD.out.keep (fun b hb => (Below.heap_alloc W1 _ b (by omega)).trans (HB1.out.block b (by omega))))
      clear HRW b0 y0 q0 q1
      go_upto_region 6 with (at_builtin; refine Mm.wpList_clone (by rfl) (.tmp 16) (.tmp 18) 133 (by rfl) Mm.flat_int iS _ 8 Tryz.underlying133 qS qS0 qS1 qS2 rfl (by decide) HSP.out (below_new (Below.refl W1.heap.size W1) (.cells #[] 3)) (g := W1.heap.size) (heap_alloc_new W1 _) (Nat.le_refl _) HRW2.out (by unfold maxLen; omega) (by omega) (by rfl) (by rfl) ?_; intro A2 c2 fp2 w1 hs0 hb1; (have HS2 := Lib.hid hs0.toF); (have q2' := HS2.out.cell (k := 2) 1 rfl rfl); (have yq := HS2.out.frz (k := 2) 1 rfl); clear hs0 hb1)
      obtain ⟨W2, hW2⟩ : ∃ W, w1.setCell ⟨gn, 2, none⟩ (.slice A2 mH c2) = W := ⟨_, rfl⟩
      have HS3 := Lib.hid ((HS2.out.setBlk (k := 2) 1 rfl (.slice A2 mH c2)).atW hW2)
      rw [hW2]
      clear hW2 q2 q2' yq HS2 HSP HRW2 HS1
      have q0 := HS3.out.cell (k := 0) 1 rfl rfl
      have q1 := HS3.out.cell (k := 1) 1 rfl rfl
      have q2 := HS3.out.cell (k := 2) 1 rfl rfl
      have b0 := HS3.out.cell (k := 0) 3 rfl rfl
      have y0 := HS3.out.frz (k := 0) 3 rfl
      obtain ⟨l0, ho3, hnext⟩ := HS3.out.push (W2 := W2.alloc (.cells #[.int .i64 x.From, .string x.Bytes, .slice A2 mH c2] 164)) 2 0 (by decide) rfl rfl (below_new (Below.refl _ _) _) (x := x) (cx := [.int .i64 x.From, .string x.Bytes, .slice A2 mH c2]) (fun W h => rPiece_own_mk HNM.out.1 HNM.out.2 h)
      rw [HLK.out] at ho3 hnext
      have HNXT := Lib.hid hnext
      clear hnext
      go_upto_region 7 with (at_builtin; refine wpList_append_lies _ (by rfl) (.tmp 22) (.tmp 24) 78 (by rfl) 0 164 iR _ 3 48 Tryz.underlying78 qR qR0 qR1 qR2 rfl (by omega) (.slice A' k c') k l0 (by rfl) ho3 ⟨W2.heap.size, 0, none⟩ 1 1 [.int .i64 x.From, .string x.Bytes, .slice A2 mH c2] (by rfl) (by rfl) (World.news_of_block (B := W2.heap.size) (cs := #[.int .i64 x.From, .string x.Bytes, .slice A2 mH c2]) (t := 164) (fr := (0, 0)) (heap_alloc_new W2 _)) (by simp [Value.oneCell']) (by omega) (by unfold maxLen; omega) (by omega) (Nat.zero_le _) _ rfl ?_; intro gg cap w4 hown1 hgrow hat hlt'; obtain ⟨fp', hs4⟩ := HNXT.out gg cap w4 hown1 hgrow hat; (have HS4 := Lib.hid hs4); (have b0' := HS4.out.cell (k := 0) 3 rfl rfl); (have y0' := HS4.out.frz (k := 0) 3 rfl); clear hs4 hown1 hgrow hat)
      all_goals
        go_wp2
        go_roundg (n0 - (k + 1))
        case measure => omega
        case rel => exact ⟨k + 1, _, cap, fp', Nat.le_refl _, by omega, by go_num, by rw [HNX.out]; exact (HS4.out.setBlk (k := 0) 3 rfl _).sel ([2, 3, 4, 5]) (by decide) rfl⟩
    · obtain rfl : k = n0 := by omega
      have HE : Hid (h.Pieces.take k = h.Pieces) := Lib.hid (List.take_of_length_le (by have := G0.out; omega))
      rw [HE.out] at HS
      have fc : ¬ ((k : Nat) : Int) < (k : Nat) := by omega
      have b0 := HS.out.cell (k := 0) 1 rfl rfl
      have b1 := HS.out.cell (k := 1) 1 rfl rfl
      have o0 := HS.out.cell (k := 0) 2 rfl rfl
      have o1 := HS.out.cell (k := 1) 2 rfl rfl
      have z0 := HS.out.frz (k := 0) 2 rfl
      have z1 := HS.out.frz (k := 1) 2 rfl
      have HSF := Lib.hid ((HS.out.setBlk (k := 0) 2 rfl (.slice A' k c')).setBlk (k := 1) 2 rfl (.int .i64 h.Begin))
      have u0 := HSF.out.cell (k := 0) 2 rfl rfl
      have u1 := HSF.out.cell (k := 1) 2 rfl rfl
      go_wp2
      exact bodyPost_ret (v := .agg #[.slice A' k c', .int .i64 h.Begin]) (by simp [results, Tryz.results108, go_sem, u0, u1]) rfl ⟨_, fp, rfl, rLog_own_mk (HSF.out.sl 0 rfl) IO.out, HSF.out.ndat (i := 0) rfl, fun b hb => (HSF.out.new b (Mm.SepF.mem (i := 0) rfl hb)).resolve_left (fun h => by cases h), HSF.out.bel0⟩
end Go.Proofs.YtbhmdnjammnlnaaGreatDoor

namespace Go.Proofs.YtbhmdnjammnlnaaGreatDoor
open Go.RowKit
namespace Pl
theorem get_app1 {b t : ByteArray} {k : Nat} (hk : k < b.size) : (b ++ t).data.toList[k]? = b.data.toList[k]? := by
  rw [ByteArray.data_append, Array.toList_append, List.getElem?_append_left (by simpa using hk)]
theorem get_app2 {b t : ByteArray} (k : Nat) : (b ++ t).data.toList[b.size + k]? = t.data.toList[k]? := by
  rw [ByteArray.data_append, Array.toList_append, List.getElem?_append_right (by show b.data.toList.length ≤ _; rw [Array.length_toList]; exact Nat.le_add_right _ _)]
  congr 1
  show b.size + k - b.data.toList.length = k
  rw [Array.length_toList]
  show b.size + k - b.size = k
  omega
theorem recLen_app1 {b t : ByteArray} {k n : Nat} (h : recLen b k = some n) : recLen (b ++ t) k = some n := by
  have hle := (recLen_le h).1
  have hs : (b ++ t).size = b.size + t.size := ByteArray.size_append
  unfold recLen at h ⊢
  rw [get_app1 (by omega)]
  cases hb : b.data.toList[k]? with
  | none => rw [hb] at h; cases h
  | some c =>
    rw [hb] at h
    dsimp only at h ⊢
    split at h
    · rename_i hc
      rw [if_pos ⟨hc.1, hc.2.1, by omega⟩]; exact h
    · cases h
theorem recs_appAt {b t : ByteArray} : ∀ (f k : Nat), b.size ≤ k + f → recsAt (b ++ t) k = recF b f k ++ recsAt (b ++ t) (endF b f k) ∧ endAt (b ++ t) k = endAt (b ++ t) (endF b f k)
  | 0, k, _ => ⟨rfl, rfl⟩
  | f + 1, k, hk => by
    unfold recF endF
    cases hr : recLen b k with
    | none => exact ⟨rfl, rfl⟩
    | some n =>
      obtain ⟨h1, h2⟩ := recsAt_some (recLen_app1 (t := t) hr)
      obtain ⟨h3, h4⟩ := recs_appAt (b := b) (t := t) f (k + 1 + n) (by omega)
      dsimp only
      exact ⟨by rw [h1, h3]; rfl, by rw [h2, h4]⟩
theorem recLen_new {b s : ByteArray} (hs : s.size ≤ 20) : recLen (b ++ rtext s) b.size = some s.size := by
  have h0 : (b ++ rtext s).data.toList[b.size]? = some (vb s.size) := by
    have := get_app2 (b := b) (t := rtext s) 0
    rw [Nat.add_zero] at this
    rw [this]
    unfold rtext vtxt
    rw [ByteArray.data_append, Array.toList_append]
    rfl
  have hv : (vb s.size).toNat = 2 * s.size := by
    have := vb_int s.size hs
    omega
  have hsz : (b ++ rtext s).size = b.size + (s.size + 1) := by rw [ByteArray.size_append, rtext_size]
  have := recLen_yes h0 (by rw [hv, hsz]; omega)
  rw [this, hv]
  congr 1
  omega
theorem recs_app {b s : ByteArray} (hw : whole b = b.size) (hs : s.size ≤ 20) : recs (b ++ rtext s) = recs b ++ [(b.size, s.size)] ∧ whole (b ++ rtext s) = b.size + 1 + s.size := by
  obtain ⟨h1, h2⟩ := recs_appAt (b := b) (t := rtext s) b.size 0 (by omega)
  have hw' : endF b b.size 0 = b.size := hw
  rw [hw'] at h1 h2
  obtain ⟨h3, h4⟩ := recsAt_some (recLen_new (b := b) hs)
  have hsz : (b ++ rtext s).size = b.size + (s.size + 1) := by rw [ByteArray.size_append, rtext_size]
  obtain ⟨h5, h6⟩ := recsAt_none (recLen_end (s := b ++ rtext s) (k := b.size + 1 + s.size) (by omega))
  exact ⟨by show recsAt _ 0 = _; rw [h1, h3, h5]; rfl, by show endAt _ 0 = _; rw [h2, h4, h6]⟩
theorem recTxt_app {b t : ByteArray} {p : Nat × Nat} (h : p.1 + 1 + p.2 ≤ b.size) : recTxt (b ++ t) p = recTxt b p := by
  unfold recTxt
  apply ba_ext
  rw [Lib.extract_data, Lib.extract_data, ByteArray.data_append, Array.toList_append]
  have hl : p.1 + 1 + p.2 ≤ b.data.toList.length := by rw [Array.length_toList]; exact h
  rw [List.drop_append_of_le_length (by omega), List.take_append_of_le_length (by rw [List.length_drop]; omega)]
theorem recTxt_new {b s : ByteArray} : recTxt (b ++ rtext s) (b.size, s.size) = s := by
  unfold recTxt
  apply ba_ext
  rw [Lib.extract_data, ByteArray.data_append, Array.toList_append]
  have hb : b.data.toList.length = b.size := by rw [Array.length_toList]; rfl
  have hr : (rtext s).data.toList = vb s.size :: s.data.toList := by
    unfold rtext vtxt
    rw [ByteArray.data_append, Array.toList_append]
    rfl
  have hs : s.data.toList.length = s.size := by rw [Array.length_toList]; rfl
  rw [hr]
  have e1 : (b.data.toList ++ vb s.size :: s.data.toList).drop (b.size + 1) = s.data.toList := by
    rw [← hb, List.drop_append]
    simp
  show ((b.data.toList ++ vb s.size :: s.data.toList).drop (b.size + 1)).take (b.size + 1 + s.size - (b.size + 1)) = _
  rw [e1]
  exact List.take_of_length_le (by omega)
theorem records_app {b s : ByteArray} (hw : whole b = b.size) (hs : s.size ≤ 20) : records (b ++ rtext s) = records b ++ [s] := by
  unfold records
  rw [(recs_app hw hs).1, List.map_append]
  congr 1
  · exact List.map_congr_left fun p hp => recTxt_app (recLen_le (recs_mem hp)).1
  · rw [List.map_singleton, recTxt_new]
theorem nil_app (s : ByteArray) : (⟨#[]⟩ : ByteArray) ++ s = s := by
  apply ba_ext
  rw [ByteArray.data_append, Array.toList_append]
  rfl
theorem records_one {s : ByteArray} (hs : s.size ≤ 20) : records (rtext s) = [s] ∧ whole (rtext s) = (rtext s).size := by
  have h1 := records_app (b := ⟨#[]⟩) (s := s) rfl hs
  have h2 := (recs_app (b := ⟨#[]⟩) (s := s) rfl hs).2
  rw [nil_app] at h1 h2
  exact ⟨h1, by rw [h2, rtext_size]; show 0 + 1 + s.size = _; omega⟩
theorem pieceOk_of {f : Int} {s : ByteArray} (h1 : s.size ≤ 60) (h2 : whole s = s.size) : pieceOk (pieceOf f s) = true := by
  unfold pieceOk pieceOf
  rw [decide_eq_true h1, decide_eq_true h2, decide_eq_true rfl]
  rfl
theorem pieceOk_whole {p : Piece} (h : pieceOk p = true) : whole p.Bytes = p.Bytes.size ∧ p.Index = idx3 (starts p.Bytes) := by
  unfold pieceOk at h
  simp only [Bool.and_eq_true, decide_eq_true_eq] at h
  exact ⟨h.1.2, h.2⟩
theorem records_ne {s : ByteArray} (hw : whole s = s.size) : (records s).length = 0 ↔ s.size = 0 := by
  constructor
  · intro h
    have h0 : recs s = [] := by
      unfold records at h
      rw [List.length_map] at h
      exact List.length_eq_zero_iff.1 h
    cases hr : recLen s 0 with
    | none =>
      have := (recsAt_none hr).2
      rw [← hw]
      exact this
    | some n =>
      have := (recsAt_some hr).1
      unfold recs at h0
      rw [h0] at this
      cases this
  · intro h
    have := records_len s
    omega
def lastP (ps : List Piece) : Piece := ps.getD (ps.length - 1) ⟨0, ⟨#[]⟩, []⟩
def logOut (g : Log) (s : ByteArray) : Log :=
  if (records (lastP g.Pieces).Bytes).length ≠ 0 ∧ 60 < (lastP g.Pieces).Bytes.size + (s.size + 1) then
    { g with Pieces := g.Pieces ++ [pieceOf ((lastP g.Pieces).From + (records (lastP g.Pieces).Bytes).length) (rtext s)] }
  else { g with Pieces := g.Pieces.set (g.Pieces.length - 1) (pieceOf (lastP g.Pieces).From ((lastP g.Pieces).Bytes ++ rtext s)) }
theorem lastP_get {ps : List Piece} (h : 1 ≤ ps.length) : ps[ps.length - 1]? = some (lastP ps) := by
  unfold lastP
  rw [List.getD_eq_getElem?_getD, List.getElem?_eq_getElem (by omega)]
  rfl
theorem lRecs_append (a b : List Piece) : lRecs (a ++ b) = lRecs a ++ lRecs b := by unfold lRecs; rw [List.flatMap_append]
theorem split_last {ps : List Piece} (h : 1 ≤ ps.length) : ps = ps.take (ps.length - 1) ++ [lastP ps] := by
  have := Mm.take_succ_some (lastP_get h)
  rw [show ps.length - 1 + 1 = ps.length by omega, List.take_length] at this
  exact this
theorem set_last {ps : List Piece} (h : 1 ≤ ps.length) (q : Piece) : ps.set (ps.length - 1) q = ps.take (ps.length - 1) ++ [q] := by
  apply List.ext_getElem?
  intro i
  by_cases hi : i = ps.length - 1
  · subst hi
    rw [List.getElem?_set_self (by omega), List.getElem?_append_right (by rw [List.length_take]; omega), List.length_take]
    rw [show ps.length - 1 - min (ps.length - 1) ps.length = 0 by omega]
    rfl
  · rw [List.getElem?_set_ne (fun e => hi e.symm)]
    by_cases hlt : i < ps.length - 1
    · rw [List.getElem?_append_left (by rw [List.length_take]; omega), List.getElem?_take_of_lt hlt]
    · rw [List.getElem?_eq_none (by omega), List.getElem?_eq_none (by rw [List.length_append, List.length_take]; simp; omega)]
theorem LogOk.last {g : Log} (h : LogOk g) : pieceOk (lastP g.Pieces) = true ∧ (lastP g.Pieces).From = Pl.from0 g.Pieces + ((lRecs (g.Pieces.take (g.Pieces.length - 1))).length : Int) := by
  have := h.pc _ _ (lastP_get h.len.1)
  exact ⟨this.1, this.2.1⟩
theorem from0_take {a b : List Piece} (h : 1 ≤ a.length) : from0 (a ++ b) = from0 a := by
  cases a with
  | nil => simp at h
  | cons p t => rfl
theorem logOut_recs {g : Log} {s : ByteArray} (h : LogOk g) (hs : s.size ≤ 20) : lRecs (logOut g s).Pieces = lRecs g.Pieces ++ [s] := by
  have hw := (pieceOk_whole h.last.1).1
  unfold logOut
  split
  · show lRecs (_ ++ [_]) = _
    rw [lRecs_append]
    congr 1
    unfold lRecs
    rw [List.flatMap_cons, List.flatMap_nil, List.append_nil]
    exact (records_one hs).1
  · show lRecs (g.Pieces.set _ _) = _
    rw [set_last h.len.1, lRecs_append]
    conv => rhs; rw [split_last h.len.1, lRecs_append]
    rw [List.append_assoc]
    congr 1
    unfold lRecs
    rw [List.flatMap_cons, List.flatMap_nil, List.append_nil, List.flatMap_cons, List.flatMap_nil, List.append_nil]
    exact records_app hw hs
theorem logOut_bg (g : Log) (s : ByteArray) : (logOut g s).Begin = g.Begin := by unfold logOut; split <;> rfl
theorem logOut_ok {g : Log} {s : ByteArray} (h : LogOk g) (hs : s.size ≤ 20) : LogOk (logOut g s) ↔ (lRecs g.Pieces).length ≠ 60 ∧ ¬ ((records (lastP g.Pieces).Bytes).length ≠ 0 ∧ 60 < (lastP g.Pieces).Bytes.size + (s.size + 1) ∧ g.Pieces.length = 20) := by
  have hr := logOut_recs h hs
  have hlast := h.last
  have hw := (pieceOk_whole hlast.1).1
  have h1 := h.len.1
  constructor
  · intro k
    refine ⟨fun e => ?_, fun e => ?_⟩
    · have := k.sum
      rw [hr, List.length_append, e] at this
      simp at this
    · have := k.len.2
      unfold logOut at this
      rw [if_pos ⟨e.1, e.2.1⟩] at this
      simp only [List.length_append, List.length_singleton] at this
      omega
  · rintro ⟨k1, k2⟩
    have hsum : (lRecs (logOut g s).Pieces).length ≤ 60 := by
      rw [hr, List.length_append]
      have := h.sum
      simp only [List.length_singleton]
      omega
    have hbg := h.bg
    by_cases hc : (records (lastP g.Pieces).Bytes).length ≠ 0 ∧ 60 < (lastP g.Pieces).Bytes.size + (s.size + 1)
    · have e : logOut g s = { g with Pieces := g.Pieces ++ [pieceOf ((lastP g.Pieces).From + (records (lastP g.Pieces).Bytes).length) (rtext s)] } := by unfold logOut; rw [if_pos hc]
      have hf0 : from0 (logOut g s).Pieces = from0 g.Pieces := by rw [e]; exact from0_take h1
      have hone := records_one hs
      have hlen : (logOut g s).Pieces.length = g.Pieces.length + 1 := by rw [e]; simp
      refine ⟨by rw [hlen]; have := h.len.2; omega, by rw [hf0]; exact h.from0, fun i p hp => ?_, hsum, by rw [hf0, logOut_bg, hr, List.length_append]; simp only [List.length_singleton]; omega⟩
      have hps : (logOut g s).Pieces = g.Pieces ++ [pieceOf ((lastP g.Pieces).From + (records (lastP g.Pieces).Bytes).length) (rtext s)] := by rw [e]
      unfold PcOk
      rw [hf0, hlen]
      rw [hps] at hp ⊢
      by_cases hi : i < g.Pieces.length
      · rw [List.getElem?_append_left hi] at hp
        have := h.pc i p hp
        refine ⟨this.1, ?_, fun _ => ?_⟩
        · rw [List.take_append_of_le_length (by omega)]; exact this.2.1
        · by_cases hl : i + 1 < g.Pieces.length
          · exact this.2.2 hl
          · have : i = g.Pieces.length - 1 := by omega
            subst this
            rw [lastP_get h1] at hp
            injection hp with hp
            subst hp
            exact fun e0 => hc.1 ((records_ne hw).2 e0)
      · have hi' : i = g.Pieces.length := by
          have := (List.getElem?_eq_some_iff.1 hp).1
          simp at this; omega
        subst hi'
        rw [List.getElem?_append_right (Nat.le_refl _), Nat.sub_self] at hp
        simp only [List.getElem?_cons_zero, Option.some.injEq] at hp
        subst hp
        refine ⟨pieceOk_of (by rw [rtext_size]; omega) hone.2, ?_, fun hh => absurd hh (by omega)⟩
        rw [List.take_append_of_le_length (Nat.le_refl _), List.take_length]
        show (lastP g.Pieces).From + _ = _
        rw [hlast.2]
        have : (lRecs g.Pieces).length = (lRecs (g.Pieces.take (g.Pieces.length - 1))).length + (records (lastP g.Pieces).Bytes).length := by
          conv => lhs; rw [split_last h1, lRecs_append]
          rw [List.length_append]
          unfold lRecs
          rw [List.flatMap_cons, List.flatMap_nil, List.append_nil]
        omega
    · have e : logOut g s = { g with Pieces := g.Pieces.set (g.Pieces.length - 1) (pieceOf (lastP g.Pieces).From ((lastP g.Pieces).Bytes ++ rtext s)) } := by unfold logOut; rw [if_neg hc]
      have hps : (logOut g s).Pieces = g.Pieces.take (g.Pieces.length - 1) ++ [pieceOf (lastP g.Pieces).From ((lastP g.Pieces).Bytes ++ rtext s)] := by rw [e]; exact set_last h1 _
      have hlen : (logOut g s).Pieces.length = g.Pieces.length := by rw [e]; simp
      have happ := recs_app hw hs
      have hsz : ((lastP g.Pieces).Bytes ++ rtext s).size = (lastP g.Pieces).Bytes.size + (s.size + 1) := by rw [ByteArray.size_append, rtext_size]
      have h60 : (lastP g.Pieces).Bytes.size + (s.size + 1) ≤ 60 := by
        by_cases h0 : (records (lastP g.Pieces).Bytes).length = 0
        · have := (records_ne hw).1 h0; omega
        · omega
      have hf0 : from0 (logOut g s).Pieces = from0 g.Pieces := by
        by_cases h2 : 2 ≤ g.Pieces.length
        · rw [hps, from0_take (by rw [List.length_take]; omega)]
          have := from0_take (a := g.Pieces.take (g.Pieces.length - 1)) (b := [lastP g.Pieces]) (by rw [List.length_take]; omega)
          rw [← split_last h1] at this
          exact this.symm
        · have h3 : g.Pieces.length - 1 = 0 := by omega
          rw [hps, h3, List.take_zero, List.nil_append]
          show (lastP g.Pieces).From = _
          have := lastP_get h1
          rw [h3] at this
          exact (from0_get this).symm
      refine ⟨by rw [hlen]; exact h.len, by rw [hf0]; exact h.from0, fun i p hp => ?_, hsum, by rw [hf0, logOut_bg, hr, List.length_append]; simp only [List.length_singleton]; omega⟩
      unfold PcOk
      rw [hf0, hlen]
      have htl : (g.Pieces.take (g.Pieces.length - 1)).length = g.Pieces.length - 1 := by rw [List.length_take]; omega
      rw [hps] at hp ⊢
      by_cases hi : i < g.Pieces.length - 1
      · rw [List.getElem?_append_left (by rw [htl]; exact hi), List.getElem?_take_of_lt hi] at hp
        have := h.pc i p hp
        refine ⟨this.1, ?_, this.2.2⟩
        rw [List.take_append_of_le_length (by rw [htl]; omega), List.take_take, Nat.min_eq_left (by omega)]
        exact this.2.1
      · have hi' : i = g.Pieces.length - 1 := by
          have := (List.getElem?_eq_some_iff.1 hp).1
          simp only [List.length_append, htl, List.length_singleton] at this
          omega
        subst hi'
        rw [List.getElem?_append_right (by rw [htl]; exact Nat.le_refl _), htl, Nat.sub_self] at hp
        simp only [List.getElem?_cons_zero, Option.some.injEq] at hp
        subst hp
        refine ⟨pieceOk_of (by omega) (by rw [happ.2, hsz]; omega), ?_, fun hh => absurd hh (by omega)⟩
        have e2 : (g.Pieces.take (g.Pieces.length - 1) ++ [pieceOf (lastP g.Pieces).From ((lastP g.Pieces).Bytes ++ rtext s)]).take (g.Pieces.length - 1) = g.Pieces.take (g.Pieces.length - 1) := by
          rw [List.take_append_of_le_length (by rw [htl]; exact Nat.le_refl _), List.take_of_length_le (by rw [htl]; exact Nat.le_refl _)]
        rw [e2]
        exact hlast.2
end Pl
end Go.Proofs.YtbhmdnjammnlnaaGreatDoor

namespace Go.Proofs.YtbhmdnjammnlnaaGreatDoor
open Go.RowKit
attribute [local go_sem] und_cell cha_cell World.cell?_alloc_some
theorem BoolAns.get {P : Prop} {w w' : World} {e : Ending} (h : BoolAns P w e w') : (P → e = .returned (.bool true)) ∧ (¬ P → e = .returned (.bool false)) ∧ Below w.heap.size w w' := by
  obtain ⟨b, rfl, h1, h2⟩ := h
  refine ⟨fun hp => by rw [h1.2 hp], fun hp => ?_, h2⟩
  cases b
  · rfl
  · exact absurd (h1.1 rfl) hp
def Pl.appOk (g : Log) (s : ByteArray) : Bool := decide (s.size ≤ 20) && decide ((Pl.lRecs g.Pieces).length ≠ 60) && !(decide ((Pl.records (Pl.lastP g.Pieces).Bytes).length ≠ 0) && decide (60 < (Pl.lastP g.Pieces).Bytes.size + (s.size + 1)) && decide (g.Pieces.length = 20))
def Pl.appL (g : Log) (s : ByteArray) : Log × Bool := if Pl.appOk g s = true then (Pl.logOut g s, true) else (⟨[], 0⟩, false)
theorem Pl.appOk_iff {g : Log} {s : ByteArray} (h : Pl.LogOk g) : Pl.appOk g s = true ↔ s.size ≤ 20 ∧ Pl.LogOk (Pl.logOut g s) := by
  unfold Pl.appOk
  constructor
  · intro k
    simp only [Bool.and_eq_true, decide_eq_true_eq] at k
    refine ⟨k.1.1, (Pl.logOut_ok h k.1.1).2 ⟨k.1.2, fun e => ?_⟩⟩
    have := k.2
    rw [decide_eq_true e.1, decide_eq_true e.2.1, decide_eq_true e.2.2] at this
    cases this
  · rintro ⟨k1, k2⟩
    obtain ⟨k3, k4⟩ := (Pl.logOut_ok h k1).1 k2
    rw [decide_eq_true k1, decide_eq_true k3, Bool.true_and, Bool.true_and]
    cases hb : (decide ((Pl.records (Pl.lastP g.Pieces).Bytes).length ≠ 0) && decide (60 < (Pl.lastP g.Pieces).Bytes.size + (s.size + 1)) && decide (g.Pieces.length = 20))
    · rfl
    · simp only [Bool.and_eq_true, decide_eq_true_eq] at hb
      exact absurd ⟨hb.1.1, hb.1.2, hb.2⟩ k4
theorem Pl.LogOk.ls {g : Log} (h : Pl.LogOk g) : Pl.LS g := ⟨by have := h.len.2; omega, fun p hp => by
  obtain ⟨i, hi⟩ := List.getElem?_of_mem hp
  have hk := (h.pc i p hi).1
  have h1 := (Pl.pieceOk_whole hk).2
  have h2 := Pl.pieceOk_size hk
  rw [h1]
  have h3 := Pl.idx3_len (Pl.starts p.Bytes)
  have h4 : (Pl.starts p.Bytes).length = (Pl.recs p.Bytes).length := by unfold Pl.starts; rw [List.length_map]
  have h5 := Pl.recs_len p.Bytes
  omega⟩
theorem rLog0_own (w : World) : rLog.own w ⟨[], 0⟩ [.slice none 0 0, .int .i64 0] [] := rLog_own_mk (x := ⟨[], 0⟩) Mm.SlOwn.nil (by show Mm.I64 0; unfold Mm.I64; omega)
theorem log0_ret {w w' : World} (h : Below w.heap.size w w') : Mm.Ret2 rLog w ⟨[], 0⟩ false (.returned (.tuple #[.agg #[.slice none 0 0, .int .i64 0], .bool false])) w' :=
  ⟨[.slice none 0 0, .int .i64 0], [], rfl, rLog0_own w', List.nodup_nil, (fun b hb => by cases hb), h⟩
theorem setC_commJ (w : World) (g i j : Nat) (u v : Value) (h : i ≠ j) : (w.setCell ⟨g, i, none⟩ u).setCell ⟨g, j, none⟩ v = (w.setCell ⟨g, j, none⟩ v).setCell ⟨g, i, none⟩ u := by
  unfold World.setCell
  congr 1
  apply Array.ext
  · simp
  intro k h1 h2
  simp only [Array.getElem_modify]
  by_cases hk : g = k
  · simp only [hk, if_true]
    cases w.heap[k]'(by simpa using h1) with
    | cells c e f =>
      simp only [Option.isSome_none, Bool.false_eq_true, if_false]
      congr 1
      exact Array.setIfInBounds_comm _ _ h
    | _ => rfl
  · simp [hk]
theorem putPiece {F : List Nat} {w0 W X : World} {ts : List Mm.Thing} {xs : List Piece} {fp f : List Nat} {gl n c k : Nat} {x y : Piece} {A : Option Addr} {n' c' : Nat} (h : Mm.SepF F w0 W ts) (i : Nat) (hi : ts[i]? = some (Mm.tsl rPiece 164 xs (.slice (some ⟨gl, 0, none⟩) n c) fp)) (hk : xs[k]? = some x)
    (hX : Mm.SepF [] W X [Mm.tow rPiece y [.int .i64 y.From, .string y.Bytes, .slice A n' c'] f]) :
    ∃ fp', Mm.SepF F w0 (((X.setCell ⟨gl, k * 3, none⟩ (.int .i64 y.From)).setCell ⟨gl, k * 3 + 1, none⟩ (.string y.Bytes)).setCell ⟨gl, k * 3 + 2, none⟩ (.slice A n' c')) (ts.set i (Mm.tsl rPiece 164 (xs.set k y) (.slice (some ⟨gl, 0, none⟩) n c) fp')) := by
  have hy : rPiece.own X y _ f := hX.at_ 0 rfl
  have hyx := rPiece_own hy
  obtain ⟨A1, n1, c1, f1, h1, rfl, g0, g1, g2⟩ := hyx
  simp only [List.cons.injEq, Value.slice.injEq, and_true, true_and] at h1
  obtain ⟨rfl, rfl, rfl⟩ := h1
  obtain ⟨cs, fx, ho, hfn, hfs, hc, hnext⟩ := h.swap i hi hk
  obtain ⟨A2, n2, c2, f2, rfl, rfl, q0, q1, q2⟩ := rPiece_own ho
  have hnew : ∀ b, b ∈ f → b ∈ fx ∨ W.heap.size ≤ b := fun b hb => .inr ((hX.new b (by simpa [Mm.tow] using hb)).resolve_left (fun h => by cases h))
  obtain ⟨fp1, hs1⟩ := hnext X ⟨x.From, x.Bytes, y.Index⟩ 2 (.slice A n' c') f (hX.chg.more (fun b hb => by cases hb)) (by decide) (rPiece_own_mk (x := ⟨x.From, x.Bytes, y.Index⟩) q0 q1 g2) (by simpa [Mm.tow] using hX.nd) hnew
  rw [show k * rPiece.size + 2 = k * 3 + 2 from rfl] at hs1
  have hlt := (List.getElem?_eq_some_iff.1 hk).1
  have hil := (List.getElem?_eq_some_iff.1 hi).1
  have hs2 := hs1.putSl (k := k) (m := 0) (u := .int .i64 y.From) (x := ⟨x.From, x.Bytes, y.Index⟩) (x' := ⟨y.From, x.Bytes, y.Index⟩) i (List.getElem?_set_self hil) (List.getElem?_set_self hlt) (by decide) (fun cs fx ho => by
    obtain ⟨A9, n9, c9, f9, rfl, rfl, r0, r1, r2⟩ := rPiece_own ho
    exact rPiece_own_mk (x := ⟨y.From, x.Bytes, y.Index⟩) g0 r1 r2)
  have hs3 := hs2.putSl (k := k) (m := 1) (u := .string y.Bytes) (x := ⟨y.From, x.Bytes, y.Index⟩) (x' := ⟨y.From, y.Bytes, y.Index⟩) i (List.getElem?_set_self (by simpa using hil)) (List.getElem?_set_self (by simpa using hlt)) (by decide) (fun cs fx ho => by
    obtain ⟨A9, n9, c9, f9, rfl, rfl, r0, r1, r2⟩ := rPiece_own ho
    exact rPiece_own_mk (x := ⟨y.From, y.Bytes, y.Index⟩) r0 g1 r2)
  rw [show k * rPiece.size + 0 = k * 3 from rfl, show k * rPiece.size + 1 = k * 3 + 1 from rfl] at hs3
  rw [setC_commJ _ _ _ _ _ _ (show k * 3 + 2 ≠ k * 3 by omega), setC_commJ _ _ _ _ _ _ (show k * 3 + 2 ≠ k * 3 + 1 by omega)] at hs3
  rw [List.set_set, List.set_set, List.set_set, List.set_set] at hs3
  exact ⟨_, hs3⟩
def gPass (x : Value) : Mm.Rel := fun _ tk v ds => v = x ∧ ds = tk
def gPcP (x : Piece) : Mm.Rel := fun _ tk v ds => ∃ A n c f, v = .agg #[.int .i64 x.From, .string x.Bytes, .slice A n c] ∧ ds = Mm.tow rPiece x [.int .i64 x.From, .string x.Bytes, .slice A n c] f :: tk
theorem gPcP_in {x : Piece} {vals : List Value} {tk : List Mm.Thing} : ∃ v ds, gPcP x vals tk v ds := ⟨_, _, none, 0, 0, [], rfl, rfl⟩
def aggCs : List Value → List Value
  | [.agg a] => a.toList
  | _ => []
def gPcQ : Mm.Rel := fun vals tk v ds => ∃ g, v = .slice (some ⟨g, 0, none⟩) 1 1 ∧ ds = Mm.tblk g 164 (aggCs vals) :: tk
theorem gPcQ_in {vals : List Value} {tk : List Mm.Thing} : ∃ v ds, gPcQ vals tk v ds := ⟨_, _, 0, rfl, rfl⟩
set_option maxRecDepth 100000 in
set_option maxHeartbeats 4000000 in
theorem appendLog_c (g : Log) (s : ByteArray) (cs : List Value) (w : World) (B : Nat) (hh : rLog.at_ w B g cs) (hB : B ≤ w.heap.size) (hg : Pl.LogOk g) (hs : s.size ≤ 1000) :
    Calls Tryz.prog 110 #[.agg cs.toArray, .string s] w (Mm.Ret2 rLog w (Pl.appL g s).1 (Pl.appL g s).2) := by
  have HH := Lib.hid hh
  obtain ⟨A0, n0, c0, rfl, r0, io⟩ := rLog_at hh
  have hn0 : n0 = g.Pieces.length := r0.1.symm
  have hn20 : n0 ≤ 20 := by have := hg.len.2; omega
  have hn1 : 1 ≤ n0 := by have := hg.len.1; omega
  have HN0 := Lib.hid hn0
  have R0 := Lib.hid r0
  have IO := Lib.hid io
  have HG := Lib.hid hg
  clear hh r0 io hg
  obtain ⟨m, hm⟩ : ∃ m, n0 = m + 1 := ⟨n0 - 1, by omega⟩
  clear hn0 HN0
  subst hm
  have HN0 : Hid (m + 1 = g.Pieces.length) := R0.out.1.symm
  obtain ⟨ga, hga⟩ : ∃ g, w.heap.size = g := ⟨_, rfl⟩
  obtain ⟨gz, hgz⟩ : ∃ g, ga + 1 = g := ⟨_, rfl⟩
  obtain ⟨W0, hW0⟩ : ∃ W, (w.alloc (.cells #[.slice A0 (m + 1) c0, .int .i64 g.Begin] 80)).alloc (.cells #[.slice none 0 0, .int .i64 0] 80) = W := ⟨_, rfl⟩
  have KS0 := Lib.hid ((((Mm.SepF.start w).alloc' hga 80 [.slice A0 (m + 1) c0, .int .i64 g.Begin]).alloc' (g := gz) (by rw [Mm.sz1, hga, hgz]) 80 [.slice none 0 0, .int .i64 0]).atW hW0)
  go_enter Tryz.func110, Tryz.ntmps110
  go_upto_region 1 with fail
  clear hW0 hga hgz
  have b0 := KS0.out.cell (k := 0) 1 rfl rfl
  have b1 := KS0.out.cell (k := 1) 1 rfl rfl
  have CL := isLog_c g.Pieces g.Begin A0 (m + 1) c0 W0 B (R0.out.keep fun b hb => KS0.out.bel0.block b (by omega)) (by have := KS0.out.bel0.size; omega) IO.out
  go_wp2_with fail
  refine CL.mono ?_
  rintro e w1 hans
  obtain ⟨hy, -, hb1⟩ := hans.get
  obtain rfl := hy HG.out
  obtain ⟨W1, rfl⟩ : ∃ W : World, W = w1 := ⟨_, rfl⟩
  have KS1 := Lib.hid (KS0.out.step hb1)
  clear hans hy hb1 CL KS0 b0 b1
  have b0 := KS1.out.cell (k := 0) 1 rfl rfl
  have b1 := KS1.out.cell (k := 1) 1 rfl rfl
  have z0 := KS1.out.cell (k := 0) 0 rfl rfl
  have z1 := KS1.out.cell (k := 1) 0 rfl rfl
  have y0 := KS1.out.frz (k := 0) 0 rfl
  have y1 := KS1.out.frz (k := 1) 0 rfl
  by_cases hs20 : s.size ≤ 20
  · have hs20' : ¬ ((20 : Int) < (s.size : Nat)) := by omega
    have CC := cloneLog_c g [.slice A0 (m + 1) c0, .int .i64 g.Begin] W1 B (rLog.keep HH.out fun b hb => KS1.out.bel0.block b (by omega)) (by have := KS1.out.bel0.size; omega) HG.out.ls
    go_wp2_with fail
    refine CC.mono ?_
    rintro e w2 ⟨cs2, fp2, rfl, hown, hnd, hnew, hb2⟩
    obtain ⟨A2, n2, c2, f2, rfl, rfl, hso, -⟩ := rLog_own hown
    obtain rfl : n2 = m + 1 := by
      obtain ⟨A', n', c', h1, h2, -⟩ := hso.form
      injection h1 with q1 q2 q3
      rw [q2, h2]; exact HN0.out.symm
    have hac : Mm.Acc rPiece 164 W1 g.Pieces (.slice A2 (m + 1) c2) w2 := ⟨_, hso, hnd, hnew, hb2⟩
    obtain ⟨gl, rfl, -, -⟩ := hac.addr (by have := HN0.out; omega)
    have KS2 := Lib.hid (KS1.out.add hb2 (t := Mm.tsl rPiece 164 g.Pieces (.slice (some ⟨gl, 0, none⟩) (m + 1) c2) _) hso hnd hnew)
    clear hac hown hso hnd hnew hb2 CC KS1 b0 b1 z0 z1 y0 y1
    obtain ⟨W2, rfl⟩ : ∃ W : World, W = w2 := ⟨_, rfl⟩
    obtain ⟨go, hgo⟩ : ∃ g, W2.heap.size = g := ⟨_, rfl⟩
    obtain ⟨W3, hW3⟩ : ∃ W, W2.alloc (.cells #[.slice (some ⟨gl, 0, none⟩) (m + 1) c2, .int .i64 g.Begin] 80) = W := ⟨_, rfl⟩
    have KS3 := Lib.hid ((KS2.out.alloc' hgo 80 [.slice (some ⟨gl, 0, none⟩) (m + 1) c2, .int .i64 g.Begin]).atW hW3)
    go_upto_region 4 with fail
    clear hW3 hgo KS2
    have d0 := KS3.out.cell (k := 0) 0 rfl rfl
    have d1 := KS3.out.cell (k := 1) 0 rfl rfl
    have hlast : g.Pieces[m]? = some (Pl.lastP g.Pieces) := by
      have := Pl.lastP_get HG.out.len.1
      rw [show g.Pieces.length - 1 = m by have := HN0.out; omega] at this
      exact this
    have HLAST := Lib.hid hlast
    have HPO := Lib.hid HG.out.last
    obtain ⟨P, hP⟩ : ∃ P, Pl.lastP g.Pieces = P := ⟨_, rfl⟩
    have HP := Lib.hid hP
    rw [hP] at HLAST HPO
    have hP60 := Pl.pieceOk_size HPO.out.1
    obtain ⟨cs4, fx4, ho4, hnd4, hsub4, hc4, hput⟩ := KS3.out.putIn 1 rfl HLAST.out
    obtain ⟨A4, n4, c4, f4, rfl, rfl, g40, g41, g42⟩ := rPiece_own ho4
    have p0 := hc4 0 _ rfl
    have p1 := hc4 1 _ rfl
    have p2 := hc4 2 _ rfl
    rw [show m * rPiece.size + 0 = m * 3 from rfl] at p0
    rw [show m * rPiece.size + 1 = m * 3 + 1 from rfl] at p1
    rw [show m * rPiece.size + 2 = m * 3 + 2 from rfl] at p2
    clear hP hlast ho4 hnd4 hsub4 hc4 hput g40 g41 g42
    have CR := recordsIn_c P.Bytes (by omega)
    go_wp2_with fail
    refine (CR _).mono ?_
    rintro e w4 ⟨RA, rn, rc, rfl, hac⟩
    obtain ⟨RA', rn', rc', hsl, hrn, -, -, -⟩ := hac.form
    injection hsl with q1 q2 q3
    subst q1; subst q2; subst q3
    have hb4 := hac.bel
    have hrn60 : rn ≤ 60 := by have := Pl.records_len P.Bytes; omega
    have HRN := Lib.hid hrn
    obtain ⟨W4, rfl⟩ : ∃ W : World, W = w4 := ⟨_, rfl⟩
    have KS4 := Lib.hid (KS3.out.step hb4)
    replace p0 := below_some hb4 p0
    replace p1 := below_some hb4 p1
    replace p2 := below_some hb4 p2
    clear d0 d1 hac hrn KS3 CR
    have d0 := KS4.out.cell (k := 0) 0 rfl rfl
    have d1 := KS4.out.cell (k := 1) 0 rfl rfl
    have hrs := Pl.rtext_size s
    have CT := recordText_c s hs20
    have hpf : 0 ≤ P.From ∧ P.From ≤ 200000 := by
      have h1 := HG.out.from0
      have h2 := HPO.out.2
      have h3 := Pl.lRecs_bound HG.out.sizes (g.Pieces.length - 1)
      have h4 := HN0.out
      omega
    obtain ⟨pf, hpf'⟩ : ∃ pf, P.From = pf := ⟨_, rfl⟩
    have HPF := Lib.hid hpf'
    rw [hpf'] at p0 hpf
    obtain ⟨hpf1, hpf2⟩ := hpf
    clear hpf'
    by_cases hrn0 : rn = 0
    · have hdr : decide ((0 : Int) < (rn : Nat)) = false := decide_eq_false (by omega)
      have hdr2 : decide (0 < rn) = false := decide_eq_false (by omega)
      have HOUT : Hid (Pl.logOut g s = ⟨g.Pieces.set m (Pl.pieceOf pf (P.Bytes ++ Pl.rtext s)), g.Begin⟩) := by
        show _ = _
        unfold Pl.logOut
        rw [if_neg (by rw [HP.out, ← HRN.out]; exact fun h => h.1 hrn0), HP.out, HPF.out, show g.Pieces.length - 1 = m by have := HN0.out; omega]
      clear hrn0
      go_wp2_with fail
      refine wp_region_und (by kernel_rfl) (by kernel_rfl) ?_
      repeat (go_big_quiet_step ((first | fail)))
      refine wpQuiet_nil ?_
      intro X hX
      obtain ⟨W5, rfl⟩ : ∃ W : World, W = X := ⟨_, rfl⟩
      have hb5 : Below W4.heap.size W4 W5 := hX
      have KS5 := Lib.hid (KS4.out.step hb5)
      replace p0 := below_some hb5 p0
      replace p1 := below_some hb5 p1
      replace p2 := below_some hb5 p2
      clear KS4 d0 d1
      have d0 := KS5.out.cell (k := 0) 0 rfl rfl
      have d1 := KS5.out.cell (k := 1) 0 rfl rfl
      have hsz : (P.Bytes ++ Pl.rtext s).size ≤ 1000 := by rw [ByteArray.size_append, hrs]; omega
      have hadd : (P.Bytes.size : Int) + ((s.size : Int) + 1) ≤ 1000 := by omega
      go_wp2_with fail
      refine Mm.wp_region_give 14 (fun i => match i with | 10 => some (Mm.gVal (.string (Pl.rtext s))) | 12 => some (gPcA (Pl.pieceOf pf (P.Bytes ++ Pl.rtext s))) | _ => none) (fun _ => []) (fun _ => []) (F := []) (D := fun w' => ∃ z : Und W5, w' = und W5 z) (fun X us h => Mm.sep_und h) (by kernel_rfl) (by kernel_rfl) (by kernel_rfl) (Mm.SepF.startDrew _) ?_
      repeat (refine Mm.give_det (by rfl) (by rfl) (by rfl) (fun K hK => ?_); go_big_quiet_op; refine hK _ ?_; clear hK K)
      refine Mm.give_op0 76 (by rfl) rfl (by rfl) (by rfl) (by rfl) (by rfl) Mm.gVal_in (fun others X hX => ?_) ?_
      · go_wp2_with (go_at_call 152; refine (CT _).mono ?_; rintro e w7 ⟨rfl, hb7⟩)
        exact Mm.gvq_val hX hb7 rfl rfl
      rintro v ds ⟨rfl, rfl⟩
      simp only [Act.put, List.setIfInBounds_toArray, List.set_cons_succ, List.set_cons_zero]
      repeat (refine Mm.give_det (by rfl) (by rfl) (by rfl) (fun K hK => ?_); go_big_quiet_op; refine hK _ ?_; clear hK K)
      refine Mm.give_op0 78 (by rfl) rfl (by rfl) (by rfl) (by rfl) (by rfl) gPcA_in (fun others X hX => ?_) ?_
      · go_wp2_with (go_at_call 153; refine (pieceOf_c pf _ hsz _).mono ?_; rintro e w7 ⟨A7, n7, c7, f7, rfl, -, hs7⟩)
        exact ⟨rfl, rfl, _, ⟨A7, n7, c7, f7, rfl, rfl⟩, (hX.join hs7).toOw (R := rPiece) (x := Pl.pieceOf pf (P.Bytes ++ Pl.rtext s)) (cs := [.int .i64 pf, .string (P.Bytes ++ Pl.rtext s), .slice A7 n7 c7]) (fun W hw => rPiece_own_mk (x := Pl.pieceOf pf (P.Bytes ++ Pl.rtext s)) (by show Mm.I64 pf; unfold Mm.I64; omega) (by show (P.Bytes ++ Pl.rtext s).size ≤ maxLen; unfold maxLen; omega) hw)⟩
      rintro v ds ⟨A7, n7, c7, f7, rfl, rfl⟩
      simp only [Act.put, List.setIfInBounds_toArray, List.set_cons_succ, List.set_cons_zero]
      repeat (refine Mm.give_det (by rfl) (by rfl) (by rfl) (fun K hK => ?_); go_big_quiet_op; refine hK _ ?_; clear hK K)
      refine Mm.give_nil ?_
      rintro X8 hX8
      have hx8 : Mm.SepF [] W5 X8 [Mm.tow rPiece (Pl.pieceOf pf (P.Bytes ++ Pl.rtext s)) [.int .i64 pf, .string (P.Bytes ++ Pl.rtext s), .slice A7 n7 c7] f7] := Mm.sep_eq hX8 rfl
      clear hX8
      have hb8 := hx8.bel0
      replace p0 := below_some hb8 p0
      replace p1 := below_some hb8 p1
      replace p2 := below_some hb8 p2
      have fl0 := ((KS5.out.step hb8).sl 1 rfl).frozen (m * 3)
      have fl1 := ((KS5.out.step hb8).sl 1 rfl).frozen (m * 3 + 1)
      have fl2 := ((KS5.out.step hb8).sl 1 rfl).frozen (m * 3 + 2)
      obtain ⟨fp9, hs9⟩ := putPiece KS5.out 1 rfl HLAST.out hx8
      have HS9 := Lib.hid hs9
      clear hs9 hx8 hb8 d0 d1 KS5
      go_upto_region 9 with fail
      obtain ⟨W9, hW9⟩ : ∃ W, ((X8.setCell ⟨gl, m * 3, none⟩ (.int .i64 (Pl.pieceOf pf (P.Bytes ++ Pl.rtext s)).From)).setCell ⟨gl, m * 3 + 1, none⟩ (.string (Pl.pieceOf pf (P.Bytes ++ Pl.rtext s)).Bytes)).setCell ⟨gl, m * 3 + 2, none⟩ (.slice A7 n7 c7) = W := ⟨_, rfl⟩
      have KS9 := Lib.hid (HS9.out.atW hW9)
      rw [hW9]
      clear hW9 HS9 p0 p1 p2 fl0 fl1 fl2
      have e0 := KS9.out.cell (k := 0) 0 rfl rfl
      have e1 := KS9.out.cell (k := 1) 0 rfl rfl
      have z0 := KS9.out.cell (k := 0) 2 rfl rfl
      have z1 := KS9.out.cell (k := 1) 2 rfl rfl
      have CL := isLog_c (g.Pieces.set m (Pl.pieceOf pf (P.Bytes ++ Pl.rtext s))) g.Begin (some ⟨gl, 0, none⟩) (m + 1) c2 W9 W9.heap.size (KS9.out.rdSl 1 rfl) (Nat.le_refl _) IO.out
      rw [← HOUT.out] at CL
      go_wp2_with fail
      refine CL.mono ?_
      rintro e w10 hans
      obtain ⟨hy, hn, hb10⟩ := hans.get
      obtain ⟨W10, rfl⟩ : ∃ W : World, W = w10 := ⟨_, rfl⟩
      have KS10 := Lib.hid (KS9.out.step hb10)
      clear hans hb10 CL KS9 e0 e1 z0 z1
      have e0 := KS10.out.cell (k := 0) 0 rfl rfl
      have e1 := KS10.out.cell (k := 1) 0 rfl rfl
      have z0 := KS10.out.cell (k := 0) 2 rfl rfl
      have z1 := KS10.out.cell (k := 1) 2 rfl rfl
      have y0 := KS10.out.frz (k := 0) 2 rfl
      have y1 := KS10.out.frz (k := 1) 2 rfl
      by_cases hok : Pl.appOk g s = true
      · obtain rfl := hy ((Pl.appOk_iff HG.out).1 hok).2
        have HF : Hid (Pl.appL g s = (Pl.logOut g s, true)) := if_pos hok
        have HB := Lib.hid ((KS10.out.setBlk (k := 0) 2 rfl (.slice (some ⟨gl, 0, none⟩) (m + 1) c2)).setBlk (k := 1) 2 rfl (.int .i64 g.Begin))
        have u0 := HB.out.cell (k := 0) 2 rfl rfl
        have u1 := HB.out.cell (k := 1) 2 rfl rfl
        clear hy hn hok
        go_wp2
        exact bodyPost_ret (v := .tuple #[.agg #[.slice (some ⟨gl, 0, none⟩) (m + 1) c2, .int .i64 g.Begin], .bool true]) (by simp [results, Tryz.results110, go_sem, u0, u1]) rfl (by rw [HF.out, HOUT.out]; exact ⟨_, fp9, rfl, rLog_own_mk (x := ⟨(g.Pieces.set m (Pl.pieceOf pf (P.Bytes ++ Pl.rtext s))), g.Begin⟩) (HB.out.sl 1 rfl) IO.out, HB.out.ndat (i := 1) rfl, (fun b hb => (HB.out.new b (Mm.SepF.mem (i := 1) rfl hb)).resolve_left (fun h => by cases h)), HB.out.bel0⟩)
      · obtain rfl := hn (fun h => hok ((Pl.appOk_iff HG.out).2 ⟨hs20, h⟩))
        have HF : Hid (Pl.appL g s = (⟨[], 0⟩, false)) := if_neg hok
        have HB := Lib.hid ((KS10.out.setBlk (k := 0) 2 rfl (.slice none 0 0)).setBlk (k := 1) 2 rfl (.int .i64 0))
        have HBB := Lib.hid HB.out.bel0
        have u0 := HB.out.cell (k := 0) 2 rfl rfl
        have u1 := HB.out.cell (k := 1) 2 rfl rfl
        clear hy hn hok
        go_wp2
        exact bodyPost_ret (v := .tuple #[.agg #[.slice none 0 0, .int .i64 0], .bool false]) (by simp [results, Tryz.results110, go_sem, u0, u1]) rfl (by rw [HF.out]; exact log0_ret HBB.out)
    · have hdr : decide ((0 : Int) < (rn : Nat)) = true := decide_eq_true (by omega)
      have hdr2 : decide (0 < rn) = true := decide_eq_true (by omega)
      by_cases h60 : P.Bytes.size + (s.size + 1) ≤ 60
      · have hd60 : decide ((60 : Int) < (P.Bytes.size : Int) + ((s.size : Int) + 1)) = false := decide_eq_false (by omega)
        have HOUT : Hid (Pl.logOut g s = ⟨g.Pieces.set m (Pl.pieceOf pf (P.Bytes ++ Pl.rtext s)), g.Begin⟩) := by
          show _ = _
          unfold Pl.logOut
          rw [if_neg (by rw [HP.out]; exact fun h => absurd h.2 (by omega)), HP.out, HPF.out, show g.Pieces.length - 1 = m by have := HN0.out; omega]
        clear hrn0 h60
        go_wp2_with fail
        refine Mm.wp_region_give_all (fun i => match i with | 10 => some (Mm.gVal (.string (Pl.rtext s))) | _ => none) (fun _ => []) (fun _ => []) (F := []) (D := fun w' => ∃ z : Und W4, w' = und W4 z) (fun X us h => Mm.sep_und h) (by kernel_rfl) (by kernel_rfl) (by kernel_rfl) (Mm.SepF.startDrew _) ?_
        repeat (refine Mm.give_det (by rfl) (by rfl) (by rfl) (fun K hK => ?_); go_big_quiet_op; refine hK _ ?_; clear hK K)
        refine Mm.give_op0 46 (by rfl) rfl (by rfl) (by rfl) (by rfl) (by rfl) Mm.gVal_in (fun others X hX => ?_) ?_
        · go_wp2_with (go_at_call 152; refine (CT _).mono ?_; rintro e w7 ⟨rfl, hb7⟩)
          exact Mm.gvq_val hX hb7 rfl rfl
        rintro v ds ⟨rfl, rfl⟩
        simp only [Act.put, List.setIfInBounds_toArray, List.set_cons_succ, List.set_cons_zero]
        repeat (refine Mm.give_det (by rfl) (by rfl) (by rfl) (fun K hK => ?_); go_big_quiet_op; refine hK _ ?_; clear hK K)
        refine Mm.give_nil ?_
        rintro X8 hX8
        have hb5 : Below W4.heap.size W4 X8 := hX8.bel0
        clear hX8
        obtain ⟨W5, rfl⟩ : ∃ W : World, W = X8 := ⟨_, rfl⟩
        have KS5 := Lib.hid (KS4.out.step hb5)
        replace p0 := below_some hb5 p0
        replace p1 := below_some hb5 p1
        replace p2 := below_some hb5 p2
        clear KS4 d0 d1
        have d0 := KS5.out.cell (k := 0) 0 rfl rfl
        have d1 := KS5.out.cell (k := 1) 0 rfl rfl
        have hsz : (P.Bytes ++ Pl.rtext s).size ≤ 1000 := by rw [ByteArray.size_append, hrs]; omega
        have hadd : (P.Bytes.size : Int) + ((s.size : Int) + 1) ≤ 1000 := by omega
        go_wp2_with fail
        refine Mm.wp_region_give 14 (fun i => match i with | 10 => some (Mm.gVal (.string (Pl.rtext s))) | 12 => some (gPcA (Pl.pieceOf pf (P.Bytes ++ Pl.rtext s))) | _ => none) (fun _ => []) (fun _ => []) (F := []) (D := fun w' => ∃ z : Und W5, w' = und W5 z) (fun X us h => Mm.sep_und h) (by kernel_rfl) (by kernel_rfl) (by kernel_rfl) (Mm.SepF.startDrew _) ?_
        repeat (refine Mm.give_det (by rfl) (by rfl) (by rfl) (fun K hK => ?_); go_big_quiet_op; refine hK _ ?_; clear hK K)
        refine Mm.give_op0 76 (by rfl) rfl (by rfl) (by rfl) (by rfl) (by rfl) Mm.gVal_in (fun others X hX => ?_) ?_
        · go_wp2_with (go_at_call 152; refine (CT _).mono ?_; rintro e w7 ⟨rfl, hb7⟩)
          exact Mm.gvq_val hX hb7 rfl rfl
        rintro v ds ⟨rfl, rfl⟩
        simp only [Act.put, List.setIfInBounds_toArray, List.set_cons_succ, List.set_cons_zero]
        repeat (refine Mm.give_det (by rfl) (by rfl) (by rfl) (fun K hK => ?_); go_big_quiet_op; refine hK _ ?_; clear hK K)
        refine Mm.give_op0 78 (by rfl) rfl (by rfl) (by rfl) (by rfl) (by rfl) gPcA_in (fun others X hX => ?_) ?_
        · go_wp2_with (go_at_call 153; refine (pieceOf_c pf _ hsz _).mono ?_; rintro e w7 ⟨A7, n7, c7, f7, rfl, -, hs7⟩)
          exact ⟨rfl, rfl, _, ⟨A7, n7, c7, f7, rfl, rfl⟩, (hX.join hs7).toOw (R := rPiece) (x := Pl.pieceOf pf (P.Bytes ++ Pl.rtext s)) (cs := [.int .i64 pf, .string (P.Bytes ++ Pl.rtext s), .slice A7 n7 c7]) (fun W hw => rPiece_own_mk (x := Pl.pieceOf pf (P.Bytes ++ Pl.rtext s)) (by show Mm.I64 pf; unfold Mm.I64; omega) (by show (P.Bytes ++ Pl.rtext s).size ≤ maxLen; unfold maxLen; omega) hw)⟩
        rintro v ds ⟨A7, n7, c7, f7, rfl, rfl⟩
        simp only [Act.put, List.setIfInBounds_toArray, List.set_cons_succ, List.set_cons_zero]
        repeat (refine Mm.give_det (by rfl) (by rfl) (by rfl) (fun K hK => ?_); go_big_quiet_op; refine hK _ ?_; clear hK K)
        refine Mm.give_nil ?_
        rintro X8 hX8
        have hx8 : Mm.SepF [] W5 X8 [Mm.tow rPiece (Pl.pieceOf pf (P.Bytes ++ Pl.rtext s)) [.int .i64 pf, .string (P.Bytes ++ Pl.rtext s), .slice A7 n7 c7] f7] := Mm.sep_eq hX8 rfl
        clear hX8
        have hb8 := hx8.bel0
        replace p0 := below_some hb8 p0
        replace p1 := below_some hb8 p1
        replace p2 := below_some hb8 p2
        have fl0 := ((KS5.out.step hb8).sl 1 rfl).frozen (m * 3)
        have fl1 := ((KS5.out.step hb8).sl 1 rfl).frozen (m * 3 + 1)
        have fl2 := ((KS5.out.step hb8).sl 1 rfl).frozen (m * 3 + 2)
        obtain ⟨fp9, hs9⟩ := putPiece KS5.out 1 rfl HLAST.out hx8
        have HS9 := Lib.hid hs9
        clear hs9 hx8 hb8 d0 d1 KS5
        go_upto_region 9 with fail
        obtain ⟨W9, hW9⟩ : ∃ W, ((X8.setCell ⟨gl, m * 3, none⟩ (.int .i64 (Pl.pieceOf pf (P.Bytes ++ Pl.rtext s)).From)).setCell ⟨gl, m * 3 + 1, none⟩ (.string (Pl.pieceOf pf (P.Bytes ++ Pl.rtext s)).Bytes)).setCell ⟨gl, m * 3 + 2, none⟩ (.slice A7 n7 c7) = W := ⟨_, rfl⟩
        have KS9 := Lib.hid (HS9.out.atW hW9)
        rw [hW9]
        clear hW9 HS9 p0 p1 p2 fl0 fl1 fl2
        have e0 := KS9.out.cell (k := 0) 0 rfl rfl
        have e1 := KS9.out.cell (k := 1) 0 rfl rfl
        have z0 := KS9.out.cell (k := 0) 2 rfl rfl
        have z1 := KS9.out.cell (k := 1) 2 rfl rfl
        have CL := isLog_c (g.Pieces.set m (Pl.pieceOf pf (P.Bytes ++ Pl.rtext s))) g.Begin (some ⟨gl, 0, none⟩) (m + 1) c2 W9 W9.heap.size (KS9.out.rdSl 1 rfl) (Nat.le_refl _) IO.out
        rw [← HOUT.out] at CL
        go_wp2_with fail
        refine CL.mono ?_
        rintro e w10 hans
        obtain ⟨hy, hn, hb10⟩ := hans.get
        obtain ⟨W10, rfl⟩ : ∃ W : World, W = w10 := ⟨_, rfl⟩
        have KS10 := Lib.hid (KS9.out.step hb10)
        clear hans hb10 CL KS9 e0 e1 z0 z1
        have e0 := KS10.out.cell (k := 0) 0 rfl rfl
        have e1 := KS10.out.cell (k := 1) 0 rfl rfl
        have z0 := KS10.out.cell (k := 0) 2 rfl rfl
        have z1 := KS10.out.cell (k := 1) 2 rfl rfl
        have y0 := KS10.out.frz (k := 0) 2 rfl
        have y1 := KS10.out.frz (k := 1) 2 rfl
        by_cases hok : Pl.appOk g s = true
        · obtain rfl := hy ((Pl.appOk_iff HG.out).1 hok).2
          have HF : Hid (Pl.appL g s = (Pl.logOut g s, true)) := if_pos hok
          have HB := Lib.hid ((KS10.out.setBlk (k := 0) 2 rfl (.slice (some ⟨gl, 0, none⟩) (m + 1) c2)).setBlk (k := 1) 2 rfl (.int .i64 g.Begin))
          have u0 := HB.out.cell (k := 0) 2 rfl rfl
          have u1 := HB.out.cell (k := 1) 2 rfl rfl
          clear hy hn hok
          go_wp2
          exact bodyPost_ret (v := .tuple #[.agg #[.slice (some ⟨gl, 0, none⟩) (m + 1) c2, .int .i64 g.Begin], .bool true]) (by simp [results, Tryz.results110, go_sem, u0, u1]) rfl (by rw [HF.out, HOUT.out]; exact ⟨_, fp9, rfl, rLog_own_mk (x := ⟨(g.Pieces.set m (Pl.pieceOf pf (P.Bytes ++ Pl.rtext s))), g.Begin⟩) (HB.out.sl 1 rfl) IO.out, HB.out.ndat (i := 1) rfl, (fun b hb => (HB.out.new b (Mm.SepF.mem (i := 1) rfl hb)).resolve_left (fun h => by cases h)), HB.out.bel0⟩)
        · obtain rfl := hn (fun h => hok ((Pl.appOk_iff HG.out).2 ⟨hs20, h⟩))
          have HF : Hid (Pl.appL g s = (⟨[], 0⟩, false)) := if_neg hok
          have HB := Lib.hid ((KS10.out.setBlk (k := 0) 2 rfl (.slice none 0 0)).setBlk (k := 1) 2 rfl (.int .i64 0))
          have HBB := Lib.hid HB.out.bel0
          have u0 := HB.out.cell (k := 0) 2 rfl rfl
          have u1 := HB.out.cell (k := 1) 2 rfl rfl
          clear hy hn hok
          go_wp2
          exact bodyPost_ret (v := .tuple #[.agg #[.slice none 0 0, .int .i64 0], .bool false]) (by simp [results, Tryz.results110, go_sem, u0, u1]) rfl (by rw [HF.out]; exact log0_ret HBB.out)
      · have hd60 : decide ((60 : Int) < (P.Bytes.size : Int) + ((s.size : Int) + 1)) = true := decide_eq_true (by omega)
        have HOUT : Hid (Pl.logOut g s = ⟨g.Pieces ++ [Pl.pieceOf (pf + (rn : Int)) (Pl.rtext s)], g.Begin⟩) := by
          show _ = _
          unfold Pl.logOut
          rw [if_pos (by rw [HP.out, ← HRN.out]; exact ⟨hrn0, by omega⟩), HP.out, HPF.out, ← HRN.out]
        clear hrn0 h60
        go_wp2_with fail
        refine Mm.wp_region_give_all (fun i => match i with | 10 => some (Mm.gVal (.string (Pl.rtext s))) | _ => none) (fun _ => []) (fun _ => []) (F := []) (D := fun w' => ∃ z : Und W4, w' = und W4 z) (fun X us h => Mm.sep_und h) (by kernel_rfl) (by kernel_rfl) (by kernel_rfl) (Mm.SepF.startDrew _) ?_
        repeat (refine Mm.give_det (by rfl) (by rfl) (by rfl) (fun K hK => ?_); go_big_quiet_op; refine hK _ ?_; clear hK K)
        refine Mm.give_op0 46 (by rfl) rfl (by rfl) (by rfl) (by rfl) (by rfl) Mm.gVal_in (fun others X hX => ?_) ?_
        · go_wp2_with (go_at_call 152; refine (CT _).mono ?_; rintro e w7 ⟨rfl, hb7⟩)
          exact Mm.gvq_val hX hb7 rfl rfl
        rintro v ds ⟨rfl, rfl⟩
        simp only [Act.put, List.setIfInBounds_toArray, List.set_cons_succ, List.set_cons_zero]
        repeat (refine Mm.give_det (by rfl) (by rfl) (by rfl) (fun K hK => ?_); go_big_quiet_op; refine hK _ ?_; clear hK K)
        refine Mm.give_nil ?_
        rintro X8 hX8
        have hb5 : Below W4.heap.size W4 X8 := hX8.bel0
        clear hX8
        obtain ⟨W5, rfl⟩ : ∃ W : World, W = X8 := ⟨_, rfl⟩
        have KS5 := Lib.hid (KS4.out.step hb5)
        replace p0 := below_some hb5 p0
        clear KS4 d0 d1 p1 p2
        have d0 := KS5.out.cell (k := 0) 0 rfl rfl
        have d1 := KS5.out.cell (k := 1) 0 rfl rfl
        have nG : go ∉ fp2 := fun hh => KS5.out.apart (i := 0) (j := 1) rfl rfl (by decide) go (by simp [Mm.tblk]) hh
        have hPl : g.Pieces.length = m + 1 := HN0.out.symm
        have HPL := Lib.hid hPl
        have hrI : ((rn : Int)) ≤ 60 := by omega
        clear p0 hPl
        obtain ⟨Y, hY⟩ : ∃ Y, Pl.pieceOf (pf + (rn : Int)) (Pl.rtext s) = Y := ⟨_, rfl⟩
        have hY0 : Y.From = pf + (rn : Int) := by rw [← hY]; rfl
        have hY1 : Y.Bytes = Pl.rtext s := by rw [← hY]; rfl
        have HY := Lib.hid (And.intro hY (And.intro hY0 hY1))
        rw [hY] at HOUT
        clear hY hY0 hY1
        go_wp2_with fail
        refine Mm.wp_region_give 15 (fun i => match i with | 5 => some (gPass (.int .i64 pf)) | 8 => some (gPass (.int .i64 (pf + (rn : Int)))) | 10 => some (Mm.gVal (.string (Pl.rtext s))) | 11 => some (gPcP Y) | 12 => some gPcQ | 13 => some (Mm.gSl rPiece 164 (g.Pieces ++ [Y])) | _ => none) (fun i => match i with | 5 => [16] | 8 => [5] | 11 => [8] | 12 => [11] | 13 => [12] | _ => []) (fun i => match i with | 16 => [Mm.tsl rPiece 164 g.Pieces (.slice (some ⟨gl, 0, none⟩) (m + 1) c2) fp2] | _ => []) (F := fp2) (D := fun w' => ∃ z : Cha fp2 W5, w' = cha fp2 W5 z) (fun X us h => Mm.sep_cha h) (by kernel_rfl) (by kernel_rfl) (by kernel_rfl) (Mm.sep_eq ((Mm.SepF.one (Mm.tsl rPiece 164 g.Pieces (.slice (some ⟨gl, 0, none⟩) (m + 1) c2) fp2) W5 (KS5.out.sl 1 rfl) (KS5.out.ndat (i := 1) rfl)).step (Below.refl _ _).drew) rfl) ?_
        repeat (refine Mm.give_det (by rfl) (by rfl) (by rfl) (fun K hK => ?_); go_big_quiet_op; refine hK _ ?_; clear hK K)
        refine Mm.give_op1 56 16 (by rfl) rfl (by rfl) (by rfl) (by rfl) rfl (by rfl) _ rfl ⟨_, _, rfl, rfl⟩ (fun others X hX => ?_) ?_
        · obtain ⟨cs4, fx4, ho4, -, -, hc4, -⟩ := hX.putIn 0 rfl HLAST.out
          obtain ⟨A4, n4, c4, f4, rfl, rfl, -, -, -⟩ := rPiece_own ho4
          have p0 := hc4 0 _ rfl
          rw [show m * rPiece.size + 0 = m * 3 from rfl, HPF.out] at p0
          clear hc4 ho4
          go_wp2
          exact ⟨rfl, rfl, _, ⟨rfl, rfl⟩, hX.step (Below.refl _ _)⟩
        rintro v ds ⟨rfl, rfl⟩
        simp only [Act.put, List.setIfInBounds_toArray, List.set_cons_succ, List.set_cons_zero]
        repeat (refine Mm.give_det (by rfl) (by rfl) (by rfl) (fun K hK => ?_); go_big_quiet_op; refine hK _ ?_; clear hK K)
        refine Mm.give_op1 59 5 (by rfl) rfl (by rfl) (by rfl) (by rfl) rfl (by rfl) _ rfl ⟨_, _, rfl, rfl⟩ (fun others X hX => ?_) ?_
        · go_wp2
          exact ⟨rfl, rfl, _, ⟨rfl, rfl⟩, hX.step (Below.refl _ _)⟩
        rintro v ds ⟨rfl, rfl⟩
        simp only [Act.put, List.setIfInBounds_toArray, List.set_cons_succ, List.set_cons_zero]
        repeat (refine Mm.give_det (by rfl) (by rfl) (by rfl) (fun K hK => ?_); go_big_quiet_op; refine hK _ ?_; clear hK K)
        refine Mm.give_op0 61 (by rfl) rfl (by rfl) (by rfl) (by rfl) (by rfl) Mm.gVal_in (fun others X hX => ?_) ?_
        · go_wp2_with (go_at_call 152; refine (CT _).mono ?_; rintro e w7 ⟨rfl, hb7⟩)
          exact Mm.gvq_val hX hb7 rfl rfl
        rintro v ds ⟨rfl, rfl⟩
        simp only [Act.put, List.setIfInBounds_toArray, List.set_cons_succ, List.set_cons_zero]
        repeat (refine Mm.give_det (by rfl) (by rfl) (by rfl) (fun K hK => ?_); go_big_quiet_op; refine hK _ ?_; clear hK K)
        refine Mm.give_op1 62 8 (by rfl) rfl (by rfl) (by rfl) (by rfl) rfl (by rfl) _ rfl gPcP_in (fun others X hX => ?_) ?_
        · go_wp2_with (go_at_call 153; refine (pieceOf_c (pf + (rn : Int)) (Pl.rtext s) (by omega) _).mono ?_; rintro e w7 ⟨A7, n7, c7, f7, rfl, -, hs7⟩)
          refine ⟨rfl, rfl, _, ⟨A7, n7, c7, f7, ?_, rfl⟩, (hX.join hs7).toOw (R := rPiece) (x := Y) (cs := [.int .i64 Y.From, .string Y.Bytes, .slice A7 n7 c7]) (fun W hw => rPiece_own_mk (by rw [HY.out.2.1]; unfold Mm.I64; omega) (by rw [HY.out.2.2]; unfold maxLen; omega) (by rw [← HY.out.1]; exact hw))⟩
          rw [HY.out.2.1, HY.out.2.2]; rfl
        rintro v ds ⟨A7, n7, c7, f7, rfl, rfl⟩
        simp only [Act.put, List.setIfInBounds_toArray, List.set_cons_succ, List.set_cons_zero]
        repeat (refine Mm.give_det (by rfl) (by rfl) (by rfl) (fun K hK => ?_); go_big_quiet_op; refine hK _ ?_; clear hK K)
        refine Mm.give_op1 63 11 (by rfl) rfl (by rfl) (by rfl) (by rfl) rfl (by rfl) _ rfl gPcQ_in (fun others X hX => ?_) ?_
        · go_wp2
          exact ⟨rfl, rfl, _, ⟨_, rfl, rfl⟩, hX.alloc' rfl 164 [.int .i64 Y.From, .string Y.Bytes, .slice A7 n7 c7]⟩
        rintro v ds ⟨ge, rfl, rfl⟩
        simp only [Act.put, List.setIfInBounds_toArray, List.set_cons_succ, List.set_cons_zero]
        repeat (refine Mm.give_det (by rfl) (by rfl) (by rfl) (fun K hK => ?_); go_big_quiet_op; refine hK _ ?_; clear hK K)
        obtain ⟨iR, qR, qR0, qR1, qR2⟩ := info_parts Tryz.infoPcJ
        refine Mm.give_op1 64 12 (by rfl) rfl (by rfl) (by rfl) (by rfl) rfl (by rfl) _ rfl Mm.gSl_in (fun others X6 hX6 => Mm.app_gve rfl (.tmp 52) (.tmp 63) 78 rfl 64 rfl (by rfl) iR _ 48 Tryz.underlying78 qR qR0 qR1 qR2 rfl (by decide) rfl rfl HPL.out (by unfold maxLen; omega) (by omega) hX6) ?_
        rintro v ds ⟨Ad, nd, cap, fp9, rfl, rfl, hnd⟩
        simp only [Act.put, List.setIfInBounds_toArray, List.set_cons_succ, List.set_cons_zero]
        repeat (refine Mm.give_det (by rfl) (by rfl) (by rfl) (fun K hK => ?_); go_big_quiet_op; refine hK _ ?_; clear hK K)
        refine Mm.give_nil ?_
        rintro X7 hX7
        have hx7 : Mm.SepF fp2 W5 X7 [Mm.tsl rPiece 164 (g.Pieces ++ [Y]) (.slice Ad nd cap) fp9] := Mm.sep_eq hX7 rfl
        obtain rfl : nd = m + 2 := by have h1 := hnd.out; rw [List.length_append, HPL.out] at h1; simpa using h1
        have HS7 := Lib.hid ((KS5.out.sel [1, 0, 2, 3] (by decide) rfl).callSome (us := [Mm.tsl rPiece 164 g.Pieces (.slice (some ⟨gl, 0, none⟩) (m + 1) c2) fp2]) (rest := _) (by simpa [Mm.tsl] using hx7))
        clear hX7 hnd hx7 d0 d1 KS5 nG
        have d0 := HS7.out.cell (k := 0) 1 rfl rfl
        have y0 := HS7.out.frz (k := 0) 1 rfl
        go_upto_region 9 with fail
        obtain ⟨W9, hW9⟩ : ∃ W, X7.setCell ⟨go, 0, none⟩ (.slice Ad (m + 2) cap) = W := ⟨_, rfl⟩
        have KS9 := Lib.hid (((HS7.out.setBlk (k := 0) 1 rfl (.slice Ad (m + 2) cap)).atW hW9).sel [1, 0, 2, 3] (by decide) rfl)
        rw [hW9]
        clear hW9 HS7 d0 y0
        have e0 := KS9.out.cell (k := 0) 0 rfl rfl
        have e1 := KS9.out.cell (k := 1) 0 rfl rfl
        have z0 := KS9.out.cell (k := 0) 2 rfl rfl
        have z1 := KS9.out.cell (k := 1) 2 rfl rfl
        have CL := isLog_c (g.Pieces ++ [Y]) g.Begin Ad (m + 2) cap W9 W9.heap.size (KS9.out.rdSl 1 rfl) (Nat.le_refl _) IO.out
        rw [← HOUT.out] at CL
        go_wp2_with fail
        refine CL.mono ?_
        rintro e w10 hans
        obtain ⟨hy, hn, hb10⟩ := hans.get
        obtain ⟨W10, rfl⟩ : ∃ W : World, W = w10 := ⟨_, rfl⟩
        have KS10 := Lib.hid (KS9.out.step hb10)
        clear hans hb10 CL KS9 e0 e1 z0 z1
        have e0 := KS10.out.cell (k := 0) 0 rfl rfl
        have e1 := KS10.out.cell (k := 1) 0 rfl rfl
        have z0 := KS10.out.cell (k := 0) 2 rfl rfl
        have z1 := KS10.out.cell (k := 1) 2 rfl rfl
        have y0 := KS10.out.frz (k := 0) 2 rfl
        have y1 := KS10.out.frz (k := 1) 2 rfl
        by_cases hok : Pl.appOk g s = true
        · obtain rfl := hy ((Pl.appOk_iff HG.out).1 hok).2
          have HF : Hid (Pl.appL g s = (Pl.logOut g s, true)) := if_pos hok
          have HB := Lib.hid ((KS10.out.setBlk (k := 0) 2 rfl (.slice Ad (m + 2) cap)).setBlk (k := 1) 2 rfl (.int .i64 g.Begin))
          have u0 := HB.out.cell (k := 0) 2 rfl rfl
          have u1 := HB.out.cell (k := 1) 2 rfl rfl
          clear hy hn hok
          go_wp2
          exact bodyPost_ret (v := .tuple #[.agg #[.slice Ad (m + 2) cap, .int .i64 g.Begin], .bool true]) (by simp [results, Tryz.results110, go_sem, u0, u1]) rfl (by rw [HF.out, HOUT.out]; exact ⟨_, fp9, rfl, rLog_own_mk (x := ⟨(g.Pieces ++ [Y]), g.Begin⟩) (HB.out.sl 1 rfl) IO.out, HB.out.ndat (i := 1) rfl, (fun b hb => (HB.out.new b (Mm.SepF.mem (i := 1) rfl hb)).resolve_left (fun h => by cases h)), HB.out.bel0⟩)
        · obtain rfl := hn (fun h => hok ((Pl.appOk_iff HG.out).2 ⟨hs20, h⟩))
          have HF : Hid (Pl.appL g s = (⟨[], 0⟩, false)) := if_neg hok
          have HB := Lib.hid ((KS10.out.setBlk (k := 0) 2 rfl (.slice none 0 0)).setBlk (k := 1) 2 rfl (.int .i64 0))
          have HBB := Lib.hid HB.out.bel0
          have u0 := HB.out.cell (k := 0) 2 rfl rfl
          have u1 := HB.out.cell (k := 1) 2 rfl rfl
          clear hy hn hok
          go_wp2
          exact bodyPost_ret (v := .tuple #[.agg #[.slice none 0 0, .int .i64 0], .bool false]) (by simp [results, Tryz.results110, go_sem, u0, u1]) rfl (by rw [HF.out]; exact log0_ret HBB.out)
  · have HF : Hid (Pl.appL g s = (⟨[], 0⟩, false)) := if_neg (by unfold Pl.appOk; rw [decide_eq_false hs20]; simp)
    have hs20' : (20 : Int) < (s.size : Nat) := by omega
    have HB := Lib.hid ((KS1.out.setBlk (k := 0) 0 rfl (.slice none 0 0)).setBlk (k := 1) 0 rfl (.int .i64 0))
    have HBB := Lib.hid HB.out.bel0
    have u0 := HB.out.cell (k := 0) 0 rfl rfl
    have u1 := HB.out.cell (k := 1) 0 rfl rfl
    go_wp2
    exact bodyPost_ret (v := .tuple #[.agg #[.slice none 0 0, .int .i64 0], .bool false]) (by simp [results, Tryz.results110, go_sem, u0, u1]) rfl (by rw [HF.out]; exact log0_ret HBB.out)
end Go.Proofs.YtbhmdnjammnlnaaGreatDoor

namespace Go.Proofs.YtbhmdnjammnlnaaGreatDoor
open Go.RowKit
attribute [local go_sem] und_cell cha_cell World.cell?_alloc_some
namespace Pl
def decB (n : Nat) : ByteArray := ⟨(Lib.decDigits n).toArray⟩
theorem decB_lt {n : Nat} (h : n < 10) : decB n = ⟨#[UInt8.ofNat (48 + n)]⟩ := by unfold decB; rw [Lib.decDigits_one h]
theorem decB_ge {n : Nat} (h : ¬ n < 10) : decB n = decB (n / 10) ++ ⟨#[UInt8.ofNat (48 + n % 10)]⟩ := by
  unfold decB
  rw [Lib.decDigits, dif_neg h]
  apply ByteArray.ext
  simp
theorem decB_size {n : Nat} (h : n < 18446744073709551616) : (decB n).size ≤ 20 := by
  have h1 := Lib.decDigits_length n
  have h2 := Lib.nDigits_le20 n h
  show (Lib.decDigits n).toArray.size ≤ 20
  rw [List.size_toArray]; omega
theorem itoaB_nat (n : Nat) : itoaB (n : Int) = decB n := by unfold itoaB decB; rw [Lib.itoa_nonneg]
theorem itoaB_neg {n : Int} (h : n < 0) : itoaB n = ⟨#[45]⟩ ++ decB (-n).toNat := by
  unfold itoaB decB Lib.itoa
  rw [if_pos h, show n.natAbs = (-n).toNat by omega]
  apply ByteArray.ext
  simp
theorem itoaB_size {n : Int} (h0 : -9223372036854775808 ≤ n) (h1 : n ≤ 9223372036854775807) : (itoaB n).size ≤ 21 := by
  have := Lib.itoa_length_le n h0 h1
  show (Lib.itoa n).toArray.size ≤ 21
  rw [List.size_toArray]; omega
end Pl
theorem conv_by (W : World) (g n : Nat) (hb : Mm.Blk W g 5 [.int .u8 (n : Int)]) (hn : n < 256) : (convert 68 9 (.slice (some ⟨g, 0, none⟩) 1 1)).run Tryz.prog W = .ok (.string ⟨#[UInt8.ofNat n]⟩) W := by
  refine run_convert_bytes_back _ _ _ 5 ⟨g, 0, none⟩ 1 [UInt8.ofNat n] Tryz.underlying68 Tryz.underlying5 Tryz.underlying9 (fun j hj => ?_)
  obtain rfl : j = 0 := by simp at hj; exact hj
  have := hb.cell (i := 0) rfl
  rw [show ((⟨g, 0, none⟩ : Addr).add 0) = ⟨g, 0, none⟩ from rfl, this]
  simp [Nat.mod_eq_of_lt hn]
def gByte (b : Nat) : Mm.Rel := fun _ _ v ds => ∃ g, v = .slice (some ⟨g, 0, none⟩) 1 1 ∧ ds = [Mm.tblk g 5 [.int .u8 (b : Int)]]
theorem gByte_in {b : Nat} {vals : List Value} {tk : List Mm.Thing} : ∃ v ds, gByte b vals tk v ds := ⟨_, _, 0, rfl, rfl⟩
set_option maxRecDepth 100000 in
set_option maxHeartbeats 1000000 in
theorem l1Num_c : ∀ (n : Nat), n < 4611686018427387904 → ∀ w, Calls Tryz.prog 150 #[.int .i64 (n : Nat)] w fun e w' => e = .returned (.string (Pl.decB n)) ∧ Below w.heap.size w w' := by
  intro n
  induction n using Nat.strongRecOn with
  | _ n ih =>
    intro hn w
    by_cases h : n < 10
    · have hcv := fun W : World => conv_by (W.alloc (.cells #[.int .u8 ((48 + n : Nat) : Int)] 5)) W.heap.size (48 + n) (Mm.Blk.new W _ _) (by omega)
      have hca : ((48 + n : Nat) : Int) = 48 + (n : Int) := by omega
      have HF := Lib.hid (Pl.decB_lt h)
      obtain ⟨bb, hbb⟩ : ∃ bb, UInt8.ofNat (48 + n) = bb := ⟨_, rfl⟩
      rw [hca, hbb] at hcv
      rw [hbb] at HF
      clear hca ih hbb
      have hi : (n : Int) < 10 := by omega
      go_enter Tryz.func150, Tryz.ntmps150
      go_wp2
      go_ret
      exact ⟨by rw [HF.out]; rfl, below_new (Below.refl _ _) _⟩
    · have IH := ih (n / 10) (by omega) (by omega)
      have HF := Lib.hid (Pl.decB_ge h)
      have hi : ¬ ((n : Int) < 10) := by omega
      have hsz := Pl.decB_size (n := n / 10) (by omega)
      have hsz1 : (⟨#[UInt8.ofNat (48 + n % 10)]⟩ : ByteArray).size = 1 := rfl
      obtain ⟨D, hD⟩ : ∃ D, Pl.decB (n / 10) = D := ⟨_, rfl⟩
      obtain ⟨E, hE⟩ : ∃ E, (⟨#[UInt8.ofNat (48 + n % 10)]⟩ : ByteArray) = E := ⟨_, rfl⟩
      have HE := Lib.hid hE
      rw [hD] at IH HF hsz
      rw [hE] at HF hsz1
      clear ih h hD hE
      go_enter Tryz.func150, Tryz.ntmps150
      go_wp2_with fail
      refine Mm.wp_region_give_all (fun i => match i with | 2 => some (Mm.gVal (.string D)) | 7 => some (gByte (48 + n % 10)) | 8 => some (gPass (.string E)) | _ => none) (fun i => match i with | 8 => [7] | _ => []) (fun _ => []) (F := []) (D := fun w' => ∃ z : Und w, w' = und w z) (fun X us h => Mm.sep_und h) (by kernel_rfl) (by kernel_rfl) (by kernel_rfl) (Mm.SepF.startDrew _) ?_
      repeat (refine Mm.give_det (by rfl) (by rfl) (by rfl) (fun K hK => ?_); go_big_quiet_op; refine hK _ ?_; clear hK K)
      refine Mm.give_op0 12 (by rfl) rfl (by rfl) (by rfl) (by rfl) (by rfl) Mm.gVal_in (fun others X hX => ?_) ?_
      · go_wp2_with (go_at_call 150; refine (IH _).mono ?_; rintro e w7 ⟨rfl, hb7⟩)
        exact Mm.gvq_val hX hb7 rfl rfl
      rintro v ds ⟨rfl, rfl⟩
      simp only [Act.put, List.setIfInBounds_toArray, List.set_cons_succ, List.set_cons_zero]
      repeat (refine Mm.give_det (by rfl) (by rfl) (by rfl) (fun K hK => ?_); go_big_quiet_op; refine hK _ ?_; clear hK K)
      refine Mm.give_op0 17 (by rfl) rfl (by rfl) (by rfl) (by rfl) (by rfl) gByte_in (fun others X hX => ?_) ?_
      · go_wp2
        exact ⟨rfl, rfl, _, ⟨_, rfl, rfl⟩, hX.alloc' rfl 5 [.int .u8 ((48 + n % 10 : Nat) : Int)]⟩
      rintro v ds ⟨g, rfl, rfl⟩
      simp only [Act.put, List.setIfInBounds_toArray, List.set_cons_succ, List.set_cons_zero]
      repeat (refine Mm.give_det (by rfl) (by rfl) (by rfl) (fun K hK => ?_); go_big_quiet_op; refine hK _ ?_; clear hK K)
      refine Mm.give_op1 18 7 (by rfl) rfl (by rfl) (by rfl) (by rfl) rfl (by rfl) _ rfl ⟨_, _, rfl, rfl⟩ (fun others X hX => ?_) ?_
      · have hcv : (convert 68 9 (.slice (some ⟨g, 0, none⟩) 1 1)).run Tryz.prog X = .ok (.string E) X := by rw [← HE.out]; exact conv_by X g _ (hX.at_ 0 rfl) (by omega)
        go_wp2
        exact ⟨rfl, rfl, _, ⟨rfl, rfl⟩, hX.step (Below.refl _ _)⟩
      rintro v ds ⟨rfl, rfl⟩
      simp only [Act.put, List.setIfInBounds_toArray, List.set_cons_succ, List.set_cons_zero]
      repeat (refine Mm.give_det (by rfl) (by rfl) (by rfl) (fun K hK => ?_); go_big_quiet_op; refine hK _ ?_; clear hK K)
      refine Mm.give_nil ?_
      rintro X8 hX8
      have hb8 : Below w.heap.size w X8 := hX8.bel0
      clear hX8
      go_wp2
      go_ret
      exact ⟨by rw [HF.out]; rfl, hb8⟩
theorem l1Text_c (n : Int) (h0 : -4611686018427387904 < n) (h1 : n < 4611686018427387904) (w : World) : Calls Tryz.prog 151 #[.int .i64 n] w fun e w' => e = .returned (.string (Pl.itoaB n)) ∧ Below w.heap.size w w' := by
  by_cases hn : n < 0
  · obtain ⟨m, hm⟩ : ∃ m : Nat, -n = m := ⟨(-n).toNat, by omega⟩
    have HF : Hid (Pl.itoaB n = ⟨#[45]⟩ ++ Pl.decB m) := by show _ = _; rw [Pl.itoaB_neg hn, hm]; rfl
    have CN := l1Num_c m (by omega)
    have hsz := Pl.decB_size (n := m) (by omega)
    have h45 : (⟨#[45]⟩ : ByteArray).size = 1 := rfl
    obtain rfl : n = -(m : Int) := by omega
    have hneg : -(-(m : Int)) = (m : Int) := by omega
    clear hm
    go_enter Tryz.func151, Tryz.ntmps151
    go_wp2_with (go_at_call 150; (with_reducible refine (CN _).mono ?_); rintro e w1 ⟨rfl, hb⟩)
    go_ret
    exact ⟨by rw [HF.out]; rfl, hb⟩
  · obtain ⟨m, rfl⟩ : ∃ m : Nat, n = m := ⟨n.toNat, by omega⟩
    have HF : Hid (Pl.itoaB m = Pl.decB m) := Pl.itoaB_nat m
    have CN := l1Num_c m (by omega)
    go_enter Tryz.func151, Tryz.ntmps151
    go_wp2_with (go_at_call 150; (with_reducible refine (CN _).mono ?_); rintro e w1 ⟨rfl, hb⟩)
    go_ret
    exact ⟨by rw [HF.out]; rfl, hb⟩
set_option maxRecDepth 100000 in
theorem sayText_c (x : Say) (hn : x.Name.size ≤ 1000) (ha : -4611686018427387904 < x.At ∧ x.At < 4611686018427387904) (hv : -4611686018427387904 < x.Value ∧ x.Value < 4611686018427387904) (B : Nat) (w : World) (ht : Tab B w) :
    Calls Tryz.prog 111 #[.agg #[.string x.Name, .int .i64 x.At, .int .i64 x.Value]] w fun e w' => e = .returned (.string (Pl.sayTxt x)) ∧ Below w.heap.size w w' := by
  have HX : Hid (Pl.sayTxt x = x.Name ++ Pl.spB ++ Pl.itoaB x.At ++ Pl.spB ++ Pl.itoaB x.Value) := rfl
  have h32 : (⟨#[32]⟩ : ByteArray).size = 1 := rfl
  have hAs := Pl.itoaB_size (n := x.At) (by omega) (by omega)
  have hVs := Pl.itoaB_size (n := x.Value) (by omega) (by omega)
  obtain ⟨TA, hTA⟩ : ∃ T, Pl.itoaB x.At = T := ⟨_, rfl⟩
  obtain ⟨TV, hTV⟩ : ∃ T, Pl.itoaB x.Value = T := ⟨_, rfl⟩
  rw [hTA] at HX hAs
  rw [hTV] at HX hVs
  obtain ⟨W, hW⟩ : ∃ W, w.alloc (.cells #[.string x.Name, .int .i64 x.At, .int .i64 x.Value] 55) = W := ⟨_, rfl⟩
  have hb0 : Below w.heap.size w W := by rw [← hW]; exact below_new (Below.refl _ _) _
  have c0 : W.cell? ⟨w.heap.size, 0, none⟩ = some (.string x.Name) := by rw [← hW]; exact (Mm.Blk.new w 55 [.string x.Name, .int .i64 x.At, .int .i64 x.Value]).cell (i := 0) rfl
  have c1 : W.cell? ⟨w.heap.size, 1, none⟩ = some (.int .i64 x.At) := by rw [← hW]; exact (Mm.Blk.new w 55 [.string x.Name, .int .i64 x.At, .int .i64 x.Value]).cell (i := 1) rfl
  have c2 : W.cell? ⟨w.heap.size, 2, none⟩ = some (.int .i64 x.Value) := by rw [← hW]; exact (Mm.Blk.new w 55 [.string x.Name, .int .i64 x.At, .int .i64 x.Value]).cell (i := 2) rfl
  have CA := fun z : Und W => und_call z (itoa_c x.At (by omega) (by omega) B (und W z) ((ht.on hb0).on z.h))
  have CV := fun z : Und W => und_call z (itoa_c x.Value (by omega) (by omega) B (und W z) ((ht.on hb0).on z.h))
  rw [hTA] at CA
  rw [hTV] at CV
  clear hTA hTV
  go_enter Tryz.func111, Tryz.ntmps111
  go_wp2_with fail
  refine wp_region_und (by kernel_rfl) (by kernel_rfl) ?_
  repeat (go_big_quiet_step ((first | (first | (go_at_call 154; with_reducible exact CA _) | (go_at_call 154; with_reducible exact CV _)))))
  refine wpQuiet_nil ?_
  intro X hX
  go_wp2
  go_ret
  exact ⟨by rw [HX.out]; rfl, below_step hb0 hX⟩
set_option maxRecDepth 100000 in
theorem l13Text_c (x : Say) (hn : x.Name.size ≤ 1000) (ha : 0 ≤ x.At ∧ x.At < 4611686018427387904) (hv : -4611686018427387904 < x.Value ∧ x.Value < 4611686018427387904) (w : World) :
    Calls Tryz.prog 106 #[.agg #[.string x.Name, .int .i64 x.At, .int .i64 x.Value]] w fun e w' => e = .returned (.string (Pl.sayTxt x)) ∧ Below w.heap.size w w' := by
  have HX : Hid (Pl.sayTxt x = x.Name ++ Pl.spB ++ Pl.itoaB x.At ++ Pl.spB ++ Pl.itoaB x.Value) := rfl
  have h32 : (⟨#[32]⟩ : ByteArray).size = 1 := rfl
  have hAs := Pl.itoaB_size (n := x.At) (by omega) (by omega)
  have hVs := Pl.itoaB_size (n := x.Value) (by omega) (by omega)
  obtain ⟨TA, hTA⟩ : ∃ T, Pl.itoaB x.At = T := ⟨_, rfl⟩
  obtain ⟨TV, hTV⟩ : ∃ T, Pl.itoaB x.Value = T := ⟨_, rfl⟩
  rw [hTA] at HX hAs
  rw [hTV] at HX hVs
  obtain ⟨W, hW⟩ : ∃ W, w.alloc (.cells #[.string x.Name, .int .i64 x.At, .int .i64 x.Value] 55) = W := ⟨_, rfl⟩
  have hb0 : Below w.heap.size w W := by rw [← hW]; exact below_new (Below.refl _ _) _
  have c0 : W.cell? ⟨w.heap.size, 0, none⟩ = some (.string x.Name) := by rw [← hW]; exact (Mm.Blk.new w 55 [.string x.Name, .int .i64 x.At, .int .i64 x.Value]).cell (i := 0) rfl
  have c1 : W.cell? ⟨w.heap.size, 1, none⟩ = some (.int .i64 x.At) := by rw [← hW]; exact (Mm.Blk.new w 55 [.string x.Name, .int .i64 x.At, .int .i64 x.Value]).cell (i := 1) rfl
  have c2 : W.cell? ⟨w.heap.size, 2, none⟩ = some (.int .i64 x.Value) := by rw [← hW]; exact (Mm.Blk.new w 55 [.string x.Name, .int .i64 x.At, .int .i64 x.Value]).cell (i := 2) rfl
  obtain ⟨a, hxa⟩ : ∃ a : Nat, x.At = a := ⟨x.At.toNat, by omega⟩
  have hda : Pl.decB a = TA := by rw [← hTA, hxa, Pl.itoaB_nat]
  have CA := fun z : Und W => und_call z (l1Num_c a (by omega) (und W z))
  have CV := fun z : Und W => und_call z (l1Text_c x.Value (by omega) (by omega) (und W z))
  rw [hda, ← hxa] at CA
  rw [hTV] at CV
  clear hTA hTV hda hxa
  go_enter Tryz.func106, Tryz.ntmps106
  go_wp2_with fail
  refine wp_region_und (by kernel_rfl) (by kernel_rfl) ?_
  repeat (go_big_quiet_step ((first | (first | (go_at_call 150; with_reducible exact CA _) | (go_at_call 151; with_reducible exact CV _)))))
  refine wpQuiet_nil ?_
  intro X hX
  go_wp2
  go_ret
  exact ⟨by rw [HX.out]; rfl, below_step hb0 hX⟩
end Go.Proofs.YtbhmdnjammnlnaaGreatDoor

namespace Go.Proofs.YtbhmdnjammnlnaaGreatDoor
open Go.RowKit
attribute [local go_sem] und_cell cha_cell World.cell?_alloc_some
namespace Pl
structure SpW (c : UInt8) (s : ByteArray) (done : List ByteArray) (fr k : Nat) : Prop where
  le : fr ≤ k
  lt : k ≤ s.size
  cut : splitL c s.data.toList = done.map (fun x => x.data.toList) ++ splitL c (s.data.toList.drop fr)
  free : c ∉ (s.data.toList.drop fr).take (k - fr)
  len : done.length ≤ k
theorem SpW.start (c : UInt8) (s : ByteArray) : SpW c s [] 0 0 := ⟨Nat.le_refl _, Nat.zero_le _, rfl, by simp, Nat.le_refl _⟩
theorem bget {s : ByteArray} {k : Nat} (hk : k < s.size) : s.data.toList[k]? = some s[k] := by
  rw [List.getElem?_eq_getElem (by rw [Array.length_toList]; exact hk)]; rfl
theorem SpW.same {c : UInt8} {s : ByteArray} {done : List ByteArray} {fr k : Nat} (h : SpW c s done fr k) (hk : k < s.size) (hc : s[k] ≠ c) : SpW c s done fr (k + 1) := by
  refine ⟨by have := h.le; omega, hk, h.cut, ?_, by have := h.len; omega⟩
  have hle := h.le
  rw [show k + 1 - fr = (k - fr) + 1 by omega, List.take_add_one]
  intro hm
  rcases List.mem_append.1 hm with hm | hm
  · exact h.free hm
  · rw [List.getElem?_drop, show fr + (k - fr) = k by omega, bget hk] at hm
    simp at hm
    exact hc hm.symm
theorem extr (s : ByteArray) (a b : Nat) : (s.extract a b).data.toList = (s.data.toList.drop a).take (b - a) := Lib.extract_data s a b
theorem SpW.hit {c : UInt8} {s : ByteArray} {done : List ByteArray} {fr k : Nat} (h : SpW c s done fr k) (hk : k < s.size) (hc : s[k] = c) : SpW c s (done ++ [s.extract fr k]) (k + 1) (k + 1) := by
  refine ⟨Nat.le_refl _, hk, ?_, by simp, by rw [List.length_append]; have := h.len; simp; omega⟩
  have hle := h.le
  have e : s.data.toList.drop fr = (s.data.toList.drop fr).take (k - fr) ++ c :: s.data.toList.drop (k + 1) := by
    conv => lhs; rw [← List.take_append_drop (k - fr) (s.data.toList.drop fr)]
    rw [List.drop_drop, show fr + (k - fr) = k by omega, List.drop_eq_getElem_cons (show k < s.data.toList.length by rw [Array.length_toList]; exact hk)]
    congr 2
  rw [h.cut, e, splitL_cut h.free, List.map_append, List.append_assoc]
  congr 1
  rw [List.map_singleton, extr, List.singleton_append]
theorem SpW.stop {c : UInt8} {s : ByteArray} {done : List ByteArray} {fr : Nat} (h : SpW c s done fr s.size) : splitS c s = done ++ [s.extract fr s.size] := by
  have hl : (s.data.toList.drop fr).take (s.size - fr) = s.data.toList.drop fr := List.take_of_length_le (by rw [List.length_drop, Array.length_toList]; exact Nat.le_refl _)
  have hf := h.free
  rw [hl] at hf
  unfold splitS
  rw [h.cut, splitL_none hf, List.map_append, List.map_map]
  congr 1
  · conv => rhs; rw [← List.map_id done]
    exact List.map_congr_left fun x _ => sba_ext (by simp)
  · rw [List.map_singleton]
    congr 1
    exact sba_ext (by rw [extr, hl])
end Pl
def SplAns (l : List ByteArray) (w : World) (e : Ending) (w' : World) : Prop := ∃ A n c, e = .returned (.slice A n c) ∧ n = l.length ∧ Mm.Acc Mm.str 9 w l (.slice A n c) w'
set_option maxRecDepth 100000 in
set_option maxHeartbeats 2000000 in
theorem l3Split_c (s : ByteArray) (c : UInt8) (hs : s.size ≤ 1000000) (w : World) : Calls Tryz.prog 166 #[.string s, .int .u8 (c.toNat : Int)] w (SplAns (Pl.splitS c s) w) := by
  obtain ⟨i0, hi, hz0, hz1, hz2⟩ := info_parts Tryz.infoSt4
  go_enter Tryz.func166, Tryz.ntmps166
  go_wp2
  go_loopg [5, 6, 7] s.size (fun g o fr_ at_ wr => ∃ (k fr : Nat) (n cp : Nat) (A : Option Addr), s.size - k ≤ g ∧ k ≤ s.size ∧ fr ≤ k ∧ at_ = .int .i64 (k : Nat) ∧ fr_ = .int .i64 (fr : Nat) ∧ o = .slice A n cp ∧ n ≤ k ∧ Hid (∃ done : List ByteArray, Pl.SpW c s done fr k ∧ n = done.length ∧ Mm.Acc Mm.str 9 w done (.slice A n cp) wr))
  case atStart => exact ⟨0, 0, 0, 0, none, by omega, by omega, by omega, rfl, rfl, rfl, by omega, [], Pl.SpW.start c s, rfl, Mm.Acc.nil (Below.refl _ _)⟩
  case round =>
    obtain ⟨k, fr, n, cp, A, hgk, hk, hfr, rfl, rfl, rfl, hnk, HSE⟩ := hrel
    obtain ⟨W, rfl⟩ : ∃ W : World, W = wr := ⟨_, rfl⟩
    obtain ⟨done, HS⟩ : ∃ done, Hid (Pl.SpW c s done fr k ∧ n = done.length ∧ Mm.Acc Mm.str 9 w done (.slice A n cp) W) := HSE.out
    by_cases hlt : k < s.size
    · have hlt' : (k : Int) < (s.size : Nat) := by omega
      by_cases hc : s[k] = c
      · have hce : ((s[k].toNat : Int) == (c.toNat : Int)) = true := by rw [hc]; simp
        have HW := Lib.hid (HS.out.1.hit hlt hc)
        obtain ⟨tx, htx⟩ : ∃ tx, s.extract fr k = tx := ⟨_, rfl⟩
        have htl : tx.size ≤ maxLen := by rw [← htx, ByteArray.size_extract]; unfold maxLen; omega
        have hacc := HS.out.2.2
        have hb : Below W.heap.size W (W.alloc (.cells #[.string tx] 9)) := below_new (Below.refl _ _) _
        obtain ⟨A', n', c', hsl, -, hkc, hcm, -⟩ := hacc.form
        injection hsl with e1 e2 e3
        subst e1; subst e2; subst e3
        obtain ⟨l0, ho, hnext⟩ := hacc.push hb (x := tx) (cx := [.string tx]) (fx := []) ⟨rfl, htl, rfl⟩ List.nodup_nil (fun b hb => by cases hb)
        have HL := Lib.hid HS.out.2.1
        rw [← HL.out] at ho hnext
        have HNX := Lib.hid hnext
        have HTX := Lib.hid htx
        clear hnext hacc
        clear hc
        go_wp2_with (((at_builtin; refine wpList_append_lies _ (by rfl) _ _ _ (by rfl) 0 9 i0 _ 1 16 Tryz.underlying142 hi hz0 hz1 hz2 rfl (by omega) _ n l0 (by rfl) ho ⟨W.heap.size, 0, none⟩ 1 1 [.string tx] (by rfl) (by rfl) (World.news_of_block (B := W.heap.size) (cs := #[.string tx]) (t := 9) (fr := (0, 0)) (Mm.heap_new _ rfl _)) (by simp [Value.oneCell']) (by omega) (by unfold maxLen; omega) (by omega) (Nat.zero_le _) _ rfl ?_; intro gg cap w2 hown1 hgrow hat hlt9; have HAC := Lib.hid (HNX.out gg cap w2 hown1 hgrow hat); clear hown1 hgrow hat hlt9)))
        go_roundg (s.size - (k + 1))
        case measure => omega
        case rel => exact ⟨k + 1, k + 1, n + 1, cap, _, Nat.le_refl _, by omega, by omega, by go_num, by go_num, rfl, by omega, done ++ [tx], by rw [← HTX.out]; exact HW.out, by rw [List.length_append, ← HL.out]; rfl, HAC.out⟩
      · have hce : ((s[k].toNat : Int) == (c.toNat : Int)) = false := by
          rw [beq_eq_false_iff_ne]
          intro e
          exact hc (UInt8.toNat_inj.1 (by omega))
        have HW := Lib.hid (HS.out.1.same hlt hc)
        clear hc
        go_wp2
        go_roundg (s.size - (k + 1))
        case measure => omega
        case rel => exact ⟨k + 1, fr, n, cp, A, Nat.le_refl _, by omega, by omega, by go_num, rfl, rfl, by omega, done, HW.out, HS.out.2.1, HS.out.2.2⟩
    · obtain rfl : k = s.size := by omega
      have HE := Lib.hid HS.out.1.stop
      obtain ⟨tx, htx⟩ : ∃ tx, s.extract fr s.size = tx := ⟨_, rfl⟩
      have htl : tx.size ≤ maxLen := by rw [← htx, ByteArray.size_extract]; unfold maxLen; omega
      have hacc := HS.out.2.2
      have hb : Below W.heap.size W (W.alloc (.cells #[.string tx] 9)) := below_new (Below.refl _ _) _
      obtain ⟨A', n', c', hsl, -, hkc, hcm, -⟩ := hacc.form
      injection hsl with e1 e2 e3
      subst e1; subst e2; subst e3
      obtain ⟨l0, ho, hnext⟩ := hacc.push hb (x := tx) (cx := [.string tx]) (fx := []) ⟨rfl, htl, rfl⟩ List.nodup_nil (fun b hb => by cases hb)
      have HL := Lib.hid HS.out.2.1
      rw [← HL.out] at ho hnext
      have HNX := Lib.hid hnext
      have HTX := Lib.hid htx
      clear hnext hacc
      go_wp2_with (((at_builtin; refine wpList_append_lies _ (by rfl) _ _ _ (by rfl) 0 9 i0 _ 1 16 Tryz.underlying142 hi hz0 hz1 hz2 rfl (by omega) _ n l0 (by rfl) ho ⟨W.heap.size, 0, none⟩ 1 1 [.string tx] (by rfl) (by rfl) (World.news_of_block (B := W.heap.size) (cs := #[.string tx]) (t := 9) (fr := (0, 0)) (Mm.heap_new _ rfl _)) (by simp [Value.oneCell']) (by omega) (by unfold maxLen; omega) (by omega) (Nat.zero_le _) _ rfl ?_; intro gg cap w2 hown1 hgrow hat hlt9; have HAC := Lib.hid (HNX.out gg cap w2 hown1 hgrow hat); clear hown1 hgrow hat hlt9)))
      go_ret
      exact ⟨_, n + 1, cap, rfl, by rw [HE.out, List.length_append, ← HL.out]; rfl, by rw [HE.out, HTX.out]; exact HAC.out⟩
end Go.Proofs.YtbhmdnjammnlnaaGreatDoor

namespace Go.Proofs.YtbhmdnjammnlnaaGreatDoor
open Go.RowKit
attribute [local go_sem] und_cell cha_cell World.cell?_alloc_some
namespace Pl
def Tail13 (L T : List UInt8) (neg : Bool) : Prop := if neg = true then L = 45 :: T else L = T ∧ ∀ b r, T = b :: r → b ≠ 45
theorem nd_le {u : Nat} (h : u < 10000000000) : Lib.nDigits u ≤ 10 := by
  rcases Nat.lt_or_ge 10 (Lib.nDigits u) with h1 | h1
  · by_cases h0 : u = 0
    · subst h0; rw [Lib.nDigits_small (by decide)] at h1; omega
    · exfalso
      have h2 : ∀ k, u < 10 ^ (k + 1) → Lib.nDigits u ≤ k + 1 := by
        intro k
        induction k with
        | zero => intro hk; rw [Lib.nDigits_small (by simpa using hk)]; exact Nat.le_refl _
        | succ k ih =>
          intro hk
          by_cases h3 : u < 10 ^ (k + 1)
          · have := ih h3; omega
          · rw [Lib.nDigits_unique (k + 1) u (by omega) hk]; exact Nat.le_refl _
      have := h2 9 (by simpa using h)
      omega
  · exact h1
theorem int13_tail {L T : List UInt8} {neg : Bool} {m : Int} (ht : Tail13 L T neg) (h : int13 L m) : T = Lib.decDigits m.natAbs ∧ (neg = true ↔ m < 0) ∧ 1 ≤ T.length ∧ T.length ≤ 10 ∧ (∀ b, b ∈ T → 48 ≤ b.toNat ∧ b.toNat ≤ 57) ∧ Lib.decFrom 0 T = some m.natAbs := by
  obtain ⟨h1, h2, h3⟩ := h
  have key : T = Lib.decDigits m.natAbs ∧ (neg = true ↔ m < 0) := by
    unfold Lib.itoa at h3
    unfold Tail13 at ht
    by_cases hm : m < 0
    · rw [if_pos hm] at h3
      cases neg with
      | true =>
        rw [if_pos rfl] at ht
        rw [ht, List.cons.injEq] at h3
        exact ⟨h3.2.symm, fun _ => hm, fun _ => rfl⟩
      | false =>
        rw [if_neg (by decide)] at ht
        exact absurd rfl (ht.2 45 _ (by rw [← ht.1, ← h3]))
    · rw [if_neg hm] at h3
      have e : m.toNat = m.natAbs := by omega
      rw [e] at h3
      cases neg with
      | true =>
        rw [if_pos rfl] at ht
        have := digits_mem m.natAbs 45 (by rw [h3, ht]; exact List.mem_cons_self ..)
        simp at this
      | false =>
        rw [if_neg (by decide)] at ht
        exact ⟨by rw [← ht.1, ← h3], (fun h => by cases h), fun h => absurd h hm⟩
  obtain ⟨k1, k2⟩ := key
  have hl := Lib.decDigits_length m.natAbs
  have hp := Lib.nDigits_pos m.natAbs
  have hq := nd_le (u := m.natAbs) (by omega)
  refine ⟨k1, k2, by rw [k1, hl]; exact hp, by rw [k1, hl]; exact hq, by rw [k1]; exact digits_mem _, by rw [k1]; exact decFrom_digits _⟩
theorem digitVal_yes {b : UInt8} (h : 48 ≤ b.toNat ∧ b.toNat ≤ 57) : Lib.digitVal b = some (b.toNat - 48) := by unfold Lib.digitVal; exact if_pos h
end Pl
def Int13Ans (s : ByteArray) (w : World) (e : Ending) (w' : World) : Prop :=
  ∃ n ok, e = .returned (.tuple #[.int .i64 n, .bool ok]) ∧ Below w.heap.size w w' ∧ Mm.I64 n ∧ (ok = true → Pl.int13 s.data.toList n) ∧ (ok = false → ∀ m, ¬ Pl.int13 s.data.toList m)
theorem Int13Ans.no {s : ByteArray} {w w' : World} (h : ∀ m, ¬ Pl.int13 s.data.toList m) (hb : Below w.heap.size w w') : Int13Ans s w (.returned (.tuple #[.int .i64 0, .bool false])) w' :=
  ⟨0, false, rfl, hb, by unfold Mm.I64; omega, (fun h => by cases h), fun _ => h⟩
theorem Int13Ans.end_ {s : ByteArray} {T : List UInt8} {neg : Bool} {n : Int} {k : Nat} {w w' : World} (ht : Pl.Tail13 s.data.toList T neg) (hd : Lib.decFrom 0 T = some k) (hk : k < 10000000000) (hn : n = if neg = true then -(k : Int) else (k : Int)) (hb : Below w.heap.size w w') {ok : Bool} (hok : ok = true ↔ Pl.itoaB n = s) : Int13Ans s w (.returned (.tuple #[.int .i64 n, .bool ok])) w' := by
  refine ⟨n, ok, rfl, hb, ?_, fun h => ?_, fun h m hm => ?_⟩
  · unfold Mm.I64; split at hn <;> omega
  · refine ⟨by split at hn <;> omega, by split at hn <;> omega, ?_⟩
    have := hok.1 h
    rw [← this]; simp [Pl.itoaB]
  · obtain ⟨-, h2, -, -, -, h6⟩ := Pl.int13_tail ht hm
    rw [hd] at h6
    injection h6 with h6
    have : n = m := by
      cases neg with
      | true => rw [if_pos rfl] at hn; have := h2.1 rfl; omega
      | false => rw [if_neg (by decide)] at hn; have : ¬ m < 0 := fun h => by have := h2.2 h; cases this
                 omega
    subst this
    have : ok = true := hok.2 (Pl.sba_ext (by rw [← hm.2.2]; simp [Pl.itoaB]))
    rw [h] at this; cases this
set_option maxRecDepth 100000 in
set_option maxHeartbeats 2000000 in
theorem l13Int_c (s : ByteArray) (hs : s.size ≤ 1000000) (w : World) : Calls Tryz.prog 167 #[.string s] w (Int13Ans s w) := by
  have hl0 : s.data.toList.length = s.size := by rw [Array.length_toList]; rfl
  by_cases h0 : s.size = 0
  · have HT : Hid (Pl.Tail13 s.data.toList s.data.toList false) := ⟨rfl, fun b r e => by rw [e] at hl0; simp at hl0; omega⟩
    have h0' : ¬ ((0 : Int) < (s.size : Nat)) := by omega
    clear hl0
    go_enter Tryz.func167, Tryz.ntmps167
    go_upto_region 5 with fail
    clear h0 h0'
    by_cases hl : 1 ≤ s.size ∧ s.size ≤ 10
    · obtain ⟨hl1, hl2⟩ := hl
      have hin : Pl.isIn (s.size : Int) 1 10 = true := by unfold Pl.isIn; simp; omega
      go_wp2_with (go_at_call 68; refine (l1In_isJ hin _).mono ?_; rintro e w' ⟨rfl, rfl⟩)
      go_loopg [6, 7] s.size (fun g n_ i_ wr => ∃ k m : Nat, s.size - k ≤ g ∧ k ≤ s.size ∧ i_ = .int .i64 (k : Nat) ∧ n_ = .int .i64 (m : Nat) ∧ m < 10000000000 ∧ Hid (Lib.decFrom 0 (s.data.toList.take k) = some m ∧ m < 10 ^ k) ∧ wr = w)
      case atStart => exact ⟨0, 0, by omega, by omega, rfl, rfl, by omega, ⟨rfl, by decide⟩, rfl⟩
      case round =>
        obtain ⟨k, m, hgk, hk, rfl, rfl, hm, HD, rfl⟩ := hrel
        by_cases hlt : k < s.size
        · have hlt' : (k : Int) < (s.size : Nat) := by omega
          have hbm := Pl.bget hlt
          have HBM : Hid (s[k] ∈ s.data.toList) := List.mem_of_getElem? hbm
          have hk9 : 10 ^ k ≤ 10 ^ 9 := Nat.pow_le_pow_right (by decide) (by omega)
          have hm9 : m < 1000000000 := Nat.lt_of_lt_of_le HD.out.2 hk9
          clear hk9
          by_cases h48 : (s[k].toNat : Int) < 48
          · have HN : Hid (∀ m, ¬ Pl.int13 s.data.toList m) := fun m hm => by
              have := (Pl.int13_tail HT.out hm).2.2.2.2.1 s[k] HBM.out
              omega
            go_wp2
            go_ret2
            exact Int13Ans.no HN.out (Below.refl _ _)
          · by_cases h57 : (57 : Int) < (s[k].toNat : Int)
            · have HN : Hid (∀ m, ¬ Pl.int13 s.data.toList m) := fun m hm => by
                have := (Pl.int13_tail HT.out hm).2.2.2.2.1 s[k] HBM.out
                omega
              go_wp2
              go_ret2
              exact Int13Ans.no HN.out (Below.refl _ _)
            · have HS : Hid (Lib.decFrom 0 (s.data.toList.take (k + 1)) = some (m * 10 + (s[k].toNat - 48)) ∧ m * 10 + (s[k].toNat - 48) < 10 ^ (k + 1)) := by
                refine ⟨Lib.decFrom_take _ k 0 m s[k] _ HD.out.1 hbm (Pl.digitVal_yes (by omega)), ?_⟩
                have := HD.out.2
                rw [Nat.pow_succ]; omega
              clear hbm HBM
              go_wp2
              go_roundg (s.size - (k + 1))
              case measure => omega
              case rel => exact ⟨k + 1, m * 10 + (s[k].toNat - 48), Nat.le_refl _, by omega, by go_num, by go_num, by omega, HS.out, rfl⟩
        · obtain rfl : k = s.size := by omega
          have HDD : Hid (Lib.decFrom 0 s.data.toList = some m) := by
            have := HD.out.1
            rwa [List.take_of_length_le (by rw [Array.length_toList]; exact Nat.le_refl _)] at this
          have CT := l1Text_c (m : Int) (by omega) (by omega)
          obtain ⟨TX, hTX⟩ : ∃ T, Pl.itoaB ((m : Int)) = T := ⟨_, rfl⟩
          rw [hTX] at CT
          by_cases hq : TX = s
          · subst hq
            go_wp2_with (go_at_call 151; (with_reducible refine (CT _).mono ?_); rintro e w' ⟨rfl, hb⟩)
            go_ret2
            exact Int13Ans.end_ HT.out HDD.out hm rfl hb (by simp [hTX])
          · have hq' : ¬ (TX.toList = s.toList) := fun e => hq (Pl.ba_inj e)
            go_wp2_with (go_at_call 151; (with_reducible refine (CT _).mono ?_); rintro e w' ⟨rfl, hb⟩)
            go_ret2
            exact Int13Ans.end_ HT.out HDD.out hm rfl hb (by simp [hTX, hq, hq'])
    · have hin : Pl.isIn (s.size : Int) 1 10 = false := by unfold Pl.isIn; simp; omega
      have HN : Hid (∀ m, ¬ Pl.int13 s.data.toList m) := fun m hm => by
        have h1 := Pl.int13_tail HT.out hm
        have h2 : s.data.toList.length = s.size := by rw [Array.length_toList]; rfl
        omega
      go_wp2_with (go_at_call 68; refine (l1In_isJ hin _).mono ?_; rintro e w' ⟨rfl, rfl⟩)
      go_ret2
      exact Int13Ans.no HN.out (Below.refl _ _)
  · have h0' : (0 : Int) < (s.size : Nat) := by omega
    have h0n : 0 < s.size := by omega
    have hg := Pl.bget h0n
    by_cases h45 : s[0] = 45
    · obtain ⟨tb, htb⟩ : ∃ tb, s.extract 1 s.size = tb := ⟨_, rfl⟩
      have HT : Hid (Pl.Tail13 s.data.toList tb.data.toList true) := by
        show s.data.toList = _
        rw [← htb, Pl.extr, List.take_of_length_le (by rw [List.length_drop, hl0]; exact Nat.le_refl _)]
        rw [h45] at hg
        exact (List.drop_eq_getElem_cons (l := s.data.toList) (i := 0) (by omega)).trans (by rw [(List.getElem?_eq_some_iff.1 hg).2])
      have hts : tb.size ≤ 1000000 := by rw [← htb, ByteArray.size_extract]; omega
      have h45' : ((s[0].toNat : Int) == 45) = true := by rw [h45]; rfl
      clear hl0 hg h45
      go_enter Tryz.func167, Tryz.ntmps167
      go_upto_region 5 with fail
      clear htb h0 h0'
      by_cases hl : 1 ≤ tb.size ∧ tb.size ≤ 10
      · obtain ⟨hl1, hl2⟩ := hl
        have hin : Pl.isIn (tb.size : Int) 1 10 = true := by unfold Pl.isIn; simp; omega
        go_wp2_with (go_at_call 68; refine (l1In_isJ hin _).mono ?_; rintro e w' ⟨rfl, rfl⟩)
        go_loopg [6, 7] tb.size (fun g n_ i_ wr => ∃ k m : Nat, tb.size - k ≤ g ∧ k ≤ tb.size ∧ i_ = .int .i64 (k : Nat) ∧ n_ = .int .i64 (m : Nat) ∧ m < 10000000000 ∧ Hid (Lib.decFrom 0 (tb.data.toList.take k) = some m ∧ m < 10 ^ k) ∧ wr = w)
        case atStart => exact ⟨0, 0, by omega, by omega, rfl, rfl, by omega, ⟨rfl, by decide⟩, rfl⟩
        case round =>
          obtain ⟨k, m, hgk, hk, rfl, rfl, hm, HD, rfl⟩ := hrel
          by_cases hlt : k < tb.size
          · have hlt' : (k : Int) < (tb.size : Nat) := by omega
            have hbm := Pl.bget hlt
            have HBM : Hid (tb[k] ∈ tb.data.toList) := List.mem_of_getElem? hbm
            have hk9 : 10 ^ k ≤ 10 ^ 9 := Nat.pow_le_pow_right (by decide) (by omega)
            have hm9 : m < 1000000000 := Nat.lt_of_lt_of_le HD.out.2 hk9
            clear hk9
            by_cases h48 : (tb[k].toNat : Int) < 48
            · have HN : Hid (∀ m, ¬ Pl.int13 s.data.toList m) := fun m hm => by
                have := (Pl.int13_tail HT.out hm).2.2.2.2.1 tb[k] HBM.out
                omega
              go_wp2
              go_ret2
              exact Int13Ans.no HN.out (Below.refl _ _)
            · by_cases h57 : (57 : Int) < (tb[k].toNat : Int)
              · have HN : Hid (∀ m, ¬ Pl.int13 s.data.toList m) := fun m hm => by
                  have := (Pl.int13_tail HT.out hm).2.2.2.2.1 tb[k] HBM.out
                  omega
                go_wp2
                go_ret2
                exact Int13Ans.no HN.out (Below.refl _ _)
              · have HS : Hid (Lib.decFrom 0 (tb.data.toList.take (k + 1)) = some (m * 10 + (tb[k].toNat - 48)) ∧ m * 10 + (tb[k].toNat - 48) < 10 ^ (k + 1)) := by
                  refine ⟨Lib.decFrom_take _ k 0 m tb[k] _ HD.out.1 hbm (Pl.digitVal_yes (by omega)), ?_⟩
                  have := HD.out.2
                  rw [Nat.pow_succ]; omega
                clear hbm HBM
                go_wp2
                go_roundg (tb.size - (k + 1))
                case measure => omega
                case rel => exact ⟨k + 1, m * 10 + (tb[k].toNat - 48), Nat.le_refl _, by omega, by go_num, by go_num, by omega, HS.out, rfl⟩
          · obtain rfl : k = tb.size := by omega
            have HDD : Hid (Lib.decFrom 0 tb.data.toList = some m) := by
              have := HD.out.1
              rwa [List.take_of_length_le (by rw [Array.length_toList]; exact Nat.le_refl _)] at this
            have CT := l1Text_c (-(m : Int)) (by omega) (by omega)
            obtain ⟨TX, hTX⟩ : ∃ T, Pl.itoaB ((-(m : Int))) = T := ⟨_, rfl⟩
            rw [hTX] at CT
            by_cases hq : TX = s
            · subst hq
              go_wp2_with (go_at_call 151; (with_reducible refine (CT _).mono ?_); rintro e w' ⟨rfl, hb⟩)
              go_ret2
              exact Int13Ans.end_ HT.out HDD.out hm rfl hb (by simp [hTX])
            · have hq' : ¬ (TX.toList = s.toList) := fun e => hq (Pl.ba_inj e)
              go_wp2_with (go_at_call 151; (with_reducible refine (CT _).mono ?_); rintro e w' ⟨rfl, hb⟩)
              go_ret2
              exact Int13Ans.end_ HT.out HDD.out hm rfl hb (by simp [hTX, hq, hq'])
      · have hin : Pl.isIn (tb.size : Int) 1 10 = false := by unfold Pl.isIn; simp; omega
        have HN : Hid (∀ m, ¬ Pl.int13 s.data.toList m) := fun m hm => by
          have h1 := Pl.int13_tail HT.out hm
          have h2 : tb.data.toList.length = tb.size := by rw [Array.length_toList]; rfl
          omega
        go_wp2_with (go_at_call 68; refine (l1In_isJ hin _).mono ?_; rintro e w' ⟨rfl, rfl⟩)
        go_ret2
        exact Int13Ans.no HN.out (Below.refl _ _)
    · have HT : Hid (Pl.Tail13 s.data.toList s.data.toList false) := ⟨rfl, fun b r e hb => by
        rw [e, hb] at hg
        simp at hg
        exact h45 hg.symm⟩
      have h45' : ((s[0].toNat : Int) == 45) = false := by
        rw [beq_eq_false_iff_ne]
        intro e
        exact h45 (UInt8.toNat_inj.1 (by have : (45 : UInt8).toNat = 45 := rfl; omega))
      clear hl0 hg h45
      go_enter Tryz.func167, Tryz.ntmps167
      go_upto_region 5 with fail
      clear h0 h0'
      by_cases hl : 1 ≤ s.size ∧ s.size ≤ 10
      · obtain ⟨hl1, hl2⟩ := hl
        have hin : Pl.isIn (s.size : Int) 1 10 = true := by unfold Pl.isIn; simp; omega
        go_wp2_with (go_at_call 68; refine (l1In_isJ hin _).mono ?_; rintro e w' ⟨rfl, rfl⟩)
        go_loopg [6, 7] s.size (fun g n_ i_ wr => ∃ k m : Nat, s.size - k ≤ g ∧ k ≤ s.size ∧ i_ = .int .i64 (k : Nat) ∧ n_ = .int .i64 (m : Nat) ∧ m < 10000000000 ∧ Hid (Lib.decFrom 0 (s.data.toList.take k) = some m ∧ m < 10 ^ k) ∧ wr = w)
        case atStart => exact ⟨0, 0, by omega, by omega, rfl, rfl, by omega, ⟨rfl, by decide⟩, rfl⟩
        case round =>
          obtain ⟨k, m, hgk, hk, rfl, rfl, hm, HD, rfl⟩ := hrel
          by_cases hlt : k < s.size
          · have hlt' : (k : Int) < (s.size : Nat) := by omega
            have hbm := Pl.bget hlt
            have HBM : Hid (s[k] ∈ s.data.toList) := List.mem_of_getElem? hbm
            have hk9 : 10 ^ k ≤ 10 ^ 9 := Nat.pow_le_pow_right (by decide) (by omega)
            have hm9 : m < 1000000000 := Nat.lt_of_lt_of_le HD.out.2 hk9
            clear hk9
            by_cases h48 : (s[k].toNat : Int) < 48
            · have HN : Hid (∀ m, ¬ Pl.int13 s.data.toList m) := fun m hm => by
                have := (Pl.int13_tail HT.out hm).2.2.2.2.1 s[k] HBM.out
                omega
              go_wp2
              go_ret2
              exact Int13Ans.no HN.out (Below.refl _ _)
            · by_cases h57 : (57 : Int) < (s[k].toNat : Int)
              · have HN : Hid (∀ m, ¬ Pl.int13 s.data.toList m) := fun m hm => by
                  have := (Pl.int13_tail HT.out hm).2.2.2.2.1 s[k] HBM.out
                  omega
                go_wp2
                go_ret2
                exact Int13Ans.no HN.out (Below.refl _ _)
              · have HS : Hid (Lib.decFrom 0 (s.data.toList.take (k + 1)) = some (m * 10 + (s[k].toNat - 48)) ∧ m * 10 + (s[k].toNat - 48) < 10 ^ (k + 1)) := by
                  refine ⟨Lib.decFrom_take _ k 0 m s[k] _ HD.out.1 hbm (Pl.digitVal_yes (by omega)), ?_⟩
                  have := HD.out.2
                  rw [Nat.pow_succ]; omega
                clear hbm HBM
                go_wp2
                go_roundg (s.size - (k + 1))
                case measure => omega
                case rel => exact ⟨k + 1, m * 10 + (s[k].toNat - 48), Nat.le_refl _, by omega, by go_num, by go_num, by omega, HS.out, rfl⟩
          · obtain rfl : k = s.size := by omega
            have HDD : Hid (Lib.decFrom 0 s.data.toList = some m) := by
              have := HD.out.1
              rwa [List.take_of_length_le (by rw [Array.length_toList]; exact Nat.le_refl _)] at this
            have CT := l1Text_c (m : Int) (by omega) (by omega)
            obtain ⟨TX, hTX⟩ : ∃ T, Pl.itoaB ((m : Int)) = T := ⟨_, rfl⟩
            rw [hTX] at CT
            by_cases hq : TX = s
            · subst hq
              go_wp2_with (go_at_call 151; (with_reducible refine (CT _).mono ?_); rintro e w' ⟨rfl, hb⟩)
              go_ret2
              exact Int13Ans.end_ HT.out HDD.out hm rfl hb (by simp [hTX])
            · have hq' : ¬ (TX.toList = s.toList) := fun e => hq (Pl.ba_inj e)
              go_wp2_with (go_at_call 151; (with_reducible refine (CT _).mono ?_); rintro e w' ⟨rfl, hb⟩)
              go_ret2
              exact Int13Ans.end_ HT.out HDD.out hm rfl hb (by simp [hTX, hq, hq'])
      · have hin : Pl.isIn (s.size : Int) 1 10 = false := by unfold Pl.isIn; simp; omega
        have HN : Hid (∀ m, ¬ Pl.int13 s.data.toList m) := fun m hm => by
          have h1 := Pl.int13_tail HT.out hm
          have h2 : s.data.toList.length = s.size := by rw [Array.length_toList]; rfl
          omega
        go_wp2_with (go_at_call 68; refine (l1In_isJ hin _).mono ?_; rintro e w' ⟨rfl, rfl⟩)
        go_ret2
        exact Int13Ans.no HN.out (Below.refl _ _)
end Go.Proofs.YtbhmdnjammnlnaaGreatDoor

namespace Go.Proofs.YtbhmdnjammnlnaaGreatDoor
open Go.RowKit
attribute [local go_sem] und_cell cha_cell World.cell?_alloc_some
theorem Mm.SepF.headIn {F : List Nat} {w0 wr : World} {ts : List Mm.Thing} {g : Nat} {x : Head} {cs : List Value} {fp : List Nat} (h : Mm.SepF F w0 wr (Mm.tblk g 73 cs :: Mm.tow rHead x cs fp :: ts)) : Mm.SepF F w0 wr (Mm.tsl rHead 73 [x] (.slice (some ⟨g, 0, none⟩) 1 1) (g :: fp) :: ts) := by
  refine Mm.SepF.headOne (h.conv (us := Mm.tptr rHead 73 g x fp :: ts) (by simp [Mm.tptr, Mm.tblk, Mm.tow]) (List.forall_mem_cons.2 ⟨⟨cs, h.at_ 0 rfl, h.at_ 1 rfl⟩, fun u hu => h.hold u (List.mem_cons_of_mem _ (List.mem_cons_of_mem _ hu))⟩))
theorem Mm.SepF.headOut {F : List Nat} {w0 wr : World} {ts : List Mm.Thing} {g : Nat} {x : Head} {fp : List Nat} (h : Mm.SepF F w0 wr (Mm.tsl rHead 73 [x] (.slice (some ⟨g, 0, none⟩) 1 1) fp :: ts)) : ∃ A n c fp', Mm.SepF F w0 wr (Mm.tblk g 73 [.slice A n c, .int .i64 x.Offset] :: Mm.tow rHead x [.slice A n c, .int .i64 x.Offset] fp' :: ts) := by
  obtain ⟨fp', h1⟩ := h.headPtr
  obtain ⟨cs, hb, ho⟩ : ∃ cs, Mm.Blk wr g 73 cs ∧ rHead.own wr x cs fp' := h1.at_ 0 rfl
  obtain ⟨A, n, c, f, rfl, -⟩ := rHead_own ho
  refine ⟨A, n, c, fp', h1.conv (by simp [Mm.tptr, Mm.tblk, Mm.tow]) (List.forall_mem_cons.2 ⟨hb, List.forall_mem_cons.2 ⟨ho, fun u hu => h1.hold u (List.mem_cons_of_mem _ hu)⟩⟩)⟩
set_option maxRecDepth 100000 in
theorem isSay_c (x : Say) (w : World) (hn : x.Name.size ≤ maxLen) :
    Calls Tryz.prog 92 #[.agg #[.string x.Name, .int .i64 x.At, .int .i64 x.Value]] w fun e w' => e = .returned (.bool (Pl.sayOk x)) ∧ Below w.heap.size w w' := by
  have HF : Hid (Pl.sayOk x = (Pl.word false x.Name.data.toList && Pl.sampleOk ⟨x.At, x.Value⟩)) := rfl
  have HB := Lib.hid (below_new (Below.refl w.heap.size w) (.cells #[.string x.Name, .int .i64 x.At, .int .i64 x.Value] 55))
  have CW := fun W => isWord_c x.Name false W hn
  cases hw : Pl.word false x.Name.data.toList with
  | false =>
    rw [hw] at CW
    rw [HF.out, hw]
    clear hw
    go_enter Tryz.func92, Tryz.ntmps92
    go_wp2_with (go_at_call 85; (with_reducible refine (CW _).mono ?_); clear CW; rintro e w' ⟨rfl, rfl⟩)
    go_ret
    exact ⟨rfl, HB.out⟩
  | true =>
    rw [hw] at CW
    rw [HF.out, hw]
    have CS := fun W => isSample_c ⟨x.At, x.Value⟩ W
    obtain ⟨sb, hsb⟩ : ∃ sb, Pl.sampleOk ⟨x.At, x.Value⟩ = sb := ⟨_, rfl⟩
    rw [hsb] at CS ⊢
    clear hw hsb
    go_enter Tryz.func92, Tryz.ntmps92
    go_wp2_with first
      | (go_at_call 85; (with_reducible refine (CW _).mono ?_); clear CW; rintro e w' ⟨rfl, rfl⟩)
      | (go_at_call 138; (with_reducible refine (CS _).mono ?_); clear CS; rintro e w2 ⟨rfl, hb2⟩)
    go_ret
    exact ⟨ret_bool (by simp), below_step HB.out hb2⟩
set_option maxRecDepth 100000 in
theorem l13Say_c (x : Say) (w : World) (hn : x.Name.size ≤ maxLen) :
    Calls Tryz.prog 104 #[.agg #[.string x.Name, .int .i64 x.At, .int .i64 x.Value]] w fun e w' => e = .returned (.bool (Pl.sayOk x)) ∧ Below w.heap.size w w' := by
  have HF : Hid (Pl.sayOk x = (Pl.word false x.Name.data.toList && (Pl.isIn x.At 0 1000000000 && Pl.isIn x.Value (-1000000000) 1000000000))) := rfl
  have HB := Lib.hid (below_new (Below.refl w.heap.size w) (.cells #[.string x.Name, .int .i64 x.At, .int .i64 x.Value] 55))
  have CW := fun W => l3Name_c x.Name false W hn
  have C1 := fun W => l1In_c x.At 0 1000000000 W
  have C2 := fun W => l1In_c x.Value (-1000000000) 1000000000 W
  rw [HF.out]
  obtain ⟨b1, h1⟩ : ∃ b, Pl.word false x.Name.data.toList = b := ⟨_, rfl⟩
  obtain ⟨b2, h2⟩ : ∃ b, Pl.isIn x.At 0 1000000000 = b := ⟨_, rfl⟩
  obtain ⟨b3, h3⟩ : ∃ b, Pl.isIn x.Value (-1000000000) 1000000000 = b := ⟨_, rfl⟩
  rw [h1] at CW ⊢
  rw [h2] at C1 ⊢
  rw [h3] at C2 ⊢
  clear h1 h2 h3 HF
  cases b1 <;> cases b2
  all_goals
    go_enter Tryz.func104, Tryz.ntmps104
    go_wp2_with first
      | (go_at_call 82; (with_reducible refine (CW _).mono ?_); clear CW; rintro e w' ⟨rfl, rfl⟩)
      | (go_at_call 68; (with_reducible refine (C1 _).mono ?_); clear C1; rintro e w' ⟨rfl, rfl⟩)
      | (go_at_call 68; (with_reducible refine (C2 _).mono ?_); clear C2; rintro e w' ⟨rfl, rfl⟩)
    go_ret
    exact ⟨ret_bool (by simp), HB.out⟩
end Go.Proofs.YtbhmdnjammnlnaaGreatDoor

