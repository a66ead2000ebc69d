/-
  Joined texts, in build order: Fc, Fd, Fe, Ff, Fg, Fh, Fi. Each part says what it proves; no conditions beyond those that a part names.
-/
import Derived.Test.YtihendiakgfpcaaZ04
import Derived.Test.YtihendiakgfpcaaZ07
/-
  Contracts: the reference's step of a replication, by value: a fetch (chapter 9). No conditions beyond those named.
-/
namespace Go.Proofs.Ytihendiakgfpcaa
open Go.RowKit
attribute [local go_sem] und_cell cha_cell World.cell?_alloc_some
theorem Mm.SepF.wide {F : List Nat} {w0 wr : World} {ts : List Mm.Thing} (h : Mm.SepF [] w0 wr ts) : Mm.SepF F w0 wr ts :=
  ⟨Mm.Chg.of_below h.bel0, h.nd, fun b hb => .inr ((h.new b hb).resolve_left (fun h => by cases h)), h.hold⟩
def gFind (p : Nat) : Mm.Rel := fun _ _ v ds => ∃ q : Int, v = .tuple #[.int .i64 p, .int .i64 q] ∧ ds = []
theorem gFind_in {p : Nat} {vals : List Value} {tk : List Mm.Thing} : ∃ v ds, gFind p vals tk v ds := ⟨_, _, 0, rfl, rfl⟩
set_option maxRecDepth 100000 in
set_option maxHeartbeats 2000000 in
theorem l9DoFetch_c (r : Repl) (nd : Int) (cs : List Value) (fp : List Nat) (w : World) (h : (Mm.tow rRepl r cs fp).holds w) (hnd : fp.Nodup) (hw : Pl.RW r) (k0 : 0 ≤ nd) (k1 : nd < r.Logs.length) :
    Calls Try.prog 91 #[.agg cs.toArray, .agg #[.int .i64 2, .int .i64 nd, .string ⟨#[]⟩]] w (RDoAns (Pl.rdo r ⟨2, nd, ⟨#[]⟩⟩) cs fp w) := by
  obtain ⟨A0, n0, c0, A1, n1, c1, A2, n2, c2, A3, n3, c3, f0, f1, f2, f3, rfl, rfl, i2, i3, hs⟩ := openv_Repl (Mm.SepF.one _ w h hnd)
  have hn0 : n0 = r.Logs.length := by obtain ⟨A', n', c', hv, h1, _⟩ := (hs.sl 0 rfl).form; injection hv with _ h2 _; omega
  have hn1 : n1 = r.Logs.length := by obtain ⟨A', n', c', hv, h1, _⟩ := (hs.sl 1 rfl).form; injection hv with _ h2 _; have := hw.down; omega
  have hn2 : n2 = r.InSync.length := by obtain ⟨A', n', c', hv, h1, _⟩ := (hs.sl 2 rfl).form; injection hv with _ h2 _; omega
  have hsn5 := hw.sync5
  have hp5 := hw.n5
  have hp1 := hw.n1
  have l0 : 0 ≤ r.Leader := hw.lead.1
  have l1 : r.Leader < n1 := by have := hw.lead.2; omega
  have l1' : r.Leader < n0 := by have := hw.lead.2; omega
  obtain ⟨g0, rfl, -, -⟩ := Mm.sl_addr (hs.sl 0 rfl) (by omega)
  obtain ⟨g1, rfl, -, -⟩ := Mm.sl_addr (hs.sl 1 rfl) (by have := hw.down; omega)
  have HI := Lib.hid (And.intro i2 i3)
  have HW := Lib.hid hw
  have HDL : Hid (r.Down[r.Leader.toNat]? = some (Pl.downAt r r.Leader)) := Lib.hid (hw.dat l0 hw.lead.2)
  have H0 := Lib.hid hs
  have HN := Lib.hid (And.intro hn0 (And.intro hn1 hn2))
  have hn05 : n0 ≤ 5 := by omega
  have hn15 : n1 ≤ 5 := by omega
  have hn25 : n2 ≤ 5 := by omega
  clear h hs hnd hw hn0 hn1 hn2 i2 i3
  have HDN : Hid (r.Down[nd.toNat]? = some (Pl.downAt r nd)) := Lib.hid (HW.out.dat k0 k1)
  have k1' : nd < n0 := by have := HN.out; omega
  have k1'' : nd < n1 := by have := HN.out; omega
  obtain ⟨dn, hdn⟩ : ∃ dn, Pl.downAt r nd = dn := ⟨_, rfl⟩
  obtain ⟨dl, hdl⟩ : ∃ dl, Pl.downAt r r.Leader = dl := ⟨_, rfl⟩
  rw [hdn] at HDN
  rw [hdl] at HDL
  have HED := Lib.hid (And.intro hdl hdn)
  have HK1 := Lib.hid k1
  clear hdl hdn k1
  go_enter Try.func91, Try.ntmps91
  go_upto_region 1 with fail
  obtain ⟨gr, hgr⟩ : ∃ gr, w.heap.size = gr := ⟨_, rfl⟩
  obtain ⟨gs, hgs⟩ : ∃ gs, gr + 1 = gs := ⟨_, rfl⟩
  obtain ⟨go, hgo⟩ : ∃ go, gs + 1 = go := ⟨_, rfl⟩
  obtain ⟨W, hW⟩ : ∃ W, ((w.alloc (.cells #[.slice (some ⟨g0, 0, none⟩) n0 c0, .slice (some ⟨g1, 0, none⟩) n1 c1, .int .i64 r.Leader, .int .i64 r.Epoch, .slice A2 n2 c2, .slice A3 n3 c3] 31)).alloc (.cells #[.int .i64 2, .int .i64 nd, .string ⟨#[]⟩] 53)).alloc (.cells #[.slice none 0 0, .slice none 0 0, .int .i64 0, .int .i64 0, .slice none 0 0, .slice none 0 0] 31) = W := ⟨_, rfl⟩
  have HS := Lib.hid ((((H0.out.alloc' hgr 31 [.slice (some ⟨g0, 0, none⟩) n0 c0, .slice (some ⟨g1, 0, none⟩) n1 c1, .int .i64 r.Leader, .int .i64 r.Epoch, .slice A2 n2 c2, .slice A3 n3 c3]).alloc' (g := gs) (by rw [Mm.sz1, hgr, hgs]) 53 [.int .i64 2, .int .i64 nd, .string ⟨#[]⟩]).alloc' (g := go) (by rw [Mm.sz2, hgr]; omega) 31 zRepl).atW hW)
  rw [hW, hgr, hgs, hgo]
  clear hW hgr hgs hgo
  have HSR := HS
  have d0 := HSR.out.cell (k := 0) 2 rfl rfl
  have d1 := HSR.out.cell (k := 1) 2 rfl rfl
  have d2 := HSR.out.cell (k := 2) 2 rfl rfl
  have d3 := HSR.out.cell (k := 3) 2 rfl rfl
  have d4 := HSR.out.cell (k := 4) 2 rfl rfl
  have d5 := HSR.out.cell (k := 5) 2 rfl rfl
  have b0 := HSR.out.cell (k := 0) 1 rfl rfl
  have b1 := HSR.out.cell (k := 1) 1 rfl rfl
  have b2 := HSR.out.cell (k := 2) 1 rfl rfl
  have r0 := HSR.out.cell (k := 0) 0 rfl rfl
  have r1 := HSR.out.cell (k := 1) 0 rfl rfl
  have r2 := HSR.out.cell (k := 2) 0 rfl rfl
  have r3 := HSR.out.cell (k := 3) 0 rfl rfl
  have r4 := HSR.out.cell (k := 4) 0 rfl rfl
  have r5 := HSR.out.cell (k := 5) 0 rfl rfl
  have z0 := HSR.out.frz (k := 0) 0 rfl
  have z1 := HSR.out.frz (k := 1) 0 rfl
  have z2 := HSR.out.frz (k := 2) 0 rfl
  have z3 := HSR.out.frz (k := 3) 0 rfl
  have z4 := HSR.out.frz (k := 4) 0 rfl
  have z5 := HSR.out.frz (k := 5) 0 rfl
  have el := bool_ocell (HSR.out.sl 4 rfl) (HSR.out.ndat (i := 4) rfl) HDL.out
  have en := bool_ocell (HSR.out.sl 4 rfl) (HSR.out.ndat (i := 4) rfl) HDN.out
  have CH := l1Has_c r.InSync nd A2 n2 c2 W W.heap.size ((HS.out.sl 5 rfl).weak (HS.out.sl 5 rfl).olt)
  obtain ⟨ii, hii⟩ : ∃ ii, Pl.hasI r.InSync nd = ii := ⟨_, rfl⟩
  rw [hii] at CH
  have HII := Lib.hid hii
  clear hii
  go_upto_region 11 with (go_at_call 106; (with_reducible refine CH.mono ?_); clear CH; rintro e w' ⟨rfl, rfl⟩)
  have hdo : Pl.rdo r ⟨2, nd, ⟨#[]⟩⟩ = if nd ≠ r.Leader ∧ dl = false ∧ dn = false then (Pl.rfetch r nd, true) else (r, false) := by
    rw [← HED.out.1, ← HED.out.2]
    unfold Pl.rdo
    dsimp only
    have hn := HN.out
    rw [if_neg (show ¬ (2 : Int) = 1 by omega), if_neg (by simp [ByteArray.size]; omega), if_pos rfl]
  have HDO := Lib.hid hdo
  clear hdo
  by_cases hnl : nd = r.Leader
  · have HF : Hid (Pl.rdo r ⟨2, nd, ⟨#[]⟩⟩ = (r, false)) := Lib.hid (by rw [HDO.out, if_neg (fun hh => hh.1 hnl)])
    have f1 : (nd != r.Leader) = false := by simpa using hnl
    clear hnl
    cases dl
    · skip
      go_wp2
      have HSF := Lib.hid ((((((HSR.out.setBlk (k := 0) 0 rfl (.slice (some ⟨g0, 0, none⟩) n0 c0)).setBlk (k := 1) 0 rfl (.slice (some ⟨g1, 0, none⟩) n1 c1)).setBlk (k := 2) 0 rfl (.int .i64 r.Leader)).setBlk (k := 3) 0 rfl (.int .i64 r.Epoch)).setBlk (k := 4) 0 rfl (.slice A2 n2 c2)).setBlk (k := 5) 0 rfl (.slice A3 n3 c3))
      have q0 := HSF.out.cell (k := 0) 0 rfl rfl
      have q1 := HSF.out.cell (k := 1) 0 rfl rfl
      have q2 := HSF.out.cell (k := 2) 0 rfl rfl
      have q3 := HSF.out.cell (k := 3) 0 rfl rfl
      have q4 := HSF.out.cell (k := 4) 0 rfl rfl
      have q5 := HSF.out.cell (k := 5) 0 rfl rfl
      exact bodyPost_ret (v := .tuple #[.agg #[.slice (some ⟨g0, 0, none⟩) n0 c0, .slice (some ⟨g1, 0, none⟩) n1 c1, .int .i64 r.Leader, .int .i64 r.Epoch, .slice A2 n2 c2, .slice A3 n3 c3], .bool false]) (by simp [results, Try.results91, go_sem, q0, q1, q2, q3, q4, q5]) rfl ⟨[.slice (some ⟨g0, 0, none⟩) n0 c0, .slice (some ⟨g1, 0, none⟩) n1 c1, .int .i64 r.Leader, .int .i64 r.Epoch, .slice A2 n2 c2, .slice A3 n3 c3], _, by rw [HF.out], by rw [HF.out]; exact (shutv_Repl (x := r) (HSF.out.sel [3,4,5,6] (by decide) rfl) HI.out.1 HI.out.2).left, (fun _ => ⟨rfl, rfl⟩)⟩
    · skip
      go_wp2
      have HSF := Lib.hid ((((((HSR.out.setBlk (k := 0) 0 rfl (.slice (some ⟨g0, 0, none⟩) n0 c0)).setBlk (k := 1) 0 rfl (.slice (some ⟨g1, 0, none⟩) n1 c1)).setBlk (k := 2) 0 rfl (.int .i64 r.Leader)).setBlk (k := 3) 0 rfl (.int .i64 r.Epoch)).setBlk (k := 4) 0 rfl (.slice A2 n2 c2)).setBlk (k := 5) 0 rfl (.slice A3 n3 c3))
      have q0 := HSF.out.cell (k := 0) 0 rfl rfl
      have q1 := HSF.out.cell (k := 1) 0 rfl rfl
      have q2 := HSF.out.cell (k := 2) 0 rfl rfl
      have q3 := HSF.out.cell (k := 3) 0 rfl rfl
      have q4 := HSF.out.cell (k := 4) 0 rfl rfl
      have q5 := HSF.out.cell (k := 5) 0 rfl rfl
      exact bodyPost_ret (v := .tuple #[.agg #[.slice (some ⟨g0, 0, none⟩) n0 c0, .slice (some ⟨g1, 0, none⟩) n1 c1, .int .i64 r.Leader, .int .i64 r.Epoch, .slice A2 n2 c2, .slice A3 n3 c3], .bool false]) (by simp [results, Try.results91, go_sem, q0, q1, q2, q3, q4, q5]) rfl ⟨[.slice (some ⟨g0, 0, none⟩) n0 c0, .slice (some ⟨g1, 0, none⟩) n1 c1, .int .i64 r.Leader, .int .i64 r.Epoch, .slice A2 n2 c2, .slice A3 n3 c3], _, by rw [HF.out], by rw [HF.out]; exact (shutv_Repl (x := r) (HSF.out.sel [3,4,5,6] (by decide) rfl) HI.out.1 HI.out.2).left, (fun _ => ⟨rfl, rfl⟩)⟩
  have f1 : (nd != r.Leader) = true := by simpa using hnl
  cases dl with
  | true =>
    have HF : Hid (Pl.rdo r ⟨2, nd, ⟨#[]⟩⟩ = (r, false)) := Lib.hid (by rw [HDO.out, if_neg (fun hh => by cases hh.2.1)])
    clear hnl
    go_wp2
    have HSF := Lib.hid ((((((HSR.out.setBlk (k := 0) 0 rfl (.slice (some ⟨g0, 0, none⟩) n0 c0)).setBlk (k := 1) 0 rfl (.slice (some ⟨g1, 0, none⟩) n1 c1)).setBlk (k := 2) 0 rfl (.int .i64 r.Leader)).setBlk (k := 3) 0 rfl (.int .i64 r.Epoch)).setBlk (k := 4) 0 rfl (.slice A2 n2 c2)).setBlk (k := 5) 0 rfl (.slice A3 n3 c3))
    have q0 := HSF.out.cell (k := 0) 0 rfl rfl
    have q1 := HSF.out.cell (k := 1) 0 rfl rfl
    have q2 := HSF.out.cell (k := 2) 0 rfl rfl
    have q3 := HSF.out.cell (k := 3) 0 rfl rfl
    have q4 := HSF.out.cell (k := 4) 0 rfl rfl
    have q5 := HSF.out.cell (k := 5) 0 rfl rfl
    exact bodyPost_ret (v := .tuple #[.agg #[.slice (some ⟨g0, 0, none⟩) n0 c0, .slice (some ⟨g1, 0, none⟩) n1 c1, .int .i64 r.Leader, .int .i64 r.Epoch, .slice A2 n2 c2, .slice A3 n3 c3], .bool false]) (by simp [results, Try.results91, go_sem, q0, q1, q2, q3, q4, q5]) rfl ⟨[.slice (some ⟨g0, 0, none⟩) n0 c0, .slice (some ⟨g1, 0, none⟩) n1 c1, .int .i64 r.Leader, .int .i64 r.Epoch, .slice A2 n2 c2, .slice A3 n3 c3], _, by rw [HF.out], by rw [HF.out]; exact (shutv_Repl (x := r) (HSF.out.sel [3,4,5,6] (by decide) rfl) HI.out.1 HI.out.2).left, (fun _ => ⟨rfl, rfl⟩)⟩
  | false =>
    cases dn with
    | true =>
      have HF : Hid (Pl.rdo r ⟨2, nd, ⟨#[]⟩⟩ = (r, false)) := Lib.hid (by rw [HDO.out, if_neg (fun hh => by cases hh.2.2)])
      clear hnl
      go_wp2
      have HSF := Lib.hid ((((((HSR.out.setBlk (k := 0) 0 rfl (.slice (some ⟨g0, 0, none⟩) n0 c0)).setBlk (k := 1) 0 rfl (.slice (some ⟨g1, 0, none⟩) n1 c1)).setBlk (k := 2) 0 rfl (.int .i64 r.Leader)).setBlk (k := 3) 0 rfl (.int .i64 r.Epoch)).setBlk (k := 4) 0 rfl (.slice A2 n2 c2)).setBlk (k := 5) 0 rfl (.slice A3 n3 c3))
      have q0 := HSF.out.cell (k := 0) 0 rfl rfl
      have q1 := HSF.out.cell (k := 1) 0 rfl rfl
      have q2 := HSF.out.cell (k := 2) 0 rfl rfl
      have q3 := HSF.out.cell (k := 3) 0 rfl rfl
      have q4 := HSF.out.cell (k := 4) 0 rfl rfl
      have q5 := HSF.out.cell (k := 5) 0 rfl rfl
      exact bodyPost_ret (v := .tuple #[.agg #[.slice (some ⟨g0, 0, none⟩) n0 c0, .slice (some ⟨g1, 0, none⟩) n1 c1, .int .i64 r.Leader, .int .i64 r.Epoch, .slice A2 n2 c2, .slice A3 n3 c3], .bool false]) (by simp [results, Try.results91, go_sem, q0, q1, q2, q3, q4, q5]) rfl ⟨[.slice (some ⟨g0, 0, none⟩) n0 c0, .slice (some ⟨g1, 0, none⟩) n1 c1, .int .i64 r.Leader, .int .i64 r.Epoch, .slice A2 n2 c2, .slice A3 n3 c3], _, by rw [HF.out], by rw [HF.out]; exact (shutv_Repl (x := r) (HSF.out.sel [3,4,5,6] (by decide) rfl) HI.out.1 HI.out.2).left, (fun _ => ⟨rfl, rfl⟩)⟩
    | false =>
      have HF : Hid (Pl.rdo r ⟨2, nd, ⟨#[]⟩⟩ = (Pl.rfetch r nd, true)) := Lib.hid (by rw [HDO.out, if_pos ⟨hnl, rfl, rfl⟩])
      clear hnl HDO
      have ha := HW.out.ok k0 HK1.out
      have hb := HW.out.ok HW.out.lead.1 HW.out.lead.2
      have HA := Lib.hid ha
      have HBO := Lib.hid hb
      have hwk := (HSR.out.sl 3 rfl).weak (HSR.out.sl 3 rfl).olt
      obtain ⟨AK, nK, cK, _, hlk, ek⟩ := log_at' hwk k0 k1'
      obtain ⟨AL, nL, cL, _, hlL, eL⟩ := log_at' hwk l0 l1'
      have R1 := Lib.hid hlk
      have R2 := Lib.hid hlL
      have hnK : nK ≤ 40 := by rw [← hlk.1]; exact ha.len
      have hnL : nL ≤ 40 := by rw [← hlL.1]; exact hb.len
      simp only [Nat.zero_add] at ek eL
      have HEK := Lib.hid ek
      obtain ⟨i0, hi, hz0, hz1, hz2⟩ := info_parts Try.infoEntry
      clear hwk hlk hlL ha hb
      have hpl := Pl.ffind_le (Pl.logAt r nd) (Pl.logAt r r.Leader)
      rw [R1.out.1, R2.out.1] at hpl
      obtain ⟨p, hp⟩ : ∃ p, Pl.ffind (Pl.logAt r nd) (Pl.logAt r r.Leader) = p := ⟨_, rfl⟩
      have HP := Lib.hid hp
      rw [hp] at hpl
      clear hp
      go_upto_region 15 with fail
      refine Mm.wp_region_give 14 (fun i => match i with | 6 => some (Mm.gSl rStart 123 (Pl.starts (Pl.logAt r r.Leader))) | 9 => some (gFind p) | _ => none) (fun i => match i with | 9 => [6] | _ => []) (fun _ => []) (F := []) (D := fun w' => ∃ x : Und W, w' = und W x) (fun X us h => Mm.sep_und h) (by kernel_rfl) (by kernel_rfl) (by kernel_rfl) (Mm.SepF.startDrew _) ?_
      repeat (refine Mm.give_det (by rfl) (by rfl) (by rfl) (fun K hK => ?_); go_big_quiet_op; refine hK _ ?_; clear hK K)
      refine Mm.give_op0 132 (by rfl) rfl (by rfl) (by rfl) (by rfl) (by rfl) Mm.gSl_in (fun others X6 hX6 => ?_) ?_
      · go_wp2_with (go_at_call 120; (with_reducible refine (l7Starts_c (Pl.logAt r r.Leader) AL nL cL X6 W.heap.size (R2.out.keep (w' := X6) fun b hb => hX6.bel0.block b hb) hX6.bel0.size (by omega)).mono ?_); rintro e w5 ⟨A', n', c', fp', rfl, ho, hnd', hnew, hb5⟩)
        exact Mm.gvq_sl hX6 hb5 ho hnd' hnew rfl rfl
      rintro v ds ⟨AS, nS, cS, fpS, rfl, rfl, hnS⟩
      simp only [Act.put, List.setIfInBounds_toArray, List.set_cons_succ, List.set_cons_zero]
      repeat (refine Mm.give_det (by rfl) (by rfl) (by rfl) (fun K hK => ?_); go_big_quiet_op; refine hK _ ?_; clear hK K)
      refine Mm.give_op1 135 6 (by rfl) rfl (by rfl) (by rfl) (by rfl) rfl (by rfl) _ rfl gFind_in (fun others X6 hX6 => ?_) ?_
      · have hoS : Mm.SlOwn rStart 123 X6 (Pl.starts (Pl.logAt r r.Leader)) (.slice AS nS cS) fpS := hX6.sl 0 rfl
        have hszX := hX6.bel0.size
        have CF := l7Find_c (Pl.logAt r nd) (Pl.logAt r r.Leader) AK nK cK AS nS cS X6 X6.heap.size ((R1.out.keep (w' := X6) fun b hb => hX6.bel0.block b hb).more hszX) (hoS.weak hoS.olt) (Nat.le_refl _) (by omega) HA.out.ris HBO.out.ris (by have := HBO.out.len; omega)
        unfold FindAns at CF
        rw [R2.out.1, HP.out] at CF
        clear hoS
        go_wp2_with (go_at_call 119; (with_reducible refine CF.mono ?_); clear CF; rintro e w5 ⟨q, rfl, hb5⟩)
        exact ⟨rfl, rfl, _, ⟨q, rfl, rfl⟩, (hX6.step hb5).tail⟩
      rintro v ds ⟨q, rfl, rfl⟩
      simp only [Act.put, List.setIfInBounds_toArray, List.set_cons_succ, List.set_cons_zero]
      repeat (refine Mm.give_det (by rfl) (by rfl) (by rfl) (fun K hK => ?_); go_big_quiet_op; refine hK _ ?_; clear hK K)
      refine Mm.give_nil ?_
      rintro w2 hX2
      have hb2 : Below W.heap.size W w2 := hX2.bel0
      clear hX2
      have HS3 := Lib.hid (HSR.out.step hb2)
      have R3 := Lib.hid (R2.out.keep (w' := w2) fun b hb => hb2.block b hb)
      have R4 := Lib.hid (R1.out.keep (w' := w2) fun b hb => hb2.block b hb)
      have hsz2 : W.heap.size ≤ w2.heap.size := hb2.size
      have HXK := Lib.hid (HW.out.at_ k0 HK1.out)
      obtain ⟨A, m, d, fx, e0, hm, ho, hfx, hgx, hap, -, hnext⟩ := HS3.out.openIn 3 rfl HXK.out
      have hek : w2.cell? ⟨g0, nd.toNat, none⟩ = some (.slice AK nK cK) := below_some hb2 HEK.out
      rw [e0] at hek
      injection hek with hek
      injection hek with q1 q2 q3
      subst q1 q2 q3
      have HNX := Lib.hid hnext
      clear HSR
      have HSR := HS3
      clear hm hnext ho hap hfx hb2 ek eL el en HEK
      clear d0 d1 d2 d3 d4 d5 b0 b1 b2 r0 r1 r2 r3 r4 r5 z0 z1 z2 z3 z4 z5
      have d0 := HSR.out.cell (k := 0) 2 rfl rfl
      have d1 := HSR.out.cell (k := 1) 2 rfl rfl
      have d2 := HSR.out.cell (k := 2) 2 rfl rfl
      have d3 := HSR.out.cell (k := 3) 2 rfl rfl
      have d4 := HSR.out.cell (k := 4) 2 rfl rfl
      have d5 := HSR.out.cell (k := 5) 2 rfl rfl
      have hcap : m ≤ d ∧ d ≤ maxLen := ⟨R4.out.2.1, R4.out.2.2.1⟩
      unfold maxLen at hcap
      have g1' : (p : Int) ≤ (m : Nat) := by omega
      have g2' : (0 : Int) ≤ (p : Nat) := by omega
      have g3' : ((p : Nat) : Int).toNat = p := by omega
      have g4' : (p : Int) ≤ (d : Nat) := by omega
      have g5' : p ≤ d := by omega
      have HTK := Lib.hid (R4.out.take (show p ≤ m by omega))
      have HLP : Hid (((Pl.logAt r nd).take p).length = p) := Lib.hid (by rw [List.length_take, R1.out.1]; omega)
      go_upto_region 17 with (at_builtin; refine Mm.wpList_clone (by rfl) (.tmp 138) (.tmp 145) 29 (by rfl) Mm.flatA_entry i0 _ 24 Try.underlying29 hi hz0 hz1 hz2 rfl (by decide) (Mm.SepF.start w2).toSep (below_new (Below.refl _ _) _) (g := w2.heap.size) (heap_alloc_new w2 _) (Nat.le_refl _) (HTK.out.keep (fun b hb => Below.heap_alloc w2 _ b (by omega))) (by unfold maxLen; omega) (by omega) (by rfl) (by rfl) ?_; intro A5 c5 f5 w3 hs3 hb3; (have HG := Lib.hid hs3.toF); (have HSR := Lib.hid (HSR.out.step hb3)); (have R5 := Lib.hid (R3.out.keep (w' := w3) fun b hb => hb3.block b (by omega))); clear hs3 hb3)
      clear d0 d1 d2 d3 d4 d5
      have d0 := HSR.out.cell (k := 0) 2 rfl rfl
      have d1 := HSR.out.cell (k := 1) 2 rfl rfl
      have d2 := HSR.out.cell (k := 2) 2 rfl rfl
      have d3 := HSR.out.cell (k := 3) 2 rfl rfl
      have d4 := HSR.out.cell (k := 4) 2 rfl rfl
      have d5 := HSR.out.cell (k := 5) 2 rfl rfl
      by_cases hlt : p < nL
      · obtain ⟨x, b, off, hx, rfl, hb, j1, j2, e3, e4⟩ := rEntry_get R5.out hlt
        have HF2 : Hid (Pl.fetchL (Pl.logAt r nd) (Pl.logAt r r.Leader) = (Pl.logAt r nd).take p ++ [x]) := by
          have h5 := Pl.fetchL_some (a := Pl.logAt r nd) (b := Pl.logAt r r.Leader) (x := x) (by rw [HP.out]; exact hx)
          rw [HP.out] at h5
          exact Lib.hid h5
        have HXI := Lib.hid (And.intro j1 j2)
        have f4 : (p : Int) < (nL : Nat) := by omega
        clear hx j1 j2
        go_upto_region 19 with (at_builtin; refine Mm.app_list (x := x) HG.out 0 rfl rfl (.tmp 151) (.tmp 156) 29 rfl i0 _ 24 Try.underlying29 hi hz0 hz1 hz2 rfl (by decide) rfl rfl (fun W => rEntry_own_mk HXI.out) HLP.out (by unfold maxLen; omega) (by omega) ?_; intro gg cap w4 fp4 hs4; (have HGN := Lib.hid hs4); clear hs4)
        obtain ⟨z0', z1', -, fp5, z3'⟩ := HNX.out w4 _ _ _ _ _ (show Mm.SepF fx w2 w4 [Mm.tsl rEntry 111 ((Pl.logAt r nd).take p ++ [x]) (.slice (some ⟨gg, 0, none⟩) (p+1) cap) fp4] from HGN.out.wide)
        have HS5 := Lib.hid z3'
        clear z3'
        rw [← HF2.out] at HS5
        clear d0 d1 d2 d3 d4 d5 HSR
        have HSR := Lib.hid (HS3.out.step HGN.out.bel0)
        have d0 := HSR.out.cell (k := 0) 2 rfl rfl
        have d1 := HSR.out.cell (k := 1) 2 rfl rfl
        have d2 := HSR.out.cell (k := 2) 2 rfl rfl
        have d3 := HSR.out.cell (k := 3) 2 rfl rfl
        have d4 := HSR.out.cell (k := 4) 2 rfl rfl
        have d5 := HSR.out.cell (k := 5) 2 rfl rfl
        go_upto_region 31 with fail
        clear z0' z1'
        clear HSR
        have HSR := HS5
        clear HS5
        obtain ⟨XT, hXT⟩ : ∃ XT, (w4.setCell ⟨g0, nd.toNat, none⟩ (.slice (some ⟨gg, 0, none⟩) (p+1) cap)) = XT := ⟨_, rfl⟩
        rw [hXT] at HSR ⊢
        clear hXT
        clear d0 d1 d2 d3 d4 d5
        have d0 := HSR.out.cell (k := 0) 2 rfl rfl
        have d1 := HSR.out.cell (k := 1) 2 rfl rfl
        have d2 := HSR.out.cell (k := 2) 2 rfl rfl
        have d3 := HSR.out.cell (k := 3) 2 rfl rfl
        have d4 := HSR.out.cell (k := 4) 2 rfl rfl
        have d5 := HSR.out.cell (k := 5) 2 rfl rfl
        have r0 := HSR.out.cell (k := 0) 0 rfl rfl
        have r1 := HSR.out.cell (k := 1) 0 rfl rfl
        have r2 := HSR.out.cell (k := 2) 0 rfl rfl
        have r3 := HSR.out.cell (k := 3) 0 rfl rfl
        have r4 := HSR.out.cell (k := 4) 0 rfl rfl
        have r5 := HSR.out.cell (k := 5) 0 rfl rfl
        have z0 := HSR.out.frz (k := 0) 0 rfl
        have z1 := HSR.out.frz (k := 1) 0 rfl
        have z2 := HSR.out.frz (k := 2) 0 rfl
        have z3 := HSR.out.frz (k := 3) 0 rfl
        have z4 := HSR.out.frz (k := 4) 0 rfl
        have z5 := HSR.out.frz (k := 5) 0 rfl
        go_wp2
        have HSF := Lib.hid ((((((HSR.out.setBlk (k := 0) 0 rfl (.slice (some ⟨g0, 0, none⟩) n0 c0)).setBlk (k := 1) 0 rfl (.slice (some ⟨g1, 0, none⟩) n1 c1)).setBlk (k := 2) 0 rfl (.int .i64 r.Leader)).setBlk (k := 3) 0 rfl (.int .i64 r.Epoch)).setBlk (k := 4) 0 rfl (.slice A2 n2 c2)).setBlk (k := 5) 0 rfl (.slice A3 n3 c3))
        have q0 := HSF.out.cell (k := 0) 0 rfl rfl
        have q1 := HSF.out.cell (k := 1) 0 rfl rfl
        have q2 := HSF.out.cell (k := 2) 0 rfl rfl
        have q3 := HSF.out.cell (k := 3) 0 rfl rfl
        have q4 := HSF.out.cell (k := 4) 0 rfl rfl
        have q5 := HSF.out.cell (k := 5) 0 rfl rfl
        exact bodyPost_ret (v := .tuple #[.agg #[.slice (some ⟨g0, 0, none⟩) n0 c0, .slice (some ⟨g1, 0, none⟩) n1 c1, .int .i64 r.Leader, .int .i64 r.Epoch, .slice A2 n2 c2, .slice A3 n3 c3], .bool true]) (by simp [results, Try.results91, go_sem, q0, q1, q2, q3, q4, q5]) rfl ⟨[.slice (some ⟨g0, 0, none⟩) n0 c0, .slice (some ⟨g1, 0, none⟩) n1 c1, .int .i64 r.Leader, .int .i64 r.Epoch, .slice A2 n2 c2, .slice A3 n3 c3], _, by rw [HF.out], by rw [HF.out]; exact (shutv_Repl (x := (Pl.rfetch r nd)) (HSF.out.sel [3,4,5,6] (by decide) rfl) HI.out.1 HI.out.2).left, (by rw [HF.out]; intro h; cases h)⟩
      · have HF2 : Hid (Pl.fetchL (Pl.logAt r nd) (Pl.logAt r r.Leader) = (Pl.logAt r nd).take p) := by
          have h5 := Pl.fetchL_none (a := Pl.logAt r nd) (b := Pl.logAt r r.Leader) (by rw [HP.out, R2.out.1]; omega)
          rw [HP.out] at h5
          exact Lib.hid h5
        have f4 : ¬ (p : Int) < (nL : Nat) := by omega
        have HGN := HG
        go_upto_region 19 with fail
        obtain ⟨z0', z1', -, fp5, z3'⟩ := HNX.out w3 _ _ _ _ _ (show Mm.SepF fx w2 w3 [Mm.tsl rEntry 111 ((Pl.logAt r nd).take p) (.slice A5 p c5) f5] from HGN.out.wide)
        have HS5 := Lib.hid z3'
        clear z3'
        rw [← HF2.out] at HS5
        clear d0 d1 d2 d3 d4 d5 HSR
        have HSR := Lib.hid (HS3.out.step HGN.out.bel0)
        have d0 := HSR.out.cell (k := 0) 2 rfl rfl
        have d1 := HSR.out.cell (k := 1) 2 rfl rfl
        have d2 := HSR.out.cell (k := 2) 2 rfl rfl
        have d3 := HSR.out.cell (k := 3) 2 rfl rfl
        have d4 := HSR.out.cell (k := 4) 2 rfl rfl
        have d5 := HSR.out.cell (k := 5) 2 rfl rfl
        go_upto_region 31 with fail
        clear z0' z1'
        clear HSR
        have HSR := HS5
        clear HS5
        obtain ⟨XT, hXT⟩ : ∃ XT, (w3.setCell ⟨g0, nd.toNat, none⟩ (.slice A5 p c5)) = XT := ⟨_, rfl⟩
        rw [hXT] at HSR ⊢
        clear hXT
        clear d0 d1 d2 d3 d4 d5
        have d0 := HSR.out.cell (k := 0) 2 rfl rfl
        have d1 := HSR.out.cell (k := 1) 2 rfl rfl
        have d2 := HSR.out.cell (k := 2) 2 rfl rfl
        have d3 := HSR.out.cell (k := 3) 2 rfl rfl
        have d4 := HSR.out.cell (k := 4) 2 rfl rfl
        have d5 := HSR.out.cell (k := 5) 2 rfl rfl
        have r0 := HSR.out.cell (k := 0) 0 rfl rfl
        have r1 := HSR.out.cell (k := 1) 0 rfl rfl
        have r2 := HSR.out.cell (k := 2) 0 rfl rfl
        have r3 := HSR.out.cell (k := 3) 0 rfl rfl
        have r4 := HSR.out.cell (k := 4) 0 rfl rfl
        have r5 := HSR.out.cell (k := 5) 0 rfl rfl
        have z0 := HSR.out.frz (k := 0) 0 rfl
        have z1 := HSR.out.frz (k := 1) 0 rfl
        have z2 := HSR.out.frz (k := 2) 0 rfl
        have z3 := HSR.out.frz (k := 3) 0 rfl
        have z4 := HSR.out.frz (k := 4) 0 rfl
        have z5 := HSR.out.frz (k := 5) 0 rfl
        go_wp2
        have HSF := Lib.hid ((((((HSR.out.setBlk (k := 0) 0 rfl (.slice (some ⟨g0, 0, none⟩) n0 c0)).setBlk (k := 1) 0 rfl (.slice (some ⟨g1, 0, none⟩) n1 c1)).setBlk (k := 2) 0 rfl (.int .i64 r.Leader)).setBlk (k := 3) 0 rfl (.int .i64 r.Epoch)).setBlk (k := 4) 0 rfl (.slice A2 n2 c2)).setBlk (k := 5) 0 rfl (.slice A3 n3 c3))
        have q0 := HSF.out.cell (k := 0) 0 rfl rfl
        have q1 := HSF.out.cell (k := 1) 0 rfl rfl
        have q2 := HSF.out.cell (k := 2) 0 rfl rfl
        have q3 := HSF.out.cell (k := 3) 0 rfl rfl
        have q4 := HSF.out.cell (k := 4) 0 rfl rfl
        have q5 := HSF.out.cell (k := 5) 0 rfl rfl
        exact bodyPost_ret (v := .tuple #[.agg #[.slice (some ⟨g0, 0, none⟩) n0 c0, .slice (some ⟨g1, 0, none⟩) n1 c1, .int .i64 r.Leader, .int .i64 r.Epoch, .slice A2 n2 c2, .slice A3 n3 c3], .bool true]) (by simp [results, Try.results91, go_sem, q0, q1, q2, q3, q4, q5]) rfl ⟨[.slice (some ⟨g0, 0, none⟩) n0 c0, .slice (some ⟨g1, 0, none⟩) n1 c1, .int .i64 r.Leader, .int .i64 r.Epoch, .slice A2 n2 c2, .slice A3 n3 c3], _, by rw [HF.out], by rw [HF.out]; exact (shutv_Repl (x := (Pl.rfetch r nd)) (HSF.out.sel [3,4,5,6] (by decide) rfl) HI.out.1 HI.out.2).left, (by rw [HF.out]; intro h; cases h)⟩
end Go.Proofs.Ytihendiakgfpcaa

/-
  Contracts: the reference's step of a replication, by value: a write (chapter 9). No conditions beyond those named.
-/
namespace Go.Proofs.Ytihendiakgfpcaa
open Go.RowKit
attribute [local go_sem] und_cell cha_cell World.cell?_alloc_some
set_option maxRecDepth 100000 in
set_option maxHeartbeats 2000000 in
theorem l9DoWrite_c (r : Repl) (nd : Int) (tx : ByteArray) (cs : List Value) (fp : List Nat) (w : World) (h : (Mm.tow rRepl r cs fp).holds w) (hnd : fp.Nodup) (hw : Pl.RW r) :
    Calls Try.prog 91 #[.agg cs.toArray, .agg #[.int .i64 1, .int .i64 nd, .string tx]] w (RDoAns (Pl.rdo r ⟨1, nd, tx⟩) cs fp w) := by
  obtain ⟨A0, n0, c0, A1, n1, c1, A2, n2, c2, A3, n3, c3, f0, f1, f2, f3, rfl, rfl, i2, i3, hs⟩ := openv_Repl (Mm.SepF.one _ w h hnd)
  have hn0 : n0 = r.Logs.length := by obtain ⟨A', n', c', hv, h1, _⟩ := (hs.sl 0 rfl).form; injection hv with _ h2 _; omega
  have hn1 : n1 = r.Logs.length := by obtain ⟨A', n', c', hv, h1, _⟩ := (hs.sl 1 rfl).form; injection hv with _ h2 _; have := hw.down; omega
  have hn2 : n2 = r.InSync.length := by obtain ⟨A', n', c', hv, h1, _⟩ := (hs.sl 2 rfl).form; injection hv with _ h2 _; omega
  have hsn5 := hw.sync5
  have hp5 := hw.n5
  have hp1 := hw.n1
  have l0 : 0 ≤ r.Leader := hw.lead.1
  have l1 : r.Leader < n1 := by have := hw.lead.2; omega
  have l1' : r.Leader < n0 := by have := hw.lead.2; omega
  obtain ⟨g0, rfl, -, -⟩ := Mm.sl_addr (hs.sl 0 rfl) (by omega)
  obtain ⟨g1, rfl, -, -⟩ := Mm.sl_addr (hs.sl 1 rfl) (by have := hw.down; omega)
  have HI := Lib.hid (And.intro i2 i3)
  have HW := Lib.hid hw
  have HDL : Hid (r.Down[r.Leader.toNat]? = some (Pl.downAt r r.Leader)) := Lib.hid (hw.dat l0 hw.lead.2)
  have H0 := Lib.hid hs
  have HN := Lib.hid (And.intro hn0 (And.intro hn1 hn2))
  have hn05 : n0 ≤ 5 := by omega
  have hn15 : n1 ≤ 5 := by omega
  have hn25 : n2 ≤ 5 := by omega
  clear h hs hnd hw hn0 hn1 hn2 i2 i3
  have hly := HW.out.at_ HW.out.lead.1 HW.out.lead.2
  obtain ⟨ys, hys⟩ : ∃ ys, Pl.logAt r r.Leader = ys := ⟨_, rfl⟩
  rw [hys] at hly
  obtain ⟨dl, hdl⟩ : ∃ dl, Pl.downAt r r.Leader = dl := ⟨_, rfl⟩
  rw [hdl] at HDL
  obtain ⟨le, hle⟩ : ∃ le, Pl.lastEp ys = le := ⟨_, rfl⟩
  have HDO : Hid (Pl.rdo r ⟨1, nd, tx⟩ = if nd = 0 ∧ dl = false ∧ tx.size ≤ 20 ∧ ys.length ≠ 40 ∧ le ≤ r.Epoch then ({ r with Logs := r.Logs.set r.Leader.toNat (ys ++ [⟨r.Epoch, tx⟩]) }, true) else (r, false)) := by
    show _ = _
    rw [← hle, ← hys, ← hdl]
    unfold Pl.rdo
    dsimp only
    rw [if_pos rfl]
  have HY := Lib.hid hly
  have hy40 : ys.length ≤ 40 := by rw [← hys]; exact HW.out.rs.len' _
  have HLE := Lib.hid hle
  clear hly hys hdl hle
  go_enter Try.func91, Try.ntmps91
  go_upto_region 1 with fail
  obtain ⟨gr, hgr⟩ : ∃ gr, w.heap.size = gr := ⟨_, rfl⟩
  obtain ⟨gs, hgs⟩ : ∃ gs, gr + 1 = gs := ⟨_, rfl⟩
  obtain ⟨go, hgo⟩ : ∃ go, gs + 1 = go := ⟨_, rfl⟩
  obtain ⟨W, hW⟩ : ∃ W, ((w.alloc (.cells #[.slice (some ⟨g0, 0, none⟩) n0 c0, .slice (some ⟨g1, 0, none⟩) n1 c1, .int .i64 r.Leader, .int .i64 r.Epoch, .slice A2 n2 c2, .slice A3 n3 c3] 31)).alloc (.cells #[.int .i64 1, .int .i64 nd, .string tx] 53)).alloc (.cells #[.slice none 0 0, .slice none 0 0, .int .i64 0, .int .i64 0, .slice none 0 0, .slice none 0 0] 31) = W := ⟨_, rfl⟩
  have HS := Lib.hid ((((H0.out.alloc' hgr 31 [.slice (some ⟨g0, 0, none⟩) n0 c0, .slice (some ⟨g1, 0, none⟩) n1 c1, .int .i64 r.Leader, .int .i64 r.Epoch, .slice A2 n2 c2, .slice A3 n3 c3]).alloc' (g := gs) (by rw [Mm.sz1, hgr, hgs]) 53 [.int .i64 1, .int .i64 nd, .string tx]).alloc' (g := go) (by rw [Mm.sz2, hgr]; omega) 31 zRepl).atW hW)
  rw [hW, hgr, hgs, hgo]
  clear hW hgr hgs hgo
  have HSR := HS
  have d0 := HSR.out.cell (k := 0) 2 rfl rfl
  have d1 := HSR.out.cell (k := 1) 2 rfl rfl
  have d2 := HSR.out.cell (k := 2) 2 rfl rfl
  have d3 := HSR.out.cell (k := 3) 2 rfl rfl
  have d4 := HSR.out.cell (k := 4) 2 rfl rfl
  have d5 := HSR.out.cell (k := 5) 2 rfl rfl
  have b0 := HSR.out.cell (k := 0) 1 rfl rfl
  have b1 := HSR.out.cell (k := 1) 1 rfl rfl
  have b2 := HSR.out.cell (k := 2) 1 rfl rfl
  have r0 := HSR.out.cell (k := 0) 0 rfl rfl
  have r1 := HSR.out.cell (k := 1) 0 rfl rfl
  have r2 := HSR.out.cell (k := 2) 0 rfl rfl
  have r3 := HSR.out.cell (k := 3) 0 rfl rfl
  have r4 := HSR.out.cell (k := 4) 0 rfl rfl
  have r5 := HSR.out.cell (k := 5) 0 rfl rfl
  have z0 := HSR.out.frz (k := 0) 0 rfl
  have z1 := HSR.out.frz (k := 1) 0 rfl
  have z2 := HSR.out.frz (k := 2) 0 rfl
  have z3 := HSR.out.frz (k := 3) 0 rfl
  have z4 := HSR.out.frz (k := 4) 0 rfl
  have z5 := HSR.out.frz (k := 5) 0 rfl
  have el := bool_ocell (HSR.out.sl 4 rfl) (HSR.out.ndat (i := 4) rfl) HDL.out
  obtain ⟨A, m, d, fx, e0, rfl, ho, -, -, -, -, -⟩ := HSR.out.openIn 3 rfl HY.out
  have hcap : ys.length ≤ d ∧ d ≤ maxLen := by obtain ⟨A', n', c', hv, h1, h2, h3, _⟩ := ho.form; injection hv with _ h4 h5; omega
  unfold maxLen at hcap
  have CL := fun z : Und W => und_same z (l7Last_c ys A ys.length d (und W z) W.heap.size ((ho.weak ho.olt).und (Nat.le_refl _) z))
  rw [HLE.out] at CL
  clear ho
  by_cases h0 : nd = 0
  rotate_left
  · have HF : Hid (Pl.rdo r ⟨1, nd, tx⟩ = (r, false)) := Lib.hid (by rw [HDO.out, if_neg (fun hh => h0 hh.1)])
    have f0 : (nd != 0) = true := by simpa using h0
    clear h0 CL
    go_wp2
    refine wp_region_und (by kernel_rfl) (by kernel_rfl) ?_
    repeat (go_big_quiet_step ((first | fail)))
    refine wpQuiet_nil ?_
    intro X hX
    have HS5 := Lib.hid (HSR.out.step hX)
    clear el e0 hX
    clear HSR
    have HSR := HS5
    clear HS5
    clear d0 d1 d2 d3 d4 d5 b0 b1 b2 r0 r1 r2 r3 r4 r5 z0 z1 z2 z3 z4 z5
    have d0 := HSR.out.cell (k := 0) 2 rfl rfl
    have d1 := HSR.out.cell (k := 1) 2 rfl rfl
    have d2 := HSR.out.cell (k := 2) 2 rfl rfl
    have d3 := HSR.out.cell (k := 3) 2 rfl rfl
    have d4 := HSR.out.cell (k := 4) 2 rfl rfl
    have d5 := HSR.out.cell (k := 5) 2 rfl rfl
    have b0 := HSR.out.cell (k := 0) 1 rfl rfl
    have b1 := HSR.out.cell (k := 1) 1 rfl rfl
    have b2 := HSR.out.cell (k := 2) 1 rfl rfl
    have r0 := HSR.out.cell (k := 0) 0 rfl rfl
    have r1 := HSR.out.cell (k := 1) 0 rfl rfl
    have r2 := HSR.out.cell (k := 2) 0 rfl rfl
    have r3 := HSR.out.cell (k := 3) 0 rfl rfl
    have r4 := HSR.out.cell (k := 4) 0 rfl rfl
    have r5 := HSR.out.cell (k := 5) 0 rfl rfl
    have z0 := HSR.out.frz (k := 0) 0 rfl
    have z1 := HSR.out.frz (k := 1) 0 rfl
    have z2 := HSR.out.frz (k := 2) 0 rfl
    have z3 := HSR.out.frz (k := 3) 0 rfl
    have z4 := HSR.out.frz (k := 4) 0 rfl
    have z5 := HSR.out.frz (k := 5) 0 rfl
    go_wp2
    have HSF := Lib.hid ((((((HSR.out.setBlk (k := 0) 0 rfl (.slice (some ⟨g0, 0, none⟩) n0 c0)).setBlk (k := 1) 0 rfl (.slice (some ⟨g1, 0, none⟩) n1 c1)).setBlk (k := 2) 0 rfl (.int .i64 r.Leader)).setBlk (k := 3) 0 rfl (.int .i64 r.Epoch)).setBlk (k := 4) 0 rfl (.slice A2 n2 c2)).setBlk (k := 5) 0 rfl (.slice A3 n3 c3))
    have q0 := HSF.out.cell (k := 0) 0 rfl rfl
    have q1 := HSF.out.cell (k := 1) 0 rfl rfl
    have q2 := HSF.out.cell (k := 2) 0 rfl rfl
    have q3 := HSF.out.cell (k := 3) 0 rfl rfl
    have q4 := HSF.out.cell (k := 4) 0 rfl rfl
    have q5 := HSF.out.cell (k := 5) 0 rfl rfl
    exact bodyPost_ret (v := .tuple #[.agg #[.slice (some ⟨g0, 0, none⟩) n0 c0, .slice (some ⟨g1, 0, none⟩) n1 c1, .int .i64 r.Leader, .int .i64 r.Epoch, .slice A2 n2 c2, .slice A3 n3 c3], .bool false]) (by simp [results, Try.results91, go_sem, q0, q1, q2, q3, q4, q5]) rfl ⟨[.slice (some ⟨g0, 0, none⟩) n0 c0, .slice (some ⟨g1, 0, none⟩) n1 c1, .int .i64 r.Leader, .int .i64 r.Epoch, .slice A2 n2 c2, .slice A3 n3 c3], _, by rw [HF.out], by rw [HF.out]; exact (shutv_Repl (x := r) (HSF.out.sel [3,4,5,6] (by decide) rfl) HI.out.1 HI.out.2).left, (fun _ => ⟨rfl, rfl⟩)⟩
  have f0 : (nd != 0) = false := by simpa using h0
  have HZ := Lib.hid h0
  clear h0
  cases dl with
  | true =>
    have HF : Hid (Pl.rdo r ⟨1, nd, tx⟩ = (r, false)) := Lib.hid (by rw [HDO.out, if_neg (fun hh => by cases hh.2.1)])
    clear CL
    go_wp2
    refine wp_region_und (by kernel_rfl) (by kernel_rfl) ?_
    repeat (go_big_quiet_step ((first | fail)))
    refine wpQuiet_nil ?_
    intro X hX
    have HS5 := Lib.hid (HSR.out.step hX)
    clear el e0 hX
    clear HSR
    have HSR := HS5
    clear HS5
    clear d0 d1 d2 d3 d4 d5 b0 b1 b2 r0 r1 r2 r3 r4 r5 z0 z1 z2 z3 z4 z5
    have d0 := HSR.out.cell (k := 0) 2 rfl rfl
    have d1 := HSR.out.cell (k := 1) 2 rfl rfl
    have d2 := HSR.out.cell (k := 2) 2 rfl rfl
    have d3 := HSR.out.cell (k := 3) 2 rfl rfl
    have d4 := HSR.out.cell (k := 4) 2 rfl rfl
    have d5 := HSR.out.cell (k := 5) 2 rfl rfl
    have b0 := HSR.out.cell (k := 0) 1 rfl rfl
    have b1 := HSR.out.cell (k := 1) 1 rfl rfl
    have b2 := HSR.out.cell (k := 2) 1 rfl rfl
    have r0 := HSR.out.cell (k := 0) 0 rfl rfl
    have r1 := HSR.out.cell (k := 1) 0 rfl rfl
    have r2 := HSR.out.cell (k := 2) 0 rfl rfl
    have r3 := HSR.out.cell (k := 3) 0 rfl rfl
    have r4 := HSR.out.cell (k := 4) 0 rfl rfl
    have r5 := HSR.out.cell (k := 5) 0 rfl rfl
    have z0 := HSR.out.frz (k := 0) 0 rfl
    have z1 := HSR.out.frz (k := 1) 0 rfl
    have z2 := HSR.out.frz (k := 2) 0 rfl
    have z3 := HSR.out.frz (k := 3) 0 rfl
    have z4 := HSR.out.frz (k := 4) 0 rfl
    have z5 := HSR.out.frz (k := 5) 0 rfl
    go_wp2
    have HSF := Lib.hid ((((((HSR.out.setBlk (k := 0) 0 rfl (.slice (some ⟨g0, 0, none⟩) n0 c0)).setBlk (k := 1) 0 rfl (.slice (some ⟨g1, 0, none⟩) n1 c1)).setBlk (k := 2) 0 rfl (.int .i64 r.Leader)).setBlk (k := 3) 0 rfl (.int .i64 r.Epoch)).setBlk (k := 4) 0 rfl (.slice A2 n2 c2)).setBlk (k := 5) 0 rfl (.slice A3 n3 c3))
    have q0 := HSF.out.cell (k := 0) 0 rfl rfl
    have q1 := HSF.out.cell (k := 1) 0 rfl rfl
    have q2 := HSF.out.cell (k := 2) 0 rfl rfl
    have q3 := HSF.out.cell (k := 3) 0 rfl rfl
    have q4 := HSF.out.cell (k := 4) 0 rfl rfl
    have q5 := HSF.out.cell (k := 5) 0 rfl rfl
    exact bodyPost_ret (v := .tuple #[.agg #[.slice (some ⟨g0, 0, none⟩) n0 c0, .slice (some ⟨g1, 0, none⟩) n1 c1, .int .i64 r.Leader, .int .i64 r.Epoch, .slice A2 n2 c2, .slice A3 n3 c3], .bool false]) (by simp [results, Try.results91, go_sem, q0, q1, q2, q3, q4, q5]) rfl ⟨[.slice (some ⟨g0, 0, none⟩) n0 c0, .slice (some ⟨g1, 0, none⟩) n1 c1, .int .i64 r.Leader, .int .i64 r.Epoch, .slice A2 n2 c2, .slice A3 n3 c3], _, by rw [HF.out], by rw [HF.out]; exact (shutv_Repl (x := r) (HSF.out.sel [3,4,5,6] (by decide) rfl) HI.out.1 HI.out.2).left, (fun _ => ⟨rfl, rfl⟩)⟩
  | false =>
    by_cases h6 : tx.size ≤ 20
    rotate_left
    · have HF : Hid (Pl.rdo r ⟨1, nd, tx⟩ = (r, false)) := Lib.hid (by rw [HDO.out, if_neg (fun hh => h6 hh.2.2.1)])
      have f6 : decide ((20 : Int) < (tx.size : Nat)) = true := by simp; omega
      clear CL h6
      go_wp2
      refine wp_region_und (by kernel_rfl) (by kernel_rfl) ?_
      repeat (go_big_quiet_step ((first | fail)))
      refine wpQuiet_nil ?_
      intro X hX
      have HS5 := Lib.hid (HSR.out.step hX)
      clear el e0 hX
      clear HSR
      have HSR := HS5
      clear HS5
      clear d0 d1 d2 d3 d4 d5 b0 b1 b2 r0 r1 r2 r3 r4 r5 z0 z1 z2 z3 z4 z5
      have d0 := HSR.out.cell (k := 0) 2 rfl rfl
      have d1 := HSR.out.cell (k := 1) 2 rfl rfl
      have d2 := HSR.out.cell (k := 2) 2 rfl rfl
      have d3 := HSR.out.cell (k := 3) 2 rfl rfl
      have d4 := HSR.out.cell (k := 4) 2 rfl rfl
      have d5 := HSR.out.cell (k := 5) 2 rfl rfl
      have b0 := HSR.out.cell (k := 0) 1 rfl rfl
      have b1 := HSR.out.cell (k := 1) 1 rfl rfl
      have b2 := HSR.out.cell (k := 2) 1 rfl rfl
      have r0 := HSR.out.cell (k := 0) 0 rfl rfl
      have r1 := HSR.out.cell (k := 1) 0 rfl rfl
      have r2 := HSR.out.cell (k := 2) 0 rfl rfl
      have r3 := HSR.out.cell (k := 3) 0 rfl rfl
      have r4 := HSR.out.cell (k := 4) 0 rfl rfl
      have r5 := HSR.out.cell (k := 5) 0 rfl rfl
      have z0 := HSR.out.frz (k := 0) 0 rfl
      have z1 := HSR.out.frz (k := 1) 0 rfl
      have z2 := HSR.out.frz (k := 2) 0 rfl
      have z3 := HSR.out.frz (k := 3) 0 rfl
      have z4 := HSR.out.frz (k := 4) 0 rfl
      have z5 := HSR.out.frz (k := 5) 0 rfl
      go_wp2
      have HSF := Lib.hid ((((((HSR.out.setBlk (k := 0) 0 rfl (.slice (some ⟨g0, 0, none⟩) n0 c0)).setBlk (k := 1) 0 rfl (.slice (some ⟨g1, 0, none⟩) n1 c1)).setBlk (k := 2) 0 rfl (.int .i64 r.Leader)).setBlk (k := 3) 0 rfl (.int .i64 r.Epoch)).setBlk (k := 4) 0 rfl (.slice A2 n2 c2)).setBlk (k := 5) 0 rfl (.slice A3 n3 c3))
      have q0 := HSF.out.cell (k := 0) 0 rfl rfl
      have q1 := HSF.out.cell (k := 1) 0 rfl rfl
      have q2 := HSF.out.cell (k := 2) 0 rfl rfl
      have q3 := HSF.out.cell (k := 3) 0 rfl rfl
      have q4 := HSF.out.cell (k := 4) 0 rfl rfl
      have q5 := HSF.out.cell (k := 5) 0 rfl rfl
      exact bodyPost_ret (v := .tuple #[.agg #[.slice (some ⟨g0, 0, none⟩) n0 c0, .slice (some ⟨g1, 0, none⟩) n1 c1, .int .i64 r.Leader, .int .i64 r.Epoch, .slice A2 n2 c2, .slice A3 n3 c3], .bool false]) (by simp [results, Try.results91, go_sem, q0, q1, q2, q3, q4, q5]) rfl ⟨[.slice (some ⟨g0, 0, none⟩) n0 c0, .slice (some ⟨g1, 0, none⟩) n1 c1, .int .i64 r.Leader, .int .i64 r.Epoch, .slice A2 n2 c2, .slice A3 n3 c3], _, by rw [HF.out], by rw [HF.out]; exact (shutv_Repl (x := r) (HSF.out.sel [3,4,5,6] (by decide) rfl) HI.out.1 HI.out.2).left, (fun _ => ⟨rfl, rfl⟩)⟩
    have f6 : decide ((20 : Int) < (tx.size : Nat)) = false := by simp; omega
    by_cases h40 : ys.length = 40
    · have HF : Hid (Pl.rdo r ⟨1, nd, tx⟩ = (r, false)) := Lib.hid (by rw [HDO.out, if_neg (fun hh => hh.2.2.2.1 h40)])
      have f4 : ((ys.length : Int) == 40) = true := by simp [h40]
      clear CL h6 h40
      go_wp2
      refine wp_region_und (by kernel_rfl) (by kernel_rfl) ?_
      repeat (go_big_quiet_step ((first | fail)))
      refine wpQuiet_nil ?_
      intro X hX
      have HS5 := Lib.hid (HSR.out.step hX)
      clear el e0 hX
      clear HSR
      have HSR := HS5
      clear HS5
      clear d0 d1 d2 d3 d4 d5 b0 b1 b2 r0 r1 r2 r3 r4 r5 z0 z1 z2 z3 z4 z5
      have d0 := HSR.out.cell (k := 0) 2 rfl rfl
      have d1 := HSR.out.cell (k := 1) 2 rfl rfl
      have d2 := HSR.out.cell (k := 2) 2 rfl rfl
      have d3 := HSR.out.cell (k := 3) 2 rfl rfl
      have d4 := HSR.out.cell (k := 4) 2 rfl rfl
      have d5 := HSR.out.cell (k := 5) 2 rfl rfl
      have b0 := HSR.out.cell (k := 0) 1 rfl rfl
      have b1 := HSR.out.cell (k := 1) 1 rfl rfl
      have b2 := HSR.out.cell (k := 2) 1 rfl rfl
      have r0 := HSR.out.cell (k := 0) 0 rfl rfl
      have r1 := HSR.out.cell (k := 1) 0 rfl rfl
      have r2 := HSR.out.cell (k := 2) 0 rfl rfl
      have r3 := HSR.out.cell (k := 3) 0 rfl rfl
      have r4 := HSR.out.cell (k := 4) 0 rfl rfl
      have r5 := HSR.out.cell (k := 5) 0 rfl rfl
      have z0 := HSR.out.frz (k := 0) 0 rfl
      have z1 := HSR.out.frz (k := 1) 0 rfl
      have z2 := HSR.out.frz (k := 2) 0 rfl
      have z3 := HSR.out.frz (k := 3) 0 rfl
      have z4 := HSR.out.frz (k := 4) 0 rfl
      have z5 := HSR.out.frz (k := 5) 0 rfl
      go_wp2
      have HSF := Lib.hid ((((((HSR.out.setBlk (k := 0) 0 rfl (.slice (some ⟨g0, 0, none⟩) n0 c0)).setBlk (k := 1) 0 rfl (.slice (some ⟨g1, 0, none⟩) n1 c1)).setBlk (k := 2) 0 rfl (.int .i64 r.Leader)).setBlk (k := 3) 0 rfl (.int .i64 r.Epoch)).setBlk (k := 4) 0 rfl (.slice A2 n2 c2)).setBlk (k := 5) 0 rfl (.slice A3 n3 c3))
      have q0 := HSF.out.cell (k := 0) 0 rfl rfl
      have q1 := HSF.out.cell (k := 1) 0 rfl rfl
      have q2 := HSF.out.cell (k := 2) 0 rfl rfl
      have q3 := HSF.out.cell (k := 3) 0 rfl rfl
      have q4 := HSF.out.cell (k := 4) 0 rfl rfl
      have q5 := HSF.out.cell (k := 5) 0 rfl rfl
      exact bodyPost_ret (v := .tuple #[.agg #[.slice (some ⟨g0, 0, none⟩) n0 c0, .slice (some ⟨g1, 0, none⟩) n1 c1, .int .i64 r.Leader, .int .i64 r.Epoch, .slice A2 n2 c2, .slice A3 n3 c3], .bool false]) (by simp [results, Try.results91, go_sem, q0, q1, q2, q3, q4, q5]) rfl ⟨[.slice (some ⟨g0, 0, none⟩) n0 c0, .slice (some ⟨g1, 0, none⟩) n1 c1, .int .i64 r.Leader, .int .i64 r.Epoch, .slice A2 n2 c2, .slice A3 n3 c3], _, by rw [HF.out], by rw [HF.out]; exact (shutv_Repl (x := r) (HSF.out.sel [3,4,5,6] (by decide) rfl) HI.out.1 HI.out.2).left, (fun _ => ⟨rfl, rfl⟩)⟩
    have f4 : ((ys.length : Int) == 40) = false := by simp; omega
    by_cases h5 : le ≤ r.Epoch
    rotate_left
    · have HF : Hid (Pl.rdo r ⟨1, nd, tx⟩ = (r, false)) := Lib.hid (by rw [HDO.out, if_neg (fun hh => h5 hh.2.2.2.2)])
      have f5 : decide (r.Epoch < le) = true := by simp; omega
      clear h5 h6 h40
      go_wp2
      refine wp_region_und (by kernel_rfl) (by kernel_rfl) ?_
      repeat (go_big_quiet_step ((first | (go_at_call 118; with_reducible exact CL _))))
      refine wpQuiet_nil ?_
      intro X hX
      have HS5 := Lib.hid (HSR.out.step hX)
      clear el e0 hX CL
      clear HSR
      have HSR := HS5
      clear HS5
      clear d0 d1 d2 d3 d4 d5 b0 b1 b2 r0 r1 r2 r3 r4 r5 z0 z1 z2 z3 z4 z5
      have d0 := HSR.out.cell (k := 0) 2 rfl rfl
      have d1 := HSR.out.cell (k := 1) 2 rfl rfl
      have d2 := HSR.out.cell (k := 2) 2 rfl rfl
      have d3 := HSR.out.cell (k := 3) 2 rfl rfl
      have d4 := HSR.out.cell (k := 4) 2 rfl rfl
      have d5 := HSR.out.cell (k := 5) 2 rfl rfl
      have b0 := HSR.out.cell (k := 0) 1 rfl rfl
      have b1 := HSR.out.cell (k := 1) 1 rfl rfl
      have b2 := HSR.out.cell (k := 2) 1 rfl rfl
      have r0 := HSR.out.cell (k := 0) 0 rfl rfl
      have r1 := HSR.out.cell (k := 1) 0 rfl rfl
      have r2 := HSR.out.cell (k := 2) 0 rfl rfl
      have r3 := HSR.out.cell (k := 3) 0 rfl rfl
      have r4 := HSR.out.cell (k := 4) 0 rfl rfl
      have r5 := HSR.out.cell (k := 5) 0 rfl rfl
      have z0 := HSR.out.frz (k := 0) 0 rfl
      have z1 := HSR.out.frz (k := 1) 0 rfl
      have z2 := HSR.out.frz (k := 2) 0 rfl
      have z3 := HSR.out.frz (k := 3) 0 rfl
      have z4 := HSR.out.frz (k := 4) 0 rfl
      have z5 := HSR.out.frz (k := 5) 0 rfl
      go_wp2
      have HSF := Lib.hid ((((((HSR.out.setBlk (k := 0) 0 rfl (.slice (some ⟨g0, 0, none⟩) n0 c0)).setBlk (k := 1) 0 rfl (.slice (some ⟨g1, 0, none⟩) n1 c1)).setBlk (k := 2) 0 rfl (.int .i64 r.Leader)).setBlk (k := 3) 0 rfl (.int .i64 r.Epoch)).setBlk (k := 4) 0 rfl (.slice A2 n2 c2)).setBlk (k := 5) 0 rfl (.slice A3 n3 c3))
      have q0 := HSF.out.cell (k := 0) 0 rfl rfl
      have q1 := HSF.out.cell (k := 1) 0 rfl rfl
      have q2 := HSF.out.cell (k := 2) 0 rfl rfl
      have q3 := HSF.out.cell (k := 3) 0 rfl rfl
      have q4 := HSF.out.cell (k := 4) 0 rfl rfl
      have q5 := HSF.out.cell (k := 5) 0 rfl rfl
      exact bodyPost_ret (v := .tuple #[.agg #[.slice (some ⟨g0, 0, none⟩) n0 c0, .slice (some ⟨g1, 0, none⟩) n1 c1, .int .i64 r.Leader, .int .i64 r.Epoch, .slice A2 n2 c2, .slice A3 n3 c3], .bool false]) (by simp [results, Try.results91, go_sem, q0, q1, q2, q3, q4, q5]) rfl ⟨[.slice (some ⟨g0, 0, none⟩) n0 c0, .slice (some ⟨g1, 0, none⟩) n1 c1, .int .i64 r.Leader, .int .i64 r.Epoch, .slice A2 n2 c2, .slice A3 n3 c3], _, by rw [HF.out], by rw [HF.out]; exact (shutv_Repl (x := r) (HSF.out.sel [3,4,5,6] (by decide) rfl) HI.out.1 HI.out.2).left, (fun _ => ⟨rfl, rfl⟩)⟩
    have f5 : decide (r.Epoch < le) = false := by simp; omega
    have HF : Hid (Pl.rdo r ⟨1, nd, tx⟩ = ({ r with Logs := r.Logs.set r.Leader.toNat (ys ++ [⟨r.Epoch, tx⟩]) }, true)) := Lib.hid (by rw [HDO.out, if_pos ⟨HZ.out, rfl, h6, h40, h5⟩])
    have HXI : Hid (Mm.I64 r.Epoch ∧ tx.size ≤ maxLen) := Lib.hid ⟨HI.out.2, by unfold maxLen; omega⟩
    obtain ⟨i0, hi, hz0, hz1, hz2⟩ := info_parts Try.infoEntry
    go_wp2
    refine wp_region_und (by kernel_rfl) (by kernel_rfl) ?_
    repeat (go_big_quiet_step ((first | (go_at_call 118; with_reducible exact CL _))))
    refine wpQuiet_nil ?_
    intro X hX
    have HS5 := Lib.hid (HSR.out.step hX)
    have hek0 := below_some hX e0
    clear el e0 hX CL
    clear HSR
    have HSR := HS5
    clear HS5
    clear d0 d1 d2 d3 d4 d5 b0 b1 b2 r0 r1 r2 r3 r4 r5 z0 z1 z2 z3 z4 z5
    have d0 := HSR.out.cell (k := 0) 2 rfl rfl
    have d1 := HSR.out.cell (k := 1) 2 rfl rfl
    have d2 := HSR.out.cell (k := 2) 2 rfl rfl
    have d3 := HSR.out.cell (k := 3) 2 rfl rfl
    have d4 := HSR.out.cell (k := 4) 2 rfl rfl
    have d5 := HSR.out.cell (k := 5) 2 rfl rfl
    have b0 := HSR.out.cell (k := 0) 1 rfl rfl
    have b1 := HSR.out.cell (k := 1) 1 rfl rfl
    have b2 := HSR.out.cell (k := 2) 1 rfl rfl
    have r0 := HSR.out.cell (k := 0) 0 rfl rfl
    have r1 := HSR.out.cell (k := 1) 0 rfl rfl
    have r2 := HSR.out.cell (k := 2) 0 rfl rfl
    have r3 := HSR.out.cell (k := 3) 0 rfl rfl
    have r4 := HSR.out.cell (k := 4) 0 rfl rfl
    have r5 := HSR.out.cell (k := 5) 0 rfl rfl
    have z0 := HSR.out.frz (k := 0) 0 rfl
    have z1 := HSR.out.frz (k := 1) 0 rfl
    have z2 := HSR.out.frz (k := 2) 0 rfl
    have z3 := HSR.out.frz (k := 3) 0 rfl
    have z4 := HSR.out.frz (k := 4) 0 rfl
    have z5 := HSR.out.frz (k := 5) 0 rfl
    obtain ⟨X4, rfl⟩ : ∃ q : World, q = X := ⟨_, rfl⟩
    obtain ⟨A', m', d', fx, e0, hm, ho, hfx, hgx, hap, -, hnext⟩ := HSR.out.openIn 3 rfl HY.out
    rw [e0] at hek0
    injection hek0 with hek0
    injection hek0 with t1 t2 t3
    subst t1 t2 t3
    clear hm
    have HNX := Lib.hid hnext
    have HO := Lib.hid ho
    have n0' : gr ∉ fx := hap 2 _ (by decide) rfl _ (by simp [Mm.tblk])
    have n1' : gs ∉ fx := hap 1 _ (by decide) rfl _ (by simp [Mm.tblk])
    have n2' : go ∉ fx := hap 0 _ (by decide) rfl _ (by simp [Mm.tblk])
    have HFX := Lib.hid hfx
    clear hnext ho hap hfx
    go_wp2
    refine Mm.wp_region_give 13 (fun i => match i with | 10 => some (Mm.gBs 111 [.int .i64 r.Epoch, .string tx]) | 11 => some (Mm.gSl rEntry 111 (ys ++ [⟨r.Epoch, tx⟩])) | _ => none) (fun i => match i with | 11 => [10, 14] | _ => []) (fun i => match i with | 14 => [Mm.tsl rEntry 111 ys (.slice A' ys.length d') fx] | _ => []) (F := fx) (D := fun w' => ∃ x : Cha fx X4, w' = cha fx X4 x) (fun X us h => Mm.sep_cha h) (by kernel_rfl) (by kernel_rfl) (by kernel_rfl) (Mm.sep_eq ((Mm.SepF.one (Mm.tsl rEntry 111 ys (.slice A' ys.length d') fx) X4 HO.out HFX.out).step (Below.refl _ _).drew) rfl) ?_
    repeat (refine Mm.give_det (by rfl) (by rfl) (by rfl) (fun K hK => ?_); go_big_quiet_op; refine hK _ ?_; clear hK K)
    refine Mm.give_op0 63 (by rfl) rfl (by rfl) (by rfl) (by rfl) (by rfl) Mm.gBs_in (fun others X6 hX6 => ?_) ?_
    · go_wp2
      exact Mm.gvq_bs hX6 rfl rfl rfl
    rintro v ds ⟨gb, rfl, rfl⟩
    simp only [Act.put, List.setIfInBounds_toArray, List.set_cons_succ, List.set_cons_zero]
    refine Mm.give_op2 64 10 14 (by rfl) rfl (by rfl) (by rfl) (by rfl) rfl (by rfl) (by rfl) (by rfl) _ _ rfl rfl Mm.gSl_in (fun others X6 hX6 => Mm.app_gvq rfl (.tmp 57) (.tmp 63) 29 rfl 64 rfl (by rfl) i0 _ 24 Try.underlying29 hi hz0 hz1 hz2 rfl (by decide) rfl rfl (fun W => rEntry_own_mk HXI.out) (by unfold maxLen; omega) (by omega) hX6) ?_
    rintro v ds ⟨A5, n5, c5, f5', rfl, rfl, hn5⟩
    simp only [Act.put, List.setIfInBounds_toArray, List.set_cons_succ, List.set_cons_zero]
    repeat (refine Mm.give_det (by rfl) (by rfl) (by rfl) (fun K hK => ?_); go_big_quiet_op; refine hK _ ?_; clear hK K)
    refine Mm.give_nil ?_
    rintro X6 hX6
    obtain ⟨q0, q1, -, fp', hs4⟩ := HNX.out X6 (ys ++ [⟨r.Epoch, tx⟩]) A5 n5 c5 f5' (Mm.sep_eq hX6 rfl)
    have HS5 := Lib.hid hs4
    clear hs4 hX6 n0' n1' n2' HNX HO HFX e0
    go_upto_region 6 with fail
    clear q0 q1
    clear HSR
    have HSR := HS5
    clear HS5
    obtain ⟨XT, hXT⟩ : ∃ XT, X6.setCell ⟨g0, r.Leader.toNat, none⟩ (.slice A5 n5 c5) = XT := ⟨_, rfl⟩
    rw [hXT] at HSR ⊢
    clear hXT
    clear d0 d1 d2 d3 d4 d5 b0 b1 b2 r0 r1 r2 r3 r4 r5 z0 z1 z2 z3 z4 z5
    have d0 := HSR.out.cell (k := 0) 2 rfl rfl
    have d1 := HSR.out.cell (k := 1) 2 rfl rfl
    have d2 := HSR.out.cell (k := 2) 2 rfl rfl
    have d3 := HSR.out.cell (k := 3) 2 rfl rfl
    have d4 := HSR.out.cell (k := 4) 2 rfl rfl
    have d5 := HSR.out.cell (k := 5) 2 rfl rfl
    have r0 := HSR.out.cell (k := 0) 0 rfl rfl
    have r1 := HSR.out.cell (k := 1) 0 rfl rfl
    have r2 := HSR.out.cell (k := 2) 0 rfl rfl
    have r3 := HSR.out.cell (k := 3) 0 rfl rfl
    have r4 := HSR.out.cell (k := 4) 0 rfl rfl
    have r5 := HSR.out.cell (k := 5) 0 rfl rfl
    have z0 := HSR.out.frz (k := 0) 0 rfl
    have z1 := HSR.out.frz (k := 1) 0 rfl
    have z2 := HSR.out.frz (k := 2) 0 rfl
    have z3 := HSR.out.frz (k := 3) 0 rfl
    have z4 := HSR.out.frz (k := 4) 0 rfl
    have z5 := HSR.out.frz (k := 5) 0 rfl
    go_wp2
    have HSF := Lib.hid ((((((HSR.out.setBlk (k := 0) 0 rfl (.slice (some ⟨g0, 0, none⟩) n0 c0)).setBlk (k := 1) 0 rfl (.slice (some ⟨g1, 0, none⟩) n1 c1)).setBlk (k := 2) 0 rfl (.int .i64 r.Leader)).setBlk (k := 3) 0 rfl (.int .i64 r.Epoch)).setBlk (k := 4) 0 rfl (.slice A2 n2 c2)).setBlk (k := 5) 0 rfl (.slice A3 n3 c3))
    have q0 := HSF.out.cell (k := 0) 0 rfl rfl
    have q1 := HSF.out.cell (k := 1) 0 rfl rfl
    have q2 := HSF.out.cell (k := 2) 0 rfl rfl
    have q3 := HSF.out.cell (k := 3) 0 rfl rfl
    have q4 := HSF.out.cell (k := 4) 0 rfl rfl
    have q5 := HSF.out.cell (k := 5) 0 rfl rfl
    exact bodyPost_ret (v := .tuple #[.agg #[.slice (some ⟨g0, 0, none⟩) n0 c0, .slice (some ⟨g1, 0, none⟩) n1 c1, .int .i64 r.Leader, .int .i64 r.Epoch, .slice A2 n2 c2, .slice A3 n3 c3], .bool true]) (by simp [results, Try.results91, go_sem, q0, q1, q2, q3, q4, q5]) rfl ⟨[.slice (some ⟨g0, 0, none⟩) n0 c0, .slice (some ⟨g1, 0, none⟩) n1 c1, .int .i64 r.Leader, .int .i64 r.Epoch, .slice A2 n2 c2, .slice A3 n3 c3], _, by rw [HF.out], by rw [HF.out]; exact (shutv_Repl (x := ({ r with Logs := r.Logs.set r.Leader.toNat (ys ++ [⟨r.Epoch, tx⟩]) })) (HSF.out.sel [3,4,5,6] (by decide) rfl) HI.out.1 HI.out.2).left, (by rw [HF.out]; intro h; cases h)⟩
end Go.Proofs.Ytihendiakgfpcaa

/-
  Contracts: the reference's step of a replication, by value, all of it (chapter 9). No conditions beyond those named.
-/
namespace Go.Proofs.Ytihendiakgfpcaa
open Go.RowKit
attribute [local go_sem] und_cell cha_cell World.cell?_alloc_some
theorem own_formR {w : World} {x : Repl} {cs : List Value} {fp : List Nat} (h : rRepl.own w x cs fp) : ∃ A0 n0 c0 A1 n1 c1 A2 n2 c2 A3 n3 c3, cs = [.slice A0 n0 c0, .slice A1 n1 c1, .int .i64 x.Leader, .int .i64 x.Epoch, .slice A2 n2 c2, .slice A3 n3 c3] := by
  obtain ⟨A0, n0, c0, A1, n1, c1, A2, n2, c2, A3, n3, c3, f0, f1, f2, f3, rfl, rfl, -⟩ := rRepl_own h
  exact ⟨_, _, _, _, _, _, _, _, _, _, _, _, rfl⟩
theorem Pl.RS.do_ {r : Repl} (hw : RW r) (s : ReplStep) (_hI : 0 ≤ (0 : Int)) : RS (rdo r s).1 := by
  unfold rdo
  by_cases h1 : s.Kind = 1
  · rw [if_pos h1]
    split
    · rename_i h; exact RS.write hw.rs (by have := hw.rs.len' r.Leader; rw [List.length_append]; show _ + 1 ≤ 40; omega)
    · exact hw.rs
  rw [if_neg h1]
  by_cases h2 : s.Text.size ≠ 0 ∨ s.Node < 0 ∨ (r.Logs.length : Int) ≤ s.Node
  · rw [if_pos h2]; exact hw.rs
  rw [if_neg h2]
  have k0 : 0 ≤ s.Node := by omega
  have k1 : s.Node < r.Logs.length := by omega
  by_cases h3 : s.Kind = 2
  · rw [if_pos h3]
    split
    · exact RS.fetch hw.rs hw k0 k1
    · exact hw.rs
  rw [if_neg h3]
  by_cases h4 : s.Kind = 3
  · rw [if_pos h4]
    split
    · rename_i h; exact RS.out hw.rs h.2.1
    · exact hw.rs
  rw [if_neg h4]
  by_cases h5 : s.Kind = 4
  · rw [if_pos h5]
    split
    · exact RS.in_ hw.rs hw.sync5 k0 k1
    · exact hw.rs
  rw [if_neg h5]
  by_cases h6 : s.Kind = 5
  · rw [if_pos h6]
    split
    · exact RS.down hw.rs _
    · exact hw.rs
  rw [if_neg h6]
  by_cases h7 : s.Kind = 6
  · rw [if_pos h7]
    split
    · exact RS.down hw.rs _
    · exact hw.rs
  rw [if_neg h7]
  by_cases h8 : s.Kind = 7
  · rw [if_pos h8]
    split
    · rename_i h; exact RS.elect hw.rs h.1
    · exact hw.rs
  rw [if_neg h8]
  exact hw.rs
theorem Pl.rdo_no {r : Repl} {s : ReplStep} (h : (rdo r s).2 = false) : (rdo r s).1 = r := by
  unfold rdo at *
  by_cases h1 : s.Kind = 1
  · rw [if_pos h1] at h ⊢
    split
    · rename_i hc; rw [if_pos hc] at h; cases h
    · rfl
  rw [if_neg h1] at h ⊢
  by_cases h2 : s.Text.size ≠ 0 ∨ s.Node < 0 ∨ (r.Logs.length : Int) ≤ s.Node
  · rw [if_pos h2]
  rw [if_neg h2] at h ⊢
  by_cases g2 : s.Kind = 2
  · rw [if_pos g2] at h ⊢
    split
    · rename_i hc; rw [if_pos hc] at h; cases h
    · rfl
  rw [if_neg g2] at h ⊢
  by_cases g3 : s.Kind = 3
  · rw [if_pos g3] at h ⊢
    split
    · rename_i hc; rw [if_pos hc] at h; cases h
    · rfl
  rw [if_neg g3] at h ⊢
  by_cases g4 : s.Kind = 4
  · rw [if_pos g4] at h ⊢
    split
    · rename_i hc; rw [if_pos hc] at h; cases h
    · rfl
  rw [if_neg g4] at h ⊢
  by_cases g5 : s.Kind = 5
  · rw [if_pos g5] at h ⊢
    split
    · rename_i hc; rw [if_pos hc] at h; cases h
    · rfl
  rw [if_neg g5] at h ⊢
  by_cases g6 : s.Kind = 6
  · rw [if_pos g6] at h ⊢
    split
    · rename_i hc; rw [if_pos hc] at h; cases h
    · rfl
  rw [if_neg g6] at h ⊢
  by_cases g7 : s.Kind = 7
  · rw [if_pos g7] at h ⊢
    split
    · rename_i hc; rw [if_pos hc] at h; cases h
    · rfl
  rw [if_neg g7]
theorem l9Do_c (r : Repl) (s : ReplStep) (cs : List Value) (fp : List Nat) (w : World) (h : (Mm.tow rRepl r cs fp).holds w) (hnd : fp.Nodup) (hw : Pl.RW r) (hI : Mm.I64 s.Node) :
    Calls Try.prog 91 #[.agg cs.toArray, .agg #[.int .i64 s.Kind, .int .i64 s.Node, .string s.Text]] w (RDoAns (Pl.rdo r s) cs fp w) := by
  obtain ⟨kd, nd, tx⟩ := s
  by_cases h1 : kd = 1
  · subst h1; exact l9DoWrite_c r nd tx cs fp w h hnd hw
  by_cases hbad : tx.size ≠ 0 ∨ nd < 0 ∨ (r.Logs.length : Int) ≤ nd
  · exact l9DoBad_c r kd nd tx cs fp w h hnd hw h1 hbad
  obtain rfl := ba_nil (x := tx) (by omega)
  have k0 : 0 ≤ nd := by omega
  have k1 : nd < r.Logs.length := by omega
  by_cases hk : kd < 1 ∨ 7 < kd
  · exact l9DoNo_c r kd nd cs fp w h hnd hw k0 k1 hk
  rcases (show kd = 2 ∨ kd = 3 ∨ kd = 4 ∨ kd = 5 ∨ kd = 6 ∨ kd = 7 by omega) with rfl | rfl | rfl | rfl | rfl | rfl
  · exact l9DoFetch_c r nd cs fp w h hnd hw k0 k1
  · exact l9DoOut_c r nd cs fp w h hnd hw k0 k1 hI
  · exact l9DoIn_c r nd cs fp w h hnd hw k0 k1 hI
  · exact l9DoFail_c r nd cs fp w h hnd hw k0 k1
  · exact l9DoBack_c r nd cs fp w h hnd hw k0 k1
  · exact l9DoElect_c r nd cs fp w h hnd hw k0 k1 hI
def RStAns (q : Repl × Bool) (fp : List Nat) (w : World) (e : Ending) (w' : World) : Prop :=
  ∃ cs' fp', e = .returned (.tuple #[.agg cs'.toArray, .bool q.2]) ∧ Mm.Left fp w w' (Mm.tow rRepl q.1 cs' fp')
set_option maxRecDepth 100000 in
set_option maxHeartbeats 2000000 in
theorem l9Step_c (r : Repl) (s : ReplStep) (cs : List Value) (fp : List Nat) (w : World) (h : (Mm.tow rRepl r cs fp).holds w) (hnd : fp.Nodup) (hw : Pl.RW r) (hI : Mm.I64 s.Node) :
    Calls Try.prog 46 #[.agg cs.toArray, .agg #[.int .i64 s.Kind, .int .i64 s.Node, .string s.Text]] w (RStAns (Pl.rstep r s) fp w) := by
  obtain ⟨A0, n0, c0, A1, n1, c1, A2, n2, c2, A3, n3, c3, rfl⟩ := own_formR h
  have HW := Lib.hid hw
  have H0 := Lib.hid (Mm.SepF.one _ w h hnd)
  have HRS0 := Lib.hid (Pl.RS.do_ hw s (by omega))
  have HNO := Lib.hid (@Pl.rdo_no r s)
  clear h hnd hw
  go_enter Try.func46, Try.ntmps46
  go_upto_region 1 with fail
  obtain ⟨gr, hgr⟩ : ∃ gr, w.heap.size = gr := ⟨_, rfl⟩
  obtain ⟨gs, hgs⟩ : ∃ gs, gr + 1 = gs := ⟨_, rfl⟩
  obtain ⟨go, hgo⟩ : ∃ go, gs + 1 = go := ⟨_, rfl⟩
  obtain ⟨W, hW⟩ : ∃ W, ((w.alloc (.cells #[.slice A0 n0 c0, .slice A1 n1 c1, .int .i64 r.Leader, .int .i64 r.Epoch, .slice A2 n2 c2, .slice A3 n3 c3] 31)).alloc (.cells #[.int .i64 s.Kind, .int .i64 s.Node, .string s.Text] 53)).alloc (.cells #[.slice none 0 0, .slice none 0 0, .int .i64 0, .int .i64 0, .slice none 0 0, .slice none 0 0] 31) = W := ⟨_, rfl⟩
  have HS := Lib.hid ((((H0.out.alloc' hgr 31 [.slice A0 n0 c0, .slice A1 n1 c1, .int .i64 r.Leader, .int .i64 r.Epoch, .slice A2 n2 c2, .slice A3 n3 c3]).alloc' (g := gs) (by rw [Mm.sz1, hgr, hgs]) 53 [.int .i64 s.Kind, .int .i64 s.Node, .string s.Text]).alloc' (g := go) (by rw [Mm.sz2, hgr]; omega) 31 zRepl).atW hW)
  rw [hW, hgr, hgs, hgo]
  clear hW hgr hgs hgo H0
  have HSR := HS
  have d0 := HSR.out.cell (k := 0) 2 rfl rfl
  have d1 := HSR.out.cell (k := 1) 2 rfl rfl
  have d2 := HSR.out.cell (k := 2) 2 rfl rfl
  have d3 := HSR.out.cell (k := 3) 2 rfl rfl
  have d4 := HSR.out.cell (k := 4) 2 rfl rfl
  have d5 := HSR.out.cell (k := 5) 2 rfl rfl
  have b0 := HSR.out.cell (k := 0) 1 rfl rfl
  have b1 := HSR.out.cell (k := 1) 1 rfl rfl
  have b2 := HSR.out.cell (k := 2) 1 rfl rfl
  obtain ⟨q, hq⟩ : ∃ q, Pl.rdo r s = q := ⟨_, rfl⟩
  rw [hq] at HRS0 HNO
  have CD := l9Do_c r s _ fp W (HS.out.at_ 3 rfl) (HS.out.ndat (i := 3) rfl) HW.out hI
  rw [hq] at CD
  have HQ := Lib.hid hq
  clear hq
  obtain ⟨x, ok⟩ := q
  cases ok with
  | false =>
    obtain rfl : x = r := HNO.out rfl
    have HF : Hid (Pl.rstep x s = (x, false)) := Lib.hid (Pl.rstep_no' HQ.out)
    clear HSR
    go_upto_region 3 with (go_at_call 91; (with_reducible refine CD.mono ?_); clear CD; rintro e w5 ⟨cs', fp', rfl, hL, hsame⟩; (obtain ⟨rfl, rfl⟩ := hsame rfl); (have HS5 := Lib.hid (HS.out.call 3 rfl hL)); clear hL hsame)
    have HSR := Lib.hid (HS5.out.alloc' rfl 31 [.slice A0 n0 c0, .slice A1 n1 c1, .int .i64 x.Leader, .int .i64 x.Epoch, .slice A2 n2 c2, .slice A3 n3 c3])
    clear d0 d1 d2 d3 d4 d5 b0 b1 b2
    have d0 := HSR.out.cell (k := 0) 3 rfl rfl
    have d1 := HSR.out.cell (k := 1) 3 rfl rfl
    have d2 := HSR.out.cell (k := 2) 3 rfl rfl
    have d3 := HSR.out.cell (k := 3) 3 rfl rfl
    have d4 := HSR.out.cell (k := 4) 3 rfl rfl
    have d5 := HSR.out.cell (k := 5) 3 rfl rfl
    have r0 := HSR.out.cell (k := 0) 1 rfl rfl
    have r1 := HSR.out.cell (k := 1) 1 rfl rfl
    have r2 := HSR.out.cell (k := 2) 1 rfl rfl
    have r3 := HSR.out.cell (k := 3) 1 rfl rfl
    have r4 := HSR.out.cell (k := 4) 1 rfl rfl
    have r5 := HSR.out.cell (k := 5) 1 rfl rfl
    have z0 := HSR.out.frz (k := 0) 1 rfl
    have z1 := HSR.out.frz (k := 1) 1 rfl
    have z2 := HSR.out.frz (k := 2) 1 rfl
    have z3 := HSR.out.frz (k := 3) 1 rfl
    have z4 := HSR.out.frz (k := 4) 1 rfl
    have z5 := HSR.out.frz (k := 5) 1 rfl
    go_wp2
    have HSF := Lib.hid ((((((HSR.out.setBlk (k := 0) 1 rfl ((.slice A0 n0 c0))).setBlk (k := 1) 1 rfl ((.slice A1 n1 c1))).setBlk (k := 2) 1 rfl (.int .i64 x.Leader)).setBlk (k := 3) 1 rfl (.int .i64 x.Epoch)).setBlk (k := 4) 1 rfl ((.slice A2 n2 c2))).setBlk (k := 5) 1 rfl ((.slice A3 n3 c3)))
    have q0 := HSF.out.cell (k := 0) 1 rfl rfl
    have q1 := HSF.out.cell (k := 1) 1 rfl rfl
    have q2 := HSF.out.cell (k := 2) 1 rfl rfl
    have q3 := HSF.out.cell (k := 3) 1 rfl rfl
    have q4 := HSF.out.cell (k := 4) 1 rfl rfl
    have q5 := HSF.out.cell (k := 5) 1 rfl rfl
    exact bodyPost_ret (v := .tuple #[.agg #[(.slice A0 n0 c0), (.slice A1 n1 c1), .int .i64 x.Leader, .int .i64 x.Epoch, (.slice A2 n2 c2), (.slice A3 n3 c3)], .bool false]) (by simp [results, Try.results46, go_sem, q0, q1, q2, q3, q4, q5]) rfl ⟨[(.slice A0 n0 c0), (.slice A1 n1 c1), .int .i64 x.Leader, .int .i64 x.Epoch, (.slice A2 n2 c2), (.slice A3 n3 c3)], _, by rw [HF.out], by rw [HF.out]; exact (HSF.out.tail.tail.tail.tail).left⟩
  | true =>
    have HC := Lib.hid (Pl.rstep_yes HQ.out)
    clear HSR HNO
    go_upto_region 2 with (go_at_call 91; (with_reducible refine CD.mono ?_); clear CD; rintro e w5 ⟨cs', fp', rfl, hL, -⟩; (obtain ⟨B0, m0, e0, B1, m1, e1, B2, m2, e2, B3, m3, e3, rfl⟩ := own_formR hL.2.2.2); (have HS5 := Lib.hid (HS.out.call 3 rfl hL)); clear hL)
    obtain ⟨gx, hgx⟩ : ∃ gx, w5.heap.size = gx := ⟨_, rfl⟩
    obtain ⟨W6, hW6⟩ : ∃ W6, w5.alloc (.cells #[.slice B0 m0 e0, .slice B1 m1 e1, .int .i64 x.Leader, .int .i64 x.Epoch, .slice B2 m2 e2, .slice B3 m3 e3] 31) = W6 := ⟨_, rfl⟩
    have HS6 := Lib.hid ((HS5.out.alloc' hgx 31 [.slice B0 m0 e0, .slice B1 m1 e1, .int .i64 x.Leader, .int .i64 x.Epoch, .slice B2 m2 e2, .slice B3 m3 e3]).atW hW6)
    rw [hW6, hgx]
    clear hW6 hgx HS5 HS d0 d1 d2 d3 d4 d5 b0 b1 b2
    have d0 := HS6.out.cell (k := 0) 0 rfl rfl
    have d1 := HS6.out.cell (k := 1) 0 rfl rfl
    have d2 := HS6.out.cell (k := 2) 0 rfl rfl
    have d3 := HS6.out.cell (k := 3) 0 rfl rfl
    have d4 := HS6.out.cell (k := 4) 0 rfl rfl
    have d5 := HS6.out.cell (k := 5) 0 rfl rfl
    have ho6 : rRepl.own W6 x _ _ := HS6.out.at_ 4 rfl
    have CC := l9Certain_c x _ W6 W6.heap.size (rRepl.weak ho6 (rRepl.olt ho6)) (Nat.le_refl _) HRS0.out
    obtain ⟨cn, hcn⟩ : ∃ cn, Pl.certain x = cn := ⟨_, rfl⟩
    rw [hcn] at CC
    have HCN := Lib.hid hcn
    have hcl := Pl.certain_le x
    have hcl4 := HRS0.out.len' x.Leader
    rw [hcn] at hcl
    clear hcn ho6
    go_upto_region 5 with (go_at_call 69; (with_reducible refine CC.mono ?_); clear CC; rintro e w7 ⟨rfl, hb7⟩; (have HS7 := Lib.hid (HS6.out.step hb7)); clear hb7)
    clear HS6 d0 d1 d2 d3 d4 d5
    obtain ⟨A0', n0', c0', A1', n1', c1', A2', n2', c2', A3', n3', c3', q0', q1', q2', q3', hcs, hfq, j2, j3, hq⟩ := openv_Repl (HS7.out.sel [4, 0, 1, 2, 3] (by decide) rfl)
    injection hcs with u0 hcs
    injection hcs with u1 hcs
    injection hcs with _ hcs
    injection hcs with _ hcs
    injection hcs with u4 hcs
    injection hcs with u5 hcs
    injection u0 with u00 u01 u02
    injection u1 with u10 u11 u12
    injection u4 with u40 u41 u42
    injection u5 with u50 u51 u52
    subst u00 u01 u02 u10 u11 u12 u40 u41 u42 u50 u51 u52
    clear hcs
    have HJ := Lib.hid (And.intro j2 j3)
    have HQ4 := Lib.hid hq
    have hq3 : m3 = x.Certain.length := by obtain ⟨A', n', c', hv, h1, _⟩ := (hq.sl 3 rfl).form; injection hv with _ h2 _; omega
    have hq0 : m0 = x.Logs.length := by obtain ⟨A', n', c', hv, h1, _⟩ := (hq.sl 0 rfl).form; injection hv with _ h2 _; omega
    have HQ3 := Lib.hid hq3
    have ll0 := HRS0.out.lead.1
    have ll1 : x.Leader < m0 := by have := HRS0.out.lead.2; omega
    obtain ⟨g0', rfl, -, -⟩ := Mm.sl_addr (hq.sl 0 rfl) (by omega)
    obtain ⟨AL, nL, cL, _, hlL, eL⟩ := log_at' ((hq.sl 0 rfl).weak (hq.sl 0 rfl).olt) ll0 ll1
    simp only [Nat.zero_add] at eL
    have HLL := Lib.hid hlL
    have hnL : (Pl.logAt x x.Leader).length = nL := hlL.1
    have hnLc : nL ≤ cL ∧ cL ≤ 9223372036854775807 := by have h1 := hlL.2.1; have h2 := hlL.2.2.1; unfold maxLen at h2; omega
    rw [hnL] at hcl hcl4
    clear hq hq3 hq0 hfq j2 j3 hlL hnL
    have d0 := HQ4.out.cell (k := 0) 4 rfl rfl
    have d1 := HQ4.out.cell (k := 1) 4 rfl rfl
    have d2 := HQ4.out.cell (k := 2) 4 rfl rfl
    have d3 := HQ4.out.cell (k := 3) 4 rfl rfl
    have d4 := HQ4.out.cell (k := 4) 4 rfl rfl
    have d5 := HQ4.out.cell (k := 5) 4 rfl rfl
    have r0 := HQ4.out.cell (k := 0) 5 rfl rfl
    have r1 := HQ4.out.cell (k := 1) 5 rfl rfl
    have r2 := HQ4.out.cell (k := 2) 5 rfl rfl
    have r3 := HQ4.out.cell (k := 3) 5 rfl rfl
    have r4 := HQ4.out.cell (k := 4) 5 rfl rfl
    have r5 := HQ4.out.cell (k := 5) 5 rfl rfl
    have z0 := HQ4.out.frz (k := 0) 5 rfl
    have z1 := HQ4.out.frz (k := 1) 5 rfl
    have z2 := HQ4.out.frz (k := 2) 5 rfl
    have z3 := HQ4.out.frz (k := 3) 5 rfl
    have z4 := HQ4.out.frz (k := 4) 5 rfl
    have z5 := HQ4.out.frz (k := 5) 5 rfl
    by_cases hct : m3 < cn
    · have HF : Hid (Pl.rstep r s = ({ x with Certain := (Pl.logAt x x.Leader).take cn }, true)) := Lib.hid (by rw [HC.out, Pl.rcert_lt (by rw [HCN.out, ← HQ3.out]; exact hct), HCN.out])
      have f1 : (m3 : Int) < (cn : Nat) := by omega
      have f2 : (0 : Int) ≤ (cn : Nat) := by omega
      have f3 : ((cn : Nat) : Int).toNat = cn := by omega
      have f4 : (cn : Int) ≤ (nL : Nat) := by omega
      have f5 : (cn : Int) ≤ (cL : Nat) := by omega
      have f6 : cn ≤ cL := by omega
      have HTK := Lib.hid (HLL.out.take (show cn ≤ nL by omega))
      have y5 := HQ4.out.frz (k := 5) 4 rfl
      obtain ⟨i0, hi, hz0, hz1, hz2⟩ := info_parts Try.infoEntry
      go_upto_region 7 with (at_builtin; refine Mm.wpList_clone (by rfl) (.tmp 25) (.tmp 33) 29 (by rfl) Mm.flatA_entry i0 _ 24 Try.underlying29 hi hz0 hz1 hz2 rfl (by decide) (Mm.SepF.start w7).toSep (below_new (Below.refl _ _) _) (g := w7.heap.size) (heap_alloc_new w7 _) (Nat.le_refl _) (HTK.out.keep (fun b hb => Below.heap_alloc w7 _ b (by omega))) (by unfold maxLen; omega) (by omega) (by rfl) (by rfl) ?_; intro A5 c5 f5' w8 hs8 hb8; (have HG := Lib.hid (HQ4.out.join hs8.toF)); (have x5 := HG.out.cell (k := 5) 5 rfl rfl); (have y5' := HG.out.frz (k := 5) 5 rfl); clear hs8 hb8)
      have HSR := Lib.hid (HG.out.setBlk (k := 5) 5 rfl (.slice A5 cn c5))
      clear x5 y5' y5 eL d0 d1 d2 d3 d4 d5 r0 r1 r2 r3 r4 r5 z0 z1 z2 z3 z4 z5
      obtain ⟨XT, hXT⟩ : ∃ XT, w8.setCell ⟨gx, 5, none⟩ (.slice A5 cn c5) = XT := ⟨_, rfl⟩
      rw [hXT] at HSR ⊢
      clear hXT
      have d0 := HSR.out.cell (k := 0) 5 rfl rfl
      have d1 := HSR.out.cell (k := 1) 5 rfl rfl
      have d2 := HSR.out.cell (k := 2) 5 rfl rfl
      have d3 := HSR.out.cell (k := 3) 5 rfl rfl
      have d4 := HSR.out.cell (k := 4) 5 rfl rfl
      have d5 := HSR.out.cell (k := 5) 5 rfl rfl
      have r0 := HSR.out.cell (k := 0) 6 rfl rfl
      have r1 := HSR.out.cell (k := 1) 6 rfl rfl
      have r2 := HSR.out.cell (k := 2) 6 rfl rfl
      have r3 := HSR.out.cell (k := 3) 6 rfl rfl
      have r4 := HSR.out.cell (k := 4) 6 rfl rfl
      have r5 := HSR.out.cell (k := 5) 6 rfl rfl
      have z0 := HSR.out.frz (k := 0) 6 rfl
      have z1 := HSR.out.frz (k := 1) 6 rfl
      have z2 := HSR.out.frz (k := 2) 6 rfl
      have z3 := HSR.out.frz (k := 3) 6 rfl
      have z4 := HSR.out.frz (k := 4) 6 rfl
      have z5 := HSR.out.frz (k := 5) 6 rfl
      go_wp2
      have HSF := Lib.hid ((((((HSR.out.setBlk (k := 0) 6 rfl ((.slice (some ⟨g0', 0, none⟩) m0 e0))).setBlk (k := 1) 6 rfl ((.slice B1 m1 e1))).setBlk (k := 2) 6 rfl (.int .i64 x.Leader)).setBlk (k := 3) 6 rfl (.int .i64 x.Epoch)).setBlk (k := 4) 6 rfl ((.slice B2 m2 e2))).setBlk (k := 5) 6 rfl ((.slice A5 cn c5)))
      have q0 := HSF.out.cell (k := 0) 6 rfl rfl
      have q1 := HSF.out.cell (k := 1) 6 rfl rfl
      have q2 := HSF.out.cell (k := 2) 6 rfl rfl
      have q3 := HSF.out.cell (k := 3) 6 rfl rfl
      have q4 := HSF.out.cell (k := 4) 6 rfl rfl
      have q5 := HSF.out.cell (k := 5) 6 rfl rfl
      exact bodyPost_ret (v := .tuple #[.agg #[(.slice (some ⟨g0', 0, none⟩) m0 e0), (.slice B1 m1 e1), .int .i64 x.Leader, .int .i64 x.Epoch, (.slice B2 m2 e2), (.slice A5 cn c5)], .bool true]) (by simp [results, Try.results46, go_sem, q0, q1, q2, q3, q4, q5]) rfl ⟨[(.slice (some ⟨g0', 0, none⟩) m0 e0), (.slice B1 m1 e1), .int .i64 x.Leader, .int .i64 x.Epoch, (.slice B2 m2 e2), (.slice A5 cn c5)], _, by rw [HF.out], by rw [HF.out]; exact (shutv_Repl (x := { x with Certain := (Pl.logAt x x.Leader).take cn }) (HSF.out.sel [1, 2, 3, 0] (by decide) rfl) HJ.out.1 HJ.out.2).left⟩
    · have HF : Hid (Pl.rstep r s = (x, true)) := Lib.hid (by rw [HC.out, Pl.rcert_ge (by rw [HCN.out, ← HQ3.out]; exact hct)])
      have f1 : ¬ (m3 : Int) < (cn : Nat) := by omega
      have HSR := HQ4
      go_wp2
      have HSF := Lib.hid ((((((HSR.out.setBlk (k := 0) 5 rfl ((.slice (some ⟨g0', 0, none⟩) m0 e0))).setBlk (k := 1) 5 rfl ((.slice B1 m1 e1))).setBlk (k := 2) 5 rfl (.int .i64 x.Leader)).setBlk (k := 3) 5 rfl (.int .i64 x.Epoch)).setBlk (k := 4) 5 rfl ((.slice B2 m2 e2))).setBlk (k := 5) 5 rfl ((.slice B3 m3 e3)))
      have q0 := HSF.out.cell (k := 0) 5 rfl rfl
      have q1 := HSF.out.cell (k := 1) 5 rfl rfl
      have q2 := HSF.out.cell (k := 2) 5 rfl rfl
      have q3 := HSF.out.cell (k := 3) 5 rfl rfl
      have q4 := HSF.out.cell (k := 4) 5 rfl rfl
      have q5 := HSF.out.cell (k := 5) 5 rfl rfl
      exact bodyPost_ret (v := .tuple #[.agg #[(.slice (some ⟨g0', 0, none⟩) m0 e0), (.slice B1 m1 e1), .int .i64 x.Leader, .int .i64 x.Epoch, (.slice B2 m2 e2), (.slice B3 m3 e3)], .bool true]) (by simp [results, Try.results46, go_sem, q0, q1, q2, q3, q4, q5]) rfl ⟨[(.slice (some ⟨g0', 0, none⟩) m0 e0), (.slice B1 m1 e1), .int .i64 x.Leader, .int .i64 x.Epoch, (.slice B2 m2 e2), (.slice B3 m3 e3)], _, by rw [HF.out], by rw [HF.out]; exact (shutv_Repl (x := x) (HSF.out.sel [0, 1, 2, 3] (by decide) rfl) HJ.out.1 HJ.out.2).left⟩
end Go.Proofs.Ytihendiakgfpcaa

/-
  Contracts: the reference's copy of a replication (chapter 9). No conditions beyond those named.
-/
namespace Go.Proofs.Ytihendiakgfpcaa
open Go.RowKit
attribute [local go_sem] und_cell cha_cell World.cell?_alloc_some
theorem Try.infoI : (Try.prog.info? 3).map (fun i => (i.zero, i.size, i.bytes)) = some (some (.int .i64 0), 1, 8) := by kernel_rfl
theorem Mm.flatN_bool : Mm.FlatN Mm.bool (fun x => [.bool x]) := ⟨by decide, fun h => by
  obtain ⟨rfl, _, rfl⟩ := h
  exact ⟨rfl, rfl, fun w' => ⟨rfl, trivial, rfl⟩⟩⟩
theorem Try.infoBool9 : (Try.prog.info? 4).map (fun i => (i.zero, i.size, i.bytes)) = some (some (.bool false), 1, 1) := by kernel_rfl
theorem Try.infoEntries : (Try.prog.info? 29).map (fun i => (i.zero, i.size, i.bytes)) = some (some (.slice none 0 0), 1, 24) := by kernel_rfl
/-- what a copy of a replication asks: the sizes -/
structure Pl.RZ (r : Repl) : Prop where
  logs : r.Logs.length ≤ 5
  down : r.Down.length ≤ 5
  sync : r.InSync.length ≤ 1000
  cert : r.Certain.length ≤ 40
  len : ∀ (k : Nat) (l : List Entry), r.Logs[k]? = some l → l.length ≤ 40
theorem Pl.RW.rz {r : Repl} (h : Pl.RW r) : Pl.RZ r := ⟨h.n5, by rw [h.down]; exact h.n5, by have := h.sync5; omega, by have h1 := (h.cert _ h.leadIn).length_le; have h2 := h.rs.len' r.Leader; omega, h.rs.len⟩
theorem repl_ret {w wr : World} {x : Repl} {cs : List Value} {fp : List Nat} {ts : List Mm.Thing} (h : Mm.SepF [] w wr (Mm.tow rRepl x cs fp :: ts)) : Mm.NewAg rRepl w x (.returned (.agg cs.toArray)) wr :=
  ⟨cs, fp, rfl, h.at_ 0 rfl, h.ndat (i := 0) rfl, fun b hb => (h.new b (Mm.SepF.mem (i := 0) rfl hb)).resolve_left (fun h => by cases h), h.bel0⟩
theorem repl_ret2 {w wr : World} {x : Repl} {b : Bool} {cs : List Value} {fp : List Nat} {ts : List Mm.Thing} (h : Mm.SepF [] w wr (Mm.tow rRepl x cs fp :: ts)) : Mm.Ret2 rRepl w x b (.returned (.tuple #[.agg cs.toArray, .bool b])) wr :=
  ⟨cs, fp, rfl, h.at_ 0 rfl, h.ndat (i := 0) rfl, fun b hb => (h.new b (Mm.SepF.mem (i := 0) rfl hb)).resolve_left (fun h => by cases h), h.bel0⟩
set_option maxRecDepth 100000 in
set_option maxHeartbeats 2000000 in
theorem l9Own_c (r : Repl) (cs : List Value) (w : World) (B : Nat) (hh : rRepl.at_ w B r cs) (hB : B ≤ w.heap.size) (hz : Pl.RZ r) :
    Calls Try.prog 47 #[.agg cs.toArray] w (Mm.NewAg rRepl w r) := by
  obtain ⟨A0, n0, c0, A1, n1, c1, A2, n2, c2, A3, n3, c3, rfl, r0, r1, i2, i3, r2, r3⟩ := rRepl_at hh
  have g0 := r0.1
  have g1 := r1.1
  have g2 := r2.1
  have g3 := r3.1
  have z0 := hz.logs
  have z1 := hz.down
  have z2 := hz.sync
  have z3 := hz.cert
  have HZL := Lib.hid hz.len
  rw [g0] at z0
  rw [g1] at z1
  rw [g2] at z2
  rw [g3] at z3
  have G0 := Lib.hid g0
  have R0 := Lib.hid r0
  have HI := Lib.hid (And.intro i2 i3)
  have KS0 := Lib.hid (((Mm.SepF.start w).alloc' rfl 31 [.slice A0 n0 c0, .slice A1 n1 c1, .int .i64 r.Leader, .int .i64 r.Epoch, .slice A2 n2 c2, .slice A3 n3 c3]).alloc' (Mm.sz1 _ _) 31 zRepl)
  obtain ⟨iI, qI, qI0, qI1, qI2⟩ := info_parts Try.infoI
  obtain ⟨iB, qB, qB0, qB1, qB2⟩ := info_parts Try.infoBool9
  obtain ⟨iE, qE, qE0, qE1, qE2⟩ := info_parts Try.infoEntry
  obtain ⟨iL, qL, qL0, qL1, qL2⟩ := info_parts Try.infoEntries
  have R1 := Lib.hid r1
  have R2 := Lib.hid r2
  have R3 := Lib.hid r3
  clear hh r0 r1 r2 r3 hz g0 g1 g2 g3 i2 i3
  go_enter Try.func47, Try.ntmps47
  go_upto_region 1 with fail
  obtain ⟨W1, hW1⟩ : ∃ W1, (w.alloc (.cells #[.slice A0 n0 c0, .slice A1 n1 c1, .int .i64 r.Leader, .int .i64 r.Epoch, .slice A2 n2 c2, .slice A3 n3 c3] 31)).alloc (.cells #[.slice none 0 0, .slice none 0 0, .int .i64 0, .int .i64 0, .slice none 0 0, .slice none 0 0] 31) = W1 := ⟨_, rfl⟩
  have KS1 := Lib.hid (KS0.out.atW hW1)
  have hsz := KS1.out.chg.size
  have S1 := Lib.hid (R1.out.keep (fun b hb => KS1.out.bel0.block b (by omega)))
  have S2 := Lib.hid (R2.out.keep (fun b hb => KS1.out.bel0.block b (by omega)))
  have S3 := Lib.hid (R3.out.keep (fun b hb => KS1.out.bel0.block b (by omega)))
  clear KS0 R1 R2 R3
  obtain ⟨ga, hga⟩ : ∃ ga, w.heap.size = ga := ⟨_, rfl⟩
  obtain ⟨gb, hgb⟩ : ∃ gb, ga + 1 = gb := ⟨_, rfl⟩
  rw [hga] at KS1
  rw [hgb] at KS1
  rw [hW1, hga, hgb]
  clear hW1 hgb
  have HGA := Lib.hid hga
  clear hga
  have d0 := KS1.out.cell (k := 0) 1 rfl rfl
  have d1 := KS1.out.cell (k := 1) 1 rfl rfl
  have d2 := KS1.out.cell (k := 2) 1 rfl rfl
  have d3 := KS1.out.cell (k := 3) 1 rfl rfl
  have d4 := KS1.out.cell (k := 4) 1 rfl rfl
  have d5 := KS1.out.cell (k := 5) 1 rfl rfl
  refine Mm.wp_region_give 18 (fun i => match i with | 0 => some (Mm.gSl Mm.bool 4 []) | 3 => some (Mm.gSl Mm.bool 4 r.Down) | 8 => some (Mm.gSl Mm.int 3 []) | 11 => some (Mm.gSl Mm.int 3 r.InSync) | 12 => some (Mm.gSl rEntry 111 []) | 15 => some (Mm.gSl rEntry 111 r.Certain) | 17 => some (Mm.gPtr 31 zRepl) | _ => none) (fun i => match i with | 3 => [0] | 11 => [8] | 15 => [12] | _ => []) (fun _ => []) (F := []) (D := fun w' => ∃ x : Und W1, w' = und W1 x) (fun X us h => Mm.sep_und h) (by kernel_rfl) (by kernel_rfl) (by kernel_rfl) (Mm.SepF.startDrew _) ?_
  refine Mm.give_op0 6 (by rfl) rfl (by rfl) (by rfl) (by rfl) (by rfl) Mm.gSl_in (fun others X hX => ?_) ?_
  · go_wp2
    exact Mm.gvq_fresh hX rfl rfl rfl
  rintro v ds ⟨a0, p0, d00, f0, rfl, rfl, e0⟩
  simp only [Act.put, List.setIfInBounds_toArray, List.set_cons_succ, List.set_cons_zero]
  repeat (refine Mm.give_det (by rfl) (by rfl) (by rfl) (fun K hK => ?_); go_big_quiet_op; refine hK _ ?_; clear hK K)
  refine Mm.give_op1 9 0 (by rfl) rfl (by rfl) (by rfl) (by rfl) rfl (by rfl) _ rfl Mm.gSl_in (fun others X hX => Mm.clone_gvq rfl (.tmp 6) (.tmp 8) 27 rfl 9 rfl (by rfl) Mm.flat_bool Mm.flatN_bool iB _ 1 Try.underlying27 qB qB0 qB1 qB2 rfl rfl rfl (S1.out.keep (fun b hb => hX.bel0.block b (by omega))) (by unfold maxLen; omega) (by omega) hX) ?_
  rintro v ds ⟨a1, q1, d01, f1, rfl, rfl, e1⟩
  simp only [Act.put, List.setIfInBounds_toArray, List.set_cons_succ, List.set_cons_zero]
  repeat (refine Mm.give_det (by rfl) (by rfl) (by rfl) (fun K hK => ?_); go_big_quiet_op; refine hK _ ?_; clear hK K)
  refine Mm.give_op0 14 (by rfl) rfl (by rfl) (by rfl) (by rfl) (by rfl) Mm.gSl_in (fun others X hX => ?_) ?_
  · go_wp2
    exact Mm.gvq_fresh hX rfl rfl rfl
  rintro v ds ⟨a0, p0, d00, f0, rfl, rfl, e0⟩
  simp only [Act.put, List.setIfInBounds_toArray, List.set_cons_succ, List.set_cons_zero]
  repeat (refine Mm.give_det (by rfl) (by rfl) (by rfl) (fun K hK => ?_); go_big_quiet_op; refine hK _ ?_; clear hK K)
  refine Mm.give_op1 17 8 (by rfl) rfl (by rfl) (by rfl) (by rfl) rfl (by rfl) _ rfl Mm.gSl_in (fun others X hX => Mm.clone_gvq rfl (.tmp 14) (.tmp 16) 28 rfl 17 rfl (by rfl) Mm.flat_int Mm.flatN_int' iI _ 8 Try.underlying28 qI qI0 qI1 qI2 rfl rfl rfl (S2.out.keep (fun b hb => hX.bel0.block b (by omega))) (by unfold maxLen; omega) (by omega) hX) ?_
  rintro v ds ⟨a2, q2, d02, f2, rfl, rfl, e2⟩
  simp only [Act.put, List.setIfInBounds_toArray, List.set_cons_succ, List.set_cons_zero]
  repeat (refine Mm.give_det (by rfl) (by rfl) (by rfl) (fun K hK => ?_); go_big_quiet_op; refine hK _ ?_; clear hK K)
  refine Mm.give_op0 18 (by rfl) rfl (by rfl) (by rfl) (by rfl) (by rfl) Mm.gSl_in (fun others X hX => ?_) ?_
  · go_wp2
    exact Mm.gvq_fresh hX rfl rfl rfl
  rintro v ds ⟨a0, p0, d00, f0, rfl, rfl, e0⟩
  simp only [Act.put, List.setIfInBounds_toArray, List.set_cons_succ, List.set_cons_zero]
  repeat (refine Mm.give_det (by rfl) (by rfl) (by rfl) (fun K hK => ?_); go_big_quiet_op; refine hK _ ?_; clear hK K)
  refine Mm.give_op1 21 12 (by rfl) rfl (by rfl) (by rfl) (by rfl) rfl (by rfl) _ rfl Mm.gSl_in (fun others X hX => Mm.clone_gvq rfl (.tmp 18) (.tmp 20) 29 rfl 21 rfl (by rfl) Mm.flatA_entry Mm.flatN_entry iE _ 24 Try.underlying29 qE qE0 qE1 qE2 rfl rfl rfl (S3.out.keep (fun b hb => hX.bel0.block b (by omega))) (by unfold maxLen; omega) (by omega) hX) ?_
  rintro v ds ⟨a3, q3, d03, f3, rfl, rfl, e3⟩
  simp only [Act.put, List.setIfInBounds_toArray, List.set_cons_succ, List.set_cons_zero]
  repeat (refine Mm.give_det (by rfl) (by rfl) (by rfl) (fun K hK => ?_); go_big_quiet_op; refine hK _ ?_; clear hK K)
  refine Mm.give_op0 3 (by rfl) rfl (by rfl) (by rfl) (by rfl) (by rfl) Mm.gPtr_in (fun others X hX => ?_) ?_
  · go_wp2
    exact Mm.gvq_ptr hX rfl rfl rfl
  rintro v ds ⟨gp, rfl, rfl⟩
  simp only [Act.put, List.setIfInBounds_toArray, List.set_cons_succ, List.set_cons_zero]
  refine Mm.give_nil ?_
  rintro X hX
  have HX := Lib.hid (KS1.out.join (us := [Mm.tsl Mm.bool 4 r.Down (.slice a1 q1 d01) f1, Mm.tsl Mm.int 3 r.InSync (.slice a2 q2 d02) f2, Mm.tsl rEntry 111 r.Certain (.slice a3 q3 d03) f3, Mm.tblk gp 31 zRepl]) hX)
  clear hX d0 d1 d2 d3 d4 d5
  have r0 := HX.out.cell (k := 0) 3 rfl rfl
  have r1 := HX.out.cell (k := 1) 3 rfl rfl
  have r2 := HX.out.cell (k := 2) 3 rfl rfl
  have r3 := HX.out.cell (k := 3) 3 rfl rfl
  have r4 := HX.out.cell (k := 4) 3 rfl rfl
  have r5 := HX.out.cell (k := 5) 3 rfl rfl
  have z0 := HX.out.frz (k := 0) 3 rfl
  have z1 := HX.out.frz (k := 1) 3 rfl
  have z2 := HX.out.frz (k := 2) 3 rfl
  have z3 := HX.out.frz (k := 3) 3 rfl
  have z4 := HX.out.frz (k := 4) 3 rfl
  have z5 := HX.out.frz (k := 5) 3 rfl
  have HX2 := Lib.hid ((((((HX.out.setBlk (k := 0) 3 rfl (.slice none 0 0)).setBlk (k := 1) 3 rfl (.slice a1 q1 d01)).setBlk (k := 2) 3 rfl (.int .i64 r.Leader)).setBlk (k := 3) 3 rfl (.int .i64 r.Epoch)).setBlk (k := 4) 3 rfl (.slice a2 q2 d02)).setBlk (k := 5) 3 rfl (.slice a3 q3 d03))
  have b0 := HX2.out.cell (k := 0) 5 rfl rfl
  have KS2 := Lib.hid (((HX2.out.sel [3, 0, 1, 2, 4] (by decide) rfl).add (Below.refl _ _) (t := Mm.tsl rEntryS 29 [] (.slice none 0 0) []) Mm.SlOwn.nil List.nodup_nil (fun b hb => by cases hb)).toSep)
  have HB : Hid (B ≤ w.heap.size) := Lib.hid hB
  have G0' := G0
  go_wp2
  clear r0 r1 r2 r3 r4 r5 z0 z1 z2 z3 z4 z5 b0
  go_loopg [26] n0 (fun g i wr => ∃ (k : Nat) (A' : Option Addr) (c' : Nat) (fp : List Nat), n0 - k ≤ g ∧ k ≤ n0 ∧ i = .int .i64 k ∧ Hid (Mm.Sep w wr [Mm.tsl rEntryS 29 (r.Logs.take k) (.slice A' k c') fp, Mm.tblk gp 31 [.slice A' k c', .slice a1 q1 d01, .int .i64 r.Leader, .int .i64 r.Epoch, .slice a2 q2 d02, .slice a3 q3 d03], Mm.tsl Mm.bool 4 r.Down (.slice a1 q1 d01) f1, Mm.tsl Mm.int 3 r.InSync (.slice a2 q2 d02) f2, Mm.tsl rEntry 111 r.Certain (.slice a3 q3 d03) f3, Mm.tblk gb 31 zRepl]))
  case atStart => exact ⟨0, none, 0, [], Nat.le_refl _, Nat.zero_le _, rfl, KS2.out⟩
  case round =>
    obtain ⟨k, A', c', fp, hgk, hk', rfl, HS⟩ := hrel
    have hbel := HS.out.bel
    have hsw := hbel.size
    have y0 := HS.out.cell (k := 0) 1 rfl rfl
    have z0 := HS.out.frz (k := 0) 1 rfl
    by_cases hlt : k < n0
    · obtain ⟨x, b0, off, A1', n1', c1', hx, rfl, hb, hr, e0⟩ := rEntryS_get R0.out hlt
      have hn20 := HZL.out k x hx
      rw [hr.1] at hn20
      have e0' := below_some hbel e0
      have HRW := Lib.hid (show Mm.SlAt rEntry (wr.alloc (.cells #[] 111)).drew B x A1' n1' c1' from hr.keep fun b' hb' => (Below.heap_alloc wr _ b' (by omega)).trans (hbel.block b' (by omega)))
      have HN := Lib.hid (Mm.take_succ_some hx)
      have htl := List.length_take_of_le (l := r.Logs) (i := k) (by rw [G0.out]; omega)
      have HTL := Lib.hid htl
      clear hx hr e0 htl
      go_wp2
      go_region_law (first
        | (refine Mm.step_clone (by rfl) (.tmp 32) (.tmp 33) 29 (by rfl) Mm.flatA_entry iE _ 24 Try.underlying29 qE qE0 qE1 qE2 rfl (by decide) HS.out ((below_new (Below.refl wr.heap.size wr) (.cells #[] 111)).drew) (heap_alloc_new wr _) (Nat.le_refl _) HRW.out (by unfold maxLen; omega) (by omega) (by rfl) (by rfl) ?_; intro A2 c2 fp2 w1 hs1 hb1; obtain ⟨l0, ho3, hnext⟩ := hs1.push (W2 := w1.alloc (.cells #[.slice A2 n1' c2] 29)) 1 0 (by decide) rfl rfl (below_new (Below.refl _ _) _) (x := x) (cx := [.slice A2 n1' c2]) (fun W h => ⟨_, rfl, h⟩); rw [HTL.out] at ho3 hnext; (have HNX := Lib.hid hnext); (have HS1 := Lib.hid hs1); (have y1 := hs1.cell (k := 0) 2 rfl rfl); (have z1 := hs1.frz (k := 0) 2 rfl); clear hnext hs1 hb1)
        | (refine step_append_lies _ (by rfl) (.tmp 31) (.tmp 35) 26 (by rfl) 0 29 iL _ 1 24 Try.underlying26 qL qL0 qL1 qL2 rfl (by omega) (.slice A' k c') k l0 (by rfl) ho3 ⟨w1.heap.size, 0, none⟩ 1 1 [.slice A2 n1' c2] (by rfl) (by rfl) (World.news_of_block (B := w1.heap.size) (cs := #[.slice A2 n1' c2]) (t := 29) (fr := (0, 0)) (heap_alloc_new w1 _)) (by simp [Value.oneCell']) (by omega) (by unfold maxLen; omega) (by omega) (Nat.zero_le _) _ rfl ?_; intro gg cap w4 hown1 hgrow hat hlt'; obtain ⟨fp', hs4⟩ := HNX.out gg cap w4 hown1 hgrow hat; (have HS4 := Lib.hid hs4); (have y0' := HS4.out.cell (k := 0) 2 rfl rfl); (have z0' := HS4.out.frz (k := 0) 2 rfl); clear hs4 hown1 hgrow hat))
      all_goals
        go_wp2
        go_roundg (n0 - (k + 1))
        case measure => omega
        case rel => exact ⟨k + 1, _, cap, fp', Nat.le_refl _, by omega, by go_num, by rw [HN.out]; exact (HS4.out.setBlk 2 rfl _).tail⟩
    · obtain rfl : k = n0 := by omega
      have HE : Hid (r.Logs.take k = r.Logs) := List.take_of_length_le (by rw [G0.out]; exact Nat.le_refl _)
      have HSR := Lib.hid HS.out.toF
      clear y0 z0
      have d0 := HSR.out.cell (k := 0) 1 rfl rfl
      have d1 := HSR.out.cell (k := 1) 1 rfl rfl
      have d2 := HSR.out.cell (k := 2) 1 rfl rfl
      have d3 := HSR.out.cell (k := 3) 1 rfl rfl
      have d4 := HSR.out.cell (k := 4) 1 rfl rfl
      have d5 := HSR.out.cell (k := 5) 1 rfl rfl
      have r0 := HSR.out.cell (k := 0) 5 rfl rfl
      have r1 := HSR.out.cell (k := 1) 5 rfl rfl
      have r2 := HSR.out.cell (k := 2) 5 rfl rfl
      have r3 := HSR.out.cell (k := 3) 5 rfl rfl
      have r4 := HSR.out.cell (k := 4) 5 rfl rfl
      have r5 := HSR.out.cell (k := 5) 5 rfl rfl
      have z0 := HSR.out.frz (k := 0) 5 rfl
      have z1 := HSR.out.frz (k := 1) 5 rfl
      have z2 := HSR.out.frz (k := 2) 5 rfl
      have z3 := HSR.out.frz (k := 3) 5 rfl
      have z4 := HSR.out.frz (k := 4) 5 rfl
      have z5 := HSR.out.frz (k := 5) 5 rfl
      have HSF := Lib.hid ((((((HSR.out.setBlk (k := 0) 5 rfl (.slice A' k c')).setBlk (k := 1) 5 rfl (.slice a1 q1 d01)).setBlk (k := 2) 5 rfl (.int .i64 r.Leader)).setBlk (k := 3) 5 rfl (.int .i64 r.Epoch)).setBlk (k := 4) 5 rfl (.slice a2 q2 d02)).setBlk (k := 5) 5 rfl (.slice a3 q3 d03))
      have u0 := HSF.out.cell (k := 0) 5 rfl rfl
      have u1 := HSF.out.cell (k := 1) 5 rfl rfl
      have u2 := HSF.out.cell (k := 2) 5 rfl rfl
      have u3 := HSF.out.cell (k := 3) 5 rfl rfl
      have u4 := HSF.out.cell (k := 4) 5 rfl rfl
      have u5 := HSF.out.cell (k := 5) 5 rfl rfl
      have HFI := Lib.hid (HSF.out.sel [0, 2, 3, 4] (by decide) rfl)
      rw [HE.out] at HFI
      go_wp2
      exact bodyPost_ret (v := .agg #[.slice A' k c', .slice a1 q1 d01, .int .i64 r.Leader, .int .i64 r.Epoch, .slice a2 q2 d02, .slice a3 q3 d03]) (by simp [results, Try.results47, go_sem, u0, u1, u2, u3, u4, u5]) rfl (repl_ret (shutv_Repl (x := r) HFI.out HI.out.1 HI.out.2))
end Go.Proofs.Ytihendiakgfpcaa

/-
  Contracts: new replications (chapter 9). No conditions beyond those named.
-/
namespace Go.Proofs.Ytihendiakgfpcaa
open Go.RowKit
attribute [local go_sem] und_cell cha_cell World.cell?_alloc_some
def Pl.zRe : Repl := ⟨[], [], 0, 0, [], []⟩
def Pl.newRepl (n : Int) : Repl × Bool := if Pl.isIn n 1 5 = true then (Pl.newRe n.toNat, true) else (Pl.zRe, false)
theorem upto5 {p : Nat → Prop} (h1 : p 1) (h2 : p 2) (h3 : p 3) (h4 : p 4) (h5 : p 5) (n : Nat) (a : 1 ≤ n) (b : n ≤ 5) : p n := by
  have : n = 1 ∨ n = 2 ∨ n = 3 ∨ n = 4 ∨ n = 5 := by omega
  rcases this with rfl | rfl | rfl | rfl | rfl <;> assumption
theorem zRe_own {w : World} : rRepl.own w Pl.zRe zRepl [] := rRepl_own_mk (x := Pl.zRe) (f0 := []) (f1 := []) (f2 := []) (f3 := []) Mm.SlOwn.nil Mm.SlOwn.nil (by unfold Mm.I64 Pl.zRe; simp) (by unfold Mm.I64 Pl.zRe; simp) Mm.SlOwn.nil Mm.SlOwn.nil
theorem make_logs (n : Nat) (h1 : 1 ≤ n) (h3 : n ≤ 5) (W : World) : (Instr.makeSlice 26 (.int .i64 n) (.int .i64 n)).run Try.prog W = .ok (.slice (some ⟨W.heap.size, 0, none⟩) n n) (W.alloc (.cells (List.replicate n (Value.slice none 0 0)).toArray 29)) :=
  upto5 (p := fun n => (Instr.makeSlice 26 (.int .i64 n) (.int .i64 n)).run Try.prog W = .ok (.slice (some ⟨W.heap.size, 0, none⟩) n n) (W.alloc (.cells (List.replicate n (Value.slice none 0 0)).toArray 29))) (by kernel_rfl) (by kernel_rfl) (by kernel_rfl) (by kernel_rfl) (by kernel_rfl) n h1 h3
theorem make_down (n : Nat) (h1 : 1 ≤ n) (h3 : n ≤ 5) (W : World) : (Instr.makeSlice 27 (.int .i64 n) (.int .i64 n)).run Try.prog W = .ok (.slice (some ⟨W.heap.size, 0, none⟩) n n) (W.alloc (.cells (List.replicate n (Value.bool false)).toArray 4)) :=
  upto5 (p := fun n => (Instr.makeSlice 27 (.int .i64 n) (.int .i64 n)).run Try.prog W = .ok (.slice (some ⟨W.heap.size, 0, none⟩) n n) (W.alloc (.cells (List.replicate n (Value.bool false)).toArray 4))) (by kernel_rfl) (by kernel_rfl) (by kernel_rfl) (by kernel_rfl) (by kernel_rfl) n h1 h3
theorem logs_own {X : World} {n : Nat} (h : n ≤ 5) : Mm.SlOwn rEntryS 29 (X.alloc (.cells (List.replicate n (Value.slice none 0 0)).toArray 29)) (List.replicate n []) (.slice (some ⟨X.heap.size, 0, none⟩) n n) [X.heap.size] := by
  have e : (List.replicate n ([] : List Entry)).flatMap (fun _ => [Value.slice none 0 0]) = List.replicate n (Value.slice none 0 0) := by rw [Mm.flatMap_rep]; simp
  exact Mm.SlOwn.of_blk (fun _ => [.slice none 0 0]) (by rw [e]; exact Mm.Blk.new X 29 (List.replicate n (Value.slice none 0 0))) (fun x hx => by rw [(List.mem_replicate.1 hx).2]; exact ⟨_, rfl, Mm.SlOwn.nil⟩) (by simp) (by unfold maxLen; omega)
theorem down_own {X : World} {n : Nat} (h : n ≤ 5) : Mm.SlOwn Mm.bool 4 (X.alloc (.cells (List.replicate n (Value.bool false)).toArray 4)) (List.replicate n false) (.slice (some ⟨X.heap.size, 0, none⟩) n n) [X.heap.size] := by
  have e : (List.replicate n false).flatMap (fun x => [Value.bool x]) = List.replicate n (Value.bool false) := by rw [Mm.flatMap_rep]; simp
  exact Mm.SlOwn.of_blk (fun x => [.bool x]) (by rw [e]; exact Mm.Blk.new X 4 (List.replicate n (Value.bool false))) (fun x hx => ⟨rfl, trivial, rfl⟩) (by simp) (by unfold maxLen; omega)
theorem Pl.range_snoc (k : Nat) : (List.range (k + 1)).map (fun k : Nat => (k : Int)) = (List.range k).map (fun k : Nat => (k : Int)) ++ [(k : Int)] := by rw [List.range_succ, List.map_append]; rfl
set_option maxRecDepth 100000 in
set_option maxHeartbeats 1000000 in
theorem newRepl_c (n : Nat) (w : World) (h1 : 1 ≤ n) (h3 : n ≤ 5) : Calls Try.prog 44 #[.int .i64 n] w (Mm.NewAg rRepl w (Pl.newRe n)) := by
  have hmk := make_logs n h1 h3
  have hmn := make_down n h1 h3
  have KS0 := Lib.hid ((Mm.SepF.start w).alloc' rfl 31 zRepl)
  go_enter Try.func44, Try.ntmps44
  go_wp2
  obtain ⟨gz, hgz⟩ : ∃ gz, w.heap.size = gz := ⟨_, rfl⟩
  obtain ⟨W1, hW1⟩ : ∃ W1, W1 = w.alloc (.cells #[.slice none 0 0, .slice none 0 0, .int .i64 0, .int .i64 0, .slice none 0 0, .slice none 0 0] 31) := ⟨_, rfl⟩
  rw [show zRepl.toArray = #[.slice none 0 0, .slice none 0 0, .int .i64 0, .int .i64 0, .slice none 0 0, .slice none 0 0] from rfl, ← hW1, hgz] at KS0
  rw [← hW1, hgz]
  clear hW1 hgz
  refine Mm.wp_region_give 6 (fun i => match i with | 1 => some (Mm.gSl rEntryS 29 (List.replicate n [])) | 3 => some (Mm.gSl Mm.bool 4 (List.replicate n false)) | 5 => some (Mm.gPtr 31 zRepl) | _ => none) (fun _ => []) (fun _ => []) (F := []) (D := fun w' => ∃ x : Und W1, w' = und W1 x) (fun X us h => Mm.sep_und h) (by kernel_rfl) (by kernel_rfl) (by kernel_rfl) (Mm.SepF.startDrew _) ?_
  repeat (refine Mm.give_det (by rfl) (by rfl) (by rfl) (fun K hK => ?_); go_big_quiet_op; refine hK _ ?_; clear hK K)
  refine Mm.give_op0 6 (by rfl) rfl (by rfl) (by rfl) (by rfl) (by rfl) Mm.gSl_in (fun others X hX => ?_) ?_
  · go_wp2
    exact Mm.gvq_sl hX (below_new (Below.refl _ _) _) (logs_own h3) (by simp) (by simp) rfl rfl
  rintro v ds ⟨A2, n2, c2, f2, rfl, rfl, hn2⟩
  simp only [Act.put, List.setIfInBounds_toArray, List.set_cons_succ, List.set_cons_zero]
  repeat (refine Mm.give_det (by rfl) (by rfl) (by rfl) (fun K hK => ?_); go_big_quiet_op; refine hK _ ?_; clear hK K)
  refine Mm.give_op0 8 (by rfl) rfl (by rfl) (by rfl) (by rfl) (by rfl) Mm.gSl_in (fun others X hX => ?_) ?_
  · go_wp2
    exact Mm.gvq_sl hX (below_new (Below.refl _ _) _) (down_own h3) (by simp) (by simp) rfl rfl
  rintro v ds ⟨A3, n3, c3, f3, rfl, rfl, hn3⟩
  simp only [Act.put, List.setIfInBounds_toArray, List.set_cons_succ, List.set_cons_zero]
  repeat (refine Mm.give_det (by rfl) (by rfl) (by rfl) (fun K hK => ?_); go_big_quiet_op; refine hK _ ?_; clear hK K)
  refine Mm.give_op0 3 (by rfl) rfl (by rfl) (by rfl) (by rfl) (by rfl) Mm.gPtr_in (fun others X hX => ?_) ?_
  · go_wp2
    exact Mm.gvq_ptr hX rfl rfl rfl
  rintro v ds ⟨gp, rfl, rfl⟩
  simp only [Act.put, List.setIfInBounds_toArray, List.set_cons_succ, List.set_cons_zero]
  refine Mm.give_nil ?_
  rintro X hX
  have HX := Lib.hid (KS0.out.join (us := [Mm.tsl rEntryS 29 (List.replicate n []) (.slice A2 n2 c2) f2, Mm.tsl Mm.bool 4 (List.replicate n false) (.slice A3 n3 c3) f3, Mm.tblk gp 31 zRepl]) hX)
  clear hX
  have r0 := HX.out.cell (k := 0) 2 rfl rfl
  have r1 := HX.out.cell (k := 1) 2 rfl rfl
  have r2 := HX.out.cell (k := 2) 2 rfl rfl
  have r3 := HX.out.cell (k := 3) 2 rfl rfl
  have r4 := HX.out.cell (k := 4) 2 rfl rfl
  have r5 := HX.out.cell (k := 5) 2 rfl rfl
  have z0 := HX.out.frz (k := 0) 2 rfl
  have z1 := HX.out.frz (k := 1) 2 rfl
  have z2 := HX.out.frz (k := 2) 2 rfl
  have z3 := HX.out.frz (k := 3) 2 rfl
  have z4 := HX.out.frz (k := 4) 2 rfl
  have z5 := HX.out.frz (k := 5) 2 rfl
  have HX2 := Lib.hid ((((((HX.out.setBlk (k := 0) 2 rfl (.slice A2 n2 c2)).setBlk (k := 1) 2 rfl (.slice A3 n3 c3)).setBlk (k := 2) 2 rfl (.int .i64 0)).setBlk (k := 3) 2 rfl (.int .i64 1)).setBlk (k := 4) 2 rfl (.slice none 0 0)).setBlk (k := 5) 2 rfl (.slice none 0 0))
  have KS2 := Lib.hid ((HX2.out.sel [2, 0, 1, 3] (by decide) rfl).add (Below.refl _ _) (t := Mm.tsl Mm.int 3 [] (.slice none 0 0) []) Mm.SlOwn.nil List.nodup_nil (fun b hb => by cases hb))
  obtain ⟨i0, hi, hz0, hz1, hz2⟩ := info_parts Try.infoI
  go_wp2
  clear r0 r1 r2 r3 r4 r5 z0 z1 z2 z3 z4 z5
  go_loopg [11] n (fun g i wr => ∃ (k : Nat) (A' : Option Addr) (c' : Nat) (fp : List Nat), n - k ≤ g ∧ k ≤ n ∧ i = .int .i64 k ∧ Hid (Mm.SepF [] w wr [Mm.tsl Mm.int 3 ((List.range k).map (fun k : Nat => (k : Int))) (.slice A' k c') fp, Mm.tblk gp 31 [.slice A2 n2 c2, .slice A3 n3 c3, .int .i64 0, .int .i64 1, .slice A' k c', .slice none 0 0], Mm.tsl rEntryS 29 (List.replicate n []) (.slice A2 n2 c2) f2, Mm.tsl Mm.bool 4 (List.replicate n false) (.slice A3 n3 c3) f3, Mm.tblk gz 31 zRepl]))
  case atStart => exact ⟨0, none, 0, [], Nat.le_refl _, Nat.zero_le _, rfl, KS2.out⟩
  case round =>
    obtain ⟨k, A', c', fp, hgk, hk', rfl, HS⟩ := hrel
    clear KS2
    by_cases hlt : k < n
    · have f1 : ((k : Nat) : Int) < (n : Nat) := by omega
      have d4 := HS.out.cell (k := 4) 1 rfl rfl
      have z4 := HS.out.frz (k := 4) 1 rfl
      have hlk : ((List.range k).map (fun k : Nat => (k : Int))).length = k := by simp
      go_upto_region 6 with (at_builtin; refine Mm.app_list HS.out 0 rfl rfl (.tmp 15) (.tmp 17) 28 rfl i0 _ 8 Try.underlying28 hi hz0 hz1 hz2 rfl (by decide) rfl rfl (x := (k : Int)) (fun W => ⟨rfl, by unfold Mm.I64; omega, rfl⟩) hlk (by unfold maxLen; omega) (by omega) ?_; intro gg cap w4 fp4 hs4; (have HS4 := Lib.hid hs4); (have d4' := HS4.out.cell (k := 4) 1 rfl rfl); (have z4' := HS4.out.frz (k := 4) 1 rfl); clear hs4)
      go_wp2
      go_roundg (n - (k + 1))
      case measure => omega
      case rel => exact ⟨k + 1, _, cap, fp4, Nat.le_refl _, by omega, by go_num, by rw [Pl.range_snoc]; exact HS4.out.setBlk (k := 4) 1 rfl _⟩
    · obtain rfl : k = n := by omega
      have f1 : ¬ ((k : Nat) : Int) < (k : Nat) := by omega
      have d0 := HS.out.cell (k := 0) 1 rfl rfl
      have d1 := HS.out.cell (k := 1) 1 rfl rfl
      have d2 := HS.out.cell (k := 2) 1 rfl rfl
      have d3 := HS.out.cell (k := 3) 1 rfl rfl
      have d4 := HS.out.cell (k := 4) 1 rfl rfl
      have d5 := HS.out.cell (k := 5) 1 rfl rfl
      have r0 := HS.out.cell (k := 0) 4 rfl rfl
      have r1 := HS.out.cell (k := 1) 4 rfl rfl
      have r2 := HS.out.cell (k := 2) 4 rfl rfl
      have r3 := HS.out.cell (k := 3) 4 rfl rfl
      have r4 := HS.out.cell (k := 4) 4 rfl rfl
      have r5 := HS.out.cell (k := 5) 4 rfl rfl
      have z0 := HS.out.frz (k := 0) 4 rfl
      have z1 := HS.out.frz (k := 1) 4 rfl
      have z2 := HS.out.frz (k := 2) 4 rfl
      have z3 := HS.out.frz (k := 3) 4 rfl
      have z4 := HS.out.frz (k := 4) 4 rfl
      have z5 := HS.out.frz (k := 5) 4 rfl
      have HSF := Lib.hid ((((((HS.out.setBlk (k := 0) 4 rfl (.slice A2 n2 c2)).setBlk (k := 1) 4 rfl (.slice A3 n3 c3)).setBlk (k := 2) 4 rfl (.int .i64 0)).setBlk (k := 3) 4 rfl (.int .i64 1)).setBlk (k := 4) 4 rfl (.slice A' k c')).setBlk (k := 5) 4 rfl (.slice none 0 0))
      have q0 := HSF.out.cell (k := 0) 4 rfl rfl
      have q1 := HSF.out.cell (k := 1) 4 rfl rfl
      have q2 := HSF.out.cell (k := 2) 4 rfl rfl
      have q3 := HSF.out.cell (k := 3) 4 rfl rfl
      have q4 := HSF.out.cell (k := 4) 4 rfl rfl
      have q5 := HSF.out.cell (k := 5) 4 rfl rfl
      have HFI := Lib.hid (((HSF.out.sel [2, 3, 0, 1, 4] (by decide) rfl).addEnd (Below.refl _ _) (t := Mm.tsl rEntry 111 [] (.slice none 0 0) []) Mm.SlOwn.nil List.nodup_nil (fun b hb => by cases hb)).sel [0, 1, 2, 5] (by decide) rfl)
      go_wp2
      exact bodyPost_ret (v := .agg #[.slice A2 n2 c2, .slice A3 n3 c3, .int .i64 0, .int .i64 1, .slice A' k c', .slice none 0 0]) (by simp [results, Try.results44, go_sem, q0, q1, q2, q3, q4, q5]) rfl (repl_ret (shutv_Repl (x := Pl.newRe k) HFI.out (by unfold Mm.I64 Pl.newRe; simp) (by unfold Mm.I64 Pl.newRe; simp)))
set_option maxRecDepth 100000 in
set_option maxHeartbeats 1000000 in
theorem specNewRepl_c (m : Int) (w : World) : Calls Try.prog 34 #[.int .i64 m] w (Mm.Ret2 rRepl w (Pl.newRepl m).1 (Pl.newRepl m).2) := by
  by_cases hin : Pl.isIn m 1 5 = true
  · have HF : Hid (Pl.newRepl m = (Pl.newRe m.toNat, true)) := if_pos hin
    have hin' := hin
    unfold Pl.isIn at hin'
    simp only [Bool.and_eq_true, decide_eq_true_eq] at hin'
    obtain ⟨n, rfl⟩ : ∃ n : Nat, m = n := ⟨m.toNat, by omega⟩
    have h1 : 1 ≤ n := by omega
    have h3 : n ≤ 5 := by omega
    clear hin'
    rw [show ((n : Nat) : Int).toNat = n by omega] at HF
    have hmk := make_logs n h1 h3
    have hmn := make_down n h1 h3
    have KS0 := Lib.hid ((Mm.SepF.start w).alloc' rfl 31 zRepl)
    go_enter Try.func34, Try.ntmps34
    go_wp2_with (go_at_call 71; (with_reducible refine (l1In_c _ _ _ _).mono ?_); rintro e w' ⟨rfl, rfl⟩)
    obtain ⟨gz, hgz⟩ : ∃ gz, w.heap.size = gz := ⟨_, rfl⟩
    obtain ⟨W1, hW1⟩ : ∃ W1, W1 = w.alloc (.cells #[.slice none 0 0, .slice none 0 0, .int .i64 0, .int .i64 0, .slice none 0 0, .slice none 0 0] 31) := ⟨_, rfl⟩
    rw [show zRepl.toArray = #[.slice none 0 0, .slice none 0 0, .int .i64 0, .int .i64 0, .slice none 0 0, .slice none 0 0] from rfl, ← hW1, hgz] at KS0
    rw [← hW1, hgz]
    clear hW1 hgz
    refine Mm.wp_region_give 6 (fun i => match i with | 1 => some (Mm.gSl rEntryS 29 (List.replicate n [])) | 3 => some (Mm.gSl Mm.bool 4 (List.replicate n false)) | 5 => some (Mm.gPtr 31 zRepl) | _ => none) (fun _ => []) (fun _ => []) (F := []) (D := fun w' => ∃ x : Und W1, w' = und W1 x) (fun X us h => Mm.sep_und h) (by kernel_rfl) (by kernel_rfl) (by kernel_rfl) (Mm.SepF.startDrew _) ?_
    repeat (refine Mm.give_det (by rfl) (by rfl) (by rfl) (fun K hK => ?_); go_big_quiet_op; refine hK _ ?_; clear hK K)
    refine Mm.give_op0 11 (by rfl) rfl (by rfl) (by rfl) (by rfl) (by rfl) Mm.gSl_in (fun others X hX => ?_) ?_
    · go_wp2
      exact Mm.gvq_sl hX (below_new (Below.refl _ _) _) (logs_own h3) (by simp) (by simp) rfl rfl
    rintro v ds ⟨A2, n2, c2, f2, rfl, rfl, hn2⟩
    simp only [Act.put, List.setIfInBounds_toArray, List.set_cons_succ, List.set_cons_zero]
    repeat (refine Mm.give_det (by rfl) (by rfl) (by rfl) (fun K hK => ?_); go_big_quiet_op; refine hK _ ?_; clear hK K)
    refine Mm.give_op0 13 (by rfl) rfl (by rfl) (by rfl) (by rfl) (by rfl) Mm.gSl_in (fun others X hX => ?_) ?_
    · go_wp2
      exact Mm.gvq_sl hX (below_new (Below.refl _ _) _) (down_own h3) (by simp) (by simp) rfl rfl
    rintro v ds ⟨A3, n3, c3, f3, rfl, rfl, hn3⟩
    simp only [Act.put, List.setIfInBounds_toArray, List.set_cons_succ, List.set_cons_zero]
    repeat (refine Mm.give_det (by rfl) (by rfl) (by rfl) (fun K hK => ?_); go_big_quiet_op; refine hK _ ?_; clear hK K)
    refine Mm.give_op0 4 (by rfl) rfl (by rfl) (by rfl) (by rfl) (by rfl) Mm.gPtr_in (fun others X hX => ?_) ?_
    · go_wp2
      exact Mm.gvq_ptr hX rfl rfl rfl
    rintro v ds ⟨gp, rfl, rfl⟩
    simp only [Act.put, List.setIfInBounds_toArray, List.set_cons_succ, List.set_cons_zero]
    refine Mm.give_nil ?_
    rintro X hX
    have HX := Lib.hid (KS0.out.join (us := [Mm.tsl rEntryS 29 (List.replicate n []) (.slice A2 n2 c2) f2, Mm.tsl Mm.bool 4 (List.replicate n false) (.slice A3 n3 c3) f3, Mm.tblk gp 31 zRepl]) hX)
    clear hX
    have r0 := HX.out.cell (k := 0) 2 rfl rfl
    have r1 := HX.out.cell (k := 1) 2 rfl rfl
    have r2 := HX.out.cell (k := 2) 2 rfl rfl
    have r3 := HX.out.cell (k := 3) 2 rfl rfl
    have r4 := HX.out.cell (k := 4) 2 rfl rfl
    have r5 := HX.out.cell (k := 5) 2 rfl rfl
    have z0 := HX.out.frz (k := 0) 2 rfl
    have z1 := HX.out.frz (k := 1) 2 rfl
    have z2 := HX.out.frz (k := 2) 2 rfl
    have z3 := HX.out.frz (k := 3) 2 rfl
    have z4 := HX.out.frz (k := 4) 2 rfl
    have z5 := HX.out.frz (k := 5) 2 rfl
    have HX2 := Lib.hid ((((((HX.out.setBlk (k := 0) 2 rfl (.slice A2 n2 c2)).setBlk (k := 1) 2 rfl (.slice A3 n3 c3)).setBlk (k := 2) 2 rfl (.int .i64 0)).setBlk (k := 3) 2 rfl (.int .i64 1)).setBlk (k := 4) 2 rfl (.slice none 0 0)).setBlk (k := 5) 2 rfl (.slice none 0 0))
    have KS2 := Lib.hid ((HX2.out.sel [2, 0, 1, 3] (by decide) rfl).add (Below.refl _ _) (t := Mm.tsl Mm.int 3 [] (.slice none 0 0) []) Mm.SlOwn.nil List.nodup_nil (fun b hb => by cases hb))
    obtain ⟨i0, hi, hz0, hz1, hz2⟩ := info_parts Try.infoI
    go_wp2
    clear r0 r1 r2 r3 r4 r5 z0 z1 z2 z3 z4 z5
    go_loopg [5] n (fun g i wr => ∃ (k : Nat) (A' : Option Addr) (c' : Nat) (fp : List Nat), n - k ≤ g ∧ k ≤ n ∧ i = .int .i64 k ∧ Hid (Mm.SepF [] w wr [Mm.tsl Mm.int 3 ((List.range k).map (fun k : Nat => (k : Int))) (.slice A' k c') fp, Mm.tblk gp 31 [.slice A2 n2 c2, .slice A3 n3 c3, .int .i64 0, .int .i64 1, .slice A' k c', .slice none 0 0], Mm.tsl rEntryS 29 (List.replicate n []) (.slice A2 n2 c2) f2, Mm.tsl Mm.bool 4 (List.replicate n false) (.slice A3 n3 c3) f3, Mm.tblk gz 31 zRepl]))
    case atStart => exact ⟨0, none, 0, [], Nat.le_refl _, Nat.zero_le _, rfl, KS2.out⟩
    case round =>
      obtain ⟨k, A', c', fp, hgk, hk', rfl, HS⟩ := hrel
      clear KS2
      by_cases hlt : k < n
      · have f1 : ((k : Nat) : Int) < (n : Nat) := by omega
        have d4 := HS.out.cell (k := 4) 1 rfl rfl
        have z4 := HS.out.frz (k := 4) 1 rfl
        have hlk : ((List.range k).map (fun k : Nat => (k : Int))).length = k := by simp
        go_upto_region 6 with (at_builtin; refine Mm.app_list HS.out 0 rfl rfl (.tmp 21) (.tmp 23) 28 rfl i0 _ 8 Try.underlying28 hi hz0 hz1 hz2 rfl (by decide) rfl rfl (x := (k : Int)) (fun W => ⟨rfl, by unfold Mm.I64; omega, rfl⟩) hlk (by unfold maxLen; omega) (by omega) ?_; intro gg cap w4 fp4 hs4; (have HS4 := Lib.hid hs4); (have d4' := HS4.out.cell (k := 4) 1 rfl rfl); (have z4' := HS4.out.frz (k := 4) 1 rfl); clear hs4)
        go_wp2
        go_roundg (n - (k + 1))
        case measure => omega
        case rel => exact ⟨k + 1, _, cap, fp4, Nat.le_refl _, by omega, by go_num, by rw [Pl.range_snoc]; exact HS4.out.setBlk (k := 4) 1 rfl _⟩
      · obtain rfl : k = n := by omega
        have f1 : ¬ ((k : Nat) : Int) < (k : Nat) := by omega
        have d0 := HS.out.cell (k := 0) 1 rfl rfl
        have d1 := HS.out.cell (k := 1) 1 rfl rfl
        have d2 := HS.out.cell (k := 2) 1 rfl rfl
        have d3 := HS.out.cell (k := 3) 1 rfl rfl
        have d4 := HS.out.cell (k := 4) 1 rfl rfl
        have d5 := HS.out.cell (k := 5) 1 rfl rfl
        have r0 := HS.out.cell (k := 0) 4 rfl rfl
        have r1 := HS.out.cell (k := 1) 4 rfl rfl
        have r2 := HS.out.cell (k := 2) 4 rfl rfl
        have r3 := HS.out.cell (k := 3) 4 rfl rfl
        have r4 := HS.out.cell (k := 4) 4 rfl rfl
        have r5 := HS.out.cell (k := 5) 4 rfl rfl
        have z0 := HS.out.frz (k := 0) 4 rfl
        have z1 := HS.out.frz (k := 1) 4 rfl
        have z2 := HS.out.frz (k := 2) 4 rfl
        have z3 := HS.out.frz (k := 3) 4 rfl
        have z4 := HS.out.frz (k := 4) 4 rfl
        have z5 := HS.out.frz (k := 5) 4 rfl
        have HSF := Lib.hid ((((((HS.out.setBlk (k := 0) 4 rfl (.slice A2 n2 c2)).setBlk (k := 1) 4 rfl (.slice A3 n3 c3)).setBlk (k := 2) 4 rfl (.int .i64 0)).setBlk (k := 3) 4 rfl (.int .i64 1)).setBlk (k := 4) 4 rfl (.slice A' k c')).setBlk (k := 5) 4 rfl (.slice none 0 0))
        have q0 := HSF.out.cell (k := 0) 4 rfl rfl
        have q1 := HSF.out.cell (k := 1) 4 rfl rfl
        have q2 := HSF.out.cell (k := 2) 4 rfl rfl
        have q3 := HSF.out.cell (k := 3) 4 rfl rfl
        have q4 := HSF.out.cell (k := 4) 4 rfl rfl
        have q5 := HSF.out.cell (k := 5) 4 rfl rfl
        have HFI := Lib.hid (((HSF.out.sel [2, 3, 0, 1, 4] (by decide) rfl).addEnd (Below.refl _ _) (t := Mm.tsl rEntry 111 [] (.slice none 0 0) []) Mm.SlOwn.nil List.nodup_nil (fun b hb => by cases hb)).sel [0, 1, 2, 5] (by decide) rfl)
        go_wp2
        rw [HF.out]
        exact bodyPost_ret (v := .tuple #[.agg #[.slice A2 n2 c2, .slice A3 n3 c3, .int .i64 0, .int .i64 1, .slice A' k c', .slice none 0 0], .bool true]) (by simp [results, Try.results34, go_sem, q0, q1, q2, q3, q4, q5]) rfl (repl_ret2 (shutv_Repl (x := Pl.newRe k) HFI.out (by unfold Mm.I64 Pl.newRe; simp) (by unfold Mm.I64 Pl.newRe; simp)))
  · have HF : Hid (Pl.newRepl m = (Pl.zRe, false)) := if_neg hin
    have hin' : Pl.isIn m 1 5 = false := by simpa using hin
    clear hin
    go_enter Try.func34, Try.ntmps34
    go_wp2_with (go_at_call 71; (with_reducible refine (l1In_c _ _ _ _).mono ?_); rintro e w' ⟨rfl, rfl⟩)
    rw [HF.out]
    exact bodyPost_ret (v := .tuple #[.agg zRepl.toArray, .bool false]) (by simp [results, Try.results34, go_sem, zRepl]) rfl ⟨zRepl, [], rfl, zRe_own, List.nodup_nil, (fun b hb => by cases hb), below_new (Below.refl _ _) _⟩
end Go.Proofs.Ytihendiakgfpcaa

/-
  Contracts: the program's run of a replication (chapter 9). No conditions.
-/
namespace Go.Proofs.Ytihendiakgfpcaa
open Go.RowKit
attribute [local go_sem] und_cell cha_cell World.cell?_alloc_some
namespace Mm
theorem SepF.toPtr {F : List Nat} {w0 wr : World} {ts : List Thing} {α : Type} {R : Rep α} {T : TypeId} {g : Nat} {x : α} {cs : List Value} {fp : List Nat} (h : SepF F w0 wr (tblk g T cs :: tow R x cs fp :: ts)) : SepF F w0 wr (tptr R T g x fp :: ts) :=
  h.conv (by simp [tblk, tow, tptr]) (List.forall_mem_cons.2 ⟨⟨cs, h.at_ 0 rfl, h.at_ 1 rfl⟩, fun u hu => h.hold u (List.mem_cons_of_mem _ (List.mem_cons_of_mem _ hu))⟩)
theorem own_bool {w : World} {b : Bool} : bool.own w b [.bool b] [] := ⟨rfl, trivial, rfl⟩
end Mm
def Pl.playRepl (n : Int) (l : List ReplStep) : Repl × List Bool × Bool :=
  if Pl.isIn n 1 5 = true ∧ l.length ≤ 120 then ((Pl.playR (Pl.newRe n.toNat) l).1, (Pl.playR (Pl.newRe n.toNat) l).2, true) else (Pl.zRe, [], false)
def PlayAns (r : Repl × List Bool × Bool) (w : World) (e : Ending) (w' : World) : Prop :=
  ∃ cs A n c fp0 fp1, e = .returned (.tuple #[.agg cs.toArray, .slice A n c, .bool r.2.2]) ∧ Mm.SepF [] w w' [Mm.tow rRepl r.1 cs fp0, Mm.tsl Mm.bool 4 r.2.1 (.slice A n c) fp1]
theorem playNo {w w' : World} (h : Below w.heap.size w w') : PlayAns (Pl.zRe, [], false) w (.returned (.tuple #[.agg zRepl.toArray, .slice none 0 0, .bool false])) w' :=
  ⟨zRepl, none, 0, 0, [], [], rfl, ⟨Mm.Chg.of_below h, by simp [Mm.tow, Mm.tsl], by simp [Mm.tow, Mm.tsl], List.forall_mem_cons.2 ⟨zRe_own, List.forall_mem_cons.2 ⟨Mm.SlOwn.nil, fun u hu => by cases hu⟩⟩⟩⟩
theorem Try.infoBool : (Try.prog.info? 4).map (fun i => (i.zero, i.size, i.bytes)) = some (some (.bool false), 1, 1) := by kernel_rfl
set_option maxRecDepth 100000 in
set_option maxHeartbeats 2000000 in
theorem implPlayRepl_c (m : Int) (l : List ReplStep) (A : Option Addr) (n c : Nat) (w : World) (B : Nat) (hl : Mm.SlAt rReplStep w B l A n c) (hB : B ≤ w.heap.size) :
    Calls Try.prog 8 #[.int .i64 m, .slice A n c] w (PlayAns (Pl.playRepl m l) w) := by
  have hn : n ≤ maxLen := Nat.le_trans hl.2.1 hl.2.2.1
  have hlen := hl.1
  have HL := Lib.hid hl
  clear hl
  unfold maxLen at hn
  by_cases hin : Pl.isIn m 1 5 = true
  · by_cases h150 : n ≤ 120
    · have HF : Hid (Pl.playRepl m l = ((Pl.playR (Pl.newRe m.toNat) l).1, (Pl.playR (Pl.newRe m.toNat) l).2, true)) := if_pos ⟨hin, by omega⟩
      have hin' := hin
      unfold Pl.isIn at hin'
      simp only [Bool.and_eq_true, decide_eq_true_eq] at hin'
      obtain ⟨q, rfl⟩ : ∃ q : Nat, m = q := ⟨m.toNat, by omega⟩
      have h1 : 1 ≤ q := by omega
      have h3 : q ≤ 5 := by omega
      rw [show ((q : Nat) : Int).toNat = q by omega] at HF
      clear hin'
      have f1 : decide ((120 : Int) < ((n : Nat) : Int)) = false := by simp; omega
      have HLN := Lib.hid hlen
      clear hlen
      have KS0 := Lib.hid ((Mm.SepF.start w).alloc' rfl 31 zRepl)
      obtain ⟨i0, hi, hz0, hz1, hz2⟩ := info_parts Try.infoBool
      have HW0 := Lib.hid (Pl.newRe_inv h1 h3)
      go_enter Try.func8, Try.ntmps8
      go_wp2_with (first
        | (go_at_call 43; (with_reducible refine (within_c _ _ _ _).mono ?_); rintro e w5 ⟨rfl, rfl⟩)
        | (go_at_call 44; (with_reducible refine (newRepl_c q _ h1 h3).mono ?_); rintro e w1 ⟨cs1, fp1, rfl, ho, hnd, hnew, hb⟩; obtain ⟨B0, m0, d0, B1, m1, d1, B2, m2, d2, B3, m3, d3, g0, g1, g2, g3, rfl, rfl, -⟩ := rRepl_own ho; (have KS1 := Lib.hid (KS0.out.add hb (t := Mm.tow rRepl (Pl.newRe q) _ _) ho hnd hnew)); clear ho hnd hnew hb))
      have KS2 := Lib.hid (((KS1.out.alloc' rfl 31 [.slice B0 m0 d0, .slice B1 m1 d1, .int .i64 (Pl.newRe q).Leader, .int .i64 (Pl.newRe q).Epoch, .slice B2 m2 d2, .slice B3 m3 d3]).toPtr).add (Below.refl _ _) (t := Mm.tsl Mm.bool 4 [] (.slice none 0 0) []) Mm.SlOwn.nil List.nodup_nil (fun b hb => by cases hb))
      obtain ⟨gt, hgt⟩ : ∃ gt, w1.heap.size = gt := ⟨_, rfl⟩
      obtain ⟨gr, hgr⟩ : ∃ gr, w.heap.size = gr := ⟨_, rfl⟩
      have HBR := Lib.hid (show B ≤ w.heap.size from hB)
      rw [hgt] at KS2
      rw [hgr] at KS2
      rw [hgt, hgr]
      have HGT := Lib.hid hgt
      have HGR := Lib.hid hgr
      clear hgt hgr KS0 KS1 hB
      go_loopg [8, 24] n (fun g d i wr => ∃ (k : Nat) (A' : Option Addr) (c' : Nat) (fpt fpd : List Nat), n - k ≤ g ∧ k ≤ n ∧ d = .slice A' k c' ∧ i = .int .i64 k ∧ Hid (Mm.SepF [] w wr [Mm.tsl Mm.bool 4 (Pl.playR (Pl.newRe q) (l.take k)).2 (.slice A' k c') fpd, Mm.tptr rRepl 31 gt (Pl.playR (Pl.newRe q) (l.take k)).1 fpt, Mm.tblk gr 31 zRepl]))
      case atStart => exact ⟨0, none, 0, _, _, Nat.le_refl _, Nat.zero_le _, rfl, rfl, KS2.out⟩
      case round =>
        obtain ⟨k, A', c', fpt, fpd, hgk, hk', rfl, rfl, HS⟩ := hrel
        have hbel := HS.out.bel0
        have hlk := List.length_take_of_le (l := l) (i := k) (by rw [HLN.out]; omega)
        have hwf := Pl.playR_inv (Pl.newRe q) HW0.out k (l.take k) hlk
        have HWF := Lib.hid hwf.1
        have HPL := Lib.hid hwf.2
        clear hwf hlk
        obtain ⟨p, hp⟩ : ∃ p, Pl.playR (Pl.newRe q) (l.take k) = p := ⟨_, rfl⟩
        rw [hp] at HS HWF HPL
        have HP := Lib.hid hp
        clear hp KS2
        by_cases hlt : k < n
        · obtain ⟨s, b0, off, hx, rfl, hb, g0', g1', g2', e0, e1, e2⟩ := rReplStep_get HL.out hlt
          have HN : Hid (Pl.playR (Pl.newRe q) (l.take (k + 1)) = ((Pl.rstep p.1 s).1, p.2 ++ [(Pl.rstep p.1 s).2])) := by
            show _ = _
            rw [Mm.take_succ_some hx, Pl.playR_snoc, HP.out]
          have HSW := Lib.hid (And.intro g1' g2')
          have hlt' : ((k : Nat) : Int) < ((n : Nat) : Int) := by omega
          have hb0 : b0 < w.heap.size := by have := HBR.out; omega
          replace e0 := below_some hbel e0
          replace e1 := below_some hbel e1
          replace e2 := below_some hbel e2
          have HS2 := Lib.hid (HS.out.alloc' rfl 53 [.int .i64 s.Kind, .int .i64 s.Node, .string s.Text])
          clear hx g0' g1' g2'
          go_wp2_with (first
            | (go_at_call 45; refine (step_c p.1 s gt fpt _ (HS2.out.at_ 2 rfl) (HS2.out.ndat (i := 2) rfl) HSW.out.1 HWF.out.rw).mono ?_; rintro e w9 ⟨rfl, fp9, hL⟩; (have HS3 := Lib.hid (HS2.out.call 2 rfl hL)); clear hL)
            | (at_builtin; refine Mm.app_list HS3.out 1 rfl rfl (.tmp 28) (.tmp 31) 27 rfl i0 _ 1 Try.underlying27 hi hz0 hz1 hz2 rfl (by decide) rfl rfl (fun W => Mm.own_bool) HPL.out (by unfold maxLen; omega) (by omega) ?_; intro g cap w' fp' hs; (have HS4 := Lib.hid hs); clear hs))
          go_roundg (n - (k + 1))
          case measure => omega
          case rel => exact ⟨k + 1, _, cap, fp9, fp', Nat.le_refl _, by omega, rfl, by go_num, by rw [HN.out]; exact HS4.out.sel [1, 2, 3] (by decide) rfl⟩
        · obtain rfl : k = n := by omega
          have HE : Hid (l.take k = l) := List.take_of_length_le (by rw [HLN.out]; exact Nat.le_refl _)
          have hlt' : ¬ ((k : Nat) : Int) < ((k : Nat) : Int) := by omega
          rw [HE.out] at HP
          rw [HP.out] at HF
          obtain ⟨A0, n0, c0, A1, n1, c1, A2, n2, c2, A3, n3, c3, f0, f1', f2, f3, rfl, i2, i3, hs⟩ := open_Repl (HS.out.sel [1, 0, 2] (by decide) rfl)
          have HSR := Lib.hid hs
          have HI := Lib.hid (And.intro i2 i3)
          clear hs i2 i3
          have d0 := HSR.out.cell (k := 0) 0 rfl rfl
          have d1 := HSR.out.cell (k := 1) 0 rfl rfl
          have d2 := HSR.out.cell (k := 2) 0 rfl rfl
          have d3 := HSR.out.cell (k := 3) 0 rfl rfl
          have d4 := HSR.out.cell (k := 4) 0 rfl rfl
          have d5 := HSR.out.cell (k := 5) 0 rfl rfl
          have r0 := HSR.out.cell (k := 0) 6 rfl rfl
          have r1 := HSR.out.cell (k := 1) 6 rfl rfl
          have r2 := HSR.out.cell (k := 2) 6 rfl rfl
          have r3 := HSR.out.cell (k := 3) 6 rfl rfl
          have r4 := HSR.out.cell (k := 4) 6 rfl rfl
          have r5 := HSR.out.cell (k := 5) 6 rfl rfl
          have z0 := HSR.out.frz (k := 0) 6 rfl
          have z1 := HSR.out.frz (k := 1) 6 rfl
          have z2 := HSR.out.frz (k := 2) 6 rfl
          have z3 := HSR.out.frz (k := 3) 6 rfl
          have z4 := HSR.out.frz (k := 4) 6 rfl
          have z5 := HSR.out.frz (k := 5) 6 rfl
          go_wp2
          have HSF := Lib.hid ((((((HSR.out.setBlk (k := 0) 6 rfl (.slice A0 n0 c0)).setBlk (k := 1) 6 rfl (.slice A1 n1 c1)).setBlk (k := 2) 6 rfl (.int .i64 p.1.Leader)).setBlk (k := 3) 6 rfl (.int .i64 p.1.Epoch)).setBlk (k := 4) 6 rfl (.slice A2 n2 c2)).setBlk (k := 5) 6 rfl (.slice A3 n3 c3))
          have q0 := HSF.out.cell (k := 0) 6 rfl rfl
          have q1 := HSF.out.cell (k := 1) 6 rfl rfl
          have q2 := HSF.out.cell (k := 2) 6 rfl rfl
          have q3 := HSF.out.cell (k := 3) 6 rfl rfl
          have q4 := HSF.out.cell (k := 4) 6 rfl rfl
          have q5 := HSF.out.cell (k := 5) 6 rfl rfl
          exact bodyPost_ret (v := .tuple #[.agg #[.slice A0 n0 c0, .slice A1 n1 c1, .int .i64 p.1.Leader, .int .i64 p.1.Epoch, .slice A2 n2 c2, .slice A3 n3 c3], .slice A' k c', .bool true]) (by simp [results, Try.results8, go_sem, q0, q1, q2, q3, q4, q5]) rfl ⟨[.slice A0 n0 c0, .slice A1 n1 c1, .int .i64 p.1.Leader, .int .i64 p.1.Epoch, .slice A2 n2 c2, .slice A3 n3 c3], A', k, c', _, _, by rw [HF.out], by rw [HF.out]; exact shutv_Repl (x := p.1) (HSF.out.sel [1, 2, 3, 4, 5] (by decide) rfl) HI.out.1 HI.out.2⟩
    · have HF : Hid (Pl.playRepl m l = (Pl.zRe, [], false)) := if_neg (by omega)
      have f1 : decide ((120 : Int) < ((n : Nat) : Int)) = true := by simp; omega
      have HLN := Lib.hid hlen
      clear hlen
      go_enter Try.func8, Try.ntmps8
      go_wp2_with (go_at_call 43; (with_reducible refine (within_c _ _ _ _).mono ?_); rintro e w5 ⟨rfl, rfl⟩)
      rw [HF.out]
      exact bodyPost_ret (v := .tuple #[.agg zRepl.toArray, .slice none 0 0, .bool false]) (by simp [results, Try.results8, go_sem, zRepl]) rfl (playNo (below_new (Below.refl _ _) _))
  · have HF : Hid (Pl.playRepl m l = (Pl.zRe, [], false)) := if_neg (fun h => hin h.1)
    have hin' : Pl.isIn m 1 5 = false := by simpa using hin
    have HLN := Lib.hid hlen
    clear hlen hin
    go_enter Try.func8, Try.ntmps8
    go_wp2_with (go_at_call 43; (with_reducible refine (within_c _ _ _ _).mono ?_); rintro e w5 ⟨rfl, rfl⟩)
    rw [HF.out]
    exact bodyPost_ret (v := .tuple #[.agg zRepl.toArray, .slice none 0 0, .bool false]) (by simp [results, Try.results8, go_sem, zRepl]) rfl (playNo (below_new (Below.refl _ _) _))
end Go.Proofs.Ytihendiakgfpcaa

/-
  Contracts: the reference's run of a replication (chapter 9). No conditions.
-/
namespace Go.Proofs.Ytihendiakgfpcaa
open Go.RowKit
attribute [local go_sem] und_cell cha_cell World.cell?_alloc_some
/-- a call hands back a replication by value; beside a bool -/
def gRe (x : Repl) : Mm.Rel := fun _ _ v ds => ∃ A0 n0 c0 A1 n1 c1 A2 n2 c2 A3 n3 c3 fp, v = .agg #[.slice A0 n0 c0, .slice A1 n1 c1, .int .i64 x.Leader, .int .i64 x.Epoch, .slice A2 n2 c2, .slice A3 n3 c3] ∧ ds = [Mm.tow rRepl x [.slice A0 n0 c0, .slice A1 n1 c1, .int .i64 x.Leader, .int .i64 x.Epoch, .slice A2 n2 c2, .slice A3 n3 c3] fp]
def gRe2 (x : Repl) (b : Bool) : Mm.Rel := fun _ _ v ds => ∃ A0 n0 c0 A1 n1 c1 A2 n2 c2 A3 n3 c3 fp, v = .tuple #[.agg #[.slice A0 n0 c0, .slice A1 n1 c1, .int .i64 x.Leader, .int .i64 x.Epoch, .slice A2 n2 c2, .slice A3 n3 c3], .bool b] ∧ ds = [Mm.tow rRepl x [.slice A0 n0 c0, .slice A1 n1 c1, .int .i64 x.Leader, .int .i64 x.Epoch, .slice A2 n2 c2, .slice A3 n3 c3] fp]
theorem gRe_in {x : Repl} {vals : List Value} {tk : List Mm.Thing} : ∃ v ds, gRe x vals tk v ds := ⟨_, _, none, 0, 0, none, 0, 0, none, 0, 0, none, 0, 0, [], rfl, rfl⟩
theorem gRe2_in {x : Repl} {b : Bool} {vals : List Value} {tk : List Mm.Thing} : ∃ v ds, gRe2 x b vals tk v ds := ⟨_, _, none, 0, 0, none, 0, 0, none, 0, 0, none, 0, 0, [], rfl, rfl⟩
theorem Pl.rstep_same {r : Repl} {s : ReplStep} (h : (Pl.rstep r s).2 = false) : (Pl.rstep r s).1 = r := by
  unfold Pl.rstep at *
  split
  · rename_i hc; rw [if_pos hc] at h; cases h
  · rfl
set_option maxRecDepth 100000 in
set_option maxHeartbeats 4000000 in
theorem specPlayRepl_c (m : Int) (l : List ReplStep) (A : Option Addr) (n c : Nat) (w : World) (B : Nat) (hl : Mm.SlAt rReplStep w B l A n c) (hB : B ≤ w.heap.size) :
    Calls Try.prog 9 #[.int .i64 m, .slice A n c] w (PlayAns (Pl.playRepl m l) w) := by
  have hn : n ≤ maxLen := Nat.le_trans hl.2.1 hl.2.2.1
  have hlen := hl.1
  have HL := Lib.hid hl
  clear hl
  unfold maxLen at hn
  have KS0 := Lib.hid ((Mm.SepF.start w).alloc' rfl 31 zRepl)
  by_cases hin : Pl.isIn m 1 5 = true
  · have HQ : Hid (Pl.newRepl m = (Pl.newRe m.toNat, true)) := if_pos hin
    by_cases h150 : n ≤ 120
    · have HF : Hid (Pl.playRepl m l = ((Pl.playR (Pl.newRe m.toNat) l).1, (Pl.playR (Pl.newRe m.toNat) l).2, true)) := if_pos ⟨hin, by omega⟩
      have hin' := hin
      unfold Pl.isIn at hin'
      simp only [Bool.and_eq_true, decide_eq_true_eq] at hin'
      obtain ⟨q, rfl⟩ : ∃ q : Nat, m = q := ⟨m.toNat, by omega⟩
      have h1 : 1 ≤ q := by omega
      have h3 : q ≤ 5 := by omega
      rw [show ((q : Nat) : Int).toNat = q by omega] at HF HQ
      clear hin'
      have f1 : decide ((120 : Int) < ((n : Nat) : Int)) = false := by simp; omega
      have HLN := Lib.hid hlen
      clear hlen
      obtain ⟨i0, hi, hz0, hz1, hz2⟩ := info_parts Try.infoBool
      have HW0 := Lib.hid (Pl.newRe_inv h1 h3)
      go_enter Try.func9, Try.ntmps9
      go_wp2_with (go_at_call 34; (with_reducible refine (specNewRepl_c _ _).mono ?_); rintro e w1 ⟨cs1, fp1, rfl, ho, hnd, hnew, hb⟩; rw [HQ.out] at ho; rw [HQ.out]; obtain ⟨A0, n0, c0, A1, n1, c1, A2, n2, c2, A3, n3, c3, rfl⟩ := own_formR ho; (have KS1 := Lib.hid (KS0.out.add hb (t := Mm.tow rRepl (Pl.newRe q) _ _) ho hnd hnew)); clear ho hnd hnew hb)
      have KS2 := Lib.hid ((KS1.out.alloc' rfl 31 [.slice A0 n0 c0, .slice A1 n1 c1, .int .i64 (Pl.newRe q).Leader, .int .i64 (Pl.newRe q).Epoch, .slice A2 n2 c2, .slice A3 n3 c3]).add (Below.refl _ _) (t := Mm.tsl Mm.bool 4 [] (.slice none 0 0) []) Mm.SlOwn.nil List.nodup_nil (fun b hb => by cases hb))
      obtain ⟨g7, hg7⟩ : ∃ g7, w1.heap.size = g7 := ⟨_, rfl⟩
      obtain ⟨gr, hgr⟩ : ∃ gr, w.heap.size = gr := ⟨_, rfl⟩
      have HBR := Lib.hid (show B ≤ w.heap.size from hB)
      rw [hg7] at KS2
      rw [hgr] at KS2
      rw [hg7, hgr]
      have HG7 := Lib.hid hg7
      have HGR := Lib.hid hgr
      clear hg7 hgr KS0 KS1 hB
      go_loopg [9, 29] n (fun g d i wr => ∃ (k : Nat) (A' : Option Addr) (c' : Nat) (fpt fpd : List Nat) (A0 : Option Addr) (n0 c0 : Nat) (A1 : Option Addr) (n1 c1 : Nat) (A2 : Option Addr) (n2 c2 : Nat) (A3 : Option Addr) (n3 c3 : Nat), n - k ≤ g ∧ k ≤ n ∧ d = .slice A' k c' ∧ i = .int .i64 k ∧ Hid (∃ x : Repl, x = (Pl.playR (Pl.newRe q) (l.take k)).1 ∧ Mm.SepF [] w wr [Mm.tsl Mm.bool 4 (Pl.playR (Pl.newRe q) (l.take k)).2 (.slice A' k c') fpd, Mm.tblk g7 31 [.slice A0 n0 c0, .slice A1 n1 c1, .int .i64 x.Leader, .int .i64 x.Epoch, .slice A2 n2 c2, .slice A3 n3 c3], Mm.tow rRepl x [.slice A0 n0 c0, .slice A1 n1 c1, .int .i64 x.Leader, .int .i64 x.Epoch, .slice A2 n2 c2, .slice A3 n3 c3] fpt, Mm.tblk gr 31 zRepl]))
      case atStart => exact ⟨0, none, 0, _, _, A0, n0, c0, A1, n1, c1, A2, n2, c2, A3, n3, c3, Nat.le_refl _, Nat.zero_le _, rfl, rfl, Lib.hid ⟨_, rfl, KS2.out⟩⟩
      case round =>
        clear KS2
        obtain ⟨k, A', c', fpt, fpd, A0, n0, c0, A1, n1, c1, A2, n2, c2, A3, n3, c3, hgk, hk', rfl, rfl, HS'⟩ := hrel
        obtain ⟨x, hx0, hS'⟩ := HS'.out
        clear HS'
        have HS := Lib.hid hS'
        clear hS'
        have hbel := HS.out.bel0
        have hlk := List.length_take_of_le (l := l) (i := k) (by rw [HLN.out]; omega)
        have hwf := Pl.playR_inv (Pl.newRe q) HW0.out k (l.take k) hlk
        rw [← hx0] at hwf
        have HWF := Lib.hid hwf.1
        have HPL := Lib.hid hwf.2
        clear hwf hlk
        obtain ⟨dl, hp⟩ : ∃ dl, Pl.playR (Pl.newRe q) (l.take k) = (x, dl) := ⟨_, by rw [hx0]⟩
        rw [hp] at HS HPL
        have HP := Lib.hid hp
        clear hp hx0
        by_cases hlt : k < n
        · obtain ⟨s, b0, off, hx, rfl, hb, g0', g1', g2', e0, e1, e2⟩ := rReplStep_get HL.out hlt
          have HN : Hid (Pl.playR (Pl.newRe q) (l.take (k + 1)) = ((Pl.rstep x s).1, dl ++ [(Pl.rstep x s).2])) := by
            show _ = _
            rw [Mm.take_succ_some hx, Pl.playR_snoc, HP.out]
          have HNO := Lib.hid (@Pl.rstep_same x s)
          obtain ⟨r, hr⟩ : ∃ r, Pl.rstep x s = r := ⟨_, rfl⟩
          rw [hr] at HN HNO
          have HR := Lib.hid hr
          have HSW := Lib.hid (And.intro g1' g2')
          have hlt' : ((k : Nat) : Int) < ((n : Nat) : Int) := by omega
          have hb0 : b0 < w.heap.size := by have := HBR.out; omega
          replace e0 := below_some hbel e0
          replace e1 := below_some hbel e1
          replace e2 := below_some hbel e2
          obtain ⟨t', is⟩ := r
          clear hx g0' g1' g2' hr
          cases is with
          | true =>
            have d0 := HS.out.cell (k := 0) 1 rfl rfl
            have d1 := HS.out.cell (k := 1) 1 rfl rfl
            have d2 := HS.out.cell (k := 2) 1 rfl rfl
            have d3 := HS.out.cell (k := 3) 1 rfl rfl
            have d4 := HS.out.cell (k := 4) 1 rfl rfl
            have d5 := HS.out.cell (k := 5) 1 rfl rfl
            go_wp2
            obtain ⟨gs, hgs⟩ : ∃ gs, wr.heap.size = gs := ⟨_, rfl⟩
            obtain ⟨W1, hW1⟩ : ∃ W1, wr.alloc (.cells #[.int .i64 s.Kind, .int .i64 s.Node, .string s.Text] 53) = W1 := ⟨_, rfl⟩
            have HS1 := Lib.hid ((HS.out.alloc' hgs 53 [.int .i64 s.Kind, .int .i64 s.Node, .string s.Text]).atW hW1)
            rw [hW1, hgs]
            clear hW1 hgs e0 e1 e2 d0 d1 d2 d3 d4 d5
            have d0 := HS1.out.cell (k := 0) 2 rfl rfl
            have d1 := HS1.out.cell (k := 1) 2 rfl rfl
            have d2 := HS1.out.cell (k := 2) 2 rfl rfl
            have d3 := HS1.out.cell (k := 3) 2 rfl rfl
            have d4 := HS1.out.cell (k := 4) 2 rfl rfl
            have d5 := HS1.out.cell (k := 5) 2 rfl rfl
            have c0' := HS1.out.cell (k := 0) 0 rfl rfl
            have c1' := HS1.out.cell (k := 1) 0 rfl rfl
            have c2' := HS1.out.cell (k := 2) 0 rfl rfl
            refine Mm.wp_region_give 9 (fun i => match i with | 1 => some (gRe x) | 3 => some (gRe2 t' true) | 7 => some (Mm.gPtr 31 zRepl) | 8 => some (Mm.gSto 31) | _ => none) (fun i => match i with | 3 => [1] | 8 => [7] | _ => []) (fun _ => []) (F := []) (D := fun w' => ∃ x : Und W1, w' = und W1 x) (fun X us h => Mm.sep_und h) (by kernel_rfl) (by kernel_rfl) (by kernel_rfl) (Mm.SepF.startDrew _) ?_
            repeat (refine Mm.give_det (by rfl) (by rfl) (by rfl) (fun K hK => ?_); go_big_quiet_op; refine hK _ ?_; clear hK K)
            refine Mm.give_op0 35 (by rfl) rfl (by rfl) (by rfl) (by rfl) (by rfl) gRe_in (fun others X hX => ?_) ?_
            · go_wp2_with (go_at_call 47; refine (l9Own_c x _ X W1.heap.size (rRepl.keep (HS1.out.rd 3 rfl) (fun b hb => hX.bel0.block b hb)) hX.chg.size HWF.out.rw.rz).mono ?_; rintro e w5 ⟨cs5, fp5, rfl, ho, hnd, hnew, hb5⟩; obtain ⟨a0, b0', k0, a1, b1', k1, a2, b2', k2, a3, b3', k3, rfl⟩ := own_formR ho)
              exact ⟨rfl, rfl, _, ⟨a0, b0', k0, a1, b1', k1, a2, b2', k2, a3, b3', k3, fp5, rfl, rfl⟩, hX.add hb5 (t := Mm.tow rRepl x _ _) ho hnd hnew⟩
            rintro v ds ⟨a0, b0', k0, a1, b1', k1, a2, b2', k2, a3, b3', k3, fp5, rfl, rfl⟩
            simp only [Act.put, List.setIfInBounds_toArray, List.set_cons_succ, List.set_cons_zero]
            repeat (refine Mm.give_det (by rfl) (by rfl) (by rfl) (fun K hK => ?_); go_big_quiet_op; refine hK _ ?_; clear hK K)
            refine Mm.give_op1 37 1 (by rfl) rfl (by rfl) (by rfl) (by rfl) rfl (by rfl) _ rfl gRe2_in (fun others X hX => ?_) ?_
            · go_wp2_with (go_at_call 46; refine (l9Step_c x s _ fp5 X (hX.at_ 0 rfl) (hX.ndat (i := 0) rfl) HWF.out.rw HSW.out.1).mono ?_; rintro e w6 ⟨cs6, fp6, rfl, hL⟩; rw [HR.out] at hL; rw [HR.out])
              have h9 := hX.call 0 rfl hL
              obtain ⟨a0, b0', k0, a1, b1', k1, a2, b2', k2, a3, b3', k3, rfl⟩ := own_formR (h9.at_ 0 rfl)
              exact ⟨rfl, rfl, _, ⟨a0, b0', k0, a1, b1', k1, a2, b2', k2, a3, b3', k3, fp6, rfl, rfl⟩, h9⟩

            rintro v ds ⟨a0, b0', k0, a1, b1', k1, a2, b2', k2, a3, b3', k3, fp6, rfl, rfl⟩
            simp only [Act.put, List.setIfInBounds_toArray, List.set_cons_succ, List.set_cons_zero]
            repeat (refine Mm.give_det (by rfl) (by rfl) (by rfl) (fun K hK => ?_); go_big_quiet_op; refine hK _ ?_; clear hK K)
            refine Mm.give_op0 12 (by rfl) rfl (by rfl) (by rfl) (by rfl) (by rfl) Mm.gPtr_in (fun others X hX => ?_) ?_
            · go_wp2
              exact Mm.gvq_ptr hX rfl rfl rfl
            rintro v ds ⟨gp, rfl, rfl⟩
            simp only [Act.put, List.setIfInBounds_toArray, List.set_cons_succ, List.set_cons_zero]
            refine Mm.give_store 31 gp zRepl [.slice a0 b0' k0, .slice a1 b1' k1, .int .i64 t'.Leader, .int .i64 t'.Epoch, .slice a2 b2' k2, .slice a3 b3' k3] 7 (by rfl) rfl rfl (by rfl) rfl (by rfl) rfl rfl (fun others X hX => ?_) ?_
            · have HSR := Lib.hid hX
              have r0 := HSR.out.cell (k := 0) 0 rfl rfl
              have r1 := HSR.out.cell (k := 1) 0 rfl rfl
              have r2 := HSR.out.cell (k := 2) 0 rfl rfl
              have r3 := HSR.out.cell (k := 3) 0 rfl rfl
              have r4 := HSR.out.cell (k := 4) 0 rfl rfl
              have r5 := HSR.out.cell (k := 5) 0 rfl rfl
              have z0 := HSR.out.frz (k := 0) 0 rfl
              have z1 := HSR.out.frz (k := 1) 0 rfl
              have z2 := HSR.out.frz (k := 2) 0 rfl
              have z3 := HSR.out.frz (k := 3) 0 rfl
              have z4 := HSR.out.frz (k := 4) 0 rfl
              have z5 := HSR.out.frz (k := 5) 0 rfl
              go_wp2
              exact ⟨rfl, rfl, _, rfl, ((((((hX.setBlk (k := 0) 0 rfl (.slice a0 b0' k0)).setBlk (k := 1) 0 rfl (.slice a1 b1' k1)).setBlk (k := 2) 0 rfl (.int .i64 t'.Leader)).setBlk (k := 3) 0 rfl (.int .i64 t'.Epoch)).setBlk (k := 4) 0 rfl (.slice a2 b2' k2)).setBlk (k := 5) 0 rfl (.slice a3 b3' k3))⟩
            refine Mm.give_nil ?_
            rintro X hX
            have HS3 := Lib.hid (HS1.out.join (us := [Mm.tow rRepl t' [.slice a0 b0' k0, .slice a1 b1' k1, .int .i64 t'.Leader, .int .i64 t'.Epoch, .slice a2 b2' k2, .slice a3 b3' k3] fp6, Mm.tblk gp 31 [.slice a0 b0' k0, .slice a1 b1' k1, .int .i64 t'.Leader, .int .i64 t'.Epoch, .slice a2 b2' k2, .slice a3 b3' k3]]) hX)
            clear hX d0 d1 d2 d3 d4 d5 c0' c1' c2'
            have d0 := HS3.out.cell (k := 0) 1 rfl rfl
            have d1 := HS3.out.cell (k := 1) 1 rfl rfl
            have d2 := HS3.out.cell (k := 2) 1 rfl rfl
            have d3 := HS3.out.cell (k := 3) 1 rfl rfl
            have d4 := HS3.out.cell (k := 4) 1 rfl rfl
            have d5 := HS3.out.cell (k := 5) 1 rfl rfl
            have r0 := HS3.out.cell (k := 0) 4 rfl rfl
            have r1 := HS3.out.cell (k := 1) 4 rfl rfl
            have r2 := HS3.out.cell (k := 2) 4 rfl rfl
            have r3 := HS3.out.cell (k := 3) 4 rfl rfl
            have r4 := HS3.out.cell (k := 4) 4 rfl rfl
            have r5 := HS3.out.cell (k := 5) 4 rfl rfl
            have z0 := HS3.out.frz (k := 0) 4 rfl
            have z1 := HS3.out.frz (k := 1) 4 rfl
            have z2 := HS3.out.frz (k := 2) 4 rfl
            have z3 := HS3.out.frz (k := 3) 4 rfl
            have z4 := HS3.out.frz (k := 4) 4 rfl
            have z5 := HS3.out.frz (k := 5) 4 rfl
            have HS4 := Lib.hid ((((((HS3.out.setBlk (k := 0) 4 rfl (.slice a0 b0' k0)).setBlk (k := 1) 4 rfl (.slice a1 b1' k1)).setBlk (k := 2) 4 rfl (.int .i64 t'.Leader)).setBlk (k := 3) 4 rfl (.int .i64 t'.Epoch)).setBlk (k := 4) 4 rfl (.slice a2 b2' k2)).setBlk (k := 5) 4 rfl (.slice a3 b3' k3))
            go_upto_region 11 with fail
            clear r0 r1 r2 r3 r4 r5 z0 z1 z2 z3 z4 z5 d0 d1 d2 d3 d4 d5
            obtain ⟨W4, hW4⟩ : ∃ W4, (((((X.setCell ⟨g7, 0, none⟩ (.slice a0 b0' k0)).setCell ⟨g7, 1, none⟩ (.slice a1 b1' k1)).setCell ⟨g7, 2, none⟩ (.int .i64 t'.Leader)).setCell ⟨g7, 3, none⟩ (.int .i64 t'.Epoch)).setCell ⟨g7, 4, none⟩ (.slice a2 b2' k2)).setCell ⟨g7, 5, none⟩ (.slice a3 b3' k3) = W4 := ⟨_, rfl⟩
            rw [hW4] at HS4 ⊢
            clear hW4
            go_wp2_with (at_builtin; refine Mm.app_list HS4.out 3 rfl rfl (.tmp 42) (.tmp 44) 27 rfl i0 _ 1 Try.underlying27 hi hz0 hz1 hz2 rfl (by decide) rfl rfl (fun W => Mm.own_bool) HPL.out (by unfold maxLen; omega) (by omega) ?_; intro g cap w' fp' hs; (have HS5 := Lib.hid hs); clear hs)
            go_roundg (n - (k + 1))
            case measure => omega
            case rel => exact ⟨k + 1, _, cap, _, fp', a0, b0', k0, a1, b1', k1, a2, b2', k2, a3, b3', k3, Nat.le_refl _, by omega, rfl, by go_num, Lib.hid ⟨t', by rw [HN.out], by rw [HN.out]; exact HS5.out.sel [3, 4, 0, 6] (by decide) rfl⟩⟩
          | false =>
            obtain rfl : t' = x := HNO.out rfl
            have d0 := HS.out.cell (k := 0) 1 rfl rfl
            have d1 := HS.out.cell (k := 1) 1 rfl rfl
            have d2 := HS.out.cell (k := 2) 1 rfl rfl
            have d3 := HS.out.cell (k := 3) 1 rfl rfl
            have d4 := HS.out.cell (k := 4) 1 rfl rfl
            have d5 := HS.out.cell (k := 5) 1 rfl rfl
            go_wp2
            obtain ⟨gs, hgs⟩ : ∃ gs, wr.heap.size = gs := ⟨_, rfl⟩
            obtain ⟨W1, hW1⟩ : ∃ W1, wr.alloc (.cells #[.int .i64 s.Kind, .int .i64 s.Node, .string s.Text] 53) = W1 := ⟨_, rfl⟩
            have HS1 := Lib.hid ((HS.out.alloc' hgs 53 [.int .i64 s.Kind, .int .i64 s.Node, .string s.Text]).atW hW1)
            rw [hW1, hgs]
            clear hW1 hgs e0 e1 e2 d0 d1 d2 d3 d4 d5
            have d0 := HS1.out.cell (k := 0) 2 rfl rfl
            have d1 := HS1.out.cell (k := 1) 2 rfl rfl
            have d2 := HS1.out.cell (k := 2) 2 rfl rfl
            have d3 := HS1.out.cell (k := 3) 2 rfl rfl
            have d4 := HS1.out.cell (k := 4) 2 rfl rfl
            have d5 := HS1.out.cell (k := 5) 2 rfl rfl
            have c0' := HS1.out.cell (k := 0) 0 rfl rfl
            have c1' := HS1.out.cell (k := 1) 0 rfl rfl
            have c2' := HS1.out.cell (k := 2) 0 rfl rfl
            refine Mm.wp_region_give 9 (fun i => match i with | 1 => some (gRe t') | 3 => some (gRe2 t' false) | 7 => some (Mm.gPtr 31 zRepl) | 8 => some (Mm.gSto 31) | _ => none) (fun i => match i with | 3 => [1] | 8 => [7] | _ => []) (fun _ => []) (F := []) (D := fun w' => ∃ t' : Und W1, w' = und W1 t') (fun X us h => Mm.sep_und h) (by kernel_rfl) (by kernel_rfl) (by kernel_rfl) (Mm.SepF.startDrew _) ?_
            repeat (refine Mm.give_det (by rfl) (by rfl) (by rfl) (fun K hK => ?_); go_big_quiet_op; refine hK _ ?_; clear hK K)
            refine Mm.give_op0 35 (by rfl) rfl (by rfl) (by rfl) (by rfl) (by rfl) gRe_in (fun others X hX => ?_) ?_
            · go_wp2_with (go_at_call 47; refine (l9Own_c t' _ X W1.heap.size (rRepl.keep (HS1.out.rd 3 rfl) (fun b hb => hX.bel0.block b hb)) hX.chg.size HWF.out.rw.rz).mono ?_; rintro e w5 ⟨cs5, fp5, rfl, ho, hnd, hnew, hb5⟩; obtain ⟨a0, b0', k0, a1, b1', k1, a2, b2', k2, a3, b3', k3, rfl⟩ := own_formR ho)
              exact ⟨rfl, rfl, _, ⟨a0, b0', k0, a1, b1', k1, a2, b2', k2, a3, b3', k3, fp5, rfl, rfl⟩, hX.add hb5 (t := Mm.tow rRepl t' _ _) ho hnd hnew⟩
            rintro v ds ⟨a0, b0', k0, a1, b1', k1, a2, b2', k2, a3, b3', k3, fp5, rfl, rfl⟩
            simp only [Act.put, List.setIfInBounds_toArray, List.set_cons_succ, List.set_cons_zero]
            repeat (refine Mm.give_det (by rfl) (by rfl) (by rfl) (fun K hK => ?_); go_big_quiet_op; refine hK _ ?_; clear hK K)
            refine Mm.give_op1 37 1 (by rfl) rfl (by rfl) (by rfl) (by rfl) rfl (by rfl) _ rfl gRe2_in (fun others X hX => ?_) ?_
            · go_wp2_with (go_at_call 46; refine (l9Step_c t' s _ fp5 X (hX.at_ 0 rfl) (hX.ndat (i := 0) rfl) HWF.out.rw HSW.out.1).mono ?_; rintro e w6 ⟨cs6, fp6, rfl, hL⟩; rw [HR.out] at hL; rw [HR.out])
              have h9 := hX.call 0 rfl hL
              obtain ⟨a0, b0', k0, a1, b1', k1, a2, b2', k2, a3, b3', k3, rfl⟩ := own_formR (h9.at_ 0 rfl)
              exact ⟨rfl, rfl, _, ⟨a0, b0', k0, a1, b1', k1, a2, b2', k2, a3, b3', k3, fp6, rfl, rfl⟩, h9⟩

            rintro v ds ⟨a0, b0', k0, a1, b1', k1, a2, b2', k2, a3, b3', k3, fp6, rfl, rfl⟩
            simp only [Act.put, List.setIfInBounds_toArray, List.set_cons_succ, List.set_cons_zero]
            repeat (refine Mm.give_det (by rfl) (by rfl) (by rfl) (fun K hK => ?_); go_big_quiet_op; refine hK _ ?_; clear hK K)
            refine Mm.give_op0 12 (by rfl) rfl (by rfl) (by rfl) (by rfl) (by rfl) Mm.gPtr_in (fun others X hX => ?_) ?_
            · go_wp2
              exact Mm.gvq_ptr hX rfl rfl rfl
            rintro v ds ⟨gp, rfl, rfl⟩
            simp only [Act.put, List.setIfInBounds_toArray, List.set_cons_succ, List.set_cons_zero]
            refine Mm.give_store 31 gp zRepl [.slice a0 b0' k0, .slice a1 b1' k1, .int .i64 t'.Leader, .int .i64 t'.Epoch, .slice a2 b2' k2, .slice a3 b3' k3] 7 (by rfl) rfl rfl (by rfl) rfl (by rfl) rfl rfl (fun others X hX => ?_) ?_
            · have HSR := Lib.hid hX
              have r0 := HSR.out.cell (k := 0) 0 rfl rfl
              have r1 := HSR.out.cell (k := 1) 0 rfl rfl
              have r2 := HSR.out.cell (k := 2) 0 rfl rfl
              have r3 := HSR.out.cell (k := 3) 0 rfl rfl
              have r4 := HSR.out.cell (k := 4) 0 rfl rfl
              have r5 := HSR.out.cell (k := 5) 0 rfl rfl
              have z0 := HSR.out.frz (k := 0) 0 rfl
              have z1 := HSR.out.frz (k := 1) 0 rfl
              have z2 := HSR.out.frz (k := 2) 0 rfl
              have z3 := HSR.out.frz (k := 3) 0 rfl
              have z4 := HSR.out.frz (k := 4) 0 rfl
              have z5 := HSR.out.frz (k := 5) 0 rfl
              go_wp2
              exact ⟨rfl, rfl, _, rfl, ((((((hX.setBlk (k := 0) 0 rfl (.slice a0 b0' k0)).setBlk (k := 1) 0 rfl (.slice a1 b1' k1)).setBlk (k := 2) 0 rfl (.int .i64 t'.Leader)).setBlk (k := 3) 0 rfl (.int .i64 t'.Epoch)).setBlk (k := 4) 0 rfl (.slice a2 b2' k2)).setBlk (k := 5) 0 rfl (.slice a3 b3' k3))⟩
            refine Mm.give_nil ?_
            rintro X hX
            have HS3 := Lib.hid (HS1.out.join (us := [Mm.tow rRepl t' [.slice a0 b0' k0, .slice a1 b1' k1, .int .i64 t'.Leader, .int .i64 t'.Epoch, .slice a2 b2' k2, .slice a3 b3' k3] fp6, Mm.tblk gp 31 [.slice a0 b0' k0, .slice a1 b1' k1, .int .i64 t'.Leader, .int .i64 t'.Epoch, .slice a2 b2' k2, .slice a3 b3' k3]]) hX)
            clear hX d0 d1 d2 d3 d4 d5 c0' c1' c2'
            go_upto_region 11 with fail
            go_wp2_with (at_builtin; refine Mm.app_list HS3.out 3 rfl rfl (.tmp 42) (.tmp 44) 27 rfl i0 _ 1 Try.underlying27 hi hz0 hz1 hz2 rfl (by decide) rfl rfl (fun W => Mm.own_bool) HPL.out (by unfold maxLen; omega) (by omega) ?_; intro g cap w' fp' hs; (have HS5 := Lib.hid hs); clear hs)
            go_roundg (n - (k + 1))
            case measure => omega
            case rel => exact ⟨k + 1, _, cap, _, fp', A0, n0, c0, A1, n1, c1, A2, n2, c2, A3, n3, c3, Nat.le_refl _, by omega, rfl, by go_num, Lib.hid ⟨t', by rw [HN.out], by rw [HN.out]; exact HS5.out.sel [3, 4, 5, 6] (by decide) rfl⟩⟩
        · obtain rfl : k = n := by omega
          have HE : Hid (l.take k = l) := List.take_of_length_le (by rw [HLN.out]; exact Nat.le_refl _)
          have hlt' : ¬ ((k : Nat) : Int) < ((k : Nat) : Int) := by omega
          rw [HE.out] at HP
          rw [HP.out] at HF
          have d0 := HS.out.cell (k := 0) 1 rfl rfl
          have d1 := HS.out.cell (k := 1) 1 rfl rfl
          have d2 := HS.out.cell (k := 2) 1 rfl rfl
          have d3 := HS.out.cell (k := 3) 1 rfl rfl
          have d4 := HS.out.cell (k := 4) 1 rfl rfl
          have d5 := HS.out.cell (k := 5) 1 rfl rfl
          go_wp2_with (go_at_call 47; refine (l9Own_c x _ _ wr.heap.size (HS.out.rd 2 rfl) (Nat.le_refl _) HWF.out.rw.rz).mono ?_; rintro e w5 ⟨cs5, fp5, rfl, ho, hnd, hnew, hb5⟩; obtain ⟨a0, b0', k0, a1, b1', k1, a2, b2', k2, a3, b3', k3, rfl⟩ := own_formR ho; (have HSR := Lib.hid (HS.out.add hb5 (t := Mm.tow rRepl x _ _) ho hnd hnew)); clear ho hnd hnew hb5; (have r0 := HSR.out.cell (k := 0) 4 rfl rfl); (have r1 := HSR.out.cell (k := 1) 4 rfl rfl); (have r2 := HSR.out.cell (k := 2) 4 rfl rfl); (have r3 := HSR.out.cell (k := 3) 4 rfl rfl); (have r4 := HSR.out.cell (k := 4) 4 rfl rfl); (have r5 := HSR.out.cell (k := 5) 4 rfl rfl); (have z0 := HSR.out.frz (k := 0) 4 rfl); (have z1 := HSR.out.frz (k := 1) 4 rfl); (have z2 := HSR.out.frz (k := 2) 4 rfl); (have z3 := HSR.out.frz (k := 3) 4 rfl); (have z4 := HSR.out.frz (k := 4) 4 rfl); (have z5 := HSR.out.frz (k := 5) 4 rfl))
          have HSF := Lib.hid ((((((HSR.out.setBlk (k := 0) 4 rfl (.slice a0 b0' k0)).setBlk (k := 1) 4 rfl (.slice a1 b1' k1)).setBlk (k := 2) 4 rfl (.int .i64 x.Leader)).setBlk (k := 3) 4 rfl (.int .i64 x.Epoch)).setBlk (k := 4) 4 rfl (.slice a2 b2' k2)).setBlk (k := 5) 4 rfl (.slice a3 b3' k3))
          have q0 := HSF.out.cell (k := 0) 4 rfl rfl
          have q1 := HSF.out.cell (k := 1) 4 rfl rfl
          have q2 := HSF.out.cell (k := 2) 4 rfl rfl
          have q3 := HSF.out.cell (k := 3) 4 rfl rfl
          have q4 := HSF.out.cell (k := 4) 4 rfl rfl
          have q5 := HSF.out.cell (k := 5) 4 rfl rfl
          exact bodyPost_ret (v := .tuple #[.agg #[.slice a0 b0' k0, .slice a1 b1' k1, .int .i64 x.Leader, .int .i64 x.Epoch, .slice a2 b2' k2, .slice a3 b3' k3], .slice A' k c', .bool true]) (by simp [results, Try.results9, go_sem, q0, q1, q2, q3, q4, q5]) rfl ⟨_, A', k, c', _, _, by rw [HF.out], by rw [HF.out]; exact HSF.out.sel [0, 1] (by decide) rfl⟩
    · have HF : Hid (Pl.playRepl m l = (Pl.zRe, [], false)) := if_neg (by omega)
      have f1 : decide ((120 : Int) < ((n : Nat) : Int)) = true := by simp; omega
      have HLN := Lib.hid hlen
      clear hlen
      go_enter Try.func9, Try.ntmps9
      go_wp2_with (go_at_call 34; (with_reducible refine (specNewRepl_c _ _).mono ?_); rintro e w1 ⟨cs1, fp1, rfl, ho, hnd, hnew, hb⟩; rw [HQ.out] at ho; rw [HQ.out]; obtain ⟨A0, n0, c0, A1, n1, c1, A2, n2, c2, A3, n3, c3, rfl⟩ := own_formR ho; (have HSR := Lib.hid ((KS0.out.add hb (t := Mm.tow rRepl (Pl.newRe m.toNat) _ _) ho hnd hnew).alloc' rfl 31 [.slice A0 n0 c0, .slice A1 n1 c1, .int .i64 (Pl.newRe m.toNat).Leader, .int .i64 (Pl.newRe m.toNat).Epoch, .slice A2 n2 c2, .slice A3 n3 c3])); clear ho hnd hnew hb; (have r0 := HSR.out.cell (k := 0) 2 rfl rfl); (have r1 := HSR.out.cell (k := 1) 2 rfl rfl); (have r2 := HSR.out.cell (k := 2) 2 rfl rfl); (have r3 := HSR.out.cell (k := 3) 2 rfl rfl); (have r4 := HSR.out.cell (k := 4) 2 rfl rfl); (have r5 := HSR.out.cell (k := 5) 2 rfl rfl); (have z0 := HSR.out.frz (k := 0) 2 rfl); (have z1 := HSR.out.frz (k := 1) 2 rfl); (have z2 := HSR.out.frz (k := 2) 2 rfl); (have z3 := HSR.out.frz (k := 3) 2 rfl); (have z4 := HSR.out.frz (k := 4) 2 rfl); (have z5 := HSR.out.frz (k := 5) 2 rfl))
      rw [HF.out]
      have HSF := Lib.hid ((((((HSR.out.setBlk (k := 0) 2 rfl (.slice none 0 0)).setBlk (k := 1) 2 rfl (.slice none 0 0)).setBlk (k := 2) 2 rfl (.int .i64 0)).setBlk (k := 3) 2 rfl (.int .i64 0)).setBlk (k := 4) 2 rfl (.slice none 0 0)).setBlk (k := 5) 2 rfl (.slice none 0 0))
      have q0 := HSF.out.cell (k := 0) 2 rfl rfl
      have q1 := HSF.out.cell (k := 1) 2 rfl rfl
      have q2 := HSF.out.cell (k := 2) 2 rfl rfl
      have q3 := HSF.out.cell (k := 3) 2 rfl rfl
      have q4 := HSF.out.cell (k := 4) 2 rfl rfl
      have q5 := HSF.out.cell (k := 5) 2 rfl rfl
      exact bodyPost_ret (v := .tuple #[.agg zRepl.toArray, .slice none 0 0, .bool false]) (by simp [results, Try.results9, go_sem, zRepl, q0, q1, q2, q3, q4, q5]) rfl (playNo HSF.out.bel0)
  · have HQ : Hid (Pl.newRepl m = (Pl.zRe, false)) := if_neg hin
    have HF : Hid (Pl.playRepl m l = (Pl.zRe, [], false)) := if_neg (fun h => hin h.1)
    have HLN := Lib.hid hlen
    clear hlen hin
    go_enter Try.func9, Try.ntmps9
    go_wp2_with (go_at_call 34; (with_reducible refine (specNewRepl_c _ _).mono ?_); rintro e w1 ⟨cs1, fp1, rfl, ho, hnd, hnew, hb⟩; rw [HQ.out] at ho; rw [HQ.out]; obtain ⟨A0, n0, c0, A1, n1, c1, A2, n2, c2, A3, n3, c3, rfl⟩ := own_formR ho; (have HSR := Lib.hid ((KS0.out.add hb (t := Mm.tow rRepl Pl.zRe _ _) ho hnd hnew).alloc' rfl 31 [.slice A0 n0 c0, .slice A1 n1 c1, .int .i64 Pl.zRe.Leader, .int .i64 Pl.zRe.Epoch, .slice A2 n2 c2, .slice A3 n3 c3])); clear ho hnd hnew hb; (have r0 := HSR.out.cell (k := 0) 2 rfl rfl); (have r1 := HSR.out.cell (k := 1) 2 rfl rfl); (have r2 := HSR.out.cell (k := 2) 2 rfl rfl); (have r3 := HSR.out.cell (k := 3) 2 rfl rfl); (have r4 := HSR.out.cell (k := 4) 2 rfl rfl); (have r5 := HSR.out.cell (k := 5) 2 rfl rfl); (have z0 := HSR.out.frz (k := 0) 2 rfl); (have z1 := HSR.out.frz (k := 1) 2 rfl); (have z2 := HSR.out.frz (k := 2) 2 rfl); (have z3 := HSR.out.frz (k := 3) 2 rfl); (have z4 := HSR.out.frz (k := 4) 2 rfl); (have z5 := HSR.out.frz (k := 5) 2 rfl))
    rw [HF.out]
    have HSF := Lib.hid ((((((HSR.out.setBlk (k := 0) 2 rfl (.slice none 0 0)).setBlk (k := 1) 2 rfl (.slice none 0 0)).setBlk (k := 2) 2 rfl (.int .i64 0)).setBlk (k := 3) 2 rfl (.int .i64 0)).setBlk (k := 4) 2 rfl (.slice none 0 0)).setBlk (k := 5) 2 rfl (.slice none 0 0))
    have q0 := HSF.out.cell (k := 0) 2 rfl rfl
    have q1 := HSF.out.cell (k := 1) 2 rfl rfl
    have q2 := HSF.out.cell (k := 2) 2 rfl rfl
    have q3 := HSF.out.cell (k := 3) 2 rfl rfl
    have q4 := HSF.out.cell (k := 4) 2 rfl rfl
    have q5 := HSF.out.cell (k := 5) 2 rfl rfl
    exact bodyPost_ret (v := .tuple #[.agg zRepl.toArray, .slice none 0 0, .bool false]) (by simp [results, Try.results9, go_sem, zRepl, q0, q1, q2, q3, q4, q5]) rfl (playNo HSF.out.bel0)
end Go.Proofs.Ytihendiakgfpcaa
