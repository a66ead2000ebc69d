/-
  Contracts: the drawn inputs of the law on summaries of heavy hitters. No conditions.
-/
import Derived.Test.YtjmcbggdckfefaaDn
import Derived.Test.YtjmcbggdckfefaaHf
import Derived.Test.YtjmcbggdckfefaaPm
import Derived.Test.YtjmcbggdckfefaaSx
import Derived.Test.YtjmcbggdckfefaaRg
import Derived.Deep.DeepCutAuto
namespace Go.Proofs.Ytjmcbggdckfefaa
open Go.RowKit
attribute [local go_sem] und_cell World.cell?_alloc_some
theorem feed_tot {n : Int} {l : List ByteArray} : Mm.I64 ((Pl.feedHeavy n l).1.Total + 2) ∧ Mm.I64 ((Pl.feedHeavy n l).1.Total - 2) ∧ Mm.I64 (Pl.feedHeavy n l).1.Gone := by
  cases h : (Pl.feedHeavy n l).2
  · have e : ∀ (m : List ByteArray) (h0 : Heavy), (Pl.feedFrom h0 m).2 = false → (Pl.feedFrom h0 m).1 = ⟨[], [], 0, 0⟩ := by
      intro m
      induction m with
      | nil => intro h0 hh; cases hh
      | cons x t ih =>
        intro h0 hh
        rw [Pl.feedFrom] at hh ⊢
        split
        · rename_i hw; rw [if_pos hw] at hh; exact ih _ hh
        · rfl
    have : (Pl.feedHeavy n l).1 = ⟨[], [], 0, 0⟩ := by
      unfold Pl.feedHeavy at h ⊢
      split
      · rename_i hc; rw [if_pos hc] at h; exact e _ _ h
      · rfl
    rw [this]
    unfold Mm.I64; simp
  · obtain ⟨_, _, hl, hf, _⟩ := Pl.feedHeavy_fed h
    have h1 := hf.tot
    have h2 := hf.hin.gb
    unfold Mm.I64; omega
theorem hv_retot {w : World} {x : Heavy} {A2 A3 : Option Addr} {n2 c2 n3 c3 : Nat} {a b : Value} {fp : List Nat} {t : Int} (h : rHeavy.own w x [.slice A2 n2 c2, .slice A3 n3 c3, a, b] fp) (ht : Mm.I64 t) : rHeavy.own w ⟨x.Names, x.Counts, x.Gone, t⟩ [.slice A2 n2 c2, .slice A3 n3 c3, .int .i64 x.Gone, .int .i64 t] fp := by
  obtain ⟨_, _, _, _, _, _, f0, f1, hcs, rfl, h0, h1, g2, -⟩ := rHeavy_own h
  injection hcs with e0 hcs
  injection hcs with e1 hcs
  rw [← e0] at h0
  rw [← e1] at h1
  exact rHeavy_own_mk (x := ⟨x.Names, x.Counts, x.Gone, t⟩) h0 h1 g2 ht
set_option maxRecDepth 100000 in
set_option maxHeartbeats 2000000 in
theorem heavy_c (code : List Int) (A : Option Addr) (n c g K : Nat) (w : World) (B : Nat) (hc : Mm.SlAt Mm.u8 w B code A n c) (hBg : B ≤ g) (h : (Mm.tcur 92 A n c g K).holds w) (hK : K < 4611686018427385000) :
    Calls Try.prog 94 #[.pointer (some ⟨g, 0, none⟩)] w fun e w' => ∃ (s : Heavy) (cs : List Value) (fp : List Nat), e = .returned (.agg cs.toArray) ∧ Mm.SepF [g] w w' [Mm.tcur 92 A n c g (K + 800), Mm.tow rHeavy s cs fp] := by
  have hgw : g < w.heap.size := (Mm.tcur 92 A n c g K).lt h g (by simp [Mm.tcur])
  have HC := Lib.hid hc
  have HS0 : Hid (Mm.SepF [g] w w [Mm.tcur 92 A n c g K]) := Mm.SepF.one (Mm.tcur 92 A n c g K) w h (by simp [Mm.tcur])
  have HS := Lib.hid (HS0.out.allocEnd rfl 38 [.slice none 0 0, .slice none 0 0, .int .i64 0, .int .i64 0])
  clear hc h HS0
  go_enter Try.func94, Try.ntmps94
  go_upto_if 15 with first
    | (go_at_call 80; refine (pick_c code A n c g _ _ _ B (HC.out.keep fun b hb => HS.out.chg.block b (by omega) (by simp; omega)) hBg (HS.out.at_ 0 rfl) (by omega) (by omega)).mono ?_; rintro e w1 ⟨b1, rfl, b10, -, b11, hL⟩; (have HS := Lib.hid (HS.out.call 0 rfl hL)); have b11 := b11 (by omega); clear hL)
    | (go_at_call 81; refine (told_c code A n c g _ _ B (HC.out.keep fun b hb => HS.out.chg.block b (by omega) (by simp; omega)) hBg (HS.out.at_ 0 rfl) (by omega)).mono ?_; rintro e w1 ⟨l, A1, n1, c1, fp, rfl, hl, hS⟩; (have HS := Lib.hid ((HS.out.callAll 0 rfl hS).sel [3, 1, 2] (by decide) rfl)); clear hS)
    | (go_at_call 23; refine (specFeedHeavy_c _ l A1 n1 c1 _ _ ((HS.out.sl 2 rfl).weak (HS.out.sl 2 rfl).olt) (Nat.le_refl _)).mono ?_; rintro e w2 ⟨cs0, fp0, rfl, ho, hnd, hnw, hb⟩; obtain ⟨A2, n2, c2, A3, n3, c3, f2, f3, rfl, rfl, -⟩ := rHeavy_own ho; (have HS := Lib.hid (HS.out.addEnd hb (t := Mm.tow rHeavy _ _ _) ho hnd hnw)); clear ho hnd hnw hb)
  obtain ⟨y, yb, hy⟩ : ∃ y yb, Pl.feedHeavy (1 + b1) l = (y, yb) := ⟨_, _, rfl⟩
  have htot := feed_tot (n := 1 + b1) (l := l)
  rw [hy] at HS htot ⊢
  dsimp only at HS htot ⊢
  have HT := Lib.hid htot
  clear hy htot
  have HS := Lib.hid (HS.out.allocEnd rfl 38 [.slice A2 n2 c2, .slice A3 n3 c3, .int .i64 y.Gone, .int .i64 y.Total])
  obtain ⟨g3, hg3⟩ : ∃ g3, w2.heap.size = g3 := ⟨_, rfl⟩
  obtain ⟨gr, hgr⟩ : ∃ gr, w.heap.size = gr := ⟨_, rfl⟩
  rw [hg3, hgr] at HS
  rw [hg3, hgr]
  clear hg3 hgr
  go_cut [4] (fun s4 wx => ∃ (x : Heavy) (A2 A3 : Option Addr) (n2 c2 n3 c3 : Nat) (fp : List Nat), (Mm.I64 (x.Total + 2) ∧ Mm.I64 (x.Total - 2) ∧ Mm.I64 x.Gone) ∧ Mm.SepF [g] w wx [Mm.tcur 92 A n c g (K + 701), Mm.tblk gr 38 [.slice none 0 0, .slice none 0 0, .int .i64 0, .int .i64 0], Mm.tow rHeavy x [.slice A2 n2 c2, .slice A3 n3 c3, .int .i64 x.Gone, .int .i64 x.Total] fp, Mm.tblk g3 38 [.slice A2 n2 c2, .slice A3 n3 c3, .int .i64 x.Gone, .int .i64 x.Total]])
  case first =>
    cases yb
    · go_wp2_with (go_at_call 52; go_loud (refine (specNewHeavy_c _ _).mono ?_; rintro e w5 ⟨cs5, fp5, rfl, ho, hnd, hnw, hb⟩; obtain ⟨A4, n4, c4, A5, n5, c5, f4, f5, rfl, rfl, -⟩ := rHeavy_own ho; (have HS := Lib.hid (HS.out.addEnd hb (t := Mm.tow rHeavy _ _ _) ho hnd hnw)); (have z0 := HS.out.cell (k := 0) 4 rfl rfl); (have z1 := HS.out.cell (k := 1) 4 rfl rfl); (have z2 := HS.out.cell (k := 2) 4 rfl rfl); (have z3 := HS.out.cell (k := 3) 4 rfl rfl); (have y0 := HS.out.frz (k := 0) 4 rfl); (have y1 := HS.out.frz (k := 1) 4 rfl); (have y2 := HS.out.frz (k := 2) 4 rfl); (have y3 := HS.out.frz (k := 3) 4 rfl); clear ho hnd hnw hb))
      go_meet
      exact ⟨(Pl.newHeavy 2).1, A4, A5, n4, c4, n5, c5, _, by unfold Mm.I64; decide, (((((HS.out.setBlk (k := 0) 4 rfl (.slice A4 n4 c4)).setBlk (k := 1) 4 rfl (.slice A5 n5 c5)).setBlk (k := 2) 4 rfl (.int .i64 (Pl.newHeavy 2).1.Gone)).setBlk (k := 3) 4 rfl (.int .i64 (Pl.newHeavy 2).1.Total)).sel [0, 1, 5, 4] (by decide) rfl).more 0 rfl (by omega)⟩
    · go_wp2_with fail
      go_meet
      exact ⟨y, A2, A3, n2, c2, n3, c3, _, HT.out, (HS.out.sel [0, 1, 3, 4] (by decide) rfl).more 0 rfl (by omega)⟩
  case rest =>
  obtain ⟨x, A2, A3, n2, c2, n3, c3, fp, hx, HS⟩ := hcut
  have HX := Lib.hid hx
  have HS := Lib.hid HS
  clear hx HT
  go_upto_if 21 with (go_at_call 100; refine (one_c code A n c g _ _ _ B (HC.out.keep fun b hb => HS.out.chg.block b (by omega) (by simp; omega)) hBg (HS.out.at_ 0 rfl) (by omega) (by omega)).mono ?_; rintro e w1 ⟨b9, rfl, hL⟩; (have HS := Lib.hid (HS.out.call 0 rfl hL)); clear hL)
  have r0 := HS.out.cell (k := 0) 1 rfl rfl
  have r1 := HS.out.cell (k := 1) 1 rfl rfl
  have r2 := HS.out.cell (k := 2) 1 rfl rfl
  have r3 := HS.out.cell (k := 3) 1 rfl rfl
  have x0 := HS.out.frz (k := 0) 1 rfl
  have x1 := HS.out.frz (k := 1) 1 rfl
  have x2 := HS.out.frz (k := 2) 1 rfl
  have x3 := HS.out.frz (k := 3) 1 rfl
  have q0 := HS.out.cell (k := 0) 3 rfl rfl
  have q1 := HS.out.cell (k := 1) 3 rfl rfl
  have q2 := HS.out.cell (k := 2) 3 rfl rfl
  have q3 := HS.out.cell (k := 3) 3 rfl rfl
  cases b9
  · go_wp2
    have HF := Lib.hid (((((HS.out.setBlk (k := 0) 1 rfl (.slice A2 n2 c2)).setBlk (k := 1) 1 rfl (.slice A3 n3 c3)).setBlk (k := 2) 1 rfl (.int .i64 x.Gone)).setBlk (k := 3) 1 rfl (.int .i64 x.Total)).more 0 rfl (K' := K + 800) (by omega))
    exact bodyPost_ret (v := .agg #[.slice A2 n2 c2, .slice A3 n3 c3, .int .i64 x.Gone, .int .i64 x.Total]) (by simp [results, Try.results94, go_sem, r0, r1, r2, r3]) rfl ⟨x, _, fp, rfl, HF.out.sel [0, 2] (by decide) rfl⟩
  · clear r0 r1 r2 r3 x0 x1 x2 x3
    have hx := HX.out
    unfold Mm.I64 at hx
    go_upto_region 5 with fail
    go_region_with ((go_at_call 80; (have HTd := Lib.hid (HS.out.step (Below.refl _ _).drew)); refine (pick_c code A n c g _ 3 _ B (HC.out.keep fun b hb => HTd.out.chg.block b (by omega) (by simp; omega)) hBg (HTd.out.at_ 0 rfl) (by omega) (by omega)).mono ?_; rintro e w5 ⟨b7, rfl, b70, -, b71, hL⟩; (have b71 := b71 (by omega)); (have HS := Lib.hid (HTd.out.call 0 rfl hL)); (have jw : IntKind.i64.wrap (b7 - 1) = b7 - 1 := IntWalk.i64_in _ (by omega)); (have jw2 : IntKind.i64.wrap (x.Total + (b7 - 1)) = x.Total + (b7 - 1) := IntWalk.i64_in _ (by omega)); (have p3 := HS.out.cell (k := 3) 3 rfl rfl); (have p4 := HS.out.frz (k := 3) 3 rfl); clear hL))
    all_goals
      have HS2 := Lib.hid (HS.out.setBlk (k := 3) 3 rfl (.int .i64 (x.Total + (b7 - 1))))
      have r0 := HS2.out.cell (k := 0) 1 rfl rfl
      have r1 := HS2.out.cell (k := 1) 1 rfl rfl
      have r2 := HS2.out.cell (k := 2) 1 rfl rfl
      have r3 := HS2.out.cell (k := 3) 1 rfl rfl
      have x0 := HS2.out.frz (k := 0) 1 rfl
      have x1 := HS2.out.frz (k := 1) 1 rfl
      have x2 := HS2.out.frz (k := 2) 1 rfl
      have x3 := HS2.out.frz (k := 3) 1 rfl
      have q0 := HS2.out.cell (k := 0) 3 rfl rfl
      have q1 := HS2.out.cell (k := 1) 3 rfl rfl
      have q2 := HS2.out.cell (k := 2) 3 rfl rfl
      have q3 := HS2.out.cell (k := 3) 3 rfl rfl
      go_wp2
      have HT : Hid (rHeavy.own _ (⟨x.Names, x.Counts, x.Gone, x.Total + (b7 - 1)⟩ : Heavy) [.slice A2 n2 c2, .slice A3 n3 c3, .int .i64 x.Gone, .int .i64 (x.Total + (b7 - 1))] fp) := hv_retot (show rHeavy.own _ x _ fp from HS2.out.at_ 2 rfl) (by unfold Mm.I64; omega)
      have HG := Lib.hid (HS2.out.swapFor 2 (t' := Mm.tow rHeavy ⟨x.Names, x.Counts, x.Gone, x.Total + (b7 - 1)⟩ [.slice A2 n2 c2, .slice A3 n3 c3, .int .i64 x.Gone, .int .i64 (x.Total + (b7 - 1))] fp) rfl rfl (fun _ => HT.out))
      have HF := Lib.hid (((((HG.out.setBlk (k := 0) 1 rfl (.slice A2 n2 c2)).setBlk (k := 1) 1 rfl (.slice A3 n3 c3)).setBlk (k := 2) 1 rfl (.int .i64 x.Gone)).setBlk (k := 3) 1 rfl (.int .i64 (x.Total + (b7 - 1)))).more 0 rfl (K' := K + 800) (by omega))
      exact bodyPost_ret (v := .agg #[.slice A2 n2 c2, .slice A3 n3 c3, .int .i64 x.Gone, .int .i64 (x.Total + (b7 - 1))]) (by simp [results, Try.results94, go_sem, r0, r1, r2, r3]) rfl ⟨_, _, fp, rfl, HF.out.sel [0, 2] (by decide) rfl⟩
namespace Mm
/-- a drawn summary and a name -/
def DrawnHv (w : World) (e : Ending) (w' : World) : Prop := ∃ (s : Heavy) (A0 A1 : Option Addr) (n0 c0 n1 c1 : Nat) (fp : List Nat) (name : ByteArray), e = .returned (.tuple #[.agg #[.slice A0 n0 c0, .slice A1 n1 c1, .int .i64 s.Gone, .int .i64 s.Total], .string name]) ∧ name.size ≤ 4 ∧ SepF [] w w' [tow rHeavy s [.slice A0 n0 c0, .slice A1 n1 c1, .int .i64 s.Gone, .int .i64 s.Total] fp]
end Mm
set_option maxRecDepth 100000 in
set_option maxHeartbeats 1000000 in
theorem DrawAddHeavy_c (code : List Int) (A : Option Addr) (n c : Nat) (w : World) (B : Nat) (hc : Mm.SlAt Mm.u8 w B code A n c) (hB : B ≤ w.heap.size) :
    Calls Try.prog 47 #[.slice A n c] w (Mm.DrawnHv w) := by
  have HC := Lib.hid hc
  have HS := Lib.hid ((((Mm.SepF.start w).allocEnd rfl 38 [.slice none 0 0, .slice none 0 0, .int .i64 0, .int .i64 0]).allocEnd (Mm.sz1 _ _) 92 [.slice A n c, .int .i64 0, .int .u64 0]).swapFor 1 (t' := Mm.tcur 92 A n c (w.heap.size + 1) 0) rfl rfl (fun h => ⟨0, 0, h, by omega, by omega⟩))
  clear hc
  go_enter Try.func47, Try.ntmps47
  go_wp2_with first
    | (go_at_call 94; refine (heavy_c code A n c _ _ _ B (HC.out.keep fun b hb => HS.out.bel0.block b (by omega)) (by omega) (HS.out.at_ 1 rfl) (by omega)).mono ?_; rintro e w1 ⟨p, csp, fpp, rfl, hS⟩; obtain ⟨Ap, np, cp, Aq, nq, cq, fp, fq, rfl, rfl, -⟩ := rHeavy_own (show rHeavy.own _ _ _ _ from hS.at_ 1 rfl); (have HS := Lib.hid ((HS.out.callAll 1 rfl hS).sel [0, 2, 3] (by decide) rfl)); clear hS)
    | (go_at_call 85; refine (name15_c code A n c _ _ _ B (HC.out.keep fun b hb => HS.out.bel0.block b (by omega)) (by omega) (HS.out.at_ 1 rfl) (by omega)).mono ?_; rintro e w1 ⟨v, rfl, hv, hL⟩; (have HS := Lib.hid (HS.out.call 1 rfl hL)); clear hL; have r0 := HS.out.cell (k := 0) 0 rfl rfl; have r1 := HS.out.cell (k := 1) 0 rfl rfl; have r2 := HS.out.cell (k := 2) 0 rfl rfl; have r3 := HS.out.cell (k := 3) 0 rfl rfl; have y0 := HS.out.frz (k := 0) 0 rfl; have y1 := HS.out.frz (k := 1) 0 rfl; have y2 := HS.out.frz (k := 2) 0 rfl; have y3 := HS.out.frz (k := 3) 0 rfl)
  have HF := Lib.hid ((((HS.out.setBlk (k := 0) 0 rfl (.slice Ap np cp)).setBlk (k := 1) 0 rfl (.slice Aq nq cq)).setBlk (k := 2) 0 rfl (.int .i64 p.Gone)).setBlk (k := 3) 0 rfl (.int .i64 p.Total))
  exact bodyPost_ret (v := .tuple #[.agg #[.slice Ap np cp, .slice Aq nq cq, .int .i64 p.Gone, .int .i64 p.Total], .string v]) (by simp [results, Try.results47, go_sem, r0, r1, r2, r3]) rfl
    ⟨p, _, _, _, _, _, _, _, v, rfl, names15_sz hv, HF.out.sel [2] (by decide) rfl⟩
set_option maxRecDepth 100000 in
set_option maxHeartbeats 1000000 in
theorem DrawLeastOf_c (code : List Int) (A : Option Addr) (n c : Nat) (w : World) (B : Nat) (hc : Mm.SlAt Mm.u8 w B code A n c) (hB : B ≤ w.heap.size) :
    Calls Try.prog 48 #[.slice A n c] w (Mm.DrawnHv w) := by
  have HC := Lib.hid hc
  have HS := Lib.hid ((Mm.SepF.start w).alloc' rfl 38 [.slice none 0 0, .slice none 0 0, .int .i64 0, .int .i64 0])
  clear hc
  go_enter Try.func48, Try.ntmps48
  go_wp2_with (go_at_call 47; refine (DrawAddHeavy_c code A n c _ B (HC.out.keep fun b hb => HS.out.bel0.block b (by omega)) (by have := HS.out.bel0.size; omega)).mono ?_; rintro e w1 ⟨p, Ap, Aq, np, cp, nq, cq, fp, v, rfl, hv, hS⟩; (have HS := Lib.hid (HS.out.join hS)); (have r0 := HS.out.cell (k := 0) 1 rfl rfl); (have r1 := HS.out.cell (k := 1) 1 rfl rfl); (have r2 := HS.out.cell (k := 2) 1 rfl rfl); (have r3 := HS.out.cell (k := 3) 1 rfl rfl); (have y0 := HS.out.frz (k := 0) 1 rfl); (have y1 := HS.out.frz (k := 1) 1 rfl); (have y2 := HS.out.frz (k := 2) 1 rfl); (have y3 := HS.out.frz (k := 3) 1 rfl); clear hS)
  have HF := Lib.hid ((((HS.out.setBlk (k := 0) 1 rfl (.slice Ap np cp)).setBlk (k := 1) 1 rfl (.slice Aq nq cq)).setBlk (k := 2) 1 rfl (.int .i64 p.Gone)).setBlk (k := 3) 1 rfl (.int .i64 p.Total))
  exact bodyPost_ret (v := .tuple #[.agg #[.slice Ap np cp, .slice Aq nq cq, .int .i64 p.Gone, .int .i64 p.Total], .string v]) (by simp [results, Try.results48, go_sem, r0, r1, r2, r3]) rfl
    ⟨p, _, _, _, _, _, _, _, v, rfl, hv, HF.out.sel [0] (by decide) rfl⟩
theorem DrawNewHeavy_c (code : List Int) (A : Option Addr) (n c : Nat) (w : World) (B : Nat) (hc : Mm.SlAt Mm.u8 w B code A n c) (hB : B ≤ w.heap.size) :
    Calls Try.prog 50 #[.slice A n c] w fun e w' => ∃ k : Int, e = .returned (.int .i64 k) ∧ -1 ≤ k ∧ k ≤ 8 ∧ Below w.heap.size w w' := by
  have HC := Lib.hid hc
  have HS := Lib.hid (((Mm.SepF.start w).alloc' rfl 92 [.slice A n c, .int .i64 0, .int .u64 0]).swapFor 0 (t' := Mm.tcur 92 A n c w.heap.size 0) rfl rfl (fun h => ⟨0, 0, h, by omega, by omega⟩))
  clear hc
  go_enter Try.func50, Try.ntmps50
  go_wp2_with (go_at_call 80; refine (pick_c code A n c _ _ _ _ B (HC.out.keep fun b hb => HS.out.bel0.block b (by omega)) (by omega) (HS.out.at_ 0 rfl) (by omega) (by omega)).mono ?_; rintro e w1 ⟨b1, rfl, b10, -, b11, hL⟩; (have b11 := b11 (by omega)); (have HS := Lib.hid (HS.out.call 0 rfl hL)); clear hL)
  go_ret
  exact ⟨_, rfl, by omega, by omega, HS.out.bel0⟩
theorem DrawNewSketch_c (code : List Int) (A : Option Addr) (n c : Nat) (w : World) (B : Nat) (hc : Mm.SlAt Mm.u8 w B code A n c) (hB : B ≤ w.heap.size) :
    Calls Try.prog 53 #[.slice A n c] w fun e w' => ∃ k : Int, e = .returned (.int .i64 k) ∧ -1 ≤ k ∧ k ≤ 5 ∧ Below w.heap.size w w' := by
  have HC := Lib.hid hc
  have HS := Lib.hid (((Mm.SepF.start w).alloc' rfl 92 [.slice A n c, .int .i64 0, .int .u64 0]).swapFor 0 (t' := Mm.tcur 92 A n c w.heap.size 0) rfl rfl (fun h => ⟨0, 0, h, by omega, by omega⟩))
  clear hc
  go_enter Try.func53, Try.ntmps53
  go_wp2_with (go_at_call 80; refine (pick_c code A n c _ _ _ _ B (HC.out.keep fun b hb => HS.out.bel0.block b (by omega)) (by omega) (HS.out.at_ 0 rfl) (by omega) (by omega)).mono ?_; rintro e w1 ⟨b1, rfl, b10, -, b11, hL⟩; (have b11 := b11 (by omega)); (have HS := Lib.hid (HS.out.call 0 rfl hL)); clear hL)
  go_ret
  exact ⟨_, rfl, by omega, by omega, HS.out.bel0⟩
end Go.Proofs.Ytjmcbggdckfefaa
