/-
  Contracts: drawn sketches. No conditions.
-/
import Derived.Test.YtjmcbggdckfefaaDn
import Derived.Test.YtjmcbggdckfefaaSx
import Derived.Test.YtjmcbggdckfefaaWm
import Derived.Test.YtjmcbggdckfefaaWk
namespace Go.Proofs.Ytjmcbggdckfefaa
open Go.RowKit
attribute [local go_sem] und_cell World.cell?_alloc_some
theorem newSk_ok {n : Nat} (h1 : 1 ≤ n) (h3 : n ≤ 3) : Pl.sketchOk (Pl.newSk n) = true := by
  unfold Pl.sketchOk
  rw [Bool.and_eq_true]
  refine ⟨Pl.isIn_mk (by show (1 : Int) ≤ ((List.replicate n zrow).length : Nat); rw [List.length_replicate]; omega) (by show ((List.replicate n zrow).length : Int) ≤ 3; rw [List.length_replicate]; omega), List.all_eq_true.2 fun r hr => ?_⟩
  have : r = zrow := (List.mem_replicate.1 hr).2
  subst this
  show Pl.rowOk 0 zrow = true
  decide
theorem newSketch_ok {b : Int} (h0 : 0 ≤ b) (h3 : b < 3) : Pl.newSketch (1 + b) = (Pl.newSk (1 + b).toNat, true) ∧ Pl.sketchOk (Pl.newSk (1 + b).toNat) = true := ⟨if_pos (Pl.isIn_mk (by omega) (by omega)), newSk_ok (by omega) (by omega)⟩
theorem addSketch_ok {s s' : Sketch} {name : ByteArray} {many : Int} (h : Pl.addSketch s name many = (s', true)) : Pl.sketchOk s' = true := by
  unfold Pl.addSketch at h
  split at h
  · split at h
    · rename_i h2; injection h with h _; rw [← h]; exact h2
    · injection h with _ h; cases h
  · injection h with _ h; cases h
theorem addSketch_ok2 {s : Sketch} {name : ByteArray} {many : Int} (h : (Pl.addSketch s name many).2 = true) : Pl.sketchOk (Pl.addSketch s name many).1 = true := addSketch_ok (s' := (Pl.addSketch s name many).1) (by rw [← h])
set_option maxRecDepth 100000 in
set_option maxHeartbeats 4000000 in
theorem sketch_c (code : List Int) (A : Option Addr) (n c g K : Nat) (w : World) (B : Nat) (hc : Mm.SlAt Mm.u8 w B code A n c) (hBg : B ≤ g) (h : (Mm.tcur 92 A n c g K).holds w) (hK : K < 4611686018427386000) :
    Calls Try.prog 84 #[.pointer (some ⟨g, 0, none⟩)] w fun e w' => ∃ (s : Sketch) (cs : List Value) (fp : List Nat), e = .returned (.agg cs.toArray) ∧ Mm.SepF [g] w w' [Mm.tcur 92 A n c g (K + 200), Mm.tow sk s cs fp] := by
  have hgw : g < w.heap.size := (Mm.tcur 92 A n c g K).lt h g (by simp [Mm.tcur])
  have HC := Lib.hid hc
  have HS0 : Hid (Mm.SepF [g] w w [Mm.tcur 92 A n c g K]) := Mm.SepF.one (Mm.tcur 92 A n c g K) w h (by simp [Mm.tcur])
  have HS := Lib.hid (HS0.out.allocEnd rfl 26 [.slice none 0 0, .int .i64 0])
  clear hc h HS0
  go_enter Try.func84, Try.ntmps84
  go_upto_region 2 with first
    | (go_at_call 80; refine (pick_c code A n c g _ _ _ B (HC.out.keep fun b hb => HS.out.chg.block b (by omega) (by simp; omega)) hBg (HS.out.at_ 0 rfl) (by omega) (by omega)).mono ?_; rintro e w1 ⟨b1, rfl, b10, -, b11, hL⟩; (have HS := Lib.hid (HS.out.call 0 rfl hL)); have b11 := b11 (by omega); clear hL)
    | (go_at_call 54; refine (specNewSketch_c _ _).mono ?_; rintro e w2 ⟨cs0, fp0, rfl, ho, hnd, hnw, hb⟩; obtain ⟨A0, n0, c0, f0, rfl, rfl, -⟩ := sk_own ho; (have HS := Lib.hid (HS.out.addEnd hb (t := Mm.tow sk _ _ _) ho hnd hnw)); clear ho hnd hnw hb)
  have HS := Lib.hid (HS.out.allocEnd rfl 26 [.slice A0 n0 c0, .int .i64 (Pl.newSketch (1 + b1)).1.Total])
  obtain ⟨gs, hgs⟩ : ∃ gs, w2.heap.size = gs := ⟨_, rfl⟩
  obtain ⟨gr, hgr⟩ : ∃ gr, w.heap.size = gr := ⟨_, rfl⟩
  have hnw := newSketch_ok b10 b11
  rw [hnw.1] at HS ⊢
  obtain ⟨s0, hs0⟩ : ∃ s0, Pl.newSk (1 + b1).toNat = s0 := ⟨_, rfl⟩
  have hk0 := hnw.2
  rw [hs0] at hk0
  have HK0 := Lib.hid hk0
  dsimp only at HS ⊢
  rw [hs0, hgs, hgr] at HS
  rw [hs0, hgs]
  clear hnw hk0
  go_wp2_with (go_at_call 80; refine (pick_c code A n c g _ _ _ B (HC.out.keep fun b hb => HS.out.chg.block b (by omega) (by simp; omega)) hBg (HS.out.at_ 0 rfl) (by omega) (by omega)).mono ?_; rintro e w1 ⟨b3, rfl, b30, -, b31, hL⟩; (have HS := Lib.hid (HS.out.call 0 rfl hL)); have b31 := b31 (by omega); clear hL)
  clear hs0 hgs hgr
  go_loopg [5] 8 (fun gg nn wr => ∃ (k : Nat) (s : Sketch) (A1 : Option Addr) (n1 c1 : Nat) (fp : List Nat) (Kc : Nat), k ≤ gg ∧ nn = .int .i64 k ∧ k ≤ 8 ∧ Kc + 3 * k ≤ K + 100 ∧ Hid (Pl.sketchOk s = true) ∧ Hid (Mm.SepF [g] w wr [Mm.tcur 92 A n c g Kc, Mm.tblk gr 26 [.slice none 0 0, .int .i64 0], Mm.tow sk s [.slice A1 n1 c1, .int .i64 s.Total] fp, Mm.tblk gs 26 [.slice A1 n1 c1, .int .i64 s.Total]]))
  case atStart => exact ⟨b3.toNat, s0, A0, n0, c0, fp0, K + 1 + 1, by omega, by rw [Int.toNat_of_nonneg b30], by omega, by omega, HK0, HS⟩
  case round =>
    obtain ⟨k, s, A1, n1, c1, fp, Kc, hkg, rfl, hk8, hKc, HK, HS⟩ := hrel
    by_cases hk0 : 0 < k
    · skip
      have hk1 : (0 : Int) < (k : Nat) := by omega
      have hd1 : decide (0 < k) = true := by simpa using hk0
      have q0 := HS.out.cell (k := 0) 3 rfl rfl
      have q1 := HS.out.cell (k := 1) 3 rfl rfl
      go_upto_region 5 with fail
      go_cut [6, 7] (fun p q wx => ∃ (P : Nat) (b : Bool) (s' : Sketch) (A' : Option Addr) (n' c' : Nat) (fp' : List Nat), p = .pointer (some ⟨P, 0, none⟩) ∧ q = .bool b ∧ (b = true → Pl.sketchOk s' = true) ∧ Mm.SepF [g] w wx [Mm.tcur 92 A n c g (Kc + 2), Mm.tblk gr 26 [.slice none 0 0, .int .i64 0], Mm.tow sk s [.slice A1 n1 c1, .int .i64 s.Total] fp, Mm.tblk gs 26 [.slice A1 n1 c1, .int .i64 s.Total], Mm.tow sk s' [.slice A' n' c', .int .i64 s'.Total] fp', Mm.tblk P 26 [.slice A' n' c', .int .i64 s'.Total]])
      case first =>
        go_region_with (first
          | (go_at_call 85; (first | ((have HS := Lib.hid (HS.out.step (Below.refl _ _).drew)); (with_reducible refine (name15_c code A n c g _ _ B (HC.out.keep fun b hb => HS.out.chg.block b (by omega) (by simp; omega)) hBg (HS.out.at_ 0 rfl) (by omega)).mono ?_)) | ((have HS := Lib.hid (HS.out.allocEnd rfl 26 [.slice none 0 0, .int .i64 0])); (have HS := Lib.hid (HS.out.step (Below.refl _ _).drew)); (with_reducible refine (name15_c code A n c g _ _ B (HC.out.keep fun b hb => HS.out.chg.block b (by omega) (by simp; omega)) hBg (HS.out.at_ 0 rfl) (by omega)).mono ?_))); rintro e w3 ⟨v, rfl, hv, hL⟩; (have HS := Lib.hid (HS.out.call 0 rfl hL)); clear hL; (have q0 := HS.out.cell (k := 0) 3 rfl rfl); (have q1 := HS.out.cell (k := 1) 3 rfl rfl))
          | (go_at_call 80; (first | (with_reducible refine (pick_c code A n c g _ 9 _ B (HC.out.keep fun b hb => HS.out.chg.block b (by omega) (by simp; omega)) hBg (HS.out.at_ 0 rfl) (by omega) (by omega)).mono ?_) | ((have HS := Lib.hid (HS.out.allocEnd rfl 26 [.slice none 0 0, .int .i64 0])); (with_reducible refine (pick_c code A n c g _ 9 _ B (HC.out.keep fun b hb => HS.out.chg.block b (by omega) (by simp; omega)) hBg (HS.out.at_ 0 rfl) (by omega) (by omega)).mono ?_))); rintro e w3 ⟨b2, rfl, b20, -, b21, hL⟩; (have HS := Lib.hid (HS.out.call 0 rfl hL)); clear hL; have b21 := b21 (by omega); (have jw : IntKind.i64.wrap (1 + b2) = 1 + b2 := IntWalk.i64_in _ (by omega)); (have q0 := HS.out.cell (k := 0) 3 rfl rfl); (have q1 := HS.out.cell (k := 1) 3 rfl rfl))
          | (go_at_call 35; (first | (have HR := Lib.hid (HS.out.rd 2 rfl)); (with_reducible refine (specAddSketch_c s [.slice A1 n1 c1, .int .i64 s.Total] v (1 + b2) _ _ HR.out (Nat.le_refl _) (Nat.le_trans (names15_sz hv) (by decide))).mono ?_) | ((have HS := Lib.hid (HS.out.allocEnd rfl 26 [.slice none 0 0, .int .i64 0])); (have HR := Lib.hid (HS.out.rd 2 rfl)); (with_reducible refine (specAddSketch_c s [.slice A1 n1 c1, .int .i64 s.Total] v (1 + b2) _ _ HR.out (Nat.le_refl _) (Nat.le_trans (names15_sz hv) (by decide))).mono ?_))); rintro e w4 ⟨cs4, fp4, rfl, ho, hnd, hnw, hb⟩; obtain ⟨A4, n4, c4, f4, rfl, rfl, -⟩ := sk_own ho; (have HS := Lib.hid (HS.out.addEnd hb (t := Mm.tow sk _ _ _) ho hnd hnw)); (try (have g0 := HS.out.cell (k := 0) 4 rfl rfl; have g1 := HS.out.cell (k := 1) 4 rfl rfl; have g2 := HS.out.frz (k := 0) 4 rfl; have g3 := HS.out.frz (k := 1) 4 rfl)); clear ho hnd hnw hb))
        all_goals (go_wp2_with fail)
        all_goals go_meet
        all_goals first
          | exact ⟨_, _, _, _, _, _, _, rfl, rfl, addSketch_ok2, HS.out.allocEnd rfl 26 [.slice A4 n4 c4, .int .i64 (Pl.addSketch s v (1 + b2)).1.Total]⟩
          | exact ⟨_, _, _, _, _, _, _, rfl, rfl, addSketch_ok2, ((HS.out.setBlk (k := 0) 4 rfl (.slice A4 n4 c4)).setBlk (k := 1) 4 rfl (.int .i64 (Pl.addSketch s v (1 + b2)).1.Total)).sel [0, 1, 2, 3, 5, 4] (by decide) rfl⟩
      case rest =>
        obtain ⟨P, b, s', A', n', c', fp', rfl, rfl, hbk, HS⟩ := hcut
        have HBK := Lib.hid hbk
        have HS := Lib.hid HS
        clear hbk
        cases b
        · go_wp2
          go_roundg (k - 1)
          case measure => omega
          case rel => exact ⟨k - 1, s, A1, n1, c1, fp, Kc + 2, Nat.le_refl _, by go_num, by omega, by omega, HK, HS.out.sel [0, 1, 2, 3] (by decide) rfl⟩
        · have p0 := HS.out.cell (k := 0) 5 rfl rfl
          have p1 := HS.out.cell (k := 1) 5 rfl rfl
          have r0 := HS.out.cell (k := 0) 3 rfl rfl
          have r1 := HS.out.cell (k := 1) 3 rfl rfl
          have z0 := HS.out.frz (k := 0) 3 rfl
          have z1 := HS.out.frz (k := 1) 3 rfl
          go_wp2
          go_roundg (k - 1)
          case measure => omega
          case rel => exact ⟨k - 1, s', A', n', c', fp', Kc + 2, Nat.le_refl _, by go_num, by omega, by omega, HBK.out (by simp), ((HS.out.setBlk (k := 0) 3 rfl (.slice A' n' c')).setBlk (k := 1) 3 rfl (.int .i64 s'.Total)).sel [0, 1, 4, 3] (by decide) rfl⟩
    · have hk1 : ¬ (0 : Int) < (k : Nat) := by omega
      have hd1 : decide (0 < k) = false := by simpa using hk0
      have q0 := HS.out.cell (k := 0) 3 rfl rfl
      have q1 := HS.out.cell (k := 1) 3 rfl rfl
      go_upto_if 37 with (go_at_call 100; refine (one_c code A n c g _ _ _ B (HC.out.keep fun b hb => HS.out.chg.block b (by omega) (by simp; omega)) hBg (HS.out.at_ 0 rfl) (by omega) (by omega)).mono ?_; rintro e w1 ⟨b9, rfl, hL⟩; (have HS := Lib.hid (HS.out.call 0 rfl hL)); clear hL)
      have q0 := HS.out.cell (k := 0) 3 rfl rfl
      have q1 := HS.out.cell (k := 1) 3 rfl rfl
      have r0 := HS.out.cell (k := 0) 1 rfl rfl
      have r1 := HS.out.cell (k := 1) 1 rfl rfl
      have y0 := HS.out.frz (k := 0) 1 rfl
      have y1 := HS.out.frz (k := 1) 1 rfl
      cases b9
      · go_wp2
        have HF := Lib.hid (((HS.out.setBlk (k := 0) 1 rfl (.slice A1 n1 c1)).setBlk (k := 1) 1 rfl (.int .i64 s.Total)).more 0 rfl (K' := K + 200) (by omega))
        exact bodyPost_ret (v := .agg #[.slice A1 n1 c1, .int .i64 s.Total]) (by simp [results, Try.results84, go_sem, r0, r1]) rfl ⟨s, _, fp, rfl, HF.out.sel [0, 2] (by decide) rfl⟩
      · have hin := HK.out
        unfold Pl.sketchOk at hin
        rw [Bool.and_eq_true, Pl.isIn_iff] at hin
        have HTI : Hid (Mm.I64 s.Total) := (sk_own (show sk.own _ _ _ _ from HS.out.at_ 2 rfl)).choose_spec.choose_spec.choose_spec.choose_spec.2.2.2
        have HT := Lib.hid (HS.out.swapFor 2 (t' := Mm.tsl ints 34 s.Rows (.slice A1 n1 c1) fp) rfl rfl (fun h => by
          obtain ⟨_, _, _, _, e1, rfl, ho, -⟩ := sk_own (show sk.own _ _ _ _ from h)
          injection e1 with e1 _; injection e1 with e1 e2 e3; subst e1; subst e2; subst e3
          exact ho))
        obtain ⟨r, hx0⟩ : ∃ r, s.Rows[0]? = some r := ⟨_, List.getElem?_eq_getElem (by omega)⟩
        have hrb := Pl.rows_bd HK.out hx0
        have hn1 : n1 = s.Rows.length := by obtain ⟨_, _, _, hv, h1, _⟩ := (HT.out.sl 2 rfl).form; injection hv with _ h2 _; omega
        obtain ⟨ga, rfl, hga, -⟩ := Mm.sl_addr (HT.out.sl 2 rfl) (by omega)
        have hgag : ga ∉ [g] := HT.out.apart (i := 2) (j := 0) rfl rfl (by decide) ga hga
        have hgal := (HT.out.sl 2 rfl).olt ga hga
        obtain ⟨csr, fx, ⟨vr, rfl, hor⟩, hfn, hfs, hcr, -⟩ := HT.out.putIn (k := 0) 2 rfl hx0
        obtain ⟨Ar, nr, cr, rfl, hnr, -⟩ := hor.form
        obtain ⟨grr, rfl, hgr, -⟩ := Mm.sl_addr hor (by omega)
        have hn11 : nr = 11 := by omega
        subst hn11
        have u1 : w1.cell? ⟨ga, 0, none⟩ = some (.slice (some ⟨grr, 0, none⟩) 11 cr) := by have h := hcr 0 _ rfl; rwa [show 0 * ints.size + 0 = 0 by omega] at h
        have HX0 := Lib.hid hx0
        have HRB := Lib.hid hrb
        have HN1 : Hid ((1 : Int) ≤ n1 ∧ 1 ≤ n1) := ⟨by omega, by omega⟩
        have j1 : (0 : Int) < (n1 : Nat) := by omega
        have j2 : 0 < n1 := by omega
        clear hin hx0 hrb hn1 hor hfn hfs hcr hnr hgr
        go_upto_region 9 with fail
        go_region_with ((go_at_call 80; (have HTd := Lib.hid (HT.out.step (Below.refl _ _).drew)); refine (pick_c code A n c g _ 11 _ B (HC.out.keep fun b hb => HTd.out.chg.block b (by omega) (by simp; omega)) hBg (HTd.out.at_ 0 rfl) (by omega) (by omega)).mono ?_; rintro e w5 ⟨b7, rfl, b70, -, b71, hL⟩; have b71 := b71 (by omega); have u2 : w5.cell? ⟨ga, 0, none⟩ = some (.slice (some ⟨grr, 0, none⟩) 11 cr) := (World.cell?_of_block (hL.1.block ga hgal hgag)).trans u1; (have HT := Lib.hid (HTd.out.call 0 rfl hL)); (have q0 := HT.out.cell (k := 0) 3 rfl rfl); (have q1 := HT.out.cell (k := 1) 3 rfl rfl); obtain ⟨csr, fx, ⟨vr, rfl, hor⟩, hfn, hfs, hcr, hput⟩ := HT.out.putIn (k := 0) 2 rfl HX0.out; (have u3 : w5.cell? ⟨ga, 0, none⟩ = some vr := by have h := hcr 0 _ rfl; rwa [show 0 * ints.size + 0 = 0 by omega] at h); (obtain rfl : vr = .slice (some ⟨grr, 0, none⟩) 11 cr := by have h := u3.symm.trans u2; injection h); obtain ⟨x, hx2⟩ : ∃ x, r[b7.toNat]? = some x := ⟨_, List.getElem?_eq_getElem (by have := HRB.out.1; omega)⟩; (have hxb := Pl.allIn_at HRB.out.2.1 hx2); (have u4 := int_ocell hor hfn hx2); (have u5 := hor.frozen b7.toNat); (have hgr := Mm.row_in hor (k := grr) rfl); (have j3 : IntKind.i64.wrap (x + 1) = x + 1 := IntWalk.i64_in _ (by omega)); (have hI : Mm.I64 (x + 1) := by unfold Mm.I64; omega); (have HPUT := Lib.hid (hput (w5.setCell ⟨grr, b7.toNat, none⟩ (.int .i64 (x + 1))) (r.set b7.toNat (x + 1)) fx ((Mm.Chg.refl _ _).setCell hgr _) ⟨_, rfl, hor.store1 hfn rfl hx2 (fun cs fx ho => by obtain ⟨_, _, rfl⟩ := ho; exact ⟨rfl, hI, rfl⟩)⟩ hfn (fun b hb => hb))); clear hput hor hfn hfs hcr hgr hL u3 hx2))
        all_goals
          obtain ⟨fp', HN⟩ := HPUT.out
          have HN := Lib.hid HN
          have m0 := HN.out.cell (k := 0) 3 rfl rfl
          have m1 := HN.out.cell (k := 1) 3 rfl rfl
          have n0' := HN.out.cell (k := 0) 1 rfl rfl
          have n1' := HN.out.cell (k := 1) 1 rfl rfl
          have y0' := HN.out.frz (k := 0) 1 rfl
          have y1' := HN.out.frz (k := 1) 1 rfl
          have HF := Lib.hid (((HN.out.setBlk (k := 0) 1 rfl (.slice (some ⟨ga, 0, none⟩) n1 c1)).setBlk (k := 1) 1 rfl (.int .i64 s.Total)).more 0 rfl (K' := K + 200) (by omega))
          have HG := Lib.hid (HF.out.swapFor 2 (t' := Mm.tow sk ⟨s.Rows.set 0 (r.set b7.toNat (x + 1)), s.Total⟩ [.slice (some ⟨ga, 0, none⟩) n1 c1, .int .i64 s.Total] fp') rfl rfl (fun h => sk_own_mk (x := ⟨s.Rows.set 0 (r.set b7.toNat (x + 1)), s.Total⟩) h HTI.out))
          clear q0 q1 r0 r1 y0 y1 u1 u2 u4 u5 HPUT
          go_wp2
          exact bodyPost_ret (v := .agg #[.slice (some ⟨ga, 0, none⟩) n1 c1, .int .i64 s.Total]) (by simp [results, Try.results84, go_sem, n0', n1']) rfl ⟨_, _, fp', rfl, HG.out.sel [0, 2] (by decide) rfl⟩
end Go.Proofs.Ytjmcbggdckfefaa
