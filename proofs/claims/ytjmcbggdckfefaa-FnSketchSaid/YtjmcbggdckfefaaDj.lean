/-
  Contracts: the drawn inputs of the laws on sketches. No conditions.
-/
import Derived.Test.YtjmcbggdckfefaaDk
import Derived.Deep.DeepCutAuto
namespace Go.Proofs.Ytjmcbggdckfefaa
open Go.RowKit
attribute [local go_sem] und_cell World.cell?_alloc_some
theorem newSketch_rows {na n4 : Nat} (h : n4 = (Pl.newSketch (na : Int)).1.Rows.length) : ¬ (n4 < na ∧ 0 < n4) := by
  unfold Pl.newSketch at h
  split at h
  · have h2 : (Pl.newSk (na : Int).toNat).Rows.length = na := by show (List.replicate _ zrow).length = na; rw [List.length_replicate]; omega
    have h3 : n4 = (Pl.newSk (na : Int).toNat).Rows.length := h
    omega
  · have : n4 = 0 := h
    omega
set_option maxRecDepth 100000 in
set_option maxHeartbeats 1000000 in
theorem DrawAddSketch_c (code : List Int) (A : Option Addr) (n c : Nat) (w : World) (B : Nat) (hc : Mm.SlAt Mm.u8 w B code A n c) (hB : B ≤ w.heap.size) :
    Calls Try.prog 34 #[.slice A n c] w fun e w' => ∃ (s : Sketch) (A1 : Option Addr) (n1 c1 : Nat) (name : ByteArray) (many : Int), e = .returned (.tuple #[.agg #[.slice A1 n1 c1, .int .i64 s.Total], .string name, .int .i64 many]) ∧ name.size ≤ 4 ∧ Mm.I64 many ∧ sk.at_ w' w'.heap.size s [.slice A1 n1 c1, .int .i64 s.Total] ∧ Below w.heap.size w w' := by
  have HC := Lib.hid hc
  have HS := Lib.hid ((((Mm.SepF.start w).allocEnd rfl 26 [.slice none 0 0, .int .i64 0]).allocEnd (Mm.sz1 _ _) 92 [.slice A n c, .int .i64 0, .int .u64 0]).swapFor 1 (t' := Mm.tcur 92 A n c (w.heap.size + 1) 0) rfl rfl (fun h => ⟨0, 0, h, by omega, by omega⟩))
  clear hc
  go_enter Try.func34, Try.ntmps34
  go_wp2_with first
    | (go_at_call 84; refine (sketch_c code A n c _ _ _ B (HC.out.keep fun b hb => HS.out.bel0.block b (by omega)) (by omega) (HS.out.at_ 1 rfl) (by omega)).mono ?_; rintro e w1 ⟨p, csp, fpp, rfl, hS⟩; obtain ⟨Ap, np, cp, fp, rfl, rfl, -, Ip⟩ := sk_own (show sk.own _ _ _ _ from hS.at_ 1 rfl); (have HS := Lib.hid ((HS.out.callAll 1 rfl hS).sel [0, 2, 3] (by decide) rfl)); clear hS)
    | (go_at_call 85; refine (name15_c code A n c _ _ _ B (HC.out.keep fun b hb => HS.out.bel0.block b (by omega)) (by omega) (HS.out.at_ 1 rfl) (by omega)).mono ?_; rintro e w1 ⟨v, rfl, hv, hL⟩; (have HS := Lib.hid (HS.out.call 1 rfl hL)); clear hL)
    | (go_at_call 86; (have HA := Lib.hid (HS.out.alloc' rfl 3 [.int .i64 0, .int .i64 1, .int .i64 5, .int .i64 1000, .int .i64 1001])); refine (among_c code A n c _ _ [0, 1, 5, 1000, 1001] _ 5 _ B (HC.out.keep fun b hb => HA.out.bel0.block b (by omega)) (by omega) (HA.out.at_ 2 rfl) (by omega) (HA.out.at_ 0 rfl) (by have := HS.out.lt (w.heap.size + 1) (Mm.SepF.mem (i := 1) rfl (by simp [Mm.tcur])); omega) rfl (by omega) (by omega)).mono ?_; rintro e w1 ⟨b6, rfl, hv9, hL⟩; (have b60 : 0 ≤ b6 ∧ b6 ≤ 1001 := by simp at hv9; omega); (have HS := Lib.hid ((HA.out.call 2 rfl hL).tail)); clear hL hv9 HA; have r0 := HS.out.cell (k := 0) 0 rfl rfl; have r1 := HS.out.cell (k := 1) 0 rfl rfl; have y0 := HS.out.frz (k := 0) 0 rfl; have y1 := HS.out.frz (k := 1) 0 rfl)
  have HF := Lib.hid ((HS.out.setBlk (k := 0) 0 rfl (.slice Ap np cp)).setBlk (k := 1) 0 rfl (.int .i64 p.Total))
  exact bodyPost_ret (v := .tuple #[.agg #[.slice Ap np cp, .int .i64 p.Total], .string v, .int .i64 b6]) (by simp [results, Try.results34, go_sem, r0, r1]) rfl
    ⟨p, _, _, _, v, b6, rfl, names15_sz hv, by unfold Mm.I64; omega, sk.weak (HF.out.at_ 2 rfl) (sk.olt (HF.out.at_ 2 rfl)), HF.out.bel0⟩
set_option maxRecDepth 100000 in
set_option maxHeartbeats 1000000 in
theorem DrawGuessOf_c (code : List Int) (A : Option Addr) (n c : Nat) (w : World) (B : Nat) (hc : Mm.SlAt Mm.u8 w B code A n c) (hB : B ≤ w.heap.size) :
    Calls Try.prog 37 #[.slice A n c] w fun e w' => ∃ (s : Sketch) (A1 : Option Addr) (n1 c1 : Nat) (name : ByteArray), e = .returned (.tuple #[.agg #[.slice A1 n1 c1, .int .i64 s.Total], .string name]) ∧ name.size ≤ 4 ∧ sk.at_ w' w'.heap.size s [.slice A1 n1 c1, .int .i64 s.Total] ∧ Below w.heap.size w w' := by
  have HC := Lib.hid hc
  have HS := Lib.hid ((((Mm.SepF.start w).allocEnd rfl 26 [.slice none 0 0, .int .i64 0]).allocEnd (Mm.sz1 _ _) 92 [.slice A n c, .int .i64 0, .int .u64 0]).swapFor 1 (t' := Mm.tcur 92 A n c (w.heap.size + 1) 0) rfl rfl (fun h => ⟨0, 0, h, by omega, by omega⟩))
  clear hc
  go_enter Try.func37, Try.ntmps37
  go_wp2_with first
    | (go_at_call 84; refine (sketch_c code A n c _ _ _ B (HC.out.keep fun b hb => HS.out.bel0.block b (by omega)) (by omega) (HS.out.at_ 1 rfl) (by omega)).mono ?_; rintro e w1 ⟨p, csp, fpp, rfl, hS⟩; obtain ⟨Ap, np, cp, fp, rfl, rfl, -, Ip⟩ := sk_own (show sk.own _ _ _ _ from hS.at_ 1 rfl); (have HS := Lib.hid ((HS.out.callAll 1 rfl hS).sel [0, 2, 3] (by decide) rfl)); clear hS)
    | (go_at_call 85; refine (name15_c code A n c _ _ _ B (HC.out.keep fun b hb => HS.out.bel0.block b (by omega)) (by omega) (HS.out.at_ 1 rfl) (by omega)).mono ?_; rintro e w1 ⟨v, rfl, hv, hL⟩; (have HS := Lib.hid (HS.out.call 1 rfl hL)); clear hL; have r0 := HS.out.cell (k := 0) 0 rfl rfl; have r1 := HS.out.cell (k := 1) 0 rfl rfl; have y0 := HS.out.frz (k := 0) 0 rfl; have y1 := HS.out.frz (k := 1) 0 rfl)
  have HF := Lib.hid ((HS.out.setBlk (k := 0) 0 rfl (.slice Ap np cp)).setBlk (k := 1) 0 rfl (.int .i64 p.Total))
  exact bodyPost_ret (v := .tuple #[.agg #[.slice Ap np cp, .int .i64 p.Total], .string v]) (by simp [results, Try.results37, go_sem, r0, r1]) rfl
    ⟨p, _, _, _, v, rfl, names15_sz hv, sk.weak (HF.out.at_ 2 rfl) (sk.olt (HF.out.at_ 2 rfl)), HF.out.bel0⟩
set_option maxRecDepth 100000 in
set_option maxHeartbeats 2000000 in
theorem DrawJoinSketches_c (code : List Int) (A : Option Addr) (n c : Nat) (w : World) (B : Nat) (hc : Mm.SlAt Mm.u8 w B code A n c) (hB : B ≤ w.heap.size) :
    Calls Try.prog 36 #[.slice A n c] w fun e w' => ∃ (a b : Sketch) (A1 A2 : Option Addr) (n1 c1 n2 c2 : Nat), e = .returned (.tuple #[.agg #[.slice A1 n1 c1, .int .i64 a.Total], .agg #[.slice A2 n2 c2, .int .i64 b.Total]]) ∧ sk.at_ w' w'.heap.size a [.slice A1 n1 c1, .int .i64 a.Total] ∧ sk.at_ w' w'.heap.size b [.slice A2 n2 c2, .int .i64 b.Total] ∧ Below w.heap.size w w' := by
  have HC := Lib.hid hc
  have HS := Lib.hid (((((Mm.SepF.start w).allocEnd rfl 26 [.slice none 0 0, .int .i64 0]).allocEnd (Mm.sz1 _ _) 26 [.slice none 0 0, .int .i64 0]).allocEnd (Mm.sz2 _ _ _) 92 [.slice A n c, .int .i64 0, .int .u64 0]).swapFor 2 (t' := Mm.tcur 92 A n c (w.heap.size + 2) 0) rfl rfl (fun h => ⟨0, 0, h, by omega, by omega⟩))
  clear hc
  go_enter Try.func36, Try.ntmps36
  go_upto_region 3 with (go_at_call 84; refine (sketch_c code A n c _ _ _ B (HC.out.keep fun b hb => HS.out.bel0.block b (by omega)) (by omega) (HS.out.at_ 2 rfl) (by omega)).mono ?_; rintro e w1 ⟨a, csa, fpa, rfl, hS⟩; obtain ⟨Aa, na, ka, fa, rfl, rfl, -, Ia⟩ := sk_own (show sk.own _ _ _ _ from hS.at_ 1 rfl); (have HS := Lib.hid ((HS.out.callAll 2 rfl hS).sel [0, 1, 3, 4] (by decide) rfl)); clear hS)
  have HS := Lib.hid (HS.out.allocEnd rfl 26 [.slice Aa na ka, .int .i64 a.Total])
  obtain ⟨ga, hga⟩ : ∃ ga, w1.heap.size = ga := ⟨_, rfl⟩
  rw [hga] at HS ⊢
  have hlen : na ≤ maxLen := by have h := sk.weak (HS.out.at_ 3 rfl) (sk.olt (HS.out.at_ 3 rfl)); obtain ⟨_, _, _, e1, g0, _⟩ := sk_at h; injection e1 with e1 _; injection e1 with e1 e2 e3; subst e2; exact Nat.le_trans g0.2.1 g0.2.2.1
  clear hga
  go_upto_region 4 with (go_at_call 84; refine (sketch_c code A n c _ _ _ B (HC.out.keep fun b hb => HS.out.bel0.block b (by omega)) (by omega) (HS.out.at_ 2 rfl) (by omega)).mono ?_; rintro e w1 ⟨b, csb, fpb, rfl, hS⟩; obtain ⟨Ab, nb, kb, fb, rfl, rfl, -, Ib⟩ := sk_own (show sk.own _ _ _ _ from hS.at_ 1 rfl); (have HS := Lib.hid ((HS.out.callAll 2 rfl hS).sel [0, 1, 3, 4, 5, 6] (by decide) rfl)); clear hS)
  have HS := Lib.hid (HS.out.allocEnd rfl 26 [.slice Ab nb kb, .int .i64 b.Total])
  obtain ⟨gb, hgb⟩ : ∃ gb, w1.heap.size = gb := ⟨_, rfl⟩
  rw [hgb] at HS ⊢
  clear hgb
  unfold maxLen at hlen
  go_loopg [] 1 (fun gg wr => ∃ (b' : Sketch) (A2 : Option Addr) (n2 c2 : Nat) (fp2 : List Nat), (gg = 0 → ¬ (n2 < na ∧ 0 < n2)) ∧ Hid (Mm.SepF [] w wr [Mm.tblk w.heap.size 26 [.slice none 0 0, .int .i64 0], Mm.tblk (w.heap.size + 1) 26 [.slice none 0 0, .int .i64 0], Mm.tow sk a [.slice Aa na ka, .int .i64 a.Total] fpa, Mm.tblk ga 26 [.slice Aa na ka, .int .i64 a.Total], Mm.tcur 92 A n c (w.heap.size + 2) (0 + 200 + 200), Mm.tow sk b' [.slice A2 n2 c2, .int .i64 b'.Total] fp2, Mm.tblk gb 26 [.slice A2 n2 c2, .int .i64 b'.Total]]))
  case atStart => exact ⟨b, Ab, nb, kb, fpb, fun h => by omega, HS⟩
  case round =>
    obtain ⟨b', A2, n2, c2, fp2, hstop, HS⟩ := hrel
    have q0 := HS.out.cell (k := 0) 3 rfl rfl
    have q1 := HS.out.cell (k := 1) 3 rfl rfl
    have p0 := HS.out.cell (k := 0) 6 rfl rfl
    have p1 := HS.out.cell (k := 1) 6 rfl rfl
    by_cases hgo : n2 < na ∧ 0 < n2
    · obtain ⟨hg1, hg2⟩ := hgo
      have hgg : gk ≠ 0 := fun h => hstop h ⟨hg1, hg2⟩
      have e1 : (n2 : Int) < (na : Nat) := by omega
      have e2 : (0 : Int) < (n2 : Nat) := by omega
      have z0 := HS.out.frz (k := 0) 6 rfl
      have z1 := HS.out.frz (k := 1) 6 rfl
      clear hstop
      go_wp2_with (go_at_call 54; refine (specNewSketch_c _ _).mono ?_; rintro e w4 ⟨cs4, fp4, rfl, ho, hnd, hnw, hb⟩; obtain ⟨A4, n4, c4, f4, rfl, rfl, ho4, -⟩ := sk_own ho; (have HS := Lib.hid (HS.out.addEnd hb (t := Mm.tow sk _ _ _) ho hnd hnw)); (have HN4 : Hid (n4 = (Pl.newSketch (na : Int)).1.Rows.length) := by obtain ⟨_, _, _, hv, h1, _⟩ := ho4.form; injection hv with _ h2 _; show _ = _; omega); (have z0 := HS.out.frz (k := 0) 6 rfl); (have z1 := HS.out.frz (k := 1) 6 rfl); (have p0 := HS.out.cell (k := 0) 6 rfl rfl); (have p1 := HS.out.cell (k := 1) 6 rfl rfl); clear ho ho4 hnd hnw hb)
      have HF := Lib.hid (((HS.out.setBlk (k := 0) 6 rfl (.slice A4 n4 c4)).setBlk (k := 1) 6 rfl (.int .i64 (Pl.newSketch (na : Int)).1.Total)).sel [0, 1, 2, 3, 4, 7, 6] (by decide) rfl)
      go_roundg 0
      case measure => omega
      case rel => exact ⟨_, A4, n4, c4, _, fun _ => newSketch_rows HN4.out, HF⟩
    · have hgo' : ¬ ((n2 : Int) < (na : Nat) ∧ (0 : Int) < (n2 : Nat)) := by omega
      have r0 := HS.out.cell (k := 0) 0 rfl rfl
      have r1 := HS.out.cell (k := 1) 0 rfl rfl
      have y0 := HS.out.frz (k := 0) 0 rfl
      have y1 := HS.out.frz (k := 1) 0 rfl
      have s0 := HS.out.cell (k := 0) 1 rfl rfl
      have s1 := HS.out.cell (k := 1) 1 rfl rfl
      have x0 := HS.out.frz (k := 0) 1 rfl
      have x1 := HS.out.frz (k := 1) 1 rfl
      have m1 : gb ≠ w.heap.size := fun e => HS.out.apart (i := 6) (j := 0) rfl rfl (by decide) gb (by simp [Mm.tblk]) (by simp [Mm.tblk, e])
      have m2 : gb ≠ w.heap.size + 1 := fun e => HS.out.apart (i := 6) (j := 1) rfl rfl (by decide) gb (by simp [Mm.tblk]) (by simp [Mm.tblk, e])
      have m3 : ga ≠ w.heap.size := fun e => HS.out.apart (i := 3) (j := 0) rfl rfl (by decide) ga (by simp [Mm.tblk]) (by simp [Mm.tblk, e])
      have m4 : ga ≠ w.heap.size + 1 := fun e => HS.out.apart (i := 3) (j := 1) rfl rfl (by decide) ga (by simp [Mm.tblk]) (by simp [Mm.tblk, e])
      have HF := Lib.hid (((((HS.out.setBlk (k := 0) 0 rfl (.slice Aa na ka)).setBlk (k := 1) 0 rfl (.int .i64 a.Total)).setBlk (k := 0) 1 rfl (.slice A2 n2 c2)).setBlk (k := 1) 1 rfl (.int .i64 b'.Total)).step (Below.refl _ _).drew)
      have h0 := HF.out.cell (k := 0) 0 rfl rfl
      have h1 := HF.out.cell (k := 1) 0 rfl rfl
      have h2 := HF.out.cell (k := 0) 1 rfl rfl
      have h3 := HF.out.cell (k := 1) 1 rfl rfl
      by_cases hlt : n2 < na
      · have e1 : (n2 : Int) < (na : Nat) := by omega
        have e2 : ¬ (0 : Int) < (n2 : Nat) := by omega
        go_wp2
        go_region
        all_goals go_wp2
        all_goals exact bodyPost_ret (v := .tuple #[.agg #[.slice Aa na ka, .int .i64 a.Total], .agg #[.slice A2 n2 c2, .int .i64 b'.Total]]) (by simp [results, Try.results36, go_sem, h0, h1, h2, h3]) rfl ⟨a, b', _, _, _, _, _, _, rfl, HF.out.rd 2 rfl, HF.out.rd 5 rfl, HF.out.bel0⟩
      · have e1 : ¬ (n2 : Int) < (na : Nat) := by omega
        go_wp2
        go_region
        all_goals go_wp2
        all_goals exact bodyPost_ret (v := .tuple #[.agg #[.slice Aa na ka, .int .i64 a.Total], .agg #[.slice A2 n2 c2, .int .i64 b'.Total]]) (by simp [results, Try.results36, go_sem, h0, h1, h2, h3]) rfl ⟨a, b', _, _, _, _, _, _, rfl, HF.out.rd 2 rfl, HF.out.rd 5 rfl, HF.out.bel0⟩
end Go.Proofs.Ytjmcbggdckfefaa
