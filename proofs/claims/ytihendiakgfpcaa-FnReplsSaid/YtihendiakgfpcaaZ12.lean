/-
  Joined texts, in build order: H0, G8, H1, N6, H2. Each part says what it proves; no conditions beyond those that a part names.
-/
import Derived.Test.YtihendiakgfpcaaZ02
import Derived.Test.YtihendiakgfpcaaZ08
import Derived.Test.YtihendiakgfpcaaZ10
import Derived.Test.YtihendiakgfpcaaZ11
/-
  Contracts: what is certain, in step, new replications: both sides, for whatever state (chapter 9). No conditions.
-/
namespace Go.Proofs.Ytihendiakgfpcaa
open Go.RowKit
attribute [local go_sem] und_cell cha_cell World.cell?_alloc_some
theorem implCertainBad_c (r : Repl) (cs : List Value) (w : World) (B : Nat) (hh : rRepl.at_ w B r cs) (hB : B ≤ w.heap.size) (hw : Pl.replOk r = false) :
    Calls Try.prog 12 #[.agg cs.toArray] w fun e w' => e = .returned (.tuple #[.int .i64 0, .bool false]) ∧ Below w.heap.size w w' := by
  obtain ⟨A0, n0, c0, A1, n1, c1, A2, n2, c2, A3, n3, c3, rfl, -⟩ := rRepl_at hh
  have HS := Lib.hid ((Mm.SepF.start w).alloc' rfl 31 [.slice A0 n0 c0, .slice A1 n1 c1, .int .i64 r.Leader, .int .i64 r.Epoch, .slice A2 n2 c2, .slice A3 n3 c3])
  have HR := Lib.hid (rRepl.keep hh (w' := w.alloc (.cells #[.slice A0 n0 c0, .slice A1 n1 c1, .int .i64 r.Leader, .int .i64 r.Epoch, .slice A2 n2 c2, .slice A3 n3 c3] 31)) fun b hb => HS.out.bel0.block b (by omega))
  have hB2 := Nat.le_trans hB HS.out.chg.size
  have CI := isRepl_c r _ _ B HR.out hB2
  rw [hw] at CI
  clear hh hw
  go_enter Try.func12, Try.ntmps12
  go_wp2_with (go_at_call 50; (with_reducible refine CI.mono ?_); rintro e w1 ⟨rfl, hb1⟩)
  go_ret2
  exact ⟨rfl, below_step HS.out.bel0 hb1⟩
theorem specCertain_c (r : Repl) (cs : List Value) (w : World) (B : Nat) (hh : rRepl.at_ w B r cs) (hB : B ≤ w.heap.size) (hw : Pl.RW r) :
    Calls Try.prog 30 #[.agg cs.toArray] w fun e w' => e = .returned (.tuple #[.int .i64 (Pl.certain r : Nat), .bool true]) ∧ Below w.heap.size w w' := by
  obtain ⟨A0, n0, c0, A1, n1, c1, A2, n2, c2, A3, n3, c3, rfl, -⟩ := rRepl_at hh
  obtain ⟨g, hg⟩ : ∃ g, w.heap.size = g := ⟨_, rfl⟩
  have HS := Lib.hid ((Mm.SepF.start w).alloc' hg 31 [.slice A0 n0 c0, .slice A1 n1 c1, .int .i64 r.Leader, .int .i64 r.Epoch, .slice A2 n2 c2, .slice A3 n3 c3])
  have HR := Lib.hid (rRepl.keep hh (w' := w.alloc (.cells #[.slice A0 n0 c0, .slice A1 n1 c1, .int .i64 r.Leader, .int .i64 r.Epoch, .slice A2 n2 c2, .slice A3 n3 c3] 31)) fun b hb => HS.out.bel0.block b (by omega))
  have hB2 := Nat.le_trans hB HS.out.chg.size
  have CI := specGoodRepl_c r _ _ B HR.out hB2
  rw [Pl.replOk_iff.2 hw] at CI
  have HWS := Lib.hid hw.rs
  clear hh hw
  go_enter Try.func30, Try.ntmps30
  go_wp2_with first
    | (go_at_call 68; (with_reducible refine CI.mono ?_); rintro e w1 ⟨rfl, hb1⟩; (have HS1 := Lib.hid (HS.out.step hb1)); (have CC := l9Certain_c r _ w1 B (rRepl.keep HR.out (w' := w1) fun b hb => hb1.block b (by omega)) (Nat.le_trans hB2 hb1.size) HWS.out); (have d0 := HS1.out.cell (k := 0) 0 rfl rfl); (have d1 := HS1.out.cell (k := 1) 0 rfl rfl); (have d2 := HS1.out.cell (k := 2) 0 rfl rfl); (have d3 := HS1.out.cell (k := 3) 0 rfl rfl); (have d4 := HS1.out.cell (k := 4) 0 rfl rfl); (have d5 := HS1.out.cell (k := 5) 0 rfl rfl))
    | (go_at_call 69; (with_reducible refine CC.mono ?_); rintro e w2 ⟨rfl, hb2⟩)
  go_ret2
  exact ⟨rfl, by first | exact below_step HS1.out.bel0 hb2 | (rw [← hg]; exact below_step HS1.out.bel0 hb2)⟩
theorem specCertainBad_c (r : Repl) (cs : List Value) (w : World) (B : Nat) (hh : rRepl.at_ w B r cs) (hB : B ≤ w.heap.size) (hw : Pl.replOk r = false) :
    Calls Try.prog 30 #[.agg cs.toArray] w fun e w' => e = .returned (.tuple #[.int .i64 0, .bool false]) ∧ Below w.heap.size w w' := by
  obtain ⟨A0, n0, c0, A1, n1, c1, A2, n2, c2, A3, n3, c3, rfl, -⟩ := rRepl_at hh
  have HS := Lib.hid ((Mm.SepF.start w).alloc' rfl 31 [.slice A0 n0 c0, .slice A1 n1 c1, .int .i64 r.Leader, .int .i64 r.Epoch, .slice A2 n2 c2, .slice A3 n3 c3])
  have HR := Lib.hid (rRepl.keep hh (w' := w.alloc (.cells #[.slice A0 n0 c0, .slice A1 n1 c1, .int .i64 r.Leader, .int .i64 r.Epoch, .slice A2 n2 c2, .slice A3 n3 c3] 31)) fun b hb => HS.out.bel0.block b (by omega))
  have hB2 := Nat.le_trans hB HS.out.chg.size
  have CI := specGoodRepl_c r _ _ B HR.out hB2
  rw [hw] at CI
  clear hh hw
  go_enter Try.func30, Try.ntmps30
  go_wp2_with (go_at_call 68; (with_reducible refine CI.mono ?_); rintro e w1 ⟨rfl, hb1⟩)
  go_ret2
  exact ⟨rfl, below_step HS.out.bel0 hb1⟩
def Pl.inStepR (r : Repl) (k : Int) : Bool × Bool := if Pl.replOk r = true ∧ 0 ≤ k ∧ k < r.Logs.length then (Pl.sameLog r k, true) else (false, false)
set_option maxRecDepth 100000 in
theorem implInStep_c (r : Repl) (k : Int) (cs : List Value) (w : World) (B : Nat) (hh : rRepl.at_ w B r cs) (hB : B ≤ w.heap.size) :
    Calls Try.prog 31 #[.agg cs.toArray, .int .i64 k] w fun e w' => e = .returned (.tuple #[.bool (Pl.inStepR r k).1, .bool (Pl.inStepR r k).2]) ∧ Below w.heap.size w w' := by
  obtain ⟨A0, n0, c0, A1, n1, c1, A2, n2, c2, A3, n3, c3, rfl, r0, -⟩ := rRepl_at hh
  obtain ⟨g, hg⟩ : ∃ g, w.heap.size = g := ⟨_, rfl⟩
  have HS := Lib.hid ((Mm.SepF.start w).alloc' hg 31 [.slice A0 n0 c0, .slice A1 n1 c1, .int .i64 r.Leader, .int .i64 r.Epoch, .slice A2 n2 c2, .slice A3 n3 c3])
  have HR := Lib.hid (rRepl.keep hh (w' := w.alloc (.cells #[.slice A0 n0 c0, .slice A1 n1 c1, .int .i64 r.Leader, .int .i64 r.Epoch, .slice A2 n2 c2, .slice A3 n3 c3] 31)) fun b hb => HS.out.bel0.block b (by omega))
  have hB2 := Nat.le_trans hB HS.out.chg.size
  have hn0 : n0 ≤ 9223372036854775807 := by have := r0.2.1; have := r0.2.2.1; unfold maxLen at this; omega
  have HL : Hid (r.Logs.length = n0) := r0.1
  have CI := isRepl_c r _ _ B HR.out hB2
  clear hh r0
  have fw : IntKind.i64.wrap ((n0 : Int) - 1) = (n0 : Int) - 1 := IntWalk.i64_in _ (by omega)
  cases hok : Pl.replOk r with
  | false =>
    have HF : Hid (Pl.inStepR r k = (false, false)) := if_neg (by rw [hok]; simp)
    rw [hok] at CI
    clear hok
    go_enter Try.func31, Try.ntmps31
    go_wp2_with (go_at_call 50; (with_reducible refine CI.mono ?_); rintro e w1 ⟨rfl, hb1⟩)
    go_ret2
    exact ⟨by rw [HF.out]; rfl, below_step HS.out.bel0 hb1⟩
  | true =>
  have HOK := Lib.hid hok
  rw [hok] at CI
  clear hok
  by_cases hin : Pl.isIn k 0 ((n0 : Int) - 1) = true
  · have HIN := Lib.hid hin
    have hkk := Pl.isIn_iff.1 hin
    have hk1 : k < r.Logs.length := by rw [HL.out]; omega
    have HF : Hid (Pl.inStepR r k = (Pl.sameLog r k, true)) := if_pos ⟨HOK.out, hkk.1, hk1⟩
    have HK := Lib.hid (And.intro hkk.1 hk1)
    clear hin hkk hk1
    go_enter Try.func31, Try.ntmps31
    go_wp2_with first
      | (go_at_call 50; (with_reducible refine CI.mono ?_); rintro e w1 ⟨rfl, hb1⟩; (have HS1 := Lib.hid (HS.out.step hb1)); (have CC := inStep_c r k g _ w1 B (HS1.out.at_ 0 rfl) (rRepl.keep HR.out (w' := w1) fun b hb => hb1.block b (by omega)) (Nat.le_trans hB2 hb1.size) (Pl.replOk_iff.1 HOK.out).rs HK.out.1 HK.out.2); (have d0 := HS1.out.cell (k := 0) 0 rfl rfl); (have d1 := HS1.out.cell (k := 1) 0 rfl rfl); (have d2 := HS1.out.cell (k := 2) 0 rfl rfl); (have d3 := HS1.out.cell (k := 3) 0 rfl rfl); (have d4 := HS1.out.cell (k := 4) 0 rfl rfl); (have d5 := HS1.out.cell (k := 5) 0 rfl rfl))
      | (go_at_call 43; (with_reducible refine (within_is9 HIN.out _).mono ?_); rintro e w' ⟨rfl, rfl⟩)
      | (go_at_call 70; (with_reducible refine CC.mono ?_); rintro e w2 ⟨rfl, hb2⟩)
    go_ret2
    exact ⟨by rw [HF.out]; rfl, by first | exact below_step HS1.out.bel0 hb2 | (rw [← hg]; exact below_step HS1.out.bel0 hb2)⟩
  · have HIN : Hid (Pl.isIn k 0 ((n0 : Int) - 1) = false) := Lib.hid (by simpa using hin)
    have HF : Hid (Pl.inStepR r k = (false, false)) := if_neg (fun h => hin (Pl.isIn_iff.2 ⟨h.2.1, by have := h.2.2; rw [HL.out] at this; omega⟩))
    clear hin
    go_enter Try.func31, Try.ntmps31
    go_wp2_with first
      | (go_at_call 50; (with_reducible refine CI.mono ?_); rintro e w1 ⟨rfl, hb1⟩; (have HS1 := Lib.hid (HS.out.step hb1)); (have d0 := HS1.out.cell (k := 0) 0 rfl rfl); (have d1 := HS1.out.cell (k := 1) 0 rfl rfl); (have d2 := HS1.out.cell (k := 2) 0 rfl rfl); (have d3 := HS1.out.cell (k := 3) 0 rfl rfl); (have d4 := HS1.out.cell (k := 4) 0 rfl rfl); (have d5 := HS1.out.cell (k := 5) 0 rfl rfl))
      | (go_at_call 43; (with_reducible refine (within_is9 HIN.out _).mono ?_); rintro e w' ⟨rfl, rfl⟩)
    go_ret2
    exact ⟨by rw [HF.out]; rfl, HS1.out.bel0⟩
set_option maxRecDepth 100000 in
theorem specInStep_c (r : Repl) (k : Int) (cs : List Value) (w : World) (B : Nat) (hh : rRepl.at_ w B r cs) (hB : B ≤ w.heap.size) :
    Calls Try.prog 36 #[.agg cs.toArray, .int .i64 k] w fun e w' => e = .returned (.tuple #[.bool (Pl.inStepR r k).1, .bool (Pl.inStepR r k).2]) ∧ Below w.heap.size w w' := by
  obtain ⟨A0, n0, c0, A1, n1, c1, A2, n2, c2, A3, n3, c3, rfl, r0, -⟩ := rRepl_at hh
  obtain ⟨g, hg⟩ : ∃ g, w.heap.size = g := ⟨_, rfl⟩
  have HS := Lib.hid ((Mm.SepF.start w).alloc' hg 31 [.slice A0 n0 c0, .slice A1 n1 c1, .int .i64 r.Leader, .int .i64 r.Epoch, .slice A2 n2 c2, .slice A3 n3 c3])
  have HR := Lib.hid (rRepl.keep hh (w' := w.alloc (.cells #[.slice A0 n0 c0, .slice A1 n1 c1, .int .i64 r.Leader, .int .i64 r.Epoch, .slice A2 n2 c2, .slice A3 n3 c3] 31)) fun b hb => HS.out.bel0.block b (by omega))
  have hB2 := Nat.le_trans hB HS.out.chg.size
  have hn0 : n0 ≤ 9223372036854775807 := by have := r0.2.1; have := r0.2.2.1; unfold maxLen at this; omega
  have HL : Hid (r.Logs.length = n0) := r0.1
  have CI := specGoodRepl_c r _ _ B HR.out hB2
  clear hh r0
  cases hok : Pl.replOk r with
  | false =>
    have HF : Hid (Pl.inStepR r k = (false, false)) := if_neg (by rw [hok]; simp)
    rw [hok] at CI
    clear hok
    go_enter Try.func36, Try.ntmps36
    go_wp2_with (go_at_call 68; (with_reducible refine CI.mono ?_); rintro e w1 ⟨rfl, hb1⟩)
    go_ret2
    exact ⟨by rw [HF.out]; rfl, below_step HS.out.bel0 hb1⟩
  | true =>
  have HOK := Lib.hid hok
  rw [hok] at CI
  clear hok
  by_cases k0 : 0 ≤ k
  rotate_left
  · have HF : Hid (Pl.inStepR r k = (false, false)) := if_neg (fun h => k0 h.2.1)
    have f1 : decide (k < 0) = true := by simp; omega
    go_enter Try.func36, Try.ntmps36
    go_wp2_with (go_at_call 68; (with_reducible refine CI.mono ?_); rintro e w1 ⟨rfl, hb1⟩; (have HS1 := Lib.hid (HS.out.step hb1)); (have d0 := HS1.out.cell (k := 0) 0 rfl rfl); (have d1 := HS1.out.cell (k := 1) 0 rfl rfl); (have d2 := HS1.out.cell (k := 2) 0 rfl rfl); (have d3 := HS1.out.cell (k := 3) 0 rfl rfl); (have d4 := HS1.out.cell (k := 4) 0 rfl rfl); (have d5 := HS1.out.cell (k := 5) 0 rfl rfl))
    go_ret2
    exact ⟨by rw [HF.out]; rfl, HS1.out.bel0⟩
  have f1 : decide (k < 0) = false := by simp; omega
  by_cases k1 : k < n0
  · have hk1 : k < r.Logs.length := by rw [HL.out]; omega
    have f2 : decide ((n0 : Int) ≤ k) = false := by simp; omega
    have HF : Hid (Pl.inStepR r k = (Pl.sameLog r k, true)) := if_pos ⟨HOK.out, k0, hk1⟩
    have HK := Lib.hid (And.intro k0 hk1)
    clear hk1
    go_enter Try.func36, Try.ntmps36
    go_wp2_with first
      | (go_at_call 68; (with_reducible refine CI.mono ?_); rintro e w1 ⟨rfl, hb1⟩; (have HS1 := Lib.hid (HS.out.step hb1)); (have CC := l9Same_c r k _ w1 B (rRepl.keep HR.out (w' := w1) fun b hb => hb1.block b (by omega)) (Nat.le_trans hB2 hb1.size) (Pl.replOk_iff.1 HOK.out).rs HK.out.1 HK.out.2); (have d0 := HS1.out.cell (k := 0) 0 rfl rfl); (have d1 := HS1.out.cell (k := 1) 0 rfl rfl); (have d2 := HS1.out.cell (k := 2) 0 rfl rfl); (have d3 := HS1.out.cell (k := 3) 0 rfl rfl); (have d4 := HS1.out.cell (k := 4) 0 rfl rfl); (have d5 := HS1.out.cell (k := 5) 0 rfl rfl))
      | (go_at_call 72; (with_reducible refine CC.mono ?_); rintro e w2 ⟨rfl, hb2⟩)
    go_ret2
    exact ⟨by rw [HF.out]; rfl, by first | exact below_step HS1.out.bel0 hb2 | (rw [← hg]; exact below_step HS1.out.bel0 hb2)⟩
  · have f2 : decide ((n0 : Int) ≤ k) = true := by simp; omega
    have HF : Hid (Pl.inStepR r k = (false, false)) := if_neg (fun h => k1 (by have := h.2.2; rw [HL.out] at this; omega))
    go_enter Try.func36, Try.ntmps36
    go_wp2_with (go_at_call 68; (with_reducible refine CI.mono ?_); rintro e w1 ⟨rfl, hb1⟩; (have HS1 := Lib.hid (HS.out.step hb1)); (have d0 := HS1.out.cell (k := 0) 0 rfl rfl); (have d1 := HS1.out.cell (k := 1) 0 rfl rfl); (have d2 := HS1.out.cell (k := 2) 0 rfl rfl); (have d3 := HS1.out.cell (k := 3) 0 rfl rfl); (have d4 := HS1.out.cell (k := 4) 0 rfl rfl); (have d5 := HS1.out.cell (k := 5) 0 rfl rfl))
    go_ret2
    exact ⟨by rw [HF.out]; rfl, HS1.out.bel0⟩
set_option maxRecDepth 100000 in
theorem implNewRepl_c (m : Int) (w : World) : Calls Try.prog 33 #[.int .i64 m] w (Mm.Ret2 rRepl w (Pl.newRepl m).1 (Pl.newRepl m).2) := by
  by_cases hin : Pl.isIn m 1 5 = true
  · have HF : Hid (Pl.newRepl m = (Pl.newRe m.toNat, true)) := if_pos hin
    have HIN := Lib.hid hin
    have hin' := Pl.isIn_iff.1 hin
    clear hin
    obtain ⟨n, rfl⟩ : ∃ n : Nat, m = n := ⟨m.toNat, by omega⟩
    rw [show ((n : Nat) : Int).toNat = n by omega] at HF
    obtain ⟨gr, hgr⟩ : ∃ gr, w.heap.size = gr := ⟨_, rfl⟩
    obtain ⟨W0, hW0⟩ : ∃ W0, w.alloc (.cells #[.slice none 0 0, .slice none 0 0, .int .i64 0, .int .i64 0, .slice none 0 0, .slice none 0 0] 31) = W0 := ⟨_, rfl⟩
    have HS := Lib.hid (((Mm.SepF.start w).alloc' hgr 31 zRepl).atW hW0)
    have CN := newRepl_c n W0 (by omega) (by omega)
    clear hin'
    go_enter Try.func33, Try.ntmps33
    go_upto_region 1 with fail
    clear hW0
    go_wp2_with first
      | (go_at_call 43; (with_reducible refine (within_is9 HIN.out _).mono ?_); rintro e w' ⟨rfl, rfl⟩)
      | (go_at_call 44; (with_reducible refine CN.mono ?_); clear CN; rintro e w1 ⟨cs, fp, rfl, ho, hnd, hnew, hb1⟩; obtain ⟨a0, p0, k0, a1, p1, k1, a2, p2, k2, a3, p3, k3, rfl⟩ := own_formR ho; (have HS1 := Lib.hid (HS.out.add hb1 (t := Mm.tow rRepl (Pl.newRe n) _ _) ho hnd hnew)); clear ho hnd hnew hb1; (have r0 := HS1.out.cell (k := 0) 1 rfl rfl); (have r1 := HS1.out.cell (k := 1) 1 rfl rfl); (have r2 := HS1.out.cell (k := 2) 1 rfl rfl); (have r3 := HS1.out.cell (k := 3) 1 rfl rfl); (have r4 := HS1.out.cell (k := 4) 1 rfl rfl); (have r5 := HS1.out.cell (k := 5) 1 rfl rfl); (have z0 := HS1.out.frz (k := 0) 1 rfl); (have z1 := HS1.out.frz (k := 1) 1 rfl); (have z2 := HS1.out.frz (k := 2) 1 rfl); (have z3 := HS1.out.frz (k := 3) 1 rfl); (have z4 := HS1.out.frz (k := 4) 1 rfl); (have z5 := HS1.out.frz (k := 5) 1 rfl))
    have HS8 := Lib.hid ((((((HS1.out.setBlk (k := 0) 1 rfl (.slice a0 p0 k0)).setBlk (k := 1) 1 rfl (.slice a1 p1 k1)).setBlk (k := 2) 1 rfl (.int .i64 (Pl.newRe n).Leader)).setBlk (k := 3) 1 rfl (.int .i64 (Pl.newRe n).Epoch)).setBlk (k := 4) 1 rfl (.slice a2 p2 k2)).setBlk (k := 5) 1 rfl (.slice a3 p3 k3))
    have s0 := HS8.out.cell (k := 0) 1 rfl rfl
    have s1 := HS8.out.cell (k := 1) 1 rfl rfl
    have s2 := HS8.out.cell (k := 2) 1 rfl rfl
    have s3 := HS8.out.cell (k := 3) 1 rfl rfl
    have s4 := HS8.out.cell (k := 4) 1 rfl rfl
    have s5 := HS8.out.cell (k := 5) 1 rfl rfl
    rw [HF.out]
    exact bodyPost_ret (v := .tuple #[.agg #[.slice a0 p0 k0, .slice a1 p1 k1, .int .i64 (Pl.newRe n).Leader, .int .i64 (Pl.newRe n).Epoch, .slice a2 p2 k2, .slice a3 p3 k3], .bool true]) (by simp [results, Try.results33, go_sem, s0, s1, s2, s3, s4, s5]) rfl (repl_ret2 (HS8.out.sel [0] (by decide) rfl))
  · have HF : Hid (Pl.newRepl m = (Pl.zRe, false)) := if_neg hin
    have HIN : Hid (Pl.isIn m 1 5 = false) := Lib.hid (by simpa using hin)
    clear hin
    go_enter Try.func33, Try.ntmps33
    go_wp2_with (go_at_call 43; (with_reducible refine (within_is9 HIN.out _).mono ?_); rintro e w' ⟨rfl, rfl⟩)
    rw [HF.out]
    exact bodyPost_ret (v := .tuple #[.agg zRepl.toArray, .bool false]) (by simp [results, Try.results33, go_sem, zRepl]) rfl ⟨zRepl, [], rfl, zRe_own, List.nodup_nil, (fun b hb => by cases hb), below_new (Below.refl _ _) _⟩
end Go.Proofs.Ytihendiakgfpcaa

/-
  Contracts: drawn replications (chapter 9). No conditions.
-/
namespace Go.Proofs.Ytihendiakgfpcaa
open Go.RowKit
attribute [local go_sem] und_cell cha_cell World.cell?_alloc_some
theorem Pl.playRepl_ok {m : Int} {l : List ReplStep} {r : Repl} {bs : List Bool} (h : Pl.playRepl m l = (r, bs, true)) : Pl.RW r := by
  unfold Pl.playRepl at h
  split at h
  · rename_i hh
    injection h with h1 h2
    have hb := Pl.isIn_iff.1 hh.1
    have hi := (Pl.playR_inv _ (Pl.newRe_inv (n := m.toNat) (by omega) (by omega)) _ l rfl).1
    rw [h1] at hi
    exact hi.rw
  · injection h with _ h
    injection h with _ h
    cases h
set_option maxRecDepth 100000 in
set_option maxHeartbeats 4000000 in
theorem repl_c (code : List Int) (A : Option Addr) (n c g K : Nat) (w : World) (B : Nat) (hc : Mm.SlAt Mm.u8 w B code A n c) (hBg : B ≤ g) (h : (Mm.tcur 75 A n c g K).holds w) (hK : K < 4611686018427370000) :
    Calls Try.prog 66 #[.pointer (some ⟨g, 0, none⟩)] w fun e w' => ∃ (r : Repl) (cs : List Value) (fp : List Nat), e = .returned (.agg cs.toArray) ∧ 1 ≤ r.Logs.length ∧ r.Logs.length ≤ 5 ∧ Mm.SepF [g] w w' [Mm.tow rRepl r cs fp, Mm.tcur 75 A n c g (K + 3000)] := by
  have hgw : g < w.heap.size := (Mm.tcur 75 A n c g K).lt h g (by simp [Mm.tcur])
  have HC := Lib.hid hc
  obtain ⟨gr, hgr⟩ : ∃ gr, w.heap.size = gr := ⟨_, rfl⟩
  obtain ⟨W0, hW0⟩ : ∃ W0, w.alloc (.cells #[.slice none 0 0, .slice none 0 0, .int .i64 0, .int .i64 0, .slice none 0 0, .slice none 0 0] 31) = W0 := ⟨_, rfl⟩
  have H0 : Mm.SepF [g] w w [Mm.tcur 75 A n c g K] := Mm.SepF.one (Mm.tcur 75 A n c g K) w h (by simp [Mm.tcur])
  have HS := Lib.hid ((H0.alloc' hgr 31 zRepl).atW hW0)
  clear hc h H0
  go_enter Try.func66, Try.ntmps66
  go_upto_region 1 with fail
  clear hW0
  go_upto_region 2 with ((go_at_call 41); (refine (pick_c code A n c g _ _ _ B (HC.out.keep fun b hb => HS.out.chg.block b (by omega) (by simp; omega)) hBg (HS.out.at_ 1 rfl) (by omega) (by omega)).mono ?_); (rintro e w1 ⟨b1, rfl, b10, b1x, b11, hL⟩); ((have HS := Lib.hid (HS.out.call 1 rfl hL))); (clear hL))
  have b12 := b11 (by omega)
  clear b11
  obtain ⟨mm, hmm⟩ : ∃ mm : Int, 1 + b1 = mm := ⟨_, rfl⟩
  go_upto_region 3 with first
    | (go_at_call 42; refine (replSteps_c code A n c g _ _ _ B (HC.out.keep fun b hb => HS.out.chg.block b (by omega) (by simp; omega)) hBg (HS.out.at_ 1 rfl) (by omega) (by omega)).mono ?_; rintro e w2 ⟨l, A1, n1, c1, fps, rfl, hl, hS⟩; (have HS2 := Lib.hid (HS.out.callAll 1 rfl hS)); clear hS)
    | (go_at_call 9; refine (specPlayRepl_c _ l A1 n1 c1 w2 _ ((HS2.out.sl 2 rfl).weak (HS2.out.sl 2 rfl).olt) (Nat.le_refl _)).mono ?_; rintro e w3 ⟨cs, A2, n2, c2, fp0, fp1, rfl, hs3⟩; obtain ⟨a0, p0, k0, a1, p1, k1, a2, p2, k2, a3, p3, k3, rfl⟩ := own_formR (hs3.at_ 0 rfl); (have HS3 := Lib.hid (HS2.out.join hs3)); clear hs3)
  obtain ⟨x, bs, ok, hr⟩ : ∃ x bs ok, Pl.playRepl mm l = (x, bs, ok) := ⟨_, _, _, rfl⟩
  have HRR := Lib.hid hr
  rw [hr] at HS3 ⊢
  clear hr
  dsimp only at HS3 ⊢
  obtain ⟨g4, hg4⟩ : ∃ g4, w3.heap.size = g4 := ⟨_, rfl⟩
  obtain ⟨W4, hW4⟩ : ∃ W4, w3.alloc (.cells #[.slice a0 p0 k0, .slice a1 p1 k1, .int .i64 x.Leader, .int .i64 x.Epoch, .slice a2 p2 k2, .slice a3 p3 k3] 31) = W4 := ⟨_, rfl⟩
  have HS4 := Lib.hid ((HS3.out.alloc' hg4 31 [.slice a0 p0 k0, .slice a1 p1 k1, .int .i64 x.Leader, .int .i64 x.Epoch, .slice a2 p2 k2, .slice a3 p3 k3]).atW hW4)
  rw [hW4, hg4]
  clear hW4 hg4
  have HS5 := Lib.hid ((HS4.out.toPtr).sel [0, 2, 5] (by decide) rfl)
  have HS6 := Lib.hid (HS4.out.sel [0, 3, 6] (by decide) rfl)
  clear HS4 HS3 HS2 HS
  go_upto_if 20 with fail
  go_cut [] (fun wx => ∃ (y : Repl) (fp : List Nat), Hid (Pl.RW y ∧ Mm.SepF [g] w wx [Mm.tptr rRepl 31 g4 y fp, Mm.tblk gr 31 zRepl, Mm.tcur 75 A n c g (K + 2001)]))
  case first =>
    cases ok with
    | true =>
      have HG := Lib.hid (Pl.playRepl_ok HRR.out)
      go_wp2_with fail
      go_meet
      exact ⟨x, _, Lib.hid ⟨HG.out, HS5.out⟩⟩
    | false =>
      have CN := specNewRepl_c 2 W4
      rw [show Pl.newRepl 2 = (Pl.newRe 2, true) from rfl] at CN
      go_wp2_with (go_at_call 34; (with_reducible refine CN.mono ?_); clear CN; rintro e w5 ⟨cs, fp5, rfl, ho, hnd, hnew, hb5⟩; obtain ⟨e0, q0, j0, e1, q1, j1, e2, q2, j2, e3, q3, j3, rfl⟩ := own_formR ho; (have HS7 := Lib.hid (HS6.out.add hb5 (t := Mm.tow rRepl (Pl.newRe 2) _ _) ho hnd hnew)); clear ho hnd hnew hb5; (have r0 := HS7.out.cell (k := 0) 1 rfl rfl); (have r1 := HS7.out.cell (k := 1) 1 rfl rfl); (have r2 := HS7.out.cell (k := 2) 1 rfl rfl); (have r3 := HS7.out.cell (k := 3) 1 rfl rfl); (have r4 := HS7.out.cell (k := 4) 1 rfl rfl); (have r5 := HS7.out.cell (k := 5) 1 rfl rfl); (have z0 := HS7.out.frz (k := 0) 1 rfl); (have z1 := HS7.out.frz (k := 1) 1 rfl); (have z2 := HS7.out.frz (k := 2) 1 rfl); (have z3 := HS7.out.frz (k := 3) 1 rfl); (have z4 := HS7.out.frz (k := 4) 1 rfl); (have z5 := HS7.out.frz (k := 5) 1 rfl))
      go_meet
      have HS8 := Lib.hid ((((((HS7.out.setBlk (k := 0) 1 rfl (.slice e0 q0 j0)).setBlk (k := 1) 1 rfl (.slice e1 q1 j1)).setBlk (k := 2) 1 rfl (.int .i64 (Pl.newRe 2).Leader)).setBlk (k := 3) 1 rfl (.int .i64 (Pl.newRe 2).Epoch)).setBlk (k := 4) 1 rfl (.slice e2 q2 j2)).setBlk (k := 5) 1 rfl (.slice e3 q3 j3))
      have HS9 := Lib.hid ((HS8.out.sel [1, 0, 2, 3] (by decide) rfl).toPtr)
      exact ⟨Pl.newRe 2, _, Lib.hid ⟨(Pl.newRe_inv (n := 2) (by omega) (by omega)).rw, HS9.out⟩⟩
  case rest =>
  clear HS5 HS6 HRR
  obtain ⟨y, fp, HY⟩ := hcut
  obtain ⟨W5, rfl⟩ : ∃ W5 : World, W5 = w1 := ⟨_, rfl⟩
  have HS := Lib.hid HY.out.2
  have HGY := Lib.hid HY.out.1
  clear HY
  go_upto_block 0 with ((go_at_call 41); (refine (pick_c code A n c g _ _ _ B (HC.out.keep fun b hb => HS.out.chg.block b (by omega) (by simp; omega)) hBg (HS.out.at_ 2 rfl) (by omega) (by omega)).mono ?_); (rintro e w1 ⟨b2, rfl, b20, b2x, b21, hL⟩); ((have HS := Lib.hid (HS.out.call 2 rfl hL))); (clear hL))
  obtain ⟨A0, n0, c0, A1', n1', c1', A2', n2', c2', A3, n3, c3, f0, f1, f2, f3, rfl, i2, i3, hs⟩ := open_Repl HS.out
  have HSo := Lib.hid hs
  have HI := Lib.hid (And.intro i2 i3)
  have hy1 := HGY.out.n1
  have hy5 := HGY.out.n5
  clear hs i2 i3
  go_cut [] (fun wx => ∃ (t : Repl) (fp : List Nat), 1 ≤ t.Logs.length ∧ t.Logs.length ≤ 5 ∧ Hid (Mm.SepF [g] w wx [Mm.tptr rRepl 31 g4 t fp, Mm.tblk gr 31 zRepl, Mm.tcur 75 A n c g (K + 2010)]))
  case first =>
    by_cases h0 : b2 = 0
    · subst h0
      go_wp2_with fail
      refine (pick_c code A n c g _ _ _ B (HC.out.keep fun b hb => HSo.out.chg.block b (by omega) (by simp; omega)) hBg (HSo.out.at_ 6 rfl) (by omega) (by omega)).mono ?_
      rintro e w7 ⟨b3, rfl, b30, b3x, b31, hL⟩
      have HS2 := Lib.hid (HSo.out.call 6 rfl hL)
      clear hL
      have hw3 : IntKind.i64.wrap (b3 - 1) = b3 - 1 := IntWalk.i64_in _ (by omega)
      have z2 := HS2.out.frz (k := 2) 0 rfl
      have c2'' := HS2.out.cell (k := 2) 0 rfl rfl
      go_wp2_with fail
      go_meet
      have HS7 := Lib.hid (HS2.out.setBlk (k := 2) 0 rfl (.int .i64 (b3 - 1)))
      have HS8 := Lib.hid (shut_Repl (x := { y with Leader := b3 - 1 }) HS7.out (by unfold Mm.I64; show _ ≤ b3 - 1 ∧ b3 - 1 ≤ _; omega) HI.out.2)
      exact ⟨{ y with Leader := b3 - 1 }, _, hy1, hy5, Lib.hid (HS8.out.more 2 rfl (by omega))⟩
    have g0 : (b2 == 0) = false := by simpa using h0
    by_cases h1 : b2 = 1
    · subst h1
      have hlc := HGY.out.rz.cert
      have hl3 : y.Certain.length = n3 := by obtain ⟨A', n', c', hv, q1, _⟩ := (HSo.out.sl 4 rfl).form; injection hv with _ q2 _; omega
      have b5 := HSo.out.cell (k := 5) 0 rfl rfl
      obtain ⟨i0, hi, hz0, hz1, hz2⟩ := info_parts Try.infoEntry
      have HXI : Hid (Mm.I64 1 ∧ (⟨#[120]⟩ : ByteArray).size ≤ maxLen) := Lib.hid ⟨by unfold Mm.I64; omega, by decide⟩
      go_wp2_with (at_builtin; refine Mm.app_list (x := (⟨1, ⟨#[120]⟩⟩ : Entry)) HSo.out 4 rfl rfl (.tmp 36) (.tmp 38) 29 rfl i0 _ 24 Try.underlying29 hi hz0 hz1 hz2 rfl (by decide) rfl rfl (fun W => rEntry_own_mk (x := ⟨1, ⟨#[120]⟩⟩) HXI.out) hl3 (by unfold maxLen; omega) (by omega) ?_; intro gg cap w8 fp8 hs8; (have HS2 := Lib.hid hs8); clear hs8 b5; (have b5 := HS2.out.cell (k := 5) 0 rfl rfl); (have z5 := HS2.out.frz (k := 5) 0 rfl))
      go_meet
      have HS7 := Lib.hid (HS2.out.setBlk (k := 5) 0 rfl (.slice (some ⟨gg, 0, none⟩) (n3 + 1) cap))
      have HS8 := Lib.hid (shut_Repl (x := { y with Certain := y.Certain ++ [⟨1, ⟨#[120]⟩⟩] }) HS7.out HI.out.1 HI.out.2)
      exact ⟨{ y with Certain := y.Certain ++ [⟨1, ⟨#[120]⟩⟩] }, _, hy1, hy5, Lib.hid (HS8.out.more 2 rfl (by omega))⟩
    have g1 : (b2 == 1) = false := by simpa using h1
    by_cases h2 : b2 = 2
    · subst h2
      have HA := Lib.hid (HSo.out.alloc' rfl 3 [.int .i64 0, .int .i64 1000, .int .i64 1001])
      go_wp2_with fail
      refine (among_c code A n c g _ [0, 1000, 1001] _ 3 _ B (HC.out.keep fun b hb => HA.out.chg.block b (by omega) (by simp; omega)) hBg (HA.out.at_ 7 rfl) (by omega) (HA.out.at_ 0 rfl) (by have := HSo.out.chg.size; omega) rfl (by omega) (by omega)).mono ?_
      rintro e w7 ⟨v, rfl, hv, hL⟩
      have HS2 := Lib.hid ((HA.out.call 7 rfl hL).tail)
      clear hL HA
      have hvi : Mm.I64 v := by simp only [List.mem_cons, List.not_mem_nil, or_false] at hv; unfold Mm.I64; omega
      have HVI := Lib.hid hvi
      clear hvi hv
      have z3 := HS2.out.frz (k := 3) 0 rfl
      have c3' := HS2.out.cell (k := 3) 0 rfl rfl
      go_wp2_with fail
      go_meet
      have HS7 := Lib.hid (HS2.out.setBlk (k := 3) 0 rfl (.int .i64 v))
      have HS8 := Lib.hid (shut_Repl (x := { y with Epoch := v }) HS7.out HI.out.1 HVI.out)
      exact ⟨{ y with Epoch := v }, _, hy1, hy5, Lib.hid (HS8.out.more 2 rfl (by omega))⟩
    have g2 : (b2 == 2) = false := by simpa using h2
    clear h0 h1 h2
    go_wp2_with fail
    go_meet
    exact ⟨y, _, hy1, hy5, Lib.hid (HS.out.more 2 rfl (by omega))⟩
  case rest =>
  clear HSo HS
  obtain ⟨t, fp, hq1, hq2, HSC⟩ := hcut
  obtain ⟨B0, m0, u0, B1, m1, u1, B2, m2, u2, B3, m3, u3, f0, f1, f2, f3, rfl, j2, j3, hsp⟩ := open_Repl HSC.out
  have HSP := Lib.hid hsp
  have HJ := Lib.hid (And.intro j2 j3)
  clear hsp HSC j2 j3
  have d0 := HSP.out.cell (k := 0) 0 rfl rfl
  have d1 := HSP.out.cell (k := 1) 0 rfl rfl
  have d2 := HSP.out.cell (k := 2) 0 rfl rfl
  have d3 := HSP.out.cell (k := 3) 0 rfl rfl
  have d4 := HSP.out.cell (k := 4) 0 rfl rfl
  have d5 := HSP.out.cell (k := 5) 0 rfl rfl
  have r0 := HSP.out.cell (k := 0) 5 rfl rfl
  have r1 := HSP.out.cell (k := 1) 5 rfl rfl
  have r2 := HSP.out.cell (k := 2) 5 rfl rfl
  have r3 := HSP.out.cell (k := 3) 5 rfl rfl
  have r4 := HSP.out.cell (k := 4) 5 rfl rfl
  have r5 := HSP.out.cell (k := 5) 5 rfl rfl
  have z0 := HSP.out.frz (k := 0) 5 rfl
  have z1 := HSP.out.frz (k := 1) 5 rfl
  have z2 := HSP.out.frz (k := 2) 5 rfl
  have z3 := HSP.out.frz (k := 3) 5 rfl
  have z4 := HSP.out.frz (k := 4) 5 rfl
  have z5 := HSP.out.frz (k := 5) 5 rfl
  go_wp2_with fail
  have HS8 := Lib.hid ((((((HSP.out.setBlk (k := 0) 5 rfl (.slice B0 m0 u0)).setBlk (k := 1) 5 rfl (.slice B1 m1 u1)).setBlk (k := 2) 5 rfl (.int .i64 t.Leader)).setBlk (k := 3) 5 rfl (.int .i64 t.Epoch)).setBlk (k := 4) 5 rfl (.slice B2 m2 u2)).setBlk (k := 5) 5 rfl (.slice B3 m3 u3))
  have s0 := HS8.out.cell (k := 0) 5 rfl rfl
  have s1 := HS8.out.cell (k := 1) 5 rfl rfl
  have s2 := HS8.out.cell (k := 2) 5 rfl rfl
  have s3 := HS8.out.cell (k := 3) 5 rfl rfl
  have s4 := HS8.out.cell (k := 4) 5 rfl rfl
  have s5 := HS8.out.cell (k := 5) 5 rfl rfl
  exact bodyPost_ret (v := .agg #[.slice B0 m0 u0, .slice B1 m1 u1, .int .i64 t.Leader, .int .i64 t.Epoch, .slice B2 m2 u2, .slice B3 m3 u3]) (by simp [results, Try.results66, go_sem, s0, s1, s2, s3, s4, s5]) rfl ⟨t, _, _, rfl, hq1, hq2, (shutv_Repl (x := t) (HS8.out.sel [1, 2, 3, 4, 6] (by decide) rfl) HJ.out.1 HJ.out.2).more 1 rfl (by omega)⟩
end Go.Proofs.Ytihendiakgfpcaa

/-
  Contracts: drawn replications, with a step, with a node, a number of nodes (chapter 9). No conditions.
-/
namespace Go.Proofs.Ytihendiakgfpcaa
open Go.RowKit
attribute [local go_sem] und_cell cha_cell World.cell?_alloc_some
theorem Mm.SepF.curR {F : List Nat} {w0 wr : World} {ts : List Mm.Thing} {T : TypeId} {A : Option Addr} {n c g : Nat} (h : Mm.SepF F w0 wr (Mm.tblk g T [.slice A n c, .int .i64 0, .int .u64 0] :: ts)) : Mm.SepF F w0 wr (Mm.tcur T A n c g 0 :: ts) :=
  h.conv (by simp [Mm.tcur, Mm.tblk]) (List.forall_mem_cons.2 ⟨⟨0, 0, h.at_ 0 rfl, by omega, by omega⟩, fun u hu => h.hold u (List.mem_cons_of_mem _ hu)⟩)
set_option maxRecDepth 100000 in
theorem DrawNewRepl_c (code : List Int) (A : Option Addr) (n c : Nat) (w : World) (B : Nat) (hc : Mm.SlAt Mm.u8 w B code A n c) (hB : B ≤ w.heap.size) :
    Calls Try.prog 32 #[.slice A n c] w fun e w' => ∃ k : Int, e = .returned (.int .i64 k) ∧ Mm.I64 k ∧ Below w.heap.size w w' := by
  have HC := Lib.hid hc
  clear hc
  obtain ⟨g, hg⟩ : ∃ g, w.heap.size = g := ⟨_, rfl⟩
  obtain ⟨W1, hW1⟩ : ∃ W1, w.alloc (.cells #[.slice A n c, .int .i64 0, .int .u64 0] 75) = W1 := ⟨_, rfl⟩
  have HS := Lib.hid ((((Mm.SepF.start w).alloc' hg 75 [.slice A n c, .int .i64 0, .int .u64 0]).atW hW1).curR)
  have hBg : B ≤ g := by omega
  go_enter Try.func32, Try.ntmps32
  go_upto_region 2 with fail
  clear hW1
  go_wp2_with (go_at_call 41; refine (pick_c code A n c g _ _ _ B (HC.out.keep fun b hb => HS.out.chg.block b (Nat.lt_of_lt_of_le hb hB) (by simp)) hBg (HS.out.at_ 0 rfl) (by omega) (by omega)).mono ?_; rintro e w2 ⟨b1, rfl, b10, b1x, b11, hL⟩; (have HS4 := Lib.hid (HS.out.call 0 rfl hL)); clear hL)
  have hw1 : IntKind.i64.wrap (b1 - 1) = b1 - 1 := IntWalk.i64_in _ (by omega)
  go_ret
  exact ⟨b1 - 1, by simp [hw1], by unfold Mm.I64; omega, HS4.out.bel0⟩
set_option maxRecDepth 100000 in
set_option maxHeartbeats 2000000 in
theorem DrawInStep_c (code : List Int) (A : Option Addr) (n c : Nat) (w : World) (B : Nat) (hc : Mm.SlAt Mm.u8 w B code A n c) (hB : B ≤ w.heap.size) :
    Calls Try.prog 35 #[.slice A n c] w fun e w' => ∃ (t : Repl) (cs : List Value) (fp : List Nat) (k : Int), e = .returned (.tuple #[.agg cs.toArray, .int .i64 k]) ∧ Mm.I64 k ∧ Mm.SepF [] w w' [Mm.tow rRepl t cs fp] := by
  have HC := Lib.hid hc
  clear hc
  obtain ⟨gr, hgr⟩ : ∃ gr, w.heap.size = gr := ⟨_, rfl⟩
  obtain ⟨W0, hW0⟩ : ∃ W0, w.alloc (.cells #[.slice none 0 0, .slice none 0 0, .int .i64 0, .int .i64 0, .slice none 0 0, .slice none 0 0] 31) = W0 := ⟨_, rfl⟩
  have HS0 := Lib.hid (((Mm.SepF.start w).alloc' hgr 31 zRepl).atW hW0)
  obtain ⟨g, hg⟩ : ∃ g, W0.heap.size = g := ⟨_, rfl⟩
  obtain ⟨W1, hW1⟩ : ∃ W1, W0.alloc (.cells #[.slice A n c, .int .i64 0, .int .u64 0] 75) = W1 := ⟨_, rfl⟩
  have HS := Lib.hid (((HS0.out.alloc' hg 75 [.slice A n c, .int .i64 0, .int .u64 0]).atW hW1).curR)
  have hBg : B ≤ g := by have := HS0.out.chg.size; omega
  go_enter Try.func35, Try.ntmps35
  go_upto_region 1 with fail
  clear hW0
  go_upto_region 2 with fail
  clear hW1
  go_upto_region 3 with ((go_at_call 66); (refine (repl_c code A n c g 0 _ B (HC.out.keep fun b hb => HS.out.chg.block b (Nat.lt_of_lt_of_le hb hB) (by simp)) hBg (HS.out.at_ 0 rfl) (by omega)).mono ?_); (rintro e w1 ⟨t, cs, fp, rfl, ht1, ht5, hS⟩); ((have HS3 := Lib.hid (HS.out.callAll 0 rfl hS))); (clear hS); (obtain ⟨a0, p0, k0, a1, p1, k1, a2, p2, k2, a3, p3, k3, rfl⟩ := own_formR (HS3.out.at_ 2 rfl)))
  obtain ⟨gt, hgt⟩ : ∃ gt, w1.heap.size = gt := ⟨_, rfl⟩
  obtain ⟨W3, hW3⟩ : ∃ W3, w1.alloc (.cells #[.slice a0 p0 k0, .slice a1 p1 k1, .int .i64 t.Leader, .int .i64 t.Epoch, .slice a2 p2 k2, .slice a3 p3 k3] 31) = W3 := ⟨_, rfl⟩
  have HS4 := Lib.hid ((HS3.out.alloc' hgt 31 [.slice a0 p0 k0, .slice a1 p1 k1, .int .i64 t.Leader, .int .i64 t.Epoch, .slice a2 p2 k2, .slice a3 p3 k3]).atW hW3)
  rw [hW3, hgt]
  clear hW3
  have hp0 : p0 ≤ 5 := by
    obtain ⟨A0, m0, c0, A1, m1, c1, A2, m2, c2, A3, m3, c3, hcs, r0, -⟩ := rRepl_at (rRepl.weak (HS4.out.at_ 3 rfl) (rRepl.olt (HS4.out.at_ 3 rfl)))
    simp only [List.cons.injEq, Value.slice.injEq] at hcs
    have := r0.1; omega
  have hw0 : IntKind.i64.wrap ((p0 : Int) + 2) = (p0 : Int) + 2 := IntWalk.i64_in _ (by omega)
  have ne5 : gt ≠ gr := fun e => HS4.out.apart (i := 0) (j := 2) rfl rfl (by decide) gt (by simp [Mm.tblk]) (by simp [Mm.tblk, e])
  have HSD := Lib.hid (HS4.out.step (Below.refl _ _).drew)
  have d0 := HSD.out.cell (k := 0) 0 rfl rfl
  have d1 := HSD.out.cell (k := 1) 0 rfl rfl
  have d2 := HSD.out.cell (k := 2) 0 rfl rfl
  have d3 := HSD.out.cell (k := 3) 0 rfl rfl
  have d4 := HSD.out.cell (k := 4) 0 rfl rfl
  have d5 := HSD.out.cell (k := 5) 0 rfl rfl
  clear HS4 HS3 HS HS0
  go_region_law (first
    | (go_simp; go_at_call 41; refine (pick_c code A n c g _ _ _ B (HC.out.keep fun b hb => HSD.out.chg.block b (Nat.lt_of_lt_of_le hb hB) (by simp)) hBg (HSD.out.at_ 4 rfl) (by omega) (by omega)).mono ?_; rintro e w2 ⟨b1, rfl, b10, b1x, b11, hL⟩; (have HS5 := Lib.hid (HSD.out.call 4 rfl hL)); clear hL; clear d0 d1 d2 d3 d4 d5; (have d0 := HS5.out.cell (k := 0) 0 rfl rfl); (have d1 := HS5.out.cell (k := 1) 0 rfl rfl); (have d2 := HS5.out.cell (k := 2) 0 rfl rfl); (have d3 := HS5.out.cell (k := 3) 0 rfl rfl); (have d4 := HS5.out.cell (k := 4) 0 rfl rfl); (have d5 := HS5.out.cell (k := 5) 0 rfl rfl); (have r0 := HS5.out.cell (k := 0) 2 rfl rfl); (have r1 := HS5.out.cell (k := 1) 2 rfl rfl); (have r2 := HS5.out.cell (k := 2) 2 rfl rfl); (have r3 := HS5.out.cell (k := 3) 2 rfl rfl); (have r4 := HS5.out.cell (k := 4) 2 rfl rfl); (have r5 := HS5.out.cell (k := 5) 2 rfl rfl); (have z0 := HS5.out.frz (k := 0) 2 rfl); (have z1 := HS5.out.frz (k := 1) 2 rfl); (have z2 := HS5.out.frz (k := 2) 2 rfl); (have z3 := HS5.out.frz (k := 3) 2 rfl); (have z4 := HS5.out.frz (k := 4) 2 rfl); (have z5 := HS5.out.frz (k := 5) 2 rfl)))
  all_goals
    have hw1 : IntKind.i64.wrap (b1 - 1) = b1 - 1 := IntWalk.i64_in _ (by omega)
    go_wp2
    have HS8 := Lib.hid ((((((HS5.out.setBlk (k := 0) 2 rfl (.slice a0 p0 k0)).setBlk (k := 1) 2 rfl (.slice a1 p1 k1)).setBlk (k := 2) 2 rfl (.int .i64 t.Leader)).setBlk (k := 3) 2 rfl (.int .i64 t.Epoch)).setBlk (k := 4) 2 rfl (.slice a2 p2 k2)).setBlk (k := 5) 2 rfl (.slice a3 p3 k3))
    (have s0 := HS8.out.cell (k := 0) 2 rfl rfl); (have s1 := HS8.out.cell (k := 1) 2 rfl rfl); (have s2 := HS8.out.cell (k := 2) 2 rfl rfl); (have s3 := HS8.out.cell (k := 3) 2 rfl rfl); (have s4 := HS8.out.cell (k := 4) 2 rfl rfl); (have s5 := HS8.out.cell (k := 5) 2 rfl rfl)
    exact bodyPost_ret (v := .tuple #[.agg #[.slice a0 p0 k0, .slice a1 p1 k1, .int .i64 t.Leader, .int .i64 t.Epoch, .slice a2 p2 k2, .slice a3 p3 k3], .int .i64 (b1 - 1)]) (by simp [results, Try.results35, go_sem, s0, s1, s2, s3, s4, s5, hw1]) rfl ⟨t, _, _, b1 - 1, rfl, by unfold Mm.I64; omega, HS8.out.sel [3] (by decide) rfl⟩
set_option maxRecDepth 100000 in
set_option maxHeartbeats 4000000 in
theorem DrawStepRepl_c (code : List Int) (A : Option Addr) (n c : Nat) (w : World) (B : Nat) (hc : Mm.SlAt Mm.u8 w B code A n c) (hB : B ≤ w.heap.size) :
    Calls Try.prog 27 #[.slice A n c] w fun e w' => ∃ (t : Repl) (cs : List Value) (fp : List Nat) (s : ReplStep), e = .returned (.tuple #[.agg cs.toArray, .agg #[.int .i64 s.Kind, .int .i64 s.Node, .string s.Text]]) ∧ (Mm.I64 s.Kind ∧ Mm.I64 s.Node ∧ s.Text.size ≤ maxLen) ∧ Mm.SepF [] w w' [Mm.tow rRepl t cs fp] := by
  have HC := Lib.hid hc
  clear hc
  obtain ⟨gr, hgr⟩ : ∃ gr, w.heap.size = gr := ⟨_, rfl⟩
  obtain ⟨W0, hW0⟩ : ∃ W0, w.alloc (.cells #[.slice none 0 0, .slice none 0 0, .int .i64 0, .int .i64 0, .slice none 0 0, .slice none 0 0] 31) = W0 := ⟨_, rfl⟩
  have HS0 := Lib.hid (((Mm.SepF.start w).alloc' hgr 31 zRepl).atW hW0)
  obtain ⟨gs, hgs⟩ : ∃ gs, W0.heap.size = gs := ⟨_, rfl⟩
  obtain ⟨W1, hW1⟩ : ∃ W1, W0.alloc (.cells #[.int .i64 0, .int .i64 0, .string ⟨#[]⟩] 53) = W1 := ⟨_, rfl⟩
  have HS1 := Lib.hid ((HS0.out.alloc' hgs 53 [.int .i64 0, .int .i64 0, .string ⟨#[]⟩]).atW hW1)
  have hne : gs ≠ gr := by
    have := (Mm.tblk gr 31 zRepl).lt (HS0.out.at_ 0 rfl) gr (by simp [Mm.tblk])
    omega
  have hne2 : gr ≠ gs := Ne.symm hne
  obtain ⟨g, hg⟩ : ∃ g, W1.heap.size = g := ⟨_, rfl⟩
  obtain ⟨W2, hW2⟩ : ∃ W2, W1.alloc (.cells #[.slice A n c, .int .i64 0, .int .u64 0] 75) = W2 := ⟨_, rfl⟩
  have HS := Lib.hid (((HS1.out.alloc' hg 75 [.slice A n c, .int .i64 0, .int .u64 0]).atW hW2).curR)
  have hBg : B ≤ g := by have := HS1.out.chg.size; omega
  go_enter Try.func27, Try.ntmps27
  go_upto_region 1 with fail
  clear hW0 hW1
  go_upto_region 2 with fail
  clear hW2
  go_upto_region 3 with ((go_at_call 66); (refine (repl_c code A n c g 0 _ B (HC.out.keep fun b hb => HS.out.chg.block b (Nat.lt_of_lt_of_le hb hB) (by simp)) hBg (HS.out.at_ 0 rfl) (by omega)).mono ?_); (rintro e w1 ⟨t, cs, fp, rfl, ht1, ht5, hS⟩); ((have HS3 := Lib.hid (HS.out.callAll 0 rfl hS))); (clear hS); (obtain ⟨a0, p0, k0, a1, p1, k1, a2, p2, k2, a3, p3, k3, rfl⟩ := own_formR (HS3.out.at_ 3 rfl)))
  obtain ⟨gt, hgt⟩ : ∃ gt, w1.heap.size = gt := ⟨_, rfl⟩
  obtain ⟨W3, hW3⟩ : ∃ W3, w1.alloc (.cells #[.slice a0 p0 k0, .slice a1 p1 k1, .int .i64 t.Leader, .int .i64 t.Epoch, .slice a2 p2 k2, .slice a3 p3 k3] 31) = W3 := ⟨_, rfl⟩
  have HS4 := Lib.hid ((HS3.out.alloc' hgt 31 [.slice a0 p0 k0, .slice a1 p1 k1, .int .i64 t.Leader, .int .i64 t.Epoch, .slice a2 p2 k2, .slice a3 p3 k3]).atW hW3)
  rw [hW3, hgt]
  clear hW3
  have hp0 : 1 ≤ p0 ∧ p0 ≤ 5 := by
    obtain ⟨A0, m0, c0, A1, m1, c1, A2, m2, c2, A3, m3, c3, hcs, r0, -⟩ := rRepl_at (rRepl.weak (HS4.out.at_ 4 rfl) (rRepl.olt (HS4.out.at_ 4 rfl)))
    simp only [List.cons.injEq, Value.slice.injEq] at hcs
    have := r0.1; omega
  have q0 := HS4.out.cell (k := 0) 0 rfl rfl
  go_upto_if 19 with (go_at_call 42; refine (replSteps_c code A n c g _ _ _ B (HC.out.keep fun b hb => HS4.out.chg.block b (Nat.lt_of_lt_of_le hb hB) (by simp)) hBg (HS4.out.at_ 5 rfl) (by omega) (by omega)).mono ?_; rintro e w4 ⟨l, A1, n1, c1, fl, rfl, hl, hS⟩; (have HS5 := Lib.hid (HS4.out.callAll 5 rfl hS)); clear hS q0)
  have hn1 : n1 = l.length := by obtain ⟨A', n', c', hv, q1, _⟩ := (HS5.out.sl 6 rfl).form; injection hv with _ q2 _; omega
  have d0 := HS5.out.cell (k := 0) 0 rfl rfl
  have d1 := HS5.out.cell (k := 1) 0 rfl rfl
  have d2 := HS5.out.cell (k := 2) 0 rfl rfl
  have d3 := HS5.out.cell (k := 3) 0 rfl rfl
  have d4 := HS5.out.cell (k := 4) 0 rfl rfl
  have d5 := HS5.out.cell (k := 5) 0 rfl rfl
  have r0 := HS5.out.cell (k := 0) 3 rfl rfl
  have r1 := HS5.out.cell (k := 1) 3 rfl rfl
  have r2 := HS5.out.cell (k := 2) 3 rfl rfl
  have r3 := HS5.out.cell (k := 3) 3 rfl rfl
  have r4 := HS5.out.cell (k := 4) 3 rfl rfl
  have r5 := HS5.out.cell (k := 5) 3 rfl rfl
  have z0 := HS5.out.frz (k := 0) 3 rfl
  have z1 := HS5.out.frz (k := 1) 3 rfl
  have z2 := HS5.out.frz (k := 2) 3 rfl
  have z3 := HS5.out.frz (k := 3) 3 rfl
  have z4 := HS5.out.frz (k := 4) 3 rfl
  have z5 := HS5.out.frz (k := 5) 3 rfl
  have y0 := HS5.out.frz (k := 0) 2 rfl
  have y1 := HS5.out.frz (k := 1) 2 rfl
  have y2 := HS5.out.frz (k := 2) 2 rfl
  have x0 := HS5.out.cell (k := 0) 2 rfl rfl
  have x1 := HS5.out.cell (k := 1) 2 rfl rfl
  have x2 := HS5.out.cell (k := 2) 2 rfl rfl
  by_cases h0 : n1 = 0
  · clear hn1
    subst h0
    go_wp2
    have HS8 := Lib.hid (((((((((HS5.out.setBlk (k := 0) 3 rfl (.slice a0 p0 k0)).setBlk (k := 1) 3 rfl (.slice a1 p1 k1)).setBlk (k := 2) 3 rfl (.int .i64 t.Leader)).setBlk (k := 3) 3 rfl (.int .i64 t.Epoch)).setBlk (k := 4) 3 rfl (.slice a2 p2 k2)).setBlk (k := 5) 3 rfl (.slice a3 p3 k3)).setBlk (k := 0) 2 rfl (.int .i64 1)).setBlk (k := 1) 2 rfl (.int .i64 0)).setBlk (k := 2) 2 rfl (.string ⟨#[97]⟩))
    (have s0 := HS8.out.cell (k := 0) 3 rfl rfl); (have s1 := HS8.out.cell (k := 1) 3 rfl rfl); (have s2 := HS8.out.cell (k := 2) 3 rfl rfl); (have s3 := HS8.out.cell (k := 3) 3 rfl rfl); (have s4 := HS8.out.cell (k := 4) 3 rfl rfl); (have s5 := HS8.out.cell (k := 5) 3 rfl rfl)
    have b0 := HS8.out.cell (k := 0) 2 rfl rfl
    have b1 := HS8.out.cell (k := 1) 2 rfl rfl
    have b2 := HS8.out.cell (k := 2) 2 rfl rfl
    exact bodyPost_ret (v := .tuple #[.agg #[.slice a0 p0 k0, .slice a1 p1 k1, .int .i64 t.Leader, .int .i64 t.Epoch, .slice a2 p2 k2, .slice a3 p3 k3], .agg #[Value.int .i64 1, Value.int .i64 0, Value.string (⟨#[97]⟩ : ByteArray)]]) (by simp [results, Try.results27, go_sem, s0, s1, s2, s3, s4, s5, b0, b1, b2]) rfl ⟨t, _, _, (⟨1, 0, (⟨#[97]⟩ : ByteArray)⟩ : ReplStep), rfl, ⟨by unfold Mm.I64; decide, by unfold Mm.I64; decide, by show (⟨#[97]⟩ : ByteArray).size ≤ maxLen; decide⟩, HS8.out.sel [4] (by decide) rfl⟩
  · obtain ⟨ge, hge, -, -⟩ := Mm.sl_addr (HS5.out.sl 6 rfl) (by omega)
    subst hge
    obtain ⟨s, hs⟩ : ∃ s, l[0]? = some s := ⟨_, List.getElem?_eq_getElem (by omega)⟩
    obtain ⟨e0, e1, e2⟩ := rReplStep_ocell (HS5.out.sl 6 rfl) (HS5.out.ndat (i := 6) rfl) hs
    simp only [Nat.zero_mul, Nat.zero_add] at e0 e1 e2
    have hst : Mm.I64 s.Kind ∧ Mm.I64 s.Node ∧ s.Text.size ≤ maxLen := by
      obtain ⟨x, b, off, hx, _, _, g0, g1, g2, _⟩ := rReplStep_get ((HS5.out.sl 6 rfl).weak (HS5.out.sl 6 rfl).olt) (show 0 < n1 by omega)
      rw [hs] at hx; injection hx with hx; subst hx
      exact ⟨g0, g1, g2⟩
    have HST := Lib.hid hst
    have f1 : (0 : Int) < (n1 : Nat) := by omega
    have f2 : ((n1 : Nat) : Int) ≠ 0 := by omega
    clear hst hs
    go_wp2
    have HSX := HS5
    clear hn1
    have ne3 : ge ≠ gr := fun e => HS5.out.apart (i := 6) (j := 3) rfl rfl (by decide) ge (HS5.out.sl 6 rfl).mem_block (by simp [Mm.tblk, e])
    have ne4 : ge ≠ gs := fun e => HS5.out.apart (i := 6) (j := 2) rfl rfl (by decide) ge (HS5.out.sl 6 rfl).mem_block (by simp [Mm.tblk, e])
    have ne5 : gt ≠ gr := fun e => HS5.out.apart (i := 0) (j := 3) rfl rfl (by decide) gt (by simp [Mm.tblk]) (by simp [Mm.tblk, e])
    have ne6 : gt ≠ gs := fun e => HS5.out.apart (i := 0) (j := 2) rfl rfl (by decide) gt (by simp [Mm.tblk]) (by simp [Mm.tblk, e])
    have HS8 := Lib.hid (((((((((HSX.out.setBlk (k := 0) 3 rfl (.slice a0 p0 k0)).setBlk (k := 1) 3 rfl (.slice a1 p1 k1)).setBlk (k := 2) 3 rfl (.int .i64 t.Leader)).setBlk (k := 3) 3 rfl (.int .i64 t.Epoch)).setBlk (k := 4) 3 rfl (.slice a2 p2 k2)).setBlk (k := 5) 3 rfl (.slice a3 p3 k3)).setBlk (k := 0) 2 rfl (.int .i64 s.Kind)).setBlk (k := 1) 2 rfl (.int .i64 s.Node)).setBlk (k := 2) 2 rfl (.string s.Text))
    go_region
    all_goals go_wp2
    · obtain ⟨WA, hWA⟩ : ∃ WA, (((((((((w4.setCell ⟨gr, 0, none⟩ (.slice a0 p0 k0)).setCell ⟨gr, 1, none⟩ (.slice a1 p1 k1)).setCell ⟨gr, 2, none⟩ (.int .i64 t.Leader)).setCell ⟨gr, 3, none⟩ (.int .i64 t.Epoch)).setCell ⟨gr, 4, none⟩ (.slice a2 p2 k2)).setCell ⟨gr, 5, none⟩ (.slice a3 p3 k3)).setCell ⟨gs, 0, none⟩ (.int .i64 s.Kind)).setCell ⟨gs, 1, none⟩ (.int .i64 s.Node)).setCell ⟨gs, 2, none⟩ (.string s.Text)).drew = WA := ⟨_, rfl⟩
      replace HS8 := Lib.hid ((HS8.out.step (Below.refl _ _).drew).atW hWA)
      rw [hWA]
      clear hWA
      (have s0 := HS8.out.cell (k := 0) 3 rfl rfl); (have s1 := HS8.out.cell (k := 1) 3 rfl rfl); (have s2 := HS8.out.cell (k := 2) 3 rfl rfl); (have s3 := HS8.out.cell (k := 3) 3 rfl rfl); (have s4 := HS8.out.cell (k := 4) 3 rfl rfl); (have s5 := HS8.out.cell (k := 5) 3 rfl rfl)
      have b0 := HS8.out.cell (k := 0) 2 rfl rfl
      have b1 := HS8.out.cell (k := 1) 2 rfl rfl
      have b2 := HS8.out.cell (k := 2) 2 rfl rfl
      exact bodyPost_ret (v := .tuple #[.agg #[.slice a0 p0 k0, .slice a1 p1 k1, .int .i64 t.Leader, .int .i64 t.Epoch, .slice a2 p2 k2, .slice a3 p3 k3], .agg #[Value.int .i64 s.Kind, Value.int .i64 s.Node, Value.string s.Text]]) (by simp [results, Try.results27, go_sem, s0, s1, s2, s3, s4, s5, b0, b1, b2]) rfl ⟨t, _, _, s, rfl, HST.out, HS8.out.sel [4] (by decide) rfl⟩
end Go.Proofs.Ytihendiakgfpcaa

/-
  Plain functions: a node that fetches again and again has the leader's log in the end (chapter 9). No program in sight. No conditions beyond those named.
-/
namespace Go.Proofs.Ytihendiakgfpcaa
namespace Pl
/-- behind i fetches of node k: the leader's log stays; the node's log is a beginning of it, i entries long or whole -/
structure FetchS (p : Repl) (k : Int) (i : Nat) (y : Repl) : Prop where
  inv : RInv y
  lead : y.Leader = p.Leader
  down : y.Down = p.Down
  len : y.Logs.length = p.Logs.length
  ll : logAt y p.Leader = logAt p p.Leader
  own : 0 < i → ∃ m, (i ≤ m ∨ (logAt p p.Leader).length ≤ m) ∧ logAt y k = (logAt p p.Leader).take m
theorem FetchS.zero {p : Repl} {k : Int} (h : RInv p) : FetchS p k 0 p := ⟨h, rfl, rfl, rfl, rfl, fun h => absurd h (Nat.lt_irrefl _)⟩
theorem FetchS.same {p y : Repl} {k : Int} (h : FetchS p k ((logAt p p.Leader).length + 1) y) : logAt y k = logAt y y.Leader := by
  obtain ⟨m, hm, he⟩ := h.own (by omega)
  rw [he, h.lead, h.ll, List.take_of_length_le (by omega)]
theorem FetchS.next {p y : Repl} {k : Int} {i : Nat} (h : FetchS p k i y) (k0 : 0 ≤ k) (k1 : k < p.Logs.length) (hne : k ≠ p.Leader) (hl : downAt p p.Leader = false) (hd : downAt p k = false) :
    (rstep y ⟨2, k, ⟨#[]⟩⟩).2 = true ∧ FetchS p k (i + 1) (rstep y ⟨2, k, ⟨#[]⟩⟩).1 := by
  have hdn : ∀ j, downAt y j = downAt p j := fun j => by unfold downAt; rw [h.down]
  have hdo : rdo y ⟨2, k, ⟨#[]⟩⟩ = (rfetch y k, true) := by
    unfold rdo
    dsimp only
    rw [if_neg (show ¬ (2 : Int) = 1 by omega), if_neg (by have := h.len; simp [ByteArray.size]; omega), if_pos rfl, if_pos ⟨by rw [h.lead]; exact hne, by rw [h.lead, hdn]; exact hl, by rw [hdn]; exact hd⟩]
  have hst : rstep y ⟨2, k, ⟨#[]⟩⟩ = (rcert (rfetch y k), true) := by unfold rstep; rw [hdo]; rfl
  have hinv := (h.inv.step ⟨2, k, ⟨#[]⟩⟩).1
  rw [hst] at hinv ⊢
  have hky : k < y.Logs.length := by have := h.len; omega
  have hla : ∀ j, logAt (rcert (rfetch y k)) j = if k.toNat = j.toNat then fetchL (logAt y k) (logAt y y.Leader) else logAt y j := fun j => logAt_set (r := rcert (rfetch y k)) (L := y.Logs) rfl (by omega)
  have l0 := h.inv.rw.lead.1
  refine ⟨rfl, hinv, h.lead, h.down, by show (y.Logs.set _ _).length = _; rw [List.length_set]; exact h.len, ?_, fun _ => ?_⟩
  · rw [hla, if_neg (by rw [h.lead] at l0; omega)]; exact h.ll
  · rw [hla, if_pos rfl, h.lead, h.ll]
    obtain ⟨H, hH, -⟩ := h.inv.hist
    have ha := h.inv.rw.at_ k0 hky
    have hb := h.inv.rw.at_ h.inv.rw.lead.1 h.inv.rw.lead.2
    have ra := (h.inv.rw.ok k0 hky).ris
    have rb := (h.inv.rw.ok h.inv.rw.lead.1 h.inv.rw.lead.2).ris
    have ft := fetchL_take (hH _ _ ha) (hH _ _ hb) ra rb
    rw [h.lead, h.ll] at ft rb
    refine ⟨_, ?_, ft⟩
    rcases Nat.eq_zero_or_pos i with h0 | h0
    · left; omega
    · obtain ⟨m, hm, he⟩ := h.own h0
      rw [ffind_prefix ra rb (by rw [he]; exact List.take_prefix _ _), he, List.length_take]
      omega
end Pl
end Go.Proofs.Ytihendiakgfpcaa

/-
  What the walk of the law on fetching keeps: a variable of its own that holds a replication (chapter 9). No conditions beyond those named.
-/
namespace Go.Proofs.Ytihendiakgfpcaa
open Go.RowKit
attribute [local go_sem] und_cell cha_cell World.cell?_alloc_some
theorem Mm.Facts.varR {w0 w W : World} {fs : List Mm.Fact} {g : Nat} (h : Mm.Facts w0 w fs) (hg : w.heap.size = g) (t : TypeId) (cs : List Value) (hW : w.alloc (.cells cs.toArray t) = W) : Mm.Facts w0 W (fs ++ [Mm.fbk g t cs]) := hW ▸ h.var hg t cs
def Pl.certR (r : Repl) : Int × Bool := if Pl.replOk r = true then (((Pl.certain r : Nat) : Int), true) else (0, false)
theorem implCertR_c (r : Repl) (cs : List Value) (w : World) (B : Nat) (hh : rRepl.at_ w B r cs) (hB : B ≤ w.heap.size) :
    Calls Try.prog 12 #[.agg cs.toArray] w fun e w' => e = .returned (.tuple #[.int .i64 (Pl.certR r).1, .bool (Pl.certR r).2]) ∧ Below w.heap.size w w' := by
  cases hok : Pl.replOk r with
  | false => rw [show Pl.certR r = (0, false) from if_neg (by rw [hok]; simp)]; exact implCertainBad_c r cs w B hh hB hok
  | true => rw [show Pl.certR r = (((Pl.certain r : Nat) : Int), true) from if_pos hok]; exact implCertainLength_c r cs w B hh hB (Pl.replOk_iff.1 hok)
theorem specCertR_c (r : Repl) (cs : List Value) (w : World) (B : Nat) (hh : rRepl.at_ w B r cs) (hB : B ≤ w.heap.size) :
    Calls Try.prog 30 #[.agg cs.toArray] w fun e w' => e = .returned (.tuple #[.int .i64 (Pl.certR r).1, .bool (Pl.certR r).2]) ∧ Below w.heap.size w w' := by
  cases hok : Pl.replOk r with
  | false => rw [show Pl.certR r = (0, false) from if_neg (by rw [hok]; simp)]; exact specCertainBad_c r cs w B hh hB hok
  | true => rw [show Pl.certR r = (((Pl.certain r : Nat) : Int), true) from if_pos hok]; exact specCertain_c r cs w B hh hB (Pl.replOk_iff.1 hok)
theorem Pl.certR_ok (r : Repl) : (Pl.certR r).2 = Pl.replOk r := by unfold Pl.certR; cases Pl.replOk r <;> rfl
theorem rRepl_rd4 {w : World} {B : Nat} {x : Repl} {a0 a1 a2 a3 : Option Addr} {n0 k0 n1 k1 n2 k2 n3 k3 : Nat} (h : rRepl.at_ w B x [.slice a0 n0 k0, .slice a1 n1 k1, .int .i64 x.Leader, .int .i64 x.Epoch, .slice a2 n2 k2, .slice a3 n3 k3]) : Mm.SlAt rEntryS w B x.Logs a0 n0 k0 ∧ Mm.SlAt Mm.bool w B x.Down a1 n1 k1 := by
  obtain ⟨A0, m0, c0, A1, m1, c1, A2, m2, c2, A3, m3, c3, hcs, r0, r1, i2, i3, r2, r3⟩ := rRepl_at h
  simp only [List.cons.injEq, Value.slice.injEq] at hcs
  obtain ⟨⟨rfl, rfl, rfl⟩, ⟨rfl, rfl, rfl⟩, -, -, ⟨rfl, rfl, rfl⟩, ⟨rfl, rfl, rfl⟩, -⟩ := hcs
  exact ⟨r0, r1⟩
theorem Pl.rstep_logs (r : Repl) (s : ReplStep) : (Pl.rstep r s).1.Logs.length = r.Logs.length := by
  have h : (Pl.rdo r s).1.Logs.length = r.Logs.length := by
    unfold Pl.rdo
    repeat' split
    all_goals simp [Pl.rfetch]
  unfold Pl.rstep
  split
  · exact h
  · rfl
theorem Pl.playR_logs (r : Repl) : ∀ n (l : List ReplStep), l.length = n → (Pl.playR r l).1.Logs.length = r.Logs.length
  | 0, l, hl => by
    rw [List.length_eq_zero_iff.1 hl]; rfl
  | n + 1, l, hl => by
    rcases List.eq_nil_or_concat l with rfl | ⟨l', s, rfl⟩
    · cases hl
    · have ih := Pl.playR_logs r n l' (by simpa using hl)
      rw [List.concat_eq_append, Pl.playR_snoc]
      show (Pl.rstep _ s).1.Logs.length = _
      rw [Pl.rstep_logs, ih]
theorem Pl.playRepl_tr {m : Int} {l : List ReplStep} {r : Repl} {bs : List Bool} (h : Pl.playRepl m l = (r, bs, true)) : Pl.RInv r ∧ (r.Logs.length : Int) = m := by
  unfold Pl.playRepl at h
  split at h
  · rename_i hh
    injection h with h1 h2
    have hb := Pl.isIn_iff.1 hh.1
    have hi := (Pl.playR_inv _ (Pl.newRe_inv (n := m.toNat) (by omega) (by omega)) _ l rfl).1
    have hl := Pl.playR_logs (Pl.newRe m.toNat) _ l rfl
    rw [h1] at hi hl
    refine ⟨hi, ?_⟩
    rw [hl]
    unfold Pl.newRe
    simp
    omega
  · injection h with _ h
    injection h with _ h
    cases h
theorem Pl.step_fetch {p y : Repl} {k : Int} {i : Nat} (h : Pl.FetchS p k i y) (k0 : 0 ≤ k) (k1 : k < p.Logs.length) (hne : k ≠ p.Leader) (hl : Pl.downAt p p.Leader = false) (hd : Pl.downAt p k = false) :
    ∃ z, Pl.stepRepl y ⟨2, k, ⟨#[]⟩⟩ = (z, true) ∧ Pl.FetchS p k (i + 1) z := by
  obtain ⟨h1, h2⟩ := h.next k0 k1 hne hl hd
  exact ⟨_, if_pos ⟨Pl.replOk_iff.2 h.inv.rw, h1⟩, h2⟩
/-- p lies untouched; y is held by the variable at block g21 -/
structure FetchW (w wr : World) (p y : Repl) (csP csY : List Value) (g17 g21 : Nat) (fpP fpY : List Nat) : Prop where
  bel : Below w.heap.size w wr
  po : rRepl.own wr p csP fpP
  pn : g21 ∉ fpP
  yo : rRepl.own wr y csY fpY
  yn : g21 ∉ fpY
  b17 : Mm.Blk wr g17 31 csP
  b21 : Mm.Blk wr g21 31 csY
  ne : g17 ≠ g21
  new21 : w.heap.size ≤ g21
section
variable {w wr W : World} {p y z : Repl} {csP csY csZ : List Value} {g17 g21 : Nat} {fpP fpY fpZ : List Nat}
theorem FetchW.step (h : FetchW w wr p y csP csY g17 g21 fpP fpY) (hb : Below wr.heap.size wr W) : FetchW w W p y csP csY g17 g21 fpP fpY :=
  ⟨below_step h.bel hb, rRepl.okeep h.po fun b hb' => hb.block b (rRepl.olt h.po b hb'), h.pn, rRepl.okeep h.yo fun b hb' => hb.block b (rRepl.olt h.yo b hb'), h.yn, h.b17.bel hb, h.b21.bel hb, h.ne, h.new21⟩
theorem FetchW.set6 (h : FetchW w wr p y csP csY g17 g21 fpP fpY) {u0 u1 u2 u3 u4 u5 v0 v1 v2 v3 v4 v5 : Value} (hy : csY = [v0, v1, v2, v3, v4, v5]) (hz : csZ = [u0, u1, u2, u3, u4, u5]) (zo : rRepl.own wr z csZ fpZ) (zn : g21 ∉ fpZ) :
    FetchW w ((((((wr.setCell ⟨g21, 0, none⟩ u0).setCell ⟨g21, 1, none⟩ u1).setCell ⟨g21, 2, none⟩ u2).setCell ⟨g21, 3, none⟩ u3).setCell ⟨g21, 4, none⟩ u4).setCell ⟨g21, 5, none⟩ u5) p z csP csZ g17 g21 fpP fpZ := by
  subst hy hz
  have hch : Mm.Chg [g21] wr ((((((wr.setCell ⟨g21, 0, none⟩ u0).setCell ⟨g21, 1, none⟩ u1).setCell ⟨g21, 2, none⟩ u2).setCell ⟨g21, 3, none⟩ u3).setCell ⟨g21, 4, none⟩ u4).setCell ⟨g21, 5, none⟩ u5) :=
    ((((((Mm.Chg.refl _ _).setCell (by simp) _).setCell (by simp) _).setCell (by simp) _).setCell (by simp) _).setCell (by simp) _).setCell (by simp) _
  have k : ∀ fp : List Nat, g21 ∉ fp → (∀ b, b ∈ fp → b < wr.heap.size) → ∀ b, b ∈ fp → _ := fun fp hn hl b hb => hch.block b (hl b hb) (by simp; intro e; subst e; exact hn hb)
  exact ⟨Mm.Below.chg h.bel hch h.bel.size (fun x hx => by rw [List.mem_singleton.1 hx]; exact h.new21), rRepl.okeep h.po (k _ h.pn (rRepl.olt h.po)), h.pn, rRepl.okeep zo (k _ zn (rRepl.olt zo)), zn,
    h.b17.keep (hch.block g17 h.b17.lt (by simp; exact h.ne)), (((((h.b21.set_ 0 u0).set_ 1 u1).set_ 2 u2).set_ 3 u3).set_ 4 u4).set_ 5 u5, h.ne, h.new21⟩
theorem FetchW.rdP (h : FetchW w wr p y csP csY g17 g21 fpP fpY) : rRepl.at_ wr wr.heap.size p csP := rRepl.weak h.po (rRepl.olt h.po)
theorem FetchW.rdY (h : FetchW w wr p y csP csY g17 g21 fpP fpY) : rRepl.at_ wr wr.heap.size y csY := rRepl.weak h.yo (rRepl.olt h.yo)
end
end Go.Proofs.Ytihendiakgfpcaa
