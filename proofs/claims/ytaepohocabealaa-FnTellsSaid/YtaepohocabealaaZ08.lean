/-
  Joined texts, in build order: Dx, Pv, Ev, LwN, Sm, Fa. Each part says what it proves; no conditions beyond those that a part names.
-/
import Derived.Test.YtaepohocabealaaZ01
import Derived.Test.YtaepohocabealaaZ02
import Derived.Test.YtaepohocabealaaZ03
import Derived.Test.YtaepohocabealaaZ04
import Derived.Test.YtaepohocabealaaZ05
import Derived.Test.YtaepohocabealaaZ06
import Derived.Test.YtaepohocabealaaZ07
/-
  Contracts: drawn tellers, with a step, with a number (chapter 10). No conditions.
-/
namespace Go.Proofs.Ytaepohocabealaa
open Go.RowKit
attribute [local go_sem] und_cell cha_cell World.cell?_alloc_some
theorem Mm.SepF.curs {F : List Nat} {w0 wr : World} {ts : List Mm.Thing} {T : TypeId} {A : Option Addr} {n c g : Nat} (h : Mm.SepF F w0 wr (Mm.tblk g T [.slice A n c, .int .i64 0, .int .u64 0] :: ts)) : Mm.SepF F w0 wr (Mm.tcur T A n c g 0 :: ts) :=
  h.conv (by simp [Mm.tcur, Mm.tblk]) (List.forall_mem_cons.2 ⟨⟨0, 0, h.at_ 0 rfl, by omega, by omega⟩, fun u hu => h.hold u (List.mem_cons_of_mem _ hu)⟩)
def DrawnTell (w : World) (e : Ending) (w' : World) : Prop := ∃ (t : Tell) (cs : List Value) (fp : List Nat), e = .returned (.agg cs.toArray) ∧ Mm.SepF [] w w' [Mm.tow rTell t cs fp]
set_option maxRecDepth 100000 in
set_option maxHeartbeats 2000000 in
theorem DrawGoodTell_c (code : List Int) (A : Option Addr) (n c : Nat) (w : World) (B : Nat) (hc : Mm.SlAt Mm.u8 w B code A n c) (hB : B ≤ w.heap.size) :
    Calls Try.prog 60 #[.slice A n c] w (DrawnTell w) := by
  have HC := Lib.hid hc
  clear hc
  obtain ⟨gr, hgr⟩ : ∃ gr, w.heap.size = gr := ⟨_, rfl⟩
  obtain ⟨W0, hW0⟩ : ∃ W0, w.alloc (.cells #[.slice none 0 0, .slice none 0 0, .slice none 0 0, .slice none 0 0, .slice none 0 0] 31) = W0 := ⟨_, rfl⟩
  have HS0 := Lib.hid (((Mm.SepF.start w).alloc' hgr 31 zTell).atW hW0)
  obtain ⟨g, hg⟩ : ∃ g, W0.heap.size = g := ⟨_, rfl⟩
  obtain ⟨W1, hW1⟩ : ∃ W1, W0.alloc (.cells #[.slice A n c, .int .i64 0, .int .u64 0] 85) = W1 := ⟨_, rfl⟩
  have HS := Lib.hid (((HS0.out.alloc' hg 85 [.slice A n c, .int .i64 0, .int .u64 0]).atW hW1).curs)
  have hBg : B ≤ g := by have := HS0.out.chg.size; omega
  go_enter Try.func60, Try.ntmps60
  go_upto_region 1 with fail
  clear hW0
  go_upto_region 2 with fail
  clear hW1
  go_wp2_with ((go_at_call 55); (refine (tell_c code A n c g 0 _ B (HC.out.keep fun b hb => HS.out.chg.block b (Nat.lt_of_lt_of_le hb hB) (by simp)) hBg (HS.out.at_ 0 rfl) (by omega)).mono ?_); (rintro e w1 ⟨t, cs, fp, rfl, ht1, ht4, hS⟩); ((have HS3 := Lib.hid (HS.out.callAll 0 rfl hS))); (clear hS); (obtain ⟨a0, k0, a1, k1, a2, k2, a3, k3, a4, k4, rfl⟩ := own_form (HS3.out.at_ 2 rfl)); (have z0 := HS3.out.frz (k := 0) 1 rfl); (have z1 := HS3.out.frz (k := 1) 1 rfl); (have z2 := HS3.out.frz (k := 2) 1 rfl); (have z3 := HS3.out.frz (k := 3) 1 rfl); (have z4 := HS3.out.frz (k := 4) 1 rfl); (have r0 := HS3.out.cell (k := 0) 1 rfl rfl); (have r1 := HS3.out.cell (k := 1) 1 rfl rfl); (have r2 := HS3.out.cell (k := 2) 1 rfl rfl); (have r3 := HS3.out.cell (k := 3) 1 rfl rfl); (have r4 := HS3.out.cell (k := 4) 1 rfl rfl))
  have HS8 := Lib.hid (((((HS3.out.setBlk (k := 0) 1 rfl (.slice a0 t.Texts.length k0)).setBlk (k := 1) 1 rfl (.slice a1 t.Heard.length k1)).setBlk (k := 2) 1 rfl (.slice a2 t.Line.length k2)).setBlk (k := 3) 1 rfl (.slice a3 t.Log.length k3)).setBlk (k := 4) 1 rfl (.slice a4 t.Next.length k4))
  (have s0 := HS8.out.cell (k := 0) 1 rfl rfl); (have s1 := HS8.out.cell (k := 1) 1 rfl rfl); (have s2 := HS8.out.cell (k := 2) 1 rfl rfl); (have s3 := HS8.out.cell (k := 3) 1 rfl rfl); (have s4 := HS8.out.cell (k := 4) 1 rfl rfl)
  exact bodyPost_ret (v := .agg #[.slice a0 t.Texts.length k0, .slice a1 t.Heard.length k1, .slice a2 t.Line.length k2, .slice a3 t.Log.length k3, .slice a4 t.Next.length k4]) (by simp [results, Try.results60, go_sem, s0, s1, s2, s3, s4]) rfl ⟨t, _, _, rfl, HS8.out.sel [2] (by decide) rfl⟩
set_option maxRecDepth 100000 in
set_option maxHeartbeats 2000000 in
theorem DrawSettleTell_c (code : List Int) (A : Option Addr) (n c : Nat) (w : World) (B : Nat) (hc : Mm.SlAt Mm.u8 w B code A n c) (hB : B ≤ w.heap.size) :
    Calls Try.prog 21 #[.slice A n c] w (DrawnTell w) := by
  have HC := Lib.hid hc
  clear hc
  obtain ⟨gr, hgr⟩ : ∃ gr, w.heap.size = gr := ⟨_, rfl⟩
  obtain ⟨W0, hW0⟩ : ∃ W0, w.alloc (.cells #[.slice none 0 0, .slice none 0 0, .slice none 0 0, .slice none 0 0, .slice none 0 0] 31) = W0 := ⟨_, rfl⟩
  have HS := Lib.hid (((Mm.SepF.start w).alloc' hgr 31 zTell).atW hW0)
  go_enter Try.func21, Try.ntmps21
  go_upto_region 1 with fail
  clear hW0
  go_wp2_with (go_at_call 60; refine (DrawGoodTell_c code A n c _ B (HC.out.keep fun b hb => HS.out.chg.block b (Nat.lt_of_lt_of_le hb hB) (by simp)) (Nat.le_trans hB HS.out.chg.size)).mono ?_; rintro e w1 ⟨t, cs, fp, rfl, hS⟩; (have HS3 := Lib.hid (HS.out.join hS)); clear hS; obtain ⟨a0, k0, a1, k1, a2, k2, a3, k3, a4, k4, rfl⟩ := own_form (HS3.out.at_ 0 rfl); (have z0 := HS3.out.frz (k := 0) 1 rfl); (have z1 := HS3.out.frz (k := 1) 1 rfl); (have z2 := HS3.out.frz (k := 2) 1 rfl); (have z3 := HS3.out.frz (k := 3) 1 rfl); (have z4 := HS3.out.frz (k := 4) 1 rfl); (have r0 := HS3.out.cell (k := 0) 1 rfl rfl); (have r1 := HS3.out.cell (k := 1) 1 rfl rfl); (have r2 := HS3.out.cell (k := 2) 1 rfl rfl); (have r3 := HS3.out.cell (k := 3) 1 rfl rfl); (have r4 := HS3.out.cell (k := 4) 1 rfl rfl))
  have HS8 := Lib.hid (((((HS3.out.setBlk (k := 0) 1 rfl (.slice a0 t.Texts.length k0)).setBlk (k := 1) 1 rfl (.slice a1 t.Heard.length k1)).setBlk (k := 2) 1 rfl (.slice a2 t.Line.length k2)).setBlk (k := 3) 1 rfl (.slice a3 t.Log.length k3)).setBlk (k := 4) 1 rfl (.slice a4 t.Next.length k4))
  (have s0 := HS8.out.cell (k := 0) 1 rfl rfl); (have s1 := HS8.out.cell (k := 1) 1 rfl rfl); (have s2 := HS8.out.cell (k := 2) 1 rfl rfl); (have s3 := HS8.out.cell (k := 3) 1 rfl rfl); (have s4 := HS8.out.cell (k := 4) 1 rfl rfl)
  exact bodyPost_ret (v := .agg #[.slice a0 t.Texts.length k0, .slice a1 t.Heard.length k1, .slice a2 t.Line.length k2, .slice a3 t.Log.length k3, .slice a4 t.Next.length k4]) (by simp [results, Try.results21, go_sem, s0, s1, s2, s3, s4]) rfl ⟨t, _, _, rfl, HS8.out.sel [0] (by decide) rfl⟩
set_option maxRecDepth 100000 in
set_option maxHeartbeats 2000000 in
theorem DrawWrittenOf_c (code : List Int) (A : Option Addr) (n c : Nat) (w : World) (B : Nat) (hc : Mm.SlAt Mm.u8 w B code A n c) (hB : B ≤ w.heap.size) :
    Calls Try.prog 29 #[.slice A n c] w fun e w' => ∃ (t : Tell) (cs : List Value) (fp : List Nat) (k : Int), e = .returned (.tuple #[.agg cs.toArray, .int .i64 k]) ∧ Mm.I64 k ∧ Mm.SepF [] w w' [Mm.tow rTell t cs fp] := by
  have HC := Lib.hid hc
  clear hc
  obtain ⟨gr, hgr⟩ : ∃ gr, w.heap.size = gr := ⟨_, rfl⟩
  obtain ⟨W0, hW0⟩ : ∃ W0, w.alloc (.cells #[.slice none 0 0, .slice none 0 0, .slice none 0 0, .slice none 0 0, .slice none 0 0] 31) = W0 := ⟨_, rfl⟩
  have HS0 := Lib.hid (((Mm.SepF.start w).alloc' hgr 31 zTell).atW hW0)
  obtain ⟨g, hg⟩ : ∃ g, W0.heap.size = g := ⟨_, rfl⟩
  obtain ⟨W1, hW1⟩ : ∃ W1, W0.alloc (.cells #[.slice A n c, .int .i64 0, .int .u64 0] 85) = W1 := ⟨_, rfl⟩
  have HS := Lib.hid (((HS0.out.alloc' hg 85 [.slice A n c, .int .i64 0, .int .u64 0]).atW hW1).curs)
  have hBg : B ≤ g := by have := HS0.out.chg.size; omega
  go_enter Try.func29, Try.ntmps29
  go_upto_region 1 with fail
  clear hW0
  go_upto_region 2 with fail
  clear hW1
  go_wp2_with (first
    | ((go_at_call 55); (refine (tell_c code A n c g 0 _ B (HC.out.keep fun b hb => HS.out.chg.block b (Nat.lt_of_lt_of_le hb hB) (by simp)) hBg (HS.out.at_ 0 rfl) (by omega)).mono ?_); (rintro e w1 ⟨t, cs, fp, rfl, ht1, ht4, hS⟩); ((have HS3 := Lib.hid (HS.out.callAll 0 rfl hS))); (clear hS); (obtain ⟨a0, k0, a1, k1, a2, k2, a3, k3, a4, k4, rfl⟩ := own_form (HS3.out.at_ 2 rfl)))
    | (go_at_call 45; refine (pick_c code A n c g _ _ _ B (HC.out.keep fun b hb => HS3.out.chg.block b (Nat.lt_of_lt_of_le hb hB) (by simp)) hBg (HS3.out.at_ 3 rfl) (by omega) (by omega)).mono ?_; rintro e w2 ⟨b1, rfl, b10, b1x, b11, hL⟩; (have HS4 := Lib.hid (HS3.out.call 3 rfl hL)); clear hL; (have z0 := HS4.out.frz (k := 0) 1 rfl); (have z1 := HS4.out.frz (k := 1) 1 rfl); (have z2 := HS4.out.frz (k := 2) 1 rfl); (have z3 := HS4.out.frz (k := 3) 1 rfl); (have z4 := HS4.out.frz (k := 4) 1 rfl); (have r0 := HS4.out.cell (k := 0) 1 rfl rfl); (have r1 := HS4.out.cell (k := 1) 1 rfl rfl); (have r2 := HS4.out.cell (k := 2) 1 rfl rfl); (have r3 := HS4.out.cell (k := 3) 1 rfl rfl); (have r4 := HS4.out.cell (k := 4) 1 rfl rfl)))
  have hw1 : IntKind.i64.wrap (b1 - 1) = b1 - 1 := IntWalk.i64_in _ (by omega)
  have HS8 := Lib.hid (((((HS4.out.setBlk (k := 0) 1 rfl (.slice a0 t.Texts.length k0)).setBlk (k := 1) 1 rfl (.slice a1 t.Heard.length k1)).setBlk (k := 2) 1 rfl (.slice a2 t.Line.length k2)).setBlk (k := 3) 1 rfl (.slice a3 t.Log.length k3)).setBlk (k := 4) 1 rfl (.slice a4 t.Next.length k4))
  (have s0 := HS8.out.cell (k := 0) 1 rfl rfl); (have s1 := HS8.out.cell (k := 1) 1 rfl rfl); (have s2 := HS8.out.cell (k := 2) 1 rfl rfl); (have s3 := HS8.out.cell (k := 3) 1 rfl rfl); (have s4 := HS8.out.cell (k := 4) 1 rfl rfl)
  exact bodyPost_ret (v := .tuple #[.agg #[.slice a0 t.Texts.length k0, .slice a1 t.Heard.length k1, .slice a2 t.Line.length k2, .slice a3 t.Log.length k3, .slice a4 t.Next.length k4], .int .i64 (b1 - 1)]) (by simp [results, Try.results29, go_sem, s0, s1, s2, s3, s4, hw1]) rfl ⟨t, _, _, b1 - 1, rfl, by unfold Mm.I64; omega, HS8.out.sel [2] (by decide) rfl⟩
set_option maxRecDepth 100000 in
set_option maxHeartbeats 4000000 in
theorem DrawStepTell_c (code : List Int) (A : Option Addr) (n c : Nat) (w : World) (B : Nat) (hc : Mm.SlAt Mm.u8 w B code A n c) (hB : B ≤ w.heap.size) :
    Calls Try.prog 17 #[.slice A n c] w fun e w' => ∃ (t : Tell) (cs : List Value) (fp : List Nat) (s : TellStep), e = .returned (.tuple #[.agg cs.toArray, .agg #[.int .i64 s.Kind, .int .i64 s.K, .string s.Text]]) ∧ (Mm.I64 s.Kind ∧ Mm.I64 s.K ∧ s.Text.size ≤ maxLen) ∧ Mm.SepF [] w w' [Mm.tow rTell t cs fp] := by
  have HC := Lib.hid hc
  clear hc
  obtain ⟨gr, hgr⟩ : ∃ gr, w.heap.size = gr := ⟨_, rfl⟩
  obtain ⟨W0, hW0⟩ : ∃ W0, w.alloc (.cells #[.slice none 0 0, .slice none 0 0, .slice none 0 0, .slice none 0 0, .slice none 0 0] 31) = W0 := ⟨_, rfl⟩
  have HS0 := Lib.hid (((Mm.SepF.start w).alloc' hgr 31 zTell).atW hW0)
  obtain ⟨gs, hgs⟩ : ∃ gs, W0.heap.size = gs := ⟨_, rfl⟩
  obtain ⟨W1, hW1⟩ : ∃ W1, W0.alloc (.cells #[.int .i64 0, .int .i64 0, .string ⟨#[]⟩] 46) = W1 := ⟨_, rfl⟩
  have HS1 := Lib.hid ((HS0.out.alloc' hgs 46 [.int .i64 0, .int .i64 0, .string ⟨#[]⟩]).atW hW1)
  have hne : gs ≠ gr := by
    have := (Mm.tblk gr 31 zTell).lt (HS0.out.at_ 0 rfl) gr (by simp [Mm.tblk])
    omega
  have hne2 : gr ≠ gs := Ne.symm hne
  obtain ⟨g, hg⟩ : ∃ g, W1.heap.size = g := ⟨_, rfl⟩
  obtain ⟨W2, hW2⟩ : ∃ W2, W1.alloc (.cells #[.slice A n c, .int .i64 0, .int .u64 0] 85) = W2 := ⟨_, rfl⟩
  have HS := Lib.hid (((HS1.out.alloc' hg 85 [.slice A n c, .int .i64 0, .int .u64 0]).atW hW2).curs)
  have hBg : B ≤ g := by have := HS1.out.chg.size; omega
  go_enter Try.func17, Try.ntmps17
  go_upto_region 1 with fail
  clear hW0 hW1
  go_upto_region 2 with fail
  clear hW2
  go_upto_region 3 with ((go_at_call 55); (refine (tell_c code A n c g 0 _ B (HC.out.keep fun b hb => HS.out.chg.block b (Nat.lt_of_lt_of_le hb hB) (by simp)) hBg (HS.out.at_ 0 rfl) (by omega)).mono ?_); (rintro e w1 ⟨t, cs, fp, rfl, ht1, ht4, hS⟩); ((have HS3 := Lib.hid (HS.out.callAll 0 rfl hS))); (clear hS); (obtain ⟨a0, k0, a1, k1, a2, k2, a3, k3, a4, k4, rfl⟩ := own_form (HS3.out.at_ 3 rfl)))
  obtain ⟨gt, hgt⟩ : ∃ gt, w1.heap.size = gt := ⟨_, rfl⟩
  obtain ⟨W3, hW3⟩ : ∃ W3, w1.alloc (.cells #[.slice a0 t.Texts.length k0, .slice a1 t.Heard.length k1, .slice a2 t.Line.length k2, .slice a3 t.Log.length k3, .slice a4 t.Next.length k4] 31) = W3 := ⟨_, rfl⟩
  have HS4 := Lib.hid ((HS3.out.alloc' hgt 31 [.slice a0 t.Texts.length k0, .slice a1 t.Heard.length k1, .slice a2 t.Line.length k2, .slice a3 t.Log.length k3, .slice a4 t.Next.length k4]).atW hW3)
  rw [hW3, hgt]
  clear hW3
  have q0 := HS4.out.cell (k := 0) 0 rfl rfl
  go_upto_if 19 with (go_at_call 46; refine (tellSteps_c code A n c g _ _ _ B (HC.out.keep fun b hb => HS4.out.chg.block b (Nat.lt_of_lt_of_le hb hB) (by simp)) hBg (HS4.out.at_ 5 rfl) (by omega) (by omega)).mono ?_; rintro e w4 ⟨l, A1, n1, c1, fl, rfl, hl, hS⟩; (have HS5 := Lib.hid (HS4.out.callAll 5 rfl hS)); clear hS q0)
  have hn1 : n1 = l.length := by obtain ⟨A', n', c', hv, q1, _⟩ := (HS5.out.sl 6 rfl).form; injection hv with _ q2 _; omega
  (have t0 := HS5.out.cell (k := 0) 0 rfl rfl); (have t1 := HS5.out.cell (k := 1) 0 rfl rfl); (have t2 := HS5.out.cell (k := 2) 0 rfl rfl); (have t3 := HS5.out.cell (k := 3) 0 rfl rfl); (have t4 := HS5.out.cell (k := 4) 0 rfl rfl)
  (have z0 := HS5.out.frz (k := 0) 3 rfl); (have z1 := HS5.out.frz (k := 1) 3 rfl); (have z2 := HS5.out.frz (k := 2) 3 rfl); (have z3 := HS5.out.frz (k := 3) 3 rfl); (have z4 := HS5.out.frz (k := 4) 3 rfl); (have r0 := HS5.out.cell (k := 0) 3 rfl rfl); (have r1 := HS5.out.cell (k := 1) 3 rfl rfl); (have r2 := HS5.out.cell (k := 2) 3 rfl rfl); (have r3 := HS5.out.cell (k := 3) 3 rfl rfl); (have r4 := HS5.out.cell (k := 4) 3 rfl rfl)
  have y0 := HS5.out.frz (k := 0) 2 rfl
  have y1 := HS5.out.frz (k := 1) 2 rfl
  have y2 := HS5.out.frz (k := 2) 2 rfl
  have x0 := HS5.out.cell (k := 0) 2 rfl rfl
  have x1 := HS5.out.cell (k := 1) 2 rfl rfl
  have x2 := HS5.out.cell (k := 2) 2 rfl rfl
  by_cases h0 : n1 = 0
  · clear hn1
    subst h0
    go_wp2
    have HS8 := Lib.hid ((((((((HS5.out.setBlk (k := 0) 3 rfl (.slice a0 t.Texts.length k0)).setBlk (k := 1) 3 rfl (.slice a1 t.Heard.length k1)).setBlk (k := 2) 3 rfl (.slice a2 t.Line.length k2)).setBlk (k := 3) 3 rfl (.slice a3 t.Log.length k3)).setBlk (k := 4) 3 rfl (.slice a4 t.Next.length k4)).setBlk (k := 0) 2 rfl (.int .i64 2)).setBlk (k := 1) 2 rfl (.int .i64 0)).setBlk (k := 2) 2 rfl (.string ⟨#[]⟩))
    (have s0 := HS8.out.cell (k := 0) 3 rfl rfl); (have s1 := HS8.out.cell (k := 1) 3 rfl rfl); (have s2 := HS8.out.cell (k := 2) 3 rfl rfl); (have s3 := HS8.out.cell (k := 3) 3 rfl rfl); (have s4 := HS8.out.cell (k := 4) 3 rfl rfl)
    have p0 := HS8.out.cell (k := 0) 2 rfl rfl
    have p1 := HS8.out.cell (k := 1) 2 rfl rfl
    have p2 := HS8.out.cell (k := 2) 2 rfl rfl
    exact bodyPost_ret (v := .tuple #[.agg #[.slice a0 t.Texts.length k0, .slice a1 t.Heard.length k1, .slice a2 t.Line.length k2, .slice a3 t.Log.length k3, .slice a4 t.Next.length k4], .agg #[Value.int .i64 2, Value.int .i64 0, Value.string (⟨#[]⟩ : ByteArray)]]) (by simp [results, Try.results17, go_sem, s0, s1, s2, s3, s4, p0, p1, p2]) rfl ⟨t, _, _, (⟨2, 0, (⟨#[]⟩ : ByteArray)⟩ : TellStep), rfl, ⟨by unfold Mm.I64; decide, by unfold Mm.I64; decide, by show (⟨#[]⟩ : ByteArray).size ≤ maxLen; decide⟩, HS8.out.sel [4] (by decide) rfl⟩
  · obtain ⟨ge, hge, -, -⟩ := Mm.sl_addr (HS5.out.sl 6 rfl) (by omega)
    subst hge
    obtain ⟨s, hs⟩ : ∃ s, l[0]? = some s := ⟨_, List.getElem?_eq_getElem (by omega)⟩
    obtain ⟨e0, e1, e2⟩ := rTellStep_ocell (HS5.out.sl 6 rfl) (HS5.out.ndat (i := 6) rfl) hs
    simp only [Nat.zero_mul, Nat.zero_add] at e0 e1 e2
    have hst : Mm.I64 s.Kind ∧ Mm.I64 s.K ∧ s.Text.size ≤ maxLen := by
      obtain ⟨x, b, off, hx, _, _, g0, g1, g2, _⟩ := rTellStep_get ((HS5.out.sl 6 rfl).weak (HS5.out.sl 6 rfl).olt) (show 0 < n1 by omega)
      rw [hs] at hx; injection hx with hx; subst hx
      exact ⟨g0, g1, g2⟩
    have HST := Lib.hid hst
    have f1 : (0 : Int) < (n1 : Nat) := by omega
    have f2 : ((n1 : Nat) : Int) ≠ 0 := by omega
    clear hst hs
    go_wp2
    have HSX := HS5
    clear hn1
    have ne3 : ge ≠ gr := fun e => HS5.out.apart (i := 6) (j := 3) rfl rfl (by decide) ge (HS5.out.sl 6 rfl).mem_block (by simp [Mm.tblk, e])
    have ne4 : ge ≠ gs := fun e => HS5.out.apart (i := 6) (j := 2) rfl rfl (by decide) ge (HS5.out.sl 6 rfl).mem_block (by simp [Mm.tblk, e])
    have ne5 : gt ≠ gr := fun e => HS5.out.apart (i := 0) (j := 3) rfl rfl (by decide) gt (by simp [Mm.tblk]) (by simp [Mm.tblk, e])
    have ne6 : gt ≠ gs := fun e => HS5.out.apart (i := 0) (j := 2) rfl rfl (by decide) gt (by simp [Mm.tblk]) (by simp [Mm.tblk, e])
    have HS8 := Lib.hid ((((((((HSX.out.setBlk (k := 0) 3 rfl (.slice a0 t.Texts.length k0)).setBlk (k := 1) 3 rfl (.slice a1 t.Heard.length k1)).setBlk (k := 2) 3 rfl (.slice a2 t.Line.length k2)).setBlk (k := 3) 3 rfl (.slice a3 t.Log.length k3)).setBlk (k := 4) 3 rfl (.slice a4 t.Next.length k4)).setBlk (k := 0) 2 rfl (.int .i64 s.Kind)).setBlk (k := 1) 2 rfl (.int .i64 s.K)).setBlk (k := 2) 2 rfl (.string s.Text))
    go_region
    all_goals go_wp2
    · obtain ⟨WA, hWA⟩ : ∃ WA, ((((((((w4.setCell ⟨gr, 0, none⟩ (.slice a0 t.Texts.length k0)).setCell ⟨gr, 1, none⟩ (.slice a1 t.Heard.length k1)).setCell ⟨gr, 2, none⟩ (.slice a2 t.Line.length k2)).setCell ⟨gr, 3, none⟩ (.slice a3 t.Log.length k3)).setCell ⟨gr, 4, none⟩ (.slice a4 t.Next.length k4)).setCell ⟨gs, 0, none⟩ (.int .i64 s.Kind)).setCell ⟨gs, 1, none⟩ (.int .i64 s.K)).setCell ⟨gs, 2, none⟩ (.string s.Text)).drew = WA := ⟨_, rfl⟩
      replace HS8 := Lib.hid ((HS8.out.step (Below.refl _ _).drew).atW hWA)
      rw [hWA]
      clear hWA
      (have s0 := HS8.out.cell (k := 0) 3 rfl rfl); (have s1 := HS8.out.cell (k := 1) 3 rfl rfl); (have s2 := HS8.out.cell (k := 2) 3 rfl rfl); (have s3 := HS8.out.cell (k := 3) 3 rfl rfl); (have s4 := HS8.out.cell (k := 4) 3 rfl rfl)
      have p0 := HS8.out.cell (k := 0) 2 rfl rfl
      have p1 := HS8.out.cell (k := 1) 2 rfl rfl
      have p2 := HS8.out.cell (k := 2) 2 rfl rfl
      exact bodyPost_ret (v := .tuple #[.agg #[.slice a0 t.Texts.length k0, .slice a1 t.Heard.length k1, .slice a2 t.Line.length k2, .slice a3 t.Log.length k3, .slice a4 t.Next.length k4], .agg #[Value.int .i64 s.Kind, Value.int .i64 s.K, Value.string s.Text]]) (by simp [results, Try.results17, go_sem, s0, s1, s2, s3, s4, p0, p1, p2]) rfl ⟨t, _, _, s, rfl, HST.out, HS8.out.sel [4] (by decide) rfl⟩
end Go.Proofs.Ytaepohocabealaa

/-
  Plain laws: a step keeps what is logged; settling twice changes nothing. No program in sight. No conditions.
-/
namespace Go.Proofs.Ytaepohocabealaa
namespace Pl
/-- what a step keeps: the log grows by one line at most, what is awaited never sinks -/
def Kept (t t' : Tell) : Prop := (t'.Log = t.Log ∨ ∃ x, t'.Log = t.Log ++ [x]) ∧ ∀ j : Nat, iAt t.Next j ≤ iAt t'.Next j
theorem Kept.same {t t' : Tell} (h1 : t'.Log = t.Log) (h2 : t'.Next = t.Next) : Kept t t' := ⟨.inl h1, fun j => by rw [h2]; exact Int.le_refl _⟩
theorem Kept.after {a b c : Tell} (h1 : Kept a b) (h2 : c.Log = b.Log) (h3 : c.Next = b.Next) : Kept a c := ⟨by rw [h2]; exact h1.1, fun j => by rw [h3]; exact h1.2 j⟩
theorem log_kept (t : Tell) (x : Told) : Kept t (tlog t x) := by
  unfold tlog
  split
  · refine ⟨.inr ⟨x, rfl⟩, fun j => ?_⟩
    show _ ≤ iAt (t.Next.set _ _) j
    by_cases hq : x.Who.toNat = j
    · by_cases hj : j < t.Next.length
      · have e : iAt t.Next x.Who = iAt t.Next (j : Int) := by unfold iAt; rw [hq]; rfl
        rw [iAt_of (l := t.Next.set x.Who.toNat _) (k := (j : Int)) (by rw [hq, show ((j : Nat) : Int).toNat = j by omega, List.getElem?_set_self hj]), e]
        omega
      · rw [List.set_eq_of_length_le (by omega)]; exact Int.le_refl _
    · have : iAt (t.Next.set x.Who.toNat (iAt t.Next x.Who + 1)) (j : Int) = iAt t.Next j := by
        unfold iAt
        rw [List.getD_eq_getElem?_getD, List.getElem?_set_ne (by omega), List.getD_eq_getElem?_getD]
      rw [this]; exact Int.le_refl _
  · exact .same rfl rfl
theorem send_log (t : Tell) (m : Note) : (tsend t m).Log = t.Log ∧ (tsend t m).Next = t.Next := by unfold tsend; split <;> exact ⟨rfl, rfl⟩
theorem take_kept (t : Tell) (m : Note) : Kept t (ttake t m) := by
  unfold ttake
  split
  · exact .same rfl rfl
  · exact (log_kept _ _).after (send_log _ _).1 (send_log _ _).2
theorem step_kept (t : Tell) (s : TellStep) : Kept t (tstep t s).1 := by
  unfold tstep
  split
  · unfold tput
    split <;> exact .same rfl rfl
  · split
    · exact .same rfl rfl
    · split
      · split
        · exact .same (send_log _ _).1 (send_log _ _).2
        · exact .same rfl rfl
      · split
        · split
          · split <;> exact .same rfl rfl
          · split
            · exact (show Kept { t with Line := t.Line.eraseIdx s.K.toNat } _ from take_kept _ _)
            · exact .same rfl rfl
        · exact .same rfl rfl
theorem Kept.len {t t' : Tell} (h : Kept t t') : t.Log.length ≤ t'.Log.length ∧ t'.Log.length ≤ t.Log.length + 1 := by
  rcases h.1 with h | ⟨x, h⟩ <;> rw [h] <;> simp
theorem Kept.at_ {t t' : Tell} (h : Kept t t') {k : Nat} {x : Told} (hx : t.Log[k]? = some x) : t'.Log[k]? = some x := by
  rcases h.1 with h | ⟨y, h⟩ <;> rw [h]
  · exact hx
  · rw [List.getElem?_append_left (List.getElem?_eq_some_iff.1 hx).1]; exact hx
theorem settleF_done {t : Tell} {k : Nat} (h : ((tAt t k).length : Int) ≤ iAt t.Heard k) : ∀ f c, Pl.settleF f t k c = (t, c)
  | 0, _ => rfl
  | f + 1, c => by unfold Pl.settleF; rw [if_neg (by omega)]
theorem settleTo_done {t : Tell} (h : ∀ j : Nat, j < t.Texts.length → ((tAt t j).length : Int) ≤ iAt t.Heard j) : ∀ k, k ≤ t.Texts.length → Pl.settleTo t k = (t, 0)
  | 0, _ => rfl
  | k + 1, hk => by
    unfold Pl.settleTo
    rw [settleTo_done h k (by omega)]
    exact settleF_done (h k (by omega)) _ _
/-- what is settled stays so -/
theorem settle_twice {t : Tell} (h : GoodP t) : settleTell (settleTell t).1 = ((settleTell t).1, 0, true) := by
  have h1 : settleTell t = ((Pl.settleTo t t.Texts.length).1, (Pl.settleTo t t.Texts.length).2, true) := if_pos (good_iff.2 h)
  have hs := h.settleTo t.Texts.length (Nat.le_refl _)
  rw [h1]
  dsimp only
  have h2 : settleTell (Pl.settleTo t t.Texts.length).1 = _ := if_pos (good_iff.2 hs.1)
  rw [h2, settleTo_done (fun j hj => ?_) _ (Nat.le_refl _)]
  rw [hs.2.2.1] at hj
  have := hs.2.2.2 j hj
  unfold tAt at this ⊢
  rw [hs.2.2.1]
  exact this
end Pl
end Go.Proofs.Ytaepohocabealaa

/-
  Contracts: WrittenOf, the reference's; JudgeTold, both (chapter 10). No conditions.
-/
namespace Go.Proofs.Ytaepohocabealaa
open Go.RowKit
attribute [local go_sem] und_cell cha_cell World.cell?_alloc_some
set_option maxRecDepth 100000 in
set_option maxHeartbeats 4000000 in
theorem specWrittenOf_c (t : Tell) (who : Int) (cs : List Value) (w : World) (B : Nat) (hh : rTell.at_ w B t cs) (hB : B ≤ w.heap.size) :
    Calls Try.prog 30 #[.agg cs.toArray, .int .i64 who] w (Mm.RetS2 Mm.str 9 w (Pl.writtenOf t who).1 (Pl.writtenOf t who).2) := by
  have HHH := Lib.hid (And.intro hh hB)
  obtain ⟨A0, n0, c0, A1, n1, c1, A2, n2, c2, A3, n3, c3, A4, n4, c4, rfl, r0, r1, r2, r3, r4⟩ := rTell_at hh
  have m0 : n0 ≤ maxLen := Nat.le_trans r0.2.1 r0.2.2.1
  have m1 : n1 ≤ maxLen := Nat.le_trans r1.2.1 r1.2.2.1
  have m2 : n2 ≤ maxLen := Nat.le_trans r2.2.1 r2.2.2.1
  have m3 : n3 ≤ maxLen := Nat.le_trans r3.2.1 r3.2.2.1
  have m4 : n4 ≤ maxLen := Nat.le_trans r4.2.1 r4.2.2.1
  unfold maxLen at m0 m1 m2 m3 m4
  have HLN := Lib.hid (And.intro r0.1 (And.intro r1.1 (And.intro r2.1 (And.intro r3.1 r4.1))))
  have hbel : Below w.heap.size w (w.alloc (.cells #[.slice A0 n0 c0, .slice A1 n1 c1, .slice A2 n2 c2, .slice A3 n3 c3, .slice A4 n4 c4] 31)) := below_new (Below.refl _ _) _
  have HKK := Lib.hid (Mm.Blk.new w 31 [.slice A0 n0 c0, .slice A1 n1 c1, .slice A2 n2 c2, .slice A3 n3 c3, .slice A4 n4 c4])
  have HR0 := Lib.hid (r0.keep fun b hb => hbel.block b (by omega))
  have HR1 := Lib.hid (r1.keep fun b hb => hbel.block b (by omega))
  have HR2 := Lib.hid (r2.keep fun b hb => hbel.block b (by omega))
  have HR3 := Lib.hid (r3.keep fun b hb => hbel.block b (by omega))
  have HR4 := Lib.hid (r4.keep fun b hb => hbel.block b (by omega))
  have HBW := Lib.hid (Nat.le_trans hB hbel.size)
  have HT0 := Lib.hid hbel
  clear hbel r0 r1 r2 r3 r4 hh hB
  go_enter Try.func30, Try.ntmps30
  go_upto_region 1 with fail
  obtain ⟨gt, hgt⟩ : ∃ gt, w.heap.size = gt := ⟨_, rfl⟩
  obtain ⟨W0, hW0⟩ : ∃ W0, w.alloc (.cells #[.slice A0 n0 c0, .slice A1 n1 c1, .slice A2 n2 c2, .slice A3 n3 c3, .slice A4 n4 c4] 31) = W0 := ⟨_, rfl⟩
  rw [show [Value.slice A0 n0 c0, .slice A1 n1 c1, .slice A2 n2 c2, .slice A3 n3 c3, .slice A4 n4 c4].toArray = #[.slice A0 n0 c0, .slice A1 n1 c1, .slice A2 n2 c2, .slice A3 n3 c3, .slice A4 n4 c4] from rfl, hW0, hgt] at HKK
  rw [hW0] at HR0 HR1 HR2 HR3 HR4 HT0 HBW
  rw [hW0, hgt]
  have HGT := Lib.hid hgt
  clear hW0 hgt
  have d0 := HKK.out.cell (i := 0) rfl
  have d1 := HKK.out.cell (i := 1) rfl
  have d2 := HKK.out.cell (i := 2) rfl
  have d3 := HKK.out.cell (i := 3) rfl
  have d4 := HKK.out.cell (i := 4) rfl
  have HT := Lib.hid (rTell.keep HHH.out.1 (w' := W0) fun b hb => HT0.out.block b (by have := HHH.out.2; omega))
  obtain ⟨gg, hgg⟩ : ∃ gg, Pl.goodTell t = gg := ⟨_, rfl⟩
  have HGG := Lib.hid hgg
  clear hgg
  have CG := HGG.out ▸ GoodTell_c t _ W0 B HT.out HBW.out
  have hw1 : IntKind.i64.wrap ((n0 : Int) - 1) = (n0 : Int) - 1 := IntWalk.i64_in _ (by omega)
  cases gg with
  | false =>
    have HF : Hid (Pl.writtenOf t who = ([], false)) := if_neg (by rw [HGG.out]; simp)
    go_wp2_with (go_at_call 20; (with_reducible refine CG.mono ?_); rintro e w1 ⟨rfl, hX⟩)
    rw [HF.out]
    go_ret2
    exact (Mm.Acc.nil (below_step HT0.out hX)).ret
  | true =>
  obtain ⟨gi, hgi⟩ : ∃ gi, Pl.isIn who 0 ((n0 : Int) - 1) = gi := ⟨_, rfl⟩
  have HGI := Lib.hid hgi
  clear hgi
  have HW := Lib.hid (Pl.good_wf HGG.out)
  have hlog := HW.out.log_len
  rw [HLN.out.2.2.2.1] at hlog
  cases gi with
  | false =>
    have HF : Hid (Pl.writtenOf t who = ([], false)) := if_neg (by rw [HLN.out.1, HGI.out]; simp)
    go_wp2_with (first | (go_at_call 20; (with_reducible refine CG.mono ?_); rintro e w1 ⟨rfl, hX⟩; (replace d0 := below_some hX d0); (replace d1 := below_some hX d1); (replace d2 := below_some hX d2); (replace d3 := below_some hX d3); (replace d4 := below_some hX d4)) | (go_at_call 57; (with_reducible refine (l10Who_is HGI.out _).mono ?_); rintro e w5 ⟨rfl, hY⟩; (replace hX := below_step hX hY); (replace d3 := below_some hY d3); clear hY))
    rw [HF.out]
    go_ret2
    exact (Mm.Acc.nil (below_step HT0.out hX)).ret
  | true =>
    have HF : Hid (Pl.writtenOf t who = (Pl.textsOf t.Log who, true)) := if_pos (by rw [HLN.out.1, HGG.out, HGI.out]; rfl)
    obtain ⟨i0, hi, hz0, hz1, hz2⟩ := info_parts Try.infoStr
    go_wp2_with (first | (go_at_call 20; (with_reducible refine CG.mono ?_); rintro e w1 ⟨rfl, hX⟩; (replace d0 := below_some hX d0); (replace d1 := below_some hX d1); (replace d2 := below_some hX d2); (replace d3 := below_some hX d3); (replace d4 := below_some hX d4)) | (go_at_call 57; (with_reducible refine (l10Who_is HGI.out _).mono ?_); rintro e w5 ⟨rfl, hY⟩; (replace hX := below_step hX hY); (replace d3 := below_some hY d3); clear hY))
    clear d0 d1 d2 d3 d4
    have HBX := below_step HT0.out hX
    clear hX
    go_loopg [6, 21] n3 (fun g o i wr => ∃ k : Nat, n3 - k ≤ g ∧ k ≤ n3 ∧ i = .int .i64 k ∧ Mm.Acc Mm.str 9 w (Pl.textsOf (t.Log.take k) who) o wr)
    case atStart => exact ⟨0, Nat.le_refl _, Nat.zero_le _, rfl, Mm.Acc.nil HBX⟩
    case round =>
      clear HBX
      obtain ⟨k, hgk, hk, rfl, hacc⟩ := hrel
      obtain ⟨W, rfl⟩ : ∃ W : World, W = wr := ⟨_, rfl⟩
      have hbel := hacc.bel
      have hsw := hbel.size
      obtain ⟨A', n', c', rfl, hn', -, -, -⟩ := hacc.form
      have hnk : n' ≤ k := by
        rw [hn']
        refine Nat.le_trans (Pl.textsOf_len _ _) ?_
        rw [List.length_take]; omega
      have HA := Lib.hid hacc
      have HNL : Hid (n' = (Pl.textsOf (t.Log.take k) who).length) := hn'
      clear hacc hn'
      by_cases hlt : k < n3
      · obtain ⟨⟨xW, xN, xT⟩, b, off, hx, rfl, hb, mi0, mi1, mi2, e0, e1, e2⟩ := rTold_get ((show Mm.SlAt rTold W B t.Log A3 n3 c3 from HR3.out.keep fun b hb => (hbel.block b (Nat.lt_of_lt_of_le hb HHH.out.2)).trans (HT0.out.block b (Nat.lt_of_lt_of_le hb HHH.out.2)).symm)) hlt
        dsimp only at mi0 mi1 mi2 e0 e1 e2
        have f1 : (k : Int) < (n3 : Nat) := by omega
        have f2 : (0 : Int) ≤ (k : Nat) := by omega
        have f3 : ((k : Nat) : Int).toNat = k := by omega
        have HTS : Hid (t.Log.take (k + 1) = t.Log.take k ++ [⟨xW, xN, xT⟩]) := by
          obtain ⟨hk', hg⟩ := List.getElem?_eq_some_iff.1 hx
          show _ = _
          rw [List.take_succ_eq_append_getElem hk', hg]
        have HMI := Lib.hid mi2
        clear hx mi0 mi1 mi2
        unfold maxLen at HMI
        by_cases hw : xW = who
        · obtain rfl : who = xW := hw.symm
          have HN : Hid (Pl.textsOf (t.Log.take (k + 1)) who = Pl.textsOf (t.Log.take k) who ++ [xT]) := by show _ = _; rw [HTS.out, Pl.textsOf_snoc, if_pos rfl]
          obtain ⟨l0, ho, hnext⟩ := HA.out.push (W2 := (W.alloc (.cells #[.int .i64 who, .int .i64 xN, .string xT] 52)).alloc (.cells #[.string xT] 9)) (below_new (below_new (Below.refl _ _) _) _) (x := xT) (cx := [.string xT]) (fx := []) ⟨rfl, HMI.out, rfl⟩ List.nodup_nil (fun b hb => by cases hb)
          rw [← HNL.out] at ho hnext
          have HNX := Lib.hid hnext
          have HO := Lib.hid ho
          clear ho hnext
          go_wp2_with (at_builtin; refine wpList_append_lies _ (by rfl) _ _ _ (by rfl) 0 9 i0 _ 1 16 Try.underlying40 hi hz0 hz1 hz2 rfl (by omega) _ n' l0 (by rfl) HO.out ⟨W.heap.size + 1, 0, none⟩ 1 1 [.string xT] (by rfl) (by rfl) (World.news_of_block (B := W.heap.size + 1) (cs := #[.string xT]) (t := 9) (fr := (0, 0)) (Mm.heap_new _ (Mm.sz1 _ _) _)) (by simp [Value.oneCell']) (by omega) (by unfold maxLen; omega) (by omega) (Nat.zero_le _) _ rfl ?_; intro gg cap w2 hown1 hgrow hat hlt9; have HAC := Lib.hid (HNX.out gg cap w2 hown1 hgrow hat); clear hown1 hgrow hat hlt9)
          go_roundg (n3 - (k + 1))
          case measure => omega
          case rel => exact ⟨k + 1, Nat.le_refl _, by omega, by go_num, by rw [HN.out]; exact HAC.out⟩
        · have HN : Hid (Pl.textsOf (t.Log.take (k + 1)) who = Pl.textsOf (t.Log.take k) who) := by show _ = _; rw [HTS.out, Pl.textsOf_snoc, if_neg hw, List.append_nil]
          go_wp2
          go_roundg (n3 - (k + 1))
          case measure => omega
          case rel => exact ⟨k + 1, Nat.le_refl _, by omega, by go_num, by rw [HN.out]; exact HA.out.step (below_new (Below.refl _ _) _)⟩
      · obtain rfl : n3 = k := by omega
        have HTK : Hid (t.Log.take n3 = t.Log) := List.take_of_length_le (by have := HLN.out.2.2.2.1; omega)
        have hlt' : ¬ (n3 : Int) < (n3 : Nat) := by omega
        have HR := Lib.hid (HA.out.ret (b := true))
        rw [HTK.out] at HR
        go_wp2
        go_ret2
        rw [HF.out]
        exact HR.out
def Pl.judgeTold (a b : Int) : Int × Bool := if (Pl.isIn a 0 1000 && Pl.isIn b 0 1000) = true then (Pl.judge a b, true) else (0, false)
theorem implJudgeTold_c (a b : Int) (w : World) : Calls Try.prog 24 #[.int .i64 a, .int .i64 b] w fun e w' => e = .returned (.tuple #[.int .i64 (Pl.judgeTold a b).1, .bool (Pl.judgeTold a b).2]) ∧ w = w' := by
  obtain ⟨g1, hg1⟩ : ∃ g1, Pl.isIn a 0 1000 = g1 := ⟨_, rfl⟩
  have HG1 := Lib.hid hg1
  clear hg1
  cases g1 with
  | false =>
    have HF : Hid (Pl.judgeTold a b = (0, false)) := if_neg (by rw [HG1.out]; simp)
    go_enter Try.func24, Try.ntmps24
    go_wp2_with (go_at_call 47; (with_reducible refine (within_is HG1.out _).mono ?_); rintro e w' ⟨rfl, rfl⟩)
    rw [HF.out]
    go_ret2
    exact ⟨rfl, rfl⟩
  | true =>
  obtain ⟨g2, hg2⟩ : ∃ g2, Pl.isIn b 0 1000 = g2 := ⟨_, rfl⟩
  have HG2 := Lib.hid hg2
  clear hg2
  cases g2 with
  | false =>
    have HF : Hid (Pl.judgeTold a b = (0, false)) := if_neg (by rw [HG1.out, HG2.out]; simp)
    go_enter Try.func24, Try.ntmps24
    go_wp2_with first | (go_at_call 47; (with_reducible refine (within_is HG1.out _).mono ?_); rintro e w' ⟨rfl, rfl⟩) | (go_at_call 47; (with_reducible refine (within_is HG2.out _).mono ?_); rintro e w' ⟨rfl, rfl⟩)
    rw [HF.out]
    go_ret2
    exact ⟨rfl, rfl⟩
  | true =>
    have HF : Hid (Pl.judgeTold a b = (Pl.judge a b, true)) := if_pos (by rw [HG1.out, HG2.out]; rfl)
    go_enter Try.func24, Try.ntmps24
    go_wp2_with first | (go_at_call 47; (with_reducible refine (within_is HG1.out _).mono ?_); rintro e w' ⟨rfl, rfl⟩) | (go_at_call 47; (with_reducible refine (within_is HG2.out _).mono ?_); rintro e w' ⟨rfl, rfl⟩) | (go_at_call 62; (with_reducible refine (judge_c a b _).mono ?_); rintro e w' ⟨rfl, rfl⟩)
    rw [HF.out]
    go_ret2
    exact ⟨rfl, rfl⟩
theorem specJudgeTold_c (a b : Int) (w : World) : Calls Try.prog 25 #[.int .i64 a, .int .i64 b] w fun e w' => e = .returned (.tuple #[.int .i64 (Pl.judgeTold a b).1, .bool (Pl.judgeTold a b).2]) ∧ w = w' := by
  obtain ⟨g1, hg1⟩ : ∃ g1, Pl.isIn a 0 1000 = g1 := ⟨_, rfl⟩
  have HG1 := Lib.hid hg1
  clear hg1
  cases g1 with
  | false =>
    have HF : Hid (Pl.judgeTold a b = (0, false)) := if_neg (by rw [HG1.out]; simp)
    go_enter Try.func25, Try.ntmps25
    go_wp2_with (go_at_call 56; (with_reducible refine (l1In_is HG1.out _).mono ?_); rintro e w' ⟨rfl, rfl⟩)
    rw [HF.out]
    go_ret2
    exact ⟨rfl, rfl⟩
  | true =>
  obtain ⟨g2, hg2⟩ : ∃ g2, Pl.isIn b 0 1000 = g2 := ⟨_, rfl⟩
  have HG2 := Lib.hid hg2
  clear hg2
  cases g2 with
  | false =>
    have HF : Hid (Pl.judgeTold a b = (0, false)) := if_neg (by rw [HG1.out, HG2.out]; simp)
    go_enter Try.func25, Try.ntmps25
    go_wp2_with first | (go_at_call 56; (with_reducible refine (l1In_is HG1.out _).mono ?_); rintro e w' ⟨rfl, rfl⟩) | (go_at_call 56; (with_reducible refine (l1In_is HG2.out _).mono ?_); rintro e w' ⟨rfl, rfl⟩)
    rw [HF.out]
    go_ret2
    exact ⟨rfl, rfl⟩
  | true =>
    have HF : Hid (Pl.judgeTold a b = (Pl.judge a b, true)) := if_pos (by rw [HG1.out, HG2.out]; rfl)
    go_enter Try.func25, Try.ntmps25
    go_wp2_with first | (go_at_call 56; (with_reducible refine (l1In_is HG1.out _).mono ?_); rintro e w' ⟨rfl, rfl⟩) | (go_at_call 56; (with_reducible refine (l1In_is HG2.out _).mono ?_); rintro e w' ⟨rfl, rfl⟩) | (go_at_call 63; (with_reducible refine (l10Judge_c a b _).mono ?_); rintro e w' ⟨rfl, rfl⟩)
    rw [HF.out]
    go_ret2
    exact ⟨rfl, rfl⟩
end Go.Proofs.Ytaepohocabealaa

/-
  Contracts: the laws' own comparisons, at equal data, and the number of some bytes. No conditions.
-/
namespace Go.Proofs.Ytaepohocabealaa
open Go.RowKit
attribute [local go_sem] und_cell World.cell?_alloc_some
set_option maxRecDepth 100000 in
set_option maxHeartbeats 1000000 in
theorem sameInts_c (l : List Int) (A A' : Option Addr) (n c c' : Nat) (w : World) (B : Nat) (h1 : Mm.SlAt Mm.int w B l A n c) (h2 : Mm.SlAt Mm.int w B l A' n c') (hB : B ≤ w.heap.size) :
    Calls Try.prog 52 #[.slice A n c, .slice A' n c'] w fun e w' => e = .returned (.bool true) ∧ Below w.heap.size w w' := by
  have H1 := Lib.hid h1
  have H2 := Lib.hid h2
  have hlen : n ≤ maxLen := Nat.le_trans h1.2.1 h1.2.2.1
  unfold maxLen at hlen
  clear h1 h2
  go_enter Try.func52, Try.ntmps52
  go_wp2
  go_loopg [13] n (fun gg i wr => ∃ k : Nat, n - k ≤ gg ∧ k ≤ n ∧ i = .int .i64 k ∧ Below w.heap.size w wr)
  case atStart => exact ⟨0, Nat.le_refl _, Nat.zero_le _, rfl, Below.refl _ _⟩
  case round =>
    obtain ⟨k, hgk, hk, rfl, hbel⟩ := hrel
    have HB := Lib.hid hbel
    by_cases hlt : k < n
    · obtain ⟨x, b, off, hx, rfl, hb, b1, c1⟩ := int_get (H1.out.keep fun b hb => hbel.block b (by omega)) hlt
      obtain ⟨y, b', off', hy, rfl, hb', b1', c1'⟩ := int_get (H2.out.keep fun b hb => hbel.block b (by omega)) hlt
      rw [hx] at hy
      injection hy with hy
      subst hy
      have f1 : (k : Int) < (n : Nat) := by omega
      have f2 : (0 : Int) ≤ (k : Nat) := by omega
      clear hx hbel
      go_wp2
      go_quiet (fail)
      go_wp2
      go_roundg (n - (k + 1))
      case measure => omega
      case rel => exact ⟨k + 1, Nat.le_refl _, by omega, by go_num, below_drewN HB.out _⟩
    · go_wp2
      go_ret
      exact ⟨rfl, HB.out⟩
set_option maxRecDepth 100000 in
set_option maxHeartbeats 1000000 in
theorem sameTexts_c (l : List ByteArray) (A A' : Option Addr) (n c c' : Nat) (w : World) (B : Nat) (h1 : Mm.SlAt Mm.str w B l A n c) (h2 : Mm.SlAt Mm.str w B l A' n c') (hB : B ≤ w.heap.size) :
    Calls Try.prog 16 #[.slice A n c, .slice A' n c'] w fun e w' => e = .returned (.bool true) ∧ Below w.heap.size w w' := by
  have H1 := Lib.hid h1
  have H2 := Lib.hid h2
  have hlen : n ≤ maxLen := Nat.le_trans h1.2.1 h1.2.2.1
  unfold maxLen at hlen
  clear h1 h2
  go_enter Try.func16, Try.ntmps16
  go_wp2
  go_loopg [13] n (fun gg i wr => ∃ k : Nat, n - k ≤ gg ∧ k ≤ n ∧ i = .int .i64 k ∧ Below w.heap.size w wr)
  case atStart => exact ⟨0, Nat.le_refl _, Nat.zero_le _, rfl, Below.refl _ _⟩
  case round =>
    obtain ⟨k, hgk, hk, rfl, hbel⟩ := hrel
    have HB := Lib.hid hbel
    by_cases hlt : k < n
    · obtain ⟨x, b, off, hx, rfl, hb, b1, c1⟩ := str_get (H1.out.keep fun b hb => hbel.block b (by omega)) hlt
      obtain ⟨y, b', off', hy, rfl, hb', b1', c1'⟩ := str_get (H2.out.keep fun b hb => hbel.block b (by omega)) hlt
      rw [hx] at hy
      injection hy with hy
      subst hy
      have f1 : (k : Int) < (n : Nat) := by omega
      have f2 : (0 : Int) ≤ (k : Nat) := by omega
      clear hx hbel
      go_wp2
      go_quiet (fail)
      go_wp2
      go_roundg (n - (k + 1))
      case measure => omega
      case rel => exact ⟨k + 1, Nat.le_refl _, by omega, by go_num, below_drewN HB.out _⟩
    · go_wp2
      go_ret
      exact ⟨rfl, HB.out⟩
set_option maxRecDepth 100000 in
set_option maxHeartbeats 1000000 in
theorem sameBools_c (l : List Bool) (A A' : Option Addr) (n c c' : Nat) (w : World) (B : Nat) (h1 : Mm.SlAt Mm.bool w B l A n c) (h2 : Mm.SlAt Mm.bool w B l A' n c') (hB : B ≤ w.heap.size) :
    Calls Try.prog 11 #[.slice A n c, .slice A' n c'] w fun e w' => e = .returned (.bool true) ∧ Below w.heap.size w w' := by
  have H1 := Lib.hid h1
  have H2 := Lib.hid h2
  have hlen : n ≤ maxLen := Nat.le_trans h1.2.1 h1.2.2.1
  unfold maxLen at hlen
  clear h1 h2
  go_enter Try.func11, Try.ntmps11
  go_wp2
  go_loopg [13] n (fun gg i wr => ∃ k : Nat, n - k ≤ gg ∧ k ≤ n ∧ i = .int .i64 k ∧ Below w.heap.size w wr)
  case atStart => exact ⟨0, Nat.le_refl _, Nat.zero_le _, rfl, Below.refl _ _⟩
  case round =>
    obtain ⟨k, hgk, hk, rfl, hbel⟩ := hrel
    have HB := Lib.hid hbel
    by_cases hlt : k < n
    · obtain ⟨x, b, off, hx, rfl, hb, c1⟩ := bool_get (H1.out.keep fun b hb => hbel.block b (by omega)) hlt
      obtain ⟨y, b', off', hy, rfl, hb', c1'⟩ := bool_get (H2.out.keep fun b hb => hbel.block b (by omega)) hlt
      rw [hx] at hy
      injection hy with hy
      subst hy
      have f1 : (k : Int) < (n : Nat) := by omega
      have f2 : (0 : Int) ≤ (k : Nat) := by omega
      clear hx hbel
      go_wp2
      go_quiet (fail)
      go_wp2
      go_roundg (n - (k + 1))
      case measure => omega
      case rel => exact ⟨k + 1, Nat.le_refl _, by omega, by go_num, below_drewN HB.out _⟩
    · go_wp2
      go_ret
      exact ⟨rfl, HB.out⟩
end Go.Proofs.Ytaepohocabealaa

/-
  Contracts: the laws' own comparison of tellers, at equal data (chapter 10). No conditions.
-/
namespace Go.Proofs.Ytaepohocabealaa
open Go.RowKit
attribute [local go_sem] und_cell cha_cell World.cell?_alloc_some
set_option maxRecDepth 100000 in
set_option maxHeartbeats 2000000 in
theorem sameTells_c (t : Tell) (cs cs2 : List Value) (w : World) (B : Nat) (h1 : rTell.at_ w B t cs) (h2 : rTell.at_ w B t cs2) (hB : B ≤ w.heap.size) :
    Calls Try.prog 12 #[.agg cs.toArray, .agg cs2.toArray] w fun e w' => e = .returned (.bool true) ∧ Below w.heap.size w w' := by
  obtain ⟨A0, n0, c0, A1, n1, c1, A2, n2, c2, A3, n3, c3, A4, n4, c4, rfl, r0, r1, r2, r3, r4⟩ := rTell_at h1
  obtain ⟨A0', m0, c0', A1', m1, c1', A2', m2, c2', A3', m3, c3', A4', m4, c4', rfl, q0, q1, q2, q3, q4⟩ := rTell_at h2
  obtain rfl : n0 = m0 := r0.1.symm.trans q0.1
  obtain rfl : n1 = m1 := r1.1.symm.trans q1.1
  obtain rfl : n2 = m2 := r2.1.symm.trans q2.1
  obtain rfl : n3 = m3 := r3.1.symm.trans q3.1
  obtain rfl : n4 = m4 := r4.1.symm.trans q4.1
  have l0 : n0 ≤ maxLen := Nat.le_trans r0.2.1 r0.2.2.1
  have l2 : n2 ≤ maxLen := Nat.le_trans r2.2.1 r2.2.2.1
  have l3 : n3 ≤ maxLen := Nat.le_trans r3.2.1 r3.2.2.1
  unfold maxLen at l0 l2 l3
  have HR := Lib.hid (And.intro r0 (And.intro r1 (And.intro r2 (And.intro r3 r4))))
  have HQ := Lib.hid (And.intro q0 (And.intro q1 (And.intro q2 (And.intro q3 q4))))
  clear h1 h2 r0 r1 r2 r3 r4 q0 q1 q2 q3 q4
  go_enter Try.func12, Try.ntmps12
  go_upto_region 1 with fail
  obtain ⟨ga, hga⟩ : ∃ ga, w.heap.size = ga := ⟨_, rfl⟩
  obtain ⟨gb, hgb⟩ : ∃ gb, ga + 1 = gb := ⟨_, rfl⟩
  obtain ⟨W0, hW0⟩ : ∃ W0, (w.alloc (.cells #[.slice A0 n0 c0, .slice A1 n1 c1, .slice A2 n2 c2, .slice A3 n3 c3, .slice A4 n4 c4] 31)).alloc (.cells #[.slice A0' n0 c0', .slice A1' n1 c1', .slice A2' n2 c2', .slice A3' n3 c3', .slice A4' n4 c4'] 31) = W0 := ⟨_, rfl⟩
  have HS0 := Lib.hid ((((Mm.SepF.start w).alloc' hga 31 [.slice A0 n0 c0, .slice A1 n1 c1, .slice A2 n2 c2, .slice A3 n3 c3, .slice A4 n4 c4]).alloc' (g := gb) (by rw [Mm.sz1, hga, hgb]) 31 [.slice A0' n0 c0', .slice A1' n1 c1', .slice A2' n2 c2', .slice A3' n3 c3', .slice A4' n4 c4']).atW hW0)
  rw [hW0, hga, hgb]
  have HGA := Lib.hid hga
  clear hW0 hga hgb
  have HB0 := Lib.hid HS0.out.bel0
  have HBW := Lib.hid (Nat.le_trans hB HB0.out.size)
  have HX := Lib.hid (Below.refl W0.heap.size W0)
  have b0 := below_some HX.out (HS0.out.cell (k := 0) 0 rfl rfl)
  have b1 := below_some HX.out (HS0.out.cell (k := 1) 0 rfl rfl)
  have b2 := below_some HX.out (HS0.out.cell (k := 2) 0 rfl rfl)
  have b3 := below_some HX.out (HS0.out.cell (k := 3) 0 rfl rfl)
  have b4 := below_some HX.out (HS0.out.cell (k := 4) 0 rfl rfl)
  have d0 := below_some HX.out (HS0.out.cell (k := 0) 1 rfl rfl)
  have d1 := below_some HX.out (HS0.out.cell (k := 1) 1 rfl rfl)
  have d2 := below_some HX.out (HS0.out.cell (k := 2) 1 rfl rfl)
  have d3 := below_some HX.out (HS0.out.cell (k := 3) 1 rfl rfl)
  have d4 := below_some HX.out (HS0.out.cell (k := 4) 1 rfl rfl)
  have HR0 := Lib.hid (And.intro (HR.out.2.1.keep fun b hb => HB0.out.block b (Nat.lt_of_lt_of_le hb hB)) (HQ.out.2.1.keep fun b hb => HB0.out.block b (Nat.lt_of_lt_of_le hb hB)))
  go_wp2_with (go_at_call 52; (with_reducible refine (sameInts_c t.Heard A1 A1' n1 c1 c1' W0 B HR0.out.1 HR0.out.2 HBW.out).mono ?_); rintro e w1 ⟨rfl, hX⟩; (clear b0 b1 b2 b3 b4 d0 d1 d2 d3 d4); (replace HX := Lib.hid hX); (have b0 := below_some HX.out (HS0.out.cell (k := 0) 0 rfl rfl)); (have b1 := below_some HX.out (HS0.out.cell (k := 1) 0 rfl rfl)); (have b2 := below_some HX.out (HS0.out.cell (k := 2) 0 rfl rfl)); (have b3 := below_some HX.out (HS0.out.cell (k := 3) 0 rfl rfl)); (have b4 := below_some HX.out (HS0.out.cell (k := 4) 0 rfl rfl)); (have d0 := below_some HX.out (HS0.out.cell (k := 0) 1 rfl rfl)); (have d1 := below_some HX.out (HS0.out.cell (k := 1) 1 rfl rfl)); (have d2 := below_some HX.out (HS0.out.cell (k := 2) 1 rfl rfl)); (have d3 := below_some HX.out (HS0.out.cell (k := 3) 1 rfl rfl)); (have d4 := below_some HX.out (HS0.out.cell (k := 4) 1 rfl rfl)); (have HQ1 := Lib.hid (And.intro (HQ.out.2.2.2.2.keep fun b hb => (hX.block b (Nat.lt_of_lt_of_le hb HBW.out)).trans (HB0.out.block b (Nat.lt_of_lt_of_le hb hB))) (HR.out.2.2.2.2.keep fun b hb => (hX.block b (Nat.lt_of_lt_of_le hb HBW.out)).trans (HB0.out.block b (Nat.lt_of_lt_of_le hb hB))))); (have HBW1 := Lib.hid (Nat.le_trans HBW.out hX.size)); clear hX; go_wp2_with (go_at_call 52; (with_reducible refine (sameInts_c t.Next A4 A4' n4 c4 c4' w1 B HQ1.out.2 HQ1.out.1 HBW1.out).mono ?_); rintro e w2 ⟨rfl, hX2⟩; (clear b0 b1 b2 b3 b4 d0 d1 d2 d3 d4); (replace HX := Lib.hid (below_step HX.out hX2)); clear hX2; (have b0 := below_some HX.out (HS0.out.cell (k := 0) 0 rfl rfl)); (have b1 := below_some HX.out (HS0.out.cell (k := 1) 0 rfl rfl)); (have b2 := below_some HX.out (HS0.out.cell (k := 2) 0 rfl rfl)); (have b3 := below_some HX.out (HS0.out.cell (k := 3) 0 rfl rfl)); (have b4 := below_some HX.out (HS0.out.cell (k := 4) 0 rfl rfl)); (have d0 := below_some HX.out (HS0.out.cell (k := 0) 1 rfl rfl)); (have d1 := below_some HX.out (HS0.out.cell (k := 1) 1 rfl rfl)); (have d2 := below_some HX.out (HS0.out.cell (k := 2) 1 rfl rfl)); (have d3 := below_some HX.out (HS0.out.cell (k := 3) 1 rfl rfl)); (have d4 := below_some HX.out (HS0.out.cell (k := 4) 1 rfl rfl))))
  clear HBW1 HQ1 HR0
  clear b0 b1 b2 b3 b4 d0 d1 d2 d3 d4
  have HXX := Lib.hid HX.out
  clear HX
  go_loopg [52] n0 (fun gg i wr => ∃ k : Nat, n0 - k ≤ gg ∧ k ≤ n0 ∧ i = .int .i64 k ∧ Below W0.heap.size W0 wr)
  case atStart => exact ⟨0, Nat.le_refl _, Nat.zero_le _, rfl, HXX.out⟩
  case round =>
    clear HXX
    obtain ⟨k, hgk, hk, rfl, hbel⟩ := hrel
    obtain ⟨W1, rfl⟩ : ∃ W1 : World, W1 = wr := ⟨_, rfl⟩
    have HX := Lib.hid hbel
    clear hbel
    have b0 := below_some HX.out (HS0.out.cell (k := 0) 0 rfl rfl)
    have b1 := below_some HX.out (HS0.out.cell (k := 1) 0 rfl rfl)
    have b2 := below_some HX.out (HS0.out.cell (k := 2) 0 rfl rfl)
    have b3 := below_some HX.out (HS0.out.cell (k := 3) 0 rfl rfl)
    have b4 := below_some HX.out (HS0.out.cell (k := 4) 0 rfl rfl)
    have d0 := below_some HX.out (HS0.out.cell (k := 0) 1 rfl rfl)
    have d1 := below_some HX.out (HS0.out.cell (k := 1) 1 rfl rfl)
    have d2 := below_some HX.out (HS0.out.cell (k := 2) 1 rfl rfl)
    have d3 := below_some HX.out (HS0.out.cell (k := 3) 1 rfl rfl)
    have d4 := below_some HX.out (HS0.out.cell (k := 4) 1 rfl rfl)
    by_cases hlt : k < n0
    · obtain ⟨x, b, off, P1, p1, q1, hx, rfl, hb, uf0, uc0⟩ := strs_get (HR.out.1.keep (w' := W1) fun b hb => (HX.out.block b (Nat.lt_of_lt_of_le hb HBW.out)).trans (HB0.out.block b (Nat.lt_of_lt_of_le hb hB))) hlt
      obtain ⟨y, b', off', P2, p2, q2, hy, rfl, hb', vf0, vc0⟩ := strs_get (HQ.out.1.keep (w' := W1) fun b hb => (HX.out.block b (Nat.lt_of_lt_of_le hb HBW.out)).trans (HB0.out.block b (Nat.lt_of_lt_of_le hb hB))) hlt
      obtain rfl : x = y := by rw [hx] at hy; injection hy
      obtain rfl : p1 = p2 := uf0.1.symm.trans vf0.1
      have HF := Lib.hid (And.intro uf0 vf0)
      have hBw : B ≤ W1.heap.size := Nat.le_trans HBW.out HX.out.size
      have f1 : (k : Int) < (n0 : Nat) := by omega
      have f2 : (0 : Int) ≤ (k : Nat) := by omega
      have f3 : ((k : Nat) : Int).toNat = k := by omega
      clear hx hy uf0 vf0
      have CS := fun z : Und W1 => und_call z (sameTexts_c x P1 P2 p1 q1 q2 (und W1 z) B (HF.out.1.und hBw z) (HF.out.2.und hBw z) (Nat.le_trans hBw (und_size z)))
      go_wp2
      refine wp_region_und (by kernel_rfl) (by kernel_rfl) ?_
      repeat (go_big_quiet_step ((first | (go_at_call 16; with_reducible exact CS _))))
      refine wpQuiet_nil ?_
      intro X hX
      go_wp2
      go_roundg (n0 - (k + 1))
      case measure => omega
      case rel => exact ⟨k + 1, Nat.le_refl _, by omega, by go_num, below_step HX.out hX⟩
    · have f1 : ¬ (k : Int) < (n0 : Nat) := by omega
      go_wp2
      clear b0 b1 b2 b3 b4 d0 d1 d2 d3 d4
      clear f1
      have HXX := Lib.hid HX.out
      clear HX
      go_loopg [71] n2 (fun gg i wr => ∃ k : Nat, n2 - k ≤ gg ∧ k ≤ n2 ∧ i = .int .i64 k ∧ Below W0.heap.size W0 wr)
      case atStart => exact ⟨0, Nat.le_refl _, Nat.zero_le _, rfl, HXX.out⟩
      case round =>
      clear HXX
      obtain ⟨k, hgk, hk, rfl, hbel⟩ := hrel
      obtain ⟨W1, rfl⟩ : ∃ W1 : World, W1 = wr := ⟨_, rfl⟩
      have HX := Lib.hid hbel
      clear hbel
      have b0 := below_some HX.out (HS0.out.cell (k := 0) 0 rfl rfl)
      have b1 := below_some HX.out (HS0.out.cell (k := 1) 0 rfl rfl)
      have b2 := below_some HX.out (HS0.out.cell (k := 2) 0 rfl rfl)
      have b3 := below_some HX.out (HS0.out.cell (k := 3) 0 rfl rfl)
      have b4 := below_some HX.out (HS0.out.cell (k := 4) 0 rfl rfl)
      have d0 := below_some HX.out (HS0.out.cell (k := 0) 1 rfl rfl)
      have d1 := below_some HX.out (HS0.out.cell (k := 1) 1 rfl rfl)
      have d2 := below_some HX.out (HS0.out.cell (k := 2) 1 rfl rfl)
      have d3 := below_some HX.out (HS0.out.cell (k := 3) 1 rfl rfl)
      have d4 := below_some HX.out (HS0.out.cell (k := 4) 1 rfl rfl)
      by_cases hlt : k < n2
      · have hg1 := rNote_get (HR.out.2.2.1.keep (w' := W1) fun b hb => (HX.out.block b (Nat.lt_of_lt_of_le hb HBW.out)).trans (HB0.out.block b (Nat.lt_of_lt_of_le hb hB))) hlt
        have hg2 := rNote_get (HQ.out.2.2.1.keep (w' := W1) fun b hb => (HX.out.block b (Nat.lt_of_lt_of_le hb HBW.out)).trans (HB0.out.block b (Nat.lt_of_lt_of_le hb hB))) hlt
        (obtain ⟨x, b, off, hx, rfl, hb, u0, u1, u2, x0, x1, x2, x3⟩ := hg1)
        (obtain ⟨y, b', off', hy, rfl, hb', v0, v1, v2, y0, y1, y2, y3⟩ := hg2)
        obtain rfl : x = y := by rw [hx] at hy; injection hy
        clear hx hy
        have f1 : (k : Int) < (n2 : Nat) := by omega
        have f2 : (0 : Int) ≤ (k : Nat) := by omega
        have f3 : ((k : Nat) : Int).toNat = k := by omega
        go_wp2
        go_quiet (fail)
        go_wp2
        go_roundg (n2 - (k + 1))
        case measure => omega
        case rel => exact ⟨k + 1, Nat.le_refl _, by omega, by go_num, below_drewN HX.out _⟩
      have f1 : ¬ (k : Int) < (n2 : Nat) := by omega
      go_wp2
      clear b0 b1 b2 b3 b4 d0 d1 d2 d3 d4
      clear f1
      have HXX := Lib.hid HX.out
      clear HX
      go_loopg [89] n3 (fun gg i wr => ∃ k : Nat, n3 - k ≤ gg ∧ k ≤ n3 ∧ i = .int .i64 k ∧ Below W0.heap.size W0 wr)
      case atStart => exact ⟨0, Nat.le_refl _, Nat.zero_le _, rfl, HXX.out⟩
      case round =>
      clear HXX
      obtain ⟨k, hgk, hk, rfl, hbel⟩ := hrel
      obtain ⟨W1, rfl⟩ : ∃ W1 : World, W1 = wr := ⟨_, rfl⟩
      have HX := Lib.hid hbel
      clear hbel
      have b0 := below_some HX.out (HS0.out.cell (k := 0) 0 rfl rfl)
      have b1 := below_some HX.out (HS0.out.cell (k := 1) 0 rfl rfl)
      have b2 := below_some HX.out (HS0.out.cell (k := 2) 0 rfl rfl)
      have b3 := below_some HX.out (HS0.out.cell (k := 3) 0 rfl rfl)
      have b4 := below_some HX.out (HS0.out.cell (k := 4) 0 rfl rfl)
      have d0 := below_some HX.out (HS0.out.cell (k := 0) 1 rfl rfl)
      have d1 := below_some HX.out (HS0.out.cell (k := 1) 1 rfl rfl)
      have d2 := below_some HX.out (HS0.out.cell (k := 2) 1 rfl rfl)
      have d3 := below_some HX.out (HS0.out.cell (k := 3) 1 rfl rfl)
      have d4 := below_some HX.out (HS0.out.cell (k := 4) 1 rfl rfl)
      by_cases hlt : k < n3
      · have hg1 := rTold_get (HR.out.2.2.2.1.keep (w' := W1) fun b hb => (HX.out.block b (Nat.lt_of_lt_of_le hb HBW.out)).trans (HB0.out.block b (Nat.lt_of_lt_of_le hb hB))) hlt
        have hg2 := rTold_get (HQ.out.2.2.2.1.keep (w' := W1) fun b hb => (HX.out.block b (Nat.lt_of_lt_of_le hb HBW.out)).trans (HB0.out.block b (Nat.lt_of_lt_of_le hb hB))) hlt
        (obtain ⟨x, b, off, hx, rfl, hb, u0, u1, u2, x0, x1, x2⟩ := hg1)
        (obtain ⟨y, b', off', hy, rfl, hb', v0, v1, v2, y0, y1, y2⟩ := hg2)
        obtain rfl : x = y := by rw [hx] at hy; injection hy
        clear hx hy
        have f1 : (k : Int) < (n3 : Nat) := by omega
        have f2 : (0 : Int) ≤ (k : Nat) := by omega
        have f3 : ((k : Nat) : Int).toNat = k := by omega
        go_wp2
        go_quiet (fail)
        go_wp2
        go_roundg (n3 - (k + 1))
        case measure => omega
        case rel => exact ⟨k + 1, Nat.le_refl _, by omega, by go_num, below_drewN HX.out _⟩
      have f1 : ¬ (k : Int) < (n3 : Nat) := by omega
      go_wp2
      clear b0 b1 b2 b3 b4 d0 d1 d2 d3 d4
      clear f1
      go_ret
      exact ⟨rfl, below_step HB0.out HX.out⟩
end Go.Proofs.Ytaepohocabealaa

/-
  What stays true while a call only makes memory: a list of facts that move on together. No program in sight. No conditions.
-/
namespace Go.Proofs.Ytaepohocabealaa
open Go.RowKit
namespace Mm
structure Fact where
  holds : World → Prop
  keep : ∀ {w w' : World}, holds w → Below w.heap.size w w' → holds w'
/-- a reading of a struct, a slice; a block known whole -/
def frd {α : Type} (R : Rep α) (x : α) (cs : List Value) : Fact := ⟨fun w => R.at_ w w.heap.size x cs, fun h hb => R.more (R.keep h fun b hb' => hb.block b hb') hb.size⟩
def fsl {α : Type} (E : Rep α) (xs : List α) (A : Option Addr) (n c : Nat) : Fact := ⟨fun w => SlAt E w w.heap.size xs A n c, fun h hb => (h.keep fun b hb' => hb.block b hb').more hb.size⟩
def fbk (g : Nat) (t : TypeId) (cs : List Value) : Fact := ⟨fun w => Blk w g t cs, fun h hb => h.bel hb⟩
structure Facts (w0 w : World) (fs : List Fact) : Prop where
  bel : Below w0.heap.size w0 w
  all : ∀ f, f ∈ fs → f.holds w
section
variable {w0 w w' : World} {fs gs : List Fact} {f : Fact}
theorem Facts.nil (w : World) : Facts w w [] := ⟨Below.refl _ _, fun f h => by cases h⟩
theorem Facts.step (h : Facts w0 w fs) (hb : Below w.heap.size w w') : Facts w0 w' fs := ⟨below_step h.bel hb, fun f hf => f.keep (h.all f hf) hb⟩
theorem Facts.add (h : Facts w0 w fs) (hb : Below w.heap.size w w') (hf : f.holds w') : Facts w0 w' (fs ++ [f]) :=
  ⟨below_step h.bel hb, fun g hg => by
    rcases List.mem_append.1 hg with hg | hg
    · exact g.keep (h.all g hg) hb
    · rw [List.mem_singleton.1 hg]; exact hf⟩
theorem Facts.put (h : Facts w0 w fs) (hf : f.holds w) : Facts w0 w (fs ++ [f]) := h.add (Below.refl _ _) hf
/-- a variable of its own: its block, laid at the world's end -/
theorem Facts.var {g : Nat} (h : Facts w0 w fs) (hg : w.heap.size = g) (t : TypeId) (cs : List Value) : Facts w0 (w.alloc (.cells cs.toArray t)) (fs ++ [fbk g t cs]) := by
  subst hg
  exact h.add (below_new (Below.refl _ _) _) (Blk.new w t cs)
theorem Facts.at_ (h : Facts w0 w fs) (i : Nat) (hi : fs[i]? = some f) : f.holds w := h.all f (List.mem_of_getElem? hi)
theorem Facts.rd {α : Type} {R : Rep α} {x : α} {cs : List Value} (h : Facts w0 w fs) (i : Nat) (hi : fs[i]? = some (frd R x cs)) : R.at_ w w.heap.size x cs := h.at_ i hi
theorem Facts.sl {α : Type} {E : Rep α} {xs : List α} {A : Option Addr} {n c : Nat} (h : Facts w0 w fs) (i : Nat) (hi : fs[i]? = some (fsl E xs A n c)) : SlAt E w w.heap.size xs A n c := h.at_ i hi
theorem Facts.cell {g k : Nat} {t : TypeId} {cs : List Value} {u : Value} (h : Facts w0 w fs) (i : Nat) (hi : fs[i]? = some (fbk g t cs)) (hu : cs[k]? = some u) : w.cell? ⟨g, k, none⟩ = some u := (show Blk w g t cs from h.at_ i hi).cell hu
theorem Facts.und (h : Facts w0 w fs) (x : Und w) : Facts w0 (und w x) fs := h.step x.h
theorem Facts.fewer (h : Facts w0 w fs) (hs : gs.Sublist fs) : Facts w0 w gs := ⟨h.bel, fun f hf => h.all f (hs.subset hf)⟩
end
end Mm
end Go.Proofs.Ytaepohocabealaa
