/-
  Joined texts, in build order: Tb, Cg, Tc, Td, Te, Rs, Tf, Cu, Pg. Each part says what it proves; no conditions beyond those that a part names.
-/
import Derived.Test.YtaepohocabealaaZ01
import Derived.Test.YtaepohocabealaaZ02
import Derived.Test.YtaepohocabealaaZ03
import Derived.Test.YtaepohocabealaaZ04
import Derived.Lib.Hide
import Derived.Deep.DeepFit
import Derived.Deep.RegionLaw
import Derived.Deep.LoopGhost
import Derived.Laws.Bits64b
import Derived.WalkSmall
/-
  Contracts: the reference's teller, by value: the steps on the line, and the step whole (chapter 10). No conditions.
-/
namespace Go.Proofs.Ytaepohocabealaa
open Go.RowKit
attribute [local go_sem] und_cell cha_cell World.cell?_alloc_some
theorem Mm.flatA_note : Mm.Flat rNote Mm.encNote := ⟨fun h => (rNote_at h).1, fun h w' => rNote_own_mk (rNote_at h).2⟩
theorem Pl.lineNo (t : Tell) (kd kk : Int) (h1 : kd ≠ 1) (h2 : kd ≠ 2) (h : kk < 0 ∨ (t.Line.length : Int) ≤ kk ∨ kd < 3 ∨ 5 < kd) : Pl.tstep t ⟨kd, kk, ⟨#[]⟩⟩ = (t, false) := by
  unfold Pl.tstep
  rw [if_neg (show ¬ kd = 1 by omega)]
  by_cases h3 : (⟨#[]⟩ : ByteArray).size ≠ 0 ∨ kk < 0
  · rw [if_pos h3]
  · have : ¬ kk < 0 := fun hh => h3 (.inr hh)
    rw [if_neg h3, if_neg (show ¬ kd = 2 by omega), if_neg (by show ¬ (3 ≤ kd ∧ kd ≤ 5 ∧ kk < t.Line.length); omega)]
set_option maxRecDepth 100000 in
set_option maxHeartbeats 2000000 in
theorem l10StepBad_c (t : Tell) (kd kk : Int) (cs : List Value) (fp : List Nat) (w : World) (h : (Mm.tow rTell t cs fp).holds w) (hnd : fp.Nodup) (h1 : kd ≠ 1) (h2 : kd ≠ 2) (hno : kk < 0 ∨ (t.Line.length : Int) ≤ kk ∨ kd < 3 ∨ 5 < kd) :
    Calls Try.prog 50 #[.agg cs.toArray, .agg #[.int .i64 kd, .int .i64 kk, .string ⟨#[]⟩]] w (TellAns2 (Pl.tstep t ⟨kd, kk, ⟨#[]⟩⟩) fp w) := by
  have HF := Lib.hid (Pl.lineNo t kd kk h1 h2 hno)
  obtain ⟨A0, c0, A1, c1, A2, c2, A3, c3, A4, c4, f0, f1, f2, f3, f4, rfl, rfl, hs⟩ := openv_Tell (Mm.SepF.one _ w h hnd)
  have q1 : (kd == 1) = false := by simpa using h1
  have q2 : (kd == 2) = false := by simpa using h2
  have H0 := Lib.hid hs
  clear h hs hnd h1 h2
  by_cases g1 : kk < 0
  · have HN := Lib.hid hno
    clear hno
    go_enter Try.func50, Try.ntmps50
    go_upto_region 1 with fail
    obtain ⟨gt, hgt⟩ : ∃ gt, w.heap.size = gt := ⟨_, rfl⟩
    obtain ⟨gm, hgm⟩ : ∃ gm, gt + 1 = gm := ⟨_, rfl⟩
    obtain ⟨gr, hgr⟩ : ∃ gr, gm + 1 = gr := ⟨_, rfl⟩
    obtain ⟨W, hW⟩ : ∃ W, ((w.alloc (.cells #[.slice A0 t.Texts.length c0, .slice A1 t.Heard.length c1, .slice A2 t.Line.length c2, .slice A3 t.Log.length c3, .slice A4 t.Next.length c4] 31)).alloc (.cells #[.int .i64 kd, .int .i64 kk, .string ⟨#[]⟩] 46)).alloc (.cells #[.slice none 0 0, .slice none 0 0, .slice none 0 0, .slice none 0 0, .slice none 0 0] 31) = W := ⟨_, rfl⟩
    have HS := Lib.hid ((((H0.out.alloc' hgt 31 [.slice A0 t.Texts.length c0, .slice A1 t.Heard.length c1, .slice A2 t.Line.length c2, .slice A3 t.Log.length c3, .slice A4 t.Next.length c4]).alloc' (g := gm) (by rw [Mm.sz1, hgt, hgm]) 46 [.int .i64 kd, .int .i64 kk, .string ⟨#[]⟩]).alloc' (g := gr) (by rw [Mm.sz2, hgt]; omega) 31 zTell).atW hW)
    rw [hW, hgt, hgm, hgr]
    clear hW hgt hgm hgr
    have HSR := HS
    have b0 := HSR.out.cell (k := 0) 2 rfl rfl
    have b1 := HSR.out.cell (k := 1) 2 rfl rfl
    have b2 := HSR.out.cell (k := 2) 2 rfl rfl
    have b3 := HSR.out.cell (k := 3) 2 rfl rfl
    have b4 := HSR.out.cell (k := 4) 2 rfl rfl
    have m0 := HSR.out.cell (k := 0) 1 rfl rfl
    have m1 := HSR.out.cell (k := 1) 1 rfl rfl
    have m2 := HSR.out.cell (k := 2) 1 rfl rfl
    have r0 := HSR.out.cell (k := 0) 0 rfl rfl
    have r1 := HSR.out.cell (k := 1) 0 rfl rfl
    have r2 := HSR.out.cell (k := 2) 0 rfl rfl
    have r3 := HSR.out.cell (k := 3) 0 rfl rfl
    have r4 := HSR.out.cell (k := 4) 0 rfl rfl
    have z0 := HSR.out.frz (k := 0) 0 rfl
    have z1 := HSR.out.frz (k := 1) 0 rfl
    have z2 := HSR.out.frz (k := 2) 0 rfl
    have z3 := HSR.out.frz (k := 3) 0 rfl
    have z4 := HSR.out.frz (k := 4) 0 rfl
    go_wp2
    have HSR := HS
    have HSF := Lib.hid (((((HSR.out.setBlk (k := 0) 0 rfl (.slice A0 t.Texts.length c0)).setBlk (k := 1) 0 rfl (.slice A1 t.Heard.length c1)).setBlk (k := 2) 0 rfl (.slice A2 t.Line.length c2)).setBlk (k := 3) 0 rfl (.slice A3 t.Log.length c3)).setBlk (k := 4) 0 rfl (.slice A4 t.Next.length c4))
    have q0 := HSF.out.cell (k := 0) 0 rfl rfl
    have q1 := HSF.out.cell (k := 1) 0 rfl rfl
    have q2 := HSF.out.cell (k := 2) 0 rfl rfl
    have q3 := HSF.out.cell (k := 3) 0 rfl rfl
    have q4 := HSF.out.cell (k := 4) 0 rfl rfl
    exact bodyPost_ret (v := .tuple #[.agg #[.slice A0 t.Texts.length c0, .slice A1 t.Heard.length c1, .slice A2 t.Line.length c2, .slice A3 t.Log.length c3, .slice A4 t.Next.length c4], .bool false]) (by simp [results, Try.results50, go_sem, q0, q1, q2, q3, q4]) rfl ⟨[.slice A0 t.Texts.length c0, .slice A1 t.Heard.length c1, .slice A2 t.Line.length c2, .slice A3 t.Log.length c3, .slice A4 t.Next.length c4], _, by rw [HF.out], by rw [HF.out]; exact (shutv_Tell (x := t) HSF.out.tail.tail.tail).left⟩
  by_cases g2 : (t.Line.length : Int) ≤ kk
  · have HN := Lib.hid hno
    clear hno
    have g2' : decide (kk < (t.Line.length : Int)) = false := by simp; omega
    go_enter Try.func50, Try.ntmps50
    go_upto_region 1 with fail
    obtain ⟨gt, hgt⟩ : ∃ gt, w.heap.size = gt := ⟨_, rfl⟩
    obtain ⟨gm, hgm⟩ : ∃ gm, gt + 1 = gm := ⟨_, rfl⟩
    obtain ⟨gr, hgr⟩ : ∃ gr, gm + 1 = gr := ⟨_, rfl⟩
    obtain ⟨W, hW⟩ : ∃ W, ((w.alloc (.cells #[.slice A0 t.Texts.length c0, .slice A1 t.Heard.length c1, .slice A2 t.Line.length c2, .slice A3 t.Log.length c3, .slice A4 t.Next.length c4] 31)).alloc (.cells #[.int .i64 kd, .int .i64 kk, .string ⟨#[]⟩] 46)).alloc (.cells #[.slice none 0 0, .slice none 0 0, .slice none 0 0, .slice none 0 0, .slice none 0 0] 31) = W := ⟨_, rfl⟩
    have HS := Lib.hid ((((H0.out.alloc' hgt 31 [.slice A0 t.Texts.length c0, .slice A1 t.Heard.length c1, .slice A2 t.Line.length c2, .slice A3 t.Log.length c3, .slice A4 t.Next.length c4]).alloc' (g := gm) (by rw [Mm.sz1, hgt, hgm]) 46 [.int .i64 kd, .int .i64 kk, .string ⟨#[]⟩]).alloc' (g := gr) (by rw [Mm.sz2, hgt]; omega) 31 zTell).atW hW)
    rw [hW, hgt, hgm, hgr]
    clear hW hgt hgm hgr
    have HSR := HS
    have b0 := HSR.out.cell (k := 0) 2 rfl rfl
    have b1 := HSR.out.cell (k := 1) 2 rfl rfl
    have b2 := HSR.out.cell (k := 2) 2 rfl rfl
    have b3 := HSR.out.cell (k := 3) 2 rfl rfl
    have b4 := HSR.out.cell (k := 4) 2 rfl rfl
    have m0 := HSR.out.cell (k := 0) 1 rfl rfl
    have m1 := HSR.out.cell (k := 1) 1 rfl rfl
    have m2 := HSR.out.cell (k := 2) 1 rfl rfl
    have r0 := HSR.out.cell (k := 0) 0 rfl rfl
    have r1 := HSR.out.cell (k := 1) 0 rfl rfl
    have r2 := HSR.out.cell (k := 2) 0 rfl rfl
    have r3 := HSR.out.cell (k := 3) 0 rfl rfl
    have r4 := HSR.out.cell (k := 4) 0 rfl rfl
    have z0 := HSR.out.frz (k := 0) 0 rfl
    have z1 := HSR.out.frz (k := 1) 0 rfl
    have z2 := HSR.out.frz (k := 2) 0 rfl
    have z3 := HSR.out.frz (k := 3) 0 rfl
    have z4 := HSR.out.frz (k := 4) 0 rfl
    go_wp2
    have HSR := HS
    have HSF := Lib.hid (((((HSR.out.setBlk (k := 0) 0 rfl (.slice A0 t.Texts.length c0)).setBlk (k := 1) 0 rfl (.slice A1 t.Heard.length c1)).setBlk (k := 2) 0 rfl (.slice A2 t.Line.length c2)).setBlk (k := 3) 0 rfl (.slice A3 t.Log.length c3)).setBlk (k := 4) 0 rfl (.slice A4 t.Next.length c4))
    have q0 := HSF.out.cell (k := 0) 0 rfl rfl
    have q1 := HSF.out.cell (k := 1) 0 rfl rfl
    have q2 := HSF.out.cell (k := 2) 0 rfl rfl
    have q3 := HSF.out.cell (k := 3) 0 rfl rfl
    have q4 := HSF.out.cell (k := 4) 0 rfl rfl
    exact bodyPost_ret (v := .tuple #[.agg #[.slice A0 t.Texts.length c0, .slice A1 t.Heard.length c1, .slice A2 t.Line.length c2, .slice A3 t.Log.length c3, .slice A4 t.Next.length c4], .bool false]) (by simp [results, Try.results50, go_sem, q0, q1, q2, q3, q4]) rfl ⟨[.slice A0 t.Texts.length c0, .slice A1 t.Heard.length c1, .slice A2 t.Line.length c2, .slice A3 t.Log.length c3, .slice A4 t.Next.length c4], _, by rw [HF.out], by rw [HF.out]; exact (shutv_Tell (x := t) HSF.out.tail.tail.tail).left⟩
  · have q3 : Pl.isIn kd 3 5 = false := by unfold Pl.isIn; simp; omega
    have HN := Lib.hid hno
    clear hno
    go_enter Try.func50, Try.ntmps50
    go_upto_region 1 with fail
    obtain ⟨gt, hgt⟩ : ∃ gt, w.heap.size = gt := ⟨_, rfl⟩
    obtain ⟨gm, hgm⟩ : ∃ gm, gt + 1 = gm := ⟨_, rfl⟩
    obtain ⟨gr, hgr⟩ : ∃ gr, gm + 1 = gr := ⟨_, rfl⟩
    obtain ⟨W, hW⟩ : ∃ W, ((w.alloc (.cells #[.slice A0 t.Texts.length c0, .slice A1 t.Heard.length c1, .slice A2 t.Line.length c2, .slice A3 t.Log.length c3, .slice A4 t.Next.length c4] 31)).alloc (.cells #[.int .i64 kd, .int .i64 kk, .string ⟨#[]⟩] 46)).alloc (.cells #[.slice none 0 0, .slice none 0 0, .slice none 0 0, .slice none 0 0, .slice none 0 0] 31) = W := ⟨_, rfl⟩
    have HS := Lib.hid ((((H0.out.alloc' hgt 31 [.slice A0 t.Texts.length c0, .slice A1 t.Heard.length c1, .slice A2 t.Line.length c2, .slice A3 t.Log.length c3, .slice A4 t.Next.length c4]).alloc' (g := gm) (by rw [Mm.sz1, hgt, hgm]) 46 [.int .i64 kd, .int .i64 kk, .string ⟨#[]⟩]).alloc' (g := gr) (by rw [Mm.sz2, hgt]; omega) 31 zTell).atW hW)
    rw [hW, hgt, hgm, hgr]
    clear hW hgt hgm hgr
    have HSR := HS
    have b0 := HSR.out.cell (k := 0) 2 rfl rfl
    have b1 := HSR.out.cell (k := 1) 2 rfl rfl
    have b2 := HSR.out.cell (k := 2) 2 rfl rfl
    have b3 := HSR.out.cell (k := 3) 2 rfl rfl
    have b4 := HSR.out.cell (k := 4) 2 rfl rfl
    have m0 := HSR.out.cell (k := 0) 1 rfl rfl
    have m1 := HSR.out.cell (k := 1) 1 rfl rfl
    have m2 := HSR.out.cell (k := 2) 1 rfl rfl
    have r0 := HSR.out.cell (k := 0) 0 rfl rfl
    have r1 := HSR.out.cell (k := 1) 0 rfl rfl
    have r2 := HSR.out.cell (k := 2) 0 rfl rfl
    have r3 := HSR.out.cell (k := 3) 0 rfl rfl
    have r4 := HSR.out.cell (k := 4) 0 rfl rfl
    have z0 := HSR.out.frz (k := 0) 0 rfl
    have z1 := HSR.out.frz (k := 1) 0 rfl
    have z2 := HSR.out.frz (k := 2) 0 rfl
    have z3 := HSR.out.frz (k := 3) 0 rfl
    have z4 := HSR.out.frz (k := 4) 0 rfl
    go_wp2_with ((go_at_call 56); ((with_reducible refine (l1In_c _ _ _ _).mono ?_)); (rintro e w5 ⟨rfl, rfl⟩))
    have HSR := HS
    have HSF := Lib.hid (((((HSR.out.setBlk (k := 0) 0 rfl (.slice A0 t.Texts.length c0)).setBlk (k := 1) 0 rfl (.slice A1 t.Heard.length c1)).setBlk (k := 2) 0 rfl (.slice A2 t.Line.length c2)).setBlk (k := 3) 0 rfl (.slice A3 t.Log.length c3)).setBlk (k := 4) 0 rfl (.slice A4 t.Next.length c4))
    have q0 := HSF.out.cell (k := 0) 0 rfl rfl
    have q1 := HSF.out.cell (k := 1) 0 rfl rfl
    have q2 := HSF.out.cell (k := 2) 0 rfl rfl
    have q3 := HSF.out.cell (k := 3) 0 rfl rfl
    have q4 := HSF.out.cell (k := 4) 0 rfl rfl
    exact bodyPost_ret (v := .tuple #[.agg #[.slice A0 t.Texts.length c0, .slice A1 t.Heard.length c1, .slice A2 t.Line.length c2, .slice A3 t.Log.length c3, .slice A4 t.Next.length c4], .bool false]) (by simp [results, Try.results50, go_sem, q0, q1, q2, q3, q4]) rfl ⟨[.slice A0 t.Texts.length c0, .slice A1 t.Heard.length c1, .slice A2 t.Line.length c2, .slice A3 t.Log.length c3, .slice A4 t.Next.length c4], _, by rw [HF.out], by rw [HF.out]; exact (shutv_Tell (x := t) HSF.out.tail.tail.tail).left⟩
set_option maxRecDepth 100000 in
set_option maxHeartbeats 2000000 in
theorem l10StepTwice_c (t : Tell) (kk : Int) (cs : List Value) (fp : List Nat) (w : World) (h : (Mm.tow rTell t cs fp).holds w) (hnd : fp.Nodup) (hm : Mm.I64 kk) (h0 : 0 ≤ kk) (hkl : kk < t.Line.length) (hw : Pl.TWf t) :
    Calls Try.prog 50 #[.agg cs.toArray, .agg #[.int .i64 5, .int .i64 kk, .string ⟨#[]⟩]] w (TellAns2 (Pl.tstep t ⟨5, kk, ⟨#[]⟩⟩) fp w) := by
  have HF := Lib.hid (Pl.tstepL t 5 kk h0 (by omega))
  obtain ⟨A0, c0, A1, c1, A2, c2, A3, c3, A4, c4, f0, f1, f2, f3, f4, rfl, rfl, hs⟩ := openv_Tell (Mm.SepF.one _ w h hnd)
  have H0 := Lib.hid hs
  have HM := Lib.hid hm
  have hl30 := hw.line
  have HW := Lib.hid hw
  clear h hs hm hnd hw
  obtain ⟨k, rfl⟩ : ∃ k : Nat, kk = k := ⟨kk.toNat, by omega⟩
  have hk : k < t.Line.length := by omega
  rw [if_pos (by omega)] at HF
  have hx := List.getElem?_eq_getElem hk
  have hna := Pl.noteAt_of (t := t) (k := (k : Int)) (m := t.Line[k]) (by simp)
  have hmk := HW.out.note (k := (k : Int)) (by omega) (by omega)
  rw [hna] at hmk HF
  generalize t.Line[k] = m at hx hna hmk HF
  have HMI := Lib.hid (Mm.note_inv (H0.out.sl 2 rfl) hx)
  obtain ⟨g2, hA2, -, -⟩ := Mm.sl_addr (H0.out.sl 2 rfl) (by omega)
  have hcap : t.Line.length ≤ c2 ∧ c2 ≤ maxLen := by obtain ⟨A', n', c', hv, h1, h2, h3, _⟩ := (H0.out.sl 2 rfl).form; injection hv with _ h4 h5; omega
  unfold maxLen at hcap
  have f1' : ((k : Nat) : Int) < (t.Line.length : Nat) := by omega
  have f2' : (0 : Int) ≤ (k : Nat) := by omega
  have f3' : ((k : Nat) : Int).toNat = k := by omega
  have f5' : ¬ ((t.Line.length : Nat) : Int) ≤ k := by omega
  rw [f3'] at HF
  have HX := Lib.hid hx
  have HMK := Lib.hid hmk
  have HA2 := Lib.hid hA2
  clear hx hmk hna hA2 hkl
  obtain ⟨bk, ⟨who, no, tx⟩⟩ := m
  have q3 : Pl.isIn 5 3 5 = true := by decide
  go_enter Try.func50, Try.ntmps50
  go_upto_region 1 with fail
  obtain ⟨gt, hgt⟩ : ∃ gt, w.heap.size = gt := ⟨_, rfl⟩
  obtain ⟨gm, hgm⟩ : ∃ gm, gt + 1 = gm := ⟨_, rfl⟩
  obtain ⟨gr, hgr⟩ : ∃ gr, gm + 1 = gr := ⟨_, rfl⟩
  obtain ⟨W, hW⟩ : ∃ W, ((w.alloc (.cells #[.slice A0 t.Texts.length c0, .slice A1 t.Heard.length c1, .slice A2 t.Line.length c2, .slice A3 t.Log.length c3, .slice A4 t.Next.length c4] 31)).alloc (.cells #[.int .i64 5, .int .i64 k, .string ⟨#[]⟩] 46)).alloc (.cells #[.slice none 0 0, .slice none 0 0, .slice none 0 0, .slice none 0 0, .slice none 0 0] 31) = W := ⟨_, rfl⟩
  have HS := Lib.hid ((((H0.out.alloc' hgt 31 [.slice A0 t.Texts.length c0, .slice A1 t.Heard.length c1, .slice A2 t.Line.length c2, .slice A3 t.Log.length c3, .slice A4 t.Next.length c4]).alloc' (g := gm) (by rw [Mm.sz1, hgt, hgm]) 46 [.int .i64 5, .int .i64 k, .string ⟨#[]⟩]).alloc' (g := gr) (by rw [Mm.sz2, hgt]; omega) 31 zTell).atW hW)
  rw [hW, hgt, hgm, hgr]
  clear hW hgt hgm hgr
  have HSR := HS
  have b0 := HSR.out.cell (k := 0) 2 rfl rfl
  have b1 := HSR.out.cell (k := 1) 2 rfl rfl
  have b2 := HSR.out.cell (k := 2) 2 rfl rfl
  have b3 := HSR.out.cell (k := 3) 2 rfl rfl
  have b4 := HSR.out.cell (k := 4) 2 rfl rfl
  have m0 := HSR.out.cell (k := 0) 1 rfl rfl
  have m1 := HSR.out.cell (k := 1) 1 rfl rfl
  have m2 := HSR.out.cell (k := 2) 1 rfl rfl
  have r0 := HSR.out.cell (k := 0) 0 rfl rfl
  have r1 := HSR.out.cell (k := 1) 0 rfl rfl
  have r2 := HSR.out.cell (k := 2) 0 rfl rfl
  have r3 := HSR.out.cell (k := 3) 0 rfl rfl
  have r4 := HSR.out.cell (k := 4) 0 rfl rfl
  have z0 := HSR.out.frz (k := 0) 0 rfl
  have z1 := HSR.out.frz (k := 1) 0 rfl
  have z2 := HSR.out.frz (k := 2) 0 rfl
  have z3 := HSR.out.frz (k := 3) 0 rfl
  have z4 := HSR.out.frz (k := 4) 0 rfl
  obtain rfl : A2 = some ⟨g2, 0, none⟩ := HA2.out
  obtain ⟨e20, e21, e22, e23⟩ := rNote_ocell (HS.out.sl 5 rfl) (HS.out.ndat (i := 5) rfl) HX.out
  go_upto_region 16 with ((go_at_call 56); ((with_reducible refine (l1In_c _ _ _ _).mono ?_)); (rintro e w5 ⟨rfl, rfl⟩))
  obtain ⟨gx, hgx⟩ : ∃ gx, W.heap.size = gx := ⟨_, rfl⟩
  obtain ⟨W2, hW2⟩ : ∃ W2, W.alloc (.cells #[.bool bk, .int .i64 who, .int .i64 no, .string tx] 94) = W2 := ⟨_, rfl⟩
  have HS2 := Lib.hid ((HS.out.alloc' hgx 94 [.bool bk, .int .i64 who, .int .i64 no, .string tx]).atW hW2)
  rw [hW2, hgx]
  clear b0 b1 b2 b3 b4 m0 m1 m2 r0 r1 r2 r3 r4 z0 z1 z2 z3 z4
  clear hW2 hgx e20 e21 e22 e23
  have x0 := HS2.out.cell (k := 0) 0 rfl rfl
  have x1 := HS2.out.cell (k := 1) 0 rfl rfl
  have x2 := HS2.out.cell (k := 2) 0 rfl rfl
  have x3 := HS2.out.cell (k := 3) 0 rfl rfl
  have HSR := Lib.hid HS2.out.tail
  have b0 := HSR.out.cell (k := 0) 2 rfl rfl
  have b1 := HSR.out.cell (k := 1) 2 rfl rfl
  have b2 := HSR.out.cell (k := 2) 2 rfl rfl
  have b3 := HSR.out.cell (k := 3) 2 rfl rfl
  have b4 := HSR.out.cell (k := 4) 2 rfl rfl
  have m0 := HSR.out.cell (k := 0) 1 rfl rfl
  have m1 := HSR.out.cell (k := 1) 1 rfl rfl
  have m2 := HSR.out.cell (k := 2) 1 rfl rfl
  have r0 := HSR.out.cell (k := 0) 0 rfl rfl
  have r1 := HSR.out.cell (k := 1) 0 rfl rfl
  have r2 := HSR.out.cell (k := 2) 0 rfl rfl
  have r3 := HSR.out.cell (k := 3) 0 rfl rfl
  have r4 := HSR.out.cell (k := 4) 0 rfl rfl
  have z0 := HSR.out.frz (k := 0) 0 rfl
  have z1 := HSR.out.frz (k := 1) 0 rfl
  have z2 := HSR.out.frz (k := 2) 0 rfl
  have z3 := HSR.out.frz (k := 3) 0 rfl
  have z4 := HSR.out.frz (k := 4) 0 rfl
  rw [if_pos trivial] at HF
  by_cases hl : t.Line.length = 30
  · rw [if_pos hl] at HF
    have f4' : (((t.Line.length : Nat) : Int) == 30) = true := by simp [hl]
    have HL := Lib.hid hl
    clear hl
    go_wp2
    have HSF := Lib.hid (((((HSR.out.setBlk (k := 0) 0 rfl (.slice A0 t.Texts.length c0)).setBlk (k := 1) 0 rfl (.slice A1 t.Heard.length c1)).setBlk (k := 2) 0 rfl (.slice (some ⟨g2, 0, none⟩) t.Line.length c2)).setBlk (k := 3) 0 rfl (.slice A3 t.Log.length c3)).setBlk (k := 4) 0 rfl (.slice A4 t.Next.length c4))
    have q0 := HSF.out.cell (k := 0) 0 rfl rfl
    have q1 := HSF.out.cell (k := 1) 0 rfl rfl
    have q2 := HSF.out.cell (k := 2) 0 rfl rfl
    have q3 := HSF.out.cell (k := 3) 0 rfl rfl
    have q4 := HSF.out.cell (k := 4) 0 rfl rfl
    exact bodyPost_ret (v := .tuple #[.agg #[.slice A0 t.Texts.length c0, .slice A1 t.Heard.length c1, .slice (some ⟨g2, 0, none⟩) t.Line.length c2, .slice A3 t.Log.length c3, .slice A4 t.Next.length c4], .bool false]) (by simp [results, Try.results50, go_sem, q0, q1, q2, q3, q4]) rfl ⟨[.slice A0 t.Texts.length c0, .slice A1 t.Heard.length c1, .slice (some ⟨g2, 0, none⟩) t.Line.length c2, .slice A3 t.Log.length c3, .slice A4 t.Next.length c4], _, by rw [HF.out], by rw [HF.out]; exact (shutv_Tell (x := t) HSF.out.tail.tail.tail).left⟩
  · rw [if_neg hl] at HF
    have f4' : (((t.Line.length : Nat) : Int) == 30) = false := by simp; omega
    have HW : Hid (Pl.tsend t ⟨bk, ⟨who, no, tx⟩⟩ = { t with Line := t.Line ++ [⟨bk, ⟨who, no, tx⟩⟩] }) := if_pos (by omega)
    have HC2 := HSR.out
    have HC3 := Lib.hid (shutv_Tell (x := t) (Mm.sep_eq (us := [Mm.tsl strs 40 t.Texts (.slice A0 t.Texts.length c0) f0, Mm.tsl Mm.int 3 t.Heard (.slice A1 t.Heard.length c1) f1, Mm.tsl rNote 94 t.Line (.slice (some ⟨g2, 0, none⟩) t.Line.length c2) f2, Mm.tsl rTold 52 t.Log (.slice A3 t.Log.length c3) f3, Mm.tsl Mm.int 3 t.Next (.slice A4 t.Next.length c4) f4, Mm.tblk gr 31 zTell, Mm.tblk gm 46 [.int .i64 5, .int .i64 k, .string ⟨#[]⟩], Mm.tblk gt 31 [.slice A0 t.Texts.length c0, .slice A1 t.Heard.length c1, .slice (some ⟨g2, 0, none⟩) t.Line.length c2, .slice A3 t.Log.length c3, .slice A4 t.Next.length c4]]) HC2.rot3 rfl))
    clear HC2
    have CW := l10Write_c t ⟨bk, ⟨who, no, tx⟩⟩ _ _ W2 (HC3.out.at_ 0 rfl) (HC3.out.ndat (i := 0) rfl) HMI.out
    rw [← HW.out] at HF
    go_wp2_with (go_at_call 92; refine CW.mono ?_; (clear b0 b1 b2 b3 b4 m0 m1 m2 r0 r1 r2 r3 r4 z0 z1 z2 z3 z4); (rintro e w9 ⟨cs9, fp9, rfl, hL⟩); (obtain ⟨A10, c10, A11, c11, A12, c12, A13, c13, A14, c14, f10, f11, f12, f13, f14, rfl, rfl, hs9⟩ := openv_Tell (HC3.out.call 0 rfl hL)); ((have HSR := Lib.hid hs9)); (clear hL hs9 CW); (have r0 := HSR.out.cell (k := 0) 5 rfl rfl); (have r1 := HSR.out.cell (k := 1) 5 rfl rfl); (have r2 := HSR.out.cell (k := 2) 5 rfl rfl); (have r3 := HSR.out.cell (k := 3) 5 rfl rfl); (have r4 := HSR.out.cell (k := 4) 5 rfl rfl); (have z0 := HSR.out.frz (k := 0) 5 rfl); (have z1 := HSR.out.frz (k := 1) 5 rfl); (have z2 := HSR.out.frz (k := 2) 5 rfl); (have z3 := HSR.out.frz (k := 3) 5 rfl); (have z4 := HSR.out.frz (k := 4) 5 rfl))
    obtain ⟨z, hz⟩ : ∃ z, Pl.tsend t ⟨bk, ⟨who, no, tx⟩⟩ = z := ⟨_, rfl⟩
    rw [hz] at HSR HF ⊢
    have HSF := Lib.hid (((((HSR.out.setBlk (k := 0) 5 rfl (.slice A10 z.Texts.length c10)).setBlk (k := 1) 5 rfl (.slice A11 z.Heard.length c11)).setBlk (k := 2) 5 rfl (.slice A12 z.Line.length c12)).setBlk (k := 3) 5 rfl (.slice A13 z.Log.length c13)).setBlk (k := 4) 5 rfl (.slice A14 z.Next.length c14))
    have q0 := HSF.out.cell (k := 0) 5 rfl rfl
    have q1 := HSF.out.cell (k := 1) 5 rfl rfl
    have q2 := HSF.out.cell (k := 2) 5 rfl rfl
    have q3 := HSF.out.cell (k := 3) 5 rfl rfl
    have q4 := HSF.out.cell (k := 4) 5 rfl rfl
    exact bodyPost_ret (v := .tuple #[.agg #[.slice A10 z.Texts.length c10, .slice A11 z.Heard.length c11, .slice A12 z.Line.length c12, .slice A13 z.Log.length c13, .slice A14 z.Next.length c14], .bool true]) (by simp [results, Try.results50, go_sem, q0, q1, q2, q3, q4]) rfl ⟨[.slice A10 z.Texts.length c10, .slice A11 z.Heard.length c11, .slice A12 z.Line.length c12, .slice A13 z.Log.length c13, .slice A14 z.Next.length c14], _, by rw [HF.out], by rw [HF.out]; exact (shutv_Tell (x := z) HSF.out).head.left⟩
theorem Pl.erase_len {α : Type} {l : List α} {k : Nat} (h : k < l.length) : (l.eraseIdx k).length = l.length - 1 := List.length_eraseIdx_of_lt h
set_option maxRecDepth 100000 in
set_option maxHeartbeats 2000000 in
theorem l10StepLose_c (t : Tell) (kk : Int) (cs : List Value) (fp : List Nat) (w : World) (h : (Mm.tow rTell t cs fp).holds w) (hnd : fp.Nodup) (hm : Mm.I64 kk) (h0 : 0 ≤ kk) (hkl : kk < t.Line.length) (hw : Pl.TWf t) :
    Calls Try.prog 50 #[.agg cs.toArray, .agg #[.int .i64 4, .int .i64 kk, .string ⟨#[]⟩]] w (TellAns2 (Pl.tstep t ⟨4, kk, ⟨#[]⟩⟩) fp w) := by
  have HF := Lib.hid (Pl.tstepL t 4 kk h0 (by omega))
  obtain ⟨A0, c0, A1, c1, A2, c2, A3, c3, A4, c4, f0, f1, f2, f3, f4, rfl, rfl, hs⟩ := openv_Tell (Mm.SepF.one _ w h hnd)
  have H0 := Lib.hid hs
  have HM := Lib.hid hm
  have hl30 := hw.line
  have HW := Lib.hid hw
  clear h hs hm hnd hw
  obtain ⟨k, rfl⟩ : ∃ k : Nat, kk = k := ⟨kk.toNat, by omega⟩
  have hk : k < t.Line.length := by omega
  rw [if_pos (by omega)] at HF
  have hx := List.getElem?_eq_getElem hk
  have hna := Pl.noteAt_of (t := t) (k := (k : Int)) (m := t.Line[k]) (by simp)
  have hmk := HW.out.note (k := (k : Int)) (by omega) (by omega)
  rw [hna] at hmk HF
  generalize t.Line[k] = m at hx hna hmk HF
  have HMI := Lib.hid (Mm.note_inv (H0.out.sl 2 rfl) hx)
  obtain ⟨g2, hA2, -, -⟩ := Mm.sl_addr (H0.out.sl 2 rfl) (by omega)
  have hcap : t.Line.length ≤ c2 ∧ c2 ≤ maxLen := by obtain ⟨A', n', c', hv, h1, h2, h3, _⟩ := (H0.out.sl 2 rfl).form; injection hv with _ h4 h5; omega
  unfold maxLen at hcap
  have f1' : ((k : Nat) : Int) < (t.Line.length : Nat) := by omega
  have f2' : (0 : Int) ≤ (k : Nat) := by omega
  have f3' : ((k : Nat) : Int).toNat = k := by omega
  have f5' : ¬ ((t.Line.length : Nat) : Int) ≤ k := by omega
  rw [f3'] at HF
  have HX := Lib.hid hx
  have HMK := Lib.hid hmk
  have HA2 := Lib.hid hA2
  clear hx hmk hna hA2 hkl
  obtain ⟨bk, ⟨who, no, tx⟩⟩ := m
  have q3 : Pl.isIn 4 3 5 = true := by decide
  go_enter Try.func50, Try.ntmps50
  go_upto_region 1 with fail
  obtain ⟨gt, hgt⟩ : ∃ gt, w.heap.size = gt := ⟨_, rfl⟩
  obtain ⟨gm, hgm⟩ : ∃ gm, gt + 1 = gm := ⟨_, rfl⟩
  obtain ⟨gr, hgr⟩ : ∃ gr, gm + 1 = gr := ⟨_, rfl⟩
  obtain ⟨W, hW⟩ : ∃ W, ((w.alloc (.cells #[.slice A0 t.Texts.length c0, .slice A1 t.Heard.length c1, .slice A2 t.Line.length c2, .slice A3 t.Log.length c3, .slice A4 t.Next.length c4] 31)).alloc (.cells #[.int .i64 4, .int .i64 k, .string ⟨#[]⟩] 46)).alloc (.cells #[.slice none 0 0, .slice none 0 0, .slice none 0 0, .slice none 0 0, .slice none 0 0] 31) = W := ⟨_, rfl⟩
  have HS := Lib.hid ((((H0.out.alloc' hgt 31 [.slice A0 t.Texts.length c0, .slice A1 t.Heard.length c1, .slice A2 t.Line.length c2, .slice A3 t.Log.length c3, .slice A4 t.Next.length c4]).alloc' (g := gm) (by rw [Mm.sz1, hgt, hgm]) 46 [.int .i64 4, .int .i64 k, .string ⟨#[]⟩]).alloc' (g := gr) (by rw [Mm.sz2, hgt]; omega) 31 zTell).atW hW)
  rw [hW, hgt, hgm, hgr]
  clear hW hgt hgm hgr
  have HSR := HS
  have b0 := HSR.out.cell (k := 0) 2 rfl rfl
  have b1 := HSR.out.cell (k := 1) 2 rfl rfl
  have b2 := HSR.out.cell (k := 2) 2 rfl rfl
  have b3 := HSR.out.cell (k := 3) 2 rfl rfl
  have b4 := HSR.out.cell (k := 4) 2 rfl rfl
  have m0 := HSR.out.cell (k := 0) 1 rfl rfl
  have m1 := HSR.out.cell (k := 1) 1 rfl rfl
  have m2 := HSR.out.cell (k := 2) 1 rfl rfl
  have r0 := HSR.out.cell (k := 0) 0 rfl rfl
  have r1 := HSR.out.cell (k := 1) 0 rfl rfl
  have r2 := HSR.out.cell (k := 2) 0 rfl rfl
  have r3 := HSR.out.cell (k := 3) 0 rfl rfl
  have r4 := HSR.out.cell (k := 4) 0 rfl rfl
  have z0 := HSR.out.frz (k := 0) 0 rfl
  have z1 := HSR.out.frz (k := 1) 0 rfl
  have z2 := HSR.out.frz (k := 2) 0 rfl
  have z3 := HSR.out.frz (k := 3) 0 rfl
  have z4 := HSR.out.frz (k := 4) 0 rfl
  obtain rfl : A2 = some ⟨g2, 0, none⟩ := HA2.out
  obtain ⟨e20, e21, e22, e23⟩ := rNote_ocell (HS.out.sl 5 rfl) (HS.out.ndat (i := 5) rfl) HX.out
  go_upto_region 16 with ((go_at_call 56); ((with_reducible refine (l1In_c _ _ _ _).mono ?_)); (rintro e w5 ⟨rfl, rfl⟩))
  obtain ⟨gx, hgx⟩ : ∃ gx, W.heap.size = gx := ⟨_, rfl⟩
  obtain ⟨W2, hW2⟩ : ∃ W2, W.alloc (.cells #[.bool bk, .int .i64 who, .int .i64 no, .string tx] 94) = W2 := ⟨_, rfl⟩
  have HS2 := Lib.hid ((HS.out.alloc' hgx 94 [.bool bk, .int .i64 who, .int .i64 no, .string tx]).atW hW2)
  rw [hW2, hgx]
  clear b0 b1 b2 b3 b4 m0 m1 m2 r0 r1 r2 r3 r4 z0 z1 z2 z3 z4
  clear hW2 hgx e20 e21 e22 e23
  have x0 := HS2.out.cell (k := 0) 0 rfl rfl
  have x1 := HS2.out.cell (k := 1) 0 rfl rfl
  have x2 := HS2.out.cell (k := 2) 0 rfl rfl
  have x3 := HS2.out.cell (k := 3) 0 rfl rfl
  have HSR := Lib.hid HS2.out.tail
  have b0 := HSR.out.cell (k := 0) 2 rfl rfl
  have b1 := HSR.out.cell (k := 1) 2 rfl rfl
  have b2 := HSR.out.cell (k := 2) 2 rfl rfl
  have b3 := HSR.out.cell (k := 3) 2 rfl rfl
  have b4 := HSR.out.cell (k := 4) 2 rfl rfl
  have m0 := HSR.out.cell (k := 0) 1 rfl rfl
  have m1 := HSR.out.cell (k := 1) 1 rfl rfl
  have m2 := HSR.out.cell (k := 2) 1 rfl rfl
  have r0 := HSR.out.cell (k := 0) 0 rfl rfl
  have r1 := HSR.out.cell (k := 1) 0 rfl rfl
  have r2 := HSR.out.cell (k := 2) 0 rfl rfl
  have r3 := HSR.out.cell (k := 3) 0 rfl rfl
  have r4 := HSR.out.cell (k := 4) 0 rfl rfl
  have z0 := HSR.out.frz (k := 0) 0 rfl
  have z1 := HSR.out.frz (k := 1) 0 rfl
  have z2 := HSR.out.frz (k := 2) 0 rfl
  have z3 := HSR.out.frz (k := 3) 0 rfl
  have z4 := HSR.out.frz (k := 4) 0 rfl
  rw [if_neg (show ¬ (4 : Int) = 5 by decide), if_neg (show ¬ (4 : Int) = 3 by decide)] at HF
  have HG1 : Hid (W2.heap.size = W2.heap.size) := rfl
  obtain ⟨i0, hi, hz0, hz1, hz2⟩ := info_parts Try.infoNote
  have HS3 := Lib.hid (HS2.out.fresh (g := W2.heap.size) rfl rNote 94)
  have hcut := Mm.run_cut (P := Try.prog) (t := 28) (s := 4) (by kernel_rfl) (fun W => by kernel_rfl) (g := g2) (n := t.Line.length) (c := c2) (j := k + 1) (i := (k : Int) + 1) (by omega) (by omega)
  obtain ⟨AC, hAC⟩ : ∃ AC, (if c2 = k + 1 then (some ⟨g2, 0, none⟩ : Option Addr) else some ⟨g2, (k + 1) * 4, none⟩) = AC := ⟨_, rfl⟩
  rw [hAC] at hcut
  have HAC := Lib.hid hAC
  clear hAC
  have hw1 : IntKind.i64.wrap ((k : Int) + 1) = (k : Int) + 1 := IntWalk.i64_in _ (by omega)
  have HRD : ∀ W, Hid (Mm.SlAt rNote W W.heap.size t.Line (some ⟨g2, 0, none⟩) t.Line.length c2 → Mm.SlAt rNote W W.heap.size (t.Line.drop (k + 1)) AC (t.Line.length - (k + 1)) (c2 - (k + 1))) := fun W => Lib.hid (fun h => by
    obtain ⟨A', h1, h2⟩ := h.cut (j := k + 1) (by omega) (s := 4) rfl
    rw [HAC.out] at h1
    subst h1
    exact h2)
  have HER : Hid ([] ++ t.Line.take k ++ t.Line.drop (k + 1) = t.Line.eraseIdx k) := Lib.hid (by rw [List.nil_append, List.eraseIdx_eq_take_drop_succ])
  go_wp2_with (first
    | (at_builtin; refine Mm.wpList_appMany rfl (.tmp 136) (.tmp 141) 28 rfl Mm.flatA_note Mm.flat_note i0 _ 40 Try.underlying28 hi hz0 hz1 hz2 rfl HS3.out 0 rfl ((HS3.out.rdSl 7 rfl).take (k := k) (by omega)) (m := k) (by simp) (by unfold maxLen; omega) (by omega) rfl rfl ?_; intro A5 c5 f5 w5 hs5; (have HS5 := Lib.hid hs5); clear hs5; (clear b0 b1 b2 b3 b4 m0 m1 m2 r0 r1 r2 r3 r4 z0 z1 z2 z3 z4); clear x0 x1 x2 x3 HSR; (have x0 := HS5.out.cell (k := 0) 1 rfl rfl); (have x1 := HS5.out.cell (k := 1) 1 rfl rfl); (have x2 := HS5.out.cell (k := 2) 1 rfl rfl); (have x3 := HS5.out.cell (k := 3) 1 rfl rfl); (have HSR := Lib.hid HS5.out.tail.tail); (have b0 := HSR.out.cell (k := 0) 2 rfl rfl); (have b1 := HSR.out.cell (k := 1) 2 rfl rfl); (have b2 := HSR.out.cell (k := 2) 2 rfl rfl); (have b3 := HSR.out.cell (k := 3) 2 rfl rfl); (have b4 := HSR.out.cell (k := 4) 2 rfl rfl); (have m0 := HSR.out.cell (k := 0) 1 rfl rfl); (have m1 := HSR.out.cell (k := 1) 1 rfl rfl); (have m2 := HSR.out.cell (k := 2) 1 rfl rfl); (have r0 := HSR.out.cell (k := 0) 0 rfl rfl); (have r1 := HSR.out.cell (k := 1) 0 rfl rfl); (have r2 := HSR.out.cell (k := 2) 0 rfl rfl); (have r3 := HSR.out.cell (k := 3) 0 rfl rfl); (have r4 := HSR.out.cell (k := 4) 0 rfl rfl); (have z0 := HSR.out.frz (k := 0) 0 rfl); (have z1 := HSR.out.frz (k := 1) 0 rfl); (have z2 := HSR.out.frz (k := 2) 0 rfl); (have z3 := HSR.out.frz (k := 3) 0 rfl); (have z4 := HSR.out.frz (k := 4) 0 rfl))
    | (at_builtin; refine Mm.wpList_appMany rfl (.tmp 143) (.tmp 149) 28 rfl Mm.flatA_note Mm.flat_note i0 _ 40 Try.underlying28 hi hz0 hz1 hz2 rfl HS5.out 0 rfl ((HRD _).out (HS5.out.rdSl 7 rfl)) (m := t.Line.length - 1) (by simp; omega) (by unfold maxLen; omega) (by omega) rfl rfl ?_; intro A6 c6 f6 w6 hs6; rw [HER.out] at hs6; (have HS6 := Lib.hid hs6); (have HS7 := Lib.hid (hs6.setBlk (k := 2) 4 rfl (.slice A6 (t.Line.length - 1) c6))); clear hs6; (clear b0 b1 b2 b3 b4 m0 m1 m2 r0 r1 r2 r3 r4 z0 z1 z2 z3 z4); clear x0 x1 x2 x3 HSR; (have y2 := HS6.out.frz (k := 2) 4 rfl); (have y3 := HS6.out.cell (k := 2) 4 rfl rfl); (have x0 := HS7.out.cell (k := 0) 1 rfl rfl); (have x1 := HS7.out.cell (k := 1) 1 rfl rfl); (have x2 := HS7.out.cell (k := 2) 1 rfl rfl); (have x3 := HS7.out.cell (k := 3) 1 rfl rfl); (have HSR := Lib.hid HS7.out.tail.tail); (have b0 := HSR.out.cell (k := 0) 2 rfl rfl); (have b1 := HSR.out.cell (k := 1) 2 rfl rfl); (have b2 := HSR.out.cell (k := 2) 2 rfl rfl); (have b3 := HSR.out.cell (k := 3) 2 rfl rfl); (have b4 := HSR.out.cell (k := 4) 2 rfl rfl); (have m0 := HSR.out.cell (k := 0) 1 rfl rfl); (have m1 := HSR.out.cell (k := 1) 1 rfl rfl); (have m2 := HSR.out.cell (k := 2) 1 rfl rfl); (have r0 := HSR.out.cell (k := 0) 0 rfl rfl); (have r1 := HSR.out.cell (k := 1) 0 rfl rfl); (have r2 := HSR.out.cell (k := 2) 0 rfl rfl); (have r3 := HSR.out.cell (k := 3) 0 rfl rfl); (have r4 := HSR.out.cell (k := 4) 0 rfl rfl); (have z0 := HSR.out.frz (k := 0) 0 rfl); (have z1 := HSR.out.frz (k := 1) 0 rfl); (have z2 := HSR.out.frz (k := 2) 0 rfl); (have z3 := HSR.out.frz (k := 3) 0 rfl); (have z4 := HSR.out.frz (k := 4) 0 rfl)))
  have HSF := Lib.hid ((((((HS7.out.sel [2, 3, 4, 5, 6, 0, 8, 9] (by decide) rfl).setBlk (k := 0) 0 rfl (.slice A0 t.Texts.length c0)).setBlk (k := 1) 0 rfl (.slice A1 t.Heard.length c1)).setBlk (k := 2) 0 rfl (.slice A6 (t.Line.length - 1) c6)).setBlk (k := 3) 0 rfl (.slice A3 t.Log.length c3)).setBlk (k := 4) 0 rfl (.slice A4 t.Next.length c4))
  have q0 := HSF.out.cell (k := 0) 0 rfl rfl
  have q1 := HSF.out.cell (k := 1) 0 rfl rfl
  have q2 := HSF.out.cell (k := 2) 0 rfl rfl
  have q3 := HSF.out.cell (k := 3) 0 rfl rfl
  have q4 := HSF.out.cell (k := 4) 0 rfl rfl
  exact bodyPost_ret (v := .tuple #[.agg #[.slice A0 t.Texts.length c0, .slice A1 t.Heard.length c1, .slice A6 (t.Line.length - 1) c6, .slice A3 t.Log.length c3, .slice A4 t.Next.length c4], .bool true]) (by simp [results, Try.results50, go_sem, q0, q1, q2, q3, q4]) rfl ⟨[.slice A0 t.Texts.length c0, .slice A1 t.Heard.length c1, .slice A6 (t.Line.length - 1) c6, .slice A3 t.Log.length c3, .slice A4 t.Next.length c4], _, by rw [HF.out], by rw [HF.out]; exact (shutv_Tell (x := { t with Line := t.Line.eraseIdx k }) HSF.out.tail.tail.tail).left⟩
set_option maxRecDepth 100000 in
set_option maxHeartbeats 2000000 in
theorem l10StepTake_c (t : Tell) (kk : Int) (cs : List Value) (fp : List Nat) (w : World) (h : (Mm.tow rTell t cs fp).holds w) (hnd : fp.Nodup) (hm : Mm.I64 kk) (h0 : 0 ≤ kk) (hkl : kk < t.Line.length) (hw : Pl.TWf t) :
    Calls Try.prog 50 #[.agg cs.toArray, .agg #[.int .i64 3, .int .i64 kk, .string ⟨#[]⟩]] w (TellAns2 (Pl.tstep t ⟨3, kk, ⟨#[]⟩⟩) fp w) := by
  have HF := Lib.hid (Pl.tstepL t 3 kk h0 (by omega))
  obtain ⟨A0, c0, A1, c1, A2, c2, A3, c3, A4, c4, f0, f1, f2, f3, f4, rfl, rfl, hs⟩ := openv_Tell (Mm.SepF.one _ w h hnd)
  have H0 := Lib.hid hs
  have HM := Lib.hid hm
  have hl30 := hw.line
  have HW := Lib.hid hw
  clear h hs hm hnd hw
  obtain ⟨k, rfl⟩ : ∃ k : Nat, kk = k := ⟨kk.toNat, by omega⟩
  have hk : k < t.Line.length := by omega
  rw [if_pos (by omega)] at HF
  have hx := List.getElem?_eq_getElem hk
  have hna := Pl.noteAt_of (t := t) (k := (k : Int)) (m := t.Line[k]) (by simp)
  have hmk := HW.out.note (k := (k : Int)) (by omega) (by omega)
  rw [hna] at hmk HF
  generalize t.Line[k] = m at hx hna hmk HF
  have HMI := Lib.hid (Mm.note_inv (H0.out.sl 2 rfl) hx)
  obtain ⟨g2, hA2, -, -⟩ := Mm.sl_addr (H0.out.sl 2 rfl) (by omega)
  have hcap : t.Line.length ≤ c2 ∧ c2 ≤ maxLen := by obtain ⟨A', n', c', hv, h1, h2, h3, _⟩ := (H0.out.sl 2 rfl).form; injection hv with _ h4 h5; omega
  unfold maxLen at hcap
  have f1' : ((k : Nat) : Int) < (t.Line.length : Nat) := by omega
  have f2' : (0 : Int) ≤ (k : Nat) := by omega
  have f3' : ((k : Nat) : Int).toNat = k := by omega
  have f5' : ¬ ((t.Line.length : Nat) : Int) ≤ k := by omega
  rw [f3'] at HF
  have HX := Lib.hid hx
  have HMK := Lib.hid hmk
  have HA2 := Lib.hid hA2
  clear hx hmk hna hA2 hkl
  obtain ⟨bk, ⟨who, no, tx⟩⟩ := m
  have q3 : Pl.isIn 3 3 5 = true := by decide
  go_enter Try.func50, Try.ntmps50
  go_upto_region 1 with fail
  obtain ⟨gt, hgt⟩ : ∃ gt, w.heap.size = gt := ⟨_, rfl⟩
  obtain ⟨gm, hgm⟩ : ∃ gm, gt + 1 = gm := ⟨_, rfl⟩
  obtain ⟨gr, hgr⟩ : ∃ gr, gm + 1 = gr := ⟨_, rfl⟩
  obtain ⟨W, hW⟩ : ∃ W, ((w.alloc (.cells #[.slice A0 t.Texts.length c0, .slice A1 t.Heard.length c1, .slice A2 t.Line.length c2, .slice A3 t.Log.length c3, .slice A4 t.Next.length c4] 31)).alloc (.cells #[.int .i64 3, .int .i64 k, .string ⟨#[]⟩] 46)).alloc (.cells #[.slice none 0 0, .slice none 0 0, .slice none 0 0, .slice none 0 0, .slice none 0 0] 31) = W := ⟨_, rfl⟩
  have HS := Lib.hid ((((H0.out.alloc' hgt 31 [.slice A0 t.Texts.length c0, .slice A1 t.Heard.length c1, .slice A2 t.Line.length c2, .slice A3 t.Log.length c3, .slice A4 t.Next.length c4]).alloc' (g := gm) (by rw [Mm.sz1, hgt, hgm]) 46 [.int .i64 3, .int .i64 k, .string ⟨#[]⟩]).alloc' (g := gr) (by rw [Mm.sz2, hgt]; omega) 31 zTell).atW hW)
  rw [hW, hgt, hgm, hgr]
  clear hW hgt hgm hgr
  have HSR := HS
  have b0 := HSR.out.cell (k := 0) 2 rfl rfl
  have b1 := HSR.out.cell (k := 1) 2 rfl rfl
  have b2 := HSR.out.cell (k := 2) 2 rfl rfl
  have b3 := HSR.out.cell (k := 3) 2 rfl rfl
  have b4 := HSR.out.cell (k := 4) 2 rfl rfl
  have m0 := HSR.out.cell (k := 0) 1 rfl rfl
  have m1 := HSR.out.cell (k := 1) 1 rfl rfl
  have m2 := HSR.out.cell (k := 2) 1 rfl rfl
  have r0 := HSR.out.cell (k := 0) 0 rfl rfl
  have r1 := HSR.out.cell (k := 1) 0 rfl rfl
  have r2 := HSR.out.cell (k := 2) 0 rfl rfl
  have r3 := HSR.out.cell (k := 3) 0 rfl rfl
  have r4 := HSR.out.cell (k := 4) 0 rfl rfl
  have z0 := HSR.out.frz (k := 0) 0 rfl
  have z1 := HSR.out.frz (k := 1) 0 rfl
  have z2 := HSR.out.frz (k := 2) 0 rfl
  have z3 := HSR.out.frz (k := 3) 0 rfl
  have z4 := HSR.out.frz (k := 4) 0 rfl
  obtain rfl : A2 = some ⟨g2, 0, none⟩ := HA2.out
  obtain ⟨e20, e21, e22, e23⟩ := rNote_ocell (HS.out.sl 5 rfl) (HS.out.ndat (i := 5) rfl) HX.out
  go_upto_region 16 with ((go_at_call 56); ((with_reducible refine (l1In_c _ _ _ _).mono ?_)); (rintro e w5 ⟨rfl, rfl⟩))
  obtain ⟨gx, hgx⟩ : ∃ gx, W.heap.size = gx := ⟨_, rfl⟩
  obtain ⟨W2, hW2⟩ : ∃ W2, W.alloc (.cells #[.bool bk, .int .i64 who, .int .i64 no, .string tx] 94) = W2 := ⟨_, rfl⟩
  have HS2 := Lib.hid ((HS.out.alloc' hgx 94 [.bool bk, .int .i64 who, .int .i64 no, .string tx]).atW hW2)
  rw [hW2, hgx]
  clear b0 b1 b2 b3 b4 m0 m1 m2 r0 r1 r2 r3 r4 z0 z1 z2 z3 z4
  clear hW2 hgx e20 e21 e22 e23
  have x0 := HS2.out.cell (k := 0) 0 rfl rfl
  have x1 := HS2.out.cell (k := 1) 0 rfl rfl
  have x2 := HS2.out.cell (k := 2) 0 rfl rfl
  have x3 := HS2.out.cell (k := 3) 0 rfl rfl
  have HSR := Lib.hid HS2.out.tail
  have b0 := HSR.out.cell (k := 0) 2 rfl rfl
  have b1 := HSR.out.cell (k := 1) 2 rfl rfl
  have b2 := HSR.out.cell (k := 2) 2 rfl rfl
  have b3 := HSR.out.cell (k := 3) 2 rfl rfl
  have b4 := HSR.out.cell (k := 4) 2 rfl rfl
  have m0 := HSR.out.cell (k := 0) 1 rfl rfl
  have m1 := HSR.out.cell (k := 1) 1 rfl rfl
  have m2 := HSR.out.cell (k := 2) 1 rfl rfl
  have r0 := HSR.out.cell (k := 0) 0 rfl rfl
  have r1 := HSR.out.cell (k := 1) 0 rfl rfl
  have r2 := HSR.out.cell (k := 2) 0 rfl rfl
  have r3 := HSR.out.cell (k := 3) 0 rfl rfl
  have r4 := HSR.out.cell (k := 4) 0 rfl rfl
  have z0 := HSR.out.frz (k := 0) 0 rfl
  have z1 := HSR.out.frz (k := 1) 0 rfl
  have z2 := HSR.out.frz (k := 2) 0 rfl
  have z3 := HSR.out.frz (k := 3) 0 rfl
  have z4 := HSR.out.frz (k := 4) 0 rfl
  rw [if_neg (show ¬ (3 : Int) = 5 by decide), if_pos trivial] at HF
  have HWD := Lib.hid (HW.out.drop k)
  obtain ⟨z, hz⟩ : ∃ z, Pl.ttake { t with Line := t.Line.eraseIdx k } ⟨bk, ⟨who, no, tx⟩⟩ = z := ⟨_, rfl⟩
  rw [hz] at HF
  have HZ := Lib.hid hz
  clear hz
  have HG1 : Hid (W2.heap.size = W2.heap.size) := rfl
  obtain ⟨i0, hi, hz0, hz1, hz2⟩ := info_parts Try.infoNote
  have HS3 := Lib.hid (HS2.out.fresh (g := W2.heap.size) rfl rNote 94)
  have hcut := Mm.run_cut (P := Try.prog) (t := 28) (s := 4) (by kernel_rfl) (fun W => by kernel_rfl) (g := g2) (n := t.Line.length) (c := c2) (j := k + 1) (i := (k : Int) + 1) (by omega) (by omega)
  obtain ⟨AC, hAC⟩ : ∃ AC, (if c2 = k + 1 then (some ⟨g2, 0, none⟩ : Option Addr) else some ⟨g2, (k + 1) * 4, none⟩) = AC := ⟨_, rfl⟩
  rw [hAC] at hcut
  have HAC := Lib.hid hAC
  clear hAC
  have hw1 : IntKind.i64.wrap ((k : Int) + 1) = (k : Int) + 1 := IntWalk.i64_in _ (by omega)
  have HRD : ∀ W, Hid (Mm.SlAt rNote W W.heap.size t.Line (some ⟨g2, 0, none⟩) t.Line.length c2 → Mm.SlAt rNote W W.heap.size (t.Line.drop (k + 1)) AC (t.Line.length - (k + 1)) (c2 - (k + 1))) := fun W => Lib.hid (fun h => by
    obtain ⟨A', h1, h2⟩ := h.cut (j := k + 1) (by omega) (s := 4) rfl
    rw [HAC.out] at h1
    subst h1
    exact h2)
  have HER : Hid ([] ++ t.Line.take k ++ t.Line.drop (k + 1) = t.Line.eraseIdx k) := Lib.hid (by rw [List.nil_append, List.eraseIdx_eq_take_drop_succ])
  go_wp2_with (first
    | (at_builtin; refine Mm.wpList_appMany rfl (.tmp 136) (.tmp 141) 28 rfl Mm.flatA_note Mm.flat_note i0 _ 40 Try.underlying28 hi hz0 hz1 hz2 rfl HS3.out 0 rfl ((HS3.out.rdSl 7 rfl).take (k := k) (by omega)) (m := k) (by simp) (by unfold maxLen; omega) (by omega) rfl rfl ?_; intro A5 c5 f5 w5 hs5; (have HS5 := Lib.hid hs5); clear hs5; (clear b0 b1 b2 b3 b4 m0 m1 m2 r0 r1 r2 r3 r4 z0 z1 z2 z3 z4); clear x0 x1 x2 x3 HSR; (have x0 := HS5.out.cell (k := 0) 1 rfl rfl); (have x1 := HS5.out.cell (k := 1) 1 rfl rfl); (have x2 := HS5.out.cell (k := 2) 1 rfl rfl); (have x3 := HS5.out.cell (k := 3) 1 rfl rfl); (have HSR := Lib.hid HS5.out.tail.tail); (have b0 := HSR.out.cell (k := 0) 2 rfl rfl); (have b1 := HSR.out.cell (k := 1) 2 rfl rfl); (have b2 := HSR.out.cell (k := 2) 2 rfl rfl); (have b3 := HSR.out.cell (k := 3) 2 rfl rfl); (have b4 := HSR.out.cell (k := 4) 2 rfl rfl); (have m0 := HSR.out.cell (k := 0) 1 rfl rfl); (have m1 := HSR.out.cell (k := 1) 1 rfl rfl); (have m2 := HSR.out.cell (k := 2) 1 rfl rfl); (have r0 := HSR.out.cell (k := 0) 0 rfl rfl); (have r1 := HSR.out.cell (k := 1) 0 rfl rfl); (have r2 := HSR.out.cell (k := 2) 0 rfl rfl); (have r3 := HSR.out.cell (k := 3) 0 rfl rfl); (have r4 := HSR.out.cell (k := 4) 0 rfl rfl); (have z0 := HSR.out.frz (k := 0) 0 rfl); (have z1 := HSR.out.frz (k := 1) 0 rfl); (have z2 := HSR.out.frz (k := 2) 0 rfl); (have z3 := HSR.out.frz (k := 3) 0 rfl); (have z4 := HSR.out.frz (k := 4) 0 rfl))
    | (at_builtin; refine Mm.wpList_appMany rfl (.tmp 143) (.tmp 149) 28 rfl Mm.flatA_note Mm.flat_note i0 _ 40 Try.underlying28 hi hz0 hz1 hz2 rfl HS5.out 0 rfl ((HRD _).out (HS5.out.rdSl 7 rfl)) (m := t.Line.length - 1) (by simp; omega) (by unfold maxLen; omega) (by omega) rfl rfl ?_; intro A6 c6 f6 w6 hs6; rw [HER.out] at hs6; (have HS6 := Lib.hid hs6); (have HS7 := Lib.hid (hs6.setBlk (k := 2) 4 rfl (.slice A6 (t.Line.length - 1) c6))); clear hs6; (clear b0 b1 b2 b3 b4 m0 m1 m2 r0 r1 r2 r3 r4 z0 z1 z2 z3 z4); clear x0 x1 x2 x3 HSR; (have y2 := HS6.out.frz (k := 2) 4 rfl); (have y3 := HS6.out.cell (k := 2) 4 rfl rfl); (have x0 := HS7.out.cell (k := 0) 1 rfl rfl); (have x1 := HS7.out.cell (k := 1) 1 rfl rfl); (have x2 := HS7.out.cell (k := 2) 1 rfl rfl); (have x3 := HS7.out.cell (k := 3) 1 rfl rfl); (have HSR := Lib.hid HS7.out.tail.tail); (have b0 := HSR.out.cell (k := 0) 2 rfl rfl); (have b1 := HSR.out.cell (k := 1) 2 rfl rfl); (have b2 := HSR.out.cell (k := 2) 2 rfl rfl); (have b3 := HSR.out.cell (k := 3) 2 rfl rfl); (have b4 := HSR.out.cell (k := 4) 2 rfl rfl); (have m0 := HSR.out.cell (k := 0) 1 rfl rfl); (have m1 := HSR.out.cell (k := 1) 1 rfl rfl); (have m2 := HSR.out.cell (k := 2) 1 rfl rfl); (have r0 := HSR.out.cell (k := 0) 0 rfl rfl); (have r1 := HSR.out.cell (k := 1) 0 rfl rfl); (have r2 := HSR.out.cell (k := 2) 0 rfl rfl); (have r3 := HSR.out.cell (k := 3) 0 rfl rfl); (have r4 := HSR.out.cell (k := 4) 0 rfl rfl); (have z0 := HSR.out.frz (k := 0) 0 rfl); (have z1 := HSR.out.frz (k := 1) 0 rfl); (have z2 := HSR.out.frz (k := 2) 0 rfl); (have z3 := HSR.out.frz (k := 3) 0 rfl); (have z4 := HSR.out.frz (k := 4) 0 rfl)))
  have HC3 := Lib.hid (shutv_Tell (x := { t with Line := t.Line.eraseIdx k }) (HS7.out.sel [5, 6, 0, 8, 9, 2] (by decide) rfl))
  have CW := l10Take_c { t with Line := t.Line.eraseIdx k } ⟨bk, ⟨who, no, tx⟩⟩ _ _ _ (HC3.out.at_ 0 rfl) (HC3.out.ndat (i := 0) rfl) HMI.out HWD.out HMK.out
  rw [HZ.out] at CW
  go_wp2_with (go_at_call 93; refine CW.mono ?_; (clear b0 b1 b2 b3 b4 m0 m1 m2 r0 r1 r2 r3 r4 z0 z1 z2 z3 z4); clear x0 x1 x2 x3 y2 y3; (rintro e w9 ⟨cs9, fp9, rfl, hL⟩); (obtain ⟨A10, c10, A11, c11, A12, c12, A13, c13, A14, c14, f10, f11, f12, f13, f14, rfl, rfl, hs9⟩ := openv_Tell (HC3.out.call 0 rfl hL)); ((have HSR := Lib.hid hs9)); (clear hL hs9 CW); (have r0 := HSR.out.cell (k := 0) 5 rfl rfl); (have r1 := HSR.out.cell (k := 1) 5 rfl rfl); (have r2 := HSR.out.cell (k := 2) 5 rfl rfl); (have r3 := HSR.out.cell (k := 3) 5 rfl rfl); (have r4 := HSR.out.cell (k := 4) 5 rfl rfl); (have z0 := HSR.out.frz (k := 0) 5 rfl); (have z1 := HSR.out.frz (k := 1) 5 rfl); (have z2 := HSR.out.frz (k := 2) 5 rfl); (have z3 := HSR.out.frz (k := 3) 5 rfl); (have z4 := HSR.out.frz (k := 4) 5 rfl))
  have HSF := Lib.hid (((((HSR.out.setBlk (k := 0) 5 rfl (.slice A10 z.Texts.length c10)).setBlk (k := 1) 5 rfl (.slice A11 z.Heard.length c11)).setBlk (k := 2) 5 rfl (.slice A12 z.Line.length c12)).setBlk (k := 3) 5 rfl (.slice A13 z.Log.length c13)).setBlk (k := 4) 5 rfl (.slice A14 z.Next.length c14))
  have q0 := HSF.out.cell (k := 0) 5 rfl rfl
  have q1 := HSF.out.cell (k := 1) 5 rfl rfl
  have q2 := HSF.out.cell (k := 2) 5 rfl rfl
  have q3 := HSF.out.cell (k := 3) 5 rfl rfl
  have q4 := HSF.out.cell (k := 4) 5 rfl rfl
  exact bodyPost_ret (v := .tuple #[.agg #[.slice A10 z.Texts.length c10, .slice A11 z.Heard.length c11, .slice A12 z.Line.length c12, .slice A13 z.Log.length c13, .slice A14 z.Next.length c14], .bool true]) (by simp [results, Try.results50, go_sem, q0, q1, q2, q3, q4]) rfl ⟨[.slice A10 z.Texts.length c10, .slice A11 z.Heard.length c11, .slice A12 z.Line.length c12, .slice A13 z.Log.length c13, .slice A14 z.Next.length c14], _, by rw [HF.out], by rw [HF.out]; exact (shutv_Tell (x := z) HSF.out).head.left⟩
theorem l10Step_c (t : Tell) (s : TellStep) (cs : List Value) (fp : List Nat) (w : World) (h : (Mm.tow rTell t cs fp).holds w) (hnd : fp.Nodup) (hm : Mm.I64 s.K ∧ s.Text.size ≤ maxLen) (hw : Pl.TWf t) :
    Calls Try.prog 50 #[.agg cs.toArray, .agg #[.int .i64 s.Kind, .int .i64 s.K, .string s.Text]] w (TellAns2 (Pl.tstep t s) fp w) := by
  obtain ⟨kd, kk, tx⟩ := s
  by_cases h1 : kd = 1
  · subst h1
    have e : Pl.tstep t ⟨1, kk, tx⟩ = Pl.tput t kk tx := by unfold Pl.tstep; rw [if_pos rfl]
    rw [e]
    exact l10StepPut_c t kk tx cs fp w h hnd hm hw
  by_cases h2 : tx.size = 0
  · obtain rfl := ba_empty h2
    by_cases h3 : kd = 2
    · subst h3; exact l10StepSend_c t kk cs fp w h hnd hm.1 hw
    · by_cases hno : kk < 0 ∨ (t.Line.length : Int) ≤ kk ∨ kd < 3 ∨ 5 < kd
      · exact l10StepBad_c t kd kk cs fp w h hnd h1 h3 hno
      · rcases (show kd = 3 ∨ kd = 4 ∨ kd = 5 by omega) with rfl | rfl | rfl
        · exact l10StepTake_c t kk cs fp w h hnd hm.1 (by omega) (by omega) hw
        · exact l10StepLose_c t kk cs fp w h hnd hm.1 (by omega) (by omega) hw
        · exact l10StepTwice_c t kk cs fp w h hnd hm.1 (by omega) (by omega) hw
  · exact l10StepNo_c t kd kk tx cs fp w h hnd h1 h2
end Go.Proofs.Ytaepohocabealaa

/-
  'append([]T{}, l...)' inside a region that draws its order and gives; an empty slice just laid; the two ways of telling what a call owns. No program in sight. No conditions.
-/
namespace Go.Proofs.Ytaepohocabealaa
open Go.RowKit
namespace Mm
theorem Sep.toF {w0 wr : World} {ts : List Thing} (h : Sep w0 wr ts) : SepF [] w0 wr ts := ⟨Chg.of_below h.bel, h.nd, fun b hb => .inr (h.new b hb), h.hold⟩
theorem SepF.toSep {w0 wr : World} {ts : List Thing} (h : SepF [] w0 wr ts) : Sep w0 wr ts := ⟨h.bel0, h.nd, fun b hb => (h.new b hb).resolve_left (fun h => by cases h), h.hold⟩
section
variable {P : Program} {F : List Nat} {w X : World} {ops : Array Oper} {o : Oper} {a a' : Act} {others tk : List Thing} {vals : List Value} {α : Type} {E : Rep α} {enc : α → List Value} {e : TypeId} {xs : List α} {v : Value} {fp : List Nat} {A : Option Addr} {n c B : Nat}
theorem clone_gvq (hgd : o.guard = none) (s y : Operand) (t : TypeId) (ho : o.op = .call { callee := .builtin .append, args := #[s, y], argTypes := #[t, t] }) (d : Nat) (hd : o.dst = some d) (hs : Nat.blt d a.tmps.size = true)
    (hF : Flat E enc) (hN : FlatN E enc) (i : TypeInfo) (z : Value) (bytes : Nat) (ht : P.underlying t = some (.slice e)) (hi : P.info? e = some i) (hz : i.zero = some z) (hsize : i.size = E.size) (hby : i.bytes = bytes) (hzs : z.cells.size = E.size)
    (hsv : a.eval s = v) (hyv : a.eval y = .slice A n c) (hl : SlAt E X B xs A n c) (hn : n ≤ maxLen) (hbytes : n * bytes ≤ 140737488355328)
    (hS : SepF F w X ([tsl E e [] v fp] ++ others)) : wpList P ops (GvQ F w (gSl E e xs vals tk) d a.defers others) [o] a X := by
  refine wpList_appMany hgd s y t ho hF hN i z bytes ht hi hz hsize hby hzs hS 0 rfl hl (m := n) (by simp) hn hbytes hsv hyv ?_
  intro A2 c2 fp' w1 h1
  have e1 : ((a.put o.dst (.slice A2 n c2)).tmps.getD d undef) = .slice A2 n c2 := by
    rw [hd]; exact put_get (by simpa [Nat.blt_eq] using hs) _
  unfold wpList
  exact ⟨rfl, by rw [hd]; rfl, _, ⟨A2, n, c2, fp', e1, rfl, hl.1.symm⟩, h1⟩
theorem gvq_fresh {g d : Nat} {df : List Deferred} (h : SepF F w X others) (hg : X.heap.size = g) (hv : a'.tmps.getD d undef = .slice (some ⟨g, 0, none⟩) 0 0) (hdf : a'.defers = df) : GvQ F w (gSl E e [] vals tk) d df others .normal a' (X.alloc (.cells #[] e)) :=
  ⟨rfl, hdf, _, ⟨_, _, _, _, hv, rfl, rfl⟩, h.fresh hg E e⟩
end
end Mm
end Go.Proofs.Ytaepohocabealaa

/-
  Contracts: new tellers, and the reference's copy of a teller (chapter 10). No conditions.
-/
namespace Go.Proofs.Ytaepohocabealaa
open Go.RowKit
attribute [local go_sem] und_cell cha_cell World.cell?_alloc_some
def Pl.newTe (n : Nat) : Tell := ⟨List.replicate n [], List.replicate n 0, [], [], List.replicate n 0⟩
def Pl.zTe : Tell := ⟨[], [], [], [], []⟩
def Pl.newTell (n : Int) : Tell × Bool := if Pl.isIn n 1 4 = true then (Pl.newTe n.toNat, true) else (Pl.zTe, false)
theorem upto4 {p : Nat → Prop} (h1 : p 1) (h2 : p 2) (h3 : p 3) (h4 : p 4) (n : Nat) (a : 1 ≤ n) (b : n ≤ 4) : p n := by
  have : n = 1 ∨ n = 2 ∨ n = 3 ∨ n = 4 := by omega
  rcases this with rfl | rfl | rfl | rfl <;> assumption
theorem zTe_own {w : World} : rTell.own w Pl.zTe zTell [] := rTell_own_mk (x := Pl.zTe) (f0 := []) (f1 := []) (f2 := []) (f3 := []) (f4 := []) Mm.SlOwn.nil Mm.SlOwn.nil Mm.SlOwn.nil Mm.SlOwn.nil Mm.SlOwn.nil
theorem make_texts (n : Nat) (h1 : 1 ≤ n) (h3 : n ≤ 4) (W : World) : (Instr.makeSlice 26 (.int .i64 n) (.int .i64 n)).run Try.prog W = .ok (.slice (some ⟨W.heap.size, 0, none⟩) n n) (W.alloc (.cells (List.replicate n (Value.slice none 0 0)).toArray 40)) :=
  upto4 (p := fun n => (Instr.makeSlice 26 (.int .i64 n) (.int .i64 n)).run Try.prog W = .ok (.slice (some ⟨W.heap.size, 0, none⟩) n n) (W.alloc (.cells (List.replicate n (Value.slice none 0 0)).toArray 40))) (by kernel_rfl) (by kernel_rfl) (by kernel_rfl) (by kernel_rfl) n h1 h3
theorem make_nums (n : Nat) (h1 : 1 ≤ n) (h3 : n ≤ 4) (W : World) : (Instr.makeSlice 27 (.int .i64 n) (.int .i64 n)).run Try.prog W = .ok (.slice (some ⟨W.heap.size, 0, none⟩) n n) (W.alloc (.cells (List.replicate n (Value.int .i64 0)).toArray 3)) :=
  upto4 (p := fun n => (Instr.makeSlice 27 (.int .i64 n) (.int .i64 n)).run Try.prog W = .ok (.slice (some ⟨W.heap.size, 0, none⟩) n n) (W.alloc (.cells (List.replicate n (Value.int .i64 0)).toArray 3))) (by kernel_rfl) (by kernel_rfl) (by kernel_rfl) (by kernel_rfl) n h1 h3
theorem texts_own {X : World} {n : Nat} (h : n ≤ 4) : Mm.SlOwn strs 40 (X.alloc (.cells (List.replicate n (Value.slice none 0 0)).toArray 40)) (List.replicate n []) (.slice (some ⟨X.heap.size, 0, none⟩) n n) [X.heap.size] := by
  have e : (List.replicate n ([] : List ByteArray)).flatMap (fun _ => [Value.slice none 0 0]) = List.replicate n (Value.slice none 0 0) := by rw [Mm.flatMap_rep]; simp
  exact Mm.SlOwn.of_blk (fun _ => [.slice none 0 0]) (by rw [e]; exact Mm.Blk.new X 40 (List.replicate n (Value.slice none 0 0))) (fun x hx => by rw [(List.mem_replicate.1 hx).2]; exact ⟨_, rfl, Mm.SlOwn.nil⟩) (by simp) (by unfold maxLen; omega)
theorem nums_own {X : World} {n : Nat} (h : n ≤ 4) : Mm.SlOwn Mm.int 3 (X.alloc (.cells (List.replicate n (Value.int .i64 0)).toArray 3)) (List.replicate n 0) (.slice (some ⟨X.heap.size, 0, none⟩) n n) [X.heap.size] := by
  have e : (List.replicate n (0 : Int)).flatMap (fun x => [Value.int .i64 x]) = List.replicate n (Value.int .i64 0) := by rw [Mm.flatMap_rep]; simp
  exact Mm.SlOwn.of_blk (fun x => [.int .i64 x]) (by rw [e]; exact Mm.Blk.new X 3 (List.replicate n (Value.int .i64 0))) (fun x hx => by rw [(List.mem_replicate.1 hx).2]; exact ⟨rfl, by unfold Mm.I64; omega, rfl⟩) (by simp) (by unfold maxLen; omega)
theorem tell_ret {w wr : World} {x : Tell} {cs : List Value} {fp : List Nat} {ts : List Mm.Thing} (h : Mm.SepF [] w wr (Mm.tow rTell x cs fp :: ts)) : Mm.NewAg rTell w x (.returned (.agg cs.toArray)) wr :=
  ⟨cs, fp, rfl, h.at_ 0 rfl, h.ndat (i := 0) rfl, fun b hb => (h.new b (Mm.SepF.mem (i := 0) rfl hb)).resolve_left (fun h => by cases h), h.bel0⟩
theorem tell_ret2 {w wr : World} {x : Tell} {b : Bool} {cs : List Value} {fp : List Nat} {ts : List Mm.Thing} (h : Mm.SepF [] w wr (Mm.tow rTell x cs fp :: ts)) : Mm.Ret2 rTell w x b (.returned (.tuple #[.agg cs.toArray, .bool b])) wr :=
  ⟨cs, fp, rfl, h.at_ 0 rfl, h.ndat (i := 0) rfl, fun b hb => (h.new b (Mm.SepF.mem (i := 0) rfl hb)).resolve_left (fun h => by cases h), h.bel0⟩
set_option maxRecDepth 100000 in
set_option maxHeartbeats 1000000 in
theorem newTell_c (n : Nat) (w : World) (h1 : 1 ≤ n) (h3 : n ≤ 4) : Calls Try.prog 48 #[.int .i64 n] w (Mm.NewAg rTell w (Pl.newTe n)) := by
  have hmk := make_texts n h1 h3
  have hmn := make_nums n h1 h3
  have KS0 := Lib.hid ((Mm.SepF.start w).alloc' rfl 31 zTell)
  go_enter Try.func48, Try.ntmps48
  go_wp2
  obtain ⟨W1, hW1⟩ : ∃ W1, W1 = w.alloc (.cells #[.slice none 0 0, .slice none 0 0, .slice none 0 0, .slice none 0 0, .slice none 0 0] 31) := ⟨_, rfl⟩
  rw [show zTell.toArray = #[.slice none 0 0, .slice none 0 0, .slice none 0 0, .slice none 0 0, .slice none 0 0] from rfl, ← hW1] at KS0
  rw [← hW1]
  clear hW1
  refine Mm.wp_region_give 6 (fun i => match i with | 1 => some (Mm.gSl strs 40 (List.replicate n [])) | 3 => some (Mm.gSl Mm.int 3 (List.replicate n 0)) | 5 => some (Mm.gSl Mm.int 3 (List.replicate n 0)) | _ => none) (fun _ => []) (fun _ => []) (F := []) (D := fun w' => ∃ x : Und W1, w' = und W1 x) (fun X us h => Mm.sep_und h) (by kernel_rfl) (by kernel_rfl) (by kernel_rfl) (Mm.SepF.startDrew _) ?_
  repeat (refine Mm.give_det (by rfl) (by rfl) (by rfl) (fun K hK => ?_); go_big_quiet_op; refine hK _ ?_; clear hK K)
  refine Mm.give_op0 4 (by rfl) rfl (by rfl) (by rfl) (by rfl) (by rfl) Mm.gSl_in (fun others X hX => ?_) ?_
  · go_wp2
    exact Mm.gvq_sl hX (below_new (Below.refl _ _) _) (texts_own h3) (by simp) (by simp) rfl rfl
  rintro v ds ⟨A2, n2, c2, f2, rfl, rfl, hn2⟩
  simp only [Act.put, List.setIfInBounds_toArray, List.set_cons_succ, List.set_cons_zero]
  repeat (refine Mm.give_det (by rfl) (by rfl) (by rfl) (fun K hK => ?_); go_big_quiet_op; refine hK _ ?_; clear hK K)
  refine Mm.give_op0 6 (by rfl) rfl (by rfl) (by rfl) (by rfl) (by rfl) Mm.gSl_in (fun others X hX => ?_) ?_
  · go_wp2
    exact Mm.gvq_sl hX (below_new (Below.refl _ _) _) (nums_own h3) (by simp) (by simp) rfl rfl
  rintro v ds ⟨A3, n3, c3, f3, rfl, rfl, hn3⟩
  simp only [Act.put, List.setIfInBounds_toArray, List.set_cons_succ, List.set_cons_zero]
  repeat (refine Mm.give_det (by rfl) (by rfl) (by rfl) (fun K hK => ?_); go_big_quiet_op; refine hK _ ?_; clear hK K)
  refine Mm.give_op0 8 (by rfl) rfl (by rfl) (by rfl) (by rfl) (by rfl) Mm.gSl_in (fun others X hX => ?_) ?_
  · go_wp2
    exact Mm.gvq_sl hX (below_new (Below.refl _ _) _) (nums_own h3) (by simp) (by simp) rfl rfl
  rintro v ds ⟨A4, n4, c4, f4, rfl, rfl, hn4⟩
  simp only [Act.put, List.setIfInBounds_toArray, List.set_cons_succ, List.set_cons_zero]
  refine Mm.give_nil ?_
  rintro X hX
  have HX := Lib.hid (KS0.out.join (us := [Mm.tsl strs 40 (List.replicate n []) (.slice A2 n2 c2) f2, Mm.tsl Mm.int 3 (List.replicate n 0) (.slice A3 n3 c3) f3, Mm.tsl Mm.int 3 (List.replicate n 0) (.slice A4 n4 c4) f4]) hX)
  clear hX
  have p0 := HX.out.frz (k := 0) 3 rfl
  have p1 := HX.out.frz (k := 1) 3 rfl
  have p2 := HX.out.frz (k := 2) 3 rfl
  have p3 := HX.out.frz (k := 3) 3 rfl
  have p4 := HX.out.frz (k := 4) 3 rfl
  have s0 := HX.out.cell (k := 0) 3 rfl rfl
  have s1 := HX.out.cell (k := 1) 3 rfl rfl
  have s2 := HX.out.cell (k := 2) 3 rfl rfl
  have s3 := HX.out.cell (k := 3) 3 rfl rfl
  have s4 := HX.out.cell (k := 4) 3 rfl rfl
  have HX2 := Lib.hid ((((((HX.out.setBlk (k := 0) 3 rfl (.slice A2 n2 c2)).setBlk (k := 1) 3 rfl (.slice A3 n3 c3)).setBlk (k := 2) 3 rfl (.slice none 0 0)).setBlk (k := 3) 3 rfl (.slice none 0 0)).setBlk (k := 4) 3 rfl (.slice A4 n4 c4)))
  have HX3 := Lib.hid (((HX2.out.sel [2, 3] (by decide) rfl).add (Below.refl _ _) (t := Mm.tsl rTold 52 [] (.slice none 0 0) []) Mm.SlOwn.nil List.nodup_nil (fun b hb => by cases hb)).add (Below.refl _ _) (t := Mm.tsl rNote 94 [] (.slice none 0 0) []) Mm.SlOwn.nil List.nodup_nil (fun b hb => by cases hb))
  have HX4 : Hid (Mm.SepF [] w _ [Mm.tsl strs 40 (Pl.newTe n).Texts (.slice A2 n2 c2) f2, Mm.tsl Mm.int 3 (Pl.newTe n).Heard (.slice A3 n3 c3) f3, Mm.tsl rNote 94 (Pl.newTe n).Line (.slice none 0 0) [], Mm.tsl rTold 52 (Pl.newTe n).Log (.slice none 0 0) [], Mm.tsl Mm.int 3 (Pl.newTe n).Next (.slice A4 n4 c4) f4]) := Lib.hid (((((HX2.out.add (Below.refl _ _) (t := Mm.tsl rTold 52 [] (.slice none 0 0) []) Mm.SlOwn.nil List.nodup_nil (fun b hb => by cases hb)).add (Below.refl _ _) (t := Mm.tsl rNote 94 [] (.slice none 0 0) []) Mm.SlOwn.nil List.nodup_nil (fun b hb => by cases hb))).sel [2, 3, 0, 1, 4] (by decide) rfl))
  clear HX3
  have q0 := HX2.out.cell (k := 0) 3 rfl rfl
  have q1 := HX2.out.cell (k := 1) 3 rfl rfl
  have q2 := HX2.out.cell (k := 2) 3 rfl rfl
  have q3 := HX2.out.cell (k := 3) 3 rfl rfl
  have q4 := HX2.out.cell (k := 4) 3 rfl rfl
  go_wp2
  exact bodyPost_ret (v := .agg #[.slice A2 n2 c2, .slice A3 n3 c3, .slice none 0 0, .slice none 0 0, .slice A4 n4 c4]) (by simp [results, Try.results48, go_sem, q0, q1, q2, q3, q4]) rfl (tell_ret (shutv_Tell (x := Pl.newTe n) HX4.out))
set_option maxRecDepth 100000 in
set_option maxHeartbeats 1000000 in
theorem specNewTell_c (m : Int) (w : World) : Calls Try.prog 28 #[.int .i64 m] w (Mm.Ret2 rTell w (Pl.newTell m).1 (Pl.newTell m).2) := by
  by_cases hin : Pl.isIn m 1 4 = true
  · have HF : Hid (Pl.newTell m = (Pl.newTe m.toNat, true)) := if_pos hin
    have hin' := hin
    unfold Pl.isIn at hin'
    simp only [Bool.and_eq_true, decide_eq_true_eq] at hin'
    obtain ⟨n, rfl⟩ : ∃ n : Nat, m = n := ⟨m.toNat, by omega⟩
    have h1 : 1 ≤ n := by omega
    have h3 : n ≤ 4 := by omega
    clear hin'
    rw [show ((n : Nat) : Int).toNat = n by omega] at HF
    have hmk := make_texts n h1 h3
    have hmn := make_nums n h1 h3
    have KS0 := Lib.hid ((Mm.SepF.start w).alloc' rfl 31 zTell)
    go_enter Try.func28, Try.ntmps28
    go_wp2_with (go_at_call 56; (with_reducible refine (l1In_c _ _ _ _).mono ?_); rintro e w' ⟨rfl, rfl⟩)
    obtain ⟨W1, hW1⟩ : ∃ W1, W1 = w.alloc (.cells #[.slice none 0 0, .slice none 0 0, .slice none 0 0, .slice none 0 0, .slice none 0 0] 31) := ⟨_, rfl⟩
    rw [show zTell.toArray = #[.slice none 0 0, .slice none 0 0, .slice none 0 0, .slice none 0 0, .slice none 0 0] from rfl, ← hW1] at KS0
    rw [← hW1]
    clear hW1
    refine Mm.wp_region_give 6 (fun i => match i with | 1 => some (Mm.gSl strs 40 (List.replicate n [])) | 3 => some (Mm.gSl Mm.int 3 (List.replicate n 0)) | 5 => some (Mm.gSl Mm.int 3 (List.replicate n 0)) | _ => none) (fun _ => []) (fun _ => []) (F := []) (D := fun w' => ∃ x : Und W1, w' = und W1 x) (fun X us h => Mm.sep_und h) (by kernel_rfl) (by kernel_rfl) (by kernel_rfl) (Mm.SepF.startDrew _) ?_
    repeat (refine Mm.give_det (by rfl) (by rfl) (by rfl) (fun K hK => ?_); go_big_quiet_op; refine hK _ ?_; clear hK K)
    refine Mm.give_op0 9 (by rfl) rfl (by rfl) (by rfl) (by rfl) (by rfl) Mm.gSl_in (fun others X hX => ?_) ?_
    · go_wp2
      exact Mm.gvq_sl hX (below_new (Below.refl _ _) _) (texts_own h3) (by simp) (by simp) rfl rfl
    rintro v ds ⟨A2, n2, c2, f2, rfl, rfl, hn2⟩
    simp only [Act.put, List.setIfInBounds_toArray, List.set_cons_succ, List.set_cons_zero]
    repeat (refine Mm.give_det (by rfl) (by rfl) (by rfl) (fun K hK => ?_); go_big_quiet_op; refine hK _ ?_; clear hK K)
    refine Mm.give_op0 11 (by rfl) rfl (by rfl) (by rfl) (by rfl) (by rfl) Mm.gSl_in (fun others X hX => ?_) ?_
    · go_wp2
      exact Mm.gvq_sl hX (below_new (Below.refl _ _) _) (nums_own h3) (by simp) (by simp) rfl rfl
    rintro v ds ⟨A3, n3, c3, f3, rfl, rfl, hn3⟩
    simp only [Act.put, List.setIfInBounds_toArray, List.set_cons_succ, List.set_cons_zero]
    repeat (refine Mm.give_det (by rfl) (by rfl) (by rfl) (fun K hK => ?_); go_big_quiet_op; refine hK _ ?_; clear hK K)
    refine Mm.give_op0 13 (by rfl) rfl (by rfl) (by rfl) (by rfl) (by rfl) Mm.gSl_in (fun others X hX => ?_) ?_
    · go_wp2
      exact Mm.gvq_sl hX (below_new (Below.refl _ _) _) (nums_own h3) (by simp) (by simp) rfl rfl
    rintro v ds ⟨A4, n4, c4, f4, rfl, rfl, hn4⟩
    simp only [Act.put, List.setIfInBounds_toArray, List.set_cons_succ, List.set_cons_zero]
    refine Mm.give_nil ?_
    rintro X hX
    have HX := Lib.hid (KS0.out.join (us := [Mm.tsl strs 40 (List.replicate n []) (.slice A2 n2 c2) f2, Mm.tsl Mm.int 3 (List.replicate n 0) (.slice A3 n3 c3) f3, Mm.tsl Mm.int 3 (List.replicate n 0) (.slice A4 n4 c4) f4]) hX)
    clear hX
    have p0 := HX.out.frz (k := 0) 3 rfl
    have p1 := HX.out.frz (k := 1) 3 rfl
    have p2 := HX.out.frz (k := 2) 3 rfl
    have p3 := HX.out.frz (k := 3) 3 rfl
    have p4 := HX.out.frz (k := 4) 3 rfl
    have s0 := HX.out.cell (k := 0) 3 rfl rfl
    have s1 := HX.out.cell (k := 1) 3 rfl rfl
    have s2 := HX.out.cell (k := 2) 3 rfl rfl
    have s3 := HX.out.cell (k := 3) 3 rfl rfl
    have s4 := HX.out.cell (k := 4) 3 rfl rfl
    have HX2 := Lib.hid ((((((HX.out.setBlk (k := 0) 3 rfl (.slice A2 n2 c2)).setBlk (k := 1) 3 rfl (.slice A3 n3 c3)).setBlk (k := 2) 3 rfl (.slice none 0 0)).setBlk (k := 3) 3 rfl (.slice none 0 0)).setBlk (k := 4) 3 rfl (.slice A4 n4 c4)))
    have HX3 := Lib.hid (((HX2.out.sel [2, 3] (by decide) rfl).add (Below.refl _ _) (t := Mm.tsl rTold 52 [] (.slice none 0 0) []) Mm.SlOwn.nil List.nodup_nil (fun b hb => by cases hb)).add (Below.refl _ _) (t := Mm.tsl rNote 94 [] (.slice none 0 0) []) Mm.SlOwn.nil List.nodup_nil (fun b hb => by cases hb))
    have HX4 : Hid (Mm.SepF [] w _ [Mm.tsl strs 40 (Pl.newTe n).Texts (.slice A2 n2 c2) f2, Mm.tsl Mm.int 3 (Pl.newTe n).Heard (.slice A3 n3 c3) f3, Mm.tsl rNote 94 (Pl.newTe n).Line (.slice none 0 0) [], Mm.tsl rTold 52 (Pl.newTe n).Log (.slice none 0 0) [], Mm.tsl Mm.int 3 (Pl.newTe n).Next (.slice A4 n4 c4) f4]) := Lib.hid (((((HX2.out.add (Below.refl _ _) (t := Mm.tsl rTold 52 [] (.slice none 0 0) []) Mm.SlOwn.nil List.nodup_nil (fun b hb => by cases hb)).add (Below.refl _ _) (t := Mm.tsl rNote 94 [] (.slice none 0 0) []) Mm.SlOwn.nil List.nodup_nil (fun b hb => by cases hb))).sel [2, 3, 0, 1, 4] (by decide) rfl))
    clear HX3
    have q0 := HX2.out.cell (k := 0) 3 rfl rfl
    have q1 := HX2.out.cell (k := 1) 3 rfl rfl
    have q2 := HX2.out.cell (k := 2) 3 rfl rfl
    have q3 := HX2.out.cell (k := 3) 3 rfl rfl
    have q4 := HX2.out.cell (k := 4) 3 rfl rfl
    go_wp2
    rw [HF.out]
    exact bodyPost_ret (v := .tuple #[.agg #[.slice A2 n2 c2, .slice A3 n3 c3, .slice none 0 0, .slice none 0 0, .slice A4 n4 c4], .bool true]) (by simp [results, Try.results28, go_sem, q0, q1, q2, q3, q4]) rfl (tell_ret2 (shutv_Tell (x := Pl.newTe n) HX4.out))
  · have HF : Hid (Pl.newTell m = (Pl.zTe, false)) := if_neg hin
    have hin' : Pl.isIn m 1 4 = false := by simpa using hin
    clear hin
    go_enter Try.func28, Try.ntmps28
    go_wp2_with (go_at_call 56; (with_reducible refine (l1In_c _ _ _ _).mono ?_); rintro e w' ⟨rfl, rfl⟩)
    rw [HF.out]
    exact bodyPost_ret (v := .tuple #[.agg zTell.toArray, .bool false]) (by simp [results, Try.results28, go_sem, zTell]) rfl ⟨zTell, [], rfl, zTe_own, List.nodup_nil, (fun b hb => by cases hb), below_new (Below.refl _ _) _⟩
end Go.Proofs.Ytaepohocabealaa

/-
  Contracts: the reference's copy of a teller (chapter 10). No conditions.
-/
namespace Go.Proofs.Ytaepohocabealaa
open Go.RowKit
attribute [local go_sem] und_cell cha_cell World.cell?_alloc_some
def Mm.encTold (m : Told) : List Value := [.int .i64 m.Who, .int .i64 m.No, .string m.Text]
theorem Mm.flat_told : Mm.FlatN rTold Mm.encTold := ⟨by decide, fun h => by
  obtain ⟨rfl, h1, rfl⟩ := rTold_own h
  exact ⟨rfl, rfl, fun w' => rTold_own_mk h1⟩⟩
theorem Mm.flatA_told : Mm.Flat rTold Mm.encTold := ⟨fun h => (rTold_at h).1, fun h w' => rTold_own_mk (rTold_at h).2⟩
theorem Mm.flatN_int : Mm.FlatN Mm.int (fun x => [.int .i64 x]) := ⟨by decide, fun h => by
  obtain ⟨rfl, h1, rfl⟩ := h
  exact ⟨rfl, rfl, fun w' => ⟨rfl, h1, rfl⟩⟩⟩
theorem Mm.flatN_str : Mm.FlatN Mm.str (fun x => [.string x]) := ⟨by decide, fun h => by
  obtain ⟨rfl, h1, rfl⟩ := h
  exact ⟨rfl, rfl, fun w' => ⟨rfl, h1, rfl⟩⟩⟩
theorem Try.infoI : (Try.prog.info? 3).map (fun i => (i.zero, i.size, i.bytes)) = some (some (.int .i64 0), 1, 8) := by kernel_rfl
theorem Try.infoStrs : (Try.prog.info? 40).map (fun i => (i.zero, i.size, i.bytes)) = some (some (.slice none 0 0), 1, 24) := by kernel_rfl
/-- what a copy of a teller asks: the sizes -/
structure Pl.TSz (t : Tell) : Prop where
  n4 : t.Texts.length ≤ 4
  heard : t.Heard.length ≤ 4
  next : t.Next.length ≤ 4
  line : t.Line.length ≤ 30
  log : t.Log.length ≤ 80
  texts : ∀ (k : Nat) (l : List ByteArray), t.Texts[k]? = some l → l.length ≤ 20
theorem Pl.TWf.sz {t : Tell} (h : Pl.TWf t) : Pl.TSz t := ⟨h.n4, by rw [h.heard]; exact h.n4, by rw [h.next]; exact h.n4, h.line, h.log_len, h.texts⟩
set_option maxRecDepth 100000 in
set_option maxHeartbeats 2000000 in
theorem l10Own_c (t : Tell) (cs : List Value) (w : World) (B : Nat) (hh : rTell.at_ w B t cs) (hB : B ≤ w.heap.size) (hz : Pl.TSz t) :
    Calls Try.prog 51 #[.agg cs.toArray] w (Mm.NewAg rTell w t) := by
  obtain ⟨A0, n0, c0, A1, n1, c1, A2, n2, c2, A3, n3, c3, A4, n4, c4, rfl, r0, r1, r2, r3, r4⟩ := rTell_at hh
  have g0 := r0.1
  have g1 := r1.1
  have g2 := r2.1
  have g3 := r3.1
  have g4 := r4.1
  have z0 := hz.n4
  have z1 := hz.heard
  have z2 := hz.line
  have z3 := hz.log
  have z4 := hz.next
  have z5 := Lib.hid hz.texts
  rw [g0] at z0
  rw [g1] at z1
  rw [g2] at z2
  rw [g3] at z3
  rw [g4] at z4
  have G0 := Lib.hid g0
  have R0 := Lib.hid r0
  have KS0 := Lib.hid (((Mm.SepF.start w).alloc' rfl 31 [.slice A0 n0 c0, .slice A1 n1 c1, .slice A2 n2 c2, .slice A3 n3 c3, .slice A4 n4 c4]).alloc' (Mm.sz1 _ _) 31 zTell)
  obtain ⟨iI, qI, qI0, qI1, qI2⟩ := info_parts Try.infoI
  obtain ⟨iN, qN, qN0, qN1, qN2⟩ := info_parts Try.infoNote
  obtain ⟨iT, qT, qT0, qT1, qT2⟩ := info_parts Try.infoTold
  obtain ⟨iS, qS, qS0, qS1, qS2⟩ := info_parts Try.infoStr
  obtain ⟨iL, qL, qL0, qL1, qL2⟩ := info_parts Try.infoStrs
  have R1 := Lib.hid r1
  have R2 := Lib.hid r2
  have R3 := Lib.hid r3
  have R4 := Lib.hid r4
  clear hh r0 r1 r2 r3 r4 hz g0 g1 g2 g3 g4
  go_enter Try.func51, Try.ntmps51
  go_upto_region 1 with fail
  obtain ⟨W1, hW1⟩ : ∃ W1, (w.alloc (.cells #[.slice A0 n0 c0, .slice A1 n1 c1, .slice A2 n2 c2, .slice A3 n3 c3, .slice A4 n4 c4] 31)).alloc (.cells #[.slice none 0 0, .slice none 0 0, .slice none 0 0, .slice none 0 0, .slice none 0 0] 31) = W1 := ⟨_, rfl⟩
  have KS1 := Lib.hid (KS0.out.atW hW1)
  have hsz := KS1.out.chg.size
  have S1 := Lib.hid (R1.out.keep (fun b hb => KS1.out.bel0.block b (by omega)))
  have S2 := Lib.hid (R2.out.keep (fun b hb => KS1.out.bel0.block b (by omega)))
  have S3 := Lib.hid (R3.out.keep (fun b hb => KS1.out.bel0.block b (by omega)))
  have S4 := Lib.hid (R4.out.keep (fun b hb => KS1.out.bel0.block b (by omega)))
  clear KS0 R1 R2 R3 R4
  obtain ⟨ga, hga⟩ : ∃ ga, w.heap.size = ga := ⟨_, rfl⟩
  obtain ⟨gb, hgb⟩ : ∃ gb, ga + 1 = gb := ⟨_, rfl⟩
  rw [hga] at KS1
  rw [hgb] at KS1
  rw [hW1, hga, hgb]
  clear hW1 hgb
  have HGA := Lib.hid hga
  clear hga
  have b1 := KS1.out.cell (k := 1) 1 rfl rfl
  have b2 := KS1.out.cell (k := 2) 1 rfl rfl
  have b3 := KS1.out.cell (k := 3) 1 rfl rfl
  have b4 := KS1.out.cell (k := 4) 1 rfl rfl
  refine Mm.wp_region_give 18 (fun i => match i with | 0 => some (Mm.gSl Mm.int 3 []) | 3 => some (Mm.gSl Mm.int 3 t.Heard) | 4 => some (Mm.gSl rNote 94 []) | 7 => some (Mm.gSl rNote 94 t.Line) | 8 => some (Mm.gSl rTold 52 []) | 11 => some (Mm.gSl rTold 52 t.Log) | 12 => some (Mm.gSl Mm.int 3 []) | 15 => some (Mm.gSl Mm.int 3 t.Next) | 17 => some (Mm.gPtr 31 zTell) | _ => none) (fun i => match i with | 3 => [0] | 7 => [4] | 11 => [8] | 15 => [12] | _ => []) (fun _ => []) (F := []) (D := fun w' => ∃ x : Und W1, w' = und W1 x) (fun X us h => Mm.sep_und h) (by kernel_rfl) (by kernel_rfl) (by kernel_rfl) (Mm.SepF.startDrew _) ?_
  refine Mm.give_op0 6 (by rfl) rfl (by rfl) (by rfl) (by rfl) (by rfl) Mm.gSl_in (fun others X hX => ?_) ?_
  · go_wp2
    exact Mm.gvq_fresh hX rfl rfl rfl
  rintro v ds ⟨a0, p0, d0, f0, rfl, rfl, e0⟩
  simp only [Act.put, List.setIfInBounds_toArray, List.set_cons_succ, List.set_cons_zero]
  repeat (refine Mm.give_det (by rfl) (by rfl) (by rfl) (fun K hK => ?_); go_big_quiet_op; refine hK _ ?_; clear hK K)
  refine Mm.give_op1 9 0 (by rfl) rfl (by rfl) (by rfl) (by rfl) rfl (by rfl) _ rfl Mm.gSl_in (fun others X hX => Mm.clone_gvq rfl (.tmp 6) (.tmp 8) 27 rfl 9 rfl (by rfl) Mm.flat_int Mm.flatN_int iI _ 8 Try.underlying27 qI qI0 qI1 qI2 rfl rfl rfl (S1.out.keep (fun b hb => hX.bel0.block b (by omega))) (by unfold maxLen; omega) (by omega) hX) ?_
  rintro v ds ⟨a1, q1, d1, f1, rfl, rfl, e1⟩
  simp only [Act.put, List.setIfInBounds_toArray, List.set_cons_succ, List.set_cons_zero]
  repeat (refine Mm.give_det (by rfl) (by rfl) (by rfl) (fun K hK => ?_); go_big_quiet_op; refine hK _ ?_; clear hK K)
  refine Mm.give_op0 10 (by rfl) rfl (by rfl) (by rfl) (by rfl) (by rfl) Mm.gSl_in (fun others X hX => ?_) ?_
  · go_wp2
    exact Mm.gvq_fresh hX rfl rfl rfl
  rintro v ds ⟨a0, p0, d0, f0, rfl, rfl, e0⟩
  simp only [Act.put, List.setIfInBounds_toArray, List.set_cons_succ, List.set_cons_zero]
  repeat (refine Mm.give_det (by rfl) (by rfl) (by rfl) (fun K hK => ?_); go_big_quiet_op; refine hK _ ?_; clear hK K)
  refine Mm.give_op1 13 4 (by rfl) rfl (by rfl) (by rfl) (by rfl) rfl (by rfl) _ rfl Mm.gSl_in (fun others X hX => Mm.clone_gvq rfl (.tmp 10) (.tmp 12) 28 rfl 13 rfl (by rfl) Mm.flatA_note Mm.flat_note iN _ 40 Try.underlying28 qN qN0 qN1 qN2 rfl rfl rfl (S2.out.keep (fun b hb => hX.bel0.block b (by omega))) (by unfold maxLen; omega) (by omega) hX) ?_
  rintro v ds ⟨a2, q2, d2, f2, rfl, rfl, e2⟩
  simp only [Act.put, List.setIfInBounds_toArray, List.set_cons_succ, List.set_cons_zero]
  repeat (refine Mm.give_det (by rfl) (by rfl) (by rfl) (fun K hK => ?_); go_big_quiet_op; refine hK _ ?_; clear hK K)
  refine Mm.give_op0 14 (by rfl) rfl (by rfl) (by rfl) (by rfl) (by rfl) Mm.gSl_in (fun others X hX => ?_) ?_
  · go_wp2
    exact Mm.gvq_fresh hX rfl rfl rfl
  rintro v ds ⟨a0, p0, d0, f0, rfl, rfl, e0⟩
  simp only [Act.put, List.setIfInBounds_toArray, List.set_cons_succ, List.set_cons_zero]
  repeat (refine Mm.give_det (by rfl) (by rfl) (by rfl) (fun K hK => ?_); go_big_quiet_op; refine hK _ ?_; clear hK K)
  refine Mm.give_op1 17 8 (by rfl) rfl (by rfl) (by rfl) (by rfl) rfl (by rfl) _ rfl Mm.gSl_in (fun others X hX => Mm.clone_gvq rfl (.tmp 14) (.tmp 16) 29 rfl 17 rfl (by rfl) Mm.flatA_told Mm.flat_told iT _ 32 Try.underlying29 qT qT0 qT1 qT2 rfl rfl rfl (S3.out.keep (fun b hb => hX.bel0.block b (by omega))) (by unfold maxLen; omega) (by omega) hX) ?_
  rintro v ds ⟨a3, q3, d3, f3, rfl, rfl, e3⟩
  simp only [Act.put, List.setIfInBounds_toArray, List.set_cons_succ, List.set_cons_zero]
  repeat (refine Mm.give_det (by rfl) (by rfl) (by rfl) (fun K hK => ?_); go_big_quiet_op; refine hK _ ?_; clear hK K)
  refine Mm.give_op0 18 (by rfl) rfl (by rfl) (by rfl) (by rfl) (by rfl) Mm.gSl_in (fun others X hX => ?_) ?_
  · go_wp2
    exact Mm.gvq_fresh hX rfl rfl rfl
  rintro v ds ⟨a0, p0, d0, f0, rfl, rfl, e0⟩
  simp only [Act.put, List.setIfInBounds_toArray, List.set_cons_succ, List.set_cons_zero]
  repeat (refine Mm.give_det (by rfl) (by rfl) (by rfl) (fun K hK => ?_); go_big_quiet_op; refine hK _ ?_; clear hK K)
  refine Mm.give_op1 21 12 (by rfl) rfl (by rfl) (by rfl) (by rfl) rfl (by rfl) _ rfl Mm.gSl_in (fun others X hX => Mm.clone_gvq rfl (.tmp 18) (.tmp 20) 27 rfl 21 rfl (by rfl) Mm.flat_int Mm.flatN_int iI _ 8 Try.underlying27 qI qI0 qI1 qI2 rfl rfl rfl (S4.out.keep (fun b hb => hX.bel0.block b (by omega))) (by unfold maxLen; omega) (by omega) hX) ?_
  rintro v ds ⟨a4, q4, d4, f4, rfl, rfl, e4⟩
  simp only [Act.put, List.setIfInBounds_toArray, List.set_cons_succ, List.set_cons_zero]
  repeat (refine Mm.give_det (by rfl) (by rfl) (by rfl) (fun K hK => ?_); go_big_quiet_op; refine hK _ ?_; clear hK K)
  refine Mm.give_op0 3 (by rfl) rfl (by rfl) (by rfl) (by rfl) (by rfl) Mm.gPtr_in (fun others X hX => ?_) ?_
  · go_wp2
    exact Mm.gvq_ptr hX rfl rfl rfl
  rintro v ds ⟨gp, rfl, rfl⟩
  simp only [Act.put, List.setIfInBounds_toArray, List.set_cons_succ, List.set_cons_zero]
  refine Mm.give_nil ?_
  rintro X hX
  have HX := Lib.hid (KS1.out.join (us := [Mm.tsl Mm.int 3 t.Heard (.slice a1 q1 d1) f1, Mm.tsl rNote 94 t.Line (.slice a2 q2 d2) f2, Mm.tsl rTold 52 t.Log (.slice a3 q3 d3) f3, Mm.tsl Mm.int 3 t.Next (.slice a4 q4 d4) f4, Mm.tblk gp 31 zTell]) hX)
  clear hX b1 b2 b3 b4
  have p0 := HX.out.frz (k := 0) 4 rfl
  have p1 := HX.out.frz (k := 1) 4 rfl
  have p2 := HX.out.frz (k := 2) 4 rfl
  have p3 := HX.out.frz (k := 3) 4 rfl
  have p4 := HX.out.frz (k := 4) 4 rfl
  have s0 := HX.out.cell (k := 0) 4 rfl rfl
  have s1 := HX.out.cell (k := 1) 4 rfl rfl
  have s2 := HX.out.cell (k := 2) 4 rfl rfl
  have s3 := HX.out.cell (k := 3) 4 rfl rfl
  have s4 := HX.out.cell (k := 4) 4 rfl rfl
  have HX2 := Lib.hid (((((HX.out.setBlk (k := 0) 4 rfl (.slice none 0 0)).setBlk (k := 1) 4 rfl (.slice a1 q1 d1)).setBlk (k := 2) 4 rfl (.slice a2 q2 d2)).setBlk (k := 3) 4 rfl (.slice a3 q3 d3)).setBlk (k := 4) 4 rfl (.slice a4 q4 d4))
  have b0 := HX2.out.cell (k := 0) 6 rfl rfl
  have KS2 := Lib.hid (((HX2.out.sel [4, 0, 1, 2, 3, 5] (by decide) rfl).add (Below.refl _ _) (t := Mm.tsl strs 40 [] (.slice none 0 0) []) Mm.SlOwn.nil List.nodup_nil (fun b hb => by cases hb)).toSep)
  have HB : Hid (B ≤ w.heap.size) := Lib.hid hB
  have G0' := G0
  go_wp2
  clear p0 p1 p2 p3 p4 s0 s1 s2 s3 s4 b0
  go_loopg [26] n0 (fun g i wr => ∃ (k : Nat) (A' : Option Addr) (c' : Nat) (fp : List Nat), n0 - k ≤ g ∧ k ≤ n0 ∧ i = .int .i64 k ∧ Hid (Mm.Sep w wr [Mm.tsl strs 40 (t.Texts.take k) (.slice A' k c') fp, Mm.tblk gp 31 [.slice A' k c', .slice a1 q1 d1, .slice a2 q2 d2, .slice a3 q3 d3, .slice a4 q4 d4], Mm.tsl Mm.int 3 t.Heard (.slice a1 q1 d1) f1, Mm.tsl rNote 94 t.Line (.slice a2 q2 d2) f2, Mm.tsl rTold 52 t.Log (.slice a3 q3 d3) f3, Mm.tsl Mm.int 3 t.Next (.slice a4 q4 d4) f4, Mm.tblk gb 31 zTell]))
  case atStart => exact ⟨0, none, 0, [], Nat.le_refl _, Nat.zero_le _, rfl, KS2.out⟩
  case round =>
    obtain ⟨k, A', c', fp, hgk, hk', rfl, HS⟩ := hrel
    have hbel := HS.out.bel
    have hsw := hbel.size
    have y0 := HS.out.cell (k := 0) 1 rfl rfl
    have z0 := HS.out.frz (k := 0) 1 rfl
    by_cases hlt : k < n0
    · obtain ⟨r, b0, off, A1', n1', c1', hx, rfl, hb, hr, e0⟩ := strs_get R0.out hlt
      have hn20 := z5.out k r hx
      rw [hr.1] at hn20
      have e0' := below_some hbel e0
      have HRW := Lib.hid (show Mm.SlAt Mm.str (wr.alloc (.cells #[] 9)).drew B r A1' n1' c1' from hr.keep fun b' hb' => (Below.heap_alloc wr _ b' (by omega)).trans (hbel.block b' (by omega)))
      have HN := Lib.hid (Mm.take_succ_some hx)
      have htl := List.length_take_of_le (l := t.Texts) (i := k) (by rw [G0.out]; omega)
      have HTL := Lib.hid htl
      clear hx hr e0 htl
      go_wp2
      go_region_law (first
        | (refine Mm.step_clone (by rfl) (.tmp 32) (.tmp 33) 40 (by rfl) Mm.flat_str iS _ 16 Try.underlying40 qS qS0 qS1 qS2 rfl (by decide) HS.out ((below_new (Below.refl wr.heap.size wr) (.cells #[] 9)).drew) (heap_alloc_new wr _) (Nat.le_refl _) HRW.out (by unfold maxLen; omega) (by omega) (by rfl) (by rfl) ?_; intro A2 c2 fp2 w1 hs1 hb1; obtain ⟨l0, ho3, hnext⟩ := hs1.push (W2 := w1.alloc (.cells #[.slice A2 n1' c2] 40)) 1 0 (by decide) rfl rfl (below_new (Below.refl _ _) _) (x := r) (cx := [.slice A2 n1' c2]) (fun W h => ⟨_, rfl, h⟩); rw [HTL.out] at ho3 hnext; (have HNX := Lib.hid hnext); (have HS1 := Lib.hid hs1); (have y1 := hs1.cell (k := 0) 2 rfl rfl); (have z1 := hs1.frz (k := 0) 2 rfl); clear hnext hs1 hb1)
        | (refine step_append_lies _ (by rfl) (.tmp 31) (.tmp 35) 26 (by rfl) 0 40 iL _ 1 24 Try.underlying26 qL qL0 qL1 qL2 rfl (by omega) (.slice A' k c') k l0 (by rfl) ho3 ⟨w1.heap.size, 0, none⟩ 1 1 [.slice A2 n1' c2] (by rfl) (by rfl) (World.news_of_block (B := w1.heap.size) (cs := #[.slice A2 n1' c2]) (t := 40) (fr := (0, 0)) (heap_alloc_new w1 _)) (by simp [Value.oneCell']) (by omega) (by unfold maxLen; omega) (by omega) (Nat.zero_le _) _ rfl ?_; intro gg cap w4 hown1 hgrow hat hlt'; obtain ⟨fp', hs4⟩ := HNX.out gg cap w4 hown1 hgrow hat; (have HS4 := Lib.hid hs4); (have y0' := HS4.out.cell (k := 0) 2 rfl rfl); (have z0' := HS4.out.frz (k := 0) 2 rfl); clear hs4 hown1 hgrow hat))
      all_goals
        go_wp2
        go_roundg (n0 - (k + 1))
        case measure => omega
        case rel => exact ⟨k + 1, _, cap, fp', Nat.le_refl _, by omega, by go_num, by rw [HN.out]; exact (HS4.out.setBlk 2 rfl _).tail⟩
    · obtain rfl : k = n0 := by omega
      have HE : Hid (t.Texts.take k = t.Texts) := List.take_of_length_le (by rw [G0.out]; exact Nat.le_refl _)
      have HSR := Lib.hid HS.out.toF
      clear y0 z0
      have y0 := HSR.out.cell (k := 0) 1 rfl rfl
      have y1 := HSR.out.cell (k := 1) 1 rfl rfl
      have y2 := HSR.out.cell (k := 2) 1 rfl rfl
      have y3 := HSR.out.cell (k := 3) 1 rfl rfl
      have y4 := HSR.out.cell (k := 4) 1 rfl rfl
      have r0 := HSR.out.cell (k := 0) 6 rfl rfl
      have r1 := HSR.out.cell (k := 1) 6 rfl rfl
      have r2 := HSR.out.cell (k := 2) 6 rfl rfl
      have r3 := HSR.out.cell (k := 3) 6 rfl rfl
      have r4 := HSR.out.cell (k := 4) 6 rfl rfl
      have z0 := HSR.out.frz (k := 0) 6 rfl
      have z1 := HSR.out.frz (k := 1) 6 rfl
      have z2 := HSR.out.frz (k := 2) 6 rfl
      have z3 := HSR.out.frz (k := 3) 6 rfl
      have z4 := HSR.out.frz (k := 4) 6 rfl
      have HSF := Lib.hid (((((HSR.out.setBlk (k := 0) 6 rfl (.slice A' k c')).setBlk (k := 1) 6 rfl (.slice a1 q1 d1)).setBlk (k := 2) 6 rfl (.slice a2 q2 d2)).setBlk (k := 3) 6 rfl (.slice a3 q3 d3)).setBlk (k := 4) 6 rfl (.slice a4 q4 d4))
      have u0 := HSF.out.cell (k := 0) 6 rfl rfl
      have u1 := HSF.out.cell (k := 1) 6 rfl rfl
      have u2 := HSF.out.cell (k := 2) 6 rfl rfl
      have u3 := HSF.out.cell (k := 3) 6 rfl rfl
      have u4 := HSF.out.cell (k := 4) 6 rfl rfl
      have HFI := Lib.hid (HSF.out.sel [0, 2, 3, 4, 5] (by decide) rfl)
      rw [HE.out] at HFI
      go_wp2
      exact bodyPost_ret (v := .agg #[.slice A' k c', .slice a1 q1 d1, .slice a2 q2 d2, .slice a3 q3 d3, .slice a4 q4 d4]) (by simp [results, Try.results51, go_sem, u0, u1, u2, u3, u4]) rfl (tell_ret (shutv_Tell (x := t) HFI.out))
end Go.Proofs.Ytaepohocabealaa

/-
  Contracts: PlayTell, the program's (chapter 10). No conditions.
-/
namespace Go.Proofs.Ytaepohocabealaa
open Go.RowKit
attribute [local go_sem] und_cell cha_cell World.cell?_alloc_some
namespace Mm
/-- a struct that has just been laid in a block of its own is behind a pointer; and back -/
theorem SepF.toPtr {F : List Nat} {w0 wr : World} {ts : List Thing} {α : Type} {R : Rep α} {T : TypeId} {g : Nat} {x : α} {cs : List Value} {fp : List Nat} (h : SepF F w0 wr (tblk g T cs :: tow R x cs fp :: ts)) : SepF F w0 wr (tptr R T g x fp :: ts) :=
  h.conv (by simp [tblk, tow, tptr]) (List.forall_mem_cons.2 ⟨⟨cs, h.at_ 0 rfl, h.at_ 1 rfl⟩, fun u hu => h.hold u (List.mem_cons_of_mem _ (List.mem_cons_of_mem _ hu))⟩)
theorem SepF.ofPtr {F : List Nat} {w0 wr : World} {ts : List Thing} {α : Type} {R : Rep α} {T : TypeId} {g : Nat} {x : α} {fp : List Nat} (h : SepF F w0 wr (tptr R T g x fp :: ts)) : ∃ cs, SepF F w0 wr (tblk g T cs :: tow R x cs fp :: ts) := by
  obtain ⟨cs, h1, h2⟩ := h.at_ 0 rfl
  exact ⟨cs, h.conv (by simp [tblk, tow, tptr]) (List.forall_mem_cons.2 ⟨h1, List.forall_mem_cons.2 ⟨h2, fun u hu => h.hold u (List.mem_cons_of_mem _ hu)⟩⟩)⟩
theorem own_bool {w : World} {b : Bool} : bool.own w b [.bool b] [] := ⟨rfl, trivial, rfl⟩
end Mm
def Pl.playL (t : Tell) (l : List TellStep) : Tell × List Bool := l.foldl (fun p s => ((Pl.tstep p.1 s).1, p.2 ++ [(Pl.tstep p.1 s).2])) (t, [])
theorem Pl.playL_nil (t : Tell) : Pl.playL t [] = (t, []) := rfl
theorem Pl.playL_snoc (t : Tell) (l : List TellStep) (s : TellStep) : Pl.playL t (l ++ [s]) = ((Pl.tstep (Pl.playL t l).1 s).1, (Pl.playL t l).2 ++ [(Pl.tstep (Pl.playL t l).1 s).2]) := by
  unfold Pl.playL; rw [List.foldl_append]; rfl
theorem Pl.playL_wf (t : Tell) (h : Pl.TWf t) : ∀ n (l : List TellStep), l.length = n → Pl.TWf (Pl.playL t l).1 ∧ (Pl.playL t l).2.length = n
  | 0, l, hl => by
    rw [List.length_eq_zero_iff.1 hl]
    exact ⟨h, rfl⟩
  | n + 1, l, hl => by
    rcases List.eq_nil_or_concat l with rfl | ⟨l', s, rfl⟩
    · cases hl
    · rw [List.concat_eq_append] at hl ⊢
      have ih := playL_wf t h n l' (by simpa using hl)
      rw [Pl.playL_snoc]
      exact ⟨ih.1.step s, by simp [ih.2]⟩
theorem Pl.newTe_wf {n : Nat} (h : n ≤ 4) : Pl.TWf (Pl.newTe n) := by
  have hs : ∀ m k : Nat, Pl.sumTo (List.replicate m 0) k = 0 := fun m k => by
    induction k with
    | zero => rfl
    | succ k ih =>
      rw [Pl.sumTo, ih, List.getD_eq_getElem?_getD, List.getElem?_replicate]
      split <;> rfl
  refine ⟨by show (List.replicate n _).length ≤ 4; simpa using h, by show (List.replicate n _).length = (List.replicate n _).length; simp, by show (List.replicate n _).length = (List.replicate n _).length; simp, Nat.zero_le _, ?_, fun k l hl => ?_, fun k a l ha hl => ?_, fun k a l ha hl => ?_, fun m hm => by cases hm⟩
  · show ((0 : Nat) : Int) = Pl.sum (List.replicate n 0)
    unfold Pl.sum; rw [hs]; rfl
  · have := List.mem_of_getElem? hl
    rw [(List.mem_replicate.1 this).2]; exact Nat.zero_le _
  · have := (List.mem_replicate.1 (List.mem_of_getElem? ha)).2
    subst this
    exact ⟨Int.le_refl _, by omega⟩
  · have := (List.mem_replicate.1 (List.mem_of_getElem? ha)).2
    subst this
    exact ⟨Int.le_refl _, by omega⟩
def Pl.playTell (n : Int) (l : List TellStep) : Tell × List Bool × Bool :=
  if Pl.isIn n 1 4 = true ∧ l.length ≤ 150 then ((Pl.playL (Pl.newTe n.toNat) l).1, (Pl.playL (Pl.newTe n.toNat) l).2, true) else (Pl.zTe, [], false)
def PlayAns (r : Tell × List Bool × Bool) (w : World) (e : Ending) (w' : World) : Prop :=
  ∃ cs A n c fp0 fp1, e = .returned (.tuple #[.agg cs.toArray, .slice A n c, .bool r.2.2]) ∧ Mm.SepF [] w w' [Mm.tow rTell r.1 cs fp0, Mm.tsl Mm.bool 4 r.2.1 (.slice A n c) fp1]
theorem playNo {w w' : World} (h : Below w.heap.size w w') : PlayAns (Pl.zTe, [], false) w (.returned (.tuple #[.agg zTell.toArray, .slice none 0 0, .bool false])) w' :=
  ⟨zTell, none, 0, 0, [], [], rfl, ⟨Mm.Chg.of_below h, by simp [Mm.tow, Mm.tsl], by simp [Mm.tow, Mm.tsl], List.forall_mem_cons.2 ⟨zTe_own, List.forall_mem_cons.2 ⟨Mm.SlOwn.nil, fun u hu => by cases hu⟩⟩⟩⟩
theorem Try.infoBool : (Try.prog.info? 4).map (fun i => (i.zero, i.size, i.bytes)) = some (some (.bool false), 1, 1) := by kernel_rfl
set_option maxRecDepth 100000 in
set_option maxHeartbeats 2000000 in
theorem implPlayTell_c (m : Int) (l : List TellStep) (A : Option Addr) (n c : Nat) (w : World) (B : Nat) (hl : Mm.SlAt rTellStep w B l A n c) (hB : B ≤ w.heap.size) :
    Calls Try.prog 9 #[.int .i64 m, .slice A n c] w (PlayAns (Pl.playTell m l) w) := by
  have hn : n ≤ maxLen := Nat.le_trans hl.2.1 hl.2.2.1
  have hlen := hl.1
  have HL := Lib.hid hl
  clear hl
  unfold maxLen at hn
  by_cases hin : Pl.isIn m 1 4 = true
  · by_cases h150 : n ≤ 150
    · have HF : Hid (Pl.playTell m l = ((Pl.playL (Pl.newTe m.toNat) l).1, (Pl.playL (Pl.newTe m.toNat) l).2, true)) := if_pos ⟨hin, by omega⟩
      have hin' := hin
      unfold Pl.isIn at hin'
      simp only [Bool.and_eq_true, decide_eq_true_eq] at hin'
      obtain ⟨q, rfl⟩ : ∃ q : Nat, m = q := ⟨m.toNat, by omega⟩
      have h1 : 1 ≤ q := by omega
      have h3 : q ≤ 4 := by omega
      rw [show ((q : Nat) : Int).toNat = q by omega] at HF
      clear hin'
      have f1 : decide ((150 : Int) < ((n : Nat) : Int)) = false := by simp; omega
      have HLN := Lib.hid hlen
      clear hlen
      have KS0 := Lib.hid ((Mm.SepF.start w).alloc' rfl 31 zTell)
      obtain ⟨i0, hi, hz0, hz1, hz2⟩ := info_parts Try.infoBool
      have HW0 := Lib.hid (Pl.newTe_wf h3)
      go_enter Try.func9, Try.ntmps9
      go_wp2_with (first
        | (go_at_call 47; (with_reducible refine (within_c _ _ _ _).mono ?_); rintro e w5 ⟨rfl, rfl⟩)
        | (go_at_call 48; (with_reducible refine (newTell_c q _ h1 h3).mono ?_); rintro e w1 ⟨cs1, fp1, rfl, ho, hnd, hnew, hb⟩; obtain ⟨B0, m0, d0, B1, m1, d1, B2, m2, d2, B3, m3, d3, B4, m4, d4, g0, g1, g2, g3, g4, rfl, rfl, -⟩ := rTell_own ho; (have KS1 := Lib.hid (KS0.out.add hb (t := Mm.tow rTell (Pl.newTe q) _ _) ho hnd hnew)); clear ho hnd hnew hb))
      have KS2 := Lib.hid (((KS1.out.alloc' rfl 31 [.slice B0 m0 d0, .slice B1 m1 d1, .slice B2 m2 d2, .slice B3 m3 d3, .slice B4 m4 d4]).toPtr).add (Below.refl _ _) (t := Mm.tsl Mm.bool 4 [] (.slice none 0 0) []) Mm.SlOwn.nil List.nodup_nil (fun b hb => by cases hb))
      obtain ⟨gt, hgt⟩ : ∃ gt, w1.heap.size = gt := ⟨_, rfl⟩
      obtain ⟨gr, hgr⟩ : ∃ gr, w.heap.size = gr := ⟨_, rfl⟩
      have HBR := Lib.hid (show B ≤ w.heap.size from hB)
      rw [hgt] at KS2
      rw [hgr] at KS2
      rw [hgt, hgr]
      have HGT := Lib.hid hgt
      have HGR := Lib.hid hgr
      clear hgt hgr KS0 KS1 hB
      go_loopg [8, 24] n (fun g d i wr => ∃ (k : Nat) (A' : Option Addr) (c' : Nat) (fpt fpd : List Nat), n - k ≤ g ∧ k ≤ n ∧ d = .slice A' k c' ∧ i = .int .i64 k ∧ Hid (Mm.SepF [] w wr [Mm.tsl Mm.bool 4 (Pl.playL (Pl.newTe q) (l.take k)).2 (.slice A' k c') fpd, Mm.tptr rTell 31 gt (Pl.playL (Pl.newTe q) (l.take k)).1 fpt, Mm.tblk gr 31 zTell]))
      case atStart => exact ⟨0, none, 0, _, _, Nat.le_refl _, Nat.zero_le _, rfl, rfl, KS2.out⟩
      case round =>
        obtain ⟨k, A', c', fpt, fpd, hgk, hk', rfl, rfl, HS⟩ := hrel
        have hbel := HS.out.bel0
        have hlk := List.length_take_of_le (l := l) (i := k) (by rw [HLN.out]; omega)
        have hwf := Pl.playL_wf (Pl.newTe q) HW0.out k (l.take k) hlk
        have HWF := Lib.hid hwf.1
        have HPL := Lib.hid hwf.2
        clear hwf hlk
        obtain ⟨p, hp⟩ : ∃ p, Pl.playL (Pl.newTe q) (l.take k) = p := ⟨_, rfl⟩
        rw [hp] at HS HWF HPL
        have HP := Lib.hid hp
        clear hp KS2
        by_cases hlt : k < n
        · obtain ⟨s, b0, off, hx, rfl, hb, g0', g1', g2', e0, e1, e2⟩ := rTellStep_get HL.out hlt
          have HN : Hid (Pl.playL (Pl.newTe q) (l.take (k + 1)) = ((Pl.tstep p.1 s).1, p.2 ++ [(Pl.tstep p.1 s).2])) := by
            show _ = _
            rw [Mm.take_succ_some hx, Pl.playL_snoc, HP.out]
          have HSW := Lib.hid (And.intro g1' g2')
          have hlt' : ((k : Nat) : Int) < ((n : Nat) : Int) := by omega
          have hb0 : b0 < w.heap.size := by have := HBR.out; omega
          replace e0 := below_some hbel e0
          replace e1 := below_some hbel e1
          replace e2 := below_some hbel e2
          have HS2 := Lib.hid (HS.out.alloc' rfl 46 [.int .i64 s.Kind, .int .i64 s.K, .string s.Text])
          clear hx g0' g1' g2'
          go_wp2_with (first
            | (go_at_call 49; refine (step_c p.1 s gt fpt _ (HS2.out.at_ 2 rfl) (HS2.out.ndat (i := 2) rfl) HSW.out HWF.out).mono ?_; rintro e w9 ⟨rfl, fp9, hL⟩; (have HS3 := Lib.hid (HS2.out.call 2 rfl hL)); clear hL)
            | (at_builtin; refine Mm.app_list HS3.out 1 rfl rfl (.tmp 28) (.tmp 31) 32 rfl i0 _ 1 Try.underlying32 hi hz0 hz1 hz2 rfl (by decide) rfl rfl (fun W => Mm.own_bool) HPL.out (by unfold maxLen; omega) (by omega) ?_; intro g cap w' fp' hs; (have HS4 := Lib.hid hs); clear hs))
          go_roundg (n - (k + 1))
          case measure => omega
          case rel => exact ⟨k + 1, _, cap, fp9, fp', Nat.le_refl _, by omega, rfl, by go_num, by rw [HN.out]; exact HS4.out.sel [1, 2, 3] (by decide) rfl⟩
        · obtain rfl : k = n := by omega
          have HE : Hid (l.take k = l) := List.take_of_length_le (by rw [HLN.out]; exact Nat.le_refl _)
          have hlt' : ¬ ((k : Nat) : Int) < ((k : Nat) : Int) := by omega
          rw [HE.out] at HP
          rw [HP.out] at HF
          obtain ⟨A0, n0, c0, A1, n1, c1, A2, n2, c2, A3, n3, c3, A4, n4, c4, f0, f1', f2, f3, f4, rfl, hs⟩ := open_Tell (HS.out.sel [1, 0, 2] (by decide) rfl)
          have HSR := Lib.hid hs
          clear hs
          have b0 := HSR.out.cell (k := 0) 0 rfl rfl
          have b1 := HSR.out.cell (k := 1) 0 rfl rfl
          have b2 := HSR.out.cell (k := 2) 0 rfl rfl
          have b3 := HSR.out.cell (k := 3) 0 rfl rfl
          have b4 := HSR.out.cell (k := 4) 0 rfl rfl
          have r0 := HSR.out.cell (k := 0) 7 rfl rfl
          have r1 := HSR.out.cell (k := 1) 7 rfl rfl
          have r2 := HSR.out.cell (k := 2) 7 rfl rfl
          have r3 := HSR.out.cell (k := 3) 7 rfl rfl
          have r4 := HSR.out.cell (k := 4) 7 rfl rfl
          have z0 := HSR.out.frz (k := 0) 7 rfl
          have z1 := HSR.out.frz (k := 1) 7 rfl
          have z2 := HSR.out.frz (k := 2) 7 rfl
          have z3 := HSR.out.frz (k := 3) 7 rfl
          have z4 := HSR.out.frz (k := 4) 7 rfl
          go_wp2
          have HSF := Lib.hid (((((HSR.out.setBlk (k := 0) 7 rfl (.slice A0 n0 c0)).setBlk (k := 1) 7 rfl (.slice A1 n1 c1)).setBlk (k := 2) 7 rfl (.slice A2 n2 c2)).setBlk (k := 3) 7 rfl (.slice A3 n3 c3)).setBlk (k := 4) 7 rfl (.slice A4 n4 c4))
          have q0 := HSF.out.cell (k := 0) 7 rfl rfl
          have q1 := HSF.out.cell (k := 1) 7 rfl rfl
          have q2 := HSF.out.cell (k := 2) 7 rfl rfl
          have q3 := HSF.out.cell (k := 3) 7 rfl rfl
          have q4 := HSF.out.cell (k := 4) 7 rfl rfl
          exact bodyPost_ret (v := .tuple #[.agg #[.slice A0 n0 c0, .slice A1 n1 c1, .slice A2 n2 c2, .slice A3 n3 c3, .slice A4 n4 c4], .slice A' k c', .bool true]) (by simp [results, Try.results9, go_sem, q0, q1, q2, q3, q4]) rfl ⟨[.slice A0 n0 c0, .slice A1 n1 c1, .slice A2 n2 c2, .slice A3 n3 c3, .slice A4 n4 c4], A', k, c', _, _, by rw [HF.out], by rw [HF.out]; exact shutv_Tell (x := p.1) (HSF.out.sel [1, 2, 3, 4, 5, 6] (by decide) rfl)⟩
    · have HF : Hid (Pl.playTell m l = (Pl.zTe, [], false)) := if_neg (by omega)
      have f1 : decide ((150 : Int) < ((n : Nat) : Int)) = true := by simp; omega
      have HLN := Lib.hid hlen
      clear hlen
      go_enter Try.func9, Try.ntmps9
      go_wp2_with (go_at_call 47; (with_reducible refine (within_c _ _ _ _).mono ?_); rintro e w5 ⟨rfl, rfl⟩)
      rw [HF.out]
      exact bodyPost_ret (v := .tuple #[.agg zTell.toArray, .slice none 0 0, .bool false]) (by simp [results, Try.results9, go_sem, zTell]) rfl (playNo (below_new (Below.refl _ _) _))
  · have HF : Hid (Pl.playTell m l = (Pl.zTe, [], false)) := if_neg (fun h => hin h.1)
    have hin' : Pl.isIn m 1 4 = false := by simpa using hin
    have HLN := Lib.hid hlen
    clear hlen hin
    go_enter Try.func9, Try.ntmps9
    go_wp2_with (go_at_call 47; (with_reducible refine (within_c _ _ _ _).mono ?_); rintro e w5 ⟨rfl, rfl⟩)
    rw [HF.out]
    exact bodyPost_ret (v := .tuple #[.agg zTell.toArray, .slice none 0 0, .bool false]) (by simp [results, Try.results9, go_sem, zTell]) rfl (playNo (below_new (Below.refl _ _) _))
end Go.Proofs.Ytaepohocabealaa

/-
  Regions that draw their order and give: a store among the operations of the plan (it yields no value; the block that it stores into is taken and given back). No program in sight. No conditions.
-/
namespace Go.Proofs.Ytaepohocabealaa
open Go.RowKit
namespace Mm
section
variable {P : Program} {F : List Nat} {w : World} {N : Nat} {ops : Array Oper} {D : World → Prop} {rel : Nat → Option Rel} {takes : Nat → List Nat} {Q : Act → Sig → Prop} {i : Nat} {o : Oper} {rest : List Oper} {a : Act} {σ : Sig}
def GvQn (F : List Nat) (w : World) (r : List Thing → Prop) (df : List Deferred) (rest : List Thing) (x : Exit) (a' : Act) (w' : World) : Prop :=
  x = .normal ∧ a'.defers = df ∧ ∃ ds, r ds ∧ SepF F w w' (ds ++ rest)
theorem gvalid_none {r : Value → List Thing → Prop} {r' : List Thing → Prop} (hr : ∀ u ds, r' ds → r u ds) (hd : o.dst = none) (hw : Region.wanted o (yielded ops a.tmps) = true) (hi : i ≤ N) (hn : (takes i).Nodup) (hk : ∀ k ∈ takes i, k ≤ N)
    (h : ∀ others X, SepF F w X ((takes i).flatMap σ ++ others) → wpList P ops (GvQn F w r' a.defers others) [o] a X) : GValid P (GC F w N) takes i o a σ r := by
  intro σ' X hC hag
  have e4 : (takes i).flatMap σ' = (takes i).flatMap σ := by
    rw [List.flatMap_def, List.flatMap_def]; exact congrArg List.flatten (List.map_congr_left hag)
  have h0 : SepF F w X (sigAll N σ') := hC
  have h1 := h0.sigTake hn hk
  rw [e4] at h1
  have h2 := h _ X h1
  have fin : ∀ u w', GvQn F w r' a.defers (sigAll N (sigUpd takes σ' i [])) .normal (a.put o.dst u) w' → ∃ ds, r u ds ∧ GC F w N (sigUpd takes σ' i ds) w' := fun u w' ⟨_, _, ds, h3, h4⟩ =>
    ⟨ds, hr u ds h3, h4.permE (sigAll_upd hi)⟩
  unfold wpList at h2
  rw [if_pos hw] at h2
  have h3 : o.wp P a X (fun a' w' => GvQn F w r' a.defers (sigAll N (sigUpd takes σ' i [])) .normal a' w') (GvQn F w r' a.defers (sigAll N (sigUpd takes σ' i []))) := by
    first
      | exact h2
      | exact h2.elim id fun h => by obtain ⟨_, a', w', h, _⟩ := h; cases h
  unfold Oper.wp at h3
  generalize (execOp a.eval o).run P X = R at *
  cases R with
  | ok n w' =>
    cases n <;> simp only [Oper.upon] at h3 <;> simp only [ups] <;> first | exact fin _ _ h3 | skip
    · refine h3.mono fun e w'' he => ?_
      cases e with
      | returned v => exact ⟨v, rfl, fin _ _ he⟩
      | panicked c => exact absurd he.1 (by simp)
      | outgrown => obtain ⟨a', w', h, _⟩ := he; cases h
    · have := h3.2.1
      rw [hd] at this
      exact absurd this (by simp [Act.put])
    · exact Rows.mono h3 fun v w'' he => fin _ _ he
  | halt x w' => cases x <;> simp only [Oper.upon] at h3; exact absurd h3.1 (by simp)
/-- what a store of a struct gives: the block, written anew -/
def gSto (T : TypeId) : Rel := fun vals _ _ ds => ∃ g cs, vals = [.pointer (some ⟨g, 0, none⟩), .agg cs.toArray] ∧ ds = [tblk g T cs]
/-- a store into the block that operation k gave -/
theorem give_store (T : TypeId) (g : Nat) (cs0 cs : List Value) (k : Nat) (hw : Region.wanted o (yielded ops a.tmps) = true) (hr : rel i = some (gSto T)) (hd : o.dst = none) (hi : Nat.ble i N = true) (ht : takes i = [k]) (hk : Nat.ble k N = true)
    (htk : σ k = [tblk g T cs0]) (hv : o.op.operands.toList.map a.eval = [.pointer (some ⟨g, 0, none⟩), .agg cs.toArray])
    (h : ∀ others X, SepF F w X (tblk g T cs0 :: others) → wpList P ops (GvQn F w (fun ds => ds = [tblk g T cs]) a.defers others) [o] a X)
    (hnext : wpGive P ops (GC F w N) D rel takes Q (i + 1) rest a (sigUpd takes σ i [tblk g T cs])) : wpGive P ops (GC F w N) D rel takes Q i (o :: rest) a σ := by
  have e : (takes i).flatMap σ = [tblk g T cs0] := by rw [ht, ← htk]; simp
  refine give_rel hw hr (gvalid_none (r' := fun ds => ds = [tblk g T cs]) (fun u ds h => ?_) hd hw (Nat.le_of_ble_eq_true hi) (by rw [ht]; simp) (by rw [ht]; intro x hx; rw [List.mem_singleton.1 hx]; exact Nat.le_of_ble_eq_true hk) ?_) ?_ ?_
  · exact ⟨g, cs, hv, h⟩
  · rw [e]; exact h
  · exact ⟨undef, _, g, cs, hv, rfl⟩
  · rintro v ds ⟨g', cs', hv', rfl⟩
    have h1 := hv.symm.trans hv'
    injection h1 with h2 h3
    injection h3 with h4 _
    injection h2 with h5
    injection h5 with h6
    injection h6 with h7
    injection h4 with h8
    have h9 : cs = cs' := by simpa using congrArg Array.toList h8
    subst h7 h9
    rw [hd]
    exact hnext
end
end Mm
end Go.Proofs.Ytaepohocabealaa

/-
  Contracts: PlayTell, the reference's (chapter 10). No conditions.
-/
namespace Go.Proofs.Ytaepohocabealaa
open Go.RowKit
attribute [local go_sem] und_cell cha_cell World.cell?_alloc_some
/-- a call hands back a teller by value; beside a bool -/
def gTe (x : Tell) : Mm.Rel := fun _ _ v ds => ∃ A0 c0 A1 c1 A2 c2 A3 c3 A4 c4 fp, v = .agg #[.slice A0 x.Texts.length c0, .slice A1 x.Heard.length c1, .slice A2 x.Line.length c2, .slice A3 x.Log.length c3, .slice A4 x.Next.length c4] ∧ ds = [Mm.tow rTell x [.slice A0 x.Texts.length c0, .slice A1 x.Heard.length c1, .slice A2 x.Line.length c2, .slice A3 x.Log.length c3, .slice A4 x.Next.length c4] fp]
def gTe2 (x : Tell) (b : Bool) : Mm.Rel := fun _ _ v ds => ∃ A0 c0 A1 c1 A2 c2 A3 c3 A4 c4 fp, v = .tuple #[.agg #[.slice A0 x.Texts.length c0, .slice A1 x.Heard.length c1, .slice A2 x.Line.length c2, .slice A3 x.Log.length c3, .slice A4 x.Next.length c4], .bool b] ∧ ds = [Mm.tow rTell x [.slice A0 x.Texts.length c0, .slice A1 x.Heard.length c1, .slice A2 x.Line.length c2, .slice A3 x.Log.length c3, .slice A4 x.Next.length c4] fp]
theorem gTe_in {x : Tell} {vals : List Value} {tk : List Mm.Thing} : ∃ v ds, gTe x vals tk v ds := ⟨_, _, none, 0, none, 0, none, 0, none, 0, none, 0, [], rfl, rfl⟩
theorem gTe2_in {x : Tell} {b : Bool} {vals : List Value} {tk : List Mm.Thing} : ∃ v ds, gTe2 x b vals tk v ds := ⟨_, _, none, 0, none, 0, none, 0, none, 0, none, 0, [], rfl, rfl⟩
theorem own_form {w : World} {x : Tell} {cs : List Value} {fp : List Nat} (h : rTell.own w x cs fp) : ∃ A0 c0 A1 c1 A2 c2 A3 c3 A4 c4, cs = [.slice A0 x.Texts.length c0, .slice A1 x.Heard.length c1, .slice A2 x.Line.length c2, .slice A3 x.Log.length c3, .slice A4 x.Next.length c4] := by
  obtain ⟨A0, n0, c0, A1, n1, c1, A2, n2, c2, A3, n3, c3, A4, n4, c4, f0, f1, f2, f3, f4, rfl, rfl, k0, k1, k2, k3, k4⟩ := rTell_own h
  obtain ⟨_, _, _, e0, g0, _⟩ := k0.form
  obtain ⟨_, _, _, e1, g1, _⟩ := k1.form
  obtain ⟨_, _, _, e2, g2, _⟩ := k2.form
  obtain ⟨_, _, _, e3, g3, _⟩ := k3.form
  obtain ⟨_, _, _, e4, g4, _⟩ := k4.form
  injection e0 with _ e0 _
  injection e1 with _ e1 _
  injection e2 with _ e2 _
  injection e3 with _ e3 _
  injection e4 with _ e4 _
  rw [e0, g0, e1, g1, e2, g2, e3, g3, e4, g4]
  exact ⟨_, _, _, _, _, _, _, _, _, _, rfl⟩
theorem Pl.tstep_no {t : Tell} {s : TellStep} (h : (Pl.tstep t s).2 = false) : (Pl.tstep t s).1 = t := by
  unfold Pl.tstep Pl.tput at *
  by_cases h1 : s.Kind = 1
  · rw [if_pos h1] at h ⊢
    split
    · rename_i hc; rw [if_pos hc] at h; cases h
    · rfl
  · rw [if_neg h1] at h ⊢
    by_cases h2 : s.Text.size ≠ 0 ∨ s.K < 0
    · rw [if_pos h2]
    · rw [if_neg h2] at h ⊢
      by_cases h3 : s.Kind = 2
      · rw [if_pos h3] at h ⊢
        split
        · rename_i hc; rw [if_pos hc] at h; cases h
        · rfl
      · rw [if_neg h3] at h ⊢
        split
        · rename_i hc
          rw [if_pos hc] at h
          by_cases h5 : s.Kind = 5
          · rw [if_pos h5] at h ⊢
            split
            · rfl
            · rename_i hl; rw [if_neg hl] at h; cases h
          · rw [if_neg h5] at h
            split at h <;> cases h
        · rfl
set_option maxRecDepth 100000 in
set_option maxHeartbeats 4000000 in
theorem specPlayTell_c (m : Int) (l : List TellStep) (A : Option Addr) (n c : Nat) (w : World) (B : Nat) (hl : Mm.SlAt rTellStep w B l A n c) (hB : B ≤ w.heap.size) :
    Calls Try.prog 10 #[.int .i64 m, .slice A n c] w (PlayAns (Pl.playTell m l) w) := by
  have hn : n ≤ maxLen := Nat.le_trans hl.2.1 hl.2.2.1
  have hlen := hl.1
  have HL := Lib.hid hl
  clear hl
  unfold maxLen at hn
  have KS0 := Lib.hid ((Mm.SepF.start w).alloc' rfl 31 zTell)
  by_cases hin : Pl.isIn m 1 4 = true
  · have HQ : Hid (Pl.newTell m = (Pl.newTe m.toNat, true)) := if_pos hin
    by_cases h150 : n ≤ 150
    · have HF : Hid (Pl.playTell m l = ((Pl.playL (Pl.newTe m.toNat) l).1, (Pl.playL (Pl.newTe m.toNat) l).2, true)) := if_pos ⟨hin, by omega⟩
      have hin' := hin
      unfold Pl.isIn at hin'
      simp only [Bool.and_eq_true, decide_eq_true_eq] at hin'
      obtain ⟨q, rfl⟩ : ∃ q : Nat, m = q := ⟨m.toNat, by omega⟩
      have h1 : 1 ≤ q := by omega
      have h3 : q ≤ 4 := by omega
      rw [show ((q : Nat) : Int).toNat = q by omega] at HF HQ
      clear hin'
      have f1 : decide ((150 : Int) < ((n : Nat) : Int)) = false := by simp; omega
      have HLN := Lib.hid hlen
      clear hlen
      obtain ⟨i0, hi, hz0, hz1, hz2⟩ := info_parts Try.infoBool
      have HW0 := Lib.hid (Pl.newTe_wf h3)
      go_enter Try.func10, Try.ntmps10
      go_wp2_with (go_at_call 28; (with_reducible refine (specNewTell_c _ _).mono ?_); rintro e w1 ⟨cs1, fp1, rfl, ho, hnd, hnew, hb⟩; rw [HQ.out] at ho; rw [HQ.out]; obtain ⟨A0, c0, A1, c1, A2, c2, A3, c3, A4, c4, rfl⟩ := own_form ho; (have KS1 := Lib.hid (KS0.out.add hb (t := Mm.tow rTell (Pl.newTe q) _ _) ho hnd hnew)); clear ho hnd hnew hb)
      have KS2 := Lib.hid ((KS1.out.alloc' rfl 31 [.slice A0 (Pl.newTe q).Texts.length c0, .slice A1 (Pl.newTe q).Heard.length c1, .slice A2 (Pl.newTe q).Line.length c2, .slice A3 (Pl.newTe q).Log.length c3, .slice A4 (Pl.newTe q).Next.length c4]).add (Below.refl _ _) (t := Mm.tsl Mm.bool 4 [] (.slice none 0 0) []) Mm.SlOwn.nil List.nodup_nil (fun b hb => by cases hb))
      obtain ⟨g7, hg7⟩ : ∃ g7, w1.heap.size = g7 := ⟨_, rfl⟩
      obtain ⟨gr, hgr⟩ : ∃ gr, w.heap.size = gr := ⟨_, rfl⟩
      have HBR := Lib.hid (show B ≤ w.heap.size from hB)
      rw [hg7] at KS2
      rw [hgr] at KS2
      rw [hg7, hgr]
      have HG7 := Lib.hid hg7
      have HGR := Lib.hid hgr
      clear hg7 hgr KS0 KS1 hB
      go_loopg [9, 29] n (fun g d i wr => ∃ (k : Nat) (A' : Option Addr) (c' : Nat) (fpt fpd : List Nat) (A0 : Option Addr) (c0 : Nat) (A1 : Option Addr) (c1 : Nat) (A2 : Option Addr) (c2 : Nat) (A3 : Option Addr) (c3 : Nat) (A4 : Option Addr) (c4 : Nat), n - k ≤ g ∧ k ≤ n ∧ d = .slice A' k c' ∧ i = .int .i64 k ∧ Hid (∃ x : Tell, x = (Pl.playL (Pl.newTe q) (l.take k)).1 ∧ Mm.SepF [] w wr [Mm.tsl Mm.bool 4 (Pl.playL (Pl.newTe q) (l.take k)).2 (.slice A' k c') fpd, Mm.tblk g7 31 [.slice A0 x.Texts.length c0, .slice A1 x.Heard.length c1, .slice A2 x.Line.length c2, .slice A3 x.Log.length c3, .slice A4 x.Next.length c4], Mm.tow rTell x [.slice A0 x.Texts.length c0, .slice A1 x.Heard.length c1, .slice A2 x.Line.length c2, .slice A3 x.Log.length c3, .slice A4 x.Next.length c4] fpt, Mm.tblk gr 31 zTell]))
      case atStart => exact ⟨0, none, 0, _, _, A0, c0, A1, c1, A2, c2, A3, c3, A4, c4, Nat.le_refl _, Nat.zero_le _, rfl, rfl, Lib.hid ⟨_, rfl, KS2.out⟩⟩
      case round =>
        clear KS2
        obtain ⟨k, A', c', fpt, fpd, A0, c0, A1, c1, A2, c2, A3, c3, A4, c4, hgk, hk', rfl, rfl, HS'⟩ := hrel
        obtain ⟨x, hx0, hS'⟩ := HS'.out
        clear HS'
        have HS := Lib.hid hS'
        clear hS'
        have hbel := HS.out.bel0
        have hlk := List.length_take_of_le (l := l) (i := k) (by rw [HLN.out]; omega)
        have hwf := Pl.playL_wf (Pl.newTe q) HW0.out k (l.take k) hlk
        rw [← hx0] at hwf
        have HWF := Lib.hid hwf.1
        have HPL := Lib.hid hwf.2
        clear hwf hlk
        obtain ⟨dl, hp⟩ : ∃ dl, Pl.playL (Pl.newTe q) (l.take k) = (x, dl) := ⟨_, by rw [hx0]⟩
        rw [hp] at HS HPL
        have HP := Lib.hid hp
        clear hp hx0
        by_cases hlt : k < n
        · obtain ⟨s, b0, off, hx, rfl, hb, g0', g1', g2', e0, e1, e2⟩ := rTellStep_get HL.out hlt
          have HN : Hid (Pl.playL (Pl.newTe q) (l.take (k + 1)) = ((Pl.tstep x s).1, dl ++ [(Pl.tstep x s).2])) := by
            show _ = _
            rw [Mm.take_succ_some hx, Pl.playL_snoc, HP.out]
          have HNO := Lib.hid (@Pl.tstep_no x s)
          obtain ⟨r, hr⟩ : ∃ r, Pl.tstep x s = r := ⟨_, rfl⟩
          rw [hr] at HN HNO
          have HR := Lib.hid hr
          have HSW := Lib.hid (And.intro g1' g2')
          have hlt' : ((k : Nat) : Int) < ((n : Nat) : Int) := by omega
          have hb0 : b0 < w.heap.size := by have := HBR.out; omega
          replace e0 := below_some hbel e0
          replace e1 := below_some hbel e1
          replace e2 := below_some hbel e2
          obtain ⟨t', is⟩ := r
          clear hx g0' g1' g2' hr
          cases is with
          | true =>
            have u0 := HS.out.cell (k := 0) 1 rfl rfl
            have u1 := HS.out.cell (k := 1) 1 rfl rfl
            have u2 := HS.out.cell (k := 2) 1 rfl rfl
            have u3 := HS.out.cell (k := 3) 1 rfl rfl
            have u4 := HS.out.cell (k := 4) 1 rfl rfl
            go_wp2
            obtain ⟨gs, hgs⟩ : ∃ gs, wr.heap.size = gs := ⟨_, rfl⟩
            obtain ⟨W1, hW1⟩ : ∃ W1, wr.alloc (.cells #[.int .i64 s.Kind, .int .i64 s.K, .string s.Text] 46) = W1 := ⟨_, rfl⟩
            have HS1 := Lib.hid ((HS.out.alloc' hgs 46 [.int .i64 s.Kind, .int .i64 s.K, .string s.Text]).atW hW1)
            rw [hW1, hgs]
            clear hW1 hgs e0 e1 e2 u0 u1 u2 u3 u4
            have u0 := HS1.out.cell (k := 0) 2 rfl rfl
            have u1 := HS1.out.cell (k := 1) 2 rfl rfl
            have u2 := HS1.out.cell (k := 2) 2 rfl rfl
            have u3 := HS1.out.cell (k := 3) 2 rfl rfl
            have u4 := HS1.out.cell (k := 4) 2 rfl rfl
            have c0' := HS1.out.cell (k := 0) 0 rfl rfl
            have c1' := HS1.out.cell (k := 1) 0 rfl rfl
            have c2' := HS1.out.cell (k := 2) 0 rfl rfl
            refine Mm.wp_region_give 9 (fun i => match i with | 1 => some (gTe x) | 3 => some (gTe2 t' true) | 7 => some (Mm.gPtr 31 zTell) | 8 => some (Mm.gSto 31) | _ => none) (fun i => match i with | 3 => [1] | 8 => [7] | _ => []) (fun _ => []) (F := []) (D := fun w' => ∃ x : Und W1, w' = und W1 x) (fun X us h => Mm.sep_und h) (by kernel_rfl) (by kernel_rfl) (by kernel_rfl) (Mm.SepF.startDrew _) ?_
            repeat (refine Mm.give_det (by rfl) (by rfl) (by rfl) (fun K hK => ?_); go_big_quiet_op; refine hK _ ?_; clear hK K)
            refine Mm.give_op0 35 (by rfl) rfl (by rfl) (by rfl) (by rfl) (by rfl) gTe_in (fun others X hX => ?_) ?_
            · go_wp2_with (go_at_call 51; refine (l10Own_c x _ X W1.heap.size (rTell.keep (HS1.out.rd 3 rfl) (fun b hb => hX.bel0.block b hb)) hX.chg.size HWF.out.sz).mono ?_; rintro e w5 ⟨cs5, fp5, rfl, ho, hnd, hnew, hb5⟩; obtain ⟨a0, k0, a1, k1, a2, k2, a3, k3, a4, k4, rfl⟩ := own_form ho)
              exact ⟨rfl, rfl, _, ⟨a0, k0, a1, k1, a2, k2, a3, k3, a4, k4, fp5, rfl, rfl⟩, hX.add hb5 (t := Mm.tow rTell x _ _) ho hnd hnew⟩
            rintro v ds ⟨a0, k0, a1, k1, a2, k2, a3, k3, a4, k4, fp5, rfl, rfl⟩
            simp only [Act.put, List.setIfInBounds_toArray, List.set_cons_succ, List.set_cons_zero]
            repeat (refine Mm.give_det (by rfl) (by rfl) (by rfl) (fun K hK => ?_); go_big_quiet_op; refine hK _ ?_; clear hK K)
            refine Mm.give_op1 37 1 (by rfl) rfl (by rfl) (by rfl) (by rfl) rfl (by rfl) _ rfl gTe2_in (fun others X hX => ?_) ?_
            · go_wp2_with (go_at_call 50; refine (l10Step_c x s _ fp5 X (hX.at_ 0 rfl) (hX.ndat (i := 0) rfl) HSW.out HWF.out).mono ?_; rintro e w6 ⟨cs6, fp6, rfl, hL⟩; rw [HR.out] at hL; rw [HR.out])
              have h9 := hX.call 0 rfl hL
              obtain ⟨a0, k0, a1, k1, a2, k2, a3, k3, a4, k4, rfl⟩ := own_form (h9.at_ 0 rfl)
              exact ⟨rfl, rfl, _, ⟨a0, k0, a1, k1, a2, k2, a3, k3, a4, k4, fp6, rfl, rfl⟩, h9⟩

            rintro v ds ⟨a0, k0, a1, k1, a2, k2, a3, k3, a4, k4, fp6, rfl, rfl⟩
            simp only [Act.put, List.setIfInBounds_toArray, List.set_cons_succ, List.set_cons_zero]
            repeat (refine Mm.give_det (by rfl) (by rfl) (by rfl) (fun K hK => ?_); go_big_quiet_op; refine hK _ ?_; clear hK K)
            refine Mm.give_op0 12 (by rfl) rfl (by rfl) (by rfl) (by rfl) (by rfl) Mm.gPtr_in (fun others X hX => ?_) ?_
            · go_wp2
              exact Mm.gvq_ptr hX rfl rfl rfl
            rintro v ds ⟨gp, rfl, rfl⟩
            simp only [Act.put, List.setIfInBounds_toArray, List.set_cons_succ, List.set_cons_zero]
            refine Mm.give_store 31 gp zTell [.slice a0 t'.Texts.length k0, .slice a1 t'.Heard.length k1, .slice a2 t'.Line.length k2, .slice a3 t'.Log.length k3, .slice a4 t'.Next.length k4] 7 (by rfl) rfl rfl (by rfl) rfl (by rfl) rfl rfl (fun others X hX => ?_) ?_
            · have HSR := Lib.hid hX
              have r0 := HSR.out.cell (k := 0) 0 rfl rfl
              have r1 := HSR.out.cell (k := 1) 0 rfl rfl
              have r2 := HSR.out.cell (k := 2) 0 rfl rfl
              have r3 := HSR.out.cell (k := 3) 0 rfl rfl
              have r4 := HSR.out.cell (k := 4) 0 rfl rfl
              have z0 := HSR.out.frz (k := 0) 0 rfl
              have z1 := HSR.out.frz (k := 1) 0 rfl
              have z2 := HSR.out.frz (k := 2) 0 rfl
              have z3 := HSR.out.frz (k := 3) 0 rfl
              have z4 := HSR.out.frz (k := 4) 0 rfl
              go_wp2
              exact ⟨rfl, rfl, _, rfl, (((((hX.setBlk (k := 0) 0 rfl (.slice a0 t'.Texts.length k0)).setBlk (k := 1) 0 rfl (.slice a1 t'.Heard.length k1)).setBlk (k := 2) 0 rfl (.slice a2 t'.Line.length k2)).setBlk (k := 3) 0 rfl (.slice a3 t'.Log.length k3)).setBlk (k := 4) 0 rfl (.slice a4 t'.Next.length k4))⟩
            refine Mm.give_nil ?_
            rintro X hX
            have HS3 := Lib.hid (HS1.out.join (us := [Mm.tow rTell t' [.slice a0 t'.Texts.length k0, .slice a1 t'.Heard.length k1, .slice a2 t'.Line.length k2, .slice a3 t'.Log.length k3, .slice a4 t'.Next.length k4] fp6, Mm.tblk gp 31 [.slice a0 t'.Texts.length k0, .slice a1 t'.Heard.length k1, .slice a2 t'.Line.length k2, .slice a3 t'.Log.length k3, .slice a4 t'.Next.length k4]]) hX)
            clear hX u0 u1 u2 u3 u4 c0' c1' c2'
            have u0 := HS3.out.cell (k := 0) 1 rfl rfl
            have u1 := HS3.out.cell (k := 1) 1 rfl rfl
            have u2 := HS3.out.cell (k := 2) 1 rfl rfl
            have u3 := HS3.out.cell (k := 3) 1 rfl rfl
            have u4 := HS3.out.cell (k := 4) 1 rfl rfl
            have r0 := HS3.out.cell (k := 0) 4 rfl rfl
            have r1 := HS3.out.cell (k := 1) 4 rfl rfl
            have r2 := HS3.out.cell (k := 2) 4 rfl rfl
            have r3 := HS3.out.cell (k := 3) 4 rfl rfl
            have r4 := HS3.out.cell (k := 4) 4 rfl rfl
            have z0 := HS3.out.frz (k := 0) 4 rfl
            have z1 := HS3.out.frz (k := 1) 4 rfl
            have z2 := HS3.out.frz (k := 2) 4 rfl
            have z3 := HS3.out.frz (k := 3) 4 rfl
            have z4 := HS3.out.frz (k := 4) 4 rfl
            have HS4 := Lib.hid (((((HS3.out.setBlk (k := 0) 4 rfl (.slice a0 t'.Texts.length k0)).setBlk (k := 1) 4 rfl (.slice a1 t'.Heard.length k1)).setBlk (k := 2) 4 rfl (.slice a2 t'.Line.length k2)).setBlk (k := 3) 4 rfl (.slice a3 t'.Log.length k3)).setBlk (k := 4) 4 rfl (.slice a4 t'.Next.length k4))
            go_upto_region 11 with fail
            clear r0 r1 r2 r3 r4 z0 z1 z2 z3 z4 u0 u1 u2 u3 u4
            obtain ⟨W4, hW4⟩ : ∃ W4, ((((X.setCell ⟨g7, 0, none⟩ (.slice a0 t'.Texts.length k0)).setCell ⟨g7, 1, none⟩ (.slice a1 t'.Heard.length k1)).setCell ⟨g7, 2, none⟩ (.slice a2 t'.Line.length k2)).setCell ⟨g7, 3, none⟩ (.slice a3 t'.Log.length k3)).setCell ⟨g7, 4, none⟩ (.slice a4 t'.Next.length k4) = W4 := ⟨_, rfl⟩
            rw [hW4] at HS4 ⊢
            clear hW4
            go_wp2_with (at_builtin; refine Mm.app_list HS4.out 3 rfl rfl (.tmp 42) (.tmp 44) 32 rfl i0 _ 1 Try.underlying32 hi hz0 hz1 hz2 rfl (by decide) rfl rfl (fun W => Mm.own_bool) HPL.out (by unfold maxLen; omega) (by omega) ?_; intro g cap w' fp' hs; (have HS5 := Lib.hid hs); clear hs)
            go_roundg (n - (k + 1))
            case measure => omega
            case rel => exact ⟨k + 1, _, cap, _, fp', a0, k0, a1, k1, a2, k2, a3, k3, a4, k4, Nat.le_refl _, by omega, rfl, by go_num, Lib.hid ⟨t', by rw [HN.out], by rw [HN.out]; exact HS5.out.sel [3, 4, 0, 6] (by decide) rfl⟩⟩
          | false =>
            obtain rfl : t' = x := HNO.out rfl
            have u0 := HS.out.cell (k := 0) 1 rfl rfl
            have u1 := HS.out.cell (k := 1) 1 rfl rfl
            have u2 := HS.out.cell (k := 2) 1 rfl rfl
            have u3 := HS.out.cell (k := 3) 1 rfl rfl
            have u4 := HS.out.cell (k := 4) 1 rfl rfl
            go_wp2
            obtain ⟨gs, hgs⟩ : ∃ gs, wr.heap.size = gs := ⟨_, rfl⟩
            obtain ⟨W1, hW1⟩ : ∃ W1, wr.alloc (.cells #[.int .i64 s.Kind, .int .i64 s.K, .string s.Text] 46) = W1 := ⟨_, rfl⟩
            have HS1 := Lib.hid ((HS.out.alloc' hgs 46 [.int .i64 s.Kind, .int .i64 s.K, .string s.Text]).atW hW1)
            rw [hW1, hgs]
            clear hW1 hgs e0 e1 e2 u0 u1 u2 u3 u4
            have u0 := HS1.out.cell (k := 0) 2 rfl rfl
            have u1 := HS1.out.cell (k := 1) 2 rfl rfl
            have u2 := HS1.out.cell (k := 2) 2 rfl rfl
            have u3 := HS1.out.cell (k := 3) 2 rfl rfl
            have u4 := HS1.out.cell (k := 4) 2 rfl rfl
            have c0' := HS1.out.cell (k := 0) 0 rfl rfl
            have c1' := HS1.out.cell (k := 1) 0 rfl rfl
            have c2' := HS1.out.cell (k := 2) 0 rfl rfl
            refine Mm.wp_region_give 9 (fun i => match i with | 1 => some (gTe t') | 3 => some (gTe2 t' false) | 7 => some (Mm.gPtr 31 zTell) | 8 => some (Mm.gSto 31) | _ => none) (fun i => match i with | 3 => [1] | 8 => [7] | _ => []) (fun _ => []) (F := []) (D := fun w' => ∃ t' : Und W1, w' = und W1 t') (fun X us h => Mm.sep_und h) (by kernel_rfl) (by kernel_rfl) (by kernel_rfl) (Mm.SepF.startDrew _) ?_
            repeat (refine Mm.give_det (by rfl) (by rfl) (by rfl) (fun K hK => ?_); go_big_quiet_op; refine hK _ ?_; clear hK K)
            refine Mm.give_op0 35 (by rfl) rfl (by rfl) (by rfl) (by rfl) (by rfl) gTe_in (fun others X hX => ?_) ?_
            · go_wp2_with (go_at_call 51; refine (l10Own_c t' _ X W1.heap.size (rTell.keep (HS1.out.rd 3 rfl) (fun b hb => hX.bel0.block b hb)) hX.chg.size HWF.out.sz).mono ?_; rintro e w5 ⟨cs5, fp5, rfl, ho, hnd, hnew, hb5⟩; obtain ⟨a0, k0, a1, k1, a2, k2, a3, k3, a4, k4, rfl⟩ := own_form ho)
              exact ⟨rfl, rfl, _, ⟨a0, k0, a1, k1, a2, k2, a3, k3, a4, k4, fp5, rfl, rfl⟩, hX.add hb5 (t := Mm.tow rTell t' _ _) ho hnd hnew⟩
            rintro v ds ⟨a0, k0, a1, k1, a2, k2, a3, k3, a4, k4, fp5, rfl, rfl⟩
            simp only [Act.put, List.setIfInBounds_toArray, List.set_cons_succ, List.set_cons_zero]
            repeat (refine Mm.give_det (by rfl) (by rfl) (by rfl) (fun K hK => ?_); go_big_quiet_op; refine hK _ ?_; clear hK K)
            refine Mm.give_op1 37 1 (by rfl) rfl (by rfl) (by rfl) (by rfl) rfl (by rfl) _ rfl gTe2_in (fun others X hX => ?_) ?_
            · go_wp2_with (go_at_call 50; refine (l10Step_c t' s _ fp5 X (hX.at_ 0 rfl) (hX.ndat (i := 0) rfl) HSW.out HWF.out).mono ?_; rintro e w6 ⟨cs6, fp6, rfl, hL⟩; rw [HR.out] at hL; rw [HR.out])
              have h9 := hX.call 0 rfl hL
              obtain ⟨a0, k0, a1, k1, a2, k2, a3, k3, a4, k4, rfl⟩ := own_form (h9.at_ 0 rfl)
              exact ⟨rfl, rfl, _, ⟨a0, k0, a1, k1, a2, k2, a3, k3, a4, k4, fp6, rfl, rfl⟩, h9⟩

            rintro v ds ⟨a0, k0, a1, k1, a2, k2, a3, k3, a4, k4, fp6, rfl, rfl⟩
            simp only [Act.put, List.setIfInBounds_toArray, List.set_cons_succ, List.set_cons_zero]
            repeat (refine Mm.give_det (by rfl) (by rfl) (by rfl) (fun K hK => ?_); go_big_quiet_op; refine hK _ ?_; clear hK K)
            refine Mm.give_op0 12 (by rfl) rfl (by rfl) (by rfl) (by rfl) (by rfl) Mm.gPtr_in (fun others X hX => ?_) ?_
            · go_wp2
              exact Mm.gvq_ptr hX rfl rfl rfl
            rintro v ds ⟨gp, rfl, rfl⟩
            simp only [Act.put, List.setIfInBounds_toArray, List.set_cons_succ, List.set_cons_zero]
            refine Mm.give_store 31 gp zTell [.slice a0 t'.Texts.length k0, .slice a1 t'.Heard.length k1, .slice a2 t'.Line.length k2, .slice a3 t'.Log.length k3, .slice a4 t'.Next.length k4] 7 (by rfl) rfl rfl (by rfl) rfl (by rfl) rfl rfl (fun others X hX => ?_) ?_
            · have HSR := Lib.hid hX
              have r0 := HSR.out.cell (k := 0) 0 rfl rfl
              have r1 := HSR.out.cell (k := 1) 0 rfl rfl
              have r2 := HSR.out.cell (k := 2) 0 rfl rfl
              have r3 := HSR.out.cell (k := 3) 0 rfl rfl
              have r4 := HSR.out.cell (k := 4) 0 rfl rfl
              have z0 := HSR.out.frz (k := 0) 0 rfl
              have z1 := HSR.out.frz (k := 1) 0 rfl
              have z2 := HSR.out.frz (k := 2) 0 rfl
              have z3 := HSR.out.frz (k := 3) 0 rfl
              have z4 := HSR.out.frz (k := 4) 0 rfl
              go_wp2
              exact ⟨rfl, rfl, _, rfl, (((((hX.setBlk (k := 0) 0 rfl (.slice a0 t'.Texts.length k0)).setBlk (k := 1) 0 rfl (.slice a1 t'.Heard.length k1)).setBlk (k := 2) 0 rfl (.slice a2 t'.Line.length k2)).setBlk (k := 3) 0 rfl (.slice a3 t'.Log.length k3)).setBlk (k := 4) 0 rfl (.slice a4 t'.Next.length k4))⟩
            refine Mm.give_nil ?_
            rintro X hX
            have HS3 := Lib.hid (HS1.out.join (us := [Mm.tow rTell t' [.slice a0 t'.Texts.length k0, .slice a1 t'.Heard.length k1, .slice a2 t'.Line.length k2, .slice a3 t'.Log.length k3, .slice a4 t'.Next.length k4] fp6, Mm.tblk gp 31 [.slice a0 t'.Texts.length k0, .slice a1 t'.Heard.length k1, .slice a2 t'.Line.length k2, .slice a3 t'.Log.length k3, .slice a4 t'.Next.length k4]]) hX)
            clear hX u0 u1 u2 u3 u4 c0' c1' c2'
            go_upto_region 11 with fail
            go_wp2_with (at_builtin; refine Mm.app_list HS3.out 3 rfl rfl (.tmp 42) (.tmp 44) 32 rfl i0 _ 1 Try.underlying32 hi hz0 hz1 hz2 rfl (by decide) rfl rfl (fun W => Mm.own_bool) HPL.out (by unfold maxLen; omega) (by omega) ?_; intro g cap w' fp' hs; (have HS5 := Lib.hid hs); clear hs)
            go_roundg (n - (k + 1))
            case measure => omega
            case rel => exact ⟨k + 1, _, cap, _, fp', A0, c0, A1, c1, A2, c2, A3, c3, A4, c4, Nat.le_refl _, by omega, rfl, by go_num, Lib.hid ⟨t', by rw [HN.out], by rw [HN.out]; exact HS5.out.sel [3, 4, 5, 6] (by decide) rfl⟩⟩
        · obtain rfl : k = n := by omega
          have HE : Hid (l.take k = l) := List.take_of_length_le (by rw [HLN.out]; exact Nat.le_refl _)
          have hlt' : ¬ ((k : Nat) : Int) < ((k : Nat) : Int) := by omega
          rw [HE.out] at HP
          rw [HP.out] at HF
          have u0 := HS.out.cell (k := 0) 1 rfl rfl
          have u1 := HS.out.cell (k := 1) 1 rfl rfl
          have u2 := HS.out.cell (k := 2) 1 rfl rfl
          have u3 := HS.out.cell (k := 3) 1 rfl rfl
          have u4 := HS.out.cell (k := 4) 1 rfl rfl
          go_wp2_with (go_at_call 51; refine (l10Own_c x _ _ wr.heap.size (HS.out.rd 2 rfl) (Nat.le_refl _) HWF.out.sz).mono ?_; rintro e w5 ⟨cs5, fp5, rfl, ho, hnd, hnew, hb5⟩; obtain ⟨a0, k0, a1, k1, a2, k2, a3, k3, a4, k4, rfl⟩ := own_form ho; (have HSR := Lib.hid (HS.out.add hb5 (t := Mm.tow rTell x _ _) ho hnd hnew)); clear ho hnd hnew hb5; (have r0 := HSR.out.cell (k := 0) 4 rfl rfl); (have r1 := HSR.out.cell (k := 1) 4 rfl rfl); (have r2 := HSR.out.cell (k := 2) 4 rfl rfl); (have r3 := HSR.out.cell (k := 3) 4 rfl rfl); (have r4 := HSR.out.cell (k := 4) 4 rfl rfl); (have z0 := HSR.out.frz (k := 0) 4 rfl); (have z1 := HSR.out.frz (k := 1) 4 rfl); (have z2 := HSR.out.frz (k := 2) 4 rfl); (have z3 := HSR.out.frz (k := 3) 4 rfl); (have z4 := HSR.out.frz (k := 4) 4 rfl))
          have HSF := Lib.hid (((((HSR.out.setBlk (k := 0) 4 rfl (.slice a0 x.Texts.length k0)).setBlk (k := 1) 4 rfl (.slice a1 x.Heard.length k1)).setBlk (k := 2) 4 rfl (.slice a2 x.Line.length k2)).setBlk (k := 3) 4 rfl (.slice a3 x.Log.length k3)).setBlk (k := 4) 4 rfl (.slice a4 x.Next.length k4))
          have q0 := HSF.out.cell (k := 0) 4 rfl rfl
          have q1 := HSF.out.cell (k := 1) 4 rfl rfl
          have q2 := HSF.out.cell (k := 2) 4 rfl rfl
          have q3 := HSF.out.cell (k := 3) 4 rfl rfl
          have q4 := HSF.out.cell (k := 4) 4 rfl rfl
          exact bodyPost_ret (v := .tuple #[.agg #[.slice a0 x.Texts.length k0, .slice a1 x.Heard.length k1, .slice a2 x.Line.length k2, .slice a3 x.Log.length k3, .slice a4 x.Next.length k4], .slice A' k c', .bool true]) (by simp [results, Try.results10, go_sem, q0, q1, q2, q3, q4]) rfl ⟨_, A', k, c', _, _, by rw [HF.out], by rw [HF.out]; exact HSF.out.sel [0, 1] (by decide) rfl⟩
    · have HF : Hid (Pl.playTell m l = (Pl.zTe, [], false)) := if_neg (by omega)
      have f1 : decide ((150 : Int) < ((n : Nat) : Int)) = true := by simp; omega
      have HLN := Lib.hid hlen
      clear hlen
      go_enter Try.func10, Try.ntmps10
      go_wp2_with (go_at_call 28; (with_reducible refine (specNewTell_c _ _).mono ?_); rintro e w1 ⟨cs1, fp1, rfl, ho, hnd, hnew, hb⟩; rw [HQ.out] at ho; rw [HQ.out]; obtain ⟨A0, c0, A1, c1, A2, c2, A3, c3, A4, c4, rfl⟩ := own_form ho; (have HSR := Lib.hid ((KS0.out.add hb (t := Mm.tow rTell (Pl.newTe m.toNat) _ _) ho hnd hnew).alloc' rfl 31 [.slice A0 (Pl.newTe m.toNat).Texts.length c0, .slice A1 (Pl.newTe m.toNat).Heard.length c1, .slice A2 (Pl.newTe m.toNat).Line.length c2, .slice A3 (Pl.newTe m.toNat).Log.length c3, .slice A4 (Pl.newTe m.toNat).Next.length c4])); clear ho hnd hnew hb; (have r0 := HSR.out.cell (k := 0) 2 rfl rfl); (have r1 := HSR.out.cell (k := 1) 2 rfl rfl); (have r2 := HSR.out.cell (k := 2) 2 rfl rfl); (have r3 := HSR.out.cell (k := 3) 2 rfl rfl); (have r4 := HSR.out.cell (k := 4) 2 rfl rfl); (have z0 := HSR.out.frz (k := 0) 2 rfl); (have z1 := HSR.out.frz (k := 1) 2 rfl); (have z2 := HSR.out.frz (k := 2) 2 rfl); (have z3 := HSR.out.frz (k := 3) 2 rfl); (have z4 := HSR.out.frz (k := 4) 2 rfl))
      rw [HF.out]
      have HSF := Lib.hid (((((HSR.out.setBlk (k := 0) 2 rfl (.slice none 0 0)).setBlk (k := 1) 2 rfl (.slice none 0 0)).setBlk (k := 2) 2 rfl (.slice none 0 0)).setBlk (k := 3) 2 rfl (.slice none 0 0)).setBlk (k := 4) 2 rfl (.slice none 0 0))
      have q0 := HSF.out.cell (k := 0) 2 rfl rfl
      have q1 := HSF.out.cell (k := 1) 2 rfl rfl
      have q2 := HSF.out.cell (k := 2) 2 rfl rfl
      have q3 := HSF.out.cell (k := 3) 2 rfl rfl
      have q4 := HSF.out.cell (k := 4) 2 rfl rfl
      exact bodyPost_ret (v := .tuple #[.agg zTell.toArray, .slice none 0 0, .bool false]) (by simp [results, Try.results10, go_sem, zTell, q0, q1, q2, q3, q4]) rfl (playNo HSF.out.bel0)
  · have HQ : Hid (Pl.newTell m = (Pl.zTe, false)) := if_neg hin
    have HF : Hid (Pl.playTell m l = (Pl.zTe, [], false)) := if_neg (fun h => hin h.1)
    have HLN := Lib.hid hlen
    clear hlen hin
    go_enter Try.func10, Try.ntmps10
    go_wp2_with (go_at_call 28; (with_reducible refine (specNewTell_c _ _).mono ?_); rintro e w1 ⟨cs1, fp1, rfl, ho, hnd, hnew, hb⟩; rw [HQ.out] at ho; rw [HQ.out]; obtain ⟨A0, c0, A1, c1, A2, c2, A3, c3, A4, c4, rfl⟩ := own_form ho; (have HSR := Lib.hid ((KS0.out.add hb (t := Mm.tow rTell Pl.zTe _ _) ho hnd hnew).alloc' rfl 31 [.slice A0 Pl.zTe.Texts.length c0, .slice A1 Pl.zTe.Heard.length c1, .slice A2 Pl.zTe.Line.length c2, .slice A3 Pl.zTe.Log.length c3, .slice A4 Pl.zTe.Next.length c4])); clear ho hnd hnew hb; (have r0 := HSR.out.cell (k := 0) 2 rfl rfl); (have r1 := HSR.out.cell (k := 1) 2 rfl rfl); (have r2 := HSR.out.cell (k := 2) 2 rfl rfl); (have r3 := HSR.out.cell (k := 3) 2 rfl rfl); (have r4 := HSR.out.cell (k := 4) 2 rfl rfl); (have z0 := HSR.out.frz (k := 0) 2 rfl); (have z1 := HSR.out.frz (k := 1) 2 rfl); (have z2 := HSR.out.frz (k := 2) 2 rfl); (have z3 := HSR.out.frz (k := 3) 2 rfl); (have z4 := HSR.out.frz (k := 4) 2 rfl))
    rw [HF.out]
    have HSF := Lib.hid (((((HSR.out.setBlk (k := 0) 2 rfl (.slice none 0 0)).setBlk (k := 1) 2 rfl (.slice none 0 0)).setBlk (k := 2) 2 rfl (.slice none 0 0)).setBlk (k := 3) 2 rfl (.slice none 0 0)).setBlk (k := 4) 2 rfl (.slice none 0 0))
    have q0 := HSF.out.cell (k := 0) 2 rfl rfl
    have q1 := HSF.out.cell (k := 1) 2 rfl rfl
    have q2 := HSF.out.cell (k := 2) 2 rfl rfl
    have q3 := HSF.out.cell (k := 3) 2 rfl rfl
    have q4 := HSF.out.cell (k := 4) 2 rfl rfl
    exact bodyPost_ret (v := .tuple #[.agg zTell.toArray, .slice none 0 0, .bool false]) (by simp [results, Try.results10, go_sem, zTell, q0, q1, q2, q3, q4]) rfl (playNo HSF.out.bel0)
end Go.Proofs.Ytaepohocabealaa

/-
  Contracts: the cursor that draws choices from bytes. No conditions.
-/
namespace Go.Proofs.Ytaepohocabealaa
open Go.RowKit
attribute [local go_sem] und_cell World.cell?_alloc_some
namespace Mm
def U8 (n : Int) : Prop := 0 ≤ n ∧ n ≤ 255
def u8 : Rep Int := flat 1 (fun n => [.int .u8 n]) U8 (fun _ => rfl) (fun _ u hu => by rw [List.mem_singleton.1 hu]; rfl)
theorem opens_u8 {P : Program} {t : TypeId} (ht : P.underlying t = some (.int .u8)) (hc : P.cellsOf t = 1) : Opens P t u8 := ⟨hc, fun H enc w base spare held fuel cs x h => by
  obtain ⟨n, rfl, _, hw⟩ := DataW.trod_int ht h
  refine ⟨n, rfl, ?_⟩
  simp [Lit.wf, IntKind.min, IntKind.max, IntKind.signed, IntKind.bits] at hw
  unfold U8
  omega⟩
/-- a cursor: its block -/
def tcur (T : TypeId) (A : Option Addr) (n c g K : Nat) : Thing :=
  ⟨[g], fun w => ∃ at_ seed : Int, Blk w g T [.slice A n c, .int .i64 at_, .int .u64 seed] ∧ 0 ≤ at_ ∧ at_ ≤ K, fun ⟨a, s, h1, h2⟩ k => ⟨a, s, h1.keep (k g (by simp)), h2⟩, fun ⟨a, s, h1, h2⟩ b hb => by rw [List.mem_singleton.1 hb]; exact h1.lt⟩
theorem tcur_more {T : TypeId} {A : Option Addr} {n c g K K' : Nat} {w : World} (h : (tcur T A n c g K).holds w) (hk : K ≤ K') : (tcur T A n c g K').holds w := by
  obtain ⟨a, s, h1, h2, h3⟩ := h
  exact ⟨a, s, h1, h2, by omega⟩
theorem SepF.swapFor {F : List Nat} {w0 wr : World} {ts : List Thing} {t t' : Thing} (h : SepF F w0 wr ts) (i : Nat) (hi : ts[i]? = some t) (hf : t'.fp = t.fp) (hh : t.holds wr → t'.holds wr) : SepF F w0 wr (ts.set i t') :=
  h.upd hi (Chg.refl _ _) (hh (h.at_ i hi)) (by rw [hf]; exact h.ndat hi) (fun b hb => .inl (hf ▸ hb))
theorem SepF.more {F : List Nat} {w0 wr : World} {ts : List Thing} {T : TypeId} {A : Option Addr} {n c g K K' : Nat} (h : SepF F w0 wr ts) (i : Nat) (hi : ts[i]? = some (tcur T A n c g K)) (hk : K ≤ K') : SepF F w0 wr (ts.set i (tcur T A n c g K')) :=
  h.swapFor i hi rfl fun h => tcur_more h hk
end Mm
theorem opens_u8S : Mm.Opens Try.prog 22 (Mm.slice Mm.u8 5) := Mm.opens_slice Try.underlying22 (by kernel_rfl) (by decide) (Mm.opens_u8 Try.underlying5 (by kernel_rfl))
theorem next_left {T : TypeId} {A : Option Addr} {n c g K p q : Nat} {a s a' s' : Int} {w : World} (hb : Mm.Blk w g T [.slice A n c, .int .i64 a, .int .u64 s]) (h0 : 0 ≤ a') (h1 : a' ≤ K) :
    Mm.Left [g] w ((((w.drewN p).setCell ⟨g, 1, none⟩ (.int .i64 a')).setCell ⟨g, 2, none⟩ (.int .u64 s')).drewN q) (Mm.tcur T A n c g K) := by
  have h2 := (((hb.bel (below_drewN (Below.refl _ w) p)).set_ 1 (.int .i64 a')).set_ 2 (.int .u64 s'))
  have h3 := h2.bel (below_drewN (Below.refl _ _) q)
  have h4 : Mm.Chg [g] w (((w.drewN p).setCell ⟨g, 1, none⟩ (.int .i64 a')).setCell ⟨g, 2, none⟩ (.int .u64 s')) := ((Mm.Chg.of_below (below_drewN (Below.refl _ w) p)).setCell (by simp) _).setCell (by simp) _
  exact ⟨h4.trans (Mm.Chg.of_below (below_drewN (Below.refl _ _) q)), by simp [Mm.tcur], fun b hb => .inl (by simpa [Mm.tcur] using hb), a', s', h3, h0, h1⟩
theorem u64_bd (z : Int) : 0 ≤ IntKind.u64.wrap z ∧ IntKind.u64.wrap z < 18446744073709551616 := by rw [IntKind.wrap_u64]; omega
theorem and255 (z : Int) : 0 ≤ wrap64 (bits .and .u64 (IntKind.u64.wrap z / 1099511627776) 255) ∧ wrap64 (bits .and .u64 (IntKind.u64.wrap z / 1099511627776) 255) ≤ 255 := by
  have h := u64_bd z
  obtain ⟨m, hm⟩ : ∃ m : Nat, IntKind.u64.wrap z / 1099511627776 = m := ⟨(IntKind.u64.wrap z / 1099511627776).toNat, by omega⟩
  rw [hm, show (255 : Int) = ((255 : Nat) : Int) from rfl, bits_and_u64_nat m 255 (by omega) (by omega)]
  have h2 : m &&& 255 ≤ 255 := Nat.and_le_right
  rw [IntWalk.wrap64_in _ (by omega)]
  omega
set_option maxRecDepth 100000 in
set_option maxHeartbeats 1000000 in
theorem next_c (code : List Int) (A : Option Addr) (n c g K : Nat) (w : World) (B : Nat) (hc : Mm.SlAt Mm.u8 w B code A n c) (hB : B ≤ g) (h : (Mm.tcur 85 A n c g K).holds w) (hK : K < 4611686018427387904) :
    Calls Try.prog 86 #[.pointer (some ⟨g, 0, none⟩)] w fun e w' => ∃ b : Int, e = .returned (.int .i64 b) ∧ 0 ≤ b ∧ b ≤ 255 ∧ Mm.Left [g] w w' (Mm.tcur 85 A n c g (K + 1)) := by
  obtain ⟨a, s, hb, h0, h1⟩ := h
  have hlen : n ≤ maxLen := Nat.le_trans hc.2.1 hc.2.2.1
  unfold maxLen at hlen
  have KB := Lib.hid hb
  have c0 := hb.cell (i := 0) rfl
  have c1 := hb.cell (i := 1) rfl
  have c2 := hb.cell (i := 2) rfl
  have z0 := hb.frozen 0
  have z1 := hb.frozen 1
  have z2 := hb.frozen 2
  obtain ⟨k, rfl⟩ : ∃ k : Nat, a = k := ⟨a.toNat, by omega⟩
  clear hb
  by_cases hlt : k < n
  · obtain ⟨x, b, off, cs, hx, rfl, hbB, hat, hcell⟩ := hc.get hlt
    obtain ⟨rfl, hx0, hx1⟩ := hat
    have hcc := hcell 0 _ rfl
    rw [Nat.add_zero, show Mm.u8.size = 1 from rfl, Nat.mul_one] at hcc
    have hgb : b ≠ g := by omega
    have e1 : ((k : Nat) : Int) < (n : Nat) := by omega
    have e2 : (0 : Int) ≤ (k : Nat) := by omega
    have e3 : ((k : Nat) : Int).toNat = k := by omega
    clear hcell hx hc
    go_enter Try.func86, Try.ntmps86
    go_wp2
    go_quiet (fail)
    go_wp2
    go_quiet (fail)
    go_wp2
    go_quiet (fail)
    go_wp2
    go_ret
    exact ⟨x, rfl, hx0, hx1, next_left KB.out (by omega) (by omega)⟩
  · have e1 : ¬ ((k : Nat) : Int) < (n : Nat) := by omega
    have e2 : ¬ ((k : Nat) : Int) + 1 ≤ (n : Nat) := by omega
    clear hc
    go_enter Try.func86, Try.ntmps86
    go_wp2
    go_quiet (fail)
    go_wp2
    go_quiet (fail)
    go_wp2
    go_ret
    exact ⟨_, rfl, (and255 _).1, (and255 _).2, next_left KB.out (by omega) (by omega)⟩
set_option maxRecDepth 100000 in
theorem pick_c (code : List Int) (A : Option Addr) (n c g K : Nat) (N : Int) (w : World) (B : Nat) (hc : Mm.SlAt Mm.u8 w B code A n c) (hB : B ≤ g) (h : (Mm.tcur 85 A n c g K).holds w) (hK : K < 4611686018427387000) (hN : N ≤ 200) :
    Calls Try.prog 45 #[.pointer (some ⟨g, 0, none⟩), .int .i64 N] w fun e w' => ∃ b : Int, e = .returned (.int .i64 b) ∧ 0 ≤ b ∧ b ≤ 199 ∧ (1 ≤ N → b < N) ∧ Mm.Left [g] w w' (Mm.tcur 85 A n c g (K + 1)) := by
  by_cases h1 : N ≤ 1
  · go_enter Try.func45, Try.ntmps45
    go_wp2
    go_ret
    exact ⟨0, rfl, by omega, by omega, by omega, Mm.Chg.refl _ _, by simp [Mm.tcur], fun b hb => .inl (by simpa [Mm.tcur] using hb), Mm.tcur_more h (by omega)⟩
  · have h2 : ¬ 200 < N := by omega
    have h3 : N ≠ 0 := by omega
    go_enter Try.func45, Try.ntmps45
    go_wp2_with (go_at_call 86; refine (next_c code A n c g K _ B hc hB h (by omega)).mono ?_; rintro e w1 ⟨b, rfl, hb0, hb1, hL⟩)
    go_ret
    have hm0 : 0 ≤ b % N := Int.emod_nonneg _ h3
    have hm1 : b % N < N := Int.emod_lt_of_pos _ (by omega)
    exact ⟨_, rfl, hm0, by omega, fun _ => hm1, hL⟩
theorem one_c (code : List Int) (A : Option Addr) (n c g K : Nat) (N : Int) (w : World) (B : Nat) (hc : Mm.SlAt Mm.u8 w B code A n c) (hB : B ≤ g) (h : (Mm.tcur 85 A n c g K).holds w) (hK : K < 4611686018427387000) (hN : N ≤ 200) :
    Calls Try.prog 87 #[.pointer (some ⟨g, 0, none⟩), .int .i64 N] w fun e w' => ∃ b : Bool, e = .returned (.bool b) ∧ Mm.Left [g] w w' (Mm.tcur 85 A n c g (K + 1)) := by
  go_enter Try.func87, Try.ntmps87
  go_wp2_with (go_at_call 45; refine (pick_c code A n c g K N _ B hc hB h hK hN).mono ?_; rintro e w1 ⟨b, rfl, hb0, hb1, -, hL⟩)
  go_ret
  exact ⟨_, rfl, hL⟩
set_option maxRecDepth 100000 in
theorem among_c (code : List Int) (A : Option Addr) (n c g K : Nat) (xs : List Int) (bl m : Nat) (w : World) (B : Nat) (hc : Mm.SlAt Mm.u8 w B code A n c) (hB : B ≤ g) (h : (Mm.tcur 85 A n c g K).holds w) (hK : K < 4611686018427387000)
    (hbl : Mm.Blk w bl 3 (xs.map fun x => .int .i64 x)) (hne : bl ≠ g) (hm : xs.length = m) (h1 : 1 ≤ m) (h2 : m ≤ 200) :
    Calls Try.prog 61 #[.pointer (some ⟨g, 0, none⟩), .slice (some ⟨bl, 0, none⟩) m m] w fun e w' => ∃ v : Int, e = .returned (.int .i64 v) ∧ v ∈ xs ∧ Mm.Left [g] w w' (Mm.tcur 85 A n c g (K + 1)) := by
  go_enter Try.func61, Try.ntmps61
  have arm : ∀ (w1 : World) (b : Int), 0 ≤ b → (1 ≤ (m : Int) → b < m) → Mm.Left [g] w w1 (Mm.tcur 85 A n c g (K + 1)) → ∃ v : Int, v ∈ xs ∧ w1.cell? ⟨bl, b.toNat, none⟩ = some (.int .i64 v) ∧ 0 ≤ b ∧ b < m := fun w1 b hb0 hb1 hL => by
    have hlt := hb1 (by omega)
    have hk : b.toNat < xs.length := by omega
    have hx := List.getElem?_eq_getElem hk
    refine ⟨xs[b.toNat], List.getElem_mem hk, ?_, hb0, hlt⟩
    exact (hbl.keep (w' := w1) (hL.1.block bl hbl.lt (by simpa using hne))).cell (by rw [List.getElem?_map, hx]; rfl)
  go_wp2_with (go_at_call 45; refine (pick_c code A n c g K m _ B hc hB h hK (by omega)).mono ?_; rintro e w1 ⟨b, rfl, hb0, -, hb2, hL⟩; obtain ⟨v, hv, hcell, hb3, hb4⟩ := arm w1 b hb0 hb2 hL)
  go_ret
  exact ⟨v, rfl, hv, hL⟩
set_option maxRecDepth 100000 in
theorem of_c (code : List Int) (A : Option Addr) (n c g K : Nat) (xs : List ByteArray) (bl m : Nat) (w : World) (B : Nat) (hc : Mm.SlAt Mm.u8 w B code A n c) (hB : B ≤ g) (h : (Mm.tcur 85 A n c g K).holds w) (hK : K < 4611686018427387000)
    (hbl : Mm.Blk w bl 9 (xs.map fun x => .string x)) (hne : bl ≠ g) (hm : xs.length = m) (h1 : 1 ≤ m) (h2 : m ≤ 200) :
    Calls Try.prog 88 #[.pointer (some ⟨g, 0, none⟩), .slice (some ⟨bl, 0, none⟩) m m] w fun e w' => ∃ v : ByteArray, e = .returned (.string v) ∧ v ∈ xs ∧ Mm.Left [g] w w' (Mm.tcur 85 A n c g (K + 1)) := by
  go_enter Try.func88, Try.ntmps88
  have arm : ∀ (w1 : World) (b : Int), 0 ≤ b → (1 ≤ (m : Int) → b < m) → Mm.Left [g] w w1 (Mm.tcur 85 A n c g (K + 1)) → ∃ v : ByteArray, v ∈ xs ∧ w1.cell? ⟨bl, b.toNat, none⟩ = some (.string v) ∧ 0 ≤ b ∧ b < m := fun w1 b hb0 hb1 hL => by
    have hlt := hb1 (by omega)
    have hk : b.toNat < xs.length := by omega
    have hx := List.getElem?_eq_getElem hk
    refine ⟨xs[b.toNat], List.getElem_mem hk, ?_, hb0, hlt⟩
    exact (hbl.keep (w' := w1) (hL.1.block bl hbl.lt (by simpa using hne))).cell (by rw [List.getElem?_map, hx]; rfl)
  go_wp2_with (go_at_call 45; refine (pick_c code A n c g K m _ B hc hB h hK (by omega)).mono ?_; rintro e w1 ⟨b, rfl, hb0, -, hb2, hL⟩; obtain ⟨v, hv, hcell, hb3, hb4⟩ := arm w1 b hb0 hb2 hL)
  go_ret
  exact ⟨v, rfl, hv, hL⟩
end Go.Proofs.Ytaepohocabealaa

/-
  Plain functions: which tellers are good. No program in sight. No conditions.
-/
namespace Go.Proofs.Ytaepohocabealaa
namespace Pl
def textOk (t : Tell) (k : Nat) : Bool :=
  match t.Texts[k]?, t.Next[k]?, t.Heard[k]? with
  | some l, some a, some b => decide (l.length ≤ 20) && l.all (fun s => decide (s.size ≤ 20)) && isIn a 0 l.length && isIn b 0 a
  | _, _, _ => true
def sayAt (t : Tell) (x : Told) : ByteArray := (tAt t x.Who).getD x.No.toNat ByteArray.empty
def saidOk (t : Tell) (x : Told) : Bool := isIn x.Who 0 ((t.Texts.length : Int) - 1) && isIn x.No 0 (((tAt t x.Who).length : Int) - 1) && ((sayAt t x).toList == x.Text.toList)
def noteOk (t : Tell) (m : Note) : Bool := isIn m.What.Who 0 ((t.Texts.length : Int) - 1) && (if m.Back = true then isIn m.What.No 0 (iAt t.Next m.What.Who) && m.What.Text.toList.isEmpty else saidOk t m.What)
def logStep (t : Tell) (s : List Int) (x : Told) : Option (List Int) := if (saidOk t x && decide (x.No = iAt s x.Who)) = true then some (s.set x.Who.toNat (iAt s x.Who + 1)) else none
def logRun (t : Tell) (l : List Told) : Option (List Int) := l.foldl (fun s x => s.bind fun s => logStep t s x) (some (List.replicate t.Texts.length 0))
def goodPre (t : Tell) : Bool := isIn t.Texts.length 1 4 && decide (t.Heard.length = t.Texts.length) && decide (t.Next.length = t.Texts.length) && decide (t.Line.length ≤ 30)
def goodTell (t : Tell) : Bool := goodPre t && (List.range t.Texts.length).all (textOk t) && t.Line.all (noteOk t) && decide (logRun t t.Log = some t.Next)
theorem isIn_iff' {n a b : Int} : isIn n a b = true ↔ a ≤ n ∧ n ≤ b := by unfold isIn; simp
theorem good_pre {t : Tell} (h : goodPre t = true) : (1 ≤ t.Texts.length ∧ t.Texts.length ≤ 4) ∧ t.Heard.length = t.Texts.length ∧ t.Next.length = t.Texts.length ∧ t.Line.length ≤ 30 := by
  unfold goodPre at h
  simp only [Bool.and_eq_true, decide_eq_true_eq, isIn_iff'] at h
  omega
theorem good_bad1 {t : Tell} (h : goodPre t = false) : goodTell t = false := by unfold goodTell; rw [h]; rfl
theorem good_bad2 {t : Tell} {k : Nat} (hk : k < t.Texts.length) (h : textOk t k = false) : goodTell t = false := by
  unfold goodTell
  have : (List.range t.Texts.length).all (textOk t) = false := by
    rw [List.all_eq_false]; exact ⟨k, List.mem_range.2 hk, by rw [h]; simp⟩
  rw [this]; simp
theorem good_bad3 {t : Tell} {k : Nat} {m : Note} (hk : t.Line[k]? = some m) (h : noteOk t m = false) : goodTell t = false := by
  unfold goodTell
  have : t.Line.all (noteOk t) = false := by
    rw [List.all_eq_false]; exact ⟨m, List.mem_of_getElem? hk, by rw [h]; simp⟩
  rw [this]; simp
theorem logRun_snoc (t : Tell) (l : List Told) (x : Told) : logRun t (l ++ [x]) = (logRun t l).bind fun s => logStep t s x := by
  unfold logRun; rw [List.foldl_append]; rfl
theorem logRun_none (t : Tell) : ∀ (l : List Told), l.foldl (fun s x => s.bind fun s => logStep t s x) (none : Option (List Int)) = none
  | [] => rfl
  | x :: l => by rw [List.foldl_cons]; exact logRun_none t l
theorem good_bad4 {t : Tell} {k : Nat} {x : Told} {s : List Int} (hs : logRun t (t.Log.take k) = some s) (hk : t.Log[k]? = some x) (h : logStep t s x = none) : goodTell t = false := by
  have h1 : logRun t t.Log = none := by
    have e : t.Log = t.Log.take k ++ x :: t.Log.drop (k + 1) := by
      obtain ⟨hi, hx⟩ := List.getElem?_eq_some_iff.1 hk
      rw [← hx, ← List.drop_eq_getElem_cons hi, List.take_append_drop]
    have h2 : logRun t (t.Log.take k ++ x :: t.Log.drop (k + 1)) = none := by
      unfold logRun at hs ⊢
      rw [List.foldl_append, hs, List.foldl_cons]
      show List.foldl _ (logStep t s x) _ = none
      rw [h]; exact logRun_none t _
    rw [← e] at h2
    exact h2
  unfold goodTell
  rw [h1]
  simp
theorem good_all {t : Tell} (h1 : goodPre t = true) (h2 : ∀ k, k < t.Texts.length → textOk t k = true) (h3 : ∀ (k : Nat) (m : Note), t.Line[k]? = some m → noteOk t m = true) {s : List Int} (h4 : logRun t t.Log = some s) : goodTell t = decide (s = t.Next) := by
  unfold goodTell
  have e2 : (List.range t.Texts.length).all (textOk t) = true := by rw [List.all_eq_true]; exact fun k hk => h2 k (List.mem_range.1 hk)
  have e3 : t.Line.all (noteOk t) = true := by
    rw [List.all_eq_true]; intro m hm
    obtain ⟨k, hk⟩ := List.mem_iff_getElem?.1 hm
    exact h3 k m hk
  rw [h1, e2, e3, h4]
  simp
theorem textOk_eq {t : Tell} {k : Nat} {l : List ByteArray} {a b : Int} (h1 : t.Texts[k]? = some l) (h2 : t.Next[k]? = some a) (h3 : t.Heard[k]? = some b) : textOk t k = (decide (l.length ≤ 20) && l.all (fun s => decide (s.size ≤ 20)) && isIn a 0 l.length && isIn b 0 a) := by
  unfold textOk; rw [h1, h2, h3]
theorem logStep_len {t : Tell} {s s' : List Int} {x : Told} (h : logStep t s x = some s') (hs : s.length = t.Texts.length) : s'.length = t.Texts.length ∧ sum s' = sum s + 1 := by
  unfold logStep at h
  split at h
  · rename_i hc
    injection h with h
    subst h
    have h1 : isIn x.Who 0 ((t.Texts.length : Int) - 1) = true := by
      unfold saidOk at hc
      simp only [Bool.and_eq_true] at hc
      exact hc.1.1.1
    rw [isIn_iff'] at h1
    have hk : x.Who.toNat < s.length := by omega
    refine ⟨by rw [List.length_set]; exact hs, ?_⟩
    have hx := List.getElem?_eq_getElem hk
    rw [sum_set hx, iAt_of hx]
    omega
  · cases h
theorem logRun_len {t : Tell} : ∀ (n : Nat) (l : List Told), l.length = n → ∀ s, logRun t l = some s → s.length = t.Texts.length ∧ sum s = n
  | 0, l, hl, s, h => by
    rw [List.length_eq_zero_iff.1 hl] at h
    have h0 : s = List.replicate t.Texts.length 0 := by
      unfold logRun at h; simp only [List.foldl_nil, Option.some.injEq] at h; exact h.symm
    subst h0
    have hs : ∀ m k : Nat, sumTo (List.replicate m 0) k = 0 := fun m k => by
      induction k with
      | zero => rfl
      | succ k ih =>
        rw [sumTo, ih, List.getD_eq_getElem?_getD, List.getElem?_replicate]
        split <;> rfl
    exact ⟨by simp, by unfold sum; rw [hs]; rfl⟩
  | n + 1, l, hl, s, h => by
    rcases List.eq_nil_or_concat l with rfl | ⟨l', x, rfl⟩
    · cases hl
    · rw [List.concat_eq_append] at hl h
      rw [logRun_snoc] at h
      cases hr : logRun t l' with
      | none => rw [hr] at h; cases h
      | some s' =>
        rw [hr] at h
        have ih := logRun_len n l' (by simpa using hl) s' hr
        have h2 := logStep_len h ih.1
        exact ⟨h2.1, by rw [h2.2, ih.2]; push_cast; rfl⟩
theorem good_wf {t : Tell} (h : goodTell t = true) : TWf t := by
  unfold goodTell at h
  simp only [Bool.and_eq_true, decide_eq_true_eq, List.all_eq_true] at h
  obtain ⟨⟨⟨h1, h2⟩, h3⟩, h4⟩ := h
  have hp := good_pre h1
  have ht : ∀ (k : Nat) (l : List ByteArray) (a b : Int), t.Texts[k]? = some l → t.Next[k]? = some a → t.Heard[k]? = some b → l.length ≤ 20 ∧ (0 ≤ a ∧ a ≤ l.length) ∧ (0 ≤ b ∧ b ≤ a) := fun k l a b e1 e2 e3 => by
    have := h2 k (List.mem_range.2 (List.getElem?_eq_some_iff.1 e1).1)
    rw [textOk_eq e1 e2 e3] at this
    simp only [Bool.and_eq_true, decide_eq_true_eq, isIn_iff'] at this
    exact ⟨this.1.1.1, this.1.2, this.2⟩
  have gx : ∀ (k : Nat), k < t.Texts.length → ∃ l a b, t.Texts[k]? = some l ∧ t.Next[k]? = some a ∧ t.Heard[k]? = some b := fun k hk =>
    ⟨_, _, _, List.getElem?_eq_getElem hk, List.getElem?_eq_getElem (show k < t.Next.length by omega), List.getElem?_eq_getElem (show k < t.Heard.length by omega)⟩
  refine ⟨hp.1.2, hp.2.1, hp.2.2.1, hp.2.2.2, (logRun_len _ t.Log rfl _ h4).2.symm, fun k l hl => ?_, fun k a l ha hl => ?_, fun k a l ha hl => ?_, fun m hm => ?_⟩
  · obtain ⟨l', a, b, e1, e2, e3⟩ := gx k (List.getElem?_eq_some_iff.1 hl).1
    rw [hl] at e1; injection e1 with e1; subst e1
    exact (ht k l a b hl e2 e3).1
  · obtain ⟨l', a', b, e1, e2, e3⟩ := gx k (List.getElem?_eq_some_iff.1 hl).1
    rw [hl] at e1; injection e1 with e1; subst e1
    rw [ha] at e2; injection e2 with e2; subst e2
    exact (ht k l a b hl ha e3).2.1
  · obtain ⟨l', b, a', e1, e2, e3⟩ := gx k (List.getElem?_eq_some_iff.1 hl).1
    rw [hl] at e1; injection e1 with e1; subst e1
    rw [ha] at e3; injection e3 with e3; subst e3
    have := ht k l b a hl e2 ha
    omega
  · have hn := h3 m hm
    unfold noteOk at hn
    rw [Bool.and_eq_true, isIn_iff'] at hn
    obtain ⟨hw, hn⟩ := hn
    obtain ⟨l', a, b, e1, e2, e3⟩ := gx m.What.Who.toNat (by omega)
    have hh := ht _ l' a b e1 e2 e3
    refine ⟨hw.1, by omega, ?_, fun l hl => ?_⟩
    · split at hn
      · rw [Bool.and_eq_true, isIn_iff'] at hn; exact hn.1.1
      · unfold saidOk at hn
        rw [Bool.and_eq_true, Bool.and_eq_true, isIn_iff', isIn_iff'] at hn
        exact hn.1.2.1
    · rw [hl] at e1; injection e1 with e1; subst e1
      split at hn
      · rename_i hb
        rw [Bool.and_eq_true, isIn_iff', iAt_of e2] at hn
        exact ⟨by omega, fun hf => by rw [hb] at hf; cases hf⟩
      · unfold saidOk at hn
        rw [Bool.and_eq_true, Bool.and_eq_true, isIn_iff', isIn_iff', tAt_of hl] at hn
        have := hn.1.2
        exact ⟨by omega, fun _ => by omega⟩
/-- the first index at which p holds, or -1 -/
def ixp {α : Type} (p : α → Bool) : List α → Int
  | [] => -1
  | x :: t => if p x = true then 0 else if ixp p t < 0 then -1 else ixp p t + 1
theorem ixp_ge {α : Type} (p : α → Bool) : ∀ l : List α, -1 ≤ ixp p l
  | [] => by simp [ixp]
  | x :: t => by
    have := ixp_ge p t
    unfold ixp
    split
    · omega
    · split <;> omega
theorem ixp_none {α : Type} {p : α → Bool} : ∀ {l : List α} {n : Nat}, l.length ≤ n → (∀ (i : Nat) (x : α), i < n → l[i]? = some x → p x = false) → ixp p l = -1
  | [], _, _, _ => rfl
  | x :: t, n, hn, h => by
    have h0 := h 0 x (by simp at hn; omega) rfl
    have := ixp_none (l := t) (n := n - 1) (by simp at hn; omega) (fun i y hi hy => h (i + 1) y (by omega) (by simpa using hy))
    unfold ixp
    rw [h0, this]
    simp
theorem ixp_at {α : Type} {p : α → Bool} : ∀ {l : List α} {k : Nat} {x : α}, l[k]? = some x → p x = true → (∀ (i : Nat) (y : α), i < k → l[i]? = some y → p y = false) → ixp p l = (k : Int)
  | [], k, x, h, _, _ => by simp at h
  | y :: t, 0, x, h, hp, _ => by
    simp at h
    subst h
    unfold ixp
    rw [if_pos hp]
    rfl
  | y :: t, k + 1, x, h, hp, ha => by
    have h0 := ha 0 y (by omega) rfl
    have h1 := ixp_at (l := t) (k := k) (x := x) (by simpa using h) hp (fun i z hi hz => ha (i + 1) z (by omega) (by simpa using hz))
    unfold ixp
    rw [h0, h1, if_neg (by simp), if_neg (by omega)]
    push_cast
    rfl
theorem ixp_any {α : Type} (p : α → Bool) : ∀ l : List α, l.any p = decide (0 ≤ ixp p l)
  | [] => by simp [ixp]
  | x :: t => by
    have h1 := ixp_any p t
    have h2 := ixp_ge p t
    unfold ixp
    rw [List.any_cons, h1]
    cases hp : p x
    · simp only [Bool.false_or, Bool.false_eq_true, if_false]
      by_cases h : ixp p t < 0
      · rw [if_pos h]; simp; omega
      · rw [if_neg h]; simp; omega
    · simp
end Pl
end Go.Proofs.Ytaepohocabealaa
