/-
  Contracts: the reference's teller, by value: the steps on the line, and the step whole (chapter 10). No conditions.
-/
import Derived.Test.YtaepohocabealaaTa
namespace Go.Proofs.Ytaepohocabealaa
open Go.RowKit
attribute [local go_sem] und_cell cha_cell World.cell?_alloc_some
theorem Mm.flatA_note : Mm.Flat rNote Mm.encNote := ⟨fun h => (rNote_at h).1, fun h w' => rNote_own_mk (rNote_at h).2⟩
theorem Pl.lineNo (t : Tell) (kd kk : Int) (h1 : kd ≠ 1) (h2 : kd ≠ 2) (h : kk < 0 ∨ (t.Line.length : Int) ≤ kk ∨ kd < 3 ∨ 5 < kd) : Pl.tstep t ⟨kd, kk, ⟨#[]⟩⟩ = (t, false) := by
  unfold Pl.tstep
  rw [if_neg (show ¬ kd = 1 by omega)]
  by_cases h3 : (⟨#[]⟩ : ByteArray).size ≠ 0 ∨ kk < 0
  · rw [if_pos h3]
  · have : ¬ kk < 0 := fun hh => h3 (.inr hh)
    rw [if_neg h3, if_neg (show ¬ kd = 2 by omega), if_neg (by show ¬ (3 ≤ kd ∧ kd ≤ 5 ∧ kk < t.Line.length); omega)]
set_option maxRecDepth 100000 in
set_option maxHeartbeats 2000000 in
theorem l10StepBad_c (t : Tell) (kd kk : Int) (cs : List Value) (fp : List Nat) (w : World) (h : (Mm.tow rTell t cs fp).holds w) (hnd : fp.Nodup) (h1 : kd ≠ 1) (h2 : kd ≠ 2) (hno : kk < 0 ∨ (t.Line.length : Int) ≤ kk ∨ kd < 3 ∨ 5 < kd) :
    Calls Try.prog 50 #[.agg cs.toArray, .agg #[.int .i64 kd, .int .i64 kk, .string ⟨#[]⟩]] w (TellAns2 (Pl.tstep t ⟨kd, kk, ⟨#[]⟩⟩) fp w) := by
  have HF := Lib.hid (Pl.lineNo t kd kk h1 h2 hno)
  obtain ⟨A0, c0, A1, c1, A2, c2, A3, c3, A4, c4, f0, f1, f2, f3, f4, rfl, rfl, hs⟩ := openv_Tell (Mm.SepF.one _ w h hnd)
  have q1 : (kd == 1) = false := by simpa using h1
  have q2 : (kd == 2) = false := by simpa using h2
  have H0 := Lib.hid hs
  clear h hs hnd h1 h2
  by_cases g1 : kk < 0
  · have HN := Lib.hid hno
    clear hno
    go_enter Try.func50, Try.ntmps50
    go_upto_region 1 with fail
    obtain ⟨gt, hgt⟩ : ∃ gt, w.heap.size = gt := ⟨_, rfl⟩
    obtain ⟨gm, hgm⟩ : ∃ gm, gt + 1 = gm := ⟨_, rfl⟩
    obtain ⟨gr, hgr⟩ : ∃ gr, gm + 1 = gr := ⟨_, rfl⟩
    obtain ⟨W, hW⟩ : ∃ W, ((w.alloc (.cells #[.slice A0 t.Texts.length c0, .slice A1 t.Heard.length c1, .slice A2 t.Line.length c2, .slice A3 t.Log.length c3, .slice A4 t.Next.length c4] 31)).alloc (.cells #[.int .i64 kd, .int .i64 kk, .string ⟨#[]⟩] 46)).alloc (.cells #[.slice none 0 0, .slice none 0 0, .slice none 0 0, .slice none 0 0, .slice none 0 0] 31) = W := ⟨_, rfl⟩
    have HS := Lib.hid ((((H0.out.alloc' hgt 31 [.slice A0 t.Texts.length c0, .slice A1 t.Heard.length c1, .slice A2 t.Line.length c2, .slice A3 t.Log.length c3, .slice A4 t.Next.length c4]).alloc' (g := gm) (by rw [Mm.sz1, hgt, hgm]) 46 [.int .i64 kd, .int .i64 kk, .string ⟨#[]⟩]).alloc' (g := gr) (by rw [Mm.sz2, hgt]; omega) 31 zTell).atW hW)
    rw [hW, hgt, hgm, hgr]
    clear hW hgt hgm hgr
    have HSR := HS
    have b0 := HSR.out.cell (k := 0) 2 rfl rfl
    have b1 := HSR.out.cell (k := 1) 2 rfl rfl
    have b2 := HSR.out.cell (k := 2) 2 rfl rfl
    have b3 := HSR.out.cell (k := 3) 2 rfl rfl
    have b4 := HSR.out.cell (k := 4) 2 rfl rfl
    have m0 := HSR.out.cell (k := 0) 1 rfl rfl
    have m1 := HSR.out.cell (k := 1) 1 rfl rfl
    have m2 := HSR.out.cell (k := 2) 1 rfl rfl
    have r0 := HSR.out.cell (k := 0) 0 rfl rfl
    have r1 := HSR.out.cell (k := 1) 0 rfl rfl
    have r2 := HSR.out.cell (k := 2) 0 rfl rfl
    have r3 := HSR.out.cell (k := 3) 0 rfl rfl
    have r4 := HSR.out.cell (k := 4) 0 rfl rfl
    have z0 := HSR.out.frz (k := 0) 0 rfl
    have z1 := HSR.out.frz (k := 1) 0 rfl
    have z2 := HSR.out.frz (k := 2) 0 rfl
    have z3 := HSR.out.frz (k := 3) 0 rfl
    have z4 := HSR.out.frz (k := 4) 0 rfl
    go_wp2
    have HSR := HS
    have HSF := Lib.hid (((((HSR.out.setBlk (k := 0) 0 rfl (.slice A0 t.Texts.length c0)).setBlk (k := 1) 0 rfl (.slice A1 t.Heard.length c1)).setBlk (k := 2) 0 rfl (.slice A2 t.Line.length c2)).setBlk (k := 3) 0 rfl (.slice A3 t.Log.length c3)).setBlk (k := 4) 0 rfl (.slice A4 t.Next.length c4))
    have q0 := HSF.out.cell (k := 0) 0 rfl rfl
    have q1 := HSF.out.cell (k := 1) 0 rfl rfl
    have q2 := HSF.out.cell (k := 2) 0 rfl rfl
    have q3 := HSF.out.cell (k := 3) 0 rfl rfl
    have q4 := HSF.out.cell (k := 4) 0 rfl rfl
    exact bodyPost_ret (v := .tuple #[.agg #[.slice A0 t.Texts.length c0, .slice A1 t.Heard.length c1, .slice A2 t.Line.length c2, .slice A3 t.Log.length c3, .slice A4 t.Next.length c4], .bool false]) (by simp [results, Try.results50, go_sem, q0, q1, q2, q3, q4]) rfl ⟨[.slice A0 t.Texts.length c0, .slice A1 t.Heard.length c1, .slice A2 t.Line.length c2, .slice A3 t.Log.length c3, .slice A4 t.Next.length c4], _, by rw [HF.out], by rw [HF.out]; exact (shutv_Tell (x := t) HSF.out.tail.tail.tail).left⟩
  by_cases g2 : (t.Line.length : Int) ≤ kk
  · have HN := Lib.hid hno
    clear hno
    have g2' : decide (kk < (t.Line.length : Int)) = false := by simp; omega
    go_enter Try.func50, Try.ntmps50
    go_upto_region 1 with fail
    obtain ⟨gt, hgt⟩ : ∃ gt, w.heap.size = gt := ⟨_, rfl⟩
    obtain ⟨gm, hgm⟩ : ∃ gm, gt + 1 = gm := ⟨_, rfl⟩
    obtain ⟨gr, hgr⟩ : ∃ gr, gm + 1 = gr := ⟨_, rfl⟩
    obtain ⟨W, hW⟩ : ∃ W, ((w.alloc (.cells #[.slice A0 t.Texts.length c0, .slice A1 t.Heard.length c1, .slice A2 t.Line.length c2, .slice A3 t.Log.length c3, .slice A4 t.Next.length c4] 31)).alloc (.cells #[.int .i64 kd, .int .i64 kk, .string ⟨#[]⟩] 46)).alloc (.cells #[.slice none 0 0, .slice none 0 0, .slice none 0 0, .slice none 0 0, .slice none 0 0] 31) = W := ⟨_, rfl⟩
    have HS := Lib.hid ((((H0.out.alloc' hgt 31 [.slice A0 t.Texts.length c0, .slice A1 t.Heard.length c1, .slice A2 t.Line.length c2, .slice A3 t.Log.length c3, .slice A4 t.Next.length c4]).alloc' (g := gm) (by rw [Mm.sz1, hgt, hgm]) 46 [.int .i64 kd, .int .i64 kk, .string ⟨#[]⟩]).alloc' (g := gr) (by rw [Mm.sz2, hgt]; omega) 31 zTell).atW hW)
    rw [hW, hgt, hgm, hgr]
    clear hW hgt hgm hgr
    have HSR := HS
    have b0 := HSR.out.cell (k := 0) 2 rfl rfl
    have b1 := HSR.out.cell (k := 1) 2 rfl rfl
    have b2 := HSR.out.cell (k := 2) 2 rfl rfl
    have b3 := HSR.out.cell (k := 3) 2 rfl rfl
    have b4 := HSR.out.cell (k := 4) 2 rfl rfl
    have m0 := HSR.out.cell (k := 0) 1 rfl rfl
    have m1 := HSR.out.cell (k := 1) 1 rfl rfl
    have m2 := HSR.out.cell (k := 2) 1 rfl rfl
    have r0 := HSR.out.cell (k := 0) 0 rfl rfl
    have r1 := HSR.out.cell (k := 1) 0 rfl rfl
    have r2 := HSR.out.cell (k := 2) 0 rfl rfl
    have r3 := HSR.out.cell (k := 3) 0 rfl rfl
    have r4 := HSR.out.cell (k := 4) 0 rfl rfl
    have z0 := HSR.out.frz (k := 0) 0 rfl
    have z1 := HSR.out.frz (k := 1) 0 rfl
    have z2 := HSR.out.frz (k := 2) 0 rfl
    have z3 := HSR.out.frz (k := 3) 0 rfl
    have z4 := HSR.out.frz (k := 4) 0 rfl
    go_wp2
    have HSR := HS
    have HSF := Lib.hid (((((HSR.out.setBlk (k := 0) 0 rfl (.slice A0 t.Texts.length c0)).setBlk (k := 1) 0 rfl (.slice A1 t.Heard.length c1)).setBlk (k := 2) 0 rfl (.slice A2 t.Line.length c2)).setBlk (k := 3) 0 rfl (.slice A3 t.Log.length c3)).setBlk (k := 4) 0 rfl (.slice A4 t.Next.length c4))
    have q0 := HSF.out.cell (k := 0) 0 rfl rfl
    have q1 := HSF.out.cell (k := 1) 0 rfl rfl
    have q2 := HSF.out.cell (k := 2) 0 rfl rfl
    have q3 := HSF.out.cell (k := 3) 0 rfl rfl
    have q4 := HSF.out.cell (k := 4) 0 rfl rfl
    exact bodyPost_ret (v := .tuple #[.agg #[.slice A0 t.Texts.length c0, .slice A1 t.Heard.length c1, .slice A2 t.Line.length c2, .slice A3 t.Log.length c3, .slice A4 t.Next.length c4], .bool false]) (by simp [results, Try.results50, go_sem, q0, q1, q2, q3, q4]) rfl ⟨[.slice A0 t.Texts.length c0, .slice A1 t.Heard.length c1, .slice A2 t.Line.length c2, .slice A3 t.Log.length c3, .slice A4 t.Next.length c4], _, by rw [HF.out], by rw [HF.out]; exact (shutv_Tell (x := t) HSF.out.tail.tail.tail).left⟩
  · have q3 : Pl.isIn kd 3 5 = false := by unfold Pl.isIn; simp; omega
    have HN := Lib.hid hno
    clear hno
    go_enter Try.func50, Try.ntmps50
    go_upto_region 1 with fail
    obtain ⟨gt, hgt⟩ : ∃ gt, w.heap.size = gt := ⟨_, rfl⟩
    obtain ⟨gm, hgm⟩ : ∃ gm, gt + 1 = gm := ⟨_, rfl⟩
    obtain ⟨gr, hgr⟩ : ∃ gr, gm + 1 = gr := ⟨_, rfl⟩
    obtain ⟨W, hW⟩ : ∃ W, ((w.alloc (.cells #[.slice A0 t.Texts.length c0, .slice A1 t.Heard.length c1, .slice A2 t.Line.length c2, .slice A3 t.Log.length c3, .slice A4 t.Next.length c4] 31)).alloc (.cells #[.int .i64 kd, .int .i64 kk, .string ⟨#[]⟩] 46)).alloc (.cells #[.slice none 0 0, .slice none 0 0, .slice none 0 0, .slice none 0 0, .slice none 0 0] 31) = W := ⟨_, rfl⟩
    have HS := Lib.hid ((((H0.out.alloc' hgt 31 [.slice A0 t.Texts.length c0, .slice A1 t.Heard.length c1, .slice A2 t.Line.length c2, .slice A3 t.Log.length c3, .slice A4 t.Next.length c4]).alloc' (g := gm) (by rw [Mm.sz1, hgt, hgm]) 46 [.int .i64 kd, .int .i64 kk, .string ⟨#[]⟩]).alloc' (g := gr) (by rw [Mm.sz2, hgt]; omega) 31 zTell).atW hW)
    rw [hW, hgt, hgm, hgr]
    clear hW hgt hgm hgr
    have HSR := HS
    have b0 := HSR.out.cell (k := 0) 2 rfl rfl
    have b1 := HSR.out.cell (k := 1) 2 rfl rfl
    have b2 := HSR.out.cell (k := 2) 2 rfl rfl
    have b3 := HSR.out.cell (k := 3) 2 rfl rfl
    have b4 := HSR.out.cell (k := 4) 2 rfl rfl
    have m0 := HSR.out.cell (k := 0) 1 rfl rfl
    have m1 := HSR.out.cell (k := 1) 1 rfl rfl
    have m2 := HSR.out.cell (k := 2) 1 rfl rfl
    have r0 := HSR.out.cell (k := 0) 0 rfl rfl
    have r1 := HSR.out.cell (k := 1) 0 rfl rfl
    have r2 := HSR.out.cell (k := 2) 0 rfl rfl
    have r3 := HSR.out.cell (k := 3) 0 rfl rfl
    have r4 := HSR.out.cell (k := 4) 0 rfl rfl
    have z0 := HSR.out.frz (k := 0) 0 rfl
    have z1 := HSR.out.frz (k := 1) 0 rfl
    have z2 := HSR.out.frz (k := 2) 0 rfl
    have z3 := HSR.out.frz (k := 3) 0 rfl
    have z4 := HSR.out.frz (k := 4) 0 rfl
    go_wp2_with ((go_at_call 56); ((with_reducible refine (l1In_c _ _ _ _).mono ?_)); (rintro e w5 ⟨rfl, rfl⟩))
    have HSR := HS
    have HSF := Lib.hid (((((HSR.out.setBlk (k := 0) 0 rfl (.slice A0 t.Texts.length c0)).setBlk (k := 1) 0 rfl (.slice A1 t.Heard.length c1)).setBlk (k := 2) 0 rfl (.slice A2 t.Line.length c2)).setBlk (k := 3) 0 rfl (.slice A3 t.Log.length c3)).setBlk (k := 4) 0 rfl (.slice A4 t.Next.length c4))
    have q0 := HSF.out.cell (k := 0) 0 rfl rfl
    have q1 := HSF.out.cell (k := 1) 0 rfl rfl
    have q2 := HSF.out.cell (k := 2) 0 rfl rfl
    have q3 := HSF.out.cell (k := 3) 0 rfl rfl
    have q4 := HSF.out.cell (k := 4) 0 rfl rfl
    exact bodyPost_ret (v := .tuple #[.agg #[.slice A0 t.Texts.length c0, .slice A1 t.Heard.length c1, .slice A2 t.Line.length c2, .slice A3 t.Log.length c3, .slice A4 t.Next.length c4], .bool false]) (by simp [results, Try.results50, go_sem, q0, q1, q2, q3, q4]) rfl ⟨[.slice A0 t.Texts.length c0, .slice A1 t.Heard.length c1, .slice A2 t.Line.length c2, .slice A3 t.Log.length c3, .slice A4 t.Next.length c4], _, by rw [HF.out], by rw [HF.out]; exact (shutv_Tell (x := t) HSF.out.tail.tail.tail).left⟩
set_option maxRecDepth 100000 in
set_option maxHeartbeats 2000000 in
theorem l10StepTwice_c (t : Tell) (kk : Int) (cs : List Value) (fp : List Nat) (w : World) (h : (Mm.tow rTell t cs fp).holds w) (hnd : fp.Nodup) (hm : Mm.I64 kk) (h0 : 0 ≤ kk) (hkl : kk < t.Line.length) (hw : Pl.TWf t) :
    Calls Try.prog 50 #[.agg cs.toArray, .agg #[.int .i64 5, .int .i64 kk, .string ⟨#[]⟩]] w (TellAns2 (Pl.tstep t ⟨5, kk, ⟨#[]⟩⟩) fp w) := by
  have HF := Lib.hid (Pl.tstepL t 5 kk h0 (by omega))
  obtain ⟨A0, c0, A1, c1, A2, c2, A3, c3, A4, c4, f0, f1, f2, f3, f4, rfl, rfl, hs⟩ := openv_Tell (Mm.SepF.one _ w h hnd)
  have H0 := Lib.hid hs
  have HM := Lib.hid hm
  have hl30 := hw.line
  have HW := Lib.hid hw
  clear h hs hm hnd hw
  obtain ⟨k, rfl⟩ : ∃ k : Nat, kk = k := ⟨kk.toNat, by omega⟩
  have hk : k < t.Line.length := by omega
  rw [if_pos (by omega)] at HF
  have hx := List.getElem?_eq_getElem hk
  have hna := Pl.noteAt_of (t := t) (k := (k : Int)) (m := t.Line[k]) (by simp)
  have hmk := HW.out.note (k := (k : Int)) (by omega) (by omega)
  rw [hna] at hmk HF
  generalize t.Line[k] = m at hx hna hmk HF
  have HMI := Lib.hid (Mm.note_inv (H0.out.sl 2 rfl) hx)
  obtain ⟨g2, hA2, -, -⟩ := Mm.sl_addr (H0.out.sl 2 rfl) (by omega)
  have hcap : t.Line.length ≤ c2 ∧ c2 ≤ maxLen := by obtain ⟨A', n', c', hv, h1, h2, h3, _⟩ := (H0.out.sl 2 rfl).form; injection hv with _ h4 h5; omega
  unfold maxLen at hcap
  have f1' : ((k : Nat) : Int) < (t.Line.length : Nat) := by omega
  have f2' : (0 : Int) ≤ (k : Nat) := by omega
  have f3' : ((k : Nat) : Int).toNat = k := by omega
  have f5' : ¬ ((t.Line.length : Nat) : Int) ≤ k := by omega
  rw [f3'] at HF
  have HX := Lib.hid hx
  have HMK := Lib.hid hmk
  have HA2 := Lib.hid hA2
  clear hx hmk hna hA2 hkl
  obtain ⟨bk, ⟨who, no, tx⟩⟩ := m
  have q3 : Pl.isIn 5 3 5 = true := by decide
  go_enter Try.func50, Try.ntmps50
  go_upto_region 1 with fail
  obtain ⟨gt, hgt⟩ : ∃ gt, w.heap.size = gt := ⟨_, rfl⟩
  obtain ⟨gm, hgm⟩ : ∃ gm, gt + 1 = gm := ⟨_, rfl⟩
  obtain ⟨gr, hgr⟩ : ∃ gr, gm + 1 = gr := ⟨_, rfl⟩
  obtain ⟨W, hW⟩ : ∃ W, ((w.alloc (.cells #[.slice A0 t.Texts.length c0, .slice A1 t.Heard.length c1, .slice A2 t.Line.length c2, .slice A3 t.Log.length c3, .slice A4 t.Next.length c4] 31)).alloc (.cells #[.int .i64 5, .int .i64 k, .string ⟨#[]⟩] 46)).alloc (.cells #[.slice none 0 0, .slice none 0 0, .slice none 0 0, .slice none 0 0, .slice none 0 0] 31) = W := ⟨_, rfl⟩
  have HS := Lib.hid ((((H0.out.alloc' hgt 31 [.slice A0 t.Texts.length c0, .slice A1 t.Heard.length c1, .slice A2 t.Line.length c2, .slice A3 t.Log.length c3, .slice A4 t.Next.length c4]).alloc' (g := gm) (by rw [Mm.sz1, hgt, hgm]) 46 [.int .i64 5, .int .i64 k, .string ⟨#[]⟩]).alloc' (g := gr) (by rw [Mm.sz2, hgt]; omega) 31 zTell).atW hW)
  rw [hW, hgt, hgm, hgr]
  clear hW hgt hgm hgr
  have HSR := HS
  have b0 := HSR.out.cell (k := 0) 2 rfl rfl
  have b1 := HSR.out.cell (k := 1) 2 rfl rfl
  have b2 := HSR.out.cell (k := 2) 2 rfl rfl
  have b3 := HSR.out.cell (k := 3) 2 rfl rfl
  have b4 := HSR.out.cell (k := 4) 2 rfl rfl
  have m0 := HSR.out.cell (k := 0) 1 rfl rfl
  have m1 := HSR.out.cell (k := 1) 1 rfl rfl
  have m2 := HSR.out.cell (k := 2) 1 rfl rfl
  have r0 := HSR.out.cell (k := 0) 0 rfl rfl
  have r1 := HSR.out.cell (k := 1) 0 rfl rfl
  have r2 := HSR.out.cell (k := 2) 0 rfl rfl
  have r3 := HSR.out.cell (k := 3) 0 rfl rfl
  have r4 := HSR.out.cell (k := 4) 0 rfl rfl
  have z0 := HSR.out.frz (k := 0) 0 rfl
  have z1 := HSR.out.frz (k := 1) 0 rfl
  have z2 := HSR.out.frz (k := 2) 0 rfl
  have z3 := HSR.out.frz (k := 3) 0 rfl
  have z4 := HSR.out.frz (k := 4) 0 rfl
  obtain rfl : A2 = some ⟨g2, 0, none⟩ := HA2.out
  obtain ⟨e20, e21, e22, e23⟩ := rNote_ocell (HS.out.sl 5 rfl) (HS.out.ndat (i := 5) rfl) HX.out
  go_upto_region 16 with ((go_at_call 56); ((with_reducible refine (l1In_c _ _ _ _).mono ?_)); (rintro e w5 ⟨rfl, rfl⟩))
  obtain ⟨gx, hgx⟩ : ∃ gx, W.heap.size = gx := ⟨_, rfl⟩
  obtain ⟨W2, hW2⟩ : ∃ W2, W.alloc (.cells #[.bool bk, .int .i64 who, .int .i64 no, .string tx] 94) = W2 := ⟨_, rfl⟩
  have HS2 := Lib.hid ((HS.out.alloc' hgx 94 [.bool bk, .int .i64 who, .int .i64 no, .string tx]).atW hW2)
  rw [hW2, hgx]
  clear b0 b1 b2 b3 b4 m0 m1 m2 r0 r1 r2 r3 r4 z0 z1 z2 z3 z4
  clear hW2 hgx e20 e21 e22 e23
  have x0 := HS2.out.cell (k := 0) 0 rfl rfl
  have x1 := HS2.out.cell (k := 1) 0 rfl rfl
  have x2 := HS2.out.cell (k := 2) 0 rfl rfl
  have x3 := HS2.out.cell (k := 3) 0 rfl rfl
  have HSR := Lib.hid HS2.out.tail
  have b0 := HSR.out.cell (k := 0) 2 rfl rfl
  have b1 := HSR.out.cell (k := 1) 2 rfl rfl
  have b2 := HSR.out.cell (k := 2) 2 rfl rfl
  have b3 := HSR.out.cell (k := 3) 2 rfl rfl
  have b4 := HSR.out.cell (k := 4) 2 rfl rfl
  have m0 := HSR.out.cell (k := 0) 1 rfl rfl
  have m1 := HSR.out.cell (k := 1) 1 rfl rfl
  have m2 := HSR.out.cell (k := 2) 1 rfl rfl
  have r0 := HSR.out.cell (k := 0) 0 rfl rfl
  have r1 := HSR.out.cell (k := 1) 0 rfl rfl
  have r2 := HSR.out.cell (k := 2) 0 rfl rfl
  have r3 := HSR.out.cell (k := 3) 0 rfl rfl
  have r4 := HSR.out.cell (k := 4) 0 rfl rfl
  have z0 := HSR.out.frz (k := 0) 0 rfl
  have z1 := HSR.out.frz (k := 1) 0 rfl
  have z2 := HSR.out.frz (k := 2) 0 rfl
  have z3 := HSR.out.frz (k := 3) 0 rfl
  have z4 := HSR.out.frz (k := 4) 0 rfl
  rw [if_pos trivial] at HF
  by_cases hl : t.Line.length = 30
  · rw [if_pos hl] at HF
    have f4' : (((t.Line.length : Nat) : Int) == 30) = true := by simp [hl]
    have HL := Lib.hid hl
    clear hl
    go_wp2
    have HSF := Lib.hid (((((HSR.out.setBlk (k := 0) 0 rfl (.slice A0 t.Texts.length c0)).setBlk (k := 1) 0 rfl (.slice A1 t.Heard.length c1)).setBlk (k := 2) 0 rfl (.slice (some ⟨g2, 0, none⟩) t.Line.length c2)).setBlk (k := 3) 0 rfl (.slice A3 t.Log.length c3)).setBlk (k := 4) 0 rfl (.slice A4 t.Next.length c4))
    have q0 := HSF.out.cell (k := 0) 0 rfl rfl
    have q1 := HSF.out.cell (k := 1) 0 rfl rfl
    have q2 := HSF.out.cell (k := 2) 0 rfl rfl
    have q3 := HSF.out.cell (k := 3) 0 rfl rfl
    have q4 := HSF.out.cell (k := 4) 0 rfl rfl
    exact bodyPost_ret (v := .tuple #[.agg #[.slice A0 t.Texts.length c0, .slice A1 t.Heard.length c1, .slice (some ⟨g2, 0, none⟩) t.Line.length c2, .slice A3 t.Log.length c3, .slice A4 t.Next.length c4], .bool false]) (by simp [results, Try.results50, go_sem, q0, q1, q2, q3, q4]) rfl ⟨[.slice A0 t.Texts.length c0, .slice A1 t.Heard.length c1, .slice (some ⟨g2, 0, none⟩) t.Line.length c2, .slice A3 t.Log.length c3, .slice A4 t.Next.length c4], _, by rw [HF.out], by rw [HF.out]; exact (shutv_Tell (x := t) HSF.out.tail.tail.tail).left⟩
  · rw [if_neg hl] at HF
    have f4' : (((t.Line.length : Nat) : Int) == 30) = false := by simp; omega
    have HW : Hid (Pl.tsend t ⟨bk, ⟨who, no, tx⟩⟩ = { t with Line := t.Line ++ [⟨bk, ⟨who, no, tx⟩⟩] }) := if_pos (by omega)
    have HC2 := HSR.out
    have HC3 := Lib.hid (shutv_Tell (x := t) (Mm.sep_eq (us := [Mm.tsl strs 40 t.Texts (.slice A0 t.Texts.length c0) f0, Mm.tsl Mm.int 3 t.Heard (.slice A1 t.Heard.length c1) f1, Mm.tsl rNote 94 t.Line (.slice (some ⟨g2, 0, none⟩) t.Line.length c2) f2, Mm.tsl rTold 52 t.Log (.slice A3 t.Log.length c3) f3, Mm.tsl Mm.int 3 t.Next (.slice A4 t.Next.length c4) f4, Mm.tblk gr 31 zTell, Mm.tblk gm 46 [.int .i64 5, .int .i64 k, .string ⟨#[]⟩], Mm.tblk gt 31 [.slice A0 t.Texts.length c0, .slice A1 t.Heard.length c1, .slice (some ⟨g2, 0, none⟩) t.Line.length c2, .slice A3 t.Log.length c3, .slice A4 t.Next.length c4]]) HC2.rot3 rfl))
    clear HC2
    have CW := l10Write_c t ⟨bk, ⟨who, no, tx⟩⟩ _ _ W2 (HC3.out.at_ 0 rfl) (HC3.out.ndat (i := 0) rfl) HMI.out
    rw [← HW.out] at HF
    go_wp2_with (go_at_call 92; refine CW.mono ?_; (clear b0 b1 b2 b3 b4 m0 m1 m2 r0 r1 r2 r3 r4 z0 z1 z2 z3 z4); (rintro e w9 ⟨cs9, fp9, rfl, hL⟩); (obtain ⟨A10, c10, A11, c11, A12, c12, A13, c13, A14, c14, f10, f11, f12, f13, f14, rfl, rfl, hs9⟩ := openv_Tell (HC3.out.call 0 rfl hL)); ((have HSR := Lib.hid hs9)); (clear hL hs9 CW); (have r0 := HSR.out.cell (k := 0) 5 rfl rfl); (have r1 := HSR.out.cell (k := 1) 5 rfl rfl); (have r2 := HSR.out.cell (k := 2) 5 rfl rfl); (have r3 := HSR.out.cell (k := 3) 5 rfl rfl); (have r4 := HSR.out.cell (k := 4) 5 rfl rfl); (have z0 := HSR.out.frz (k := 0) 5 rfl); (have z1 := HSR.out.frz (k := 1) 5 rfl); (have z2 := HSR.out.frz (k := 2) 5 rfl); (have z3 := HSR.out.frz (k := 3) 5 rfl); (have z4 := HSR.out.frz (k := 4) 5 rfl))
    obtain ⟨z, hz⟩ : ∃ z, Pl.tsend t ⟨bk, ⟨who, no, tx⟩⟩ = z := ⟨_, rfl⟩
    rw [hz] at HSR HF ⊢
    have HSF := Lib.hid (((((HSR.out.setBlk (k := 0) 5 rfl (.slice A10 z.Texts.length c10)).setBlk (k := 1) 5 rfl (.slice A11 z.Heard.length c11)).setBlk (k := 2) 5 rfl (.slice A12 z.Line.length c12)).setBlk (k := 3) 5 rfl (.slice A13 z.Log.length c13)).setBlk (k := 4) 5 rfl (.slice A14 z.Next.length c14))
    have q0 := HSF.out.cell (k := 0) 5 rfl rfl
    have q1 := HSF.out.cell (k := 1) 5 rfl rfl
    have q2 := HSF.out.cell (k := 2) 5 rfl rfl
    have q3 := HSF.out.cell (k := 3) 5 rfl rfl
    have q4 := HSF.out.cell (k := 4) 5 rfl rfl
    exact bodyPost_ret (v := .tuple #[.agg #[.slice A10 z.Texts.length c10, .slice A11 z.Heard.length c11, .slice A12 z.Line.length c12, .slice A13 z.Log.length c13, .slice A14 z.Next.length c14], .bool true]) (by simp [results, Try.results50, go_sem, q0, q1, q2, q3, q4]) rfl ⟨[.slice A10 z.Texts.length c10, .slice A11 z.Heard.length c11, .slice A12 z.Line.length c12, .slice A13 z.Log.length c13, .slice A14 z.Next.length c14], _, by rw [HF.out], by rw [HF.out]; exact (shutv_Tell (x := z) HSF.out).head.left⟩
theorem Pl.erase_len {α : Type} {l : List α} {k : Nat} (h : k < l.length) : (l.eraseIdx k).length = l.length - 1 := List.length_eraseIdx_of_lt h
set_option maxRecDepth 100000 in
set_option maxHeartbeats 2000000 in
theorem l10StepLose_c (t : Tell) (kk : Int) (cs : List Value) (fp : List Nat) (w : World) (h : (Mm.tow rTell t cs fp).holds w) (hnd : fp.Nodup) (hm : Mm.I64 kk) (h0 : 0 ≤ kk) (hkl : kk < t.Line.length) (hw : Pl.TWf t) :
    Calls Try.prog 50 #[.agg cs.toArray, .agg #[.int .i64 4, .int .i64 kk, .string ⟨#[]⟩]] w (TellAns2 (Pl.tstep t ⟨4, kk, ⟨#[]⟩⟩) fp w) := by
  have HF := Lib.hid (Pl.tstepL t 4 kk h0 (by omega))
  obtain ⟨A0, c0, A1, c1, A2, c2, A3, c3, A4, c4, f0, f1, f2, f3, f4, rfl, rfl, hs⟩ := openv_Tell (Mm.SepF.one _ w h hnd)
  have H0 := Lib.hid hs
  have HM := Lib.hid hm
  have hl30 := hw.line
  have HW := Lib.hid hw
  clear h hs hm hnd hw
  obtain ⟨k, rfl⟩ : ∃ k : Nat, kk = k := ⟨kk.toNat, by omega⟩
  have hk : k < t.Line.length := by omega
  rw [if_pos (by omega)] at HF
  have hx := List.getElem?_eq_getElem hk
  have hna := Pl.noteAt_of (t := t) (k := (k : Int)) (m := t.Line[k]) (by simp)
  have hmk := HW.out.note (k := (k : Int)) (by omega) (by omega)
  rw [hna] at hmk HF
  generalize t.Line[k] = m at hx hna hmk HF
  have HMI := Lib.hid (Mm.note_inv (H0.out.sl 2 rfl) hx)
  obtain ⟨g2, hA2, -, -⟩ := Mm.sl_addr (H0.out.sl 2 rfl) (by omega)
  have hcap : t.Line.length ≤ c2 ∧ c2 ≤ maxLen := by obtain ⟨A', n', c', hv, h1, h2, h3, _⟩ := (H0.out.sl 2 rfl).form; injection hv with _ h4 h5; omega
  unfold maxLen at hcap
  have f1' : ((k : Nat) : Int) < (t.Line.length : Nat) := by omega
  have f2' : (0 : Int) ≤ (k : Nat) := by omega
  have f3' : ((k : Nat) : Int).toNat = k := by omega
  have f5' : ¬ ((t.Line.length : Nat) : Int) ≤ k := by omega
  rw [f3'] at HF
  have HX := Lib.hid hx
  have HMK := Lib.hid hmk
  have HA2 := Lib.hid hA2
  clear hx hmk hna hA2 hkl
  obtain ⟨bk, ⟨who, no, tx⟩⟩ := m
  have q3 : Pl.isIn 4 3 5 = true := by decide
  go_enter Try.func50, Try.ntmps50
  go_upto_region 1 with fail
  obtain ⟨gt, hgt⟩ : ∃ gt, w.heap.size = gt := ⟨_, rfl⟩
  obtain ⟨gm, hgm⟩ : ∃ gm, gt + 1 = gm := ⟨_, rfl⟩
  obtain ⟨gr, hgr⟩ : ∃ gr, gm + 1 = gr := ⟨_, rfl⟩
  obtain ⟨W, hW⟩ : ∃ W, ((w.alloc (.cells #[.slice A0 t.Texts.length c0, .slice A1 t.Heard.length c1, .slice A2 t.Line.length c2, .slice A3 t.Log.length c3, .slice A4 t.Next.length c4] 31)).alloc (.cells #[.int .i64 4, .int .i64 k, .string ⟨#[]⟩] 46)).alloc (.cells #[.slice none 0 0, .slice none 0 0, .slice none 0 0, .slice none 0 0, .slice none 0 0] 31) = W := ⟨_, rfl⟩
  have HS := Lib.hid ((((H0.out.alloc' hgt 31 [.slice A0 t.Texts.length c0, .slice A1 t.Heard.length c1, .slice A2 t.Line.length c2, .slice A3 t.Log.length c3, .slice A4 t.Next.length c4]).alloc' (g := gm) (by rw [Mm.sz1, hgt, hgm]) 46 [.int .i64 4, .int .i64 k, .string ⟨#[]⟩]).alloc' (g := gr) (by rw [Mm.sz2, hgt]; omega) 31 zTell).atW hW)
  rw [hW, hgt, hgm, hgr]
  clear hW hgt hgm hgr
  have HSR := HS
  have b0 := HSR.out.cell (k := 0) 2 rfl rfl
  have b1 := HSR.out.cell (k := 1) 2 rfl rfl
  have b2 := HSR.out.cell (k := 2) 2 rfl rfl
  have b3 := HSR.out.cell (k := 3) 2 rfl rfl
  have b4 := HSR.out.cell (k := 4) 2 rfl rfl
  have m0 := HSR.out.cell (k := 0) 1 rfl rfl
  have m1 := HSR.out.cell (k := 1) 1 rfl rfl
  have m2 := HSR.out.cell (k := 2) 1 rfl rfl
  have r0 := HSR.out.cell (k := 0) 0 rfl rfl
  have r1 := HSR.out.cell (k := 1) 0 rfl rfl
  have r2 := HSR.out.cell (k := 2) 0 rfl rfl
  have r3 := HSR.out.cell (k := 3) 0 rfl rfl
  have r4 := HSR.out.cell (k := 4) 0 rfl rfl
  have z0 := HSR.out.frz (k := 0) 0 rfl
  have z1 := HSR.out.frz (k := 1) 0 rfl
  have z2 := HSR.out.frz (k := 2) 0 rfl
  have z3 := HSR.out.frz (k := 3) 0 rfl
  have z4 := HSR.out.frz (k := 4) 0 rfl
  obtain rfl : A2 = some ⟨g2, 0, none⟩ := HA2.out
  obtain ⟨e20, e21, e22, e23⟩ := rNote_ocell (HS.out.sl 5 rfl) (HS.out.ndat (i := 5) rfl) HX.out
  go_upto_region 16 with ((go_at_call 56); ((with_reducible refine (l1In_c _ _ _ _).mono ?_)); (rintro e w5 ⟨rfl, rfl⟩))
  obtain ⟨gx, hgx⟩ : ∃ gx, W.heap.size = gx := ⟨_, rfl⟩
  obtain ⟨W2, hW2⟩ : ∃ W2, W.alloc (.cells #[.bool bk, .int .i64 who, .int .i64 no, .string tx] 94) = W2 := ⟨_, rfl⟩
  have HS2 := Lib.hid ((HS.out.alloc' hgx 94 [.bool bk, .int .i64 who, .int .i64 no, .string tx]).atW hW2)
  rw [hW2, hgx]
  clear b0 b1 b2 b3 b4 m0 m1 m2 r0 r1 r2 r3 r4 z0 z1 z2 z3 z4
  clear hW2 hgx e20 e21 e22 e23
  have x0 := HS2.out.cell (k := 0) 0 rfl rfl
  have x1 := HS2.out.cell (k := 1) 0 rfl rfl
  have x2 := HS2.out.cell (k := 2) 0 rfl rfl
  have x3 := HS2.out.cell (k := 3) 0 rfl rfl
  have HSR := Lib.hid HS2.out.tail
  have b0 := HSR.out.cell (k := 0) 2 rfl rfl
  have b1 := HSR.out.cell (k := 1) 2 rfl rfl
  have b2 := HSR.out.cell (k := 2) 2 rfl rfl
  have b3 := HSR.out.cell (k := 3) 2 rfl rfl
  have b4 := HSR.out.cell (k := 4) 2 rfl rfl
  have m0 := HSR.out.cell (k := 0) 1 rfl rfl
  have m1 := HSR.out.cell (k := 1) 1 rfl rfl
  have m2 := HSR.out.cell (k := 2) 1 rfl rfl
  have r0 := HSR.out.cell (k := 0) 0 rfl rfl
  have r1 := HSR.out.cell (k := 1) 0 rfl rfl
  have r2 := HSR.out.cell (k := 2) 0 rfl rfl
  have r3 := HSR.out.cell (k := 3) 0 rfl rfl
  have r4 := HSR.out.cell (k := 4) 0 rfl rfl
  have z0 := HSR.out.frz (k := 0) 0 rfl
  have z1 := HSR.out.frz (k := 1) 0 rfl
  have z2 := HSR.out.frz (k := 2) 0 rfl
  have z3 := HSR.out.frz (k := 3) 0 rfl
  have z4 := HSR.out.frz (k := 4) 0 rfl
  rw [if_neg (show ¬ (4 : Int) = 5 by decide), if_neg (show ¬ (4 : Int) = 3 by decide)] at HF
  have HG1 : Hid (W2.heap.size = W2.heap.size) := rfl
  obtain ⟨i0, hi, hz0, hz1, hz2⟩ := info_parts Try.infoNote
  have HS3 := Lib.hid (HS2.out.fresh (g := W2.heap.size) rfl rNote 94)
  have hcut := Mm.run_cut (P := Try.prog) (t := 28) (s := 4) (by kernel_rfl) (fun W => by kernel_rfl) (g := g2) (n := t.Line.length) (c := c2) (j := k + 1) (i := (k : Int) + 1) (by omega) (by omega)
  obtain ⟨AC, hAC⟩ : ∃ AC, (if c2 = k + 1 then (some ⟨g2, 0, none⟩ : Option Addr) else some ⟨g2, (k + 1) * 4, none⟩) = AC := ⟨_, rfl⟩
  rw [hAC] at hcut
  have HAC := Lib.hid hAC
  clear hAC
  have hw1 : IntKind.i64.wrap ((k : Int) + 1) = (k : Int) + 1 := IntWalk.i64_in _ (by omega)
  have HRD : ∀ W, Hid (Mm.SlAt rNote W W.heap.size t.Line (some ⟨g2, 0, none⟩) t.Line.length c2 → Mm.SlAt rNote W W.heap.size (t.Line.drop (k + 1)) AC (t.Line.length - (k + 1)) (c2 - (k + 1))) := fun W => Lib.hid (fun h => by
    obtain ⟨A', h1, h2⟩ := h.cut (j := k + 1) (by omega) (s := 4) rfl
    rw [HAC.out] at h1
    subst h1
    exact h2)
  have HER : Hid ([] ++ t.Line.take k ++ t.Line.drop (k + 1) = t.Line.eraseIdx k) := Lib.hid (by rw [List.nil_append, List.eraseIdx_eq_take_drop_succ])
  go_wp2_with (first
    | (at_builtin; refine Mm.wpList_appMany rfl (.tmp 136) (.tmp 141) 28 rfl Mm.flatA_note Mm.flat_note i0 _ 40 Try.underlying28 hi hz0 hz1 hz2 rfl HS3.out 0 rfl ((HS3.out.rdSl 7 rfl).take (k := k) (by omega)) (m := k) (by simp) (by unfold maxLen; omega) (by omega) rfl rfl ?_; intro A5 c5 f5 w5 hs5; (have HS5 := Lib.hid hs5); clear hs5; (clear b0 b1 b2 b3 b4 m0 m1 m2 r0 r1 r2 r3 r4 z0 z1 z2 z3 z4); clear x0 x1 x2 x3 HSR; (have x0 := HS5.out.cell (k := 0) 1 rfl rfl); (have x1 := HS5.out.cell (k := 1) 1 rfl rfl); (have x2 := HS5.out.cell (k := 2) 1 rfl rfl); (have x3 := HS5.out.cell (k := 3) 1 rfl rfl); (have HSR := Lib.hid HS5.out.tail.tail); (have b0 := HSR.out.cell (k := 0) 2 rfl rfl); (have b1 := HSR.out.cell (k := 1) 2 rfl rfl); (have b2 := HSR.out.cell (k := 2) 2 rfl rfl); (have b3 := HSR.out.cell (k := 3) 2 rfl rfl); (have b4 := HSR.out.cell (k := 4) 2 rfl rfl); (have m0 := HSR.out.cell (k := 0) 1 rfl rfl); (have m1 := HSR.out.cell (k := 1) 1 rfl rfl); (have m2 := HSR.out.cell (k := 2) 1 rfl rfl); (have r0 := HSR.out.cell (k := 0) 0 rfl rfl); (have r1 := HSR.out.cell (k := 1) 0 rfl rfl); (have r2 := HSR.out.cell (k := 2) 0 rfl rfl); (have r3 := HSR.out.cell (k := 3) 0 rfl rfl); (have r4 := HSR.out.cell (k := 4) 0 rfl rfl); (have z0 := HSR.out.frz (k := 0) 0 rfl); (have z1 := HSR.out.frz (k := 1) 0 rfl); (have z2 := HSR.out.frz (k := 2) 0 rfl); (have z3 := HSR.out.frz (k := 3) 0 rfl); (have z4 := HSR.out.frz (k := 4) 0 rfl))
    | (at_builtin; refine Mm.wpList_appMany rfl (.tmp 143) (.tmp 149) 28 rfl Mm.flatA_note Mm.flat_note i0 _ 40 Try.underlying28 hi hz0 hz1 hz2 rfl HS5.out 0 rfl ((HRD _).out (HS5.out.rdSl 7 rfl)) (m := t.Line.length - 1) (by simp; omega) (by unfold maxLen; omega) (by omega) rfl rfl ?_; intro A6 c6 f6 w6 hs6; rw [HER.out] at hs6; (have HS6 := Lib.hid hs6); (have HS7 := Lib.hid (hs6.setBlk (k := 2) 4 rfl (.slice A6 (t.Line.length - 1) c6))); clear hs6; (clear b0 b1 b2 b3 b4 m0 m1 m2 r0 r1 r2 r3 r4 z0 z1 z2 z3 z4); clear x0 x1 x2 x3 HSR; (have y2 := HS6.out.frz (k := 2) 4 rfl); (have y3 := HS6.out.cell (k := 2) 4 rfl rfl); (have x0 := HS7.out.cell (k := 0) 1 rfl rfl); (have x1 := HS7.out.cell (k := 1) 1 rfl rfl); (have x2 := HS7.out.cell (k := 2) 1 rfl rfl); (have x3 := HS7.out.cell (k := 3) 1 rfl rfl); (have HSR := Lib.hid HS7.out.tail.tail); (have b0 := HSR.out.cell (k := 0) 2 rfl rfl); (have b1 := HSR.out.cell (k := 1) 2 rfl rfl); (have b2 := HSR.out.cell (k := 2) 2 rfl rfl); (have b3 := HSR.out.cell (k := 3) 2 rfl rfl); (have b4 := HSR.out.cell (k := 4) 2 rfl rfl); (have m0 := HSR.out.cell (k := 0) 1 rfl rfl); (have m1 := HSR.out.cell (k := 1) 1 rfl rfl); (have m2 := HSR.out.cell (k := 2) 1 rfl rfl); (have r0 := HSR.out.cell (k := 0) 0 rfl rfl); (have r1 := HSR.out.cell (k := 1) 0 rfl rfl); (have r2 := HSR.out.cell (k := 2) 0 rfl rfl); (have r3 := HSR.out.cell (k := 3) 0 rfl rfl); (have r4 := HSR.out.cell (k := 4) 0 rfl rfl); (have z0 := HSR.out.frz (k := 0) 0 rfl); (have z1 := HSR.out.frz (k := 1) 0 rfl); (have z2 := HSR.out.frz (k := 2) 0 rfl); (have z3 := HSR.out.frz (k := 3) 0 rfl); (have z4 := HSR.out.frz (k := 4) 0 rfl)))
  have HSF := Lib.hid ((((((HS7.out.sel [2, 3, 4, 5, 6, 0, 8, 9] (by decide) rfl).setBlk (k := 0) 0 rfl (.slice A0 t.Texts.length c0)).setBlk (k := 1) 0 rfl (.slice A1 t.Heard.length c1)).setBlk (k := 2) 0 rfl (.slice A6 (t.Line.length - 1) c6)).setBlk (k := 3) 0 rfl (.slice A3 t.Log.length c3)).setBlk (k := 4) 0 rfl (.slice A4 t.Next.length c4))
  have q0 := HSF.out.cell (k := 0) 0 rfl rfl
  have q1 := HSF.out.cell (k := 1) 0 rfl rfl
  have q2 := HSF.out.cell (k := 2) 0 rfl rfl
  have q3 := HSF.out.cell (k := 3) 0 rfl rfl
  have q4 := HSF.out.cell (k := 4) 0 rfl rfl
  exact bodyPost_ret (v := .tuple #[.agg #[.slice A0 t.Texts.length c0, .slice A1 t.Heard.length c1, .slice A6 (t.Line.length - 1) c6, .slice A3 t.Log.length c3, .slice A4 t.Next.length c4], .bool true]) (by simp [results, Try.results50, go_sem, q0, q1, q2, q3, q4]) rfl ⟨[.slice A0 t.Texts.length c0, .slice A1 t.Heard.length c1, .slice A6 (t.Line.length - 1) c6, .slice A3 t.Log.length c3, .slice A4 t.Next.length c4], _, by rw [HF.out], by rw [HF.out]; exact (shutv_Tell (x := { t with Line := t.Line.eraseIdx k }) HSF.out.tail.tail.tail).left⟩
set_option maxRecDepth 100000 in
set_option maxHeartbeats 2000000 in
theorem l10StepTake_c (t : Tell) (kk : Int) (cs : List Value) (fp : List Nat) (w : World) (h : (Mm.tow rTell t cs fp).holds w) (hnd : fp.Nodup) (hm : Mm.I64 kk) (h0 : 0 ≤ kk) (hkl : kk < t.Line.length) (hw : Pl.TWf t) :
    Calls Try.prog 50 #[.agg cs.toArray, .agg #[.int .i64 3, .int .i64 kk, .string ⟨#[]⟩]] w (TellAns2 (Pl.tstep t ⟨3, kk, ⟨#[]⟩⟩) fp w) := by
  have HF := Lib.hid (Pl.tstepL t 3 kk h0 (by omega))
  obtain ⟨A0, c0, A1, c1, A2, c2, A3, c3, A4, c4, f0, f1, f2, f3, f4, rfl, rfl, hs⟩ := openv_Tell (Mm.SepF.one _ w h hnd)
  have H0 := Lib.hid hs
  have HM := Lib.hid hm
  have hl30 := hw.line
  have HW := Lib.hid hw
  clear h hs hm hnd hw
  obtain ⟨k, rfl⟩ : ∃ k : Nat, kk = k := ⟨kk.toNat, by omega⟩
  have hk : k < t.Line.length := by omega
  rw [if_pos (by omega)] at HF
  have hx := List.getElem?_eq_getElem hk
  have hna := Pl.noteAt_of (t := t) (k := (k : Int)) (m := t.Line[k]) (by simp)
  have hmk := HW.out.note (k := (k : Int)) (by omega) (by omega)
  rw [hna] at hmk HF
  generalize t.Line[k] = m at hx hna hmk HF
  have HMI := Lib.hid (Mm.note_inv (H0.out.sl 2 rfl) hx)
  obtain ⟨g2, hA2, -, -⟩ := Mm.sl_addr (H0.out.sl 2 rfl) (by omega)
  have hcap : t.Line.length ≤ c2 ∧ c2 ≤ maxLen := by obtain ⟨A', n', c', hv, h1, h2, h3, _⟩ := (H0.out.sl 2 rfl).form; injection hv with _ h4 h5; omega
  unfold maxLen at hcap
  have f1' : ((k : Nat) : Int) < (t.Line.length : Nat) := by omega
  have f2' : (0 : Int) ≤ (k : Nat) := by omega
  have f3' : ((k : Nat) : Int).toNat = k := by omega
  have f5' : ¬ ((t.Line.length : Nat) : Int) ≤ k := by omega
  rw [f3'] at HF
  have HX := Lib.hid hx
  have HMK := Lib.hid hmk
  have HA2 := Lib.hid hA2
  clear hx hmk hna hA2 hkl
  obtain ⟨bk, ⟨who, no, tx⟩⟩ := m
  have q3 : Pl.isIn 3 3 5 = true := by decide
  go_enter Try.func50, Try.ntmps50
  go_upto_region 1 with fail
  obtain ⟨gt, hgt⟩ : ∃ gt, w.heap.size = gt := ⟨_, rfl⟩
  obtain ⟨gm, hgm⟩ : ∃ gm, gt + 1 = gm := ⟨_, rfl⟩
  obtain ⟨gr, hgr⟩ : ∃ gr, gm + 1 = gr := ⟨_, rfl⟩
  obtain ⟨W, hW⟩ : ∃ W, ((w.alloc (.cells #[.slice A0 t.Texts.length c0, .slice A1 t.Heard.length c1, .slice A2 t.Line.length c2, .slice A3 t.Log.length c3, .slice A4 t.Next.length c4] 31)).alloc (.cells #[.int .i64 3, .int .i64 k, .string ⟨#[]⟩] 46)).alloc (.cells #[.slice none 0 0, .slice none 0 0, .slice none 0 0, .slice none 0 0, .slice none 0 0] 31) = W := ⟨_, rfl⟩
  have HS := Lib.hid ((((H0.out.alloc' hgt 31 [.slice A0 t.Texts.length c0, .slice A1 t.Heard.length c1, .slice A2 t.Line.length c2, .slice A3 t.Log.length c3, .slice A4 t.Next.length c4]).alloc' (g := gm) (by rw [Mm.sz1, hgt, hgm]) 46 [.int .i64 3, .int .i64 k, .string ⟨#[]⟩]).alloc' (g := gr) (by rw [Mm.sz2, hgt]; omega) 31 zTell).atW hW)
  rw [hW, hgt, hgm, hgr]
  clear hW hgt hgm hgr
  have HSR := HS
  have b0 := HSR.out.cell (k := 0) 2 rfl rfl
  have b1 := HSR.out.cell (k := 1) 2 rfl rfl
  have b2 := HSR.out.cell (k := 2) 2 rfl rfl
  have b3 := HSR.out.cell (k := 3) 2 rfl rfl
  have b4 := HSR.out.cell (k := 4) 2 rfl rfl
  have m0 := HSR.out.cell (k := 0) 1 rfl rfl
  have m1 := HSR.out.cell (k := 1) 1 rfl rfl
  have m2 := HSR.out.cell (k := 2) 1 rfl rfl
  have r0 := HSR.out.cell (k := 0) 0 rfl rfl
  have r1 := HSR.out.cell (k := 1) 0 rfl rfl
  have r2 := HSR.out.cell (k := 2) 0 rfl rfl
  have r3 := HSR.out.cell (k := 3) 0 rfl rfl
  have r4 := HSR.out.cell (k := 4) 0 rfl rfl
  have z0 := HSR.out.frz (k := 0) 0 rfl
  have z1 := HSR.out.frz (k := 1) 0 rfl
  have z2 := HSR.out.frz (k := 2) 0 rfl
  have z3 := HSR.out.frz (k := 3) 0 rfl
  have z4 := HSR.out.frz (k := 4) 0 rfl
  obtain rfl : A2 = some ⟨g2, 0, none⟩ := HA2.out
  obtain ⟨e20, e21, e22, e23⟩ := rNote_ocell (HS.out.sl 5 rfl) (HS.out.ndat (i := 5) rfl) HX.out
  go_upto_region 16 with ((go_at_call 56); ((with_reducible refine (l1In_c _ _ _ _).mono ?_)); (rintro e w5 ⟨rfl, rfl⟩))
  obtain ⟨gx, hgx⟩ : ∃ gx, W.heap.size = gx := ⟨_, rfl⟩
  obtain ⟨W2, hW2⟩ : ∃ W2, W.alloc (.cells #[.bool bk, .int .i64 who, .int .i64 no, .string tx] 94) = W2 := ⟨_, rfl⟩
  have HS2 := Lib.hid ((HS.out.alloc' hgx 94 [.bool bk, .int .i64 who, .int .i64 no, .string tx]).atW hW2)
  rw [hW2, hgx]
  clear b0 b1 b2 b3 b4 m0 m1 m2 r0 r1 r2 r3 r4 z0 z1 z2 z3 z4
  clear hW2 hgx e20 e21 e22 e23
  have x0 := HS2.out.cell (k := 0) 0 rfl rfl
  have x1 := HS2.out.cell (k := 1) 0 rfl rfl
  have x2 := HS2.out.cell (k := 2) 0 rfl rfl
  have x3 := HS2.out.cell (k := 3) 0 rfl rfl
  have HSR := Lib.hid HS2.out.tail
  have b0 := HSR.out.cell (k := 0) 2 rfl rfl
  have b1 := HSR.out.cell (k := 1) 2 rfl rfl
  have b2 := HSR.out.cell (k := 2) 2 rfl rfl
  have b3 := HSR.out.cell (k := 3) 2 rfl rfl
  have b4 := HSR.out.cell (k := 4) 2 rfl rfl
  have m0 := HSR.out.cell (k := 0) 1 rfl rfl
  have m1 := HSR.out.cell (k := 1) 1 rfl rfl
  have m2 := HSR.out.cell (k := 2) 1 rfl rfl
  have r0 := HSR.out.cell (k := 0) 0 rfl rfl
  have r1 := HSR.out.cell (k := 1) 0 rfl rfl
  have r2 := HSR.out.cell (k := 2) 0 rfl rfl
  have r3 := HSR.out.cell (k := 3) 0 rfl rfl
  have r4 := HSR.out.cell (k := 4) 0 rfl rfl
  have z0 := HSR.out.frz (k := 0) 0 rfl
  have z1 := HSR.out.frz (k := 1) 0 rfl
  have z2 := HSR.out.frz (k := 2) 0 rfl
  have z3 := HSR.out.frz (k := 3) 0 rfl
  have z4 := HSR.out.frz (k := 4) 0 rfl
  rw [if_neg (show ¬ (3 : Int) = 5 by decide), if_pos trivial] at HF
  have HWD := Lib.hid (HW.out.drop k)
  obtain ⟨z, hz⟩ : ∃ z, Pl.ttake { t with Line := t.Line.eraseIdx k } ⟨bk, ⟨who, no, tx⟩⟩ = z := ⟨_, rfl⟩
  rw [hz] at HF
  have HZ := Lib.hid hz
  clear hz
  have HG1 : Hid (W2.heap.size = W2.heap.size) := rfl
  obtain ⟨i0, hi, hz0, hz1, hz2⟩ := info_parts Try.infoNote
  have HS3 := Lib.hid (HS2.out.fresh (g := W2.heap.size) rfl rNote 94)
  have hcut := Mm.run_cut (P := Try.prog) (t := 28) (s := 4) (by kernel_rfl) (fun W => by kernel_rfl) (g := g2) (n := t.Line.length) (c := c2) (j := k + 1) (i := (k : Int) + 1) (by omega) (by omega)
  obtain ⟨AC, hAC⟩ : ∃ AC, (if c2 = k + 1 then (some ⟨g2, 0, none⟩ : Option Addr) else some ⟨g2, (k + 1) * 4, none⟩) = AC := ⟨_, rfl⟩
  rw [hAC] at hcut
  have HAC := Lib.hid hAC
  clear hAC
  have hw1 : IntKind.i64.wrap ((k : Int) + 1) = (k : Int) + 1 := IntWalk.i64_in _ (by omega)
  have HRD : ∀ W, Hid (Mm.SlAt rNote W W.heap.size t.Line (some ⟨g2, 0, none⟩) t.Line.length c2 → Mm.SlAt rNote W W.heap.size (t.Line.drop (k + 1)) AC (t.Line.length - (k + 1)) (c2 - (k + 1))) := fun W => Lib.hid (fun h => by
    obtain ⟨A', h1, h2⟩ := h.cut (j := k + 1) (by omega) (s := 4) rfl
    rw [HAC.out] at h1
    subst h1
    exact h2)
  have HER : Hid ([] ++ t.Line.take k ++ t.Line.drop (k + 1) = t.Line.eraseIdx k) := Lib.hid (by rw [List.nil_append, List.eraseIdx_eq_take_drop_succ])
  go_wp2_with (first
    | (at_builtin; refine Mm.wpList_appMany rfl (.tmp 136) (.tmp 141) 28 rfl Mm.flatA_note Mm.flat_note i0 _ 40 Try.underlying28 hi hz0 hz1 hz2 rfl HS3.out 0 rfl ((HS3.out.rdSl 7 rfl).take (k := k) (by omega)) (m := k) (by simp) (by unfold maxLen; omega) (by omega) rfl rfl ?_; intro A5 c5 f5 w5 hs5; (have HS5 := Lib.hid hs5); clear hs5; (clear b0 b1 b2 b3 b4 m0 m1 m2 r0 r1 r2 r3 r4 z0 z1 z2 z3 z4); clear x0 x1 x2 x3 HSR; (have x0 := HS5.out.cell (k := 0) 1 rfl rfl); (have x1 := HS5.out.cell (k := 1) 1 rfl rfl); (have x2 := HS5.out.cell (k := 2) 1 rfl rfl); (have x3 := HS5.out.cell (k := 3) 1 rfl rfl); (have HSR := Lib.hid HS5.out.tail.tail); (have b0 := HSR.out.cell (k := 0) 2 rfl rfl); (have b1 := HSR.out.cell (k := 1) 2 rfl rfl); (have b2 := HSR.out.cell (k := 2) 2 rfl rfl); (have b3 := HSR.out.cell (k := 3) 2 rfl rfl); (have b4 := HSR.out.cell (k := 4) 2 rfl rfl); (have m0 := HSR.out.cell (k := 0) 1 rfl rfl); (have m1 := HSR.out.cell (k := 1) 1 rfl rfl); (have m2 := HSR.out.cell (k := 2) 1 rfl rfl); (have r0 := HSR.out.cell (k := 0) 0 rfl rfl); (have r1 := HSR.out.cell (k := 1) 0 rfl rfl); (have r2 := HSR.out.cell (k := 2) 0 rfl rfl); (have r3 := HSR.out.cell (k := 3) 0 rfl rfl); (have r4 := HSR.out.cell (k := 4) 0 rfl rfl); (have z0 := HSR.out.frz (k := 0) 0 rfl); (have z1 := HSR.out.frz (k := 1) 0 rfl); (have z2 := HSR.out.frz (k := 2) 0 rfl); (have z3 := HSR.out.frz (k := 3) 0 rfl); (have z4 := HSR.out.frz (k := 4) 0 rfl))
    | (at_builtin; refine Mm.wpList_appMany rfl (.tmp 143) (.tmp 149) 28 rfl Mm.flatA_note Mm.flat_note i0 _ 40 Try.underlying28 hi hz0 hz1 hz2 rfl HS5.out 0 rfl ((HRD _).out (HS5.out.rdSl 7 rfl)) (m := t.Line.length - 1) (by simp; omega) (by unfold maxLen; omega) (by omega) rfl rfl ?_; intro A6 c6 f6 w6 hs6; rw [HER.out] at hs6; (have HS6 := Lib.hid hs6); (have HS7 := Lib.hid (hs6.setBlk (k := 2) 4 rfl (.slice A6 (t.Line.length - 1) c6))); clear hs6; (clear b0 b1 b2 b3 b4 m0 m1 m2 r0 r1 r2 r3 r4 z0 z1 z2 z3 z4); clear x0 x1 x2 x3 HSR; (have y2 := HS6.out.frz (k := 2) 4 rfl); (have y3 := HS6.out.cell (k := 2) 4 rfl rfl); (have x0 := HS7.out.cell (k := 0) 1 rfl rfl); (have x1 := HS7.out.cell (k := 1) 1 rfl rfl); (have x2 := HS7.out.cell (k := 2) 1 rfl rfl); (have x3 := HS7.out.cell (k := 3) 1 rfl rfl); (have HSR := Lib.hid HS7.out.tail.tail); (have b0 := HSR.out.cell (k := 0) 2 rfl rfl); (have b1 := HSR.out.cell (k := 1) 2 rfl rfl); (have b2 := HSR.out.cell (k := 2) 2 rfl rfl); (have b3 := HSR.out.cell (k := 3) 2 rfl rfl); (have b4 := HSR.out.cell (k := 4) 2 rfl rfl); (have m0 := HSR.out.cell (k := 0) 1 rfl rfl); (have m1 := HSR.out.cell (k := 1) 1 rfl rfl); (have m2 := HSR.out.cell (k := 2) 1 rfl rfl); (have r0 := HSR.out.cell (k := 0) 0 rfl rfl); (have r1 := HSR.out.cell (k := 1) 0 rfl rfl); (have r2 := HSR.out.cell (k := 2) 0 rfl rfl); (have r3 := HSR.out.cell (k := 3) 0 rfl rfl); (have r4 := HSR.out.cell (k := 4) 0 rfl rfl); (have z0 := HSR.out.frz (k := 0) 0 rfl); (have z1 := HSR.out.frz (k := 1) 0 rfl); (have z2 := HSR.out.frz (k := 2) 0 rfl); (have z3 := HSR.out.frz (k := 3) 0 rfl); (have z4 := HSR.out.frz (k := 4) 0 rfl)))
  have HC3 := Lib.hid (shutv_Tell (x := { t with Line := t.Line.eraseIdx k }) (HS7.out.sel [5, 6, 0, 8, 9, 2] (by decide) rfl))
  have CW := l10Take_c { t with Line := t.Line.eraseIdx k } ⟨bk, ⟨who, no, tx⟩⟩ _ _ _ (HC3.out.at_ 0 rfl) (HC3.out.ndat (i := 0) rfl) HMI.out HWD.out HMK.out
  rw [HZ.out] at CW
  go_wp2_with (go_at_call 93; refine CW.mono ?_; (clear b0 b1 b2 b3 b4 m0 m1 m2 r0 r1 r2 r3 r4 z0 z1 z2 z3 z4); clear x0 x1 x2 x3 y2 y3; (rintro e w9 ⟨cs9, fp9, rfl, hL⟩); (obtain ⟨A10, c10, A11, c11, A12, c12, A13, c13, A14, c14, f10, f11, f12, f13, f14, rfl, rfl, hs9⟩ := openv_Tell (HC3.out.call 0 rfl hL)); ((have HSR := Lib.hid hs9)); (clear hL hs9 CW); (have r0 := HSR.out.cell (k := 0) 5 rfl rfl); (have r1 := HSR.out.cell (k := 1) 5 rfl rfl); (have r2 := HSR.out.cell (k := 2) 5 rfl rfl); (have r3 := HSR.out.cell (k := 3) 5 rfl rfl); (have r4 := HSR.out.cell (k := 4) 5 rfl rfl); (have z0 := HSR.out.frz (k := 0) 5 rfl); (have z1 := HSR.out.frz (k := 1) 5 rfl); (have z2 := HSR.out.frz (k := 2) 5 rfl); (have z3 := HSR.out.frz (k := 3) 5 rfl); (have z4 := HSR.out.frz (k := 4) 5 rfl))
  have HSF := Lib.hid (((((HSR.out.setBlk (k := 0) 5 rfl (.slice A10 z.Texts.length c10)).setBlk (k := 1) 5 rfl (.slice A11 z.Heard.length c11)).setBlk (k := 2) 5 rfl (.slice A12 z.Line.length c12)).setBlk (k := 3) 5 rfl (.slice A13 z.Log.length c13)).setBlk (k := 4) 5 rfl (.slice A14 z.Next.length c14))
  have q0 := HSF.out.cell (k := 0) 5 rfl rfl
  have q1 := HSF.out.cell (k := 1) 5 rfl rfl
  have q2 := HSF.out.cell (k := 2) 5 rfl rfl
  have q3 := HSF.out.cell (k := 3) 5 rfl rfl
  have q4 := HSF.out.cell (k := 4) 5 rfl rfl
  exact bodyPost_ret (v := .tuple #[.agg #[.slice A10 z.Texts.length c10, .slice A11 z.Heard.length c11, .slice A12 z.Line.length c12, .slice A13 z.Log.length c13, .slice A14 z.Next.length c14], .bool true]) (by simp [results, Try.results50, go_sem, q0, q1, q2, q3, q4]) rfl ⟨[.slice A10 z.Texts.length c10, .slice A11 z.Heard.length c11, .slice A12 z.Line.length c12, .slice A13 z.Log.length c13, .slice A14 z.Next.length c14], _, by rw [HF.out], by rw [HF.out]; exact (shutv_Tell (x := z) HSF.out).head.left⟩
theorem l10Step_c (t : Tell) (s : TellStep) (cs : List Value) (fp : List Nat) (w : World) (h : (Mm.tow rTell t cs fp).holds w) (hnd : fp.Nodup) (hm : Mm.I64 s.K ∧ s.Text.size ≤ maxLen) (hw : Pl.TWf t) :
    Calls Try.prog 50 #[.agg cs.toArray, .agg #[.int .i64 s.Kind, .int .i64 s.K, .string s.Text]] w (TellAns2 (Pl.tstep t s) fp w) := by
  obtain ⟨kd, kk, tx⟩ := s
  by_cases h1 : kd = 1
  · subst h1
    have e : Pl.tstep t ⟨1, kk, tx⟩ = Pl.tput t kk tx := by unfold Pl.tstep; rw [if_pos rfl]
    rw [e]
    exact l10StepPut_c t kk tx cs fp w h hnd hm hw
  by_cases h2 : tx.size = 0
  · obtain rfl := ba_empty h2
    by_cases h3 : kd = 2
    · subst h3; exact l10StepSend_c t kk cs fp w h hnd hm.1 hw
    · by_cases hno : kk < 0 ∨ (t.Line.length : Int) ≤ kk ∨ kd < 3 ∨ 5 < kd
      · exact l10StepBad_c t kd kk cs fp w h hnd h1 h3 hno
      · rcases (show kd = 3 ∨ kd = 4 ∨ kd = 5 by omega) with rfl | rfl | rfl
        · exact l10StepTake_c t kk cs fp w h hnd hm.1 (by omega) (by omega) hw
        · exact l10StepLose_c t kk cs fp w h hnd hm.1 (by omega) (by omega) hw
        · exact l10StepTwice_c t kk cs fp w h hnd hm.1 (by omega) (by omega) hw
  · exact l10StepNo_c t kd kk tx cs fp w h hnd h1 h2
end Go.Proofs.Ytaepohocabealaa
