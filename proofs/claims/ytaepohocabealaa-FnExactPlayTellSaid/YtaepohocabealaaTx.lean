/-
  Contracts: the reference's teller, by value: the step (chapter 10). No conditions.
-/
import Derived.Test.YtaepohocabealaaTw
import Derived.Test.YtaepohocabealaaAm
namespace Go.Proofs.Ytaepohocabealaa
open Go.RowKit
attribute [local go_sem] und_cell cha_cell World.cell?_alloc_some
theorem l10Who_c (A0 A1 A2 A3 A4 : Option Addr) (n0 n1 n2 n3 n4 c0 c1 c2 c3 c4 : Nat) (k : Int) (w : World) :
    Calls Try.prog 57 #[.agg #[.slice A0 n0 c0, .slice A1 n1 c1, .slice A2 n2 c2, .slice A3 n3 c3, .slice A4 n4 c4], .int .i64 k] w fun e w' => e = .returned (.bool (decide (0 ≤ k) && decide (k < (n0 : Nat)))) ∧ Below w.heap.size w w' := by
  by_cases h0 : 0 ≤ k
  · by_cases h1 : k < (n0 : Nat)
    · go_enter Try.func57, Try.ntmps57
      go_wp2
      exact bodyPost_ret (v := .bool true) (by simp [results, Try.results57, go_sem]) rfl ⟨by simp [h0, h1], below_new (Below.refl _ _) _⟩
    · go_enter Try.func57, Try.ntmps57
      go_wp2
      exact bodyPost_ret (v := .bool false) (by simp [results, Try.results57, go_sem]) rfl ⟨by simp [h1], below_new (Below.refl _ _) _⟩
  · go_enter Try.func57, Try.ntmps57
    go_wp2
    exact bodyPost_ret (v := .bool false) (by simp [results, Try.results57, go_sem]) rfl ⟨by rw [decide_eq_false (show ¬ 0 ≤ k by omega)]; rfl, below_new (Below.refl _ _) _⟩
set_option maxRecDepth 100000 in
set_option maxHeartbeats 2000000 in
theorem l10StepNo_c (t : Tell) (kd kk : Int) (tx : ByteArray) (cs : List Value) (fp : List Nat) (w : World) (h : (Mm.tow rTell t cs fp).holds w) (hnd : fp.Nodup) (hk1 : kd ≠ 1) (hno : tx.size ≠ 0) :
    Calls Try.prog 50 #[.agg cs.toArray, .agg #[.int .i64 kd, .int .i64 kk, .string tx]] w (TellAns2 (Pl.tstep t ⟨kd, kk, tx⟩) fp w) := by
  have HF : Hid (Pl.tstep t ⟨kd, kk, tx⟩ = (t, false)) := by
    show _ = _
    unfold Pl.tstep
    rw [if_neg hk1, if_pos (.inl hno)]
  obtain ⟨A0, c0, A1, c1, A2, c2, A3, c3, A4, c4, f0, f1, f2, f3, f4, rfl, rfl, hs⟩ := openv_Tell (Mm.SepF.one _ w h hnd)
  have q1 : (kd == 1) = false := by simpa using hk1
  have q6 : tx.toList.isEmpty = false := by
    cases hh : tx.toList with
    | nil => exact absurd (by rw [Lib.toList_data] at hh; cases tx with | mk a => simp at hh; rw [hh]; rfl) hno
    | cons => rfl
  have H0 := Lib.hid hs
  clear h hs hnd hk1 hno
  go_enter Try.func50, Try.ntmps50
  go_upto_region 1 with fail
  obtain ⟨gt, hgt⟩ : ∃ gt, w.heap.size = gt := ⟨_, rfl⟩
  obtain ⟨gm, hgm⟩ : ∃ gm, gt + 1 = gm := ⟨_, rfl⟩
  obtain ⟨gr, hgr⟩ : ∃ gr, gm + 1 = gr := ⟨_, rfl⟩
  obtain ⟨W, hW⟩ : ∃ W, ((w.alloc (.cells #[.slice A0 t.Texts.length c0, .slice A1 t.Heard.length c1, .slice A2 t.Line.length c2, .slice A3 t.Log.length c3, .slice A4 t.Next.length c4] 31)).alloc (.cells #[.int .i64 kd, .int .i64 kk, .string tx] 46)).alloc (.cells #[.slice none 0 0, .slice none 0 0, .slice none 0 0, .slice none 0 0, .slice none 0 0] 31) = W := ⟨_, rfl⟩
  have HS := Lib.hid ((((H0.out.alloc' hgt 31 [.slice A0 t.Texts.length c0, .slice A1 t.Heard.length c1, .slice A2 t.Line.length c2, .slice A3 t.Log.length c3, .slice A4 t.Next.length c4]).alloc' (g := gm) (by rw [Mm.sz1, hgt, hgm]) 46 [.int .i64 kd, .int .i64 kk, .string tx]).alloc' (g := gr) (by rw [Mm.sz2, hgt]; omega) 31 zTell).atW hW)
  rw [hW, hgt, hgm, hgr]
  clear hW hgt hgm hgr
  have HSR := HS
  have b0 := HSR.out.cell (k := 0) 2 rfl rfl
  have b1 := HSR.out.cell (k := 1) 2 rfl rfl
  have b2 := HSR.out.cell (k := 2) 2 rfl rfl
  have b3 := HSR.out.cell (k := 3) 2 rfl rfl
  have b4 := HSR.out.cell (k := 4) 2 rfl rfl
  have m0 := HSR.out.cell (k := 0) 1 rfl rfl
  have m1 := HSR.out.cell (k := 1) 1 rfl rfl
  have m2 := HSR.out.cell (k := 2) 1 rfl rfl
  have r0 := HSR.out.cell (k := 0) 0 rfl rfl
  have r1 := HSR.out.cell (k := 1) 0 rfl rfl
  have r2 := HSR.out.cell (k := 2) 0 rfl rfl
  have r3 := HSR.out.cell (k := 3) 0 rfl rfl
  have r4 := HSR.out.cell (k := 4) 0 rfl rfl
  have z0 := HSR.out.frz (k := 0) 0 rfl
  have z1 := HSR.out.frz (k := 1) 0 rfl
  have z2 := HSR.out.frz (k := 2) 0 rfl
  have z3 := HSR.out.frz (k := 3) 0 rfl
  have z4 := HSR.out.frz (k := 4) 0 rfl
  go_wp2
  have HSF := Lib.hid (((((HSR.out.setBlk (k := 0) 0 rfl (.slice A0 t.Texts.length c0)).setBlk (k := 1) 0 rfl (.slice A1 t.Heard.length c1)).setBlk (k := 2) 0 rfl (.slice A2 t.Line.length c2)).setBlk (k := 3) 0 rfl (.slice A3 t.Log.length c3)).setBlk (k := 4) 0 rfl (.slice A4 t.Next.length c4))
  have q0 := HSF.out.cell (k := 0) 0 rfl rfl
  have q1 := HSF.out.cell (k := 1) 0 rfl rfl
  have q2 := HSF.out.cell (k := 2) 0 rfl rfl
  have q3 := HSF.out.cell (k := 3) 0 rfl rfl
  have q4 := HSF.out.cell (k := 4) 0 rfl rfl
  exact bodyPost_ret (v := .tuple #[.agg #[.slice A0 t.Texts.length c0, .slice A1 t.Heard.length c1, .slice A2 t.Line.length c2, .slice A3 t.Log.length c3, .slice A4 t.Next.length c4], .bool false]) (by simp [results, Try.results50, go_sem, q0, q1, q2, q3, q4]) rfl ⟨[.slice A0 t.Texts.length c0, .slice A1 t.Heard.length c1, .slice A2 t.Line.length c2, .slice A3 t.Log.length c3, .slice A4 t.Next.length c4], _, by rw [HF.out], by rw [HF.out]; exact (shutv_Tell (x := t) HSF.out.tail.tail.tail).left⟩
theorem Pl.who_no {t : Tell} {kk : Int} (hb : ¬ (0 ≤ kk ∧ kk < t.Texts.length)) : (decide (0 ≤ kk) && decide (kk < ((t.Texts.length : Nat) : Int))) = false := by
  by_cases h0 : 0 ≤ kk
  · rw [decide_eq_false (show ¬ kk < ((t.Texts.length : Nat) : Int) by omega), Bool.and_false]
  · rw [decide_eq_false h0, Bool.false_and]
theorem Pl.who_yes {n k : Nat} (h : k < n) : (decide (0 ≤ (k : Int)) && decide ((k : Int) < ((n : Nat) : Int))) = true := by
  rw [decide_eq_true (show (0 : Int) ≤ k by omega), decide_eq_true (show (k : Int) < ((n : Nat) : Int) by omega)]; rfl
set_option maxRecDepth 100000 in
set_option maxHeartbeats 2000000 in
theorem l10StepPut_c (t : Tell) (kk : Int) (tx : ByteArray) (cs : List Value) (fp : List Nat) (w : World) (h : (Mm.tow rTell t cs fp).holds w) (hnd : fp.Nodup) (hm : Mm.I64 kk ∧ tx.size ≤ maxLen) (hw : Pl.TWf t) :
    Calls Try.prog 50 #[.agg cs.toArray, .agg #[.int .i64 1, .int .i64 kk, .string tx]] w (TellAns2 (Pl.tput t kk tx) fp w) := by
  obtain ⟨A0, c0, A1, c1, A2, c2, A3, c3, A4, c4, f0, f1, f2, f3, f4, rfl, rfl, hs⟩ := openv_Tell (Mm.SepF.one _ w h hnd)
  have H0 := Lib.hid hs
  have HM := Lib.hid hm
  have h4 := hw.n4
  have HW := Lib.hid hw
  clear h hs hnd hm hw
  by_cases hb : 0 ≤ kk ∧ kk < t.Texts.length
  · obtain ⟨k, rfl⟩ : ∃ k : Nat, kk = k := ⟨kk.toNat, by omega⟩
    have h1 : k < t.Texts.length := by omega
    have f1 := Pl.who_yes h1
    clear hb
    have hy := List.getElem?_eq_getElem h1
    have ht := Pl.tAt_of (t := t) (k := (k : Int)) (l := t.Texts[k]) (by simp)
    have hy20 := HW.out.texts k _ hy
    generalize t.Texts[k] = ys at hy ht hy20
    obtain ⟨g0, hA0, -, -⟩ := Mm.sl_addr (H0.out.sl 0 rfl) (by omega)
    have hcap : t.Texts.length ≤ c0 ∧ c0 ≤ maxLen := by obtain ⟨A', n', c', hv, h1, h2, h3, _⟩ := (H0.out.sl 0 rfl).form; injection hv with _ h4 h5; omega
    unfold maxLen at hcap
    have f1' : ((k : Nat) : Int) < (t.Texts.length : Nat) := by omega
    have f2' : (0 : Int) ≤ (k : Nat) := by omega
    have f3' : ((k : Nat) : Int).toNat = k := by omega
    have HT := Lib.hid ht
    have HY := Lib.hid hy
    have HA0 := Lib.hid hA0
    clear hy ht hA0
    by_cases h3 : tx.size ≤ 20
    · have f5' : decide ((20 : Int) < (tx.size : Nat)) = false := by simp; omega
      by_cases h2 : ys.length = 20
      · have HF : Hid (Pl.tput t k tx = (t, false)) := if_neg (by rw [HT.out]; omega)
        have f4' : ((ys.length : Nat) == (20 : Int)) = true := by simp [h2]
        go_enter Try.func50, Try.ntmps50
        go_upto_region 1 with fail
        obtain ⟨gt, hgt⟩ : ∃ gt, w.heap.size = gt := ⟨_, rfl⟩
        obtain ⟨gm, hgm⟩ : ∃ gm, gt + 1 = gm := ⟨_, rfl⟩
        obtain ⟨gr, hgr⟩ : ∃ gr, gm + 1 = gr := ⟨_, rfl⟩
        obtain ⟨W, hW⟩ : ∃ W, ((w.alloc (.cells #[.slice A0 t.Texts.length c0, .slice A1 t.Heard.length c1, .slice A2 t.Line.length c2, .slice A3 t.Log.length c3, .slice A4 t.Next.length c4] 31)).alloc (.cells #[.int .i64 1, .int .i64 k, .string tx] 46)).alloc (.cells #[.slice none 0 0, .slice none 0 0, .slice none 0 0, .slice none 0 0, .slice none 0 0] 31) = W := ⟨_, rfl⟩
        have HS := Lib.hid ((((H0.out.alloc' hgt 31 [.slice A0 t.Texts.length c0, .slice A1 t.Heard.length c1, .slice A2 t.Line.length c2, .slice A3 t.Log.length c3, .slice A4 t.Next.length c4]).alloc' (g := gm) (by rw [Mm.sz1, hgt, hgm]) 46 [.int .i64 1, .int .i64 k, .string tx]).alloc' (g := gr) (by rw [Mm.sz2, hgt]; omega) 31 zTell).atW hW)
        rw [hW, hgt, hgm, hgr]
        clear hW hgt hgm hgr
        have HSR := HS
        have b0 := HSR.out.cell (k := 0) 2 rfl rfl
        have b1 := HSR.out.cell (k := 1) 2 rfl rfl
        have b2 := HSR.out.cell (k := 2) 2 rfl rfl
        have b3 := HSR.out.cell (k := 3) 2 rfl rfl
        have b4 := HSR.out.cell (k := 4) 2 rfl rfl
        have m0 := HSR.out.cell (k := 0) 1 rfl rfl
        have m1 := HSR.out.cell (k := 1) 1 rfl rfl
        have m2 := HSR.out.cell (k := 2) 1 rfl rfl
        have r0 := HSR.out.cell (k := 0) 0 rfl rfl
        have r1 := HSR.out.cell (k := 1) 0 rfl rfl
        have r2 := HSR.out.cell (k := 2) 0 rfl rfl
        have r3 := HSR.out.cell (k := 3) 0 rfl rfl
        have r4 := HSR.out.cell (k := 4) 0 rfl rfl
        have z0 := HSR.out.frz (k := 0) 0 rfl
        have z1 := HSR.out.frz (k := 1) 0 rfl
        have z2 := HSR.out.frz (k := 2) 0 rfl
        have z3 := HSR.out.frz (k := 3) 0 rfl
        have z4 := HSR.out.frz (k := 4) 0 rfl
        obtain rfl : A0 = some ⟨g0, 0, none⟩ := HA0.out
        go_wp2_with ((go_at_call 57); ((with_reducible refine (l10Who_c _ _ _ _ _ _ _ _ _ _ _ _ _ _ _ _ _).mono ?_)); (rintro e w5 ⟨rfl, hb5⟩); ((have HS5 := Lib.hid (HS.out.step hb5))); (clear hb5); (clear b0 b1 b2 b3 b4 m0 m1 m2 r0 r1 r2 r3 r4 z0 z1 z2 z3 z4); (have b0 := HS5.out.cell (k := 0) 2 rfl rfl); (have b1 := HS5.out.cell (k := 1) 2 rfl rfl); (have b2 := HS5.out.cell (k := 2) 2 rfl rfl); (have b3 := HS5.out.cell (k := 3) 2 rfl rfl); (have b4 := HS5.out.cell (k := 4) 2 rfl rfl); (have m0 := HS5.out.cell (k := 0) 1 rfl rfl); (have m1 := HS5.out.cell (k := 1) 1 rfl rfl); (have m2 := HS5.out.cell (k := 2) 1 rfl rfl); (have r0 := HS5.out.cell (k := 0) 0 rfl rfl); (have r1 := HS5.out.cell (k := 1) 0 rfl rfl); (have r2 := HS5.out.cell (k := 2) 0 rfl rfl); (have r3 := HS5.out.cell (k := 3) 0 rfl rfl); (have r4 := HS5.out.cell (k := 4) 0 rfl rfl); (have z0 := HS5.out.frz (k := 0) 0 rfl); (have z1 := HS5.out.frz (k := 1) 0 rfl); (have z2 := HS5.out.frz (k := 2) 0 rfl); (have z3 := HS5.out.frz (k := 3) 0 rfl); (have z4 := HS5.out.frz (k := 4) 0 rfl); (obtain ⟨A, m, d, fx, e0, rfl, -⟩ := HS5.out.openIn 3 rfl HY.out))
        have HSR := HS5
        have HSF := Lib.hid (((((HSR.out.setBlk (k := 0) 0 rfl (.slice (some ⟨g0, 0, none⟩) t.Texts.length c0)).setBlk (k := 1) 0 rfl (.slice A1 t.Heard.length c1)).setBlk (k := 2) 0 rfl (.slice A2 t.Line.length c2)).setBlk (k := 3) 0 rfl (.slice A3 t.Log.length c3)).setBlk (k := 4) 0 rfl (.slice A4 t.Next.length c4))
        have q0 := HSF.out.cell (k := 0) 0 rfl rfl
        have q1 := HSF.out.cell (k := 1) 0 rfl rfl
        have q2 := HSF.out.cell (k := 2) 0 rfl rfl
        have q3 := HSF.out.cell (k := 3) 0 rfl rfl
        have q4 := HSF.out.cell (k := 4) 0 rfl rfl
        exact bodyPost_ret (v := .tuple #[.agg #[.slice (some ⟨g0, 0, none⟩) t.Texts.length c0, .slice A1 t.Heard.length c1, .slice A2 t.Line.length c2, .slice A3 t.Log.length c3, .slice A4 t.Next.length c4], .bool false]) (by simp [results, Try.results50, go_sem, q0, q1, q2, q3, q4]) rfl ⟨[.slice (some ⟨g0, 0, none⟩) t.Texts.length c0, .slice A1 t.Heard.length c1, .slice A2 t.Line.length c2, .slice A3 t.Log.length c3, .slice A4 t.Next.length c4], _, by rw [HF.out], by rw [HF.out]; exact (shutv_Tell (x := t) HSF.out.tail.tail.tail).left⟩
      · have HF : Hid (Pl.tput t k tx = ({ t with Texts := t.Texts.set k (ys ++ [tx]) }, true)) := by
          show _ = _
          unfold Pl.tput
          rw [if_pos (by rw [HT.out]; omega), HT.out]
          rfl
        have f4' : ((ys.length : Nat) == (20 : Int)) = false := by simp; omega
        obtain ⟨i0, hi, hz0, hz1, hz2⟩ := info_parts Try.infoStr
        go_enter Try.func50, Try.ntmps50
        go_upto_region 1 with fail
        obtain ⟨gt, hgt⟩ : ∃ gt, w.heap.size = gt := ⟨_, rfl⟩
        obtain ⟨gm, hgm⟩ : ∃ gm, gt + 1 = gm := ⟨_, rfl⟩
        obtain ⟨gr, hgr⟩ : ∃ gr, gm + 1 = gr := ⟨_, rfl⟩
        obtain ⟨W, hW⟩ : ∃ W, ((w.alloc (.cells #[.slice A0 t.Texts.length c0, .slice A1 t.Heard.length c1, .slice A2 t.Line.length c2, .slice A3 t.Log.length c3, .slice A4 t.Next.length c4] 31)).alloc (.cells #[.int .i64 1, .int .i64 k, .string tx] 46)).alloc (.cells #[.slice none 0 0, .slice none 0 0, .slice none 0 0, .slice none 0 0, .slice none 0 0] 31) = W := ⟨_, rfl⟩
        have HS := Lib.hid ((((H0.out.alloc' hgt 31 [.slice A0 t.Texts.length c0, .slice A1 t.Heard.length c1, .slice A2 t.Line.length c2, .slice A3 t.Log.length c3, .slice A4 t.Next.length c4]).alloc' (g := gm) (by rw [Mm.sz1, hgt, hgm]) 46 [.int .i64 1, .int .i64 k, .string tx]).alloc' (g := gr) (by rw [Mm.sz2, hgt]; omega) 31 zTell).atW hW)
        rw [hW, hgt, hgm, hgr]
        clear hW hgt hgm hgr
        have HSR := HS
        have b0 := HSR.out.cell (k := 0) 2 rfl rfl
        have b1 := HSR.out.cell (k := 1) 2 rfl rfl
        have b2 := HSR.out.cell (k := 2) 2 rfl rfl
        have b3 := HSR.out.cell (k := 3) 2 rfl rfl
        have b4 := HSR.out.cell (k := 4) 2 rfl rfl
        have m0 := HSR.out.cell (k := 0) 1 rfl rfl
        have m1 := HSR.out.cell (k := 1) 1 rfl rfl
        have m2 := HSR.out.cell (k := 2) 1 rfl rfl
        have r0 := HSR.out.cell (k := 0) 0 rfl rfl
        have r1 := HSR.out.cell (k := 1) 0 rfl rfl
        have r2 := HSR.out.cell (k := 2) 0 rfl rfl
        have r3 := HSR.out.cell (k := 3) 0 rfl rfl
        have r4 := HSR.out.cell (k := 4) 0 rfl rfl
        have z0 := HSR.out.frz (k := 0) 0 rfl
        have z1 := HSR.out.frz (k := 1) 0 rfl
        have z2 := HSR.out.frz (k := 2) 0 rfl
        have z3 := HSR.out.frz (k := 3) 0 rfl
        have z4 := HSR.out.frz (k := 4) 0 rfl
        obtain rfl : A0 = some ⟨g0, 0, none⟩ := HA0.out
        go_wp2_with ((go_at_call 57); ((with_reducible refine (l10Who_c _ _ _ _ _ _ _ _ _ _ _ _ _ _ _ _ _).mono ?_)); (rintro e w5 ⟨rfl, hb5⟩); ((have HS5 := Lib.hid (HS.out.step hb5))); (clear hb5); (clear b0 b1 b2 b3 b4 m0 m1 m2 r0 r1 r2 r3 r4 z0 z1 z2 z3 z4); (have b0 := HS5.out.cell (k := 0) 2 rfl rfl); (have b1 := HS5.out.cell (k := 1) 2 rfl rfl); (have b2 := HS5.out.cell (k := 2) 2 rfl rfl); (have b3 := HS5.out.cell (k := 3) 2 rfl rfl); (have b4 := HS5.out.cell (k := 4) 2 rfl rfl); (have m0 := HS5.out.cell (k := 0) 1 rfl rfl); (have m1 := HS5.out.cell (k := 1) 1 rfl rfl); (have m2 := HS5.out.cell (k := 2) 1 rfl rfl); (have r0 := HS5.out.cell (k := 0) 0 rfl rfl); (have r1 := HS5.out.cell (k := 1) 0 rfl rfl); (have r2 := HS5.out.cell (k := 2) 0 rfl rfl); (have r3 := HS5.out.cell (k := 3) 0 rfl rfl); (have r4 := HS5.out.cell (k := 4) 0 rfl rfl); (have z0 := HS5.out.frz (k := 0) 0 rfl); (have z1 := HS5.out.frz (k := 1) 0 rfl); (have z2 := HS5.out.frz (k := 2) 0 rfl); (have z3 := HS5.out.frz (k := 3) 0 rfl); (have z4 := HS5.out.frz (k := 4) 0 rfl); (obtain ⟨A, m, d, fx, e0, rfl, ho, hfx, hgx, hap, -, hnext⟩ := HS5.out.openIn 3 rfl HY.out); (have HNX := Lib.hid hnext); (have HO := Lib.hid ho); (have n0 : gt ∉ fx := hap 2 _ (by decide) rfl _ (by simp [Mm.tblk])); (have n1 : gm ∉ fx := hap 1 _ (by decide) rfl _ (by simp [Mm.tblk])); (have n2 : gr ∉ fx := hap 0 _ (by decide) rfl _ (by simp [Mm.tblk])); (have HFX := Lib.hid hfx); clear hnext ho hap hfx)
        refine Mm.wp_region_give 15 (fun i => match i with | 12 => some (Mm.gBs 9 [.string tx]) | 13 => some (Mm.gSl Mm.str 9 (ys ++ [tx])) | _ => none) (fun i => match i with | 13 => [12, 16] | _ => []) (fun i => match i with | 16 => [Mm.tsl Mm.str 9 ys (.slice A ys.length d) fx] | _ => []) (F := fx) (D := fun w' => ∃ x : Cha fx w5, w' = cha fx w5 x) (fun X us h => Mm.sep_cha h) (by kernel_rfl) (by kernel_rfl) (by kernel_rfl) (Mm.sep_eq ((Mm.SepF.one (Mm.tsl Mm.str 9 ys (.slice A ys.length d) fx) w5 HO.out HFX.out).step (Below.refl _ _).drew) rfl) ?_
        repeat (refine Mm.give_det (by rfl) (by rfl) (by rfl) (fun K hK => ?_); go_big_quiet_op; refine hK _ ?_; clear hK K)
        refine Mm.give_op0 46 (by rfl) rfl (by rfl) (by rfl) (by rfl) (by rfl) Mm.gBs_in (fun others X2 hX2 => ?_) ?_
        · go_wp2
          exact Mm.gvq_bs hX2 rfl rfl rfl
        rintro v ds ⟨gb, rfl, rfl⟩
        simp only [Act.put, List.setIfInBounds_toArray, List.set_cons_succ, List.set_cons_zero]
        refine Mm.give_op2 47 12 16 (by rfl) rfl (by rfl) (by rfl) (by rfl) rfl (by rfl) (by rfl) (by rfl) _ _ rfl rfl Mm.gSl_in (fun others X2 hX2 => Mm.app_gvq rfl (.tmp 43) (.tmp 46) 40 rfl 47 rfl (by rfl) i0 _ 16 Try.underlying40 hi hz0 hz1 hz2 rfl (by decide) rfl rfl (fun W => ⟨rfl, HM.out.2, rfl⟩) (by unfold maxLen; omega) (by omega) hX2) ?_
        rintro v ds ⟨A2', n2', c2', f2', rfl, rfl, hn2⟩
        simp only [Act.put, List.setIfInBounds_toArray, List.set_cons_succ, List.set_cons_zero]
        repeat (refine Mm.give_det (by rfl) (by rfl) (by rfl) (fun K hK => ?_); go_big_quiet_op; refine hK _ ?_; clear hK K)
        refine Mm.give_nil ?_
        rintro X3 hX3
        obtain ⟨q0, q1, -, fp', hs4⟩ := HNX.out X3 (ys ++ [tx]) A2' n2' c2' f2' (Mm.sep_eq hX3 rfl)
        have HSR := Lib.hid hs4
        clear hs4 hX3
        clear b0 b1 b2 b3 b4 m0 m1 m2 r0 r1 r2 r3 r4 z0 z1 z2 z3 z4
        have b0 := HSR.out.cell (k := 0) 2 rfl rfl
        have b1 := HSR.out.cell (k := 1) 2 rfl rfl
        have b2 := HSR.out.cell (k := 2) 2 rfl rfl
        have b3 := HSR.out.cell (k := 3) 2 rfl rfl
        have b4 := HSR.out.cell (k := 4) 2 rfl rfl
        have m0 := HSR.out.cell (k := 0) 1 rfl rfl
        have m1 := HSR.out.cell (k := 1) 1 rfl rfl
        have m2 := HSR.out.cell (k := 2) 1 rfl rfl
        have r0 := HSR.out.cell (k := 0) 0 rfl rfl
        have r1 := HSR.out.cell (k := 1) 0 rfl rfl
        have r2 := HSR.out.cell (k := 2) 0 rfl rfl
        have r3 := HSR.out.cell (k := 3) 0 rfl rfl
        have r4 := HSR.out.cell (k := 4) 0 rfl rfl
        have z0 := HSR.out.frz (k := 0) 0 rfl
        have z1 := HSR.out.frz (k := 1) 0 rfl
        have z2 := HSR.out.frz (k := 2) 0 rfl
        have z3 := HSR.out.frz (k := 3) 0 rfl
        have z4 := HSR.out.frz (k := 4) 0 rfl
        go_wp2
        have HSF := Lib.hid (((((HSR.out.setBlk (k := 0) 0 rfl (.slice (some ⟨g0, 0, none⟩) t.Texts.length c0)).setBlk (k := 1) 0 rfl (.slice A1 t.Heard.length c1)).setBlk (k := 2) 0 rfl (.slice A2 t.Line.length c2)).setBlk (k := 3) 0 rfl (.slice A3 t.Log.length c3)).setBlk (k := 4) 0 rfl (.slice A4 t.Next.length c4))
        have q0 := HSF.out.cell (k := 0) 0 rfl rfl
        have q1 := HSF.out.cell (k := 1) 0 rfl rfl
        have q2 := HSF.out.cell (k := 2) 0 rfl rfl
        have q3 := HSF.out.cell (k := 3) 0 rfl rfl
        have q4 := HSF.out.cell (k := 4) 0 rfl rfl
        exact bodyPost_ret (v := .tuple #[.agg #[.slice (some ⟨g0, 0, none⟩) t.Texts.length c0, .slice A1 t.Heard.length c1, .slice A2 t.Line.length c2, .slice A3 t.Log.length c3, .slice A4 t.Next.length c4], .bool true]) (by simp [results, Try.results50, go_sem, q0, q1, q2, q3, q4]) rfl ⟨[.slice (some ⟨g0, 0, none⟩) t.Texts.length c0, .slice A1 t.Heard.length c1, .slice A2 t.Line.length c2, .slice A3 t.Log.length c3, .slice A4 t.Next.length c4], _, by rw [HF.out], by rw [HF.out]; exact (shutv_Tell (x := { t with Texts := t.Texts.set k (ys ++ [tx]) }) HSF.out.tail.tail.tail).left⟩
    · have HF : Hid (Pl.tput t k tx = (t, false)) := if_neg (by omega)
      have f5' : decide ((20 : Int) < (tx.size : Nat)) = true := by simp; omega
      go_enter Try.func50, Try.ntmps50
      go_upto_region 1 with fail
      obtain ⟨gt, hgt⟩ : ∃ gt, w.heap.size = gt := ⟨_, rfl⟩
      obtain ⟨gm, hgm⟩ : ∃ gm, gt + 1 = gm := ⟨_, rfl⟩
      obtain ⟨gr, hgr⟩ : ∃ gr, gm + 1 = gr := ⟨_, rfl⟩
      obtain ⟨W, hW⟩ : ∃ W, ((w.alloc (.cells #[.slice A0 t.Texts.length c0, .slice A1 t.Heard.length c1, .slice A2 t.Line.length c2, .slice A3 t.Log.length c3, .slice A4 t.Next.length c4] 31)).alloc (.cells #[.int .i64 1, .int .i64 k, .string tx] 46)).alloc (.cells #[.slice none 0 0, .slice none 0 0, .slice none 0 0, .slice none 0 0, .slice none 0 0] 31) = W := ⟨_, rfl⟩
      have HS := Lib.hid ((((H0.out.alloc' hgt 31 [.slice A0 t.Texts.length c0, .slice A1 t.Heard.length c1, .slice A2 t.Line.length c2, .slice A3 t.Log.length c3, .slice A4 t.Next.length c4]).alloc' (g := gm) (by rw [Mm.sz1, hgt, hgm]) 46 [.int .i64 1, .int .i64 k, .string tx]).alloc' (g := gr) (by rw [Mm.sz2, hgt]; omega) 31 zTell).atW hW)
      rw [hW, hgt, hgm, hgr]
      clear hW hgt hgm hgr
      have HSR := HS
      have b0 := HSR.out.cell (k := 0) 2 rfl rfl
      have b1 := HSR.out.cell (k := 1) 2 rfl rfl
      have b2 := HSR.out.cell (k := 2) 2 rfl rfl
      have b3 := HSR.out.cell (k := 3) 2 rfl rfl
      have b4 := HSR.out.cell (k := 4) 2 rfl rfl
      have m0 := HSR.out.cell (k := 0) 1 rfl rfl
      have m1 := HSR.out.cell (k := 1) 1 rfl rfl
      have m2 := HSR.out.cell (k := 2) 1 rfl rfl
      have r0 := HSR.out.cell (k := 0) 0 rfl rfl
      have r1 := HSR.out.cell (k := 1) 0 rfl rfl
      have r2 := HSR.out.cell (k := 2) 0 rfl rfl
      have r3 := HSR.out.cell (k := 3) 0 rfl rfl
      have r4 := HSR.out.cell (k := 4) 0 rfl rfl
      have z0 := HSR.out.frz (k := 0) 0 rfl
      have z1 := HSR.out.frz (k := 1) 0 rfl
      have z2 := HSR.out.frz (k := 2) 0 rfl
      have z3 := HSR.out.frz (k := 3) 0 rfl
      have z4 := HSR.out.frz (k := 4) 0 rfl
      go_wp2_with ((go_at_call 57); ((with_reducible refine (l10Who_c _ _ _ _ _ _ _ _ _ _ _ _ _ _ _ _ _).mono ?_)); (rintro e w5 ⟨rfl, hb5⟩); ((have HS5 := Lib.hid (HS.out.step hb5))); (clear hb5); (clear b0 b1 b2 b3 b4 m0 m1 m2 r0 r1 r2 r3 r4 z0 z1 z2 z3 z4); (have b0 := HS5.out.cell (k := 0) 2 rfl rfl); (have b1 := HS5.out.cell (k := 1) 2 rfl rfl); (have b2 := HS5.out.cell (k := 2) 2 rfl rfl); (have b3 := HS5.out.cell (k := 3) 2 rfl rfl); (have b4 := HS5.out.cell (k := 4) 2 rfl rfl); (have m0 := HS5.out.cell (k := 0) 1 rfl rfl); (have m1 := HS5.out.cell (k := 1) 1 rfl rfl); (have m2 := HS5.out.cell (k := 2) 1 rfl rfl); (have r0 := HS5.out.cell (k := 0) 0 rfl rfl); (have r1 := HS5.out.cell (k := 1) 0 rfl rfl); (have r2 := HS5.out.cell (k := 2) 0 rfl rfl); (have r3 := HS5.out.cell (k := 3) 0 rfl rfl); (have r4 := HS5.out.cell (k := 4) 0 rfl rfl); (have z0 := HS5.out.frz (k := 0) 0 rfl); (have z1 := HS5.out.frz (k := 1) 0 rfl); (have z2 := HS5.out.frz (k := 2) 0 rfl); (have z3 := HS5.out.frz (k := 3) 0 rfl); (have z4 := HS5.out.frz (k := 4) 0 rfl))
      have HSR := HS5
      have HSF := Lib.hid (((((HSR.out.setBlk (k := 0) 0 rfl (.slice A0 t.Texts.length c0)).setBlk (k := 1) 0 rfl (.slice A1 t.Heard.length c1)).setBlk (k := 2) 0 rfl (.slice A2 t.Line.length c2)).setBlk (k := 3) 0 rfl (.slice A3 t.Log.length c3)).setBlk (k := 4) 0 rfl (.slice A4 t.Next.length c4))
      have q0 := HSF.out.cell (k := 0) 0 rfl rfl
      have q1 := HSF.out.cell (k := 1) 0 rfl rfl
      have q2 := HSF.out.cell (k := 2) 0 rfl rfl
      have q3 := HSF.out.cell (k := 3) 0 rfl rfl
      have q4 := HSF.out.cell (k := 4) 0 rfl rfl
      exact bodyPost_ret (v := .tuple #[.agg #[.slice A0 t.Texts.length c0, .slice A1 t.Heard.length c1, .slice A2 t.Line.length c2, .slice A3 t.Log.length c3, .slice A4 t.Next.length c4], .bool false]) (by simp [results, Try.results50, go_sem, q0, q1, q2, q3, q4]) rfl ⟨[.slice A0 t.Texts.length c0, .slice A1 t.Heard.length c1, .slice A2 t.Line.length c2, .slice A3 t.Log.length c3, .slice A4 t.Next.length c4], _, by rw [HF.out], by rw [HF.out]; exact (shutv_Tell (x := t) HSF.out.tail.tail.tail).left⟩
  · have HF : Hid (Pl.tput t kk tx = (t, false)) := if_neg (by omega)
    have f1 := Pl.who_no hb
    have HB := Lib.hid hb
    clear hb
    go_enter Try.func50, Try.ntmps50
    go_upto_region 1 with fail
    obtain ⟨gt, hgt⟩ : ∃ gt, w.heap.size = gt := ⟨_, rfl⟩
    obtain ⟨gm, hgm⟩ : ∃ gm, gt + 1 = gm := ⟨_, rfl⟩
    obtain ⟨gr, hgr⟩ : ∃ gr, gm + 1 = gr := ⟨_, rfl⟩
    obtain ⟨W, hW⟩ : ∃ W, ((w.alloc (.cells #[.slice A0 t.Texts.length c0, .slice A1 t.Heard.length c1, .slice A2 t.Line.length c2, .slice A3 t.Log.length c3, .slice A4 t.Next.length c4] 31)).alloc (.cells #[.int .i64 1, .int .i64 kk, .string tx] 46)).alloc (.cells #[.slice none 0 0, .slice none 0 0, .slice none 0 0, .slice none 0 0, .slice none 0 0] 31) = W := ⟨_, rfl⟩
    have HS := Lib.hid ((((H0.out.alloc' hgt 31 [.slice A0 t.Texts.length c0, .slice A1 t.Heard.length c1, .slice A2 t.Line.length c2, .slice A3 t.Log.length c3, .slice A4 t.Next.length c4]).alloc' (g := gm) (by rw [Mm.sz1, hgt, hgm]) 46 [.int .i64 1, .int .i64 kk, .string tx]).alloc' (g := gr) (by rw [Mm.sz2, hgt]; omega) 31 zTell).atW hW)
    rw [hW, hgt, hgm, hgr]
    clear hW hgt hgm hgr
    have HSR := HS
    have b0 := HSR.out.cell (k := 0) 2 rfl rfl
    have b1 := HSR.out.cell (k := 1) 2 rfl rfl
    have b2 := HSR.out.cell (k := 2) 2 rfl rfl
    have b3 := HSR.out.cell (k := 3) 2 rfl rfl
    have b4 := HSR.out.cell (k := 4) 2 rfl rfl
    have m0 := HSR.out.cell (k := 0) 1 rfl rfl
    have m1 := HSR.out.cell (k := 1) 1 rfl rfl
    have m2 := HSR.out.cell (k := 2) 1 rfl rfl
    have r0 := HSR.out.cell (k := 0) 0 rfl rfl
    have r1 := HSR.out.cell (k := 1) 0 rfl rfl
    have r2 := HSR.out.cell (k := 2) 0 rfl rfl
    have r3 := HSR.out.cell (k := 3) 0 rfl rfl
    have r4 := HSR.out.cell (k := 4) 0 rfl rfl
    have z0 := HSR.out.frz (k := 0) 0 rfl
    have z1 := HSR.out.frz (k := 1) 0 rfl
    have z2 := HSR.out.frz (k := 2) 0 rfl
    have z3 := HSR.out.frz (k := 3) 0 rfl
    have z4 := HSR.out.frz (k := 4) 0 rfl
    go_wp2_with ((go_at_call 57); ((with_reducible refine (l10Who_c _ _ _ _ _ _ _ _ _ _ _ _ _ _ _ _ _).mono ?_)); (rintro e w5 ⟨rfl, hb5⟩); ((have HS5 := Lib.hid (HS.out.step hb5))); (clear hb5); (clear b0 b1 b2 b3 b4 m0 m1 m2 r0 r1 r2 r3 r4 z0 z1 z2 z3 z4); (have b0 := HS5.out.cell (k := 0) 2 rfl rfl); (have b1 := HS5.out.cell (k := 1) 2 rfl rfl); (have b2 := HS5.out.cell (k := 2) 2 rfl rfl); (have b3 := HS5.out.cell (k := 3) 2 rfl rfl); (have b4 := HS5.out.cell (k := 4) 2 rfl rfl); (have m0 := HS5.out.cell (k := 0) 1 rfl rfl); (have m1 := HS5.out.cell (k := 1) 1 rfl rfl); (have m2 := HS5.out.cell (k := 2) 1 rfl rfl); (have r0 := HS5.out.cell (k := 0) 0 rfl rfl); (have r1 := HS5.out.cell (k := 1) 0 rfl rfl); (have r2 := HS5.out.cell (k := 2) 0 rfl rfl); (have r3 := HS5.out.cell (k := 3) 0 rfl rfl); (have r4 := HS5.out.cell (k := 4) 0 rfl rfl); (have z0 := HS5.out.frz (k := 0) 0 rfl); (have z1 := HS5.out.frz (k := 1) 0 rfl); (have z2 := HS5.out.frz (k := 2) 0 rfl); (have z3 := HS5.out.frz (k := 3) 0 rfl); (have z4 := HS5.out.frz (k := 4) 0 rfl))
    have HSR := HS5
    have HSF := Lib.hid (((((HSR.out.setBlk (k := 0) 0 rfl (.slice A0 t.Texts.length c0)).setBlk (k := 1) 0 rfl (.slice A1 t.Heard.length c1)).setBlk (k := 2) 0 rfl (.slice A2 t.Line.length c2)).setBlk (k := 3) 0 rfl (.slice A3 t.Log.length c3)).setBlk (k := 4) 0 rfl (.slice A4 t.Next.length c4))
    have q0 := HSF.out.cell (k := 0) 0 rfl rfl
    have q1 := HSF.out.cell (k := 1) 0 rfl rfl
    have q2 := HSF.out.cell (k := 2) 0 rfl rfl
    have q3 := HSF.out.cell (k := 3) 0 rfl rfl
    have q4 := HSF.out.cell (k := 4) 0 rfl rfl
    exact bodyPost_ret (v := .tuple #[.agg #[.slice A0 t.Texts.length c0, .slice A1 t.Heard.length c1, .slice A2 t.Line.length c2, .slice A3 t.Log.length c3, .slice A4 t.Next.length c4], .bool false]) (by simp [results, Try.results50, go_sem, q0, q1, q2, q3, q4]) rfl ⟨[.slice A0 t.Texts.length c0, .slice A1 t.Heard.length c1, .slice A2 t.Line.length c2, .slice A3 t.Log.length c3, .slice A4 t.Next.length c4], _, by rw [HF.out], by rw [HF.out]; exact (shutv_Tell (x := t) HSF.out.tail.tail.tail).left⟩
end Go.Proofs.Ytaepohocabealaa
