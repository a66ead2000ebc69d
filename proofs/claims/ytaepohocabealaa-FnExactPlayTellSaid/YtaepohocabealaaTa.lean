/-
  Contracts: the reference's teller, by value: the step that sends, and the steps that do nothing (chapter 10). No conditions.
-/
import Derived.Test.YtaepohocabealaaTx
namespace Go.Proofs.Ytaepohocabealaa
open Go.RowKit
attribute [local go_sem] und_cell cha_cell World.cell?_alloc_some
set_option maxRecDepth 100000 in
set_option maxHeartbeats 2000000 in
theorem l10StepSend_c (t : Tell) (kk : Int) (cs : List Value) (fp : List Nat) (w : World) (h : (Mm.tow rTell t cs fp).holds w) (hnd : fp.Nodup) (hm : Mm.I64 kk) (hw : Pl.TWf t) :
    Calls Try.prog 50 #[.agg cs.toArray, .agg #[.int .i64 2, .int .i64 kk, .string ⟨#[]⟩]] w (TellAns2 (Pl.tstep t ⟨2, kk, ⟨#[]⟩⟩) fp w) := by
  obtain ⟨A0, c0, A1, c1, A2, c2, A3, c3, A4, c4, f0, f1, f2, f3, f4, rfl, rfl, hs⟩ := openv_Tell (Mm.SepF.one _ w h hnd)
  have H0 := Lib.hid hs
  have HM := Lib.hid hm
  have h4 := hw.n4
  have HW := Lib.hid hw
  clear h hs hnd hm hw
  by_cases hb : 0 ≤ kk ∧ kk < t.Texts.length
  · have HF := Lib.hid (Pl.tstep2 t kk hb.1)
    obtain ⟨k, rfl⟩ : ∃ k : Nat, kk = k := ⟨kk.toNat, by omega⟩
    have h1 : k < t.Texts.length := by omega
    have hhl := HW.out.heard
    have fw := Pl.who_yes h1
    clear hb
    have hy := List.getElem?_eq_getElem h1
    have ht := Pl.tAt_of (t := t) (k := (k : Int)) (l := t.Texts[k]) (by simp)
    have hy20 := HW.out.texts k _ hy
    have hkh : k < t.Heard.length := by omega
    have ha := List.getElem?_eq_getElem hkh
    have hab := HW.out.hd k _ _ ha hy
    have hai := Pl.iAt_of (l := t.Heard) (k := (k : Int)) (a := t.Heard[k]) (by simp)
    generalize t.Texts[k] = ys at hy ht hy20 hab
    generalize t.Heard[k] = a at ha hab hai
    rw [ht, hai] at HF
    obtain ⟨a, rfl⟩ : ∃ n : Nat, a = n := ⟨a.toNat, by omega⟩
    obtain ⟨g0, hA0, -, -⟩ := Mm.sl_addr (H0.out.sl 0 rfl) (by omega)
    obtain ⟨g1, hA1, -, -⟩ := Mm.sl_addr (H0.out.sl 1 rfl) (by omega)
    have hcap : t.Texts.length ≤ c0 ∧ c0 ≤ maxLen := by obtain ⟨A', n', c', hv, h1, h2, h3, _⟩ := (H0.out.sl 0 rfl).form; injection hv with _ h4 h5; omega
    have hcap1 : t.Heard.length ≤ c1 ∧ c1 ≤ maxLen := by obtain ⟨A', n', c', hv, h1, h2, h3, _⟩ := (H0.out.sl 1 rfl).form; injection hv with _ h4 h5; omega
    unfold maxLen at hcap hcap1
    have f1' : ((k : Nat) : Int) < (t.Texts.length : Nat) := by omega
    have f1'' : ((k : Nat) : Int) < (t.Heard.length : Nat) := by omega
    have f2' : (0 : Int) ≤ (k : Nat) := by omega
    have f3' : ((k : Nat) : Int).toNat = k := by omega
    have HT := Lib.hid ht
    have HY := Lib.hid hy
    have HA := Lib.hid ha
    have HAI := Lib.hid hai
    have HA0 := Lib.hid hA0
    have HA1 := Lib.hid hA1
    have HHL := Lib.hid hhl
    clear hy ht ha hai hA0 hA1 hhl
    go_enter Try.func50, Try.ntmps50
    go_upto_region 1 with fail
    obtain ⟨gt, hgt⟩ : ∃ gt, w.heap.size = gt := ⟨_, rfl⟩
    obtain ⟨gm, hgm⟩ : ∃ gm, gt + 1 = gm := ⟨_, rfl⟩
    obtain ⟨gr, hgr⟩ : ∃ gr, gm + 1 = gr := ⟨_, rfl⟩
    obtain ⟨W, hW⟩ : ∃ W, ((w.alloc (.cells #[.slice A0 t.Texts.length c0, .slice A1 t.Heard.length c1, .slice A2 t.Line.length c2, .slice A3 t.Log.length c3, .slice A4 t.Next.length c4] 31)).alloc (.cells #[.int .i64 2, .int .i64 k, .string ⟨#[]⟩] 46)).alloc (.cells #[.slice none 0 0, .slice none 0 0, .slice none 0 0, .slice none 0 0, .slice none 0 0] 31) = W := ⟨_, rfl⟩
    have HS := Lib.hid ((((H0.out.alloc' hgt 31 [.slice A0 t.Texts.length c0, .slice A1 t.Heard.length c1, .slice A2 t.Line.length c2, .slice A3 t.Log.length c3, .slice A4 t.Next.length c4]).alloc' (g := gm) (by rw [Mm.sz1, hgt, hgm]) 46 [.int .i64 2, .int .i64 k, .string ⟨#[]⟩]).alloc' (g := gr) (by rw [Mm.sz2, hgt]; omega) 31 zTell).atW hW)
    rw [hW, hgt, hgm, hgr]
    clear hW hgt hgm hgr
    have HSR := HS
    have b0 := HSR.out.cell (k := 0) 2 rfl rfl
    have b1 := HSR.out.cell (k := 1) 2 rfl rfl
    have b2 := HSR.out.cell (k := 2) 2 rfl rfl
    have b3 := HSR.out.cell (k := 3) 2 rfl rfl
    have b4 := HSR.out.cell (k := 4) 2 rfl rfl
    have m0 := HSR.out.cell (k := 0) 1 rfl rfl
    have m1 := HSR.out.cell (k := 1) 1 rfl rfl
    have m2 := HSR.out.cell (k := 2) 1 rfl rfl
    have r0 := HSR.out.cell (k := 0) 0 rfl rfl
    have r1 := HSR.out.cell (k := 1) 0 rfl rfl
    have r2 := HSR.out.cell (k := 2) 0 rfl rfl
    have r3 := HSR.out.cell (k := 3) 0 rfl rfl
    have r4 := HSR.out.cell (k := 4) 0 rfl rfl
    have z0 := HSR.out.frz (k := 0) 0 rfl
    have z1 := HSR.out.frz (k := 1) 0 rfl
    have z2 := HSR.out.frz (k := 2) 0 rfl
    have z3 := HSR.out.frz (k := 3) 0 rfl
    have z4 := HSR.out.frz (k := 4) 0 rfl
    obtain rfl : A0 = some ⟨g0, 0, none⟩ := HA0.out
    obtain rfl : A1 = some ⟨g1, 0, none⟩ := HA1.out
    obtain ⟨A, m, d, fx, e0, rfl, ho, hfx, -⟩ := HS.out.openIn 3 rfl HY.out
    have e1 := int_ocell (HS.out.sl 4 rfl) (HS.out.ndat (i := 4) rfl) HA.out
    have hcap2 : ys.length ≤ d ∧ d ≤ maxLen := by obtain ⟨A', n', c', hv, h1, h2, h3, _⟩ := ho.form; injection hv with _ h4 h5; omega
    unfold maxLen at hcap2
    have HO := Lib.hid ho
    have HFX := Lib.hid hfx
    clear ho hfx
    by_cases h2 : a = ys.length
    · subst h2
      rw [if_neg (by omega)] at HF
      have f4' : (((ys.length : Nat) : Int) == ((ys.length : Nat) : Int)) = true := by simp
      go_wp2
      refine wp_region_und (by kernel_rfl) (by kernel_rfl) ?_
      repeat (go_big_quiet_step ((first | (go_at_call 57; exact und_call _ (l10Who_c _ _ _ _ _ _ _ _ _ _ _ _ _ _ _ _ _)))))
      refine wpQuiet_nil ?_
      intro X hX
      have HSR := Lib.hid (HS.out.step hX)
      clear b0 b1 b2 b3 b4 m0 m1 m2 r0 r1 r2 r3 r4 z0 z1 z2 z3 z4
      clear e0 e1
      have b0 := HSR.out.cell (k := 0) 2 rfl rfl
      have b1 := HSR.out.cell (k := 1) 2 rfl rfl
      have b2 := HSR.out.cell (k := 2) 2 rfl rfl
      have b3 := HSR.out.cell (k := 3) 2 rfl rfl
      have b4 := HSR.out.cell (k := 4) 2 rfl rfl
      have m0 := HSR.out.cell (k := 0) 1 rfl rfl
      have m1 := HSR.out.cell (k := 1) 1 rfl rfl
      have m2 := HSR.out.cell (k := 2) 1 rfl rfl
      have r0 := HSR.out.cell (k := 0) 0 rfl rfl
      have r1 := HSR.out.cell (k := 1) 0 rfl rfl
      have r2 := HSR.out.cell (k := 2) 0 rfl rfl
      have r3 := HSR.out.cell (k := 3) 0 rfl rfl
      have r4 := HSR.out.cell (k := 4) 0 rfl rfl
      have z0 := HSR.out.frz (k := 0) 0 rfl
      have z1 := HSR.out.frz (k := 1) 0 rfl
      have z2 := HSR.out.frz (k := 2) 0 rfl
      have z3 := HSR.out.frz (k := 3) 0 rfl
      have z4 := HSR.out.frz (k := 4) 0 rfl
      go_wp2
      have HSF := Lib.hid (((((HSR.out.setBlk (k := 0) 0 rfl (.slice (some ⟨g0, 0, none⟩) t.Texts.length c0)).setBlk (k := 1) 0 rfl (.slice (some ⟨g1, 0, none⟩) t.Heard.length c1)).setBlk (k := 2) 0 rfl (.slice A2 t.Line.length c2)).setBlk (k := 3) 0 rfl (.slice A3 t.Log.length c3)).setBlk (k := 4) 0 rfl (.slice A4 t.Next.length c4))
      have q0 := HSF.out.cell (k := 0) 0 rfl rfl
      have q1 := HSF.out.cell (k := 1) 0 rfl rfl
      have q2 := HSF.out.cell (k := 2) 0 rfl rfl
      have q3 := HSF.out.cell (k := 3) 0 rfl rfl
      have q4 := HSF.out.cell (k := 4) 0 rfl rfl
      exact bodyPost_ret (v := .tuple #[.agg #[.slice (some ⟨g0, 0, none⟩) t.Texts.length c0, .slice (some ⟨g1, 0, none⟩) t.Heard.length c1, .slice A2 t.Line.length c2, .slice A3 t.Log.length c3, .slice A4 t.Next.length c4], .bool false]) (by simp [results, Try.results50, go_sem, q0, q1, q2, q3, q4]) rfl ⟨[.slice (some ⟨g0, 0, none⟩) t.Texts.length c0, .slice (some ⟨g1, 0, none⟩) t.Heard.length c1, .slice A2 t.Line.length c2, .slice A3 t.Log.length c3, .slice A4 t.Next.length c4], _, by rw [HF.out], by rw [HF.out]; exact (shutv_Tell (x := t) HSF.out.tail.tail.tail).left⟩
    · rw [if_pos (by omega)] at HF
      have f4' : (((a : Nat) : Int) == ((ys.length : Nat) : Int)) = false := by simp; omega
      have hal : a < ys.length := by omega
      obtain ⟨gi, rfl, -, -⟩ := Mm.sl_addr HO.out (by omega)
      have hx := List.getElem?_eq_getElem hal
      have hd : ys.getD a ByteArray.empty = ys[a] := by rw [List.getD_eq_getElem?_getD, hx]; rfl
      generalize ys[a] = x at hx hd
      have e2 := str_ocell HO.out HFX.out hx
      have hxs : x.size ≤ maxLen := by
        obtain ⟨es, he, -, -⟩ := HO.out
        have := he.2 a _ _ hx (List.getElem?_eq_getElem (show a < es.length by rw [he.1]; exact hal))
        exact this.2.1
      rw [show ((a : Nat) : Int).toNat = a by omega, hd] at HF
      have HD := Lib.hid hd
      have HX := Lib.hid hx
      have HXS := Lib.hid hxs
      clear hd hx hxs
      have f7' : ((a : Nat) : Int) < (ys.length : Nat) := by omega
      have f8' : (0 : Int) ≤ (a : Nat) := by omega
      have f9' : ((a : Nat) : Int).toNat = a := by omega
      go_wp2
      refine wp_region_und (by kernel_rfl) (by kernel_rfl) ?_
      repeat (go_big_quiet_step ((first | (go_at_call 57; exact und_call _ (l10Who_c _ _ _ _ _ _ _ _ _ _ _ _ _ _ _ _ _)))))
      refine wpQuiet_nil ?_
      intro X hX
      have HSR := Lib.hid (HS.out.step hX)
      clear b0 b1 b2 b3 b4 m0 m1 m2 r0 r1 r2 r3 r4 z0 z1 z2 z3 z4
      have b0 := HSR.out.cell (k := 0) 2 rfl rfl
      have b1 := HSR.out.cell (k := 1) 2 rfl rfl
      have b2 := HSR.out.cell (k := 2) 2 rfl rfl
      have b3 := HSR.out.cell (k := 3) 2 rfl rfl
      have b4 := HSR.out.cell (k := 4) 2 rfl rfl
      have m0 := HSR.out.cell (k := 0) 1 rfl rfl
      have m1 := HSR.out.cell (k := 1) 1 rfl rfl
      have m2 := HSR.out.cell (k := 2) 1 rfl rfl
      have r0 := HSR.out.cell (k := 0) 0 rfl rfl
      have r1 := HSR.out.cell (k := 1) 0 rfl rfl
      have r2 := HSR.out.cell (k := 2) 0 rfl rfl
      have r3 := HSR.out.cell (k := 3) 0 rfl rfl
      have r4 := HSR.out.cell (k := 4) 0 rfl rfl
      have z0 := HSR.out.frz (k := 0) 0 rfl
      have z1 := HSR.out.frz (k := 1) 0 rfl
      have z2 := HSR.out.frz (k := 2) 0 rfl
      have z3 := HSR.out.frz (k := 3) 0 rfl
      have z4 := HSR.out.frz (k := 4) 0 rfl
      replace e0 := below_some hX e0
      replace e1 := below_some hX e1
      replace e2 := below_some hX e2
      go_wp2
      refine wp_region_und_tail 15 (by kernel_rfl) (by kernel_rfl) ?_
      simp only [List.take_succ_cons, List.take_zero, List.drop_succ_cons, List.drop_zero]
      repeat (go_big_quiet_step ((first | fail)))
      refine wpQuiet_nil ?_
      intro X hX
      have HC1 := Lib.hid (HSR.out.step hX)
      have HC2 := HC1.out
      have HC3 := Lib.hid (shutv_Tell (x := t) (Mm.sep_eq (us := [Mm.tsl strs 40 t.Texts (.slice (some ⟨g0, 0, none⟩) t.Texts.length c0) f0, Mm.tsl Mm.int 3 t.Heard (.slice (some ⟨g1, 0, none⟩) t.Heard.length c1) f1, Mm.tsl rNote 94 t.Line (.slice A2 t.Line.length c2) f2, Mm.tsl rTold 52 t.Log (.slice A3 t.Log.length c3) f3, Mm.tsl Mm.int 3 t.Next (.slice A4 t.Next.length c4) f4, Mm.tblk gr 31 zTell, Mm.tblk gm 46 [.int .i64 2, .int .i64 k, .string ⟨#[]⟩], Mm.tblk gt 31 [.slice (some ⟨g0, 0, none⟩) t.Texts.length c0, .slice (some ⟨g1, 0, none⟩) t.Heard.length c1, .slice A2 t.Line.length c2, .slice A3 t.Log.length c3, .slice A4 t.Next.length c4]]) HC2.rot3 rfl))
      clear HC2
      have CW := l10Write_c t ⟨false, ⟨k, a, x⟩⟩ _ _ X (HC3.out.at_ 0 rfl) (HC3.out.ndat (i := 0) rfl) ⟨HM.out, by show Mm.I64 ((a : Nat) : Int); unfold Mm.I64; omega, HXS.out⟩
      clear b0 b1 b2 b3 b4 m0 m1 m2 r0 r1 r2 r3 r4 z0 z1 z2 z3 z4
      go_wp2_with (go_at_call 92; refine CW.mono ?_; (rintro e w9 ⟨cs9, fp9, rfl, hL⟩); (obtain ⟨A10, c10, A11, c11, A12, c12, A13, c13, A14, c14, f10, f11, f12, f13, f14, rfl, rfl, hs9⟩ := openv_Tell (HC3.out.call 0 rfl hL)); ((have HSR := Lib.hid hs9)); (clear hL hs9 CW); (have r0 := HSR.out.cell (k := 0) 5 rfl rfl); (have r1 := HSR.out.cell (k := 1) 5 rfl rfl); (have r2 := HSR.out.cell (k := 2) 5 rfl rfl); (have r3 := HSR.out.cell (k := 3) 5 rfl rfl); (have r4 := HSR.out.cell (k := 4) 5 rfl rfl); (have z0 := HSR.out.frz (k := 0) 5 rfl); (have z1 := HSR.out.frz (k := 1) 5 rfl); (have z2 := HSR.out.frz (k := 2) 5 rfl); (have z3 := HSR.out.frz (k := 3) 5 rfl); (have z4 := HSR.out.frz (k := 4) 5 rfl))
      obtain ⟨z, hz⟩ : ∃ z, Pl.tsend t ⟨false, ⟨k, a, x⟩⟩ = z := ⟨_, rfl⟩
      rw [hz] at HSR HF ⊢
      have HSF := Lib.hid (((((HSR.out.setBlk (k := 0) 5 rfl (.slice A10 z.Texts.length c10)).setBlk (k := 1) 5 rfl (.slice A11 z.Heard.length c11)).setBlk (k := 2) 5 rfl (.slice A12 z.Line.length c12)).setBlk (k := 3) 5 rfl (.slice A13 z.Log.length c13)).setBlk (k := 4) 5 rfl (.slice A14 z.Next.length c14))
      have q0 := HSF.out.cell (k := 0) 5 rfl rfl
      have q1 := HSF.out.cell (k := 1) 5 rfl rfl
      have q2 := HSF.out.cell (k := 2) 5 rfl rfl
      have q3 := HSF.out.cell (k := 3) 5 rfl rfl
      have q4 := HSF.out.cell (k := 4) 5 rfl rfl
      exact bodyPost_ret (v := .tuple #[.agg #[.slice A10 z.Texts.length c10, .slice A11 z.Heard.length c11, .slice A12 z.Line.length c12, .slice A13 z.Log.length c13, .slice A14 z.Next.length c14], .bool true]) (by simp [results, Try.results50, go_sem, q0, q1, q2, q3, q4]) rfl ⟨[.slice A10 z.Texts.length c10, .slice A11 z.Heard.length c11, .slice A12 z.Line.length c12, .slice A13 z.Log.length c13, .slice A14 z.Next.length c14], _, by rw [HF.out], by rw [HF.out]; exact (shutv_Tell (x := z) HSF.out).head.left⟩
  · have HF : Hid (Pl.tstep t ⟨2, kk, ⟨#[]⟩⟩ = (t, false)) := by
      show _ = _
      by_cases h0 : 0 ≤ kk
      · rw [Pl.tstep2 t kk h0, if_neg (by omega)]
      · unfold Pl.tstep
        rw [if_neg (show ¬ (2 : Int) = 1 by omega), if_pos (.inr (by show kk < 0; omega))]
    have fw := Pl.who_no hb
    have HB := Lib.hid hb
    clear hb
    go_enter Try.func50, Try.ntmps50
    go_upto_region 1 with fail
    obtain ⟨gt, hgt⟩ : ∃ gt, w.heap.size = gt := ⟨_, rfl⟩
    obtain ⟨gm, hgm⟩ : ∃ gm, gt + 1 = gm := ⟨_, rfl⟩
    obtain ⟨gr, hgr⟩ : ∃ gr, gm + 1 = gr := ⟨_, rfl⟩
    obtain ⟨W, hW⟩ : ∃ W, ((w.alloc (.cells #[.slice A0 t.Texts.length c0, .slice A1 t.Heard.length c1, .slice A2 t.Line.length c2, .slice A3 t.Log.length c3, .slice A4 t.Next.length c4] 31)).alloc (.cells #[.int .i64 2, .int .i64 kk, .string ⟨#[]⟩] 46)).alloc (.cells #[.slice none 0 0, .slice none 0 0, .slice none 0 0, .slice none 0 0, .slice none 0 0] 31) = W := ⟨_, rfl⟩
    have HS := Lib.hid ((((H0.out.alloc' hgt 31 [.slice A0 t.Texts.length c0, .slice A1 t.Heard.length c1, .slice A2 t.Line.length c2, .slice A3 t.Log.length c3, .slice A4 t.Next.length c4]).alloc' (g := gm) (by rw [Mm.sz1, hgt, hgm]) 46 [.int .i64 2, .int .i64 kk, .string ⟨#[]⟩]).alloc' (g := gr) (by rw [Mm.sz2, hgt]; omega) 31 zTell).atW hW)
    rw [hW, hgt, hgm, hgr]
    clear hW hgt hgm hgr
    have HSR := HS
    have b0 := HSR.out.cell (k := 0) 2 rfl rfl
    have b1 := HSR.out.cell (k := 1) 2 rfl rfl
    have b2 := HSR.out.cell (k := 2) 2 rfl rfl
    have b3 := HSR.out.cell (k := 3) 2 rfl rfl
    have b4 := HSR.out.cell (k := 4) 2 rfl rfl
    have m0 := HSR.out.cell (k := 0) 1 rfl rfl
    have m1 := HSR.out.cell (k := 1) 1 rfl rfl
    have m2 := HSR.out.cell (k := 2) 1 rfl rfl
    have r0 := HSR.out.cell (k := 0) 0 rfl rfl
    have r1 := HSR.out.cell (k := 1) 0 rfl rfl
    have r2 := HSR.out.cell (k := 2) 0 rfl rfl
    have r3 := HSR.out.cell (k := 3) 0 rfl rfl
    have r4 := HSR.out.cell (k := 4) 0 rfl rfl
    have z0 := HSR.out.frz (k := 0) 0 rfl
    have z1 := HSR.out.frz (k := 1) 0 rfl
    have z2 := HSR.out.frz (k := 2) 0 rfl
    have z3 := HSR.out.frz (k := 3) 0 rfl
    have z4 := HSR.out.frz (k := 4) 0 rfl
    go_wp2
    refine wp_region_und (by kernel_rfl) (by kernel_rfl) ?_
    repeat (go_big_quiet_step ((first | (go_at_call 57; exact und_call _ (l10Who_c _ _ _ _ _ _ _ _ _ _ _ _ _ _ _ _ _)))))
    refine wpQuiet_nil ?_
    intro X hX
    have HSR := Lib.hid (HS.out.step hX)
    clear b0 b1 b2 b3 b4 m0 m1 m2 r0 r1 r2 r3 r4 z0 z1 z2 z3 z4
    have b0 := HSR.out.cell (k := 0) 2 rfl rfl
    have b1 := HSR.out.cell (k := 1) 2 rfl rfl
    have b2 := HSR.out.cell (k := 2) 2 rfl rfl
    have b3 := HSR.out.cell (k := 3) 2 rfl rfl
    have b4 := HSR.out.cell (k := 4) 2 rfl rfl
    have m0 := HSR.out.cell (k := 0) 1 rfl rfl
    have m1 := HSR.out.cell (k := 1) 1 rfl rfl
    have m2 := HSR.out.cell (k := 2) 1 rfl rfl
    have r0 := HSR.out.cell (k := 0) 0 rfl rfl
    have r1 := HSR.out.cell (k := 1) 0 rfl rfl
    have r2 := HSR.out.cell (k := 2) 0 rfl rfl
    have r3 := HSR.out.cell (k := 3) 0 rfl rfl
    have r4 := HSR.out.cell (k := 4) 0 rfl rfl
    have z0 := HSR.out.frz (k := 0) 0 rfl
    have z1 := HSR.out.frz (k := 1) 0 rfl
    have z2 := HSR.out.frz (k := 2) 0 rfl
    have z3 := HSR.out.frz (k := 3) 0 rfl
    have z4 := HSR.out.frz (k := 4) 0 rfl
    go_wp2
    have HSF := Lib.hid (((((HSR.out.setBlk (k := 0) 0 rfl (.slice A0 t.Texts.length c0)).setBlk (k := 1) 0 rfl (.slice A1 t.Heard.length c1)).setBlk (k := 2) 0 rfl (.slice A2 t.Line.length c2)).setBlk (k := 3) 0 rfl (.slice A3 t.Log.length c3)).setBlk (k := 4) 0 rfl (.slice A4 t.Next.length c4))
    have q0 := HSF.out.cell (k := 0) 0 rfl rfl
    have q1 := HSF.out.cell (k := 1) 0 rfl rfl
    have q2 := HSF.out.cell (k := 2) 0 rfl rfl
    have q3 := HSF.out.cell (k := 3) 0 rfl rfl
    have q4 := HSF.out.cell (k := 4) 0 rfl rfl
    exact bodyPost_ret (v := .tuple #[.agg #[.slice A0 t.Texts.length c0, .slice A1 t.Heard.length c1, .slice A2 t.Line.length c2, .slice A3 t.Log.length c3, .slice A4 t.Next.length c4], .bool false]) (by simp [results, Try.results50, go_sem, q0, q1, q2, q3, q4]) rfl ⟨[.slice A0 t.Texts.length c0, .slice A1 t.Heard.length c1, .slice A2 t.Line.length c2, .slice A3 t.Log.length c3, .slice A4 t.Next.length c4], _, by rw [HF.out], by rw [HF.out]; exact (shutv_Tell (x := t) HSF.out.tail.tail.tail).left⟩
end Go.Proofs.Ytaepohocabealaa
