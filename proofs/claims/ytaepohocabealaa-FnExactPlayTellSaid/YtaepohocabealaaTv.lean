/-
  Contracts: the teller's step that sends (chapter 10). No conditions.
-/
import Derived.Test.YtaepohocabealaaTt
namespace Go.Proofs.Ytaepohocabealaa
open Go.RowKit
attribute [local go_sem] und_cell cha_cell World.cell?_alloc_some
theorem Pl.tstep2 (t : Tell) (kk : Int) (h0 : 0 ≤ kk) : Pl.tstep t ⟨2, kk, ⟨#[]⟩⟩ = if kk < t.Texts.length ∧ Pl.iAt t.Heard kk ≠ (Pl.tAt t kk).length then (Pl.tsend t ⟨false, ⟨kk, Pl.iAt t.Heard kk, (Pl.tAt t kk).getD (Pl.iAt t.Heard kk).toNat ByteArray.empty⟩⟩, true) else (t, false) := by
  unfold Pl.tstep
  rw [if_neg (show ¬ (2 : Int) = 1 by omega), if_neg (show ¬ ((⟨#[]⟩ : ByteArray).size ≠ 0 ∨ kk < 0) by simp [ByteArray.size]; omega), if_pos rfl]
set_option maxRecDepth 100000 in
set_option maxHeartbeats 2000000 in
theorem stepSend_c (t : Tell) (kk : Int) (g : Nat) (fp : List Nat) (w : World) (h : (Mm.tptr rTell 31 g t fp).holds w) (hnd : (g :: fp).Nodup) (hm : Mm.I64 kk) (h0 : 0 ≤ kk) (hw : Pl.TWf t) :
    Calls Try.prog 49 #[.pointer (some ⟨g, 0, none⟩), .agg #[.int .i64 2, .int .i64 kk, .string ⟨#[]⟩]] w (StepAns t g fp w (Pl.tstep t ⟨2, kk, ⟨#[]⟩⟩)) := by
  have HF := Lib.hid (Pl.tstep2 t kk h0)
  obtain ⟨A0, n0, c0, A1, n1, c1, A2, n2, c2, A3, n3, c3, A4, n4, c4, f0, f1, f2, f3, f4, rfl, hs⟩ := open_Tell (Mm.SepF.one _ w h hnd)
  have hln0 : n0 = t.Texts.length := by obtain ⟨A', n', c', hv, h1, _⟩ := (hs.sl 1 rfl).form; injection hv with _ h2 _; omega
  have hln1 : n1 = t.Heard.length := by obtain ⟨A', n', c', hv, h1, _⟩ := (hs.sl 2 rfl).form; injection hv with _ h2 _; omega
  subst hln0 hln1
  have HS := Lib.hid (hs.alloc' rfl 46 [.int .i64 2, .int .i64 kk, .string ⟨#[]⟩])
  have HM := Lib.hid hm
  have h4 := hw.n4
  have hhl := hw.heard
  clear h hs hm hnd
  have d0 := HS.out.cell (k := 0) 1 rfl rfl
  have d1 := HS.out.cell (k := 1) 1 rfl rfl
  have b0 := HS.out.cell (k := 0) 0 rfl rfl
  have b1 := HS.out.cell (k := 1) 0 rfl rfl
  have b2 := HS.out.cell (k := 2) 0 rfl rfl
  obtain ⟨k, rfl⟩ : ∃ k : Nat, kk = k := ⟨kk.toNat, by omega⟩
  by_cases h1 : k < t.Texts.length
  · have hy := List.getElem?_eq_getElem h1
    have ht := Pl.tAt_of (t := t) (k := (k : Int)) (l := t.Texts[k]) (by simp)
    have hy20 := hw.texts k _ hy
    have hkh : k < t.Heard.length := by omega
    have ha := List.getElem?_eq_getElem hkh
    have hab := hw.hd k _ _ ha hy
    have hai := Pl.iAt_of (l := t.Heard) (k := (k : Int)) (a := t.Heard[k]) (by simp)
    generalize t.Texts[k] = ys at hy ht hy20 hab
    generalize t.Heard[k] = a at ha hab hai
    rw [ht, hai] at HF
    obtain ⟨a, rfl⟩ : ∃ n : Nat, a = n := ⟨a.toNat, by omega⟩
    obtain ⟨g0, rfl, -, -⟩ := Mm.sl_addr (HS.out.sl 2 rfl) (by omega)
    obtain ⟨g1, rfl, -, -⟩ := Mm.sl_addr (HS.out.sl 3 rfl) (by omega)
    obtain ⟨A, m, d, fx, e0, rfl, ho, hfx, -⟩ := HS.out.openIn 2 rfl hy
    have e1 := int_ocell (HS.out.sl 3 rfl) (HS.out.ndat (i := 3) rfl) ha
    have hcap : t.Texts.length ≤ c0 ∧ c0 ≤ maxLen := by obtain ⟨A', n', c', hv, h1, h2, h3, _⟩ := (HS.out.sl 2 rfl).form; injection hv with _ h4 h5; omega
    have hcap1 : t.Heard.length ≤ c1 ∧ c1 ≤ maxLen := by obtain ⟨A', n', c', hv, h1, h2, h3, _⟩ := (HS.out.sl 3 rfl).form; injection hv with _ h4 h5; omega
    have hcap2 : ys.length ≤ d ∧ d ≤ maxLen := by obtain ⟨A', n', c', hv, h1, h2, h3, _⟩ := ho.form; injection hv with _ h4 h5; omega
    have f1' : ((k : Nat) : Int) < (t.Texts.length : Nat) := by omega
    have f1'' : ((k : Nat) : Int) < (t.Heard.length : Nat) := by omega
    have f2' : (0 : Int) ≤ (k : Nat) := by omega
    have f3' : ((k : Nat) : Int).toNat = k := by omega
    have f6' : decide (t.Texts.length ≤ k) = false := by simp; omega
    have HT := Lib.hid ht
    have HY := Lib.hid hy
    have HA := Lib.hid ha
    have HAI := Lib.hid hai
    have HO := Lib.hid ho
    have HFX := Lib.hid hfx
    have HW := Lib.hid hw
    clear hy ht ha hai ho hfx hw
    unfold maxLen at hcap hcap1 hcap2
    by_cases h2 : a = ys.length
    · subst h2
      rw [if_neg (by omega)] at HF
      have f4' : (((ys.length : Nat) : Int) == ((ys.length : Nat) : Int)) = true := by simp
      go_enter Try.func49, Try.ntmps49
      go_wp2
      refine wp_region_und (by kernel_rfl) (by kernel_rfl) ?_
      repeat (go_big_quiet_step ((first | fail)))
      refine wpQuiet_nil ?_
      intro X hX
      have HSX := Lib.hid (HS.out.step hX)
      go_wp2
      exact bodyPost_ret (v := .bool false) (by simp [results, Try.results49, go_sem]) rfl ⟨by rw [HF.out], _, by rw [HF.out]; exact (shut_Tell HSX.out.tail).left⟩
    · rw [if_pos (by omega)] at HF
      have f4' : (((a : Nat) : Int) == ((ys.length : Nat) : Int)) = false := by simp; omega
      have hal : a < ys.length := by omega
      obtain ⟨gi, rfl, -, -⟩ := Mm.sl_addr HO.out (by omega)
      have hx := List.getElem?_eq_getElem hal
      have hd : ys.getD a ByteArray.empty = ys[a] := by rw [List.getD_eq_getElem?_getD, hx]; rfl
      generalize ys[a] = x at hx hd
      have e2 := str_ocell HO.out HFX.out hx
      have hxs : x.size ≤ maxLen := by
        obtain ⟨es, he, -, -⟩ := HO.out
        have := he.2 a _ _ hx (List.getElem?_eq_getElem (show a < es.length by rw [he.1]; exact hal))
        exact this.2.1
      rw [show ((a : Nat) : Int).toNat = a by omega, hd] at HF
      have HD := Lib.hid hd
      have HX := Lib.hid hx
      have HXS := Lib.hid hxs
      clear hd hx hxs
      have f7' : ((a : Nat) : Int) < (ys.length : Nat) := by omega
      have f8' : (0 : Int) ≤ (a : Nat) := by omega
      have f9' : ((a : Nat) : Int).toNat = a := by omega
      go_enter Try.func49, Try.ntmps49
      go_wp2
      refine wp_region_und (by kernel_rfl) (by kernel_rfl) ?_
      repeat (go_big_quiet_step ((first | fail)))
      refine wpQuiet_nil ?_
      intro X hX
      have HS2 := Lib.hid (HS.out.step hX)
      replace d0 := below_some hX d0
      replace d1 := below_some hX d1
      replace b0 := below_some hX b0
      replace b1 := below_some hX b1
      replace b2 := below_some hX b2
      replace e0 := below_some hX e0
      replace e1 := below_some hX e1
      replace e2 := below_some hX e2
      go_wp2
      refine wp_region_und (by kernel_rfl) (by kernel_rfl) ?_
      repeat (go_big_quiet_step ((first | fail)))
      refine wpQuiet_nil ?_
      intro X hX
      have HS3 := Lib.hid (HS2.out.step hX)
      replace d0 := below_some hX d0
      replace d1 := below_some hX d1
      replace b0 := below_some hX b0
      replace b1 := below_some hX b1
      replace b2 := below_some hX b2
      replace e0 := below_some hX e0
      replace e1 := below_some hX e1
      replace e2 := below_some hX e2
      go_wp2
      refine wp_region_und_tail 17 (by kernel_rfl) (by kernel_rfl) ?_
      simp only [List.take_succ_cons, List.take_zero, List.drop_succ_cons, List.drop_zero]
      repeat (go_big_quiet_step ((first | fail)))
      refine wpQuiet_nil ?_
      intro X hX
      have HS4 := Lib.hid (HS3.out.step hX)
      have HS5 := Lib.hid (shut_Tell HS4.out.tail)
      have CS := send_c t ⟨false, ⟨k, a, x⟩⟩ g _ _ (HS5.out.at_ 0 rfl) (HS5.out.ndat (i := 0) rfl) ⟨HM.out, by show Mm.I64 ((a : Nat) : Int); unfold Mm.I64; omega, HXS.out⟩
      go_wp2_with (go_at_call 89; refine CS.mono ?_; rintro e w9 ⟨rfl, fp9, hL⟩; (have HC4 := Lib.hid (HS5.out.call 0 rfl hL)); clear hL)
      exact bodyPost_ret (v := .bool true) (by simp [results, Try.results49, go_sem]) rfl ⟨by rw [HF.out], _, by rw [HF.out]; exact HC4.out.left⟩
  · rw [if_neg (by omega)] at HF
    have f1 : ¬ ((k : Nat) : Int) < ((t.Texts.length : Nat) : Int) := by omega
    go_enter Try.func49, Try.ntmps49
    go_wp2
    refine wp_region_und (by kernel_rfl) (by kernel_rfl) ?_
    repeat (go_big_quiet_step ((first | fail)))
    refine wpQuiet_nil ?_
    intro X hX
    have HSX := Lib.hid (HS.out.step hX)
    go_wp2
    exact bodyPost_ret (v := .bool false) (by simp [results, Try.results49, go_sem]) rfl ⟨by rw [HF.out], _, by rw [HF.out]; exact (shut_Tell HSX.out.tail).left⟩
end Go.Proofs.Ytaepohocabealaa
