/-
  Contracts: the teller's step that puts a text (chapter 10). No conditions.
-/
import Derived.Test.YtaepohocabealaaTs
import Derived.Test.YtaepohocabealaaRa
namespace Go.Proofs.Ytaepohocabealaa
open Go.RowKit
attribute [local go_sem] und_cell cha_cell World.cell?_alloc_some
theorem Try.infoStr : (Try.prog.info? 9).map (fun i => (i.zero, i.size, i.bytes)) = some (some (.string ⟨#[]⟩), 1, 16) := by kernel_rfl
def StepAns (t : Tell) (g : Nat) (fp : List Nat) (w : World) (r : Tell × Bool) (e : Ending) (w' : World) : Prop :=
  e = .returned (.bool r.2) ∧ ∃ fp', Mm.Left (g :: fp) w w' (Mm.tptr rTell 31 g r.1 fp')
set_option maxRecDepth 100000 in
set_option maxHeartbeats 2000000 in
theorem stepPut_c (t : Tell) (kk : Int) (tx : ByteArray) (g : Nat) (fp : List Nat) (w : World) (h : (Mm.tptr rTell 31 g t fp).holds w) (hnd : (g :: fp).Nodup) (hm : Mm.I64 kk ∧ tx.size ≤ maxLen) (hw : Pl.TWf t) :
    Calls Try.prog 49 #[.pointer (some ⟨g, 0, none⟩), .agg #[.int .i64 1, .int .i64 kk, .string tx]] w (StepAns t g fp w (Pl.tput t kk tx)) := by
  obtain ⟨A0, n0, c0, A1, n1, c1, A2, n2, c2, A3, n3, c3, A4, n4, c4, f0, f1, f2, f3, f4, rfl, hs⟩ := open_Tell (Mm.SepF.one _ w h hnd)
  have hln0 : n0 = t.Texts.length := by obtain ⟨A', n', c', hv, h1, _⟩ := (hs.sl 1 rfl).form; injection hv with _ h2 _; omega
  subst hln0
  have HS := Lib.hid (hs.alloc' rfl 46 [.int .i64 1, .int .i64 kk, .string tx])
  have HM := Lib.hid hm
  have h4 := hw.n4
  clear h hs hm hnd
  have d0 := HS.out.cell (k := 0) 1 rfl rfl
  have b0 := HS.out.cell (k := 0) 0 rfl rfl
  have b1 := HS.out.cell (k := 1) 0 rfl rfl
  have b2 := HS.out.cell (k := 2) 0 rfl rfl
  by_cases h0 : kk < 0
  · have HF : Hid (Pl.tput t kk tx = (t, false)) := if_neg (by omega)
    go_enter Try.func49, Try.ntmps49
    go_wp2
    exact bodyPost_ret (v := .bool false) (by simp [results, Try.results49, go_sem]) rfl ⟨by rw [HF.out], _, by rw [HF.out]; exact (shut_Tell HS.out.tail).left⟩
  · obtain ⟨k, rfl⟩ : ∃ k : Nat, kk = k := ⟨kk.toNat, by omega⟩
    by_cases h1 : k < t.Texts.length
    · have hy := List.getElem?_eq_getElem h1
      have ht := Pl.tAt_of (t := t) (k := (k : Int)) (l := t.Texts[k]) (by simp)
      have hy20 := hw.texts k _ hy
      generalize t.Texts[k] = ys at hy ht hy20
      obtain ⟨g0, rfl, -, -⟩ := Mm.sl_addr (HS.out.sl 2 rfl) (by omega)
      obtain ⟨A, m, d, fx, e0, rfl, -⟩ := HS.out.openIn 2 rfl hy
      have hcap : t.Texts.length ≤ c0 ∧ c0 ≤ maxLen := by obtain ⟨A', n', c', hv, h1, h2, h3, _⟩ := (HS.out.sl 2 rfl).form; injection hv with _ h4 h5; omega
      have f1' : ((k : Nat) : Int) < (t.Texts.length : Nat) := by omega
      have f2' : (0 : Int) ≤ (k : Nat) := by omega
      have f3' : ((k : Nat) : Int).toNat = k := by omega
      have f6' : decide (t.Texts.length ≤ k) = false := by simp; omega
      have HT := Lib.hid ht
      have HY := Lib.hid hy
      clear hy ht
      unfold maxLen at hcap
      by_cases h2 : ys.length = 20
      · have HF : Hid (Pl.tput t k tx = (t, false)) := if_neg (by rw [HT.out]; omega)
        have f4' : ((ys.length : Nat) == (20 : Int)) = true := by simp [h2]
        go_enter Try.func49, Try.ntmps49
        go_wp2
        refine wp_region_und (by kernel_rfl) (by kernel_rfl) ?_
        repeat (go_big_quiet_step ((first | fail)))
        refine wpQuiet_nil ?_
        intro X hX
        have HS2 := Lib.hid (HS.out.step hX)
        go_wp2
        exact bodyPost_ret (v := .bool false) (by simp [results, Try.results49, go_sem]) rfl ⟨by rw [HF.out], _, by rw [HF.out]; exact (shut_Tell HS2.out.tail).left⟩
      · have f4' : ((ys.length : Nat) == (20 : Int)) = false := by simp; omega
        by_cases h3 : tx.size ≤ 20
        · have HF : Hid (Pl.tput t k tx = ({ t with Texts := t.Texts.set k (ys ++ [tx]) }, true)) := by
            show _ = _
            unfold Pl.tput
            rw [if_pos (by rw [HT.out]; omega), HT.out]
            rfl
          have f5' : decide ((20 : Int) < (tx.size : Nat)) = false := by simp; omega
          obtain ⟨i0, hi, hz0, hz1, hz2⟩ := info_parts Try.infoStr
          go_enter Try.func49, Try.ntmps49
          go_wp2
          refine wp_region_und (by kernel_rfl) (by kernel_rfl) ?_
          repeat (go_big_quiet_step ((first | fail)))
          refine wpQuiet_nil ?_
          intro X hX
          have HS2 := Lib.hid (HS.out.step hX)
          clear d0 b0 b1 b2 e0
          have d0 := HS2.out.cell (k := 0) 1 rfl rfl
          have b0 := HS2.out.cell (k := 0) 0 rfl rfl
          have b1 := HS2.out.cell (k := 1) 0 rfl rfl
          have b2 := HS2.out.cell (k := 2) 0 rfl rfl
          obtain ⟨A, m, d, fx, e0, rfl, ho, hfx, hgx, hap, -, hnext⟩ := HS2.out.openIn 2 rfl HY.out
          have HNX := Lib.hid hnext
          have HO := Lib.hid ho
          have n0 : g ∉ fx := hap 1 _ (by decide) rfl g (by simp [Mm.tblk])
          have n1 : w.heap.size ∉ fx := hap 0 _ (by decide) rfl _ (by simp [Mm.tblk])
          have HFX := Lib.hid hfx
          clear hnext ho hap hfx
          go_wp2
          refine Mm.wp_region_give 19 (fun i => match i with | 16 => some (Mm.gBs 9 [.string tx]) | 17 => some (Mm.gSl Mm.str 9 (ys ++ [tx])) | _ => none) (fun i => match i with | 17 => [16, 20] | _ => []) (fun i => match i with | 20 => [Mm.tsl Mm.str 9 ys (.slice A ys.length d) fx] | _ => []) (F := fx) (D := fun w' => ∃ x : Cha fx X, w' = cha fx X x) (fun X us h => Mm.sep_cha h) (by kernel_rfl) (by kernel_rfl) (by kernel_rfl) (Mm.sep_eq ((Mm.SepF.one (Mm.tsl Mm.str 9 ys (.slice A ys.length d) fx) X HO.out HFX.out).step (Below.refl _ _).drew) rfl) ?_
          repeat (refine Mm.give_det (by rfl) (by rfl) (by rfl) (fun K hK => ?_); go_big_quiet_op; refine hK _ ?_; clear hK K)
          refine Mm.give_op0 66 (by rfl) rfl (by rfl) (by rfl) (by rfl) (by rfl) Mm.gBs_in (fun others X2 hX2 => ?_) ?_
          · go_wp2
            exact Mm.gvq_bs hX2 rfl rfl rfl
          rintro v ds ⟨gb, rfl, rfl⟩
          simp only [Act.put, List.setIfInBounds_toArray, List.set_cons_succ, List.set_cons_zero]
          refine Mm.give_op2 67 16 20 (by rfl) rfl (by rfl) (by rfl) (by rfl) rfl (by rfl) (by rfl) (by rfl) _ _ rfl rfl Mm.gSl_in (fun others X2 hX2 => Mm.app_gvq rfl (.tmp 63) (.tmp 66) 40 rfl 67 rfl (by rfl) i0 _ 16 Try.underlying40 hi hz0 hz1 hz2 rfl (by decide) rfl rfl (fun W => ⟨rfl, HM.out.2, rfl⟩) (by unfold maxLen; omega) (by omega) hX2) ?_
          rintro v ds ⟨A2, n2, c2, f2, rfl, rfl, hn2⟩
          simp only [Act.put, List.setIfInBounds_toArray, List.set_cons_succ, List.set_cons_zero]
          repeat (refine Mm.give_det (by rfl) (by rfl) (by rfl) (fun K hK => ?_); go_big_quiet_op; refine hK _ ?_; clear hK K)
          refine Mm.give_nil ?_
          rintro X3 hX3
          obtain ⟨q0, q1, -, fp', hs4⟩ := HNX.out X3 (ys ++ [tx]) A2 n2 c2 f2 (Mm.sep_eq hX3 rfl)
          have HS4 := Lib.hid hs4
          clear hs4 hX3
          go_wp2
          exact bodyPost_ret (v := .bool true) (by simp [results, Try.results49, go_sem]) rfl ⟨by rw [HF.out], _, by rw [HF.out]; exact (shut_Tell (x := { t with Texts := t.Texts.set k (ys ++ [tx]) }) HS4.out.tail).left⟩
        · have HF : Hid (Pl.tput t k tx = (t, false)) := if_neg (by omega)
          have f5' : decide ((20 : Int) < (tx.size : Nat)) = true := by simp; omega
          go_enter Try.func49, Try.ntmps49
          go_wp2
          refine wp_region_und (by kernel_rfl) (by kernel_rfl) ?_
          repeat (go_big_quiet_step ((first | fail)))
          refine wpQuiet_nil ?_
          intro X hX
          have HS2 := Lib.hid (HS.out.step hX)
          go_wp2
          exact bodyPost_ret (v := .bool false) (by simp [results, Try.results49, go_sem]) rfl ⟨by rw [HF.out], _, by rw [HF.out]; exact (shut_Tell HS2.out.tail).left⟩
    · have HF : Hid (Pl.tput t k tx = (t, false)) := if_neg (by omega)
      have f1 : ¬ ((k : Nat) : Int) < ((t.Texts.length : Nat) : Int) := by omega
      go_enter Try.func49, Try.ntmps49
      go_wp2
      refine wp_region_und (by kernel_rfl) (by kernel_rfl) ?_
      repeat (go_big_quiet_step ((first | fail)))
      refine wpQuiet_nil ?_
      intro X hX
      have HS2 := Lib.hid (HS.out.step hX)
      go_wp2
      exact bodyPost_ret (v := .bool false) (by simp [results, Try.results49, go_sem]) rfl ⟨by rw [HF.out], _, by rw [HF.out]; exact (shut_Tell HS2.out.tail).left⟩
end Go.Proofs.Ytaepohocabealaa
