/-
  Contracts: Unwrap. No conditions.
-/
import Derived.Test.YtjpmnegpkpimhaaWt
import Derived.Test.YtjpmnegpkpimhaaWc
import Derived.Test.YtjpmnegpkpimhaaPw
import Derived.Deep.LoopGhost
import Derived.Test.YtjpmnegpkpimhaaQt
namespace Go.Proofs.Ytjpmnegpkpimhaa
open Go.RowKit
attribute [local go_sem] und_cell World.cell?_alloc_some
set_option maxRecDepth 100000 in
set_option maxHeartbeats 1000000 in
theorem specUnwrap_c (l : List Sample) (A : Option Addr) (n c : Nat) (w : World) (B : Nat) (hl : Mm.SlAt smp w B l A n c) (hB : B ≤ w.heap.size) :
    Calls Try.prog 18 #[.slice A n c] w (Mm.RetS2 smp 37 w (Pl.unwrap l).1 (Pl.unwrap l).2) := by
  have hlen : Hid (l.length = n) := hl.1
  have HL : Hid (Mm.SlAt smp w B l A n c) := hl
  clear hl
  cases hc : Pl.counterOk l
  · have HF : Hid (Pl.unwrap l = ([], false)) := if_neg (by rw [hc]; simp)
    go_enter Try.func18, Try.ntmps18
    go_wp2_with (go_at_call 31; refine (specCounterOk_c l _ _ _ _ B HL.out hB).mono ?_; rintro e w1 ⟨rfl, hb1⟩)
    rw [HF.out]
    go_ret2
    exact (Mm.Acc.nil hb1).ret
  · have HF : Hid (Pl.unwrap l = (if Pl.samplesOk (Pl.unwrapTo l l.length) = true then (Pl.unwrapTo l l.length, true) else ([], false))) := if_pos hc
    have hn : n ≤ 40 := by have := Pl.counterOk_len hc; have := hlen.out; omega
    have HTm := Lib.hid (Pl.tame_of hc)
    go_enter Try.func18, Try.ntmps18
    go_wp2_with (go_at_call 31; refine (specCounterOk_c l _ _ _ _ B HL.out hB).mono ?_; rintro e w1 ⟨rfl, hb1⟩)
    clear hc
    go_loopg [4, 12] n (fun g o i wr => ∃ k : Nat, n - k ≤ g ∧ k ≤ n ∧ i = .int .i64 k ∧ Mm.Acc smp 37 w (Pl.unwrapTo l k) o wr)
    case atStart => exact ⟨0, Nat.le_refl _, Nat.zero_le _, rfl, Mm.Acc.nil hb1⟩
    case round =>
      obtain ⟨k, hgk, hk, rfl, hacc⟩ := hrel
      have hbel := hacc.bel
      have hln := Pl.unwrapTo_len l k
      obtain ⟨A', n', c', rfl, hn', -, -, -⟩ := hacc.form
      obtain rfl : n' = k := by omega
      by_cases hlt : n' < n
      · have hR := HL.out.keep (w' := wr) (fun b hb => hbel.block b (by omega))
        obtain ⟨x, b, off, hx, rfl, hb, b1, b2, c1, c2⟩ := smp_get hR hlt
        obtain ⟨y, hy, _, _, _, c3, c4⟩ := smp_get' hR (show 0 < n by omega)
        have c5 : wr.cell? ⟨b, off + 1, none⟩ = some (.int .i64 y.Value) := by simpa using c4
        have hyb := HTm.out.at_ hy
        have HRB := Lib.hid (Pl.rise_bd (HTm.out.take (n' + 1)))
        have hrb := HRB.out
        have HU := Lib.hid (Pl.unwrapTo_next hx hy)
        have HX := Lib.hid b1
        have hsw := hbel.size
        have HRd := Lib.hid (hR.take (show n' + 1 ≤ n by omega))
        have HA := Lib.hid hacc
        have HLN := Lib.hid hln
        clear hR hx hy hacc hbel c3 c4 b2 hln hn'
        have hcap : n ≤ c := HL.out.2.1
        have hcm : c ≤ maxLen := HL.out.2.2.1
        unfold maxLen at hcm
        have f1 : (0 : Int) < (n : Int) := by omega
        have f0 : 0 < n := by omega
        have f2 : (n' : Int) < (n : Int) := by omega
        have f3 : (0 : Int) ≤ (n' : Int) + 1 := by omega
        have f4 : (n' : Int) + 1 ≤ (c : Int) := by omega
        have f5 : ((n' : Int) + 1).toNat = n' + 1 := by omega
        have f6 : IntKind.i64.wrap ((n' : Int) + 1) = (n' : Int) + 1 := IntWalk.i64_in _ (by omega)
        have f7 : IntKind.i64.wrap (y.Value + Pl.rise (l.take (n' + 1))) = y.Value + Pl.rise (l.take (n' + 1)) := IntWalk.i64_in _ (by omega)
        have HC := Lib.hid (l16Rise_c (l.take (n' + 1)) (some ⟨b, off, none⟩) (n' + 1) c (wr.alloc (.cells #[.int .i64 x.At, .int .i64 x.Value] 37)).drew B (HRd.out.keep fun b' hb' => Below.heap_alloc wr _ b' (by omega)) (by show B ≤ (wr.alloc _).heap.size; rw [Mm.sz1]; omega) (HTm.out.take _))
        have HB0 := Lib.hid (show Below wr.heap.size wr (wr.alloc (.cells #[.int .i64 x.At, .int .i64 x.Value] 37)).drew from (below_new (Below.refl wr.heap.size wr) _).drew)
        have HROW := Lib.hid HA.out.row
        have hbB : b < w.heap.size := by omega
        have HI := Lib.hid (show Mm.I64 x.At ∧ Mm.I64 (y.Value + Pl.rise (l.take (n' + 1))) from ⟨HX.out, by unfold Mm.I64; omega⟩)
        obtain ⟨i0, hi, hz0, hz1, hz2⟩ := info_parts Try.infoSmp
        go_wp2
        go_region_held3 (fun wx => wx.cell? ⟨wr.heap.size, 0, none⟩ = some (.int .i64 x.At) ∧ wx.cell? ⟨b, off + 1, none⟩ = some (.int .i64 y.Value))
          (first | (go_keep; done) | ((try dsimp only); go_split_ands; refine ⟨?_, ?_⟩ <;> first | (exact below_some hb2 (by assumption)) | (refine hgrow.cell (by assumption) (fun hh => ?_); have hrow := HROW.out _ hh.symm; dsimp only at hrow; omega) | (go_keep; done)))
          (first
            | (go_at_call 35; (with_reducible refine HC.out.mono ?_); rintro e w2 ⟨rfl, hb2⟩)
            | (obtain ⟨l0, ho2, hnext⟩ := HA.out.push (W2 := w2.alloc (.cells #[.int .i64 x.At, .int .i64 (y.Value + Pl.rise (l.take (n' + 1)))] 37)) (x := ⟨x.At, y.Value + Pl.rise (l.take (n' + 1))⟩) (below_new (below_step HB0.out hb2) _) (smp_own_mk HI.out) List.nodup_nil (fun b hb => by cases hb); rw [HLN.out] at ho2 hnext; refine step_append_lies _ (by rfl) _ _ _ (by rfl) 0 37 i0 _ 2 16 Try.underlying23 hi hz0 hz1 hz2 rfl (by omega) _ n' l0 (by rfl) ho2 ⟨w2.heap.size, 0, none⟩ 1 1 [.int .i64 x.At, .int .i64 (y.Value + Pl.rise (l.take (n' + 1)))] (by rfl) (by rfl) (World.news_of_block (B := w2.heap.size) (cs := #[.int .i64 x.At, .int .i64 (y.Value + Pl.rise (l.take (n' + 1)))]) (t := 37) (fr := (0, 0)) (heap_alloc_new w2 _)) (by simp [Value.oneCell']) (by omega) (by unfold maxLen; omega) (by omega) (Nat.zero_le _) _ rfl ?_; intro gg cap w3 hown1 hgrow hat hlt'))
        have HN := Lib.hid (hnext gg cap w3 hown1 hgrow hat)
        clear hnext ho2 hown1 hgrow hat hlt'
        go_wp2
        go_roundg (n - (n' + 1))
        case measure => omega
        case rel => exact ⟨n' + 1, Nat.le_refl _, by omega, by go_num, by rw [HU.out]; exact HN.out⟩
      · have HE : Hid (Pl.unwrapTo l n' = Pl.unwrapTo l l.length) := by show _ = _; rw [hlen.out, show n' = n by omega]
        have HA := Lib.hid hacc
        clear hacc hln hn' hb1
        cases hs : Pl.samplesOk (Pl.unwrapTo l n')
        · have HF2 : Hid (Pl.unwrap l = ([], false)) := by show _ = _; rw [HF.out, ← HE.out, hs]; rfl
          go_wp2_with (go_at_call 39; refine (GoodSamples_c (Pl.unwrapTo l n') _ _ _ _ _ HA.out.at_ (Nat.le_refl _)).mono ?_; rintro e w2 ⟨rfl, hb2⟩)
          rw [HF2.out]
          go_ret2
          exact (Mm.Acc.nil (below_step hbel hb2)).ret
        · have HF2 : Hid (Pl.unwrap l = (Pl.unwrapTo l n', true)) := by show _ = _; rw [HF.out, ← HE.out, hs]; rfl
          go_wp2_with (go_at_call 39; refine (GoodSamples_c (Pl.unwrapTo l n') _ _ _ _ _ HA.out.at_ (Nat.le_refl _)).mono ?_; rintro e w2 ⟨rfl, hb2⟩)
          rw [HF2.out]
          go_ret2
          exact (HA.out.step hb2).ret
set_option maxRecDepth 100000 in
set_option maxHeartbeats 1000000 in
theorem implUnwrap_c (l : List Sample) (A : Option Addr) (n c : Nat) (w : World) (B : Nat) (hl : Mm.SlAt smp w B l A n c) (hB : B ≤ w.heap.size) :
    Calls Try.prog 17 #[.slice A n c] w (Mm.RetS2 smp 37 w (Pl.unwrap l).1 (Pl.unwrap l).2) := by
  have hlen : Hid (l.length = n) := hl.1
  have HL : Hid (Mm.SlAt smp w B l A n c) := hl
  clear hl
  cases hc : Pl.counterOk l
  · have HF : Hid (Pl.unwrap l = ([], false)) := if_neg (by rw [hc]; simp)
    go_enter Try.func17, Try.ntmps17
    go_wp2_with (go_at_call 28; refine (isCounter_c l _ _ _ _ B HL.out hB).mono ?_; rintro e w1 ⟨rfl, hb1⟩)
    rw [HF.out]
    go_ret2
    exact (Mm.Acc.nil hb1).ret
  · have HF : Hid (Pl.unwrap l = (if Pl.samplesOk (Pl.unwrapTo l l.length) = true then (Pl.unwrapTo l l.length, true) else ([], false))) := if_pos hc
    have hn : n ≤ 40 := by have := Pl.counterOk_len hc; have := hlen.out; omega
    have HTm := Lib.hid (Pl.tame_of hc)
    go_enter Try.func17, Try.ntmps17
    go_wp2_with first
      | (go_at_call 28; refine (isCounter_c l _ _ _ _ B HL.out hB).mono ?_; rintro e w1 ⟨rfl, hb1⟩)
      | (go_at_call 37; refine (clSample_c l _ _ _ _ B (HL.out.keep fun b hb' => hb1.block b (by omega)) (by omega)).mono ?_; rintro e w2 ⟨A2, n2, c2, fp2, rfl, ho2, hnd2, hf2, hb2⟩)
    have HAC : Hid (Mm.Acc smp 37 w l (.slice A2 n2 c2) w2) := ⟨fp2, ho2, hnd2, fun b hb' => Nat.le_trans hb1.size (hf2 b hb'), below_step hb1 hb2⟩
    have hn2 : n2 = n := by obtain ⟨A', n', c', hv, h1, _⟩ := ho2.form; injection hv with _ h2 _; have := hlen.out; omega
    subst hn2
    clear ho2 hnd2 hf2 hb2 hc hb1
    go_loopg [13] n2 (fun g i wr => ∃ k : Nat, n2 - k ≤ g ∧ k ≤ n2 ∧ i = .int .i64 k ∧ Mm.Acc smp 37 w (Pl.halfway l k) (.slice A2 n2 c2) wr)
    case atStart => exact ⟨0, Nat.le_refl _, Nat.zero_le _, rfl, by rw [Pl.halfway_zero]; exact HAC.out⟩
    case round =>
      obtain ⟨k, hgk, hk, rfl, hacc⟩ := hrel
      have hbel := hacc.bel
      by_cases hlt : k < n2
      · have hR := HL.out.keep (w' := wr) (fun b hb => hbel.block b (by omega))
        obtain ⟨x, b, off, hx, rfl, hb, b1, b2, c1, c2'⟩ := smp_get hR hlt
        obtain ⟨y, hy, _, _, _, c3, c4⟩ := smp_get' hR (show 0 < n2 by omega)
        have c5 : wr.cell? ⟨b, off + 1, none⟩ = some (.int .i64 y.Value) := by simpa using c4
        have hyb := HTm.out.at_ hy
        have HRB := Lib.hid (Pl.rise_bd (HTm.out.take (k + 1)))
        have hrb := HRB.out
        have HX := Lib.hid b1
        have hhx := Pl.halfway_get hx
        obtain ⟨g, rfl, hg1, hg2⟩ := hacc.addr (by have := (List.getElem?_eq_some_iff.1 hhx).1; omega)
        have d1 : wr.cell? ⟨g, k * 2 + 1, none⟩ = some (.int .i64 x.Value) := by
          obtain ⟨fp, h1, h2, _, _⟩ := hacc
          exact (smp_ocell h1 h2 hhx).2
        have d2 : wr.frozen? ⟨g, k * 2 + 1, none⟩ = false := hacc.frozen _
        have HHX := Lib.hid hhx
        have HU := Lib.hid (Pl.halfway_set hx hy)
        have hsw := hbel.size
        have HRd := Lib.hid (hR.take (show k + 1 ≤ n2 by omega))
        have HA := Lib.hid hacc
        have hcap : n2 ≤ c := HL.out.2.1
        have hcm : c ≤ maxLen := HL.out.2.2.1
        unfold maxLen at hcm
        have hgb : b ≠ g := by omega
        clear hR hx hy hacc hbel c1 c2' c3 c4 b1 b2 hhx
        have f0 : 0 < n2 := by omega
        have f1 : (0 : Int) < (n2 : Int) := by omega
        have f2 : (k : Int) < (n2 : Int) := by omega
        have f2' : (0 : Int) ≤ (k : Int) := by omega
        have f3 : (0 : Int) ≤ (k : Int) + 1 := by omega
        have f4 : (k : Int) + 1 ≤ (c : Int) := by omega
        have f5 : ((k : Int) + 1).toNat = k + 1 := by omega
        have f6 : IntKind.i64.wrap ((k : Int) + 1) = (k : Int) + 1 := IntWalk.i64_in _ (by omega)
        have f7 : IntKind.i64.wrap (y.Value + Pl.rise (l.take (k + 1))) = y.Value + Pl.rise (l.take (k + 1)) := IntWalk.i64_in _ (by omega)
        go_wp2
        refine wp_region_und_tail 14 (by kernel_rfl) (by kernel_rfl) ?_
        simp only [List.take_succ_cons, List.take_zero, List.drop_succ_cons, List.drop_zero]
        repeat (go_big_quiet_step ((first | (go_at_call 30; exact und_call _ (riseOf_c (l.take (k + 1)) (some ⟨b, off, none⟩) (k + 1) c _ B (HRd.out.und (by omega) _) (Nat.le_trans (by omega) (und_size _)) (HTm.out.take _))))))
        refine wpQuiet_nil ?_
        intro X hX
        have HI6 := Lib.hid (show Mm.I64 (y.Value + Pl.rise (l.take (k + 1))) from by unfold Mm.I64; omega)
        have e1 := below_some hX d1
        have e2 := below_fz hX (by rw [d1]; rfl) d2
        have HN := Lib.hid ((HA.out.step hX).put (j := 1) (u := .int .i64 (y.Value + Pl.rise (l.take (k + 1)))) (x' := ⟨x.At, y.Value + Pl.rise (l.take (k + 1))⟩) HHX.out (by show 1 < 2; omega) (fun cs fx ho => by
          obtain ⟨rfl, h1, rfl⟩ := ho
          exact ⟨rfl, ⟨h1.1, HI6.out⟩, rfl⟩))
        clear d1 d2 c5
        go_wp2
        go_roundg (n2 - (k + 1))
        case measure => omega
        case rel => exact ⟨k + 1, Nat.le_refl _, by omega, by go_num, by rw [← HU.out]; exact HN.out⟩
      · have HE : Hid (Pl.halfway l k = Pl.unwrapTo l l.length) := by show _ = _; rw [Pl.halfway_end (by rw [hlen.out]; omega), hlen.out, show k = n2 by omega]
        have HA := Lib.hid hacc
        clear hacc
        rw [HE.out] at HA
        cases hs : Pl.samplesOk (Pl.unwrapTo l l.length)
        · have HF2 : Hid (Pl.unwrap l = ([], false)) := by show _ = _; rw [HF.out, hs]; rfl
          go_wp2_with (go_at_call 38; refine (areSamples_c (Pl.unwrapTo l l.length) _ _ _ _ _ HA.out.at_ (Nat.le_refl _)).mono ?_; rintro e w2 ⟨rfl, hb2⟩)
          rw [HF2.out]
          go_ret2
          exact (Mm.Acc.nil (below_step hbel hb2)).ret
        · have HF2 : Hid (Pl.unwrap l = (Pl.unwrapTo l l.length, true)) := by show _ = _; rw [HF.out, hs]; rfl
          go_wp2_with (go_at_call 38; refine (areSamples_c (Pl.unwrapTo l l.length) _ _ _ _ _ HA.out.at_ (Nat.le_refl _)).mono ?_; rintro e w2 ⟨rfl, hb2⟩)
          rw [HF2.out]
          go_ret2
          exact (HA.out.step hb2).ret
end Go.Proofs.Ytjpmnegpkpimhaa
