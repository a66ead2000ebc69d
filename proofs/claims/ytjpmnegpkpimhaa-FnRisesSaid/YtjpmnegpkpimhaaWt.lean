/-
  Contracts: ThinOut. No conditions.
-/
import Derived.Test.YtjpmnegpkpimhaaWv
import Derived.Test.YtjpmnegpkpimhaaAc
import Derived.Deep.RegionLaw
namespace Go.Proofs.Ytjpmnegpkpimhaa
open Go.RowKit
attribute [local go_sem] und_cell World.cell?_alloc_some
theorem Try.infoSmp : (Try.prog.info? 37).map (fun i => (i.zero, i.size, i.bytes)) = some (some (.agg #[.int .i64 0, .int .i64 0]), 2, 16) := by kernel_rfl
set_option maxHeartbeats 1000000 in
theorem implThinOut_c (l : List Sample) (A : Option Addr) (n c : Nat) (w : World) (B : Nat) (hl : Mm.SlAt smp w B l A n c) (hB : B ≤ w.heap.size) :
    Calls Try.prog 19 #[.slice A n c] w (Mm.RetS2 smp 37 w (Pl.thinOut l).1 (Pl.thinOut l).2) := by
  have hlen : Hid (l.length = n) := hl.1
  have HL : Hid (Mm.SlAt smp w B l A n c) := hl
  clear hl
  cases hc : Pl.counterOk l
  · have HF : Hid (Pl.thinOut l = ([], false)) := if_neg (by rw [hc]; simp)
    go_enter Try.func19, Try.ntmps19
    go_wp2_with (go_at_call 28; refine (isCounter_c l _ _ _ _ B HL.out hB).mono ?_; rintro e w1 ⟨rfl, hb1⟩)
    rw [HF.out]
    go_ret2
    exact (Mm.Acc.nil hb1).ret
  · have HF : Hid (Pl.thinOut l = (Pl.thinTo l l.length, true)) := if_pos hc
    have hn : n ≤ 40 := by have := Pl.counterOk_len hc; have := hlen.out; omega
    rw [HF.out]
    go_enter Try.func19, Try.ntmps19
    go_wp2_with (go_at_call 28; refine (isCounter_c l _ _ _ _ B HL.out hB).mono ?_; rintro e w1 ⟨rfl, hb1⟩)
    go_loopw [4, 5, 6, 12] (fun o _ _ i wr => ∃ k : Nat, k ≤ n ∧ i = .int .i64 k ∧ Mm.Acc smp 37 w (Pl.thinTo l k) o wr) (fun _ _ _ i _ => n - (intOf i).toNat)
    case atStart => exact ⟨0, Nat.zero_le _, rfl, Mm.Acc.nil hb1⟩
    case round =>
      obtain ⟨k, hk, rfl, hacc⟩ := hrel
      rename_i wr _
      have hbel := hacc.bel
      have hln := Pl.thinTo_len l k
      by_cases hlt : k < n
      · have hR := HL.out.keep (w' := wr) (fun b hb => hbel.block b (by omega))
        obtain ⟨x, b, off, hx, rfl, hb, b1, b2, c1, c2⟩ := smp_get hR hlt
        have hbw : b < wr.heap.size := by have := hbel.size; omega
        have HI := Lib.hid (show Mm.I64 x.At ∧ Mm.I64 x.Value from ⟨b1, b2⟩)
        have HA := Lib.hid hacc
        by_cases h0 : k = 0
        · have hdr : Pl.dropB l k = false := by subst h0; rfl
          have HN := Lib.hid (Pl.thinTo_no hdr hx)
          have hd0 : decide (0 < k) = false := by subst h0; rfl
          clear hR hx b1 b2 hacc hbel h0
          go_wp2
          refine wp_region_und (by kernel_rfl) (by kernel_rfl) ?_
          repeat (go_big_quiet_step ((first | (go_at_call 36; fail))))
          refine wpQuiet_nil ?_
          intro X hX
          have hsz := hX.size
          have KX := (Mm.Blk.new wr 37 [.int .i64 x.At, .int .i64 x.Value]).bel hX
          have d0 := KX.cell (i := 0) rfl
          have d1 := KX.cell (i := 1) rfl
          obtain ⟨i0, hi, hz0, hz1, hz2⟩ := info_parts Try.infoSmp
          obtain ⟨l0, ho2, hnext⟩ := HA.out.push (W2 := X.alloc (.cells #[.int .i64 x.At, .int .i64 x.Value] 37)) (x := x) (below_new (below_step (below_new (Below.refl _ _) _) hX) _) (smp_own_mk HI.out) List.nodup_nil (fun b hb => by cases hb)
          obtain ⟨m, hm⟩ : ∃ m, (Pl.thinTo l k).length = m := ⟨_, rfl⟩
          rw [hm] at ho2 hnext hln
          have HNX := Lib.hid hnext
          have hnews := Lib.hid (World.news_of_block (B := X.heap.size) (cs := #[.int .i64 x.At, .int .i64 x.Value]) (t := 37) (fr := (0, 0)) (w := X.alloc (.cells #[.int .i64 x.At, .int .i64 x.Value] 37)) (heap_alloc_new X _))
          clear hnext hm
          go_wp2_with (at_builtin; refine wpList_append_lies _ (by rfl) _ _ _ (by rfl) 0 37 i0 _ 2 16 Try.underlying23 hi hz0 hz1 hz2 rfl (by omega) _ m l0 (by rfl) ho2 ⟨X.heap.size, 0, none⟩ 1 1 [.int .i64 x.At, .int .i64 x.Value] (by rfl) (by rfl) hnews.out (by simp [Value.oneCell']) (by omega) (by unfold maxLen; omega) (by omega) (Nat.zero_le _) _ rfl ?_; intro gg cap w2 hown1 hgrow hat hlt')
          go_roundw
          case rel => exact ⟨k + 1, by omega, by go_num, by rw [HN.out]; exact HNX.out gg cap w2 hown1 hgrow hat⟩
          case measure => simp [intOf]; omega
        have hk0 : 0 < k := by omega
        obtain ⟨y, hy, _, _, _, _, c4⟩ := smp_get' hR (show k - 1 < n by omega)
        have hsw := hbel.size
        have hR' := Lib.hid (hR.keep (w' := wr.alloc (.cells #[.int .i64 x.At, .int .i64 x.Value] 37)) fun b hb => (below_new (Below.refl wr.heap.size wr) _).block b (by omega))
        have hBw : B ≤ (wr.alloc (.cells #[.int .i64 x.At, .int .i64 x.Value] 37)).heap.size := by rw [Mm.sz1]; omega
        by_cases hl1 : k + 1 < n
        · obtain ⟨z, hz, _, _, _, _, c6⟩ := smp_get' hR hl1
          have hg1 : decide ((k : Int) + 1 < (n : Int)) = true := by simp; omega
          have hg2 : decide (k + 1 < n) = true := by simp; omega
          have hg3 : decide (0 < k) = true := by simp; omega
          cases hr1 : Pl.resetB l k
          · cases hr2 : Pl.resetB l (k + 1)
            · have hyx : y.Value ≤ x.Value := by rw [Pl.resetB_eq hx hy hk0] at hr1; simpa using hr1
              have hxz : x.Value ≤ z.Value := by rw [Pl.resetB_eq hz hx (by omega)] at hr2; simpa using hr2
              have hdr : Pl.dropB l k = true := by
                unfold Pl.dropB
                rw [Pl.val_of hx, Pl.val_of hy, Pl.val_of hz]
                have := hlen.out
                simp
                omega
              have HN := Lib.hid (Pl.thinTo_yes hdr)
              have hin1 : Pl.isIn x.Value y.Value (if y.Value < z.Value then z.Value else y.Value) = true := by unfold Pl.isIn; split <;> simp <;> omega
              clear hR hx b1 b2 hacc hbel h0 hy hz hdr
              go_wp2
              refine wp_region_und (by kernel_rfl) (by kernel_rfl) ?_
              repeat (go_big_quiet_step ((first | (go_at_call 36; exact und_call _ (isReset_c l _ _ _ _ _ _ (hR'.out.und hBw _) (by omega))) | (go_at_call 29; exact und_same _ (within_c _ _ _ _)))))
              refine wpQuiet_nil ?_
              intro X hX
              go_wp2
              go_roundw
              case rel => exact ⟨k + 1, by omega, by go_num, by rw [HN.out]; exact HA.out.step (below_step (below_new (Below.refl _ _) _) hX)⟩
              case measure => simp [intOf]; omega
            · have hdr : Pl.dropB l k = false := by
                have h1 : ¬ x.Value ≤ z.Value := by rw [Pl.resetB_eq hz hx (by omega)] at hr2; simpa using hr2
                unfold Pl.dropB
                rw [Pl.val_of hx, Pl.val_of hz]
                simp [h1]
              have HN := Lib.hid (Pl.thinTo_no hdr hx)
              clear hR hx b1 b2 hacc hbel h0 hy hz hdr
              go_wp2
              refine wp_region_und (by kernel_rfl) (by kernel_rfl) ?_
              repeat (go_big_quiet_step ((first | (go_at_call 36; exact und_call _ (isReset_c l _ _ _ _ _ _ (hR'.out.und hBw _) (by omega))) | (go_at_call 29; exact und_same _ (within_c _ _ _ _)))))
              refine wpQuiet_nil ?_
              intro X hX
              have hsz := hX.size
              have KX := (Mm.Blk.new wr 37 [.int .i64 x.At, .int .i64 x.Value]).bel hX
              have d0 := KX.cell (i := 0) rfl
              have d1 := KX.cell (i := 1) rfl
              obtain ⟨i0, hi, hz0, hz1, hz2⟩ := info_parts Try.infoSmp
              obtain ⟨l0, ho2, hnext⟩ := HA.out.push (W2 := X.alloc (.cells #[.int .i64 x.At, .int .i64 x.Value] 37)) (x := x) (below_new (below_step (below_new (Below.refl _ _) _) hX) _) (smp_own_mk HI.out) List.nodup_nil (fun b hb => by cases hb)
              obtain ⟨m, hm⟩ : ∃ m, (Pl.thinTo l k).length = m := ⟨_, rfl⟩
              rw [hm] at ho2 hnext hln
              have HNX := Lib.hid hnext
              have hnews := Lib.hid (World.news_of_block (B := X.heap.size) (cs := #[.int .i64 x.At, .int .i64 x.Value]) (t := 37) (fr := (0, 0)) (w := X.alloc (.cells #[.int .i64 x.At, .int .i64 x.Value] 37)) (heap_alloc_new X _))
              clear hnext hm
              go_wp2_with (at_builtin; refine wpList_append_lies _ (by rfl) _ _ _ (by rfl) 0 37 i0 _ 2 16 Try.underlying23 hi hz0 hz1 hz2 rfl (by omega) _ m l0 (by rfl) ho2 ⟨X.heap.size, 0, none⟩ 1 1 [.int .i64 x.At, .int .i64 x.Value] (by rfl) (by rfl) hnews.out (by simp [Value.oneCell']) (by omega) (by unfold maxLen; omega) (by omega) (Nat.zero_le _) _ rfl ?_; intro gg cap w2 hown1 hgrow hat hlt')
              go_roundw
              case rel => exact ⟨k + 1, by omega, by go_num, by rw [HN.out]; exact HNX.out gg cap w2 hown1 hgrow hat⟩
              case measure => simp [intOf]; omega
          · have hdr : Pl.dropB l k = false := by
              have h1 : ¬ y.Value ≤ x.Value := by rw [Pl.resetB_eq hx hy hk0] at hr1; simpa using hr1
              unfold Pl.dropB
              rw [Pl.val_of hx, Pl.val_of hy]
              simp [h1]
            have HN := Lib.hid (Pl.thinTo_no hdr hx)
            clear hR hx b1 b2 hacc hbel h0 hy hz hdr
            go_wp2
            refine wp_region_und (by kernel_rfl) (by kernel_rfl) ?_
            repeat (go_big_quiet_step ((first | (go_at_call 36; exact und_call _ (isReset_c l _ _ _ _ _ _ (hR'.out.und hBw _) (by omega))) | (go_at_call 29; exact und_same _ (within_c _ _ _ _)))))
            refine wpQuiet_nil ?_
            intro X hX
            have hsz := hX.size
            have KX := (Mm.Blk.new wr 37 [.int .i64 x.At, .int .i64 x.Value]).bel hX
            have d0 := KX.cell (i := 0) rfl
            have d1 := KX.cell (i := 1) rfl
            obtain ⟨i0, hi, hz0, hz1, hz2⟩ := info_parts Try.infoSmp
            obtain ⟨l0, ho2, hnext⟩ := HA.out.push (W2 := X.alloc (.cells #[.int .i64 x.At, .int .i64 x.Value] 37)) (x := x) (below_new (below_step (below_new (Below.refl _ _) _) hX) _) (smp_own_mk HI.out) List.nodup_nil (fun b hb => by cases hb)
            obtain ⟨m, hm⟩ : ∃ m, (Pl.thinTo l k).length = m := ⟨_, rfl⟩
            rw [hm] at ho2 hnext hln
            have HNX := Lib.hid hnext
            have hnews := Lib.hid (World.news_of_block (B := X.heap.size) (cs := #[.int .i64 x.At, .int .i64 x.Value]) (t := 37) (fr := (0, 0)) (w := X.alloc (.cells #[.int .i64 x.At, .int .i64 x.Value] 37)) (heap_alloc_new X _))
            clear hnext hm
            go_wp2_with (at_builtin; refine wpList_append_lies _ (by rfl) _ _ _ (by rfl) 0 37 i0 _ 2 16 Try.underlying23 hi hz0 hz1 hz2 rfl (by omega) _ m l0 (by rfl) ho2 ⟨X.heap.size, 0, none⟩ 1 1 [.int .i64 x.At, .int .i64 x.Value] (by rfl) (by rfl) hnews.out (by simp [Value.oneCell']) (by omega) (by unfold maxLen; omega) (by omega) (Nat.zero_le _) _ rfl ?_; intro gg cap w2 hown1 hgrow hat hlt')
            go_roundw
            case rel => exact ⟨k + 1, by omega, by go_num, by rw [HN.out]; exact HNX.out gg cap w2 hown1 hgrow hat⟩
            case measure => simp [intOf]; omega
        · have hg1 : decide ((k : Int) + 1 < (n : Int)) = false := by simp; omega
          have hg2 : decide (k + 1 < n) = false := by simp; omega
          have hg3 : decide (0 < k) = true := by simp; omega
          have hdr : Pl.dropB l k = false := by
            have := hlen.out
            unfold Pl.dropB
            rw [show decide (k + 1 < l.length) = false by simp; omega]
            simp
          have HN := Lib.hid (Pl.thinTo_no hdr hx)
          clear hR hx b1 b2 hacc hbel h0 hy hdr
          go_wp2
          refine wp_region_und (by kernel_rfl) (by kernel_rfl) ?_
          repeat (go_big_quiet_step ((first | (go_at_call 36; exact und_call _ (isReset_c l _ _ _ _ _ _ (hR'.out.und hBw _) (by omega))) | (go_at_call 29; exact und_same _ (within_c _ _ _ _)))))
          refine wpQuiet_nil ?_
          intro X hX
          have hsz := hX.size
          have KX := (Mm.Blk.new wr 37 [.int .i64 x.At, .int .i64 x.Value]).bel hX
          have d0 := KX.cell (i := 0) rfl
          have d1 := KX.cell (i := 1) rfl
          obtain ⟨i0, hi, hz0, hz1, hz2⟩ := info_parts Try.infoSmp
          obtain ⟨l0, ho2, hnext⟩ := HA.out.push (W2 := X.alloc (.cells #[.int .i64 x.At, .int .i64 x.Value] 37)) (x := x) (below_new (below_step (below_new (Below.refl _ _) _) hX) _) (smp_own_mk HI.out) List.nodup_nil (fun b hb => by cases hb)
          obtain ⟨m, hm⟩ : ∃ m, (Pl.thinTo l k).length = m := ⟨_, rfl⟩
          rw [hm] at ho2 hnext hln
          have HNX := Lib.hid hnext
          have hnews := Lib.hid (World.news_of_block (B := X.heap.size) (cs := #[.int .i64 x.At, .int .i64 x.Value]) (t := 37) (fr := (0, 0)) (w := X.alloc (.cells #[.int .i64 x.At, .int .i64 x.Value] 37)) (heap_alloc_new X _))
          clear hnext hm
          go_wp2_with (at_builtin; refine wpList_append_lies _ (by rfl) _ _ _ (by rfl) 0 37 i0 _ 2 16 Try.underlying23 hi hz0 hz1 hz2 rfl (by omega) _ m l0 (by rfl) ho2 ⟨X.heap.size, 0, none⟩ 1 1 [.int .i64 x.At, .int .i64 x.Value] (by rfl) (by rfl) hnews.out (by simp [Value.oneCell']) (by omega) (by unfold maxLen; omega) (by omega) (Nat.zero_le _) _ rfl ?_; intro gg cap w2 hown1 hgrow hat hlt')
          go_roundw
          case rel => exact ⟨k + 1, by omega, by go_num, by rw [HN.out]; exact HNX.out gg cap w2 hown1 hgrow hat⟩
          case measure => simp [intOf]; omega
      · have hkn : Hid (Pl.thinTo l k = Pl.thinTo l l.length) := by have := hlen.out; show _ = _; rw [show k = l.length by omega]
        obtain ⟨A', n', c', rfl, -, -, -, -⟩ := hacc.form
        have HA := Lib.hid hacc
        clear hacc
        go_wp2
        go_ret2
        rw [← hkn.out]
        exact HA.out.ret
set_option maxRecDepth 100000 in
set_option maxHeartbeats 1000000 in
theorem specThinOut_c (l : List Sample) (A : Option Addr) (n c : Nat) (w : World) (B : Nat) (hl : Mm.SlAt smp w B l A n c) (hB : B ≤ w.heap.size) :
    Calls Try.prog 20 #[.slice A n c] w (Mm.RetS2 smp 37 w (Pl.thinOut l).1 (Pl.thinOut l).2) := by
  have hlen : Hid (l.length = n) := hl.1
  have HL : Hid (Mm.SlAt smp w B l A n c) := hl
  clear hl
  cases hc : Pl.counterOk l
  · have HF : Hid (Pl.thinOut l = ([], false)) := if_neg (by rw [hc]; simp)
    go_enter Try.func20, Try.ntmps20
    go_wp2_with (go_at_call 31; refine (specCounterOk_c l _ _ _ _ B HL.out hB).mono ?_; rintro e w1 ⟨rfl, hb1⟩)
    rw [HF.out]
    go_ret2
    exact (Mm.Acc.nil hb1).ret
  · have HF : Hid (Pl.thinOut l = (Pl.thinTo l l.length, true)) := if_pos hc
    have hn : n ≤ 40 := by have := Pl.counterOk_len hc; have := hlen.out; omega
    rw [HF.out]
    go_enter Try.func20, Try.ntmps20
    go_wp2_with (go_at_call 31; refine (specCounterOk_c l _ _ _ _ B HL.out hB).mono ?_; rintro e w1 ⟨rfl, hb1⟩)
    go_loopw [4, 5, 6, 12] (fun o _ _ i wr => ∃ k : Nat, k ≤ n ∧ i = .int .i64 k ∧ Mm.Acc smp 37 w (Pl.thinTo l k) o wr) (fun _ _ _ i _ => n - (intOf i).toNat)
    case atStart => exact ⟨0, Nat.zero_le _, rfl, Mm.Acc.nil hb1⟩
    case round =>
      obtain ⟨k, hk, rfl, hacc⟩ := hrel
      rename_i wr _
      have hbel := hacc.bel
      have hln := Pl.thinTo_len l k
      by_cases hlt : k < n
      · have hR := HL.out.keep (w' := wr) (fun b hb => hbel.block b (by omega))
        obtain ⟨x, b, off, hx, rfl, hb, b1, b2, c1, c2⟩ := smp_get hR hlt
        have hbw : b < wr.heap.size := by have := hbel.size; omega
        have HI := Lib.hid (show Mm.I64 x.At ∧ Mm.I64 x.Value from ⟨b1, b2⟩)
        have HA := Lib.hid hacc
        by_cases h0 : k = 0
        · have hdr : Pl.dropB l k = false := by subst h0; rfl
          have HN := Lib.hid (Pl.thinTo_no hdr hx)
          have hd0 : decide (0 < k) = false := by subst h0; rfl
          clear hR hx b1 b2 hacc hbel h0
          go_wp2
          refine wp_region_und (by kernel_rfl) (by kernel_rfl) ?_
          repeat (go_big_quiet_step ((first | fail)))
          refine wpQuiet_nil ?_
          intro X hX
          have hsz := hX.size
          have KX := (Mm.Blk.new wr 37 [.int .i64 x.At, .int .i64 x.Value]).bel hX
          have d0 := KX.cell (i := 0) rfl
          have d1 := KX.cell (i := 1) rfl
          obtain ⟨i0, hi, hz0, hz1, hz2⟩ := info_parts Try.infoSmp
          obtain ⟨l0, ho2, hnext⟩ := HA.out.push (W2 := X.alloc (.cells #[.int .i64 x.At, .int .i64 x.Value] 37)) (x := x) (below_new (below_step (below_new (Below.refl _ _) _) hX) _) (smp_own_mk HI.out) List.nodup_nil (fun b hb => by cases hb)
          obtain ⟨m, hm⟩ : ∃ m, (Pl.thinTo l k).length = m := ⟨_, rfl⟩
          rw [hm] at ho2 hnext hln
          have HNX := Lib.hid hnext
          have hnews := Lib.hid (World.news_of_block (B := X.heap.size) (cs := #[.int .i64 x.At, .int .i64 x.Value]) (t := 37) (fr := (0, 0)) (w := X.alloc (.cells #[.int .i64 x.At, .int .i64 x.Value] 37)) (heap_alloc_new X _))
          clear hnext hm
          go_wp2_with (at_builtin; refine wpList_append_lies _ (by rfl) _ _ _ (by rfl) 0 37 i0 _ 2 16 Try.underlying23 hi hz0 hz1 hz2 rfl (by omega) _ m l0 (by rfl) ho2 ⟨X.heap.size, 0, none⟩ 1 1 [.int .i64 x.At, .int .i64 x.Value] (by rfl) (by rfl) hnews.out (by simp [Value.oneCell']) (by omega) (by unfold maxLen; omega) (by omega) (Nat.zero_le _) _ rfl ?_; intro gg cap w2 hown1 hgrow hat hlt')
          go_roundw
          case rel => exact ⟨k + 1, by omega, by go_num, by rw [HN.out]; exact HNX.out gg cap w2 hown1 hgrow hat⟩
          case measure => simp [intOf]; omega
        have hk0 : 0 < k := by omega
        obtain ⟨y, hy, _, _, _, _, c4⟩ := smp_get' hR (show k - 1 < n by omega)
        have hsw := hbel.size
        have hR' := Lib.hid (hR.keep (w' := wr.alloc (.cells #[.int .i64 x.At, .int .i64 x.Value] 37)) fun b hb => (below_new (Below.refl wr.heap.size wr) _).block b (by omega))
        have hBw : B ≤ (wr.alloc (.cells #[.int .i64 x.At, .int .i64 x.Value] 37)).heap.size := by rw [Mm.sz1]; omega
        by_cases hl1 : k + 1 < n
        · obtain ⟨z, hz, _, _, _, _, c6⟩ := smp_get' hR hl1
          have hg1 : decide ((k : Int) < (n : Int) - 1) = true := by simp; omega
          have hg2 : decide (k < n - 1) = true := by simp; omega
          have hg3 : decide (0 < k) = true := by simp; omega
          by_cases hr1 : y.Value ≤ x.Value
          · by_cases hr2 : x.Value ≤ z.Value
            · have hyx := hr1
              have hxz := hr2
              have hdr : Pl.dropB l k = true := by
                unfold Pl.dropB
                rw [Pl.val_of hx, Pl.val_of hy, Pl.val_of hz]
                have := hlen.out
                simp
                omega
              have HN := Lib.hid (Pl.thinTo_yes hdr)
              have hin1 : Pl.isIn x.Value y.Value (if y.Value < z.Value then z.Value else y.Value) = true := by unfold Pl.isIn; split <;> simp <;> omega
              clear hR hx b1 b2 hacc hbel h0 hy hz hdr
              go_wp2
              refine wp_region_und (by kernel_rfl) (by kernel_rfl) ?_
              repeat (go_big_quiet_step ((first | fail)))
              refine wpQuiet_nil ?_
              intro X hX
              go_wp2
              go_roundw
              case rel => exact ⟨k + 1, by omega, by go_num, by rw [HN.out]; exact HA.out.step (below_step (below_new (Below.refl _ _) _) hX)⟩
              case measure => simp [intOf]; omega
            · have hq2 : decide (x.Value ≤ z.Value) = false := by simpa using hr2
              have hq1 : decide (y.Value ≤ x.Value) = true := by simpa using hr1
              have hdr : Pl.dropB l k = false := by
                have h1 := hr2
                skip
                unfold Pl.dropB
                rw [Pl.val_of hx, Pl.val_of hz]
                simp [h1]
              have HN := Lib.hid (Pl.thinTo_no hdr hx)
              clear hR hx b1 b2 hacc hbel h0 hy hz hdr
              go_wp2
              refine wp_region_und (by kernel_rfl) (by kernel_rfl) ?_
              repeat (go_big_quiet_step ((first | fail)))
              refine wpQuiet_nil ?_
              intro X hX
              have hsz := hX.size
              have KX := (Mm.Blk.new wr 37 [.int .i64 x.At, .int .i64 x.Value]).bel hX
              have d0 := KX.cell (i := 0) rfl
              have d1 := KX.cell (i := 1) rfl
              obtain ⟨i0, hi, hz0, hz1, hz2⟩ := info_parts Try.infoSmp
              obtain ⟨l0, ho2, hnext⟩ := HA.out.push (W2 := X.alloc (.cells #[.int .i64 x.At, .int .i64 x.Value] 37)) (x := x) (below_new (below_step (below_new (Below.refl _ _) _) hX) _) (smp_own_mk HI.out) List.nodup_nil (fun b hb => by cases hb)
              obtain ⟨m, hm⟩ : ∃ m, (Pl.thinTo l k).length = m := ⟨_, rfl⟩
              rw [hm] at ho2 hnext hln
              have HNX := Lib.hid hnext
              have hnews := Lib.hid (World.news_of_block (B := X.heap.size) (cs := #[.int .i64 x.At, .int .i64 x.Value]) (t := 37) (fr := (0, 0)) (w := X.alloc (.cells #[.int .i64 x.At, .int .i64 x.Value] 37)) (heap_alloc_new X _))
              clear hnext hm
              go_wp2_with (at_builtin; refine wpList_append_lies _ (by rfl) _ _ _ (by rfl) 0 37 i0 _ 2 16 Try.underlying23 hi hz0 hz1 hz2 rfl (by omega) _ m l0 (by rfl) ho2 ⟨X.heap.size, 0, none⟩ 1 1 [.int .i64 x.At, .int .i64 x.Value] (by rfl) (by rfl) hnews.out (by simp [Value.oneCell']) (by omega) (by unfold maxLen; omega) (by omega) (Nat.zero_le _) _ rfl ?_; intro gg cap w2 hown1 hgrow hat hlt')
              go_roundw
              case rel => exact ⟨k + 1, by omega, by go_num, by rw [HN.out]; exact HNX.out gg cap w2 hown1 hgrow hat⟩
              case measure => simp [intOf]; omega
          · have hq1 : decide (y.Value ≤ x.Value) = false := by simpa using hr1
            have hdr : Pl.dropB l k = false := by
              have h1 := hr1
              skip
              unfold Pl.dropB
              rw [Pl.val_of hx, Pl.val_of hy]
              simp [h1]
            have HN := Lib.hid (Pl.thinTo_no hdr hx)
            clear hR hx b1 b2 hacc hbel h0 hy hz hdr
            go_wp2
            refine wp_region_und (by kernel_rfl) (by kernel_rfl) ?_
            repeat (go_big_quiet_step ((first | fail)))
            refine wpQuiet_nil ?_
            intro X hX
            have hsz := hX.size
            have KX := (Mm.Blk.new wr 37 [.int .i64 x.At, .int .i64 x.Value]).bel hX
            have d0 := KX.cell (i := 0) rfl
            have d1 := KX.cell (i := 1) rfl
            obtain ⟨i0, hi, hz0, hz1, hz2⟩ := info_parts Try.infoSmp
            obtain ⟨l0, ho2, hnext⟩ := HA.out.push (W2 := X.alloc (.cells #[.int .i64 x.At, .int .i64 x.Value] 37)) (x := x) (below_new (below_step (below_new (Below.refl _ _) _) hX) _) (smp_own_mk HI.out) List.nodup_nil (fun b hb => by cases hb)
            obtain ⟨m, hm⟩ : ∃ m, (Pl.thinTo l k).length = m := ⟨_, rfl⟩
            rw [hm] at ho2 hnext hln
            have HNX := Lib.hid hnext
            have hnews := Lib.hid (World.news_of_block (B := X.heap.size) (cs := #[.int .i64 x.At, .int .i64 x.Value]) (t := 37) (fr := (0, 0)) (w := X.alloc (.cells #[.int .i64 x.At, .int .i64 x.Value] 37)) (heap_alloc_new X _))
            clear hnext hm
            go_wp2_with (at_builtin; refine wpList_append_lies _ (by rfl) _ _ _ (by rfl) 0 37 i0 _ 2 16 Try.underlying23 hi hz0 hz1 hz2 rfl (by omega) _ m l0 (by rfl) ho2 ⟨X.heap.size, 0, none⟩ 1 1 [.int .i64 x.At, .int .i64 x.Value] (by rfl) (by rfl) hnews.out (by simp [Value.oneCell']) (by omega) (by unfold maxLen; omega) (by omega) (Nat.zero_le _) _ rfl ?_; intro gg cap w2 hown1 hgrow hat hlt')
            go_roundw
            case rel => exact ⟨k + 1, by omega, by go_num, by rw [HN.out]; exact HNX.out gg cap w2 hown1 hgrow hat⟩
            case measure => simp [intOf]; omega
        · have hg1 : decide ((k : Int) < (n : Int) - 1) = false := by simp; omega
          have hg2 : decide (k < n - 1) = false := by simp; omega
          have hg3 : decide (0 < k) = true := by simp; omega
          have hdr : Pl.dropB l k = false := by
            have := hlen.out
            unfold Pl.dropB
            rw [show decide (k + 1 < l.length) = false by simp; omega]
            simp
          have HN := Lib.hid (Pl.thinTo_no hdr hx)
          clear hR hx b1 b2 hacc hbel h0 hy hdr
          go_wp2
          refine wp_region_und (by kernel_rfl) (by kernel_rfl) ?_
          repeat (go_big_quiet_step ((first | fail)))
          refine wpQuiet_nil ?_
          intro X hX
          have hsz := hX.size
          have KX := (Mm.Blk.new wr 37 [.int .i64 x.At, .int .i64 x.Value]).bel hX
          have d0 := KX.cell (i := 0) rfl
          have d1 := KX.cell (i := 1) rfl
          obtain ⟨i0, hi, hz0, hz1, hz2⟩ := info_parts Try.infoSmp
          obtain ⟨l0, ho2, hnext⟩ := HA.out.push (W2 := X.alloc (.cells #[.int .i64 x.At, .int .i64 x.Value] 37)) (x := x) (below_new (below_step (below_new (Below.refl _ _) _) hX) _) (smp_own_mk HI.out) List.nodup_nil (fun b hb => by cases hb)
          obtain ⟨m, hm⟩ : ∃ m, (Pl.thinTo l k).length = m := ⟨_, rfl⟩
          rw [hm] at ho2 hnext hln
          have HNX := Lib.hid hnext
          have hnews := Lib.hid (World.news_of_block (B := X.heap.size) (cs := #[.int .i64 x.At, .int .i64 x.Value]) (t := 37) (fr := (0, 0)) (w := X.alloc (.cells #[.int .i64 x.At, .int .i64 x.Value] 37)) (heap_alloc_new X _))
          clear hnext hm
          go_wp2_with (at_builtin; refine wpList_append_lies _ (by rfl) _ _ _ (by rfl) 0 37 i0 _ 2 16 Try.underlying23 hi hz0 hz1 hz2 rfl (by omega) _ m l0 (by rfl) ho2 ⟨X.heap.size, 0, none⟩ 1 1 [.int .i64 x.At, .int .i64 x.Value] (by rfl) (by rfl) hnews.out (by simp [Value.oneCell']) (by omega) (by unfold maxLen; omega) (by omega) (Nat.zero_le _) _ rfl ?_; intro gg cap w2 hown1 hgrow hat hlt')
          go_roundw
          case rel => exact ⟨k + 1, by omega, by go_num, by rw [HN.out]; exact HNX.out gg cap w2 hown1 hgrow hat⟩
          case measure => simp [intOf]; omega
      · have hkn : Hid (Pl.thinTo l k = Pl.thinTo l l.length) := by have := hlen.out; show _ = _; rw [show k = l.length by omega]
        obtain ⟨A', n', c', rfl, -, -, -, -⟩ := hacc.form
        have HA := Lib.hid hacc
        clear hacc
        go_wp2
        go_ret2
        rw [← hkn.out]
        exact HA.out.ret
end Go.Proofs.Ytjpmnegpkpimhaa
