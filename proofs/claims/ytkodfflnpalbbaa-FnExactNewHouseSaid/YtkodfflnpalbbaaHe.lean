/-
  The laws' own comparisons answer true of two things that read alike. No conditions.
-/
import Derived.Test.YtkodfflnpalbbaaWa
import Derived.Test.YtkodfflnpalbbaaTy
import Derived.Test.YtkodfflnpalbbaaQu
import Derived.Lib.Hide
import Derived.Deep.DeepFit
namespace Go.Proofs.Ytkodfflnpalbbaa
open Go.RowKit
attribute [local go_sem] und_cell
set_option maxHeartbeats 1000000 in
theorem eqIntS_c (l : List Int) (A A' : Option Addr) (n n' c c' : Nat) (w : World) (B : Nat) (hl : Mm.SlAt Mm.int w B l A n c) (hl' : Mm.SlAt Mm.int w B l A' n' c') (hB : B ≤ w.heap.size) :
    Calls Try.prog 71 #[.slice A n c, .slice A' n' c'] w fun e w' => e = .returned (.bool true) ∧ Below w.heap.size w w' := by
  obtain rfl : n = n' := hl.1.symm.trans hl'.1
  have hn : n ≤ 9223372036854775807 := by have := hl.2.1; have := hl.2.2.1; unfold maxLen at this; omega
  have HL : Hid (Mm.SlAt Mm.int w B l A n c ∧ Mm.SlAt Mm.int w B l A' n c') := ⟨hl, hl'⟩
  clear hl hl'
  go_enter Try.func71, Try.ntmps71
  go_wp2
  go_loopw [5] (fun i wr => ∃ k : Nat, k ≤ n ∧ i = .int .i64 k ∧ Below w.heap.size w wr) (fun i _ => n - (intOf i).toNat)
  case atStart => exact ⟨0, Nat.zero_le _, rfl, Below.refl _ _⟩
  case round =>
    obtain ⟨k, hk, rfl, hbel⟩ := hrel
    rename_i wr _
    by_cases hlt : k < n
    · obtain ⟨x, b, off, hx, rfl, hb, uf0, uc0⟩ := int_get (HL.out.1.keep (w' := wr) (fun b hb => hbel.block b (by omega))) hlt
      obtain ⟨y, b', off', hy, rfl, hb', vf0, vc0⟩ := int_get (HL.out.2.keep (w' := wr) (fun b hb => hbel.block b (by omega))) hlt
      obtain rfl : x = y := by rw [hx] at hy; injection hy
      have hBw : B ≤ wr.heap.size := Nat.le_trans hB hbel.size
      clear hx hy uf0 vf0
      go_wp2
      refine wp_region_und (by kernel_rfl) (by kernel_rfl) ?_
      repeat (go_big_quiet_step ((first | fail)))
      refine wpQuiet_nil ?_
      intro X hX
      go_wp2
      go_roundw
      case rel => exact ⟨k + 1, by omega, by go_num, below_step hbel hX⟩
      case measure => simp [intOf]; omega
    · go_wp2
      go_ret
      exact ⟨rfl, hbel⟩
set_option maxHeartbeats 1000000 in
theorem eqSample_c (x : Sample)  (w : World) :
    Calls Try.prog 70 #[.agg #[.int .i64 x.At, .int .i64 x.Value], .agg #[.int .i64 x.At, .int .i64 x.Value]] w fun e w' => e = .returned (.bool true) ∧ Below w.heap.size w w' := by
  go_enter Try.func70, Try.ntmps70
  go_wp2
  go_ret
  exact ⟨rfl, below_new (below_new (Below.refl _ _) _) _⟩
set_option maxHeartbeats 1000000 in
theorem eqSampleS_c (l : List Sample) (A A' : Option Addr) (n n' c c' : Nat) (w : World) (B : Nat) (hl : Mm.SlAt smp w B l A n c) (hl' : Mm.SlAt smp w B l A' n' c') (hB : B ≤ w.heap.size) :
    Calls Try.prog 63 #[.slice A n c, .slice A' n' c'] w fun e w' => e = .returned (.bool true) ∧ Below w.heap.size w w' := by
  obtain rfl : n = n' := hl.1.symm.trans hl'.1
  have hn : n ≤ 9223372036854775807 := by have := hl.2.1; have := hl.2.2.1; unfold maxLen at this; omega
  have HL : Hid (Mm.SlAt smp w B l A n c ∧ Mm.SlAt smp w B l A' n c') := ⟨hl, hl'⟩
  clear hl hl'
  go_enter Try.func63, Try.ntmps63
  go_wp2
  go_loopw [5] (fun i wr => ∃ k : Nat, k ≤ n ∧ i = .int .i64 k ∧ Below w.heap.size w wr) (fun i _ => n - (intOf i).toNat)
  case atStart => exact ⟨0, Nat.zero_le _, rfl, Below.refl _ _⟩
  case round =>
    obtain ⟨k, hk, rfl, hbel⟩ := hrel
    rename_i wr _
    by_cases hlt : k < n
    · obtain ⟨x, b, off, hx, rfl, hb, uf0, uf1, uc0, uc1⟩ := smp_get (HL.out.1.keep (w' := wr) (fun b hb => hbel.block b (by omega))) hlt
      obtain ⟨y, b', off', hy, rfl, hb', vf0, vf1, vc0, vc1⟩ := smp_get (HL.out.2.keep (w' := wr) (fun b hb => hbel.block b (by omega))) hlt
      obtain rfl : x = y := by rw [hx] at hy; injection hy
      have hBw : B ≤ wr.heap.size := Nat.le_trans hB hbel.size
      clear hx hy uf0 uf1 vf0 vf1
      go_wp2
      refine wp_region_und (by kernel_rfl) (by kernel_rfl) ?_
      repeat (go_big_quiet_step ((first | (go_at_call 70; exact und_call _ (eqSample_c x _)))))
      refine wpQuiet_nil ?_
      intro X hX
      go_wp2
      go_roundw
      case rel => exact ⟨k + 1, by omega, by go_num, below_step hbel hX⟩
      case measure => simp [intOf]; omega
    · go_wp2
      go_ret
      exact ⟨rfl, hbel⟩
set_option maxHeartbeats 1000000 in
theorem eqSay_c (x : Say)  (w : World) :
    Calls Try.prog 54 #[.agg #[.string x.Name, .int .i64 x.At, .int .i64 x.Value], .agg #[.string x.Name, .int .i64 x.At, .int .i64 x.Value]] w fun e w' => e = .returned (.bool true) ∧ Below w.heap.size w w' := by
  go_enter Try.func54, Try.ntmps54
  go_wp2
  go_ret
  exact ⟨rfl, below_new (below_new (Below.refl _ _) _) _⟩
set_option maxHeartbeats 1000000 in
theorem eqHouseStep_c (x : HouseStep)  (w : World) :
    Calls Try.prog 37 #[.agg #[.int .i64 x.Kind, .int .i64 x.Part, .string x.What.Name, .int .i64 x.What.At, .int .i64 x.What.Value], .agg #[.int .i64 x.Kind, .int .i64 x.Part, .string x.What.Name, .int .i64 x.What.At, .int .i64 x.What.Value]] w fun e w' => e = .returned (.bool true) ∧ Below w.heap.size w w' := by
  have HK1 := Lib.hid ((Mm.Blk.new w 63 [.int .i64 x.Kind, .int .i64 x.Part, .string x.What.Name, .int .i64 x.What.At, .int .i64 x.What.Value]).alloc (.cells #[.int .i64 x.Kind, .int .i64 x.Part, .string x.What.Name, .int .i64 x.What.At, .int .i64 x.What.Value] 63))
  have HK2 := Lib.hid (Mm.Blk.new' (w.alloc (.cells #[.int .i64 x.Kind, .int .i64 x.Part, .string x.What.Name, .int .i64 x.What.At, .int .i64 x.What.Value] 63)) 63 [.int .i64 x.Kind, .int .i64 x.Part, .string x.What.Name, .int .i64 x.What.At, .int .i64 x.What.Value] (Mm.sz1 _ _))
  have hb0 : Below w.heap.size w ((w.alloc (.cells #[.int .i64 x.Kind, .int .i64 x.Part, .string x.What.Name, .int .i64 x.What.At, .int .i64 x.What.Value] 63)).alloc (.cells #[.int .i64 x.Kind, .int .i64 x.Part, .string x.What.Name, .int .i64 x.What.At, .int .i64 x.What.Value] 63)) := below_new (below_new (Below.refl _ _) _) _
  have HB0 := Lib.hid hb0
  clear hb0
  go_enter Try.func37, Try.ntmps37
  go_wp2_with fail
  refine (eqSay_c x.What _).mono ?_
  rintro e w1 ⟨rfl, hb1⟩
  have HB1 := Lib.hid (below_step HB0.out hb1)
  have HK1 := Lib.hid (HK1.out.bel hb1)
  have HK2 := Lib.hid (HK2.out.bel hb1)
  clear hb1
  go_wp2
  go_ret
  exact ⟨rfl, HB1.out⟩
set_option maxHeartbeats 1000000 in
theorem eqHouseStepS_c (l : List HouseStep) (A A' : Option Addr) (n n' c c' : Nat) (w : World) (B : Nat) (hl : Mm.SlAt rHouseStep w B l A n c) (hl' : Mm.SlAt rHouseStep w B l A' n' c') (hB : B ≤ w.heap.size) :
    Calls Try.prog 15 #[.slice A n c, .slice A' n' c'] w fun e w' => e = .returned (.bool true) ∧ Below w.heap.size w w' := by
  obtain rfl : n = n' := hl.1.symm.trans hl'.1
  have hn : n ≤ 9223372036854775807 := by have := hl.2.1; have := hl.2.2.1; unfold maxLen at this; omega
  have HL : Hid (Mm.SlAt rHouseStep w B l A n c ∧ Mm.SlAt rHouseStep w B l A' n c') := ⟨hl, hl'⟩
  clear hl hl'
  go_enter Try.func15, Try.ntmps15
  go_wp2
  go_loopw [5] (fun i wr => ∃ k : Nat, k ≤ n ∧ i = .int .i64 k ∧ Below w.heap.size w wr) (fun i _ => n - (intOf i).toNat)
  case atStart => exact ⟨0, Nat.zero_le _, rfl, Below.refl _ _⟩
  case round =>
    obtain ⟨k, hk, rfl, hbel⟩ := hrel
    rename_i wr _
    by_cases hlt : k < n
    · obtain ⟨x, b, off, hx, rfl, hb, uf0, uf1, uf2, uf3, uf4, uc0, uc1, uc2, uc3, uc4⟩ := rHouseStep_get (HL.out.1.keep (w' := wr) (fun b hb => hbel.block b (by omega))) hlt
      obtain ⟨y, b', off', hy, rfl, hb', vf0, vf1, vf2, vf3, vf4, vc0, vc1, vc2, vc3, vc4⟩ := rHouseStep_get (HL.out.2.keep (w' := wr) (fun b hb => hbel.block b (by omega))) hlt
      obtain rfl : x = y := by rw [hx] at hy; injection hy
      have hBw : B ≤ wr.heap.size := Nat.le_trans hB hbel.size
      clear hx hy uf0 uf1 uf2 uf3 uf4 vf0 vf1 vf2 vf3 vf4
      go_wp2
      refine wp_region_und (by kernel_rfl) (by kernel_rfl) ?_
      repeat (go_big_quiet_step ((first | (go_at_call 37; exact und_call _ (eqHouseStep_c x _)))))
      refine wpQuiet_nil ?_
      intro X hX
      go_wp2
      go_roundw
      case rel => exact ⟨k + 1, by omega, by go_num, below_step hbel hX⟩
      case measure => simp [intOf]; omega
    · go_wp2
      go_ret
      exact ⟨rfl, hbel⟩
set_option maxHeartbeats 1000000 in
theorem eqRow_c (x : Row) (A : Option Addr) (n c : Nat) (A' : Option Addr) (n' c' : Nat) (w : World) (B : Nat) (g0 : Mm.SlAt smp w B x.Samples A n c) (g0' : Mm.SlAt smp w B x.Samples A' n' c') (hB : B ≤ w.heap.size) :
    Calls Try.prog 53 #[.agg #[.string x.Name, .slice A n c], .agg #[.string x.Name, .slice A' n' c']] w fun e w' => e = .returned (.bool true) ∧ Below w.heap.size w w' := by
  have HK1 := Lib.hid ((Mm.Blk.new w 83 [.string x.Name, .slice A n c]).alloc (.cells #[.string x.Name, .slice A' n' c'] 83))
  have HK2 := Lib.hid (Mm.Blk.new' (w.alloc (.cells #[.string x.Name, .slice A n c] 83)) 83 [.string x.Name, .slice A' n' c'] (Mm.sz1 _ _))
  have hb0 : Below w.heap.size w ((w.alloc (.cells #[.string x.Name, .slice A n c] 83)).alloc (.cells #[.string x.Name, .slice A' n' c'] 83)) := below_new (below_new (Below.refl _ _) _) _
  have HB0 := Lib.hid hb0
  have HG := Lib.hid (And.intro hB (And.intro g0 g0'))
  clear hB g0 g0'
  clear hb0
  go_enter Try.func53, Try.ntmps53
  go_wp2_with fail
  refine (eqSampleS_c x.Samples _ _ _ _ _ _ _ B (HG.out.2.1.keep fun b hb => HB0.out.block b (Nat.lt_of_lt_of_le hb HG.out.1)) (HG.out.2.2.keep fun b hb => HB0.out.block b (Nat.lt_of_lt_of_le hb HG.out.1)) (Nat.le_trans HG.out.1 HB0.out.size)).mono ?_
  rintro e w1 ⟨rfl, hb1⟩
  have HB1 := Lib.hid (below_step HB0.out hb1)
  have HK1 := Lib.hid (HK1.out.bel hb1)
  have HK2 := Lib.hid (HK2.out.bel hb1)
  clear hb1
  go_wp2
  go_ret
  exact ⟨rfl, HB1.out⟩
theorem eqRow_at (x : Row) (cs cs' : List Value) (w : World) (B : Nat) (h : rRow.at_ w B x cs) (h' : rRow.at_ w B x cs') (hB : B ≤ w.heap.size) :
    Calls Try.prog 53 #[.agg cs.toArray, .agg cs'.toArray] w fun e w' => e = .returned (.bool true) ∧ Below w.heap.size w w' := by
  obtain ⟨A, n, c, rfl, g0, g1⟩ := rRow_at h
  obtain ⟨A', n', c', rfl, k0, k1⟩ := rRow_at h'
  exact eqRow_c x _ _ _ _ _ _ _ B g1 k1 hB
set_option maxHeartbeats 1000000 in
theorem eqRowS_c (l : List Row) (A A' : Option Addr) (n n' c c' : Nat) (w : World) (B : Nat) (hl : Mm.SlAt rRow w B l A n c) (hl' : Mm.SlAt rRow w B l A' n' c') (hB : B ≤ w.heap.size) :
    Calls Try.prog 36 #[.slice A n c, .slice A' n' c'] w fun e w' => e = .returned (.bool true) ∧ Below w.heap.size w w' := by
  obtain rfl : n = n' := hl.1.symm.trans hl'.1
  have hn : n ≤ 9223372036854775807 := by have := hl.2.1; have := hl.2.2.1; unfold maxLen at this; omega
  have HL : Hid (Mm.SlAt rRow w B l A n c ∧ Mm.SlAt rRow w B l A' n c') := ⟨hl, hl'⟩
  clear hl hl'
  go_enter Try.func36, Try.ntmps36
  go_wp2
  go_loopw [5] (fun i wr => ∃ k : Nat, k ≤ n ∧ i = .int .i64 k ∧ Below w.heap.size w wr) (fun i _ => n - (intOf i).toNat)
  case atStart => exact ⟨0, Nat.zero_le _, rfl, Below.refl _ _⟩
  case round =>
    obtain ⟨k, hk, rfl, hbel⟩ := hrel
    rename_i wr _
    by_cases hlt : k < n
    · obtain ⟨x, b, off, A1, n1, c1, hx, rfl, hb, uf0, uf1, uc0, uc1⟩ := rRow_get (HL.out.1.keep (w' := wr) (fun b hb => hbel.block b (by omega))) hlt
      obtain ⟨y, b', off', A2, n2, c2, hy, rfl, hb', vf0, vf1, vc0, vc1⟩ := rRow_get (HL.out.2.keep (w' := wr) (fun b hb => hbel.block b (by omega))) hlt
      obtain rfl : x = y := by rw [hx] at hy; injection hy
      have hBw : B ≤ wr.heap.size := Nat.le_trans hB hbel.size
      have HF := Lib.hid (And.intro uf1 vf1)
      clear hx hy uf0 uf1 vf0 vf1
      go_wp2
      refine wp_region_und (by kernel_rfl) (by kernel_rfl) ?_
      repeat (go_big_quiet_step ((first | (go_at_call 53; exact und_call _ (eqRow_c x _ _ _ _ _ _ _ B (HF.out.1.und hBw _) (HF.out.2.und hBw _) (Nat.le_trans hBw (und_size _)))))))
      refine wpQuiet_nil ?_
      intro X hX
      go_wp2
      go_roundw
      case rel => exact ⟨k + 1, by omega, by go_num, below_step hbel hX⟩
      case measure => simp [intOf]; omega
    · go_wp2
      go_ret
      exact ⟨rfl, hbel⟩
set_option maxHeartbeats 1000000 in
theorem eqHead_c (x : Head) (A : Option Addr) (n c : Nat) (A' : Option Addr) (n' c' : Nat) (w : World) (B : Nat) (g0 : Mm.SlAt rRow w B x.Rows A n c) (g0' : Mm.SlAt rRow w B x.Rows A' n' c') (hB : B ≤ w.heap.size) :
    Calls Try.prog 14 #[.agg #[.slice A n c, .int .i64 x.Offset], .agg #[.slice A' n' c', .int .i64 x.Offset]] w fun e w' => e = .returned (.bool true) ∧ Below w.heap.size w w' := by
  have HK1 := Lib.hid ((Mm.Blk.new w 35 [.slice A n c, .int .i64 x.Offset]).alloc (.cells #[.slice A' n' c', .int .i64 x.Offset] 35))
  have HK2 := Lib.hid (Mm.Blk.new' (w.alloc (.cells #[.slice A n c, .int .i64 x.Offset] 35)) 35 [.slice A' n' c', .int .i64 x.Offset] (Mm.sz1 _ _))
  have hb0 : Below w.heap.size w ((w.alloc (.cells #[.slice A n c, .int .i64 x.Offset] 35)).alloc (.cells #[.slice A' n' c', .int .i64 x.Offset] 35)) := below_new (below_new (Below.refl _ _) _) _
  have HB0 := Lib.hid hb0
  have HG := Lib.hid (And.intro hB (And.intro g0 g0'))
  clear hB g0 g0'
  clear hb0
  go_enter Try.func14, Try.ntmps14
  go_wp2_with fail
  refine (eqRowS_c x.Rows _ _ _ _ _ _ _ B (HG.out.2.1.keep fun b hb => HB0.out.block b (Nat.lt_of_lt_of_le hb HG.out.1)) (HG.out.2.2.keep fun b hb => HB0.out.block b (Nat.lt_of_lt_of_le hb HG.out.1)) (Nat.le_trans HG.out.1 HB0.out.size)).mono ?_
  rintro e w1 ⟨rfl, hb1⟩
  have HB1 := Lib.hid (below_step HB0.out hb1)
  have HK1 := Lib.hid (HK1.out.bel hb1)
  have HK2 := Lib.hid (HK2.out.bel hb1)
  have p1_1 := HK1.out.cell (i := 1) rfl
  have q1_1 := HK2.out.cell (i := 1) rfl
  clear hb1
  go_wp2
  go_ret
  exact ⟨rfl, HB1.out⟩
theorem eqHead_at (x : Head) (cs cs' : List Value) (w : World) (B : Nat) (h : rHead.at_ w B x cs) (h' : rHead.at_ w B x cs') (hB : B ≤ w.heap.size) :
    Calls Try.prog 14 #[.agg cs.toArray, .agg cs'.toArray] w fun e w' => e = .returned (.bool true) ∧ Below w.heap.size w w' := by
  obtain ⟨A, n, c, rfl, g0, g1⟩ := rHead_at h
  obtain ⟨A', n', c', rfl, k0, k1⟩ := rHead_at h'
  exact eqHead_c x _ _ _ _ _ _ _ B g0 k0 hB
set_option maxHeartbeats 1000000 in
theorem eqHeadS_c (l : List Head) (A A' : Option Addr) (n n' c c' : Nat) (w : World) (B : Nat) (hl : Mm.SlAt rHead w B l A n c) (hl' : Mm.SlAt rHead w B l A' n' c') (hB : B ≤ w.heap.size) :
    Calls Try.prog 24 #[.slice A n c, .slice A' n' c'] w fun e w' => e = .returned (.bool true) ∧ Below w.heap.size w w' := by
  obtain rfl : n = n' := hl.1.symm.trans hl'.1
  have hn : n ≤ 9223372036854775807 := by have := hl.2.1; have := hl.2.2.1; unfold maxLen at this; omega
  have HL : Hid (Mm.SlAt rHead w B l A n c ∧ Mm.SlAt rHead w B l A' n c') := ⟨hl, hl'⟩
  clear hl hl'
  go_enter Try.func24, Try.ntmps24
  go_wp2
  go_loopw [5] (fun i wr => ∃ k : Nat, k ≤ n ∧ i = .int .i64 k ∧ Below w.heap.size w wr) (fun i _ => n - (intOf i).toNat)
  case atStart => exact ⟨0, Nat.zero_le _, rfl, Below.refl _ _⟩
  case round =>
    obtain ⟨k, hk, rfl, hbel⟩ := hrel
    rename_i wr _
    by_cases hlt : k < n
    · obtain ⟨x, b, off, A1, n1, c1, hx, rfl, hb, uf0, uf1, uc0, uc1⟩ := rHead_get (HL.out.1.keep (w' := wr) (fun b hb => hbel.block b (by omega))) hlt
      obtain ⟨y, b', off', A2, n2, c2, hy, rfl, hb', vf0, vf1, vc0, vc1⟩ := rHead_get (HL.out.2.keep (w' := wr) (fun b hb => hbel.block b (by omega))) hlt
      obtain rfl : x = y := by rw [hx] at hy; injection hy
      have hBw : B ≤ wr.heap.size := Nat.le_trans hB hbel.size
      have HF := Lib.hid (And.intro uf0 vf0)
      clear hx hy uf0 uf1 vf0 vf1
      go_wp2
      refine wp_region_und (by kernel_rfl) (by kernel_rfl) ?_
      repeat (go_big_quiet_step ((first | (go_at_call 14; exact und_call _ (eqHead_c x _ _ _ _ _ _ _ B (HF.out.1.und hBw _) (HF.out.2.und hBw _) (Nat.le_trans hBw (und_size _)))))))
      refine wpQuiet_nil ?_
      intro X hX
      go_wp2
      go_roundw
      case rel => exact ⟨k + 1, by omega, by go_num, below_step hbel hX⟩
      case measure => simp [intOf]; omega
    · go_wp2
      go_ret
      exact ⟨rfl, hbel⟩
set_option maxHeartbeats 1000000 in
theorem eqPiece_c (x : Piece) (A : Option Addr) (n c : Nat) (A' : Option Addr) (n' c' : Nat) (w : World) (B : Nat) (g0 : Mm.SlAt Mm.int w B x.Index A n c) (g0' : Mm.SlAt Mm.int w B x.Index A' n' c') (hB : B ≤ w.heap.size) :
    Calls Try.prog 64 #[.agg #[.int .i64 x.From, .string x.Bytes, .slice A n c], .agg #[.int .i64 x.From, .string x.Bytes, .slice A' n' c']] w fun e w' => e = .returned (.bool true) ∧ Below w.heap.size w w' := by
  have HK1 := Lib.hid ((Mm.Blk.new w 76 [.int .i64 x.From, .string x.Bytes, .slice A n c]).alloc (.cells #[.int .i64 x.From, .string x.Bytes, .slice A' n' c'] 76))
  have HK2 := Lib.hid (Mm.Blk.new' (w.alloc (.cells #[.int .i64 x.From, .string x.Bytes, .slice A n c] 76)) 76 [.int .i64 x.From, .string x.Bytes, .slice A' n' c'] (Mm.sz1 _ _))
  have hb0 : Below w.heap.size w ((w.alloc (.cells #[.int .i64 x.From, .string x.Bytes, .slice A n c] 76)).alloc (.cells #[.int .i64 x.From, .string x.Bytes, .slice A' n' c'] 76)) := below_new (below_new (Below.refl _ _) _) _
  have HB0 := Lib.hid hb0
  have HG := Lib.hid (And.intro hB (And.intro g0 g0'))
  clear hB g0 g0'
  clear hb0
  go_enter Try.func64, Try.ntmps64
  go_wp2_with fail
  refine (eqIntS_c x.Index _ _ _ _ _ _ _ B (HG.out.2.1.keep fun b hb => HB0.out.block b (Nat.lt_of_lt_of_le hb HG.out.1)) (HG.out.2.2.keep fun b hb => HB0.out.block b (Nat.lt_of_lt_of_le hb HG.out.1)) (Nat.le_trans HG.out.1 HB0.out.size)).mono ?_
  rintro e w1 ⟨rfl, hb1⟩
  have HB1 := Lib.hid (below_step HB0.out hb1)
  have HK1 := Lib.hid (HK1.out.bel hb1)
  have HK2 := Lib.hid (HK2.out.bel hb1)
  clear hb1
  go_wp2
  go_ret
  exact ⟨rfl, HB1.out⟩
theorem eqPiece_at (x : Piece) (cs cs' : List Value) (w : World) (B : Nat) (h : rPiece.at_ w B x cs) (h' : rPiece.at_ w B x cs') (hB : B ≤ w.heap.size) :
    Calls Try.prog 64 #[.agg cs.toArray, .agg cs'.toArray] w fun e w' => e = .returned (.bool true) ∧ Below w.heap.size w w' := by
  obtain ⟨A, n, c, rfl, g0, g1, g2⟩ := rPiece_at h
  obtain ⟨A', n', c', rfl, k0, k1, k2⟩ := rPiece_at h'
  exact eqPiece_c x _ _ _ _ _ _ _ B g2 k2 hB
set_option maxHeartbeats 1000000 in
theorem eqPieceS_c (l : List Piece) (A A' : Option Addr) (n n' c c' : Nat) (w : World) (B : Nat) (hl : Mm.SlAt rPiece w B l A n c) (hl' : Mm.SlAt rPiece w B l A' n' c') (hB : B ≤ w.heap.size) :
    Calls Try.prog 57 #[.slice A n c, .slice A' n' c'] w fun e w' => e = .returned (.bool true) ∧ Below w.heap.size w w' := by
  obtain rfl : n = n' := hl.1.symm.trans hl'.1
  have hn : n ≤ 9223372036854775807 := by have := hl.2.1; have := hl.2.2.1; unfold maxLen at this; omega
  have HL : Hid (Mm.SlAt rPiece w B l A n c ∧ Mm.SlAt rPiece w B l A' n c') := ⟨hl, hl'⟩
  clear hl hl'
  go_enter Try.func57, Try.ntmps57
  go_wp2
  go_loopw [5] (fun i wr => ∃ k : Nat, k ≤ n ∧ i = .int .i64 k ∧ Below w.heap.size w wr) (fun i _ => n - (intOf i).toNat)
  case atStart => exact ⟨0, Nat.zero_le _, rfl, Below.refl _ _⟩
  case round =>
    obtain ⟨k, hk, rfl, hbel⟩ := hrel
    rename_i wr _
    by_cases hlt : k < n
    · obtain ⟨x, b, off, A1, n1, c1, hx, rfl, hb, uf0, uf1, uf2, uc0, uc1, uc2⟩ := rPiece_get (HL.out.1.keep (w' := wr) (fun b hb => hbel.block b (by omega))) hlt
      obtain ⟨y, b', off', A2, n2, c2, hy, rfl, hb', vf0, vf1, vf2, vc0, vc1, vc2⟩ := rPiece_get (HL.out.2.keep (w' := wr) (fun b hb => hbel.block b (by omega))) hlt
      obtain rfl : x = y := by rw [hx] at hy; injection hy
      have hBw : B ≤ wr.heap.size := Nat.le_trans hB hbel.size
      have HF := Lib.hid (And.intro uf2 vf2)
      clear hx hy uf0 uf1 uf2 vf0 vf1 vf2
      go_wp2
      refine wp_region_und (by kernel_rfl) (by kernel_rfl) ?_
      repeat (go_big_quiet_step ((first | (go_at_call 64; exact und_call _ (eqPiece_c x _ _ _ _ _ _ _ B (HF.out.1.und hBw _) (HF.out.2.und hBw _) (Nat.le_trans hBw (und_size _)))))))
      refine wpQuiet_nil ?_
      intro X hX
      go_wp2
      go_roundw
      case rel => exact ⟨k + 1, by omega, by go_num, below_step hbel hX⟩
      case measure => simp [intOf]; omega
    · go_wp2
      go_ret
      exact ⟨rfl, hbel⟩
set_option maxHeartbeats 1000000 in
theorem eqLog_c (x : Log) (A : Option Addr) (n c : Nat) (A' : Option Addr) (n' c' : Nat) (w : World) (B : Nat) (g0 : Mm.SlAt rPiece w B x.Pieces A n c) (g0' : Mm.SlAt rPiece w B x.Pieces A' n' c') (hB : B ≤ w.heap.size) :
    Calls Try.prog 42 #[.agg #[.slice A n c, .int .i64 x.Begin], .agg #[.slice A' n' c', .int .i64 x.Begin]] w fun e w' => e = .returned (.bool true) ∧ Below w.heap.size w w' := by
  have HK1 := Lib.hid ((Mm.Blk.new w 48 [.slice A n c, .int .i64 x.Begin]).alloc (.cells #[.slice A' n' c', .int .i64 x.Begin] 48))
  have HK2 := Lib.hid (Mm.Blk.new' (w.alloc (.cells #[.slice A n c, .int .i64 x.Begin] 48)) 48 [.slice A' n' c', .int .i64 x.Begin] (Mm.sz1 _ _))
  have hb0 : Below w.heap.size w ((w.alloc (.cells #[.slice A n c, .int .i64 x.Begin] 48)).alloc (.cells #[.slice A' n' c', .int .i64 x.Begin] 48)) := below_new (below_new (Below.refl _ _) _) _
  have HB0 := Lib.hid hb0
  have HG := Lib.hid (And.intro hB (And.intro g0 g0'))
  clear hB g0 g0'
  clear hb0
  go_enter Try.func42, Try.ntmps42
  go_wp2_with fail
  refine (eqPieceS_c x.Pieces _ _ _ _ _ _ _ B (HG.out.2.1.keep fun b hb => HB0.out.block b (Nat.lt_of_lt_of_le hb HG.out.1)) (HG.out.2.2.keep fun b hb => HB0.out.block b (Nat.lt_of_lt_of_le hb HG.out.1)) (Nat.le_trans HG.out.1 HB0.out.size)).mono ?_
  rintro e w1 ⟨rfl, hb1⟩
  have HB1 := Lib.hid (below_step HB0.out hb1)
  have HK1 := Lib.hid (HK1.out.bel hb1)
  have HK2 := Lib.hid (HK2.out.bel hb1)
  have p1_1 := HK1.out.cell (i := 1) rfl
  have q1_1 := HK2.out.cell (i := 1) rfl
  clear hb1
  go_wp2
  go_ret
  exact ⟨rfl, HB1.out⟩
theorem eqLog_at (x : Log) (cs cs' : List Value) (w : World) (B : Nat) (h : rLog.at_ w B x cs) (h' : rLog.at_ w B x cs') (hB : B ≤ w.heap.size) :
    Calls Try.prog 42 #[.agg cs.toArray, .agg cs'.toArray] w fun e w' => e = .returned (.bool true) ∧ Below w.heap.size w w' := by
  obtain ⟨A, n, c, rfl, g0, g1⟩ := rLog_at h
  obtain ⟨A', n', c', rfl, k0, k1⟩ := rLog_at h'
  exact eqLog_c x _ _ _ _ _ _ _ B g0 k0 hB
set_option maxHeartbeats 1000000 in
theorem eqLogS_c (l : List Log) (A A' : Option Addr) (n n' c c' : Nat) (w : World) (B : Nat) (hl : Mm.SlAt rLog w B l A n c) (hl' : Mm.SlAt rLog w B l A' n' c') (hB : B ≤ w.heap.size) :
    Calls Try.prog 23 #[.slice A n c, .slice A' n' c'] w fun e w' => e = .returned (.bool true) ∧ Below w.heap.size w w' := by
  obtain rfl : n = n' := hl.1.symm.trans hl'.1
  have hn : n ≤ 9223372036854775807 := by have := hl.2.1; have := hl.2.2.1; unfold maxLen at this; omega
  have HL : Hid (Mm.SlAt rLog w B l A n c ∧ Mm.SlAt rLog w B l A' n c') := ⟨hl, hl'⟩
  clear hl hl'
  go_enter Try.func23, Try.ntmps23
  go_wp2
  go_loopw [5] (fun i wr => ∃ k : Nat, k ≤ n ∧ i = .int .i64 k ∧ Below w.heap.size w wr) (fun i _ => n - (intOf i).toNat)
  case atStart => exact ⟨0, Nat.zero_le _, rfl, Below.refl _ _⟩
  case round =>
    obtain ⟨k, hk, rfl, hbel⟩ := hrel
    rename_i wr _
    by_cases hlt : k < n
    · obtain ⟨x, b, off, A1, n1, c1, hx, rfl, hb, uf0, uf1, uc0, uc1⟩ := rLog_get (HL.out.1.keep (w' := wr) (fun b hb => hbel.block b (by omega))) hlt
      obtain ⟨y, b', off', A2, n2, c2, hy, rfl, hb', vf0, vf1, vc0, vc1⟩ := rLog_get (HL.out.2.keep (w' := wr) (fun b hb => hbel.block b (by omega))) hlt
      obtain rfl : x = y := by rw [hx] at hy; injection hy
      have hBw : B ≤ wr.heap.size := Nat.le_trans hB hbel.size
      have HF := Lib.hid (And.intro uf0 vf0)
      clear hx hy uf0 uf1 vf0 vf1
      go_wp2
      refine wp_region_und (by kernel_rfl) (by kernel_rfl) ?_
      repeat (go_big_quiet_step ((first | (go_at_call 42; exact und_call _ (eqLog_c x _ _ _ _ _ _ _ B (HF.out.1.und hBw _) (HF.out.2.und hBw _) (Nat.le_trans hBw (und_size _)))))))
      refine wpQuiet_nil ?_
      intro X hX
      go_wp2
      go_roundw
      case rel => exact ⟨k + 1, by omega, by go_num, below_step hbel hX⟩
      case measure => simp [intOf]; omega
    · go_wp2
      go_ret
      exact ⟨rfl, hbel⟩
set_option maxHeartbeats 1000000 in
theorem eqHouse_c (x : House) (A0 : Option Addr) (n0 c0 : Nat) (A1 : Option Addr) (n1 c1 : Nat) (A2 : Option Addr) (n2 c2 : Nat) (A0' : Option Addr) (n0' c0' : Nat) (A1' : Option Addr) (n1' c1' : Nat) (A2' : Option Addr) (n2' c2' : Nat) (w : World) (B : Nat) (g0 : Mm.SlAt rLog w B x.Logs A0 n0 c0) (g0' : Mm.SlAt rLog w B x.Logs A0' n0' c0') (g1 : Mm.SlAt rHead w B x.Heads A1 n1 c1) (g1' : Mm.SlAt rHead w B x.Heads A1' n1' c1') (g2 : Mm.SlAt rHead w B x.Kept A2 n2 c2) (g2' : Mm.SlAt rHead w B x.Kept A2' n2' c2') (hB : B ≤ w.heap.size) :
    Calls Try.prog 7 #[.agg #[.slice A0 n0 c0, .slice A1 n1 c1, .slice A2 n2 c2], .agg #[.slice A0' n0' c0', .slice A1' n1' c1', .slice A2' n2' c2']] w fun e w' => e = .returned (.bool true) ∧ Below w.heap.size w w' := by
  have HK1 := Lib.hid ((Mm.Blk.new w 25 [.slice A0 n0 c0, .slice A1 n1 c1, .slice A2 n2 c2]).alloc (.cells #[.slice A0' n0' c0', .slice A1' n1' c1', .slice A2' n2' c2'] 25))
  have HK2 := Lib.hid (Mm.Blk.new' (w.alloc (.cells #[.slice A0 n0 c0, .slice A1 n1 c1, .slice A2 n2 c2] 25)) 25 [.slice A0' n0' c0', .slice A1' n1' c1', .slice A2' n2' c2'] (Mm.sz1 _ _))
  have hb0 : Below w.heap.size w ((w.alloc (.cells #[.slice A0 n0 c0, .slice A1 n1 c1, .slice A2 n2 c2] 25)).alloc (.cells #[.slice A0' n0' c0', .slice A1' n1' c1', .slice A2' n2' c2'] 25)) := below_new (below_new (Below.refl _ _) _) _
  have HB0 := Lib.hid hb0
  have HG := Lib.hid (And.intro hB (And.intro (And.intro g0 g0') (And.intro (And.intro g1 g1') (And.intro g2 g2'))))
  clear hB g0 g0' g1 g1' g2 g2'
  clear hb0
  go_enter Try.func7, Try.ntmps7
  go_wp2_with fail
  refine (eqLogS_c x.Logs _ _ _ _ _ _ _ B (HG.out.2.1.1.keep fun b hb => HB0.out.block b (Nat.lt_of_lt_of_le hb HG.out.1)) (HG.out.2.1.2.keep fun b hb => HB0.out.block b (Nat.lt_of_lt_of_le hb HG.out.1)) (Nat.le_trans HG.out.1 HB0.out.size)).mono ?_
  rintro e w1 ⟨rfl, hb1⟩
  have HB1 := Lib.hid (below_step HB0.out hb1)
  have HK1 := Lib.hid (HK1.out.bel hb1)
  have HK2 := Lib.hid (HK2.out.bel hb1)
  have p1_1 := HK1.out.cell (i := 1) rfl
  have q1_1 := HK2.out.cell (i := 1) rfl
  have p1_2 := HK1.out.cell (i := 2) rfl
  have q1_2 := HK2.out.cell (i := 2) rfl
  clear hb1
  go_wp2_with fail
  refine (eqHeadS_c x.Heads _ _ _ _ _ _ _ B (HG.out.2.2.1.1.keep fun b hb => HB1.out.block b (Nat.lt_of_lt_of_le hb HG.out.1)) (HG.out.2.2.1.2.keep fun b hb => HB1.out.block b (Nat.lt_of_lt_of_le hb HG.out.1)) (Nat.le_trans HG.out.1 HB1.out.size)).mono ?_
  rintro e w2 ⟨rfl, hb2⟩
  have HB2 := Lib.hid (below_step HB1.out hb2)
  have HK1 := Lib.hid (HK1.out.bel hb2)
  have HK2 := Lib.hid (HK2.out.bel hb2)
  have p2_2 := HK1.out.cell (i := 2) rfl
  have q2_2 := HK2.out.cell (i := 2) rfl
  clear hb2
  go_wp2_with fail
  refine (eqHeadS_c x.Kept _ _ _ _ _ _ _ B (HG.out.2.2.2.1.keep fun b hb => HB2.out.block b (Nat.lt_of_lt_of_le hb HG.out.1)) (HG.out.2.2.2.2.keep fun b hb => HB2.out.block b (Nat.lt_of_lt_of_le hb HG.out.1)) (Nat.le_trans HG.out.1 HB2.out.size)).mono ?_
  rintro e w3 ⟨rfl, hb3⟩
  have HB3 := Lib.hid (below_step HB2.out hb3)
  have HK1 := Lib.hid (HK1.out.bel hb3)
  have HK2 := Lib.hid (HK2.out.bel hb3)
  clear hb3
  go_wp2
  go_ret
  exact ⟨rfl, HB3.out⟩
theorem eqHouse_at (x : House) (cs cs' : List Value) (w : World) (B : Nat) (h : rHouse.at_ w B x cs) (h' : rHouse.at_ w B x cs') (hB : B ≤ w.heap.size) :
    Calls Try.prog 7 #[.agg cs.toArray, .agg cs'.toArray] w fun e w' => e = .returned (.bool true) ∧ Below w.heap.size w w' := by
  obtain ⟨A0, n0, c0, A1, n1, c1, A2, n2, c2, rfl, g0, g1, g2⟩ := rHouse_at h
  obtain ⟨A0', n0', c0', A1', n1', c1', A2', n2', c2', rfl, k0, k1, k2⟩ := rHouse_at h'
  exact eqHouse_c x _ _ _ _ _ _ _ _ _ _ _ _ _ _ _ _ _ _ _ B g0 k0 g1 k1 g2 k2 hB
end Go.Proofs.Ytkodfflnpalbbaa
