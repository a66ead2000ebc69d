/-
  The laws' own comparisons answer true of two things that read alike. No conditions.
-/
import Derived.Test.YtnppcdiicnofpaaWa
import Derived.Test.YtnppcdiicnofpaaTy
import Derived.Test.YtnppcdiicnofpaaQu
import Derived.Lib.Hide
import Derived.Deep.DeepFit
namespace Go.Proofs.Ytnppcdiicnofpaa
open Go.RowKit
attribute [local go_sem] und_cell
set_option maxHeartbeats 1000000 in
theorem eqIntS_c (l : List Int) (A A' : Option Addr) (n n' c c' : Nat) (w : World) (B : Nat) (hl : Mm.SlAt Mm.int w B l A n c) (hl' : Mm.SlAt Mm.int w B l A' n' c') (hB : B ≤ w.heap.size) :
    Calls Try.prog 13 #[.slice A n c, .slice A' n' c'] w fun e w' => e = .returned (.bool true) ∧ Below w.heap.size w w' := by
  obtain rfl : n = n' := hl.1.symm.trans hl'.1
  have hn : n ≤ 9223372036854775807 := by have := hl.2.1; have := hl.2.2.1; unfold maxLen at this; omega
  have HL : Hid (Mm.SlAt Mm.int w B l A n c ∧ Mm.SlAt Mm.int w B l A' n c') := ⟨hl, hl'⟩
  clear hl hl'
  go_enter Try.func13, Try.ntmps13
  go_wp2
  go_loopw [5] (fun i wr => ∃ k : Nat, k ≤ n ∧ i = .int .i64 k ∧ Below w.heap.size w wr) (fun i _ => n - (intOf i).toNat)
  case atStart => exact ⟨0, Nat.zero_le _, rfl, Below.refl _ _⟩
  case round =>
    obtain ⟨k, hk, rfl, hbel⟩ := hrel
    rename_i wr _
    by_cases hlt : k < n
    · obtain ⟨x, b, off, hx, rfl, hb, uf0, uc0⟩ := int_get (HL.out.1.keep (w' := wr) (fun b hb => hbel.block b (by omega))) hlt
      obtain ⟨y, b', off', hy, rfl, hb', vf0, vc0⟩ := int_get (HL.out.2.keep (w' := wr) (fun b hb => hbel.block b (by omega))) hlt
      obtain rfl : x = y := by rw [hx] at hy; injection hy
      have hBw : B ≤ wr.heap.size := Nat.le_trans hB hbel.size
      clear hx hy uf0 vf0
      go_wp2
      refine wp_region_und (by kernel_rfl) (by kernel_rfl) ?_
      repeat (go_big_quiet_step ((first | fail)))
      refine wpQuiet_nil ?_
      intro X hX
      go_wp2
      go_roundw
      case rel => exact ⟨k + 1, by omega, by go_num, below_step hbel hX⟩
      case measure => simp [intOf]; omega
    · go_wp2
      go_ret
      exact ⟨rfl, hbel⟩
set_option maxHeartbeats 1000000 in
theorem eqStringS_c (l : List ByteArray) (A A' : Option Addr) (n n' c c' : Nat) (w : World) (B : Nat) (hl : Mm.SlAt Mm.str w B l A n c) (hl' : Mm.SlAt Mm.str w B l A' n' c') (hB : B ≤ w.heap.size) :
    Calls Try.prog 40 #[.slice A n c, .slice A' n' c'] w fun e w' => e = .returned (.bool true) ∧ Below w.heap.size w w' := by
  obtain rfl : n = n' := hl.1.symm.trans hl'.1
  have hn : n ≤ 9223372036854775807 := by have := hl.2.1; have := hl.2.2.1; unfold maxLen at this; omega
  have HL : Hid (Mm.SlAt Mm.str w B l A n c ∧ Mm.SlAt Mm.str w B l A' n c') := ⟨hl, hl'⟩
  clear hl hl'
  go_enter Try.func40, Try.ntmps40
  go_wp2
  go_loopw [5] (fun i wr => ∃ k : Nat, k ≤ n ∧ i = .int .i64 k ∧ Below w.heap.size w wr) (fun i _ => n - (intOf i).toNat)
  case atStart => exact ⟨0, Nat.zero_le _, rfl, Below.refl _ _⟩
  case round =>
    obtain ⟨k, hk, rfl, hbel⟩ := hrel
    rename_i wr _
    by_cases hlt : k < n
    · obtain ⟨x, b, off, hx, rfl, hb, uf0, uc0⟩ := str_get (HL.out.1.keep (w' := wr) (fun b hb => hbel.block b (by omega))) hlt
      obtain ⟨y, b', off', hy, rfl, hb', vf0, vc0⟩ := str_get (HL.out.2.keep (w' := wr) (fun b hb => hbel.block b (by omega))) hlt
      obtain rfl : x = y := by rw [hx] at hy; injection hy
      have hBw : B ≤ wr.heap.size := Nat.le_trans hB hbel.size
      clear hx hy uf0 vf0
      go_wp2
      refine wp_region_und (by kernel_rfl) (by kernel_rfl) ?_
      repeat (go_big_quiet_step ((first | fail)))
      refine wpQuiet_nil ?_
      intro X hX
      go_wp2
      go_roundw
      case rel => exact ⟨k + 1, by omega, by go_num, below_step hbel hX⟩
      case measure => simp [intOf]; omega
    · go_wp2
      go_ret
      exact ⟨rfl, hbel⟩
set_option maxHeartbeats 1000000 in
theorem eqLabel_c (x : Label)  (w : World) :
    Calls Try.prog 101 #[.agg #[.string x.Name, .string x.Value], .agg #[.string x.Name, .string x.Value]] w fun e w' => e = .returned (.bool true) ∧ Below w.heap.size w w' := by
  go_enter Try.func101, Try.ntmps101
  go_wp2
  go_ret
  exact ⟨rfl, below_new (below_new (Below.refl _ _) _) _⟩
set_option maxHeartbeats 1000000 in
theorem eqLabelS_c (l : List Label) (A A' : Option Addr) (n n' c c' : Nat) (w : World) (B : Nat) (hl : Mm.SlAt rLabel w B l A n c) (hl' : Mm.SlAt rLabel w B l A' n' c') (hB : B ≤ w.heap.size) :
    Calls Try.prog 79 #[.slice A n c, .slice A' n' c'] w fun e w' => e = .returned (.bool true) ∧ Below w.heap.size w w' := by
  obtain rfl : n = n' := hl.1.symm.trans hl'.1
  have hn : n ≤ 9223372036854775807 := by have := hl.2.1; have := hl.2.2.1; unfold maxLen at this; omega
  have HL : Hid (Mm.SlAt rLabel w B l A n c ∧ Mm.SlAt rLabel w B l A' n c') := ⟨hl, hl'⟩
  clear hl hl'
  go_enter Try.func79, Try.ntmps79
  go_wp2
  go_loopw [5] (fun i wr => ∃ k : Nat, k ≤ n ∧ i = .int .i64 k ∧ Below w.heap.size w wr) (fun i _ => n - (intOf i).toNat)
  case atStart => exact ⟨0, Nat.zero_le _, rfl, Below.refl _ _⟩
  case round =>
    obtain ⟨k, hk, rfl, hbel⟩ := hrel
    rename_i wr _
    by_cases hlt : k < n
    · obtain ⟨x, b, off, hx, rfl, hb, uf0, uf1, uc0, uc1⟩ := rLabel_get (HL.out.1.keep (w' := wr) (fun b hb => hbel.block b (by omega))) hlt
      obtain ⟨y, b', off', hy, rfl, hb', vf0, vf1, vc0, vc1⟩ := rLabel_get (HL.out.2.keep (w' := wr) (fun b hb => hbel.block b (by omega))) hlt
      obtain rfl : x = y := by rw [hx] at hy; injection hy
      have hBw : B ≤ wr.heap.size := Nat.le_trans hB hbel.size
      clear hx hy uf0 uf1 vf0 vf1
      go_wp2
      refine wp_region_und (by kernel_rfl) (by kernel_rfl) ?_
      repeat (go_big_quiet_step ((first | (go_at_call 101; exact und_call _ (eqLabel_c x _)))))
      refine wpQuiet_nil ?_
      intro X hX
      go_wp2
      go_roundw
      case rel => exact ⟨k + 1, by omega, by go_num, below_step hbel hX⟩
      case measure => simp [intOf]; omega
    · go_wp2
      go_ret
      exact ⟨rfl, hbel⟩
set_option maxHeartbeats 1000000 in
theorem eqItem_c (x : Item) (A : Option Addr) (n c : Nat) (A' : Option Addr) (n' c' : Nat) (w : World) (B : Nat) (g0 : Mm.SlAt rLabel w B x.Labels A n c) (g0' : Mm.SlAt rLabel w B x.Labels A' n' c') (hB : B ≤ w.heap.size) :
    Calls Try.prog 74 #[.agg #[.slice A n c, .int .i64 x.Value], .agg #[.slice A' n' c', .int .i64 x.Value]] w fun e w' => e = .returned (.bool true) ∧ Below w.heap.size w w' := by
  have HK1 := Lib.hid ((Mm.Blk.new w 91 [.slice A n c, .int .i64 x.Value]).alloc (.cells #[.slice A' n' c', .int .i64 x.Value] 91))
  have HK2 := Lib.hid (Mm.Blk.new' (w.alloc (.cells #[.slice A n c, .int .i64 x.Value] 91)) 91 [.slice A' n' c', .int .i64 x.Value] (Mm.sz1 _ _))
  have hb0 : Below w.heap.size w ((w.alloc (.cells #[.slice A n c, .int .i64 x.Value] 91)).alloc (.cells #[.slice A' n' c', .int .i64 x.Value] 91)) := below_new (below_new (Below.refl _ _) _) _
  have HB0 := Lib.hid hb0
  have HG := Lib.hid (And.intro hB (And.intro g0 g0'))
  clear hB g0 g0'
  clear hb0
  go_enter Try.func74, Try.ntmps74
  go_wp2_with fail
  refine (eqLabelS_c x.Labels _ _ _ _ _ _ _ B (HG.out.2.1.keep fun b hb => HB0.out.block b (Nat.lt_of_lt_of_le hb HG.out.1)) (HG.out.2.2.keep fun b hb => HB0.out.block b (Nat.lt_of_lt_of_le hb HG.out.1)) (Nat.le_trans HG.out.1 HB0.out.size)).mono ?_
  rintro e w1 ⟨rfl, hb1⟩
  have HB1 := Lib.hid (below_step HB0.out hb1)
  have HK1 := Lib.hid (HK1.out.bel hb1)
  have HK2 := Lib.hid (HK2.out.bel hb1)
  have p1_1 := HK1.out.cell (i := 1) rfl
  have q1_1 := HK2.out.cell (i := 1) rfl
  clear hb1
  go_wp2
  go_ret
  exact ⟨rfl, HB1.out⟩
theorem eqItem_at (x : Item) (cs cs' : List Value) (w : World) (B : Nat) (h : rItem.at_ w B x cs) (h' : rItem.at_ w B x cs') (hB : B ≤ w.heap.size) :
    Calls Try.prog 74 #[.agg cs.toArray, .agg cs'.toArray] w fun e w' => e = .returned (.bool true) ∧ Below w.heap.size w w' := by
  obtain ⟨A, n, c, rfl, g0, g1⟩ := rItem_at h
  obtain ⟨A', n', c', rfl, k0, k1⟩ := rItem_at h'
  exact eqItem_c x _ _ _ _ _ _ _ B g0 k0 hB
set_option maxHeartbeats 1000000 in
theorem eqItemS_c (l : List Item) (A A' : Option Addr) (n n' c c' : Nat) (w : World) (B : Nat) (hl : Mm.SlAt rItem w B l A n c) (hl' : Mm.SlAt rItem w B l A' n' c') (hB : B ≤ w.heap.size) :
    Calls Try.prog 44 #[.slice A n c, .slice A' n' c'] w fun e w' => e = .returned (.bool true) ∧ Below w.heap.size w w' := by
  obtain rfl : n = n' := hl.1.symm.trans hl'.1
  have hn : n ≤ 9223372036854775807 := by have := hl.2.1; have := hl.2.2.1; unfold maxLen at this; omega
  have HL : Hid (Mm.SlAt rItem w B l A n c ∧ Mm.SlAt rItem w B l A' n c') := ⟨hl, hl'⟩
  clear hl hl'
  go_enter Try.func44, Try.ntmps44
  go_wp2
  go_loopw [5] (fun i wr => ∃ k : Nat, k ≤ n ∧ i = .int .i64 k ∧ Below w.heap.size w wr) (fun i _ => n - (intOf i).toNat)
  case atStart => exact ⟨0, Nat.zero_le _, rfl, Below.refl _ _⟩
  case round =>
    obtain ⟨k, hk, rfl, hbel⟩ := hrel
    rename_i wr _
    by_cases hlt : k < n
    · obtain ⟨x, b, off, A1, n1, c1, hx, rfl, hb, uf0, uf1, uc0, uc1⟩ := rItem_get (HL.out.1.keep (w' := wr) (fun b hb => hbel.block b (by omega))) hlt
      obtain ⟨y, b', off', A2, n2, c2, hy, rfl, hb', vf0, vf1, vc0, vc1⟩ := rItem_get (HL.out.2.keep (w' := wr) (fun b hb => hbel.block b (by omega))) hlt
      obtain rfl : x = y := by rw [hx] at hy; injection hy
      have hBw : B ≤ wr.heap.size := Nat.le_trans hB hbel.size
      have HF := Lib.hid (And.intro uf0 vf0)
      clear hx hy uf0 uf1 vf0 vf1
      go_wp2
      refine wp_region_und (by kernel_rfl) (by kernel_rfl) ?_
      repeat (go_big_quiet_step ((first | (go_at_call 74; exact und_call _ (eqItem_c x _ _ _ _ _ _ _ B (HF.out.1.und hBw _) (HF.out.2.und hBw _) (Nat.le_trans hBw (und_size _)))))))
      refine wpQuiet_nil ?_
      intro X hX
      go_wp2
      go_roundw
      case rel => exact ⟨k + 1, by omega, by go_num, below_step hbel hX⟩
      case measure => simp [intOf]; omega
    · go_wp2
      go_ret
      exact ⟨rfl, hbel⟩
set_option maxHeartbeats 1000000 in
theorem eqTotal_c (x : Total) (A : Option Addr) (n c : Nat) (A' : Option Addr) (n' c' : Nat) (w : World) (B : Nat) (g0 : Mm.SlAt rLabel w B x.Labels A n c) (g0' : Mm.SlAt rLabel w B x.Labels A' n' c') (hB : B ≤ w.heap.size) :
    Calls Try.prog 54 #[.agg #[.slice A n c, .int .i64 x.Sum, .int .i64 x.Count, .int .i64 x.Least, .int .i64 x.Most], .agg #[.slice A' n' c', .int .i64 x.Sum, .int .i64 x.Count, .int .i64 x.Least, .int .i64 x.Most]] w fun e w' => e = .returned (.bool true) ∧ Below w.heap.size w w' := by
  have HK1 := Lib.hid ((Mm.Blk.new w 50 [.slice A n c, .int .i64 x.Sum, .int .i64 x.Count, .int .i64 x.Least, .int .i64 x.Most]).alloc (.cells #[.slice A' n' c', .int .i64 x.Sum, .int .i64 x.Count, .int .i64 x.Least, .int .i64 x.Most] 50))
  have HK2 := Lib.hid (Mm.Blk.new' (w.alloc (.cells #[.slice A n c, .int .i64 x.Sum, .int .i64 x.Count, .int .i64 x.Least, .int .i64 x.Most] 50)) 50 [.slice A' n' c', .int .i64 x.Sum, .int .i64 x.Count, .int .i64 x.Least, .int .i64 x.Most] (Mm.sz1 _ _))
  have hb0 : Below w.heap.size w ((w.alloc (.cells #[.slice A n c, .int .i64 x.Sum, .int .i64 x.Count, .int .i64 x.Least, .int .i64 x.Most] 50)).alloc (.cells #[.slice A' n' c', .int .i64 x.Sum, .int .i64 x.Count, .int .i64 x.Least, .int .i64 x.Most] 50)) := below_new (below_new (Below.refl _ _) _) _
  have HB0 := Lib.hid hb0
  have HG := Lib.hid (And.intro hB (And.intro g0 g0'))
  clear hB g0 g0'
  clear hb0
  go_enter Try.func54, Try.ntmps54
  go_wp2_with fail
  refine (eqLabelS_c x.Labels _ _ _ _ _ _ _ B (HG.out.2.1.keep fun b hb => HB0.out.block b (Nat.lt_of_lt_of_le hb HG.out.1)) (HG.out.2.2.keep fun b hb => HB0.out.block b (Nat.lt_of_lt_of_le hb HG.out.1)) (Nat.le_trans HG.out.1 HB0.out.size)).mono ?_
  rintro e w1 ⟨rfl, hb1⟩
  have HB1 := Lib.hid (below_step HB0.out hb1)
  have HK1 := Lib.hid (HK1.out.bel hb1)
  have HK2 := Lib.hid (HK2.out.bel hb1)
  have p1_1 := HK1.out.cell (i := 1) rfl
  have q1_1 := HK2.out.cell (i := 1) rfl
  have p1_2 := HK1.out.cell (i := 2) rfl
  have q1_2 := HK2.out.cell (i := 2) rfl
  have p1_3 := HK1.out.cell (i := 3) rfl
  have q1_3 := HK2.out.cell (i := 3) rfl
  have p1_4 := HK1.out.cell (i := 4) rfl
  have q1_4 := HK2.out.cell (i := 4) rfl
  clear hb1
  go_wp2
  go_ret
  exact ⟨rfl, HB1.out⟩
theorem eqTotal_at (x : Total) (cs cs' : List Value) (w : World) (B : Nat) (h : rTotal.at_ w B x cs) (h' : rTotal.at_ w B x cs') (hB : B ≤ w.heap.size) :
    Calls Try.prog 54 #[.agg cs.toArray, .agg cs'.toArray] w fun e w' => e = .returned (.bool true) ∧ Below w.heap.size w w' := by
  obtain ⟨A, n, c, rfl, g0, g1, g2, g3, g4⟩ := rTotal_at h
  obtain ⟨A', n', c', rfl, k0, k1, k2, k3, k4⟩ := rTotal_at h'
  exact eqTotal_c x _ _ _ _ _ _ _ B g0 k0 hB
set_option maxHeartbeats 1000000 in
theorem eqTotalS_c (l : List Total) (A A' : Option Addr) (n n' c c' : Nat) (w : World) (B : Nat) (hl : Mm.SlAt rTotal w B l A n c) (hl' : Mm.SlAt rTotal w B l A' n' c') (hB : B ≤ w.heap.size) :
    Calls Try.prog 14 #[.slice A n c, .slice A' n' c'] w fun e w' => e = .returned (.bool true) ∧ Below w.heap.size w w' := by
  obtain rfl : n = n' := hl.1.symm.trans hl'.1
  have hn : n ≤ 9223372036854775807 := by have := hl.2.1; have := hl.2.2.1; unfold maxLen at this; omega
  have HL : Hid (Mm.SlAt rTotal w B l A n c ∧ Mm.SlAt rTotal w B l A' n c') := ⟨hl, hl'⟩
  clear hl hl'
  go_enter Try.func14, Try.ntmps14
  go_wp2
  go_loopw [5] (fun i wr => ∃ k : Nat, k ≤ n ∧ i = .int .i64 k ∧ Below w.heap.size w wr) (fun i _ => n - (intOf i).toNat)
  case atStart => exact ⟨0, Nat.zero_le _, rfl, Below.refl _ _⟩
  case round =>
    obtain ⟨k, hk, rfl, hbel⟩ := hrel
    rename_i wr _
    by_cases hlt : k < n
    · obtain ⟨x, b, off, A1, n1, c1, hx, rfl, hb, uf0, uf1, uf2, uf3, uf4, uc0, uc1, uc2, uc3, uc4⟩ := rTotal_get (HL.out.1.keep (w' := wr) (fun b hb => hbel.block b (by omega))) hlt
      obtain ⟨y, b', off', A2, n2, c2, hy, rfl, hb', vf0, vf1, vf2, vf3, vf4, vc0, vc1, vc2, vc3, vc4⟩ := rTotal_get (HL.out.2.keep (w' := wr) (fun b hb => hbel.block b (by omega))) hlt
      obtain rfl : x = y := by rw [hx] at hy; injection hy
      have hBw : B ≤ wr.heap.size := Nat.le_trans hB hbel.size
      have HF := Lib.hid (And.intro uf0 vf0)
      clear hx hy uf0 uf1 uf2 uf3 uf4 vf0 vf1 vf2 vf3 vf4
      go_wp2
      refine wp_region_und (by kernel_rfl) (by kernel_rfl) ?_
      repeat (go_big_quiet_step ((first | (go_at_call 54; exact und_call _ (eqTotal_c x _ _ _ _ _ _ _ B (HF.out.1.und hBw _) (HF.out.2.und hBw _) (Nat.le_trans hBw (und_size _)))))))
      refine wpQuiet_nil ?_
      intro X hX
      go_wp2
      go_roundw
      case rel => exact ⟨k + 1, by omega, by go_num, below_step hbel hX⟩
      case measure => simp [intOf]; omega
    · go_wp2
      go_ret
      exact ⟨rfl, hbel⟩
end Go.Proofs.Ytnppcdiicnofpaa
