/-
  The laws' own comparisons answer true of two things that read alike. No conditions.
-/
import Derived.Test.YtjmcbggdckfefaaWa
import Derived.Test.YtjmcbggdckfefaaTy
import Derived.Test.YtjmcbggdckfefaaQu
import Derived.Lib.Hide
import Derived.Deep.DeepFit
namespace Go.Proofs.Ytjmcbggdckfefaa
open Go.RowKit
attribute [local go_sem] und_cell
set_option maxHeartbeats 1000000 in
theorem eqIntS_c (l : List Int) (A A' : Option Addr) (n n' c c' : Nat) (w : World) (B : Nat) (hl : Mm.SlAt Mm.int w B l A n c) (hl' : Mm.SlAt Mm.int w B l A' n' c') (hB : B ≤ w.heap.size) :
    Calls Try.prog 74 #[.slice A n c, .slice A' n' c'] w fun e w' => e = .returned (.bool true) ∧ Below w.heap.size w w' := by
  obtain rfl : n = n' := hl.1.symm.trans hl'.1
  have hn : n ≤ 9223372036854775807 := by have := hl.2.1; have := hl.2.2.1; unfold maxLen at this; omega
  have HL : Hid (Mm.SlAt Mm.int w B l A n c ∧ Mm.SlAt Mm.int w B l A' n c') := ⟨hl, hl'⟩
  clear hl hl'
  go_enter Try.func74, Try.ntmps74
  go_wp2
  go_loopw [5] (fun i wr => ∃ k : Nat, k ≤ n ∧ i = .int .i64 k ∧ Below w.heap.size w wr) (fun i _ => n - (intOf i).toNat)
  case atStart => exact ⟨0, Nat.zero_le _, rfl, Below.refl _ _⟩
  case round =>
    obtain ⟨k, hk, rfl, hbel⟩ := hrel
    rename_i wr _
    by_cases hlt : k < n
    · obtain ⟨x, b, off, hx, rfl, hb, uf0, uc0⟩ := int_get (HL.out.1.keep (w' := wr) (fun b hb => hbel.block b (by omega))) hlt
      obtain ⟨y, b', off', hy, rfl, hb', vf0, vc0⟩ := int_get (HL.out.2.keep (w' := wr) (fun b hb => hbel.block b (by omega))) hlt
      obtain rfl : x = y := by rw [hx] at hy; injection hy
      have hBw : B ≤ wr.heap.size := Nat.le_trans hB hbel.size
      clear hx hy uf0 vf0
      go_wp2
      refine wp_region_und (by kernel_rfl) (by kernel_rfl) ?_
      repeat (go_big_quiet_step ((first | fail)))
      refine wpQuiet_nil ?_
      intro X hX
      go_wp2
      go_roundw
      case rel => exact ⟨k + 1, by omega, by go_num, below_step hbel hX⟩
      case measure => simp [intOf]; omega
    · go_wp2
      go_ret
      exact ⟨rfl, hbel⟩
set_option maxHeartbeats 1000000 in
theorem eqStringS_c (l : List ByteArray) (A A' : Option Addr) (n n' c c' : Nat) (w : World) (B : Nat) (hl : Mm.SlAt Mm.str w B l A n c) (hl' : Mm.SlAt Mm.str w B l A' n' c') (hB : B ≤ w.heap.size) :
    Calls Try.prog 26 #[.slice A n c, .slice A' n' c'] w fun e w' => e = .returned (.bool true) ∧ Below w.heap.size w w' := by
  obtain rfl : n = n' := hl.1.symm.trans hl'.1
  have hn : n ≤ 9223372036854775807 := by have := hl.2.1; have := hl.2.2.1; unfold maxLen at this; omega
  have HL : Hid (Mm.SlAt Mm.str w B l A n c ∧ Mm.SlAt Mm.str w B l A' n c') := ⟨hl, hl'⟩
  clear hl hl'
  go_enter Try.func26, Try.ntmps26
  go_wp2
  go_loopw [5] (fun i wr => ∃ k : Nat, k ≤ n ∧ i = .int .i64 k ∧ Below w.heap.size w wr) (fun i _ => n - (intOf i).toNat)
  case atStart => exact ⟨0, Nat.zero_le _, rfl, Below.refl _ _⟩
  case round =>
    obtain ⟨k, hk, rfl, hbel⟩ := hrel
    rename_i wr _
    by_cases hlt : k < n
    · obtain ⟨x, b, off, hx, rfl, hb, uf0, uc0⟩ := str_get (HL.out.1.keep (w' := wr) (fun b hb => hbel.block b (by omega))) hlt
      obtain ⟨y, b', off', hy, rfl, hb', vf0, vc0⟩ := str_get (HL.out.2.keep (w' := wr) (fun b hb => hbel.block b (by omega))) hlt
      obtain rfl : x = y := by rw [hx] at hy; injection hy
      have hBw : B ≤ wr.heap.size := Nat.le_trans hB hbel.size
      clear hx hy uf0 vf0
      go_wp2
      refine wp_region_und (by kernel_rfl) (by kernel_rfl) ?_
      repeat (go_big_quiet_step ((first | fail)))
      refine wpQuiet_nil ?_
      intro X hX
      go_wp2
      go_roundw
      case rel => exact ⟨k + 1, by omega, by go_num, below_step hbel hX⟩
      case measure => simp [intOf]; omega
    · go_wp2
      go_ret
      exact ⟨rfl, hbel⟩
set_option maxHeartbeats 1000000 in
theorem eqIntSS_c (l : List (List Int)) (A A' : Option Addr) (n n' c c' : Nat) (w : World) (B : Nat) (hl : Mm.SlAt ints w B l A n c) (hl' : Mm.SlAt ints w B l A' n' c') (hB : B ≤ w.heap.size) :
    Calls Try.prog 62 #[.slice A n c, .slice A' n' c'] w fun e w' => e = .returned (.bool true) ∧ Below w.heap.size w w' := by
  obtain rfl : n = n' := hl.1.symm.trans hl'.1
  have hn : n ≤ 9223372036854775807 := by have := hl.2.1; have := hl.2.2.1; unfold maxLen at this; omega
  have HL : Hid (Mm.SlAt ints w B l A n c ∧ Mm.SlAt ints w B l A' n c') := ⟨hl, hl'⟩
  clear hl hl'
  go_enter Try.func62, Try.ntmps62
  go_wp2
  go_loopw [5] (fun i wr => ∃ k : Nat, k ≤ n ∧ i = .int .i64 k ∧ Below w.heap.size w wr) (fun i _ => n - (intOf i).toNat)
  case atStart => exact ⟨0, Nat.zero_le _, rfl, Below.refl _ _⟩
  case round =>
    obtain ⟨k, hk, rfl, hbel⟩ := hrel
    rename_i wr _
    by_cases hlt : k < n
    · obtain ⟨x, b, off, P1, p1, q1, hx, rfl, hb, uf0, uc0⟩ := ints_get (HL.out.1.keep (w' := wr) (fun b hb => hbel.block b (by omega))) hlt
      obtain ⟨y, b', off', P2, p2, q2, hy, rfl, hb', vf0, vc0⟩ := ints_get (HL.out.2.keep (w' := wr) (fun b hb => hbel.block b (by omega))) hlt
      obtain rfl : x = y := by rw [hx] at hy; injection hy
      have hBw : B ≤ wr.heap.size := Nat.le_trans hB hbel.size
      have HF := Lib.hid (And.intro uf0 vf0)
      clear hx hy uf0 vf0
      go_wp2
      refine wp_region_und (by kernel_rfl) (by kernel_rfl) ?_
      repeat (go_big_quiet_step ((first | (go_at_call 74; exact und_call _ (eqIntS_c x _ _ _ _ _ _ _ B (HF.out.1.und hBw _) (HF.out.2.und hBw _) (Nat.le_trans hBw (und_size _)))))))
      refine wpQuiet_nil ?_
      intro X hX
      go_wp2
      go_roundw
      case rel => exact ⟨k + 1, by omega, by go_num, below_step hbel hX⟩
      case measure => simp [intOf]; omega
    · go_wp2
      go_ret
      exact ⟨rfl, hbel⟩
set_option maxHeartbeats 1000000 in
theorem eqSketch_c (x : Sketch) (A : Option Addr) (n c : Nat) (A' : Option Addr) (n' c' : Nat) (w : World) (B : Nat) (g0 : Mm.SlAt ints w B x.Rows A n c) (g0' : Mm.SlAt ints w B x.Rows A' n' c') (hB : B ≤ w.heap.size) :
    Calls Try.prog 12 #[.agg #[.slice A n c, .int .i64 x.Total], .agg #[.slice A' n' c', .int .i64 x.Total]] w fun e w' => e = .returned (.bool true) ∧ Below w.heap.size w w' := by
  have HK1 := Lib.hid ((Mm.Blk.new w 26 [.slice A n c, .int .i64 x.Total]).alloc (.cells #[.slice A' n' c', .int .i64 x.Total] 26))
  have HK2 := Lib.hid (Mm.Blk.new' (w.alloc (.cells #[.slice A n c, .int .i64 x.Total] 26)) 26 [.slice A' n' c', .int .i64 x.Total] (Mm.sz1 _ _))
  have hb0 : Below w.heap.size w ((w.alloc (.cells #[.slice A n c, .int .i64 x.Total] 26)).alloc (.cells #[.slice A' n' c', .int .i64 x.Total] 26)) := below_new (below_new (Below.refl _ _) _) _
  have HB0 := Lib.hid hb0
  have HG := Lib.hid (And.intro hB (And.intro g0 g0'))
  clear hB g0 g0'
  clear hb0
  go_enter Try.func12, Try.ntmps12
  go_wp2_with fail
  refine (eqIntSS_c x.Rows _ _ _ _ _ _ _ B (HG.out.2.1.keep fun b hb => HB0.out.block b (Nat.lt_of_lt_of_le hb HG.out.1)) (HG.out.2.2.keep fun b hb => HB0.out.block b (Nat.lt_of_lt_of_le hb HG.out.1)) (Nat.le_trans HG.out.1 HB0.out.size)).mono ?_
  rintro e w1 ⟨rfl, hb1⟩
  have HB1 := Lib.hid (below_step HB0.out hb1)
  have HK1 := Lib.hid (HK1.out.bel hb1)
  have HK2 := Lib.hid (HK2.out.bel hb1)
  have p1_1 := HK1.out.cell (i := 1) rfl
  have q1_1 := HK2.out.cell (i := 1) rfl
  clear hb1
  go_wp2
  go_ret
  exact ⟨rfl, HB1.out⟩
theorem eqSketch_at (x : Sketch) (cs cs' : List Value) (w : World) (B : Nat) (h : sk.at_ w B x cs) (h' : sk.at_ w B x cs') (hB : B ≤ w.heap.size) :
    Calls Try.prog 12 #[.agg cs.toArray, .agg cs'.toArray] w fun e w' => e = .returned (.bool true) ∧ Below w.heap.size w w' := by
  obtain ⟨A, n, c, rfl, g0, g1⟩ := sk_at h
  obtain ⟨A', n', c', rfl, k0, k1⟩ := sk_at h'
  exact eqSketch_c x _ _ _ _ _ _ _ B g0 k0 hB
set_option maxHeartbeats 1000000 in
theorem eqHeavy_c (x : Heavy) (A0 : Option Addr) (n0 c0 : Nat) (A1 : Option Addr) (n1 c1 : Nat) (A0' : Option Addr) (n0' c0' : Nat) (A1' : Option Addr) (n1' c1' : Nat) (w : World) (B : Nat) (g0 : Mm.SlAt Mm.str w B x.Names A0 n0 c0) (g0' : Mm.SlAt Mm.str w B x.Names A0' n0' c0') (g1 : Mm.SlAt Mm.int w B x.Counts A1 n1 c1) (g1' : Mm.SlAt Mm.int w B x.Counts A1' n1' c1') (hB : B ≤ w.heap.size) :
    Calls Try.prog 19 #[.agg #[.slice A0 n0 c0, .slice A1 n1 c1, .int .i64 x.Gone, .int .i64 x.Total], .agg #[.slice A0' n0' c0', .slice A1' n1' c1', .int .i64 x.Gone, .int .i64 x.Total]] w fun e w' => e = .returned (.bool true) ∧ Below w.heap.size w w' := by
  have HK1 := Lib.hid ((Mm.Blk.new w 38 [.slice A0 n0 c0, .slice A1 n1 c1, .int .i64 x.Gone, .int .i64 x.Total]).alloc (.cells #[.slice A0' n0' c0', .slice A1' n1' c1', .int .i64 x.Gone, .int .i64 x.Total] 38))
  have HK2 := Lib.hid (Mm.Blk.new' (w.alloc (.cells #[.slice A0 n0 c0, .slice A1 n1 c1, .int .i64 x.Gone, .int .i64 x.Total] 38)) 38 [.slice A0' n0' c0', .slice A1' n1' c1', .int .i64 x.Gone, .int .i64 x.Total] (Mm.sz1 _ _))
  have hb0 : Below w.heap.size w ((w.alloc (.cells #[.slice A0 n0 c0, .slice A1 n1 c1, .int .i64 x.Gone, .int .i64 x.Total] 38)).alloc (.cells #[.slice A0' n0' c0', .slice A1' n1' c1', .int .i64 x.Gone, .int .i64 x.Total] 38)) := below_new (below_new (Below.refl _ _) _) _
  have HB0 := Lib.hid hb0
  have HG := Lib.hid (And.intro hB (And.intro (And.intro g0 g0') (And.intro g1 g1')))
  clear hB g0 g0' g1 g1'
  clear hb0
  go_enter Try.func19, Try.ntmps19
  go_wp2_with fail
  refine (eqStringS_c x.Names _ _ _ _ _ _ _ B (HG.out.2.1.1.keep fun b hb => HB0.out.block b (Nat.lt_of_lt_of_le hb HG.out.1)) (HG.out.2.1.2.keep fun b hb => HB0.out.block b (Nat.lt_of_lt_of_le hb HG.out.1)) (Nat.le_trans HG.out.1 HB0.out.size)).mono ?_
  rintro e w1 ⟨rfl, hb1⟩
  have HB1 := Lib.hid (below_step HB0.out hb1)
  have HK1 := Lib.hid (HK1.out.bel hb1)
  have HK2 := Lib.hid (HK2.out.bel hb1)
  have p1_1 := HK1.out.cell (i := 1) rfl
  have q1_1 := HK2.out.cell (i := 1) rfl
  have p1_2 := HK1.out.cell (i := 2) rfl
  have q1_2 := HK2.out.cell (i := 2) rfl
  have p1_3 := HK1.out.cell (i := 3) rfl
  have q1_3 := HK2.out.cell (i := 3) rfl
  clear hb1
  go_wp2_with fail
  refine (eqIntS_c x.Counts _ _ _ _ _ _ _ B (HG.out.2.2.1.keep fun b hb => HB1.out.block b (Nat.lt_of_lt_of_le hb HG.out.1)) (HG.out.2.2.2.keep fun b hb => HB1.out.block b (Nat.lt_of_lt_of_le hb HG.out.1)) (Nat.le_trans HG.out.1 HB1.out.size)).mono ?_
  rintro e w2 ⟨rfl, hb2⟩
  have HB2 := Lib.hid (below_step HB1.out hb2)
  have HK1 := Lib.hid (HK1.out.bel hb2)
  have HK2 := Lib.hid (HK2.out.bel hb2)
  have p2_2 := HK1.out.cell (i := 2) rfl
  have q2_2 := HK2.out.cell (i := 2) rfl
  have p2_3 := HK1.out.cell (i := 3) rfl
  have q2_3 := HK2.out.cell (i := 3) rfl
  clear hb2
  go_wp2
  go_ret
  exact ⟨rfl, HB2.out⟩
theorem eqHeavy_at (x : Heavy) (cs cs' : List Value) (w : World) (B : Nat) (h : rHeavy.at_ w B x cs) (h' : rHeavy.at_ w B x cs') (hB : B ≤ w.heap.size) :
    Calls Try.prog 19 #[.agg cs.toArray, .agg cs'.toArray] w fun e w' => e = .returned (.bool true) ∧ Below w.heap.size w w' := by
  obtain ⟨A0, n0, c0, A1, n1, c1, rfl, g0, g1, g2, g3⟩ := rHeavy_at h
  obtain ⟨A0', n0', c0', A1', n1', c1', rfl, k0, k1, k2, k3⟩ := rHeavy_at h'
  exact eqHeavy_c x _ _ _ _ _ _ _ _ _ _ _ _ _ B g0 k0 g1 k1 hB
end Go.Proofs.Ytjmcbggdckfefaa
