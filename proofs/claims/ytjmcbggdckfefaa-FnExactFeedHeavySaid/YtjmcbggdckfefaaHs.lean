/-
  The laws' own sizes of arguments. No conditions.
-/
import Derived.Test.YtjmcbggdckfefaaWa
import Derived.Test.YtjmcbggdckfefaaTy
import Derived.Test.YtjmcbggdckfefaaQu
import Derived.Lib.Hide
import Derived.Deep.DeepFit
namespace Go.Proofs.Ytjmcbggdckfefaa
open Go.RowKit
attribute [local go_sem] und_cell
set_option maxHeartbeats 1000000 in
theorem szIntS_c (l : List Int) (A : Option Addr) (n c : Nat) (left : Int) (w : World) (B : Nat) (hl : Mm.SlAt Mm.int w B l A n c) (hB : B ≤ w.heap.size) (h0 : 0 ≤ left) (h1 : left ≤ 1048576) :
    Calls Try.prog 65 #[.slice A n c, .int .i64 left] w fun e w' => e = .returned (.int .i64 (Pl.szRet left (Pl.szl Pl.sz0 l))) ∧ Below w.heap.size w w' := by
  have hn : n ≤ 9223372036854775807 := by have := hl.2.1; have := hl.2.2.1; unfold maxLen at this; omega
  have hlen : Hid (l.length = n) := hl.1
  have HZ : Hid (Pl.szl Pl.sz0 l = (n : Int)) := by show _ = _; rw [Pl.szl_zero, hlen.out]
  clear hl
  by_cases h : left - (n : Int) < 0
  · go_enter Try.func65, Try.ntmps65
    go_wp2
    go_ret
    exact ⟨ret_int (by rw [HZ.out, Pl.szRet_lt (by omega)]), Below.refl _ _⟩
  · go_enter Try.func65, Try.ntmps65
    go_wp2
    go_ret
    exact ⟨ret_int (by rw [HZ.out, Pl.szRet_ge (by omega)]), Below.refl _ _⟩
set_option maxHeartbeats 1000000 in
theorem szStringS_c (l : List ByteArray) (A : Option Addr) (n c : Nat) (left : Int) (w : World) (B : Nat) (hl : Mm.SlAt Mm.str w B l A n c) (hB : B ≤ w.heap.size) (h0 : 0 ≤ left) (h1 : left ≤ 1048576) :
    Calls Try.prog 22 #[.slice A n c, .int .i64 left] w fun e w' => e = .returned (.int .i64 (Pl.szRet left (Pl.szl Pl.szStr l))) ∧ Below w.heap.size w w' := by
  have hn : n ≤ 9223372036854775807 := by have := hl.2.1; have := hl.2.2.1; unfold maxLen at this; omega
  have hlen : Hid (l.length = n) := hl.1
  have HL := Lib.hid hl
  have HZ : Hid (Pl.szl Pl.szStr l = (n : Int) + Pl.sumI Pl.szStr l) := by show _ = _; unfold Pl.szl; rw [hlen.out]
  have HN : Hid (∀ x : ByteArray, 0 ≤ Pl.szStr x) := Pl.szStr_nn
  have hs0 := Pl.sumI_nn HN.out l
  clear hl
  by_cases h : left - (n : Int) < 0
  · go_enter Try.func22, Try.ntmps22
    go_wp2
    go_ret
    exact ⟨ret_int (by rw [HZ.out, Pl.szRet_lt (by omega)]), Below.refl _ _⟩
  · go_enter Try.func22, Try.ntmps22
    go_wp2
    go_loopw [1, 5] (fun lf i wr => ∃ k : Nat, k ≤ n ∧ i = .int .i64 k ∧ (∃ s : Int, 0 ≤ s ∧ s ≤ left ∧ s = left - n - Pl.sumI Pl.szStr (l.take k) ∧ lf = .int .i64 s) ∧ Below w.heap.size w wr) (fun _ i _ => n - (intOf i).toNat)
    case atStart => exact ⟨0, Nat.zero_le _, rfl, ⟨_, by omega, by omega, by simp [Pl.sumI], rfl⟩, Below.refl _ _⟩
    case round =>
      obtain ⟨k, hk, rfl, ⟨s, hs1, hs2, hs3, rfl⟩, hbel⟩ := hrel
      rename_i wr _
      have HS := Lib.hid hs3
      clear hs3
      by_cases hlt : k < n
      · obtain ⟨x, b, off, hx, rfl, hb, f0, d0⟩ := str_get (HL.out.keep (w' := wr) (fun b hb => hbel.block b (by omega))) hlt
        have hBw : B ≤ wr.heap.size := Nat.le_trans hB hbel.size
        have hx0 := HN.out x
        have hsn : Pl.sumI Pl.szStr (l.take (k + 1)) = Pl.sumI Pl.szStr (l.take k) + Pl.szStr x := Pl.sumI_succ hx
        have hst := Pl.sumI_take HN.out l (k + 1)
        have HA := Lib.hid (And.intro hsn hst)
        clear hsn hst hx
        have hxe : Pl.szStr x = (x.size : Int) := rfl
        have HE := Lib.hid hxe
        unfold maxLen at f0
        clear hx0 hxe
        by_cases hneg : s - (x.size : Int) < 0
        · go_wp2
          go_ret
          exact ⟨ret_int (by rw [HZ.out, Pl.szRet_lt (by have := HA.out.1; have := HA.out.2; have := HS.out; have := HE.out; omega)]), hbel⟩
        · go_wp2
          go_roundw
          case rel => exact ⟨k + 1, by omega, by go_num, ⟨_, by omega, by omega, by have := HA.out.1; have := HS.out; have := HE.out; omega, rfl⟩, hbel⟩
          case measure => simp [intOf]; omega
      · have HK : Hid (l.take k = l) := List.take_of_length_le (by have := hlen.out; omega)
        go_wp2
        go_ret
        exact ⟨ret_int (by have := HS.out; rw [HK.out] at this; rw [HZ.out, Pl.szRet_ge (by omega)]; omega), hbel⟩
set_option maxHeartbeats 1000000 in
theorem szIntSS_c (l : List (List Int)) (A : Option Addr) (n c : Nat) (left : Int) (w : World) (B : Nat) (hl : Mm.SlAt ints w B l A n c) (hB : B ≤ w.heap.size) (h0 : 0 ≤ left) (h1 : left ≤ 1048576) :
    Calls Try.prog 56 #[.slice A n c, .int .i64 left] w fun e w' => e = .returned (.int .i64 (Pl.szRet left (Pl.szl (Pl.szl Pl.sz0) l))) ∧ Below w.heap.size w w' := by
  have hn : n ≤ 9223372036854775807 := by have := hl.2.1; have := hl.2.2.1; unfold maxLen at this; omega
  have hlen : Hid (l.length = n) := hl.1
  have HL := Lib.hid hl
  have HZ : Hid (Pl.szl (Pl.szl Pl.sz0) l = (n : Int) + Pl.sumI (Pl.szl Pl.sz0) l) := by show _ = _; unfold Pl.szl; rw [hlen.out]
  have HN : Hid (∀ x : (List Int), 0 ≤ (Pl.szl Pl.sz0) x) := Pl.szl_nn (f := Pl.sz0) (Pl.sz0_nn)
  have hs0 := Pl.sumI_nn HN.out l
  clear hl
  by_cases h : left - (n : Int) < 0
  · go_enter Try.func56, Try.ntmps56
    go_wp2
    go_ret
    exact ⟨ret_int (by rw [HZ.out, Pl.szRet_lt (by omega)]), Below.refl _ _⟩
  · go_enter Try.func56, Try.ntmps56
    go_wp2
    go_loopw [1, 5] (fun lf i wr => ∃ k : Nat, k ≤ n ∧ i = .int .i64 k ∧ (∃ s : Int, 0 ≤ s ∧ s ≤ left ∧ s = left - n - Pl.sumI (Pl.szl Pl.sz0) (l.take k) ∧ lf = .int .i64 s) ∧ Below w.heap.size w wr) (fun _ i _ => n - (intOf i).toNat)
    case atStart => exact ⟨0, Nat.zero_le _, rfl, ⟨_, by omega, by omega, by simp [Pl.sumI], rfl⟩, Below.refl _ _⟩
    case round =>
      obtain ⟨k, hk, rfl, ⟨s, hs1, hs2, hs3, rfl⟩, hbel⟩ := hrel
      rename_i wr _
      have HS := Lib.hid hs3
      clear hs3
      by_cases hlt : k < n
      · obtain ⟨x, b, off, P, p, q, hx, rfl, hb, f0, d0⟩ := ints_get (HL.out.keep (w' := wr) (fun b hb => hbel.block b (by omega))) hlt
        have hBw : B ≤ wr.heap.size := Nat.le_trans hB hbel.size
        have hx0 := HN.out x
        have hsn : Pl.sumI (Pl.szl Pl.sz0) (l.take (k + 1)) = Pl.sumI (Pl.szl Pl.sz0) (l.take k) + (Pl.szl Pl.sz0) x := Pl.sumI_succ hx
        have hst := Pl.sumI_take HN.out l (k + 1)
        have HA := Lib.hid (And.intro hsn hst)
        clear hsn hst hx
        have HF := Lib.hid f0
        clear f0
        by_cases hneg : s - (Pl.szl Pl.sz0) x < 0
        · go_wp2_with fail
          refine (szIntS_c x _ _ _ _ _ B HF.out hBw (by omega) (by omega)).mono ?_
          rintro e w1 ⟨rfl, hb1⟩
          rw [Pl.szRet_lt hneg]
          go_wp2
          go_ret
          exact ⟨ret_int (by rw [HZ.out, Pl.szRet_lt (by have := HA.out.1; have := HA.out.2; have := HS.out; omega)]), below_step hbel hb1⟩
        · go_wp2_with fail
          refine (szIntS_c x _ _ _ _ _ B HF.out hBw (by omega) (by omega)).mono ?_
          rintro e w1 ⟨rfl, hb1⟩
          rw [Pl.szRet_ge (by omega)]
          go_wp2
          go_roundw
          case rel => exact ⟨k + 1, by omega, by go_num, ⟨_, by omega, by omega, by have := HA.out.1; have := HS.out; omega, rfl⟩, below_step hbel hb1⟩
          case measure => simp [intOf]; omega
      · have HK : Hid (l.take k = l) := List.take_of_length_le (by have := hlen.out; omega)
        go_wp2
        go_ret
        exact ⟨ret_int (by have := HS.out; rw [HK.out] at this; rw [HZ.out, Pl.szRet_ge (by omega)]; omega), hbel⟩
set_option maxHeartbeats 1000000 in
theorem szSketch_c (x : Sketch) (A : Option Addr) (n c : Nat) (left : Int) (w : World) (B : Nat) (g0 : Mm.SlAt ints w B x.Rows A n c) (hB : B ≤ w.heap.size) (h0 : 0 ≤ left) (h1 : left ≤ 1048576) :
    Calls Try.prog 8 #[.agg #[.slice A n c, .int .i64 x.Total], .int .i64 left] w fun e w' => e = .returned (.int .i64 (Pl.szRet left (Pl.szSketch x))) ∧ Below w.heap.size w w' := by
  have HK := Lib.hid (Mm.Blk.new w 24 [.slice A n c, .int .i64 x.Total])
  have hb0 : Below w.heap.size w (w.alloc (.cells #[.slice A n c, .int .i64 x.Total] 24)) := below_new (Below.refl _ _) _
  have HB0 := Lib.hid hb0
  clear hb0
  have HG := Lib.hid (And.intro hB g0)
  clear g0
  have zn0 := Pl.szl_nn (f := (Pl.szl Pl.sz0)) (Pl.szl_nn (f := Pl.sz0) (Pl.sz0_nn)) x.Rows
  have hz : Pl.szSketch x = (Pl.szl (Pl.szl Pl.sz0)) x.Rows := rfl
  have HZ := Lib.hid hz
  clear hz
  by_cases t0 : left - (Pl.szl (Pl.szl Pl.sz0)) x.Rows < 0
  · go_enter Try.func8, Try.ntmps8
    go_wp2_with fail
    refine (szIntSS_c x.Rows _ _ _ _ _ B (HG.out.2.keep fun b hb => HB0.out.block b (Nat.lt_of_lt_of_le hb HG.out.1)) (Nat.le_trans HG.out.1 HB0.out.size) (by omega) (by omega)).mono ?_
    rintro e w1 ⟨rfl, hb1⟩
    rw [Pl.szRet_lt (by omega)]
    have HB1 := Lib.hid (below_step HB0.out hb1)
    have HK := Lib.hid (HK.out.bel hb1)
    clear hb1
    go_wp2
    go_ret
    exact ⟨ret_int (by rw [HZ.out, Pl.szRet_lt (by omega)]), HB1.out⟩
  · go_enter Try.func8, Try.ntmps8
    go_wp2_with fail
    refine (szIntSS_c x.Rows _ _ _ _ _ B (HG.out.2.keep fun b hb => HB0.out.block b (Nat.lt_of_lt_of_le hb HG.out.1)) (Nat.le_trans HG.out.1 HB0.out.size) (by omega) (by omega)).mono ?_
    rintro e w1 ⟨rfl, hb1⟩
    rw [Pl.szRet_ge (by omega)]
    have HB1 := Lib.hid (below_step HB0.out hb1)
    have HK := Lib.hid (HK.out.bel hb1)
    clear hb1
    go_wp2
    go_ret
    exact ⟨ret_int (by have hh : Pl.szRet left (Pl.szSketch x) = left - Pl.szSketch x := Pl.szRet_ge (by rw [HZ.out]; omega); have h2 := HZ.out; omega), HB1.out⟩
theorem szSketch_at (x : Sketch) (cs : List Value) (left : Int) (w : World) (B : Nat) (h : sk.at_ w B x cs) (hB : B ≤ w.heap.size) (h0 : 0 ≤ left) (h1 : left ≤ 1048576) :
    Calls Try.prog 8 #[.agg cs.toArray, .int .i64 left] w fun e w' => e = .returned (.int .i64 (Pl.szRet left (Pl.szSketch x))) ∧ Below w.heap.size w w' := by
  obtain ⟨A, n, c, rfl, g0, g1⟩ := sk_at h
  exact szSketch_c x _ _ _ left _ B g0 hB h0 h1
set_option maxHeartbeats 1000000 in
theorem szHeavy_c (x : Heavy) (A0 : Option Addr) (n0 c0 : Nat) (A1 : Option Addr) (n1 c1 : Nat) (left : Int) (w : World) (B : Nat) (g0 : Mm.SlAt Mm.str w B x.Names A0 n0 c0) (g1 : Mm.SlAt Mm.int w B x.Counts A1 n1 c1) (hB : B ≤ w.heap.size) (h0 : 0 ≤ left) (h1 : left ≤ 1048576) :
    Calls Try.prog 15 #[.agg #[.slice A0 n0 c0, .slice A1 n1 c1, .int .i64 x.Gone, .int .i64 x.Total], .int .i64 left] w fun e w' => e = .returned (.int .i64 (Pl.szRet left (Pl.szHeavy x))) ∧ Below w.heap.size w w' := by
  have HK := Lib.hid (Mm.Blk.new w 36 [.slice A0 n0 c0, .slice A1 n1 c1, .int .i64 x.Gone, .int .i64 x.Total])
  have hb0 : Below w.heap.size w (w.alloc (.cells #[.slice A0 n0 c0, .slice A1 n1 c1, .int .i64 x.Gone, .int .i64 x.Total] 36)) := below_new (Below.refl _ _) _
  have HB0 := Lib.hid hb0
  clear hb0
  have HG := Lib.hid (And.intro hB (And.intro g0 g1))
  clear g0 g1
  have zn0 := Pl.szl_nn (f := Pl.szStr) (Pl.szStr_nn) x.Names
  have zn1 := Pl.szl_nn (f := Pl.sz0) (Pl.sz0_nn) x.Counts
  have hz : Pl.szHeavy x = (Pl.szl Pl.szStr) x.Names + (Pl.szl Pl.sz0) x.Counts := rfl
  have HZ := Lib.hid hz
  clear hz
  by_cases t0 : left - (Pl.szl Pl.szStr) x.Names < 0
  · go_enter Try.func15, Try.ntmps15
    go_wp2_with fail
    refine (szStringS_c x.Names _ _ _ _ _ B (HG.out.2.1.keep fun b hb => HB0.out.block b (Nat.lt_of_lt_of_le hb HG.out.1)) (Nat.le_trans HG.out.1 HB0.out.size) (by omega) (by omega)).mono ?_
    rintro e w1 ⟨rfl, hb1⟩
    rw [Pl.szRet_lt (by omega)]
    have HB1 := Lib.hid (below_step HB0.out hb1)
    have HK := Lib.hid (HK.out.bel hb1)
    have p1_1 := HK.out.cell (i := 1) rfl
    clear hb1
    go_wp2
    go_ret
    exact ⟨ret_int (by rw [HZ.out, Pl.szRet_lt (by omega)]), HB1.out⟩
  · skip
    by_cases t1 : left - (Pl.szl Pl.szStr) x.Names - (Pl.szl Pl.sz0) x.Counts < 0
    · go_enter Try.func15, Try.ntmps15
      go_wp2_with fail
      refine (szStringS_c x.Names _ _ _ _ _ B (HG.out.2.1.keep fun b hb => HB0.out.block b (Nat.lt_of_lt_of_le hb HG.out.1)) (Nat.le_trans HG.out.1 HB0.out.size) (by omega) (by omega)).mono ?_
      rintro e w1 ⟨rfl, hb1⟩
      rw [Pl.szRet_ge (by omega)]
      have HB1 := Lib.hid (below_step HB0.out hb1)
      have HK := Lib.hid (HK.out.bel hb1)
      have p1_1 := HK.out.cell (i := 1) rfl
      clear hb1
      go_wp2_with fail
      refine (szIntS_c x.Counts _ _ _ _ _ B (HG.out.2.2.keep fun b hb => HB1.out.block b (Nat.lt_of_lt_of_le hb HG.out.1)) (Nat.le_trans HG.out.1 HB1.out.size) (by omega) (by omega)).mono ?_
      rintro e w2 ⟨rfl, hb2⟩
      rw [Pl.szRet_lt (by omega)]
      have HB2 := Lib.hid (below_step HB1.out hb2)
      have HK := Lib.hid (HK.out.bel hb2)
      clear hb2
      go_wp2
      go_ret
      exact ⟨ret_int (by rw [HZ.out, Pl.szRet_lt (by omega)]), HB2.out⟩
    · go_enter Try.func15, Try.ntmps15
      go_wp2_with fail
      refine (szStringS_c x.Names _ _ _ _ _ B (HG.out.2.1.keep fun b hb => HB0.out.block b (Nat.lt_of_lt_of_le hb HG.out.1)) (Nat.le_trans HG.out.1 HB0.out.size) (by omega) (by omega)).mono ?_
      rintro e w1 ⟨rfl, hb1⟩
      rw [Pl.szRet_ge (by omega)]
      have HB1 := Lib.hid (below_step HB0.out hb1)
      have HK := Lib.hid (HK.out.bel hb1)
      have p1_1 := HK.out.cell (i := 1) rfl
      clear hb1
      go_wp2_with fail
      refine (szIntS_c x.Counts _ _ _ _ _ B (HG.out.2.2.keep fun b hb => HB1.out.block b (Nat.lt_of_lt_of_le hb HG.out.1)) (Nat.le_trans HG.out.1 HB1.out.size) (by omega) (by omega)).mono ?_
      rintro e w2 ⟨rfl, hb2⟩
      rw [Pl.szRet_ge (by omega)]
      have HB2 := Lib.hid (below_step HB1.out hb2)
      have HK := Lib.hid (HK.out.bel hb2)
      clear hb2
      go_wp2
      go_ret
      exact ⟨ret_int (by have hh : Pl.szRet left (Pl.szHeavy x) = left - Pl.szHeavy x := Pl.szRet_ge (by rw [HZ.out]; omega); have h2 := HZ.out; omega), HB2.out⟩
theorem szHeavy_at (x : Heavy) (cs : List Value) (left : Int) (w : World) (B : Nat) (h : rHeavy.at_ w B x cs) (hB : B ≤ w.heap.size) (h0 : 0 ≤ left) (h1 : left ≤ 1048576) :
    Calls Try.prog 15 #[.agg cs.toArray, .int .i64 left] w fun e w' => e = .returned (.int .i64 (Pl.szRet left (Pl.szHeavy x))) ∧ Below w.heap.size w w' := by
  obtain ⟨A0, n0, c0, A1, n1, c1, rfl, g0, g1, g2, g3⟩ := rHeavy_at h
  exact szHeavy_c x _ _ _ _ _ _ left _ B g0 g1 hB h0 h1
end Go.Proofs.Ytjmcbggdckfefaa
