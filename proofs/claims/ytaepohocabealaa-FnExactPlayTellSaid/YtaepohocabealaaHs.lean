/-
  The laws' own sizes of arguments. No conditions.
-/
import Derived.Test.YtaepohocabealaaWa
import Derived.Test.YtaepohocabealaaTy
import Derived.Test.YtaepohocabealaaQu
import Derived.Lib.Hide
import Derived.Deep.DeepFit
namespace Go.Proofs.Ytaepohocabealaa
open Go.RowKit
attribute [local go_sem] und_cell
set_option maxHeartbeats 1000000 in
theorem szIntS_c (l : List Int) (A : Option Addr) (n c : Nat) (left : Int) (w : World) (B : Nat) (hl : Mm.SlAt Mm.int w B l A n c) (hB : B ≤ w.heap.size) (h0 : 0 ≤ left) (h1 : left ≤ 1048576) :
    Calls Try.prog 79 #[.slice A n c, .int .i64 left] w fun e w' => e = .returned (.int .i64 (Pl.szRet left (Pl.szl Pl.sz0 l))) ∧ Below w.heap.size w w' := by
  have hn : n ≤ 9223372036854775807 := by have := hl.2.1; have := hl.2.2.1; unfold maxLen at this; omega
  have hlen : Hid (l.length = n) := hl.1
  have HZ : Hid (Pl.szl Pl.sz0 l = (n : Int)) := by show _ = _; rw [Pl.szl_zero, hlen.out]
  clear hl
  by_cases h : left - (n : Int) < 0
  · go_enter Try.func79, Try.ntmps79
    go_wp2
    go_ret
    exact ⟨ret_int (by rw [HZ.out, Pl.szRet_lt (by omega)]), Below.refl _ _⟩
  · go_enter Try.func79, Try.ntmps79
    go_wp2
    go_ret
    exact ⟨ret_int (by rw [HZ.out, Pl.szRet_ge (by omega)]), Below.refl _ _⟩
set_option maxHeartbeats 1000000 in
theorem szStringS_c (l : List ByteArray) (A : Option Addr) (n c : Nat) (left : Int) (w : World) (B : Nat) (hl : Mm.SlAt Mm.str w B l A n c) (hB : B ≤ w.heap.size) (h0 : 0 ≤ left) (h1 : left ≤ 1048576) :
    Calls Try.prog 108 #[.slice A n c, .int .i64 left] w fun e w' => e = .returned (.int .i64 (Pl.szRet left (Pl.szl Pl.szStr l))) ∧ Below w.heap.size w w' := by
  have hn : n ≤ 9223372036854775807 := by have := hl.2.1; have := hl.2.2.1; unfold maxLen at this; omega
  have hlen : Hid (l.length = n) := hl.1
  have HL := Lib.hid hl
  have HZ : Hid (Pl.szl Pl.szStr l = (n : Int) + Pl.sumI Pl.szStr l) := by show _ = _; unfold Pl.szl; rw [hlen.out]
  have HN : Hid (∀ x : ByteArray, 0 ≤ Pl.szStr x) := Pl.szStr_nn
  have hs0 := Pl.sumI_nn HN.out l
  clear hl
  by_cases h : left - (n : Int) < 0
  · go_enter Try.func108, Try.ntmps108
    go_wp2
    go_ret
    exact ⟨ret_int (by rw [HZ.out, Pl.szRet_lt (by omega)]), Below.refl _ _⟩
  · go_enter Try.func108, Try.ntmps108
    go_wp2
    go_loopw [1, 5] (fun lf i wr => ∃ k : Nat, k ≤ n ∧ i = .int .i64 k ∧ (∃ s : Int, 0 ≤ s ∧ s ≤ left ∧ s = left - n - Pl.sumI Pl.szStr (l.take k) ∧ lf = .int .i64 s) ∧ Below w.heap.size w wr) (fun _ i _ => n - (intOf i).toNat)
    case atStart => exact ⟨0, Nat.zero_le _, rfl, ⟨_, by omega, by omega, by simp [Pl.sumI], rfl⟩, Below.refl _ _⟩
    case round =>
      obtain ⟨k, hk, rfl, ⟨s, hs1, hs2, hs3, rfl⟩, hbel⟩ := hrel
      rename_i wr _
      have HS := Lib.hid hs3
      clear hs3
      by_cases hlt : k < n
      · obtain ⟨x, b, off, hx, rfl, hb, f0, d0⟩ := str_get (HL.out.keep (w' := wr) (fun b hb => hbel.block b (by omega))) hlt
        have hBw : B ≤ wr.heap.size := Nat.le_trans hB hbel.size
        have hx0 := HN.out x
        have hsn : Pl.sumI Pl.szStr (l.take (k + 1)) = Pl.sumI Pl.szStr (l.take k) + Pl.szStr x := Pl.sumI_succ hx
        have hst := Pl.sumI_take HN.out l (k + 1)
        have HA := Lib.hid (And.intro hsn hst)
        clear hsn hst hx
        have hxe : Pl.szStr x = (x.size : Int) := rfl
        have HE := Lib.hid hxe
        unfold maxLen at f0
        clear hx0 hxe
        by_cases hneg : s - (x.size : Int) < 0
        · go_wp2
          go_ret
          exact ⟨ret_int (by rw [HZ.out, Pl.szRet_lt (by have := HA.out.1; have := HA.out.2; have := HS.out; have := HE.out; omega)]), hbel⟩
        · go_wp2
          go_roundw
          case rel => exact ⟨k + 1, by omega, by go_num, ⟨_, by omega, by omega, by have := HA.out.1; have := HS.out; have := HE.out; omega, rfl⟩, hbel⟩
          case measure => simp [intOf]; omega
      · have HK : Hid (l.take k = l) := List.take_of_length_le (by have := hlen.out; omega)
        go_wp2
        go_ret
        exact ⟨ret_int (by have := HS.out; rw [HK.out] at this; rw [HZ.out, Pl.szRet_ge (by omega)]; omega), hbel⟩
set_option maxHeartbeats 1000000 in
theorem szStringSS_c (l : List (List ByteArray)) (A : Option Addr) (n c : Nat) (left : Int) (w : World) (B : Nat) (hl : Mm.SlAt strs w B l A n c) (hB : B ≤ w.heap.size) (h0 : 0 ≤ left) (h1 : left ≤ 1048576) :
    Calls Try.prog 78 #[.slice A n c, .int .i64 left] w fun e w' => e = .returned (.int .i64 (Pl.szRet left (Pl.szl (Pl.szl Pl.szStr) l))) ∧ Below w.heap.size w w' := by
  have hn : n ≤ 9223372036854775807 := by have := hl.2.1; have := hl.2.2.1; unfold maxLen at this; omega
  have hlen : Hid (l.length = n) := hl.1
  have HL := Lib.hid hl
  have HZ : Hid (Pl.szl (Pl.szl Pl.szStr) l = (n : Int) + Pl.sumI (Pl.szl Pl.szStr) l) := by show _ = _; unfold Pl.szl; rw [hlen.out]
  have HN : Hid (∀ x : (List ByteArray), 0 ≤ (Pl.szl Pl.szStr) x) := Pl.szl_nn (f := Pl.szStr) (Pl.szStr_nn)
  have hs0 := Pl.sumI_nn HN.out l
  clear hl
  by_cases h : left - (n : Int) < 0
  · go_enter Try.func78, Try.ntmps78
    go_wp2
    go_ret
    exact ⟨ret_int (by rw [HZ.out, Pl.szRet_lt (by omega)]), Below.refl _ _⟩
  · go_enter Try.func78, Try.ntmps78
    go_wp2
    go_loopw [1, 5] (fun lf i wr => ∃ k : Nat, k ≤ n ∧ i = .int .i64 k ∧ (∃ s : Int, 0 ≤ s ∧ s ≤ left ∧ s = left - n - Pl.sumI (Pl.szl Pl.szStr) (l.take k) ∧ lf = .int .i64 s) ∧ Below w.heap.size w wr) (fun _ i _ => n - (intOf i).toNat)
    case atStart => exact ⟨0, Nat.zero_le _, rfl, ⟨_, by omega, by omega, by simp [Pl.sumI], rfl⟩, Below.refl _ _⟩
    case round =>
      obtain ⟨k, hk, rfl, ⟨s, hs1, hs2, hs3, rfl⟩, hbel⟩ := hrel
      rename_i wr _
      have HS := Lib.hid hs3
      clear hs3
      by_cases hlt : k < n
      · obtain ⟨x, b, off, P, p, q, hx, rfl, hb, f0, d0⟩ := strs_get (HL.out.keep (w' := wr) (fun b hb => hbel.block b (by omega))) hlt
        have hBw : B ≤ wr.heap.size := Nat.le_trans hB hbel.size
        have hx0 := HN.out x
        have hsn : Pl.sumI (Pl.szl Pl.szStr) (l.take (k + 1)) = Pl.sumI (Pl.szl Pl.szStr) (l.take k) + (Pl.szl Pl.szStr) x := Pl.sumI_succ hx
        have hst := Pl.sumI_take HN.out l (k + 1)
        have HA := Lib.hid (And.intro hsn hst)
        clear hsn hst hx
        have HF := Lib.hid f0
        clear f0
        by_cases hneg : s - (Pl.szl Pl.szStr) x < 0
        · go_wp2_with fail
          refine (szStringS_c x _ _ _ _ _ B HF.out hBw (by omega) (by omega)).mono ?_
          rintro e w1 ⟨rfl, hb1⟩
          rw [Pl.szRet_lt hneg]
          go_wp2
          go_ret
          exact ⟨ret_int (by rw [HZ.out, Pl.szRet_lt (by have := HA.out.1; have := HA.out.2; have := HS.out; omega)]), below_step hbel hb1⟩
        · go_wp2_with fail
          refine (szStringS_c x _ _ _ _ _ B HF.out hBw (by omega) (by omega)).mono ?_
          rintro e w1 ⟨rfl, hb1⟩
          rw [Pl.szRet_ge (by omega)]
          go_wp2
          go_roundw
          case rel => exact ⟨k + 1, by omega, by go_num, ⟨_, by omega, by omega, by have := HA.out.1; have := HS.out; omega, rfl⟩, below_step hbel hb1⟩
          case measure => simp [intOf]; omega
      · have HK : Hid (l.take k = l) := List.take_of_length_le (by have := hlen.out; omega)
        go_wp2
        go_ret
        exact ⟨ret_int (by have := HS.out; rw [HK.out] at this; rw [HZ.out, Pl.szRet_ge (by omega)]; omega), hbel⟩
set_option maxHeartbeats 1000000 in
theorem szTold_c (x : Told)  (left : Int) (w : World) (B : Nat) (s0 : x.Text.size ≤ maxLen) (hB : B ≤ w.heap.size) (h0 : 0 ≤ left) (h1 : left ≤ 1048576) :
    Calls Try.prog 110 #[.agg #[.int .i64 x.Who, .int .i64 x.No, .string x.Text], .int .i64 left] w fun e w' => e = .returned (.int .i64 (Pl.szRet left (Pl.szTold x))) ∧ Below w.heap.size w w' := by
  unfold maxLen at s0
  have HK := Lib.hid (Mm.Blk.new w 132 [.int .i64 x.Who, .int .i64 x.No, .string x.Text])
  have hb0 : Below w.heap.size w (w.alloc (.cells #[.int .i64 x.Who, .int .i64 x.No, .string x.Text] 132)) := below_new (Below.refl _ _) _
  have HB0 := Lib.hid hb0
  clear hb0
  have zn0 := Pl.szStr_nn x.Text
  have e0 : Pl.szStr x.Text = (x.Text.size : Int) := rfl
  have hz : Pl.szTold x = Pl.szStr x.Text := rfl
  have HZ := Lib.hid hz
  clear hz
  have E0 := Lib.hid e0
  clear e0
  by_cases t0 : left - Pl.szStr x.Text < 0
  · have t0' := t0
    rw [E0.out] at t0'
    go_enter Try.func110, Try.ntmps110
    go_wp2
    go_ret
    exact ⟨ret_int (by rw [HZ.out, Pl.szRet_lt (by omega)]), HB0.out⟩
  · have t0' := t0
    rw [E0.out] at t0'
    go_enter Try.func110, Try.ntmps110
    go_wp2
    go_ret
    exact ⟨ret_int (by have hh : Pl.szRet left (Pl.szTold x) = left - Pl.szTold x := Pl.szRet_ge (by rw [HZ.out]; omega); have h2 := HZ.out; have := E0.out; omega), HB0.out⟩
set_option maxHeartbeats 1000000 in
theorem szToldS_c (l : List Told) (A : Option Addr) (n c : Nat) (left : Int) (w : World) (B : Nat) (hl : Mm.SlAt rTold w B l A n c) (hB : B ≤ w.heap.size) (h0 : 0 ≤ left) (h1 : left ≤ 1048576) :
    Calls Try.prog 81 #[.slice A n c, .int .i64 left] w fun e w' => e = .returned (.int .i64 (Pl.szRet left (Pl.szl Pl.szTold l))) ∧ Below w.heap.size w w' := by
  have hn : n ≤ 9223372036854775807 := by have := hl.2.1; have := hl.2.2.1; unfold maxLen at this; omega
  have hlen : Hid (l.length = n) := hl.1
  have HL := Lib.hid hl
  have HZ : Hid (Pl.szl Pl.szTold l = (n : Int) + Pl.sumI Pl.szTold l) := by show _ = _; unfold Pl.szl; rw [hlen.out]
  have HN : Hid (∀ x : Told, 0 ≤ Pl.szTold x) := Pl.szTold_nn
  have hs0 := Pl.sumI_nn HN.out l
  clear hl
  by_cases h : left - (n : Int) < 0
  · go_enter Try.func81, Try.ntmps81
    go_wp2
    go_ret
    exact ⟨ret_int (by rw [HZ.out, Pl.szRet_lt (by omega)]), Below.refl _ _⟩
  · go_enter Try.func81, Try.ntmps81
    go_wp2
    go_loopw [1, 5] (fun lf i wr => ∃ k : Nat, k ≤ n ∧ i = .int .i64 k ∧ (∃ s : Int, 0 ≤ s ∧ s ≤ left ∧ s = left - n - Pl.sumI Pl.szTold (l.take k) ∧ lf = .int .i64 s) ∧ Below w.heap.size w wr) (fun _ i _ => n - (intOf i).toNat)
    case atStart => exact ⟨0, Nat.zero_le _, rfl, ⟨_, by omega, by omega, by simp [Pl.sumI], rfl⟩, Below.refl _ _⟩
    case round =>
      obtain ⟨k, hk, rfl, ⟨s, hs1, hs2, hs3, rfl⟩, hbel⟩ := hrel
      rename_i wr _
      have HS := Lib.hid hs3
      clear hs3
      by_cases hlt : k < n
      · obtain ⟨x, b, off, hx, rfl, hb, f0, f1, f2, d0, d1, d2⟩ := rTold_get (HL.out.keep (w' := wr) (fun b hb => hbel.block b (by omega))) hlt
        have hBw : B ≤ wr.heap.size := Nat.le_trans hB hbel.size
        have hx0 := HN.out x
        have hsn : Pl.sumI Pl.szTold (l.take (k + 1)) = Pl.sumI Pl.szTold (l.take k) + Pl.szTold x := Pl.sumI_succ hx
        have hst := Pl.sumI_take HN.out l (k + 1)
        have HA := Lib.hid (And.intro hsn hst)
        clear hsn hst hx
        have HF := Lib.hid f2
        clear f0 f1 f2
        by_cases hneg : s - Pl.szTold x < 0
        · go_wp2_with fail
          refine (szTold_c x _ _ B HF.out hBw (by omega) (by omega)).mono ?_
          rintro e w1 ⟨rfl, hb1⟩
          rw [Pl.szRet_lt hneg]
          go_wp2
          go_ret
          exact ⟨ret_int (by rw [HZ.out, Pl.szRet_lt (by have := HA.out.1; have := HA.out.2; have := HS.out; omega)]), below_step hbel hb1⟩
        · go_wp2_with fail
          refine (szTold_c x _ _ B HF.out hBw (by omega) (by omega)).mono ?_
          rintro e w1 ⟨rfl, hb1⟩
          rw [Pl.szRet_ge (by omega)]
          go_wp2
          go_roundw
          case rel => exact ⟨k + 1, by omega, by go_num, ⟨_, by omega, by omega, by have := HA.out.1; have := HS.out; omega, rfl⟩, below_step hbel hb1⟩
          case measure => simp [intOf]; omega
      · have HK : Hid (l.take k = l) := List.take_of_length_le (by have := hlen.out; omega)
        go_wp2
        go_ret
        exact ⟨ret_int (by have := HS.out; rw [HK.out] at this; rw [HZ.out, Pl.szRet_ge (by omega)]; omega), hbel⟩
set_option maxHeartbeats 1000000 in
theorem szNote_c (x : Note)  (left : Int) (w : World) (B : Nat) (s0 : x.What.Text.size ≤ maxLen) (hB : B ≤ w.heap.size) (h0 : 0 ≤ left) (h1 : left ≤ 1048576) :
    Calls Try.prog 109 #[.agg #[.bool x.Back, .int .i64 x.What.Who, .int .i64 x.What.No, .string x.What.Text], .int .i64 left] w fun e w' => e = .returned (.int .i64 (Pl.szRet left (Pl.szNote x))) ∧ Below w.heap.size w w' := by
  unfold maxLen at s0
  have HK := Lib.hid (Mm.Blk.new w 134 [.bool x.Back, .int .i64 x.What.Who, .int .i64 x.What.No, .string x.What.Text])
  have hb0 : Below w.heap.size w (w.alloc (.cells #[.bool x.Back, .int .i64 x.What.Who, .int .i64 x.What.No, .string x.What.Text] 134)) := below_new (Below.refl _ _) _
  have HB0 := Lib.hid hb0
  clear hb0
  have zn0 := Pl.szTold_nn x.What
  have hz : Pl.szNote x = Pl.szTold x.What := rfl
  have HZ := Lib.hid hz
  clear hz
  by_cases t0 : left - Pl.szTold x.What < 0
  · go_enter Try.func109, Try.ntmps109
    go_wp2_with fail
    refine (szTold_c x.What _ _ (_) (by unfold maxLen; omega) (Nat.le_refl _) (by omega) (by omega)).mono ?_
    rintro e w1 ⟨rfl, hb1⟩
    rw [Pl.szRet_lt (by omega)]
    have HB1 := Lib.hid (below_step HB0.out hb1)
    have HK := Lib.hid (HK.out.bel hb1)
    clear hb1
    go_wp2
    go_ret
    exact ⟨ret_int (by rw [HZ.out, Pl.szRet_lt (by omega)]), HB1.out⟩
  · go_enter Try.func109, Try.ntmps109
    go_wp2_with fail
    refine (szTold_c x.What _ _ (_) (by unfold maxLen; omega) (Nat.le_refl _) (by omega) (by omega)).mono ?_
    rintro e w1 ⟨rfl, hb1⟩
    rw [Pl.szRet_ge (by omega)]
    have HB1 := Lib.hid (below_step HB0.out hb1)
    have HK := Lib.hid (HK.out.bel hb1)
    clear hb1
    go_wp2
    go_ret
    exact ⟨ret_int (by have hh : Pl.szRet left (Pl.szNote x) = left - Pl.szNote x := Pl.szRet_ge (by rw [HZ.out]; omega); have h2 := HZ.out; omega), HB1.out⟩
set_option maxHeartbeats 1000000 in
theorem szNoteS_c (l : List Note) (A : Option Addr) (n c : Nat) (left : Int) (w : World) (B : Nat) (hl : Mm.SlAt rNote w B l A n c) (hB : B ≤ w.heap.size) (h0 : 0 ≤ left) (h1 : left ≤ 1048576) :
    Calls Try.prog 80 #[.slice A n c, .int .i64 left] w fun e w' => e = .returned (.int .i64 (Pl.szRet left (Pl.szl Pl.szNote l))) ∧ Below w.heap.size w w' := by
  have hn : n ≤ 9223372036854775807 := by have := hl.2.1; have := hl.2.2.1; unfold maxLen at this; omega
  have hlen : Hid (l.length = n) := hl.1
  have HL := Lib.hid hl
  have HZ : Hid (Pl.szl Pl.szNote l = (n : Int) + Pl.sumI Pl.szNote l) := by show _ = _; unfold Pl.szl; rw [hlen.out]
  have HN : Hid (∀ x : Note, 0 ≤ Pl.szNote x) := Pl.szNote_nn
  have hs0 := Pl.sumI_nn HN.out l
  clear hl
  by_cases h : left - (n : Int) < 0
  · go_enter Try.func80, Try.ntmps80
    go_wp2
    go_ret
    exact ⟨ret_int (by rw [HZ.out, Pl.szRet_lt (by omega)]), Below.refl _ _⟩
  · go_enter Try.func80, Try.ntmps80
    go_wp2
    go_loopw [1, 5] (fun lf i wr => ∃ k : Nat, k ≤ n ∧ i = .int .i64 k ∧ (∃ s : Int, 0 ≤ s ∧ s ≤ left ∧ s = left - n - Pl.sumI Pl.szNote (l.take k) ∧ lf = .int .i64 s) ∧ Below w.heap.size w wr) (fun _ i _ => n - (intOf i).toNat)
    case atStart => exact ⟨0, Nat.zero_le _, rfl, ⟨_, by omega, by omega, by simp [Pl.sumI], rfl⟩, Below.refl _ _⟩
    case round =>
      obtain ⟨k, hk, rfl, ⟨s, hs1, hs2, hs3, rfl⟩, hbel⟩ := hrel
      rename_i wr _
      have HS := Lib.hid hs3
      clear hs3
      by_cases hlt : k < n
      · obtain ⟨x, b, off, hx, rfl, hb, f0, f1, f2, d0, d1, d2, d3⟩ := rNote_get (HL.out.keep (w' := wr) (fun b hb => hbel.block b (by omega))) hlt
        have hBw : B ≤ wr.heap.size := Nat.le_trans hB hbel.size
        have hx0 := HN.out x
        have hsn : Pl.sumI Pl.szNote (l.take (k + 1)) = Pl.sumI Pl.szNote (l.take k) + Pl.szNote x := Pl.sumI_succ hx
        have hst := Pl.sumI_take HN.out l (k + 1)
        have HA := Lib.hid (And.intro hsn hst)
        clear hsn hst hx
        have HF := Lib.hid f2
        clear f0 f1 f2
        by_cases hneg : s - Pl.szNote x < 0
        · go_wp2_with fail
          refine (szNote_c x _ _ B HF.out hBw (by omega) (by omega)).mono ?_
          rintro e w1 ⟨rfl, hb1⟩
          rw [Pl.szRet_lt hneg]
          go_wp2
          go_ret
          exact ⟨ret_int (by rw [HZ.out, Pl.szRet_lt (by have := HA.out.1; have := HA.out.2; have := HS.out; omega)]), below_step hbel hb1⟩
        · go_wp2_with fail
          refine (szNote_c x _ _ B HF.out hBw (by omega) (by omega)).mono ?_
          rintro e w1 ⟨rfl, hb1⟩
          rw [Pl.szRet_ge (by omega)]
          go_wp2
          go_roundw
          case rel => exact ⟨k + 1, by omega, by go_num, ⟨_, by omega, by omega, by have := HA.out.1; have := HS.out; omega, rfl⟩, below_step hbel hb1⟩
          case measure => simp [intOf]; omega
      · have HK : Hid (l.take k = l) := List.take_of_length_le (by have := hlen.out; omega)
        go_wp2
        go_ret
        exact ⟨ret_int (by have := HS.out; rw [HK.out] at this; rw [HZ.out, Pl.szRet_ge (by omega)]; omega), hbel⟩
set_option maxHeartbeats 1000000 in
theorem szTellStep_c (x : TellStep)  (left : Int) (w : World) (B : Nat) (s0 : x.Text.size ≤ maxLen) (hB : B ≤ w.heap.size) (h0 : 0 ≤ left) (h1 : left ≤ 1048576) :
    Calls Try.prog 43 #[.agg #[.int .i64 x.Kind, .int .i64 x.K, .string x.Text], .int .i64 left] w fun e w' => e = .returned (.int .i64 (Pl.szRet left (Pl.szTellStep x))) ∧ Below w.heap.size w w' := by
  unfold maxLen at s0
  have HK := Lib.hid (Mm.Blk.new w 78 [.int .i64 x.Kind, .int .i64 x.K, .string x.Text])
  have hb0 : Below w.heap.size w (w.alloc (.cells #[.int .i64 x.Kind, .int .i64 x.K, .string x.Text] 78)) := below_new (Below.refl _ _) _
  have HB0 := Lib.hid hb0
  clear hb0
  have zn0 := Pl.szStr_nn x.Text
  have e0 : Pl.szStr x.Text = (x.Text.size : Int) := rfl
  have hz : Pl.szTellStep x = Pl.szStr x.Text := rfl
  have HZ := Lib.hid hz
  clear hz
  have E0 := Lib.hid e0
  clear e0
  by_cases t0 : left - Pl.szStr x.Text < 0
  · have t0' := t0
    rw [E0.out] at t0'
    go_enter Try.func43, Try.ntmps43
    go_wp2
    go_ret
    exact ⟨ret_int (by rw [HZ.out, Pl.szRet_lt (by omega)]), HB0.out⟩
  · have t0' := t0
    rw [E0.out] at t0'
    go_enter Try.func43, Try.ntmps43
    go_wp2
    go_ret
    exact ⟨ret_int (by have hh : Pl.szRet left (Pl.szTellStep x) = left - Pl.szTellStep x := Pl.szRet_ge (by rw [HZ.out]; omega); have h2 := HZ.out; have := E0.out; omega), HB0.out⟩
set_option maxHeartbeats 1000000 in
theorem szTellStepS_c (l : List TellStep) (A : Option Addr) (n c : Nat) (left : Int) (w : World) (B : Nat) (hl : Mm.SlAt rTellStep w B l A n c) (hB : B ≤ w.heap.size) (h0 : 0 ≤ left) (h1 : left ≤ 1048576) :
    Calls Try.prog 31 #[.slice A n c, .int .i64 left] w fun e w' => e = .returned (.int .i64 (Pl.szRet left (Pl.szl Pl.szTellStep l))) ∧ Below w.heap.size w w' := by
  have hn : n ≤ 9223372036854775807 := by have := hl.2.1; have := hl.2.2.1; unfold maxLen at this; omega
  have hlen : Hid (l.length = n) := hl.1
  have HL := Lib.hid hl
  have HZ : Hid (Pl.szl Pl.szTellStep l = (n : Int) + Pl.sumI Pl.szTellStep l) := by show _ = _; unfold Pl.szl; rw [hlen.out]
  have HN : Hid (∀ x : TellStep, 0 ≤ Pl.szTellStep x) := Pl.szTellStep_nn
  have hs0 := Pl.sumI_nn HN.out l
  clear hl
  by_cases h : left - (n : Int) < 0
  · go_enter Try.func31, Try.ntmps31
    go_wp2
    go_ret
    exact ⟨ret_int (by rw [HZ.out, Pl.szRet_lt (by omega)]), Below.refl _ _⟩
  · go_enter Try.func31, Try.ntmps31
    go_wp2
    go_loopw [1, 5] (fun lf i wr => ∃ k : Nat, k ≤ n ∧ i = .int .i64 k ∧ (∃ s : Int, 0 ≤ s ∧ s ≤ left ∧ s = left - n - Pl.sumI Pl.szTellStep (l.take k) ∧ lf = .int .i64 s) ∧ Below w.heap.size w wr) (fun _ i _ => n - (intOf i).toNat)
    case atStart => exact ⟨0, Nat.zero_le _, rfl, ⟨_, by omega, by omega, by simp [Pl.sumI], rfl⟩, Below.refl _ _⟩
    case round =>
      obtain ⟨k, hk, rfl, ⟨s, hs1, hs2, hs3, rfl⟩, hbel⟩ := hrel
      rename_i wr _
      have HS := Lib.hid hs3
      clear hs3
      by_cases hlt : k < n
      · obtain ⟨x, b, off, hx, rfl, hb, f0, f1, f2, d0, d1, d2⟩ := rTellStep_get (HL.out.keep (w' := wr) (fun b hb => hbel.block b (by omega))) hlt
        have hBw : B ≤ wr.heap.size := Nat.le_trans hB hbel.size
        have hx0 := HN.out x
        have hsn : Pl.sumI Pl.szTellStep (l.take (k + 1)) = Pl.sumI Pl.szTellStep (l.take k) + Pl.szTellStep x := Pl.sumI_succ hx
        have hst := Pl.sumI_take HN.out l (k + 1)
        have HA := Lib.hid (And.intro hsn hst)
        clear hsn hst hx
        have HF := Lib.hid f2
        clear f0 f1 f2
        by_cases hneg : s - Pl.szTellStep x < 0
        · go_wp2_with fail
          refine (szTellStep_c x _ _ B HF.out hBw (by omega) (by omega)).mono ?_
          rintro e w1 ⟨rfl, hb1⟩
          rw [Pl.szRet_lt hneg]
          go_wp2
          go_ret
          exact ⟨ret_int (by rw [HZ.out, Pl.szRet_lt (by have := HA.out.1; have := HA.out.2; have := HS.out; omega)]), below_step hbel hb1⟩
        · go_wp2_with fail
          refine (szTellStep_c x _ _ B HF.out hBw (by omega) (by omega)).mono ?_
          rintro e w1 ⟨rfl, hb1⟩
          rw [Pl.szRet_ge (by omega)]
          go_wp2
          go_roundw
          case rel => exact ⟨k + 1, by omega, by go_num, ⟨_, by omega, by omega, by have := HA.out.1; have := HS.out; omega, rfl⟩, below_step hbel hb1⟩
          case measure => simp [intOf]; omega
      · have HK : Hid (l.take k = l) := List.take_of_length_le (by have := hlen.out; omega)
        go_wp2
        go_ret
        exact ⟨ret_int (by have := HS.out; rw [HK.out] at this; rw [HZ.out, Pl.szRet_ge (by omega)]; omega), hbel⟩
set_option maxHeartbeats 1000000 in
theorem szTell_c (x : Tell) (A0 : Option Addr) (n0 c0 : Nat) (A1 : Option Addr) (n1 c1 : Nat) (A2 : Option Addr) (n2 c2 : Nat) (A3 : Option Addr) (n3 c3 : Nat) (A4 : Option Addr) (n4 c4 : Nat) (left : Int) (w : World) (B : Nat) (g0 : Mm.SlAt strs w B x.Texts A0 n0 c0) (g1 : Mm.SlAt Mm.int w B x.Heard A1 n1 c1) (g2 : Mm.SlAt rNote w B x.Line A2 n2 c2) (g3 : Mm.SlAt rTold w B x.Log A3 n3 c3) (g4 : Mm.SlAt Mm.int w B x.Next A4 n4 c4) (hB : B ≤ w.heap.size) (h0 : 0 ≤ left) (h1 : left ≤ 1048576) :
    Calls Try.prog 41 #[.agg #[.slice A0 n0 c0, .slice A1 n1 c1, .slice A2 n2 c2, .slice A3 n3 c3, .slice A4 n4 c4], .int .i64 left] w fun e w' => e = .returned (.int .i64 (Pl.szRet left (Pl.szTell x))) ∧ Below w.heap.size w w' := by
  have HK := Lib.hid (Mm.Blk.new w 74 [.slice A0 n0 c0, .slice A1 n1 c1, .slice A2 n2 c2, .slice A3 n3 c3, .slice A4 n4 c4])
  have hb0 : Below w.heap.size w (w.alloc (.cells #[.slice A0 n0 c0, .slice A1 n1 c1, .slice A2 n2 c2, .slice A3 n3 c3, .slice A4 n4 c4] 74)) := below_new (Below.refl _ _) _
  have HB0 := Lib.hid hb0
  clear hb0
  have HG := Lib.hid (And.intro hB (And.intro g0 (And.intro g1 (And.intro g2 (And.intro g3 g4)))))
  clear g0 g1 g2 g3 g4
  have zn0 := Pl.szl_nn (f := (Pl.szl Pl.szStr)) (Pl.szl_nn (f := Pl.szStr) (Pl.szStr_nn)) x.Texts
  have zn1 := Pl.szl_nn (f := Pl.sz0) (Pl.sz0_nn) x.Heard
  have zn2 := Pl.szl_nn (f := Pl.szNote) (Pl.szNote_nn) x.Line
  have zn3 := Pl.szl_nn (f := Pl.szTold) (Pl.szTold_nn) x.Log
  have zn4 := Pl.szl_nn (f := Pl.sz0) (Pl.sz0_nn) x.Next
  have hz : Pl.szTell x = (Pl.szl (Pl.szl Pl.szStr)) x.Texts + (Pl.szl Pl.sz0) x.Heard + (Pl.szl Pl.szNote) x.Line + (Pl.szl Pl.szTold) x.Log + (Pl.szl Pl.sz0) x.Next := rfl
  have HZ := Lib.hid hz
  clear hz
  by_cases t0 : left - (Pl.szl (Pl.szl Pl.szStr)) x.Texts < 0
  · go_enter Try.func41, Try.ntmps41
    go_wp2_with fail
    refine (szStringSS_c x.Texts _ _ _ _ _ B (HG.out.2.1.keep fun b hb => HB0.out.block b (Nat.lt_of_lt_of_le hb HG.out.1)) (Nat.le_trans HG.out.1 HB0.out.size) (by omega) (by omega)).mono ?_
    rintro e w1 ⟨rfl, hb1⟩
    rw [Pl.szRet_lt (by omega)]
    have HB1 := Lib.hid (below_step HB0.out hb1)
    have HK := Lib.hid (HK.out.bel hb1)
    have p1_1 := HK.out.cell (i := 1) rfl
    have p1_2 := HK.out.cell (i := 2) rfl
    have p1_3 := HK.out.cell (i := 3) rfl
    have p1_4 := HK.out.cell (i := 4) rfl
    clear hb1
    go_wp2
    go_ret
    exact ⟨ret_int (by rw [HZ.out, Pl.szRet_lt (by omega)]), HB1.out⟩
  · skip
    by_cases t1 : left - (Pl.szl (Pl.szl Pl.szStr)) x.Texts - (Pl.szl Pl.sz0) x.Heard < 0
    · go_enter Try.func41, Try.ntmps41
      go_wp2_with fail
      refine (szStringSS_c x.Texts _ _ _ _ _ B (HG.out.2.1.keep fun b hb => HB0.out.block b (Nat.lt_of_lt_of_le hb HG.out.1)) (Nat.le_trans HG.out.1 HB0.out.size) (by omega) (by omega)).mono ?_
      rintro e w1 ⟨rfl, hb1⟩
      rw [Pl.szRet_ge (by omega)]
      have HB1 := Lib.hid (below_step HB0.out hb1)
      have HK := Lib.hid (HK.out.bel hb1)
      have p1_1 := HK.out.cell (i := 1) rfl
      have p1_2 := HK.out.cell (i := 2) rfl
      have p1_3 := HK.out.cell (i := 3) rfl
      have p1_4 := HK.out.cell (i := 4) rfl
      clear hb1
      go_wp2_with fail
      refine (szIntS_c x.Heard _ _ _ _ _ B (HG.out.2.2.1.keep fun b hb => HB1.out.block b (Nat.lt_of_lt_of_le hb HG.out.1)) (Nat.le_trans HG.out.1 HB1.out.size) (by omega) (by omega)).mono ?_
      rintro e w2 ⟨rfl, hb2⟩
      rw [Pl.szRet_lt (by omega)]
      have HB2 := Lib.hid (below_step HB1.out hb2)
      have HK := Lib.hid (HK.out.bel hb2)
      have p2_2 := HK.out.cell (i := 2) rfl
      have p2_3 := HK.out.cell (i := 3) rfl
      have p2_4 := HK.out.cell (i := 4) rfl
      clear hb2
      go_wp2
      go_ret
      exact ⟨ret_int (by rw [HZ.out, Pl.szRet_lt (by omega)]), HB2.out⟩
    · skip
      by_cases t2 : left - (Pl.szl (Pl.szl Pl.szStr)) x.Texts - (Pl.szl Pl.sz0) x.Heard - (Pl.szl Pl.szNote) x.Line < 0
      · go_enter Try.func41, Try.ntmps41
        go_wp2_with fail
        refine (szStringSS_c x.Texts _ _ _ _ _ B (HG.out.2.1.keep fun b hb => HB0.out.block b (Nat.lt_of_lt_of_le hb HG.out.1)) (Nat.le_trans HG.out.1 HB0.out.size) (by omega) (by omega)).mono ?_
        rintro e w1 ⟨rfl, hb1⟩
        rw [Pl.szRet_ge (by omega)]
        have HB1 := Lib.hid (below_step HB0.out hb1)
        have HK := Lib.hid (HK.out.bel hb1)
        have p1_1 := HK.out.cell (i := 1) rfl
        have p1_2 := HK.out.cell (i := 2) rfl
        have p1_3 := HK.out.cell (i := 3) rfl
        have p1_4 := HK.out.cell (i := 4) rfl
        clear hb1
        go_wp2_with fail
        refine (szIntS_c x.Heard _ _ _ _ _ B (HG.out.2.2.1.keep fun b hb => HB1.out.block b (Nat.lt_of_lt_of_le hb HG.out.1)) (Nat.le_trans HG.out.1 HB1.out.size) (by omega) (by omega)).mono ?_
        rintro e w2 ⟨rfl, hb2⟩
        rw [Pl.szRet_ge (by omega)]
        have HB2 := Lib.hid (below_step HB1.out hb2)
        have HK := Lib.hid (HK.out.bel hb2)
        have p2_2 := HK.out.cell (i := 2) rfl
        have p2_3 := HK.out.cell (i := 3) rfl
        have p2_4 := HK.out.cell (i := 4) rfl
        clear hb2
        go_wp2_with fail
        refine (szNoteS_c x.Line _ _ _ _ _ B (HG.out.2.2.2.1.keep fun b hb => HB2.out.block b (Nat.lt_of_lt_of_le hb HG.out.1)) (Nat.le_trans HG.out.1 HB2.out.size) (by omega) (by omega)).mono ?_
        rintro e w3 ⟨rfl, hb3⟩
        rw [Pl.szRet_lt (by omega)]
        have HB3 := Lib.hid (below_step HB2.out hb3)
        have HK := Lib.hid (HK.out.bel hb3)
        have p3_3 := HK.out.cell (i := 3) rfl
        have p3_4 := HK.out.cell (i := 4) rfl
        clear hb3
        go_wp2
        go_ret
        exact ⟨ret_int (by rw [HZ.out, Pl.szRet_lt (by omega)]), HB3.out⟩
      · skip
        by_cases t3 : left - (Pl.szl (Pl.szl Pl.szStr)) x.Texts - (Pl.szl Pl.sz0) x.Heard - (Pl.szl Pl.szNote) x.Line - (Pl.szl Pl.szTold) x.Log < 0
        · go_enter Try.func41, Try.ntmps41
          go_wp2_with fail
          refine (szStringSS_c x.Texts _ _ _ _ _ B (HG.out.2.1.keep fun b hb => HB0.out.block b (Nat.lt_of_lt_of_le hb HG.out.1)) (Nat.le_trans HG.out.1 HB0.out.size) (by omega) (by omega)).mono ?_
          rintro e w1 ⟨rfl, hb1⟩
          rw [Pl.szRet_ge (by omega)]
          have HB1 := Lib.hid (below_step HB0.out hb1)
          have HK := Lib.hid (HK.out.bel hb1)
          have p1_1 := HK.out.cell (i := 1) rfl
          have p1_2 := HK.out.cell (i := 2) rfl
          have p1_3 := HK.out.cell (i := 3) rfl
          have p1_4 := HK.out.cell (i := 4) rfl
          clear hb1
          go_wp2_with fail
          refine (szIntS_c x.Heard _ _ _ _ _ B (HG.out.2.2.1.keep fun b hb => HB1.out.block b (Nat.lt_of_lt_of_le hb HG.out.1)) (Nat.le_trans HG.out.1 HB1.out.size) (by omega) (by omega)).mono ?_
          rintro e w2 ⟨rfl, hb2⟩
          rw [Pl.szRet_ge (by omega)]
          have HB2 := Lib.hid (below_step HB1.out hb2)
          have HK := Lib.hid (HK.out.bel hb2)
          have p2_2 := HK.out.cell (i := 2) rfl
          have p2_3 := HK.out.cell (i := 3) rfl
          have p2_4 := HK.out.cell (i := 4) rfl
          clear hb2
          go_wp2_with fail
          refine (szNoteS_c x.Line _ _ _ _ _ B (HG.out.2.2.2.1.keep fun b hb => HB2.out.block b (Nat.lt_of_lt_of_le hb HG.out.1)) (Nat.le_trans HG.out.1 HB2.out.size) (by omega) (by omega)).mono ?_
          rintro e w3 ⟨rfl, hb3⟩
          rw [Pl.szRet_ge (by omega)]
          have HB3 := Lib.hid (below_step HB2.out hb3)
          have HK := Lib.hid (HK.out.bel hb3)
          have p3_3 := HK.out.cell (i := 3) rfl
          have p3_4 := HK.out.cell (i := 4) rfl
          clear hb3
          go_wp2_with fail
          refine (szToldS_c x.Log _ _ _ _ _ B (HG.out.2.2.2.2.1.keep fun b hb => HB3.out.block b (Nat.lt_of_lt_of_le hb HG.out.1)) (Nat.le_trans HG.out.1 HB3.out.size) (by omega) (by omega)).mono ?_
          rintro e w4 ⟨rfl, hb4⟩
          rw [Pl.szRet_lt (by omega)]
          have HB4 := Lib.hid (below_step HB3.out hb4)
          have HK := Lib.hid (HK.out.bel hb4)
          have p4_4 := HK.out.cell (i := 4) rfl
          clear hb4
          go_wp2
          go_ret
          exact ⟨ret_int (by rw [HZ.out, Pl.szRet_lt (by omega)]), HB4.out⟩
        · skip
          by_cases t4 : left - (Pl.szl (Pl.szl Pl.szStr)) x.Texts - (Pl.szl Pl.sz0) x.Heard - (Pl.szl Pl.szNote) x.Line - (Pl.szl Pl.szTold) x.Log - (Pl.szl Pl.sz0) x.Next < 0
          · go_enter Try.func41, Try.ntmps41
            go_wp2_with fail
            refine (szStringSS_c x.Texts _ _ _ _ _ B (HG.out.2.1.keep fun b hb => HB0.out.block b (Nat.lt_of_lt_of_le hb HG.out.1)) (Nat.le_trans HG.out.1 HB0.out.size) (by omega) (by omega)).mono ?_
            rintro e w1 ⟨rfl, hb1⟩
            rw [Pl.szRet_ge (by omega)]
            have HB1 := Lib.hid (below_step HB0.out hb1)
            have HK := Lib.hid (HK.out.bel hb1)
            have p1_1 := HK.out.cell (i := 1) rfl
            have p1_2 := HK.out.cell (i := 2) rfl
            have p1_3 := HK.out.cell (i := 3) rfl
            have p1_4 := HK.out.cell (i := 4) rfl
            clear hb1
            go_wp2_with fail
            refine (szIntS_c x.Heard _ _ _ _ _ B (HG.out.2.2.1.keep fun b hb => HB1.out.block b (Nat.lt_of_lt_of_le hb HG.out.1)) (Nat.le_trans HG.out.1 HB1.out.size) (by omega) (by omega)).mono ?_
            rintro e w2 ⟨rfl, hb2⟩
            rw [Pl.szRet_ge (by omega)]
            have HB2 := Lib.hid (below_step HB1.out hb2)
            have HK := Lib.hid (HK.out.bel hb2)
            have p2_2 := HK.out.cell (i := 2) rfl
            have p2_3 := HK.out.cell (i := 3) rfl
            have p2_4 := HK.out.cell (i := 4) rfl
            clear hb2
            go_wp2_with fail
            refine (szNoteS_c x.Line _ _ _ _ _ B (HG.out.2.2.2.1.keep fun b hb => HB2.out.block b (Nat.lt_of_lt_of_le hb HG.out.1)) (Nat.le_trans HG.out.1 HB2.out.size) (by omega) (by omega)).mono ?_
            rintro e w3 ⟨rfl, hb3⟩
            rw [Pl.szRet_ge (by omega)]
            have HB3 := Lib.hid (below_step HB2.out hb3)
            have HK := Lib.hid (HK.out.bel hb3)
            have p3_3 := HK.out.cell (i := 3) rfl
            have p3_4 := HK.out.cell (i := 4) rfl
            clear hb3
            go_wp2_with fail
            refine (szToldS_c x.Log _ _ _ _ _ B (HG.out.2.2.2.2.1.keep fun b hb => HB3.out.block b (Nat.lt_of_lt_of_le hb HG.out.1)) (Nat.le_trans HG.out.1 HB3.out.size) (by omega) (by omega)).mono ?_
            rintro e w4 ⟨rfl, hb4⟩
            rw [Pl.szRet_ge (by omega)]
            have HB4 := Lib.hid (below_step HB3.out hb4)
            have HK := Lib.hid (HK.out.bel hb4)
            have p4_4 := HK.out.cell (i := 4) rfl
            clear hb4
            go_wp2_with fail
            refine (szIntS_c x.Next _ _ _ _ _ B (HG.out.2.2.2.2.2.keep fun b hb => HB4.out.block b (Nat.lt_of_lt_of_le hb HG.out.1)) (Nat.le_trans HG.out.1 HB4.out.size) (by omega) (by omega)).mono ?_
            rintro e w5 ⟨rfl, hb5⟩
            rw [Pl.szRet_lt (by omega)]
            have HB5 := Lib.hid (below_step HB4.out hb5)
            have HK := Lib.hid (HK.out.bel hb5)
            clear hb5
            go_wp2
            go_ret
            exact ⟨ret_int (by rw [HZ.out, Pl.szRet_lt (by omega)]), HB5.out⟩
          · go_enter Try.func41, Try.ntmps41
            go_wp2_with fail
            refine (szStringSS_c x.Texts _ _ _ _ _ B (HG.out.2.1.keep fun b hb => HB0.out.block b (Nat.lt_of_lt_of_le hb HG.out.1)) (Nat.le_trans HG.out.1 HB0.out.size) (by omega) (by omega)).mono ?_
            rintro e w1 ⟨rfl, hb1⟩
            rw [Pl.szRet_ge (by omega)]
            have HB1 := Lib.hid (below_step HB0.out hb1)
            have HK := Lib.hid (HK.out.bel hb1)
            have p1_1 := HK.out.cell (i := 1) rfl
            have p1_2 := HK.out.cell (i := 2) rfl
            have p1_3 := HK.out.cell (i := 3) rfl
            have p1_4 := HK.out.cell (i := 4) rfl
            clear hb1
            go_wp2_with fail
            refine (szIntS_c x.Heard _ _ _ _ _ B (HG.out.2.2.1.keep fun b hb => HB1.out.block b (Nat.lt_of_lt_of_le hb HG.out.1)) (Nat.le_trans HG.out.1 HB1.out.size) (by omega) (by omega)).mono ?_
            rintro e w2 ⟨rfl, hb2⟩
            rw [Pl.szRet_ge (by omega)]
            have HB2 := Lib.hid (below_step HB1.out hb2)
            have HK := Lib.hid (HK.out.bel hb2)
            have p2_2 := HK.out.cell (i := 2) rfl
            have p2_3 := HK.out.cell (i := 3) rfl
            have p2_4 := HK.out.cell (i := 4) rfl
            clear hb2
            go_wp2_with fail
            refine (szNoteS_c x.Line _ _ _ _ _ B (HG.out.2.2.2.1.keep fun b hb => HB2.out.block b (Nat.lt_of_lt_of_le hb HG.out.1)) (Nat.le_trans HG.out.1 HB2.out.size) (by omega) (by omega)).mono ?_
            rintro e w3 ⟨rfl, hb3⟩
            rw [Pl.szRet_ge (by omega)]
            have HB3 := Lib.hid (below_step HB2.out hb3)
            have HK := Lib.hid (HK.out.bel hb3)
            have p3_3 := HK.out.cell (i := 3) rfl
            have p3_4 := HK.out.cell (i := 4) rfl
            clear hb3
            go_wp2_with fail
            refine (szToldS_c x.Log _ _ _ _ _ B (HG.out.2.2.2.2.1.keep fun b hb => HB3.out.block b (Nat.lt_of_lt_of_le hb HG.out.1)) (Nat.le_trans HG.out.1 HB3.out.size) (by omega) (by omega)).mono ?_
            rintro e w4 ⟨rfl, hb4⟩
            rw [Pl.szRet_ge (by omega)]
            have HB4 := Lib.hid (below_step HB3.out hb4)
            have HK := Lib.hid (HK.out.bel hb4)
            have p4_4 := HK.out.cell (i := 4) rfl
            clear hb4
            go_wp2_with fail
            refine (szIntS_c x.Next _ _ _ _ _ B (HG.out.2.2.2.2.2.keep fun b hb => HB4.out.block b (Nat.lt_of_lt_of_le hb HG.out.1)) (Nat.le_trans HG.out.1 HB4.out.size) (by omega) (by omega)).mono ?_
            rintro e w5 ⟨rfl, hb5⟩
            rw [Pl.szRet_ge (by omega)]
            have HB5 := Lib.hid (below_step HB4.out hb5)
            have HK := Lib.hid (HK.out.bel hb5)
            clear hb5
            go_wp2
            go_ret
            exact ⟨ret_int (by have hh : Pl.szRet left (Pl.szTell x) = left - Pl.szTell x := Pl.szRet_ge (by rw [HZ.out]; omega); have h2 := HZ.out; omega), HB5.out⟩
theorem szTell_at (x : Tell) (cs : List Value) (left : Int) (w : World) (B : Nat) (h : rTell.at_ w B x cs) (hB : B ≤ w.heap.size) (h0 : 0 ≤ left) (h1 : left ≤ 1048576) :
    Calls Try.prog 41 #[.agg cs.toArray, .int .i64 left] w fun e w' => e = .returned (.int .i64 (Pl.szRet left (Pl.szTell x))) ∧ Below w.heap.size w w' := by
  obtain ⟨A0, n0, c0, A1, n1, c1, A2, n2, c2, A3, n3, c3, A4, n4, c4, rfl, g0, g1, g2, g3, g4⟩ := rTell_at h
  exact szTell_c x _ _ _ _ _ _ _ _ _ _ _ _ _ _ _ left _ B g0 g1 g2 g3 g4 hB h0 h1
end Go.Proofs.Ytaepohocabealaa
