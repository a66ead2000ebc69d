/-
  The laws' own sizes of arguments. No conditions.
-/
import Derived.Test.YtkodfflnpalbbaaWa
import Derived.Test.YtkodfflnpalbbaaTy
import Derived.Test.YtkodfflnpalbbaaQu
import Derived.Lib.Hide
import Derived.Deep.DeepFit
namespace Go.Proofs.Ytkodfflnpalbbaa
open Go.RowKit
attribute [local go_sem] und_cell
set_option maxHeartbeats 1000000 in
theorem szSay_c (x : Say)  (left : Int) (w : World) (B : Nat) (s0 : x.Name.size ≤ maxLen) (hB : B ≤ w.heap.size) (h0 : 0 ≤ left) (h1 : left ≤ 1048576) :
    Calls Try.prog 45 #[.agg #[.string x.Name, .int .i64 x.At, .int .i64 x.Value], .int .i64 left] w fun e w' => e = .returned (.int .i64 (Pl.szRet left (Pl.szSay x))) ∧ Below w.heap.size w w' := by
  unfold maxLen at s0
  have HK := Lib.hid (Mm.Blk.new w 57 [.string x.Name, .int .i64 x.At, .int .i64 x.Value])
  have hb0 : Below w.heap.size w (w.alloc (.cells #[.string x.Name, .int .i64 x.At, .int .i64 x.Value] 57)) := below_new (Below.refl _ _) _
  have HB0 := Lib.hid hb0
  clear hb0
  have zn0 := Pl.szStr_nn x.Name
  have e0 : Pl.szStr x.Name = (x.Name.size : Int) := rfl
  have hz : Pl.szSay x = Pl.szStr x.Name := rfl
  have HZ := Lib.hid hz
  clear hz
  have E0 := Lib.hid e0
  clear e0
  by_cases t0 : left - Pl.szStr x.Name < 0
  · have t0' := t0
    rw [E0.out] at t0'
    go_enter Try.func45, Try.ntmps45
    go_wp2
    go_ret
    exact ⟨ret_int (by rw [HZ.out, Pl.szRet_lt (by omega)]), HB0.out⟩
  · have t0' := t0
    rw [E0.out] at t0'
    go_enter Try.func45, Try.ntmps45
    go_wp2
    go_ret
    exact ⟨ret_int (by have hh : Pl.szRet left (Pl.szSay x) = left - Pl.szSay x := Pl.szRet_ge (by rw [HZ.out]; omega); have h2 := HZ.out; have := E0.out; omega), HB0.out⟩
set_option maxHeartbeats 1000000 in
theorem szHouseStep_c (x : HouseStep)  (left : Int) (w : World) (B : Nat) (s0 : x.What.Name.size ≤ maxLen) (hB : B ≤ w.heap.size) (h0 : 0 ≤ left) (h1 : left ≤ 1048576) :
    Calls Try.prog 29 #[.agg #[.int .i64 x.Kind, .int .i64 x.Part, .string x.What.Name, .int .i64 x.What.At, .int .i64 x.What.Value], .int .i64 left] w fun e w' => e = .returned (.int .i64 (Pl.szRet left (Pl.szHouseStep x))) ∧ Below w.heap.size w w' := by
  unfold maxLen at s0
  have HK := Lib.hid (Mm.Blk.new w 59 [.int .i64 x.Kind, .int .i64 x.Part, .string x.What.Name, .int .i64 x.What.At, .int .i64 x.What.Value])
  have hb0 : Below w.heap.size w (w.alloc (.cells #[.int .i64 x.Kind, .int .i64 x.Part, .string x.What.Name, .int .i64 x.What.At, .int .i64 x.What.Value] 59)) := below_new (Below.refl _ _) _
  have HB0 := Lib.hid hb0
  clear hb0
  have zn0 := Pl.szSay_nn x.What
  have hz : Pl.szHouseStep x = Pl.szSay x.What := rfl
  have HZ := Lib.hid hz
  clear hz
  by_cases t0 : left - Pl.szSay x.What < 0
  · go_enter Try.func29, Try.ntmps29
    go_wp2_with fail
    refine (szSay_c x.What _ _ (_) (by unfold maxLen; omega) (Nat.le_refl _) (by omega) (by omega)).mono ?_
    rintro e w1 ⟨rfl, hb1⟩
    rw [Pl.szRet_lt (by omega)]
    have HB1 := Lib.hid (below_step HB0.out hb1)
    have HK := Lib.hid (HK.out.bel hb1)
    clear hb1
    go_wp2
    go_ret
    exact ⟨ret_int (by rw [HZ.out, Pl.szRet_lt (by omega)]), HB1.out⟩
  · go_enter Try.func29, Try.ntmps29
    go_wp2_with fail
    refine (szSay_c x.What _ _ (_) (by unfold maxLen; omega) (Nat.le_refl _) (by omega) (by omega)).mono ?_
    rintro e w1 ⟨rfl, hb1⟩
    rw [Pl.szRet_ge (by omega)]
    have HB1 := Lib.hid (below_step HB0.out hb1)
    have HK := Lib.hid (HK.out.bel hb1)
    clear hb1
    go_wp2
    go_ret
    exact ⟨ret_int (by have hh : Pl.szRet left (Pl.szHouseStep x) = left - Pl.szHouseStep x := Pl.szRet_ge (by rw [HZ.out]; omega); have h2 := HZ.out; omega), HB1.out⟩
set_option maxHeartbeats 1000000 in
theorem szHouseStepS_c (l : List HouseStep) (A : Option Addr) (n c : Nat) (left : Int) (w : World) (B : Nat) (hl : Mm.SlAt rHouseStep w B l A n c) (hB : B ≤ w.heap.size) (h0 : 0 ≤ left) (h1 : left ≤ 1048576) :
    Calls Try.prog 10 #[.slice A n c, .int .i64 left] w fun e w' => e = .returned (.int .i64 (Pl.szRet left (Pl.szl Pl.szHouseStep l))) ∧ Below w.heap.size w w' := by
  have hn : n ≤ 9223372036854775807 := by have := hl.2.1; have := hl.2.2.1; unfold maxLen at this; omega
  have hlen : Hid (l.length = n) := hl.1
  have HL := Lib.hid hl
  have HZ : Hid (Pl.szl Pl.szHouseStep l = (n : Int) + Pl.sumI Pl.szHouseStep l) := by show _ = _; unfold Pl.szl; rw [hlen.out]
  have HN : Hid (∀ x : HouseStep, 0 ≤ Pl.szHouseStep x) := Pl.szHouseStep_nn
  have hs0 := Pl.sumI_nn HN.out l
  clear hl
  by_cases h : left - (n : Int) < 0
  · go_enter Try.func10, Try.ntmps10
    go_wp2
    go_ret
    exact ⟨ret_int (by rw [HZ.out, Pl.szRet_lt (by omega)]), Below.refl _ _⟩
  · go_enter Try.func10, Try.ntmps10
    go_wp2
    go_loopw [1, 5] (fun lf i wr => ∃ k : Nat, k ≤ n ∧ i = .int .i64 k ∧ (∃ s : Int, 0 ≤ s ∧ s ≤ left ∧ s = left - n - Pl.sumI Pl.szHouseStep (l.take k) ∧ lf = .int .i64 s) ∧ Below w.heap.size w wr) (fun _ i _ => n - (intOf i).toNat)
    case atStart => exact ⟨0, Nat.zero_le _, rfl, ⟨_, by omega, by omega, by simp [Pl.sumI], rfl⟩, Below.refl _ _⟩
    case round =>
      obtain ⟨k, hk, rfl, ⟨s, hs1, hs2, hs3, rfl⟩, hbel⟩ := hrel
      rename_i wr _
      have HS := Lib.hid hs3
      clear hs3
      by_cases hlt : k < n
      · obtain ⟨x, b, off, hx, rfl, hb, f0, f1, f2, f3, f4, d0, d1, d2, d3, d4⟩ := rHouseStep_get (HL.out.keep (w' := wr) (fun b hb => hbel.block b (by omega))) hlt
        have hBw : B ≤ wr.heap.size := Nat.le_trans hB hbel.size
        have hx0 := HN.out x
        have hsn : Pl.sumI Pl.szHouseStep (l.take (k + 1)) = Pl.sumI Pl.szHouseStep (l.take k) + Pl.szHouseStep x := Pl.sumI_succ hx
        have hst := Pl.sumI_take HN.out l (k + 1)
        have HA := Lib.hid (And.intro hsn hst)
        clear hsn hst hx
        have HF := Lib.hid f2
        clear f0 f1 f2 f3 f4
        by_cases hneg : s - Pl.szHouseStep x < 0
        · go_wp2_with fail
          refine (szHouseStep_c x _ _ B HF.out hBw (by omega) (by omega)).mono ?_
          rintro e w1 ⟨rfl, hb1⟩
          rw [Pl.szRet_lt hneg]
          go_wp2
          go_ret
          exact ⟨ret_int (by rw [HZ.out, Pl.szRet_lt (by have := HA.out.1; have := HA.out.2; have := HS.out; omega)]), below_step hbel hb1⟩
        · go_wp2_with fail
          refine (szHouseStep_c x _ _ B HF.out hBw (by omega) (by omega)).mono ?_
          rintro e w1 ⟨rfl, hb1⟩
          rw [Pl.szRet_ge (by omega)]
          go_wp2
          go_roundw
          case rel => exact ⟨k + 1, by omega, by go_num, ⟨_, by omega, by omega, by have := HA.out.1; have := HS.out; omega, rfl⟩, below_step hbel hb1⟩
          case measure => simp [intOf]; omega
      · have HK : Hid (l.take k = l) := List.take_of_length_le (by have := hlen.out; omega)
        go_wp2
        go_ret
        exact ⟨ret_int (by have := HS.out; rw [HK.out] at this; rw [HZ.out, Pl.szRet_ge (by omega)]; omega), hbel⟩
end Go.Proofs.Ytkodfflnpalbbaa
