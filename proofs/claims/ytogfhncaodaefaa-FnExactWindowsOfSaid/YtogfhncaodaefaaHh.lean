/-
  The laws' own looks for marks. No conditions.
-/
import Derived.Test.YtogfhncaodaefaaWa
import Derived.Test.YtogfhncaodaefaaTy
import Derived.Test.YtogfhncaodaefaaQu
import Derived.Test.YtogfhncaodaefaaMt
import Derived.Lib.Hide
import Derived.Deep.DeepFit
namespace Go.Proofs.Ytogfhncaodaefaa
open Go.RowKit
attribute [local go_sem] und_cell
set_option maxHeartbeats 2000000 in
theorem heldSampleS_c (l : List Sample) (A : Option Addr) (n c : Nat) (k : Int) (w : World) (B : Nat) (hl : Mm.SlAt smp w B (Mm.mkL Pl.mkSample Pl.cntSample l k) A n c) (hB : B ≤ w.heap.size) (h0 : 1 ≤ k) (h1 : k + Mm.cntL Pl.cntSample l ≤ 1000000000000) :
    Calls Try.prog 19 #[.slice A n c, .int .i64 k] w fun e w' => e = .returned (.int .i64 (k + Mm.cntL Pl.cntSample l)) ∧ Below w.heap.size w w' := by
  have hn : n ≤ 9223372036854775807 := by have := hl.2.1; have := hl.2.2.1; unfold maxLen at this; omega
  have hlen : Hid (l.length = n) := by have := hl.1; rw [Mm.mkL_len] at this; exact this
  have HL := Lib.hid hl
  have HN : Hid (∀ x : Sample, 0 ≤ Pl.cntSample x) := Pl.cntSample_nn
  clear hl
  go_enter Try.func19, Try.ntmps19
  go_wp2
  go_loopw [1, 5] (fun kk i wr => ∃ j : Nat, j ≤ n ∧ i = .int .i64 j ∧ kk = .int .i64 (k + Mm.cntL Pl.cntSample (l.take j)) ∧ Below w.heap.size w wr) (fun _ i _ => n - (intOf i).toNat)
  case atStart => exact ⟨0, Nat.zero_le _, rfl, by simp [Mm.cntL], Below.refl _ _⟩
  case round =>
    obtain ⟨j, hj, rfl, rfl, hbel⟩ := hrel
    rename_i wr _
    by_cases hlt : j < n
    · obtain ⟨x, hx⟩ : ∃ x, l[j]? = some x := ⟨_, List.getElem?_eq_getElem (by have := hlen.out; omega)⟩
      have hc1 : Mm.cntL Pl.cntSample (l.take (j + 1)) = Mm.cntL Pl.cntSample (l.take j) + Pl.cntSample x := Mm.cntL_succ hx
      have hc2 := Mm.cntL_take_le HN.out l (j + 1)
      have hc3 := Mm.cntL_nn HN.out (l.take j)
      have hc4 := HN.out x
      have hmg := Mm.mkL_get (mk := Pl.mkSample) (cnt := Pl.cntSample) (k := k) hx
      obtain ⟨kj, hkj⟩ : ∃ kj, k + Mm.cntL Pl.cntSample (l.take j) = kj := ⟨_, rfl⟩
      rw [hkj]
      rw [hkj] at hmg
      have hk0 : 1 ≤ kj := by omega
      have hk1 : kj + Pl.cntSample x ≤ 1000000000000 := by omega
      have HX := Lib.hid (And.intro hkj hc1)
      have hBw : B ≤ wr.heap.size := Nat.le_trans hB hbel.size
      obtain ⟨y, b, off, hy, rfl, hb, f0, f1, d0, d1⟩ := smp_get (HL.out.keep (w' := wr) (fun b hb => hbel.block b (by omega))) hlt
      have hye : y = Pl.mkSample x kj := by rw [hy] at hmg; injection hmg
      rw [hye] at f0 f1 d0 d1
      clear hy hmg hkj hc1 hc2 hc3 hx hye
      have hcx : Pl.cntSample x = 1 + 1 := rfl
      rw [hcx] at hk1 hc4
      have HCX := Lib.hid hcx
      clear hcx hc4
      have d0' : wr.cell? ⟨b, off + j * 2, none⟩ = some (.int .i64 (kj)) := by exact d0
      clear d0
      have d1' : wr.cell? ⟨b, off + j * 2 + 1, none⟩ = some (.int .i64 ((kj + 1))) := by exact d1
      clear d1
      clear f0 f1
      go_wp2
      go_roundw
      case rel =>
        refine ⟨j + 1, by omega, by go_num, ?_, hbel⟩
        have h3 := HX.out.1; have h4 := HX.out.2; have h5 := HCX.out
        rw [h4]
        show Value.int .i64 _ = Value.int .i64 _
        congr 1
        omega
      case measure => simp [intOf]; omega
    · have HK : Hid (l.take j = l) := List.take_of_length_le (by have := hlen.out; omega)
      go_wp2
      go_ret
      exact ⟨ret_int (by rw [HK.out]), hbel⟩
set_option maxHeartbeats 2000000 in
theorem heldWindowS_c (l : List Window) (A : Option Addr) (n c : Nat) (k : Int) (w : World) (B : Nat) (hl : Mm.SlAt rWindow w B (Mm.mkL Pl.mkWindow Pl.cntWindow l k) A n c) (hB : B ≤ w.heap.size) (h0 : 1 ≤ k) (h1 : k + Mm.cntL Pl.cntWindow l ≤ 1000000000000) :
    Calls Try.prog 28 #[.slice A n c, .int .i64 k] w fun e w' => e = .returned (.int .i64 (k + Mm.cntL Pl.cntWindow l)) ∧ Below w.heap.size w w' := by
  have hn : n ≤ 9223372036854775807 := by have := hl.2.1; have := hl.2.2.1; unfold maxLen at this; omega
  have hlen : Hid (l.length = n) := by have := hl.1; rw [Mm.mkL_len] at this; exact this
  have HL := Lib.hid hl
  have HN : Hid (∀ x : Window, 0 ≤ Pl.cntWindow x) := Pl.cntWindow_nn
  clear hl
  go_enter Try.func28, Try.ntmps28
  go_wp2
  go_loopw [1, 5] (fun kk i wr => ∃ j : Nat, j ≤ n ∧ i = .int .i64 j ∧ kk = .int .i64 (k + Mm.cntL Pl.cntWindow (l.take j)) ∧ Below w.heap.size w wr) (fun _ i _ => n - (intOf i).toNat)
  case atStart => exact ⟨0, Nat.zero_le _, rfl, by simp [Mm.cntL], Below.refl _ _⟩
  case round =>
    obtain ⟨j, hj, rfl, rfl, hbel⟩ := hrel
    rename_i wr _
    by_cases hlt : j < n
    · obtain ⟨x, hx⟩ : ∃ x, l[j]? = some x := ⟨_, List.getElem?_eq_getElem (by have := hlen.out; omega)⟩
      have hc1 : Mm.cntL Pl.cntWindow (l.take (j + 1)) = Mm.cntL Pl.cntWindow (l.take j) + Pl.cntWindow x := Mm.cntL_succ hx
      have hc2 := Mm.cntL_take_le HN.out l (j + 1)
      have hc3 := Mm.cntL_nn HN.out (l.take j)
      have hc4 := HN.out x
      have hmg := Mm.mkL_get (mk := Pl.mkWindow) (cnt := Pl.cntWindow) (k := k) hx
      obtain ⟨kj, hkj⟩ : ∃ kj, k + Mm.cntL Pl.cntWindow (l.take j) = kj := ⟨_, rfl⟩
      rw [hkj]
      rw [hkj] at hmg
      have hk0 : 1 ≤ kj := by omega
      have hk1 : kj + Pl.cntWindow x ≤ 1000000000000 := by omega
      have HX := Lib.hid (And.intro hkj hc1)
      have hBw : B ≤ wr.heap.size := Nat.le_trans hB hbel.size
      obtain ⟨y, b, off, hy, rfl, hb, f0, f1, f2, f3, f4, d0, d1, d2, d3, d4⟩ := rWindow_get (HL.out.keep (w' := wr) (fun b hb => hbel.block b (by omega))) hlt
      have hye : y = Pl.mkWindow x kj := by rw [hy] at hmg; injection hmg
      rw [hye] at f0 f1 f2 f3 f4 d0 d1 d2 d3 d4
      clear hy hmg hkj hc1 hc2 hc3 hx hye
      have hcx : Pl.cntWindow x = 1 + 1 + 1 + 1 + 1 := rfl
      rw [hcx] at hk1 hc4
      have HCX := Lib.hid hcx
      clear hcx hc4
      have d0' : wr.cell? ⟨b, off + j * 5, none⟩ = some (.int .i64 (kj)) := by exact d0
      clear d0
      have d1' : wr.cell? ⟨b, off + j * 5 + 1, none⟩ = some (.int .i64 ((kj + 1))) := by exact d1
      clear d1
      have d2' : wr.cell? ⟨b, off + j * 5 + 2, none⟩ = some (.int .i64 (((kj + 1) + 1))) := by exact d2
      clear d2
      have d3' : wr.cell? ⟨b, off + j * 5 + 3, none⟩ = some (.int .i64 ((((kj + 1) + 1) + 1))) := by exact d3
      clear d3
      have d4' : wr.cell? ⟨b, off + j * 5 + 4, none⟩ = some (.int .i64 (((((kj + 1) + 1) + 1) + 1))) := by exact d4
      clear d4
      clear f0 f1 f2 f3 f4
      go_wp2
      go_roundw
      case rel =>
        refine ⟨j + 1, by omega, by go_num, ?_, hbel⟩
        have h3 := HX.out.1; have h4 := HX.out.2; have h5 := HCX.out
        rw [h4]
        show Value.int .i64 _ = Value.int .i64 _
        congr 1
        omega
      case measure => simp [intOf]; omega
    · have HK : Hid (l.take j = l) := List.take_of_length_le (by have := hlen.out; omega)
      go_wp2
      go_ret
      exact ⟨ret_int (by rw [HK.out]), hbel⟩
end Go.Proofs.Ytogfhncaodaefaa
