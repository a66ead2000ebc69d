/-
  Contracts: the laws' own comparisons, at equal data, and the number of some bytes. No conditions.
-/
import Derived.Test.YtjpmnegpkpimhaaCu
import Derived.Test.YtjpmnegpkpimhaaTy
namespace Go.Proofs.Ytjpmnegpkpimhaa
open Go.RowKit
attribute [local go_sem] und_cell World.cell?_alloc_some
set_option maxRecDepth 100000 in
set_option maxHeartbeats 1000000 in
theorem sameSamples_c (l : List Sample) (A A' : Option Addr) (n c c' : Nat) (w : World) (B : Nat) (h1 : Mm.SlAt smp w B l A n c) (h2 : Mm.SlAt smp w B l A' n c') (hB : B ≤ w.heap.size) :
    Calls Try.prog 12 #[.slice A n c, .slice A' n c'] w fun e w' => e = .returned (.bool true) ∧ Below w.heap.size w w' := by
  have H1 := Lib.hid h1
  have H2 := Lib.hid h2
  have hlen : n ≤ maxLen := Nat.le_trans h1.2.1 h1.2.2.1
  unfold maxLen at hlen
  clear h1 h2
  go_enter Try.func12, Try.ntmps12
  go_wp2
  go_loopg [13] n (fun gg i wr => ∃ k : Nat, n - k ≤ gg ∧ k ≤ n ∧ i = .int .i64 k ∧ Below w.heap.size w wr)
  case atStart => exact ⟨0, Nat.le_refl _, Nat.zero_le _, rfl, Below.refl _ _⟩
  case round =>
    obtain ⟨k, hgk, hk, rfl, hbel⟩ := hrel
    have HB := Lib.hid hbel
    by_cases hlt : k < n
    · obtain ⟨x, b, off, hx, rfl, hb, b1, b2, c1, c2⟩ := smp_get (H1.out.keep fun b hb => hbel.block b (by omega)) hlt
      obtain ⟨y, b', off', hy, rfl, hb', b1', b2', c1', c2'⟩ := smp_get (H2.out.keep fun b hb => hbel.block b (by omega)) hlt
      rw [hx] at hy
      injection hy with hy
      subst hy
      have f1 : (k : Int) < (n : Nat) := by omega
      have f2 : (0 : Int) ≤ (k : Nat) := by omega
      clear hx hbel
      go_wp2
      go_quiet (fail)
      go_wp2
      go_roundg (n - (k + 1))
      case measure => omega
      case rel => exact ⟨k + 1, Nat.le_refl _, by omega, by go_num, below_drewN HB.out _⟩
    · go_wp2
      go_ret
      exact ⟨rfl, HB.out⟩
set_option maxRecDepth 100000 in
theorem numberOf_c (code : List Int) (A : Option Addr) (n c : Nat) (w : World) (B : Nat) (h1 : Mm.SlAt Mm.u8 w B code A n c) :
    Calls Try.prog 22 #[.slice A n c] w fun e w' => ∃ k : Int, e = .returned (.int .i64 k) ∧ 0 ≤ k ∧ k < 1000003 ∧ w' = w := by
  have H1 := Lib.hid h1
  have hlen : n ≤ maxLen := Nat.le_trans h1.2.1 h1.2.2.1
  unfold maxLen at hlen
  clear h1
  go_enter Try.func22, Try.ntmps22
  go_wp2
  go_loopg [3, 8] n (fun gg v i wr => ∃ (k : Nat) (y : Int), n - k ≤ gg ∧ k ≤ n ∧ v = .int .i64 y ∧ i = .int .i64 k ∧ 0 ≤ y ∧ y < 1000003 ∧ wr = w)
  case atStart => exact ⟨0, 0, Nat.le_refl _, Nat.zero_le _, rfl, rfl, by omega, by omega, rfl⟩
  case round =>
    obtain ⟨k, y, hgk, hk, rfl, rfl, hy0, hy1, rfl⟩ := hrel
    by_cases hlt : k < n
    · obtain ⟨x, b, off, cs, hx, rfl, hb, ⟨rfl, b1, b2⟩, hc⟩ := H1.out.get hlt
      have c1 := hc 0 _ rfl
      rw [Nat.add_zero, show Mm.u8.size = 1 from rfl, Nat.mul_one] at c1
      have f1 : (k : Int) < (n : Nat) := by omega
      have f2 : (0 : Int) ≤ (k : Nat) := by omega
      clear hx hc
      go_wp2
      go_roundg (n - (k + 1))
      case measure => omega
      case rel => exact ⟨k + 1, _, Nat.le_refl _, by omega, rfl, by go_num, Int.emod_nonneg _ (by omega), Int.emod_lt_of_pos _ (by omega), rfl⟩
    · go_wp2
      go_ret
      exact ⟨y, rfl, hy0, hy1, rfl⟩
end Go.Proofs.Ytjpmnegpkpimhaa
