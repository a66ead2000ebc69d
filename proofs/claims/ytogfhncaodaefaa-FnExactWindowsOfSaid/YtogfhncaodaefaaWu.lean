/-
  Contracts of the functions on counters: resets, rise. No conditions.
-/
import Derived.Test.YtogfhncaodaefaaWs
import Derived.Test.YtogfhncaodaefaaPu
namespace Go.Proofs.Ytogfhncaodaefaa
open Go.RowKit
attribute [local go_sem] und_cell


set_option maxHeartbeats 1000000 in
theorem isReset_c (l : List Sample) (A : Option Addr) (n c k : Nat) (w : World) (B : Nat) (hl : Mm.SlAt smp w B l A n c) (hk : k < n) :
    Calls Try.prog 37 #[.slice A n c, .int .i64 k] w fun e w' => e = .returned (.bool (Pl.resetB l k)) ∧ Below w.heap.size w w' := by
  have hn : n ≤ 9223372036854775807 := by have := hl.2.1; have := hl.2.2.1; unfold maxLen at this; omega
  by_cases h0 : k = 0
  · have HF : Hid (Pl.resetB l k = false) := by subst h0; rfl
    have hd0 : decide (0 < k) = false := by subst h0; rfl
    clear hl h0
    go_enter Try.func37, Try.ntmps37
    go_wp2
    refine wp_region_und (by kernel_rfl) (by kernel_rfl) ?_
    repeat (go_big_quiet_step ((first | fail)))
    refine wpQuiet_nil ?_
    intro X hX
    go_wp2
    go_ret
    exact ⟨ret_bool HF.out.symm, hX⟩
  · have hk0 : 0 < k := by omega
    obtain ⟨x, b, off, hx, rfl, hb, _, _, c1, c2⟩ := smp_get hl hk
    obtain ⟨y, hy, _, _, _, c3, c4⟩ := smp_get' hl (show k - 1 < n by omega)
    have HF : Hid (Pl.resetB l k = decide (x.Value < y.Value)) := Pl.resetB_eq hx hy hk0
    clear hl hx hy h0
    go_enter Try.func37, Try.ntmps37
    go_wp2
    refine wp_region_und (by kernel_rfl) (by kernel_rfl) ?_
    repeat (go_big_quiet_step ((first | fail)))
    refine wpQuiet_nil ?_
    intro X hX
    go_wp2
    go_ret
    exact ⟨ret_bool HF.out.symm, hX⟩
end Go.Proofs.Ytogfhncaodaefaa
