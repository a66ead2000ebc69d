/-
  The laws' own sizes of arguments. No conditions.
-/
import Derived.Test.YtogfhncaodaefaaWa
import Derived.Test.YtogfhncaodaefaaTy
import Derived.Test.YtogfhncaodaefaaQu
import Derived.Lib.Hide
import Derived.Deep.DeepFit
namespace Go.Proofs.Ytogfhncaodaefaa
open Go.RowKit
attribute [local go_sem] und_cell
set_option maxHeartbeats 1000000 in
theorem szSampleS_c (l : List Sample) (A : Option Addr) (n c : Nat) (left : Int) (w : World) (B : Nat) (hl : Mm.SlAt smp w B l A n c) (hB : B ≤ w.heap.size) (h0 : 0 ≤ left) (h1 : left ≤ 1048576) :
    Calls Try.prog 9 #[.slice A n c, .int .i64 left] w fun e w' => e = .returned (.int .i64 (Pl.szRet left (Pl.szl Pl.sz0 l))) ∧ Below w.heap.size w w' := by
  have hn : n ≤ 9223372036854775807 := by have := hl.2.1; have := hl.2.2.1; unfold maxLen at this; omega
  have hlen : Hid (l.length = n) := hl.1
  have HZ : Hid (Pl.szl Pl.sz0 l = (n : Int)) := by show _ = _; rw [Pl.szl_zero, hlen.out]
  clear hl
  by_cases h : left - (n : Int) < 0
  · go_enter Try.func9, Try.ntmps9
    go_wp2
    go_ret
    exact ⟨ret_int (by rw [HZ.out, Pl.szRet_lt (by omega)]), Below.refl _ _⟩
  · go_enter Try.func9, Try.ntmps9
    go_wp2
    go_ret
    exact ⟨ret_int (by rw [HZ.out, Pl.szRet_ge (by omega)]), Below.refl _ _⟩
end Go.Proofs.Ytogfhncaodaefaa
