/-
  The walks of the laws on PartOf and PlaceIn: they return true and change nothing that was there. No conditions.
-/
import Derived.Test.YtffjepjblokjmaaLwA
namespace Go.Proofs.Ytffjepjblokjmaa
open Go.RowKit

theorem walk_FnExactPartOf (p : Int) (_w0 : (Lit.int .i64 p).wf = true) (s : ByteArray) (w1 : s.size ≤ maxLen) (w : World) :
    Calls Try.prog 3 #[.int .i64 p, .string s] w fun e w' => e = .returned (.bool true) ∧ Below w.heap.size w w' := by
  have w1' := w1
  unfold maxLen at w1'
  by_cases hl : (1048576 : Int) < (s.size : Int)
  · go_enter Try.func3, Try.ntmps3
    go_wp2_with first
      | (go_at_call 9; refine (specPartOf_c _ _ _ w1).mono ?_; rintro e w' ⟨rfl, rfl⟩; unfold Pl.ret2)
      | (go_at_call 10; refine (implPartOf_c _ _ _ w1).mono ?_; rintro e w' ⟨rfl, rfl⟩; unfold Pl.ret2)
    go_ret
    exact ⟨rfl, Below.refl _ _⟩
  · go_enter Try.func3, Try.ntmps3
    go_wp2_with first
      | (go_at_call 9; refine (specPartOf_c _ _ _ w1).mono ?_; rintro e w' ⟨rfl, rfl⟩; unfold Pl.ret2)
      | (go_at_call 10; refine (implPartOf_c _ _ _ w1).mono ?_; rintro e w' ⟨rfl, rfl⟩; unfold Pl.ret2)
    go_ret
    exact ⟨rfl, Below.refl _ _⟩
theorem walk_FnExactPlaceIn (p : Int) (_w0 : (Lit.int .i64 p).wf = true) (s : ByteArray) (w1 : s.size ≤ maxLen) (w : World) :
    Calls Try.prog 4 #[.int .i64 p, .string s] w fun e w' => e = .returned (.bool true) ∧ Below w.heap.size w w' := by
  have w1' := w1
  unfold maxLen at w1'
  by_cases hl : (1048576 : Int) < (s.size : Int)
  · go_enter Try.func4, Try.ntmps4
    go_wp2_with first
      | (go_at_call 11; refine (specPlaceIn_c _ _ _ w1).mono ?_; rintro e w' ⟨rfl, rfl⟩; unfold Pl.ret2)
      | (go_at_call 12; refine (implPlaceIn_c _ _ _ w1).mono ?_; rintro e w' ⟨rfl, rfl⟩; unfold Pl.ret2)
    go_ret
    exact ⟨rfl, Below.refl _ _⟩
  · go_enter Try.func4, Try.ntmps4
    go_wp2_with first
      | (go_at_call 11; refine (specPlaceIn_c _ _ _ w1).mono ?_; rintro e w' ⟨rfl, rfl⟩; unfold Pl.ret2)
      | (go_at_call 12; refine (implPlaceIn_c _ _ _ w1).mono ?_; rintro e w' ⟨rfl, rfl⟩; unfold Pl.ret2)
    go_ret
    exact ⟨rfl, Below.refl _ _⟩
end Go.Proofs.Ytffjepjblokjmaa
