/-
  Contracts of the program's and the reference's functions on words and hashes. No conditions.
-/
import Derived.Test.YtaepohocabealaaRows
import Derived.Test.YtaepohocabealaaP1
import Derived.WalkKit
import Derived.WalkLawsBesides
import Derived.WalkSpells
import Derived.Outline
import Derived.IntWalk

import Derived.Lib.Hide
namespace Go.Proofs.Ytaepohocabealaa
open Go.RowKit

def Pl.ret2 (x : Int × Bool) : Ending := .returned (.tuple #[.int .i64 x.1, .bool x.2])
theorem ret_int {k : IntKind} {a b : Int} (h : a = b) : Ending.returned (.int k a) = .returned (.int k b) := by rw [h]
theorem ret_bool {a b : Bool} (h : a = b) : Ending.returned (.bool a) = .returned (.bool b) := by rw [h]

theorem within_c (n a b : Int) (w : World) :
    Calls Try.prog 47 #[.int .i64 n, .int .i64 a, .int .i64 b] w fun e w' => e = .returned (.bool (Pl.isIn n a b)) ∧ w = w' := by
  unfold Pl.isIn
  by_cases h1 : a ≤ n
  · by_cases h2 : n ≤ b
    · go_enter Try.func47, Try.ntmps47
      go_wp2
      go_ret
      exact ⟨ret_bool (by simp [*]), rfl⟩
    · go_enter Try.func47, Try.ntmps47
      go_wp2
      go_ret
      exact ⟨ret_bool (by simp [*]), rfl⟩
  · go_enter Try.func47, Try.ntmps47
    go_wp2
    go_ret
    exact ⟨ret_bool (by simp; omega), rfl⟩
theorem l1In_c (n a b : Int) (w : World) :
    Calls Try.prog 56 #[.int .i64 n, .int .i64 a, .int .i64 b] w fun e w' => e = .returned (.bool (Pl.isIn n a b)) ∧ w = w' := by
  unfold Pl.isIn
  by_cases h1 : a ≤ n
  · by_cases h2 : n ≤ b
    · go_enter Try.func56, Try.ntmps56
      go_wp2
      go_ret
      exact ⟨ret_bool (by simp [*]), rfl⟩
    · go_enter Try.func56, Try.ntmps56
      go_wp2
      go_ret
      exact ⟨ret_bool (by simp [*]), rfl⟩
  · go_enter Try.func56, Try.ntmps56
    go_wp2
    go_ret
    exact ⟨ret_bool (by simp; omega), rfl⟩
end Go.Proofs.Ytaepohocabealaa
