/-
  Contracts of the program's and the reference's functions on words and hashes. No conditions.
-/
import Derived.Test.YtnppcdiicnofpaaRows
import Derived.Test.YtnppcdiicnofpaaP1
import Derived.WalkKit
import Derived.WalkLawsBesides
import Derived.WalkSpells
import Derived.Outline
import Derived.IntWalk

import Derived.Lib.Hide
namespace Go.Proofs.Ytnppcdiicnofpaa
open Go.RowKit

def Pl.ret2 (x : Int × Bool) : Ending := .returned (.tuple #[.int .i64 x.1, .bool x.2])
theorem ret_int {k : IntKind} {a b : Int} (h : a = b) : Ending.returned (.int k a) = .returned (.int k b) := by rw [h]
theorem ret_bool {a b : Bool} (h : a = b) : Ending.returned (.bool a) = .returned (.bool b) := by rw [h]

theorem within_c (n a b : Int) (w : World) :
    Calls Try.prog 52 #[.int .i64 n, .int .i64 a, .int .i64 b] w fun e w' => e = .returned (.bool (Pl.isIn n a b)) ∧ w = w' := by
  unfold Pl.isIn
  by_cases h1 : a ≤ n
  · by_cases h2 : n ≤ b
    · go_enter Try.func52, Try.ntmps52
      go_wp2
      go_ret
      exact ⟨ret_bool (by simp [*]), rfl⟩
    · go_enter Try.func52, Try.ntmps52
      go_wp2
      go_ret
      exact ⟨ret_bool (by simp [*]), rfl⟩
  · go_enter Try.func52, Try.ntmps52
    go_wp2
    go_ret
    exact ⟨ret_bool (by simp; omega), rfl⟩
theorem l1In_c (n a b : Int) (w : World) :
    Calls Try.prog 48 #[.int .i64 n, .int .i64 a, .int .i64 b] w fun e w' => e = .returned (.bool (Pl.isIn n a b)) ∧ w = w' := by
  unfold Pl.isIn
  by_cases h1 : a ≤ n
  · by_cases h2 : n ≤ b
    · go_enter Try.func48, Try.ntmps48
      go_wp2
      go_ret
      exact ⟨ret_bool (by simp [*]), rfl⟩
    · go_enter Try.func48, Try.ntmps48
      go_wp2
      go_ret
      exact ⟨ret_bool (by simp [*]), rfl⟩
  · go_enter Try.func48, Try.ntmps48
    go_wp2
    go_ret
    exact ⟨ret_bool (by simp; omega), rfl⟩
set_option maxRecDepth 100000 in
set_option maxHeartbeats 1000000 in
theorem isWord_c (s : ByteArray) (d : Bool) (w : World) (hs : s.size ≤ maxLen) :
    Calls Try.prog 111 #[.string s, .bool d] w fun e w' => e = .returned (.bool (Pl.word d s.data.toList)) ∧ w = w' := by
  unfold maxLen at hs
  go_enter Try.func111, Try.ntmps111
  go_wp2
  go_loop [5, 8] (fun _ i => ∃ k : Nat, k ≤ s.size ∧ i = .int .i64 k ∧ ∀ c ∈ s.data.toList.take k, Pl.wbyte d c = true) (fun _ i => s.size - (intOf i).toNat)
  case atStart => exact ⟨0, Nat.zero_le _, rfl, by simp⟩
  case round =>
    obtain ⟨k, hk, rfl, hall⟩ := hrel
    by_cases hlt : k < s.size
    · have hts : s.data.toList.take (k + 1) = s.data.toList.take k ++ [s[k]] := Pl.take_snoc s.data.toList k hlt
      have HS : Hid (s.data.toList.take (k + 1) = s.data.toList.take k ++ [s[k]]) := hts
      have HA : Hid (∀ c ∈ s.data.toList.take k, Pl.wbyte d c = true) := hall
      clear hts hall
      have hb : (s[k].toNat : Int) < 256 := by have := s[k].toNat_lt; omega
      cases d
      all_goals go_wp2
      all_goals first
        | (go_ret; exact ⟨ret_bool (Pl.word_bad hlt (Pl.wb_no (by omega) (.inl rfl))).symm, rfl⟩)
        | (go_ret; exact ⟨ret_bool (Pl.word_bad hlt (Pl.wb_no (by omega) (.inr (by omega)))).symm, rfl⟩)
        | (go_round
           case rel => exact ⟨k + 1, by omega, by go_num, Pl.all_snoc HS.out HA.out (by first | exact Pl.wb_letter (by omega) | exact Pl.wb_digit (by omega))⟩
           case measure => simp [intOf]; omega)
    · have HA : Hid (∀ c ∈ s.data.toList.take k, Pl.wbyte d c = true) := hall
      clear hall
      go_wp2_with (go_at_call 52; refine (within_c _ _ _ _).mono ?_; rintro e w' ⟨rfl, rfl⟩)
      go_ret
      exact ⟨ret_bool (by rw [Pl.word_end (by simp; omega) HA.out]; simp), rfl⟩
set_option maxRecDepth 100000 in
set_option maxHeartbeats 1000000 in
theorem l3Name_c (s : ByteArray) (d : Bool) (w : World) (hs : s.size ≤ maxLen) :
    Calls Try.prog 96 #[.string s, .bool d] w fun e w' => e = .returned (.bool (Pl.word d s.data.toList)) ∧ w = w' := by
  unfold maxLen at hs
  go_enter Try.func96, Try.ntmps96
  go_wp2
  go_loop [5] (fun i => ∃ k : Nat, k ≤ s.size ∧ i = .int .i64 k ∧ ∀ c ∈ s.data.toList.take k, Pl.wbyte d c = true) (fun i => s.size - (intOf i).toNat)
  case atStart => exact ⟨0, Nat.zero_le _, rfl, by simp⟩
  case round =>
    obtain ⟨k, hk, rfl, hall⟩ := hrel
    by_cases hlt : k < s.size
    · have hts : s.data.toList.take (k + 1) = s.data.toList.take k ++ [s[k]] := Pl.take_snoc s.data.toList k hlt
      have HS : Hid (s.data.toList.take (k + 1) = s.data.toList.take k ++ [s[k]]) := hts
      have HA : Hid (∀ c ∈ s.data.toList.take k, Pl.wbyte d c = true) := hall
      clear hts hall
      have hb : (s[k].toNat : Int) < 256 := by have := s[k].toNat_lt; omega
      cases d
      all_goals go_wp2
      all_goals (try simp only [Bool.not_eq_true', Bool.not_eq_false', decide_eq_true_eq, decide_eq_false_iff_not] at *)
      all_goals first
        | (exfalso; omega)
        | (go_ret; exact ⟨ret_bool (Pl.word_bad hlt (Pl.wb_no (by omega) (.inl rfl))).symm, rfl⟩)
        | (go_ret; exact ⟨ret_bool (Pl.word_bad hlt (Pl.wb_no (by omega) (.inr (by omega)))).symm, rfl⟩)
        | (go_round
           case rel => exact ⟨k + 1, by omega, by go_num, Pl.all_snoc HS.out HA.out (by first | exact Pl.wb_letter (by omega) | exact Pl.wb_digit (by omega))⟩
           case measure => simp [intOf]; omega)
    · have HA : Hid (∀ c ∈ s.data.toList.take k, Pl.wbyte d c = true) := hall
      clear hall
      go_wp2_with (go_at_call 48; refine (l1In_c _ _ _ _).mono ?_; rintro e w' ⟨rfl, rfl⟩)
      go_ret
      exact ⟨ret_bool (by rw [Pl.word_end (by simp; omega) HA.out]; simp), rfl⟩
end Go.Proofs.Ytnppcdiicnofpaa
