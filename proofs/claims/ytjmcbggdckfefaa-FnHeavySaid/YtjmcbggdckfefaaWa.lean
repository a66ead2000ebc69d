/-
  Contracts of the program's and the reference's functions on words and hashes. No conditions.
-/
import Derived.Test.YtjmcbggdckfefaaRows
import Derived.Test.YtjmcbggdckfefaaP1
import Derived.WalkKit
import Derived.WalkLawsBesides
import Derived.WalkSpells
import Derived.Outline
import Derived.IntWalk

import Derived.Lib.Hide
namespace Go.Proofs.Ytjmcbggdckfefaa
open Go.RowKit

def Pl.ret2 (x : Int × Bool) : Ending := .returned (.tuple #[.int .i64 x.1, .bool x.2])
theorem ret_int {k : IntKind} {a b : Int} (h : a = b) : Ending.returned (.int k a) = .returned (.int k b) := by rw [h]
theorem ret_bool {a b : Bool} (h : a = b) : Ending.returned (.bool a) = .returned (.bool b) := by rw [h]

theorem within_c (n a b : Int) (w : World) :
    Calls Try.prog 78 #[.int .i64 n, .int .i64 a, .int .i64 b] w fun e w' => e = .returned (.bool (Pl.isIn n a b)) ∧ w = w' := by
  unfold Pl.isIn
  by_cases h1 : a ≤ n
  · by_cases h2 : n ≤ b
    · go_enter Try.func78, Try.ntmps78
      go_wp2
      go_ret
      exact ⟨ret_bool (by simp [*]), rfl⟩
    · go_enter Try.func78, Try.ntmps78
      go_wp2
      go_ret
      exact ⟨ret_bool (by simp [*]), rfl⟩
  · go_enter Try.func78, Try.ntmps78
    go_wp2
    go_ret
    exact ⟨ret_bool (by simp; omega), rfl⟩
theorem l1In_c (n a b : Int) (w : World) :
    Calls Try.prog 87 #[.int .i64 n, .int .i64 a, .int .i64 b] w fun e w' => e = .returned (.bool (Pl.isIn n a b)) ∧ w = w' := by
  unfold Pl.isIn
  by_cases h1 : a ≤ n
  · by_cases h2 : n ≤ b
    · go_enter Try.func87, Try.ntmps87
      go_wp2
      go_ret
      exact ⟨ret_bool (by simp [*]), rfl⟩
    · go_enter Try.func87, Try.ntmps87
      go_wp2
      go_ret
      exact ⟨ret_bool (by simp [*]), rfl⟩
  · go_enter Try.func87, Try.ntmps87
    go_wp2
    go_ret
    exact ⟨ret_bool (by simp; omega), rfl⟩
set_option maxRecDepth 100000 in
set_option maxHeartbeats 1000000 in
theorem isWord_c (s : ByteArray) (d : Bool) (w : World) (hs : s.size ≤ maxLen) :
    Calls Try.prog 71 #[.string s, .bool d] w fun e w' => e = .returned (.bool (Pl.word d s.data.toList)) ∧ w = w' := by
  unfold maxLen at hs
  go_enter Try.func71, Try.ntmps71
  go_wp2
  go_loop [5, 8] (fun _ i => ∃ k : Nat, k ≤ s.size ∧ i = .int .i64 k ∧ ∀ c ∈ s.data.toList.take k, Pl.wbyte d c = true) (fun _ i => s.size - (intOf i).toNat)
  case atStart => exact ⟨0, Nat.zero_le _, rfl, by simp⟩
  case round =>
    obtain ⟨k, hk, rfl, hall⟩ := hrel
    by_cases hlt : k < s.size
    · have hts : s.data.toList.take (k + 1) = s.data.toList.take k ++ [s[k]] := Pl.take_snoc s.data.toList k hlt
      have HS : Hid (s.data.toList.take (k + 1) = s.data.toList.take k ++ [s[k]]) := hts
      have HA : Hid (∀ c ∈ s.data.toList.take k, Pl.wbyte d c = true) := hall
      clear hts hall
      have hb : (s[k].toNat : Int) < 256 := by have := s[k].toNat_lt; omega
      cases d
      all_goals go_wp2
      all_goals first
        | (go_ret; exact ⟨ret_bool (Pl.word_bad hlt (Pl.wb_no (by omega) (.inl rfl))).symm, rfl⟩)
        | (go_ret; exact ⟨ret_bool (Pl.word_bad hlt (Pl.wb_no (by omega) (.inr (by omega)))).symm, rfl⟩)
        | (go_round
           case rel => exact ⟨k + 1, by omega, by go_num, Pl.all_snoc HS.out HA.out (by first | exact Pl.wb_letter (by omega) | exact Pl.wb_digit (by omega))⟩
           case measure => simp [intOf]; omega)
    · have HA : Hid (∀ c ∈ s.data.toList.take k, Pl.wbyte d c = true) := hall
      clear hall
      go_wp2_with (go_at_call 78; refine (within_c _ _ _ _).mono ?_; rintro e w' ⟨rfl, rfl⟩)
      go_ret
      exact ⟨ret_bool (by rw [Pl.word_end (by simp; omega) HA.out]; simp), rfl⟩
set_option maxRecDepth 100000 in
set_option maxHeartbeats 1000000 in
theorem l3Name_c (s : ByteArray) (d : Bool) (w : World) (hs : s.size ≤ maxLen) :
    Calls Try.prog 66 #[.string s, .bool d] w fun e w' => e = .returned (.bool (Pl.word d s.data.toList)) ∧ w = w' := by
  unfold maxLen at hs
  go_enter Try.func66, Try.ntmps66
  go_wp2
  go_loop [5] (fun i => ∃ k : Nat, k ≤ s.size ∧ i = .int .i64 k ∧ ∀ c ∈ s.data.toList.take k, Pl.wbyte d c = true) (fun i => s.size - (intOf i).toNat)
  case atStart => exact ⟨0, Nat.zero_le _, rfl, by simp⟩
  case round =>
    obtain ⟨k, hk, rfl, hall⟩ := hrel
    by_cases hlt : k < s.size
    · have hts : s.data.toList.take (k + 1) = s.data.toList.take k ++ [s[k]] := Pl.take_snoc s.data.toList k hlt
      have HS : Hid (s.data.toList.take (k + 1) = s.data.toList.take k ++ [s[k]]) := hts
      have HA : Hid (∀ c ∈ s.data.toList.take k, Pl.wbyte d c = true) := hall
      clear hts hall
      have hb : (s[k].toNat : Int) < 256 := by have := s[k].toNat_lt; omega
      cases d
      all_goals go_wp2
      all_goals (try simp only [Bool.not_eq_true', Bool.not_eq_false', decide_eq_true_eq, decide_eq_false_iff_not] at *)
      all_goals first
        | (exfalso; omega)
        | (go_ret; exact ⟨ret_bool (Pl.word_bad hlt (Pl.wb_no (by omega) (.inl rfl))).symm, rfl⟩)
        | (go_ret; exact ⟨ret_bool (Pl.word_bad hlt (Pl.wb_no (by omega) (.inr (by omega)))).symm, rfl⟩)
        | (go_round
           case rel => exact ⟨k + 1, by omega, by go_num, Pl.all_snoc HS.out HA.out (by first | exact Pl.wb_letter (by omega) | exact Pl.wb_digit (by omega))⟩
           case measure => simp [intOf]; omega)
    · have HA : Hid (∀ c ∈ s.data.toList.take k, Pl.wbyte d c = true) := hall
      clear hall
      go_wp2_with (go_at_call 87; refine (l1In_c _ _ _ _).mono ?_; rintro e w' ⟨rfl, rfl⟩)
      go_ret
      exact ⟨ret_bool (by rw [Pl.word_end (by simp; omega) HA.out]; simp), rfl⟩
set_option maxHeartbeats 400000 in
theorem placeIn_c (r : Int) (s : ByteArray) (w : World) (h0 : 0 ≤ r) (h1 : r ≤ 2) (hs : s.size ≤ maxLen) :
    Calls Try.prog 82 #[.int .i64 r, .string s] w fun e w' => e = .returned (.int .i64 (Pl.place r s.data.toList)) ∧ w = w' := by
  unfold maxLen at hs
  go_enter Try.func82, Try.ntmps82
  go_wp2
  go_loop [5, 6, 11] (fun h _ i => ∃ k : Nat, k ≤ s.size ∧ i = .int .i64 k ∧ h = .int .i64 (Pl.place0 r (s.data.toList.take k))) (fun _ _ i => s.size - (intOf i).toNat)
  case atStart => exact ⟨0, Nat.zero_le _, rfl, rfl⟩
  case round =>
    obtain ⟨k, hk, rfl, rfl⟩ := hrel
    have hd := Pl.place0_bd r (s.data.toList.take k) h0 h1
    by_cases hlt : k < s.size
    · have hsn := Pl.place0_snoc r (s.data.toList.take k) s[k]
      have hts : s.data.toList.take (k + 1) = s.data.toList.take k ++ [s[k]] := Pl.take_snoc s.data.toList k hlt
      have HS : Hid (Pl.place0 r (s.data.toList.take (k + 1)) = ((2 * r + 29) * Pl.place0 r (s.data.toList.take k) + (s[k].toNat : Int)) % 10007) := by rw [hts]; exact hsn
      clear hsn hts
      have hb : (s[k].toNat : Int) < 256 := by have := s[k].toNat_lt; omega
      have hm : Hid (0 ≤ (2 * r + 29) * Pl.place0 r (s.data.toList.take k) ∧ (2 * r + 29) * Pl.place0 r (s.data.toList.take k) ≤ 350000) := Pl.place_mul r _ h0 h1 hd.1 hd.2
      have hm1 := hm.out.1
      have hm2 := hm.out.2
      go_wp2
      go_round
      case rel => exact ⟨k + 1, by omega, by go_num, by rw [HS.out]⟩
      case measure => simp [intOf]; omega
    · go_wp2
      go_ret
      exact ⟨ret_int (by rw [List.take_of_length_le (by simp; omega)]; rfl), rfl⟩
set_option maxHeartbeats 400000 in
theorem l15Place_c (r : Int) (s : ByteArray) (w : World) (h0 : 0 ≤ r) (h1 : r ≤ 2) (hs : s.size ≤ maxLen) :
    Calls Try.prog 88 #[.int .i64 r, .string s] w fun e w' => e = .returned (.int .i64 (Pl.place r s.data.toList)) ∧ w = w' := by
  unfold maxLen at hs
  go_enter Try.func88, Try.ntmps88
  go_wp2
  go_loop [5, 6] (fun h i => ∃ k : Nat, k ≤ s.size ∧ i = .int .i64 k ∧ h = .int .i64 (Pl.place0 r (s.data.toList.take k))) (fun _ i => s.size - (intOf i).toNat)
  case atStart => exact ⟨0, Nat.zero_le _, rfl, rfl⟩
  case round =>
    obtain ⟨k, hk, rfl, rfl⟩ := hrel
    have hd := Pl.place0_bd r (s.data.toList.take k) h0 h1
    by_cases hlt : k < s.size
    · have hsn := Pl.place0_snoc r (s.data.toList.take k) s[k]
      have hts : s.data.toList.take (k + 1) = s.data.toList.take k ++ [s[k]] := Pl.take_snoc s.data.toList k hlt
      have HS : Hid (Pl.place0 r (s.data.toList.take (k + 1)) = ((2 * r + 29) * Pl.place0 r (s.data.toList.take k) + (s[k].toNat : Int)) % 10007) := by rw [hts]; exact hsn
      clear hsn hts
      have hb : (s[k].toNat : Int) < 256 := by have := s[k].toNat_lt; omega
      have hm : Hid (0 ≤ (2 * r + 29) * Pl.place0 r (s.data.toList.take k) ∧ (2 * r + 29) * Pl.place0 r (s.data.toList.take k) ≤ 350000) := Pl.place_mul r _ h0 h1 hd.1 hd.2
      have hm1 := hm.out.1
      have hm2 := hm.out.2
      go_wp2
      go_round
      case rel => exact ⟨k + 1, by omega, by go_num, by rw [HS.out]⟩
      case measure => simp [intOf]; omega
    · go_wp2
      go_ret
      exact ⟨ret_int (by rw [List.take_of_length_le (by simp; omega)]; rfl), rfl⟩
end Go.Proofs.Ytjmcbggdckfefaa
