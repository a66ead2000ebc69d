/-
  The program's and the reference's PartOf and PlaceIn. No conditions.
-/
import Derived.Test.YtffjepjblokjmaaWa
namespace Go.Proofs.Ytffjepjblokjmaa
open Go.RowKit

def Pl.partOf (p : Int) (l : List UInt8) : Int × Bool := if Pl.isIn p 1 3 = true ∧ Pl.word false l = true then (Pl.hash l % p, true) else (0, false)
def Pl.placeIn (r : Int) (l : List UInt8) : Int × Bool := if Pl.isIn r 0 2 = true ∧ Pl.word false l = true then (Pl.place r l, true) else (0, false)
def Pl.ret2 (x : Int × Bool) : Ending := .returned (.tuple #[.int .i64 x.1, .bool x.2])
theorem Pl.isIn_iff {n a b : Int} : Pl.isIn n a b = true ↔ a ≤ n ∧ n ≤ b := by unfold Pl.isIn; simp

theorem implPartOf_c (p : Int) (s : ByteArray) (w : World) (hs : s.size ≤ maxLen) :
    Calls Try.prog 10 #[.int .i64 p, .string s] w fun e w' => e = Pl.ret2 (Pl.partOf p s.data.toList) ∧ w = w' := by
  by_cases h1 : Pl.isIn p 1 3 = true
  · by_cases h2 : Pl.word false s.data.toList = true
    · have hp : 1 ≤ p ∧ p ≤ 3 := Pl.isIn_iff.1 h1
      have hh := Pl.hash_bd s.data.toList
      have HF : Hid (Pl.partOf p s.data.toList = (Pl.hash s.data.toList % p, true)) := if_pos ⟨h1, h2⟩
      go_enter Try.func10, Try.ntmps10
      go_wp2_with first
        | (go_at_call 33; refine (within_c _ _ _ _).mono ?_; rintro e w' ⟨rfl, rfl⟩)
        | (go_at_call 34; refine (isWord_c _ _ _ hs).mono ?_; rintro e w' ⟨rfl, rfl⟩)
        | (go_at_call 35; refine (hashText_c _ _ hs).mono ?_; rintro e w' ⟨rfl, rfl⟩)
      go_ret2
      exact ⟨by rw [HF.out]; rfl, rfl⟩
    · have h2' : Pl.word false s.data.toList = false := by simpa using h2
      have hp : 1 ≤ p ∧ p ≤ 3 := Pl.isIn_iff.1 h1
      have HF : Hid (Pl.partOf p s.data.toList = (0, false)) := if_neg (fun h => h2 h.2)
      clear h2
      go_enter Try.func10, Try.ntmps10
      go_wp2_with first
        | (go_at_call 33; refine (within_c _ _ _ _).mono ?_; rintro e w' ⟨rfl, rfl⟩)
        | (go_at_call 34; refine (isWord_c _ _ _ hs).mono ?_; rintro e w' ⟨rfl, rfl⟩)
        | (go_at_call 35; refine (hashText_c _ _ hs).mono ?_; rintro e w' ⟨rfl, rfl⟩)
      go_ret2
      exact ⟨by rw [HF.out]; rfl, rfl⟩
  · have h1' : Pl.isIn p 1 3 = false := by simpa using h1
    have HF : Hid (Pl.partOf p s.data.toList = (0, false)) := if_neg (fun h => h1 h.1)
    clear h1
    go_enter Try.func10, Try.ntmps10
    go_wp2_with first
      | (go_at_call 33; refine (within_c _ _ _ _).mono ?_; rintro e w' ⟨rfl, rfl⟩)
      | (go_at_call 34; refine (isWord_c _ _ _ hs).mono ?_; rintro e w' ⟨rfl, rfl⟩)
      | (go_at_call 35; refine (hashText_c _ _ hs).mono ?_; rintro e w' ⟨rfl, rfl⟩)
    go_ret2
    exact ⟨by rw [HF.out]; rfl, rfl⟩
theorem specPartOf_c (p : Int) (s : ByteArray) (w : World) (hs : s.size ≤ maxLen) :
    Calls Try.prog 9 #[.int .i64 p, .string s] w fun e w' => e = Pl.ret2 (Pl.partOf p s.data.toList) ∧ w = w' := by
  by_cases h1 : Pl.isIn p 1 3 = true
  · by_cases h2 : Pl.word false s.data.toList = true
    · have hp : 1 ≤ p ∧ p ≤ 3 := Pl.isIn_iff.1 h1
      have hh := Pl.hash_bd s.data.toList
      have HF : Hid (Pl.partOf p s.data.toList = (Pl.hash s.data.toList % p, true)) := if_pos ⟨h1, h2⟩
      go_enter Try.func9, Try.ntmps9
      go_wp2_with first
        | (go_at_call 30; refine (l1In_c _ _ _ _).mono ?_; rintro e w' ⟨rfl, rfl⟩)
        | (go_at_call 31; refine (l3Name_c _ _ _ hs).mono ?_; rintro e w' ⟨rfl, rfl⟩)
        | (go_at_call 32; refine (l3Hash_c _ _ hs).mono ?_; rintro e w' ⟨rfl, rfl⟩)
      go_ret2
      exact ⟨by rw [HF.out]; rfl, rfl⟩
    · have h2' : Pl.word false s.data.toList = false := by simpa using h2
      have hp : 1 ≤ p ∧ p ≤ 3 := Pl.isIn_iff.1 h1
      have HF : Hid (Pl.partOf p s.data.toList = (0, false)) := if_neg (fun h => h2 h.2)
      clear h2
      go_enter Try.func9, Try.ntmps9
      go_wp2_with first
        | (go_at_call 30; refine (l1In_c _ _ _ _).mono ?_; rintro e w' ⟨rfl, rfl⟩)
        | (go_at_call 31; refine (l3Name_c _ _ _ hs).mono ?_; rintro e w' ⟨rfl, rfl⟩)
        | (go_at_call 32; refine (l3Hash_c _ _ hs).mono ?_; rintro e w' ⟨rfl, rfl⟩)
      go_ret2
      exact ⟨by rw [HF.out]; rfl, rfl⟩
  · have h1' : Pl.isIn p 1 3 = false := by simpa using h1
    have HF : Hid (Pl.partOf p s.data.toList = (0, false)) := if_neg (fun h => h1 h.1)
    clear h1
    go_enter Try.func9, Try.ntmps9
    go_wp2_with first
      | (go_at_call 30; refine (l1In_c _ _ _ _).mono ?_; rintro e w' ⟨rfl, rfl⟩)
      | (go_at_call 31; refine (l3Name_c _ _ _ hs).mono ?_; rintro e w' ⟨rfl, rfl⟩)
      | (go_at_call 32; refine (l3Hash_c _ _ hs).mono ?_; rintro e w' ⟨rfl, rfl⟩)
    go_ret2
    exact ⟨by rw [HF.out]; rfl, rfl⟩
theorem implPlaceIn_c (p : Int) (s : ByteArray) (w : World) (hs : s.size ≤ maxLen) :
    Calls Try.prog 12 #[.int .i64 p, .string s] w fun e w' => e = Pl.ret2 (Pl.placeIn p s.data.toList) ∧ w = w' := by
  by_cases h1 : Pl.isIn p 0 2 = true
  · by_cases h2 : Pl.word false s.data.toList = true
    · have hp : 0 ≤ p ∧ p ≤ 2 := Pl.isIn_iff.1 h1
      have hh := Pl.hash_bd s.data.toList
      have HF : Hid (Pl.placeIn p s.data.toList = (Pl.place p s.data.toList, true)) := if_pos ⟨h1, h2⟩
      go_enter Try.func12, Try.ntmps12
      go_wp2_with first
        | (go_at_call 33; refine (within_c _ _ _ _).mono ?_; rintro e w' ⟨rfl, rfl⟩)
        | (go_at_call 34; refine (isWord_c _ _ _ hs).mono ?_; rintro e w' ⟨rfl, rfl⟩)
        | (go_at_call 37; refine (placeIn_c _ _ _ hp.1 hp.2 hs).mono ?_; rintro e w' ⟨rfl, rfl⟩)
      go_ret2
      exact ⟨by rw [HF.out]; rfl, rfl⟩
    · have h2' : Pl.word false s.data.toList = false := by simpa using h2
      have hp : 0 ≤ p ∧ p ≤ 2 := Pl.isIn_iff.1 h1
      have HF : Hid (Pl.placeIn p s.data.toList = (0, false)) := if_neg (fun h => h2 h.2)
      clear h2
      go_enter Try.func12, Try.ntmps12
      go_wp2_with first
        | (go_at_call 33; refine (within_c _ _ _ _).mono ?_; rintro e w' ⟨rfl, rfl⟩)
        | (go_at_call 34; refine (isWord_c _ _ _ hs).mono ?_; rintro e w' ⟨rfl, rfl⟩)
        | (go_at_call 37; refine (placeIn_c _ _ _ hp.1 hp.2 hs).mono ?_; rintro e w' ⟨rfl, rfl⟩)
      go_ret2
      exact ⟨by rw [HF.out]; rfl, rfl⟩
  · have h1' : Pl.isIn p 0 2 = false := by simpa using h1
    have HF : Hid (Pl.placeIn p s.data.toList = (0, false)) := if_neg (fun h => h1 h.1)
    clear h1
    go_enter Try.func12, Try.ntmps12
    go_wp2_with first
      | (go_at_call 33; refine (within_c _ _ _ _).mono ?_; rintro e w' ⟨rfl, rfl⟩)
      | (go_at_call 34; refine (isWord_c _ _ _ hs).mono ?_; rintro e w' ⟨rfl, rfl⟩)
      | (go_at_call 37; refine (placeIn_c _ _ _ hp.1 hp.2 hs).mono ?_; rintro e w' ⟨rfl, rfl⟩)
    go_ret2
    exact ⟨by rw [HF.out]; rfl, rfl⟩
theorem specPlaceIn_c (p : Int) (s : ByteArray) (w : World) (hs : s.size ≤ maxLen) :
    Calls Try.prog 11 #[.int .i64 p, .string s] w fun e w' => e = Pl.ret2 (Pl.placeIn p s.data.toList) ∧ w = w' := by
  by_cases h1 : Pl.isIn p 0 2 = true
  · by_cases h2 : Pl.word false s.data.toList = true
    · have hp : 0 ≤ p ∧ p ≤ 2 := Pl.isIn_iff.1 h1
      have hh := Pl.hash_bd s.data.toList
      have HF : Hid (Pl.placeIn p s.data.toList = (Pl.place p s.data.toList, true)) := if_pos ⟨h1, h2⟩
      go_enter Try.func11, Try.ntmps11
      go_wp2_with first
        | (go_at_call 30; refine (l1In_c _ _ _ _).mono ?_; rintro e w' ⟨rfl, rfl⟩)
        | (go_at_call 31; refine (l3Name_c _ _ _ hs).mono ?_; rintro e w' ⟨rfl, rfl⟩)
        | (go_at_call 36; refine (l15Place_c _ _ _ hp.1 hp.2 hs).mono ?_; rintro e w' ⟨rfl, rfl⟩)
      go_ret2
      exact ⟨by rw [HF.out]; rfl, rfl⟩
    · have h2' : Pl.word false s.data.toList = false := by simpa using h2
      have hp : 0 ≤ p ∧ p ≤ 2 := Pl.isIn_iff.1 h1
      have HF : Hid (Pl.placeIn p s.data.toList = (0, false)) := if_neg (fun h => h2 h.2)
      clear h2
      go_enter Try.func11, Try.ntmps11
      go_wp2_with first
        | (go_at_call 30; refine (l1In_c _ _ _ _).mono ?_; rintro e w' ⟨rfl, rfl⟩)
        | (go_at_call 31; refine (l3Name_c _ _ _ hs).mono ?_; rintro e w' ⟨rfl, rfl⟩)
        | (go_at_call 36; refine (l15Place_c _ _ _ hp.1 hp.2 hs).mono ?_; rintro e w' ⟨rfl, rfl⟩)
      go_ret2
      exact ⟨by rw [HF.out]; rfl, rfl⟩
  · have h1' : Pl.isIn p 0 2 = false := by simpa using h1
    have HF : Hid (Pl.placeIn p s.data.toList = (0, false)) := if_neg (fun h => h1 h.1)
    clear h1
    go_enter Try.func11, Try.ntmps11
    go_wp2_with first
      | (go_at_call 30; refine (l1In_c _ _ _ _).mono ?_; rintro e w' ⟨rfl, rfl⟩)
      | (go_at_call 31; refine (l3Name_c _ _ _ hs).mono ?_; rintro e w' ⟨rfl, rfl⟩)
      | (go_at_call 36; refine (l15Place_c _ _ _ hp.1 hp.2 hs).mono ?_; rintro e w' ⟨rfl, rfl⟩)
    go_ret2
    exact ⟨by rw [HF.out]; rfl, rfl⟩
end Go.Proofs.Ytffjepjblokjmaa
