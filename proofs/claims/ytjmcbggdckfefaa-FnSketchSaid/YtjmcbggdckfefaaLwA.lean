/-
  The program's and the reference's PartOf and PlaceIn. No conditions.
-/
import Derived.Test.YtjmcbggdckfefaaWa
import Derived.Test.YtjmcbggdckfefaaPc
namespace Go.Proofs.Ytjmcbggdckfefaa
open Go.RowKit

def Pl.partOf (p : Int) (l : List UInt8) : Int × Bool := if Pl.isIn p 1 3 = true ∧ Pl.word false l = true then (Pl.hash l % p, true) else (0, false)
def Pl.placeIn (r : Int) (l : List UInt8) : Int × Bool := if Pl.isIn r 0 2 = true ∧ Pl.word false l = true then (Pl.place r l, true) else (0, false)

theorem implPlaceIn_c (p : Int) (s : ByteArray) (w : World) (hs : s.size ≤ maxLen) :
    Calls Try.prog 40 #[.int .i64 p, .string s] w fun e w' => e = Pl.ret2 (Pl.placeIn p s.data.toList) ∧ w = w' := by
  by_cases h1 : Pl.isIn p 0 2 = true
  · by_cases h2 : Pl.word false s.data.toList = true
    · have hp : 0 ≤ p ∧ p ≤ 2 := Pl.isIn_iff.1 h1
      have hh := Pl.hash_bd s.data.toList
      have HF : Hid (Pl.placeIn p s.data.toList = (Pl.place p s.data.toList, true)) := if_pos ⟨h1, h2⟩
      go_enter Try.func40, Try.ntmps40
      go_wp2_with first
        | (go_at_call 78; refine (within_c _ _ _ _).mono ?_; rintro e w' ⟨rfl, rfl⟩)
        | (go_at_call 71; refine (isWord_c _ _ _ hs).mono ?_; rintro e w' ⟨rfl, rfl⟩)
        | (go_at_call 82; refine (placeIn_c _ _ _ hp.1 hp.2 hs).mono ?_; rintro e w' ⟨rfl, rfl⟩)
      go_ret2
      exact ⟨by rw [HF.out]; rfl, rfl⟩
    · have h2' : Pl.word false s.data.toList = false := by simpa using h2
      have hp : 0 ≤ p ∧ p ≤ 2 := Pl.isIn_iff.1 h1
      have HF : Hid (Pl.placeIn p s.data.toList = (0, false)) := if_neg (fun h => h2 h.2)
      clear h2
      go_enter Try.func40, Try.ntmps40
      go_wp2_with first
        | (go_at_call 78; refine (within_c _ _ _ _).mono ?_; rintro e w' ⟨rfl, rfl⟩)
        | (go_at_call 71; refine (isWord_c _ _ _ hs).mono ?_; rintro e w' ⟨rfl, rfl⟩)
        | (go_at_call 82; refine (placeIn_c _ _ _ hp.1 hp.2 hs).mono ?_; rintro e w' ⟨rfl, rfl⟩)
      go_ret2
      exact ⟨by rw [HF.out]; rfl, rfl⟩
  · have h1' : Pl.isIn p 0 2 = false := by simpa using h1
    have HF : Hid (Pl.placeIn p s.data.toList = (0, false)) := if_neg (fun h => h1 h.1)
    clear h1
    go_enter Try.func40, Try.ntmps40
    go_wp2_with first
      | (go_at_call 78; refine (within_c _ _ _ _).mono ?_; rintro e w' ⟨rfl, rfl⟩)
      | (go_at_call 71; refine (isWord_c _ _ _ hs).mono ?_; rintro e w' ⟨rfl, rfl⟩)
      | (go_at_call 82; refine (placeIn_c _ _ _ hp.1 hp.2 hs).mono ?_; rintro e w' ⟨rfl, rfl⟩)
    go_ret2
    exact ⟨by rw [HF.out]; rfl, rfl⟩
theorem specPlaceIn_c (p : Int) (s : ByteArray) (w : World) (hs : s.size ≤ maxLen) :
    Calls Try.prog 41 #[.int .i64 p, .string s] w fun e w' => e = Pl.ret2 (Pl.placeIn p s.data.toList) ∧ w = w' := by
  by_cases h1 : Pl.isIn p 0 2 = true
  · by_cases h2 : Pl.word false s.data.toList = true
    · have hp : 0 ≤ p ∧ p ≤ 2 := Pl.isIn_iff.1 h1
      have hh := Pl.hash_bd s.data.toList
      have HF : Hid (Pl.placeIn p s.data.toList = (Pl.place p s.data.toList, true)) := if_pos ⟨h1, h2⟩
      go_enter Try.func41, Try.ntmps41
      go_wp2_with first
        | (go_at_call 87; refine (l1In_c _ _ _ _).mono ?_; rintro e w' ⟨rfl, rfl⟩)
        | (go_at_call 66; refine (l3Name_c _ _ _ hs).mono ?_; rintro e w' ⟨rfl, rfl⟩)
        | (go_at_call 88; refine (l15Place_c _ _ _ hp.1 hp.2 hs).mono ?_; rintro e w' ⟨rfl, rfl⟩)
      go_ret2
      exact ⟨by rw [HF.out]; rfl, rfl⟩
    · have h2' : Pl.word false s.data.toList = false := by simpa using h2
      have hp : 0 ≤ p ∧ p ≤ 2 := Pl.isIn_iff.1 h1
      have HF : Hid (Pl.placeIn p s.data.toList = (0, false)) := if_neg (fun h => h2 h.2)
      clear h2
      go_enter Try.func41, Try.ntmps41
      go_wp2_with first
        | (go_at_call 87; refine (l1In_c _ _ _ _).mono ?_; rintro e w' ⟨rfl, rfl⟩)
        | (go_at_call 66; refine (l3Name_c _ _ _ hs).mono ?_; rintro e w' ⟨rfl, rfl⟩)
        | (go_at_call 88; refine (l15Place_c _ _ _ hp.1 hp.2 hs).mono ?_; rintro e w' ⟨rfl, rfl⟩)
      go_ret2
      exact ⟨by rw [HF.out]; rfl, rfl⟩
  · have h1' : Pl.isIn p 0 2 = false := by simpa using h1
    have HF : Hid (Pl.placeIn p s.data.toList = (0, false)) := if_neg (fun h => h1 h.1)
    clear h1
    go_enter Try.func41, Try.ntmps41
    go_wp2_with first
      | (go_at_call 87; refine (l1In_c _ _ _ _).mono ?_; rintro e w' ⟨rfl, rfl⟩)
      | (go_at_call 66; refine (l3Name_c _ _ _ hs).mono ?_; rintro e w' ⟨rfl, rfl⟩)
      | (go_at_call 88; refine (l15Place_c _ _ _ hp.1 hp.2 hs).mono ?_; rintro e w' ⟨rfl, rfl⟩)
    go_ret2
    exact ⟨by rw [HF.out]; rfl, rfl⟩
end Go.Proofs.Ytjmcbggdckfefaa
