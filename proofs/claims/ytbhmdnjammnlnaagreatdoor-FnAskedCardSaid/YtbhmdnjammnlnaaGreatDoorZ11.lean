/-
  Joined texts, in build order: LwA, Jw. Each part says what it proves; no conditions beyond those that a part names.
-/
import Derived.Test.YtbhmdnjammnlnaaGreatDoorZ01
import Derived.Test.YtbhmdnjammnlnaaGreatDoorZ02
import Derived.Test.YtbhmdnjammnlnaaGreatDoorRows
import Derived.WalkKit
import Derived.ProofKit
import Derived.HandedShaped
import Derived.Handed
import Derived.Lay
import Derived.LaidOnce
import Derived.PinnedBridge
import Derived.Stop.LaidErr
import Derived.Stop.Joined
import Derived.Shelf.Vars
set_option linter.unusedVariables false
set_option linter.unusedSimpArgs false
namespace Go.Proofs.YtbhmdnjammnlnaaGreatDoor
open Go.RowKit
def Pl.partOf (p : Int) (l : List UInt8) : Int × Bool := if Pl.isIn p 1 3 = true ∧ Pl.word false l = true then (Pl.hash l % p, true) else (0, false)
theorem implPartOf_c (p : Int) (s : ByteArray) (w : World) (hs : s.size ≤ maxLen) :
    Calls Tryz.prog 48 #[.int .i64 p, .string s] w fun e w' => e = Pl.ret2 (Pl.partOf p s.data.toList) ∧ w = w' := by
  by_cases h1 : Pl.isIn p 1 3 = true
  · by_cases h2 : Pl.word false s.data.toList = true
    · have hp : 1 ≤ p ∧ p ≤ 3 := Pl.isIn_iff.1 h1
      have hh := Pl.hash_bd s.data.toList
      have HF : Hid (Pl.partOf p s.data.toList = (Pl.hash s.data.toList % p, true)) := if_pos ⟨h1, h2⟩
      go_enter Tryz.func48, Tryz.ntmps48
      go_wp2_with first
        | (go_at_call 55; refine (within_c _ _ _ _).mono ?_; rintro e w' ⟨rfl, rfl⟩)
        | (go_at_call 85; refine (isWord_c _ _ _ hs).mono ?_; rintro e w' ⟨rfl, rfl⟩)
        | (go_at_call 86; refine (hashText_c _ _ hs).mono ?_; rintro e w' ⟨rfl, rfl⟩)
      go_ret2
      exact ⟨by rw [HF.out]; rfl, rfl⟩
    · have h2' : Pl.word false s.data.toList = false := by simpa using h2
      have hp : 1 ≤ p ∧ p ≤ 3 := Pl.isIn_iff.1 h1
      have HF : Hid (Pl.partOf p s.data.toList = (0, false)) := if_neg (fun h => h2 h.2)
      clear h2
      go_enter Tryz.func48, Tryz.ntmps48
      go_wp2_with first
        | (go_at_call 55; refine (within_c _ _ _ _).mono ?_; rintro e w' ⟨rfl, rfl⟩)
        | (go_at_call 85; refine (isWord_c _ _ _ hs).mono ?_; rintro e w' ⟨rfl, rfl⟩)
        | (go_at_call 86; refine (hashText_c _ _ hs).mono ?_; rintro e w' ⟨rfl, rfl⟩)
      go_ret2
      exact ⟨by rw [HF.out]; rfl, rfl⟩
  · have h1' : Pl.isIn p 1 3 = false := by simpa using h1
    have HF : Hid (Pl.partOf p s.data.toList = (0, false)) := if_neg (fun h => h1 h.1)
    clear h1
    go_enter Tryz.func48, Tryz.ntmps48
    go_wp2_with first
      | (go_at_call 55; refine (within_c _ _ _ _).mono ?_; rintro e w' ⟨rfl, rfl⟩)
      | (go_at_call 85; refine (isWord_c _ _ _ hs).mono ?_; rintro e w' ⟨rfl, rfl⟩)
      | (go_at_call 86; refine (hashText_c _ _ hs).mono ?_; rintro e w' ⟨rfl, rfl⟩)
    go_ret2
    exact ⟨by rw [HF.out]; rfl, rfl⟩
theorem specPartOf_c (p : Int) (s : ByteArray) (w : World) (hs : s.size ≤ maxLen) :
    Calls Tryz.prog 49 #[.int .i64 p, .string s] w fun e w' => e = Pl.ret2 (Pl.partOf p s.data.toList) ∧ w = w' := by
  by_cases h1 : Pl.isIn p 1 3 = true
  · by_cases h2 : Pl.word false s.data.toList = true
    · have hp : 1 ≤ p ∧ p ≤ 3 := Pl.isIn_iff.1 h1
      have hh := Pl.hash_bd s.data.toList
      have HF : Hid (Pl.partOf p s.data.toList = (Pl.hash s.data.toList % p, true)) := if_pos ⟨h1, h2⟩
      go_enter Tryz.func49, Tryz.ntmps49
      go_wp2_with first
        | (go_at_call 68; refine (l1In_c _ _ _ _).mono ?_; rintro e w' ⟨rfl, rfl⟩)
        | (go_at_call 82; refine (l3Name_c _ _ _ hs).mono ?_; rintro e w' ⟨rfl, rfl⟩)
        | (go_at_call 83; refine (l3Hash_c _ _ hs).mono ?_; rintro e w' ⟨rfl, rfl⟩)
      go_ret2
      exact ⟨by rw [HF.out]; rfl, rfl⟩
    · have h2' : Pl.word false s.data.toList = false := by simpa using h2
      have hp : 1 ≤ p ∧ p ≤ 3 := Pl.isIn_iff.1 h1
      have HF : Hid (Pl.partOf p s.data.toList = (0, false)) := if_neg (fun h => h2 h.2)
      clear h2
      go_enter Tryz.func49, Tryz.ntmps49
      go_wp2_with first
        | (go_at_call 68; refine (l1In_c _ _ _ _).mono ?_; rintro e w' ⟨rfl, rfl⟩)
        | (go_at_call 82; refine (l3Name_c _ _ _ hs).mono ?_; rintro e w' ⟨rfl, rfl⟩)
        | (go_at_call 83; refine (l3Hash_c _ _ hs).mono ?_; rintro e w' ⟨rfl, rfl⟩)
      go_ret2
      exact ⟨by rw [HF.out]; rfl, rfl⟩
  · have h1' : Pl.isIn p 1 3 = false := by simpa using h1
    have HF : Hid (Pl.partOf p s.data.toList = (0, false)) := if_neg (fun h => h1 h.1)
    clear h1
    go_enter Tryz.func49, Tryz.ntmps49
    go_wp2_with first
      | (go_at_call 68; refine (l1In_c _ _ _ _).mono ?_; rintro e w' ⟨rfl, rfl⟩)
      | (go_at_call 82; refine (l3Name_c _ _ _ hs).mono ?_; rintro e w' ⟨rfl, rfl⟩)
      | (go_at_call 83; refine (l3Hash_c _ _ hs).mono ?_; rintro e w' ⟨rfl, rfl⟩)
    go_ret2
    exact ⟨by rw [HF.out]; rfl, rfl⟩
end Go.Proofs.YtbhmdnjammnlnaaGreatDoor

namespace Go.Proofs.YtbhmdnjammnlnaaGreatDoor
open Go.RowKit Go.ChangeShapes
def laidL : List (String × DataW Unit) := [("math/bits.deBruijn32tab", Rows.laid_math_bits_deBruijn32tab), ("math/bits.deBruijn64tab", Rows.laid_math_bits_deBruijn64tab), ("internal/strconv.uint64pow10", Rows.laid_internal_strconv_uint64pow10), ("unicode/utf8.acceptRanges", Rows.laid_unicode_utf8_acceptRanges), ("strconv.ErrRange", Rows.laid_strconv_ErrRange), ("strconv.ErrSyntax", Rows.laid_strconv_ErrSyntax), ("unicode/utf8.first", Rows.laid_unicode_utf8_first)]
theorem returns_of_tied {H : Type} {enc : TypeId × Value → H} {a : Assume} {C : Checked} {os : Os} {f : FuncId} {fn : Func} {s : ChangeSpec} {conds : List PathCond} {apart fresh handsOn again : Bool} {X : World → Array Value → Prop}
    (hX : ∀ (w w' : World) (args : Array Value), w.heap = w'.heap → X w args → X w' args)
    (own : ownKnob C.prog.godebug = none) (started : os.Started) (noInit : C.prog.inits.idxOf? f = none) (hfn : C.prog.funcs[f]? = some fn)
    (witness : ∃ (w : World) (tape : Tape) (i : Input), w.os = os ∧ (w.forCall tape i).Shaped C.prog ∧ i.vars = [] ∧ Input.okWide C.prog (w.forCall tape i) .any w.heap.size f i ∧
      ((s.pre enc C.prog fn conds apart (w.forCall tape i).memory i.args ∧ X (w.forCall tape i).memory i.args) ∧ sizedMet enc C.prog fn (OpenSpec.ofChange s) apart (w.forCall tape i).memory i.args) ∧ a.holds C.prog (lone (Frame.enter C.prog f i.args .normal) [] (w.forCall tape i)))
    (contract : ∀ (W : World) (base : Nat) (args : Array Value) (ds gs : List (DataW H)) (before : List MemPlace),
      (∀ (j : Nat) t v, fn.params[j]? = some t → args[j]? = some v → Value.okWide C.prog W .any base t v) →
      DataW.Whole enc C.prog fn.params.toList s.vars apart W args.toList ds gs before →
      X W args → W.ShapedOpen C.prog →
      Calls C.prog f args W fun e W' => ∃ v, e = .returned v ∧ s.post enc C.prog fn apart fresh handsOn again W args v W') :
    ReturnsInHanded a C os f .any (fun w args => (s.pre enc C.prog fn conds apart w args ∧ X w args) ∧ sizedMet enc C.prog fn (OpenSpec.ofChange s) apart w args) (s.post enc C.prog fn apart fresh handsOn again) := by
  refine returnsInHanded_of_calls own started noInit witness ?_
  intro w tape i _ hsh _ hok hpre hholds
  obtain ⟨_, _, _, fn', hfn', _, _, _, _, hval⟩ := hok
  have e : fn' = fn := Option.some.inj (hfn'.symm.trans hfn)
  subst e
  obtain ⟨⟨⟨ds, gs, before, hw, hc⟩, hx⟩, hz⟩ := hpre
  have hw' := DataW.Whole.of_heap (w' := w.forCall tape i) (by rfl) hw
  refine (contract (w.forCall tape i) w.heap.size i.args ds gs before hval hw' (hX _ _ _ (by rfl) hx) hsh).mono fun e W' ⟨v, he, hp⟩ => ?_
  subst he
  exact ChangeSpec.post_blind hp
theorem starES : "*" ++ "errors.errorString" = "*errors.errorString" := by decide
theorem rowES (u : TypeId) (h : Program.typeName? Tryz.prog 3 u = some "*errors.errorString") : u = 270 :=
  typeName_ptr_named (nm := "errors.errorString") (by rw [starES]; kernel_rfl) (by kernel_rfl) (by decide) u (by rw [starES]; exact h)
theorem tabs_of_laid {W : World} (hL : laidMetH Tryz.prog laidL W) (hsh : W.ShapedOpen Tryz.prog) : Tabs W := by
  rw [MakeChecks.laidMetH_plain _ _ _ (by kernel_rfl)] at hL
  have h1 : laidMet Tryz.prog [("math/bits.deBruijn32tab", Rows.laid_math_bits_deBruijn32tab), ("math/bits.deBruijn64tab", Rows.laid_math_bits_deBruijn64tab), ("internal/strconv.uint64pow10", Lib.tabData .u64 Lib.pow10Tab), ("unicode/utf8.acceptRanges", Rows.laid_unicode_utf8_acceptRanges), ("strconv.ErrRange", Rows.laid_strconv_ErrRange), ("strconv.ErrSyntax", Rows.laid_strconv_ErrSyntax), ("unicode/utf8.first", Rows.laid_unicode_utf8_first)] W := by
    have e : (Rows.laid_internal_strconv_uint64pow10 : DataW Unit) = Lib.tabData .u64 Lib.pow10Tab := by kernel_rfl
    rw [← e]; exact hL
  refine ⟨?_, ?_, ?_, ?_⟩
  · exact Lib.tabIs_of_head (g := 1) (t := 255) (e := 126) (n := 20) (by kernel_rfl) (by kernel_rfl) (by kernel_rfl) (by kernel_rfl) (by kernel_rfl) (by kernel_rfl) h1.tail.tail
  · obtain ⟨a0, s0, hv0, -, -, -⟩ := laid_sentinel (g := 2) (ti := 211) (tp := 270) (te := 272) (ts := 9) h1.tail.tail.tail.tail.tail (by kernel_rfl) (by kernel_rfl) Tryz.underlying211 rowES Tryz.underlying270 Tryz.underlying272 rfl rfl Tryz.underlying9 (by kernel_rfl) (by kernel_rfl)
    exact ⟨_, _, hv0⟩
  · obtain ⟨a0, s0, hv0, -, -, -⟩ := laid_sentinel (g := 3) (ti := 211) (tp := 270) (te := 272) (ts := 9) h1.tail.tail.tail.tail (by kernel_rfl) (by kernel_rfl) Tryz.underlying211 rowES Tryz.underlying270 Tryz.underlying272 rfl rfl Tryz.underlying9 (by kernel_rfl) (by kernel_rfl)
    exact ⟨_, _, hv0⟩
  · exact cell_of_shapedOpen_int (t := 3) (zero := #[.int .i64 0]) hsh (by decide +kernel) (by kernel_rfl) (by kernel_rfl) (by kernel_rfl) (by kernel_rfl) (by kernel_rfl)
end Go.Proofs.YtbhmdnjammnlnaaGreatDoor

