/-
  Contracts: drawn counters. No conditions.
-/
import Derived.Test.YtjpmnegpkpimhaaCu
import Derived.Test.YtjpmnegpkpimhaaWt
import Derived.Deep.DeepCutAuto
namespace Go.Proofs.Ytjpmnegpkpimhaa
open Go.RowKit
attribute [local go_sem] und_cell World.cell?_alloc_some
set_option maxRecDepth 100000 in
set_option maxHeartbeats 1000000 in
theorem counter_c (code : List Int) (A : Option Addr) (n c g K : Nat) (w : World) (B : Nat) (hc : Mm.SlAt Mm.u8 w B code A n c) (hBg : B ≤ g) (h : (Mm.tcur 47 A n c g K).holds w) (hK : K < 4611686018427386000) :
    Calls Try.prog 26 #[.pointer (some ⟨g, 0, none⟩)] w fun e w' => ∃ (l : List Sample) (A1 : Option Addr) (n1 c1 : Nat) (fp : List Nat), e = .returned (.slice A1 n1 c1) ∧ l.length ≤ 41 ∧ Mm.SepF [g] w w' [Mm.tsl smp 37 l (.slice A1 n1 c1) fp, Mm.tcur 47 A n c g (K + 500)] := by
  have hgw : g < w.heap.size := (Mm.tcur 47 A n c g K).lt h g (by simp [Mm.tcur])
  have HC := Lib.hid hc
  have HS : Hid (Mm.SepF [g] w w [Mm.tcur 47 A n c g K]) := Mm.SepF.one (Mm.tcur 47 A n c g K) w h (by simp [Mm.tcur])
  clear hc h
  go_enter Try.func26, Try.ntmps26
  go_upto_if 10 with first
    | (go_at_call 40; refine (pick_c code A n c g _ _ _ B (HC.out.keep fun b hb => HS.out.chg.block b (by omega) (by simp; omega)) hBg (HS.out.at_ 0 rfl) (by omega) (by omega)).mono ?_; rintro e w1 ⟨b1, rfl, b10, -, b11, hL⟩; (have HS := Lib.hid (HS.out.call 0 rfl hL)); have b11 := b11 (by omega); clear hL)
    | (go_at_call 41; refine (one_c code A n c g _ _ _ B (HC.out.keep fun b hb => HS.out.chg.block b (by omega) (by simp; omega)) hBg (HS.out.at_ 0 rfl) (by omega) (by omega)).mono ?_; rintro e w1 ⟨b9, rfl, hL⟩; (have HS := Lib.hid (HS.out.call 0 rfl hL)); clear hL)
  go_cut [4] (fun s4 wx => ∃ m : Int, s4 = .int .i64 m ∧ 0 ≤ m ∧ m ≤ 41 ∧ Mm.SepF [g] w wx [Mm.tcur 47 A n c g (K + 3)])
  case first =>
    cases b9
    · go_wp2_with fail
      go_meet
      exact ⟨_, rfl, b10, by omega, HS.out.more 0 rfl (by omega)⟩
    · go_wp2_with (go_at_call 40; refine (pick_c code A n c g _ _ _ B (HC.out.keep fun b hb => HS.out.chg.block b (by omega) (by simp; omega)) hBg (HS.out.at_ 0 rfl) (by omega) (by omega)).mono ?_; rintro e w1 ⟨b2, rfl, b20, -, b21, hL⟩; (have HS := Lib.hid (HS.out.call 0 rfl hL)); have b21 := b21 (by omega); clear hL)
      go_meet
      exact ⟨_, rfl, by omega, by omega, HS.out.more 0 rfl (by omega)⟩
  case rest =>
  obtain ⟨m, rfl, hm0, hm1, HS⟩ := hcut
  have HS := Lib.hid HS
  go_upto_region 6 with (go_at_call 40; refine (pick_c code A n c g _ _ _ B (HC.out.keep fun b hb => HS.out.chg.block b (by omega) (by simp; omega)) hBg (HS.out.at_ 0 rfl) (by omega) (by omega)).mono ?_; rintro e w1 ⟨b3, rfl, b30, -, b31, hL⟩; (have HS := Lib.hid (HS.out.call 0 rfl hL)); have b31 := b31 (by omega); clear hL)
  go_wp2_with (go_at_call 40; refine (pick_c code A n c g _ _ _ B (HC.out.keep fun b hb => HS.out.chg.block b (by omega) (by simp; omega)) hBg (HS.out.at_ 0 rfl) (by omega) (by omega)).mono ?_; rintro e w1 ⟨b4, rfl, b40, -, b41, hL⟩; (have HS := Lib.hid (HS.out.call 0 rfl hL)); have b41 := b41 (by omega); clear hL)
  have HS := Lib.hid ((HS.out.add (Below.refl _ _) (t := Mm.tsl smp 37 [] (.slice none 0 0) []) Mm.SlOwn.nil List.nodup_nil (fun b hb => by cases hb)))
  go_loopg [3, 4, 5, 6] 41 (fun gg l nn at_ v wr => ∃ (k mm : Nat) (a y : Int) (ls : List Sample) (A1 : Option Addr) (c1 : Nat) (fp : List Nat) (Kc : Nat), k ≤ gg ∧ nn = .int .i64 k ∧ Hid (mm = ls.length) ∧ k + mm ≤ 41 ∧ l = .slice A1 mm c1 ∧ at_ = .int .i64 a ∧ v = .int .i64 y ∧ 0 ≤ a ∧ a + 12 * k ≤ 600 ∧ 0 ≤ y ∧ y + 20 * k ≤ 1000 ∧ Kc + 10 * k ≤ K + 420 ∧ Hid (Mm.SepF [g] w wr [Mm.tsl smp 37 ls (.slice A1 mm c1) fp, Mm.tcur 47 A n c g Kc]))
  case atStart => exact ⟨m.toNat, 0, b3, b4, [], none, 0, [], K + 3 + 1 + 1, by omega, by rw [Int.toNat_of_nonneg hm0], rfl, by omega, rfl, rfl, rfl, by omega, by omega, by omega, by omega, by omega, HS⟩
  case round =>
    obtain ⟨k, mm, a, y, ls, A1, c1, fp, Kc, hkg, rfl, hml, hkm, rfl, rfl, rfl, ha0, ha1, hy0, hy1, hKc, HS⟩ := hrel
    by_cases hk0 : 0 < k
    · have hk1 : (0 : Int) < (k : Nat) := by omega
      obtain ⟨i0, hi, hz0, hz1, hz2⟩ := info_parts Try.infoSmp
      have HI : Hid (Mm.I64 a ∧ Mm.I64 y) := ⟨by unfold Mm.I64; omega, by unfold Mm.I64; omega⟩
      have hsw := HS.out.chg.size
      obtain ⟨l0, ho2, hnext⟩ := HS.out.push0 0 rfl (W2 := wr.alloc (.cells #[.int .i64 a, .int .i64 y] 37)) (x := ⟨a, y⟩) (below_new (Below.refl _ _) _) (smp_own_mk HI.out)
      rw [← hml.out] at ho2 hnext
      have HNX := Lib.hid hnext
      have HO2 := Lib.hid ho2
      have hnews := Lib.hid (World.news_of_block (B := wr.heap.size) (cs := #[.int .i64 a, .int .i64 y]) (t := 37) (fr := (0, 0)) (w := wr.alloc (.cells #[.int .i64 a, .int .i64 y] 37)) (heap_alloc_new wr _))
      clear hnext ho2
      go_upto_if 39 with first
        | (at_builtin; refine wpList_append_lies _ (by rfl) _ _ _ (by rfl) 0 37 i0 _ 2 16 Try.underlying23 hi hz0 hz1 hz2 rfl (by omega) _ mm l0 (by rfl) HO2.out ⟨wr.heap.size, 0, none⟩ 1 1 [.int .i64 a, .int .i64 y] (by rfl) (by rfl) hnews.out (by simp [Value.oneCell']) (by omega) (by unfold maxLen; omega) (by omega) (Nat.zero_le _) _ rfl ?_; intro gg2 cap w2 hown1 hgrow hat hlt'; obtain ⟨fp2, hs2⟩ := HNX.out gg2 cap w2 hown1 hgrow hat; (have HS := Lib.hid hs2); clear hs2 hown1 hgrow hat HNX HO2 hnews)
        | (go_at_call 40; refine (pick_c code A n c g _ _ _ B (HC.out.keep fun b hb => HS.out.chg.block b (by omega) (by simp; omega)) hBg (HS.out.at_ 1 rfl) (by omega) (by omega)).mono ?_; rintro e w1 ⟨b5, rfl, b50, -, b51, hL⟩; (have HS := Lib.hid (HS.out.call 1 rfl hL)); have b51 := b51 (by omega); clear hL)
        | (go_at_call 27; (have HA := Lib.hid (HS.out.alloc' rfl 3 [.int .i64 0, .int .i64 1, .int .i64 5, .int .i64 20])); refine (among_c code A n c g _ [0, 1, 5, 20] _ 4 _ B (HC.out.keep fun b hb => HA.out.chg.block b (by omega) (by simp; omega)) hBg (HA.out.at_ 2 rfl) (by omega) (HA.out.at_ 0 rfl) (by have := HS.out.chg.size; omega) rfl (by omega) (by omega)).mono ?_; rintro e w1 ⟨b6, rfl, hv9, hL⟩; (have b60 : 0 ≤ b6 ∧ b6 ≤ 20 := by simp at hv9; omega); (have HS := Lib.hid ((HA.out.call 2 rfl hL).tail)); clear hL hv9 HA)
        | (go_at_call 41; refine (one_c code A n c g _ _ _ B (HC.out.keep fun b hb => HS.out.chg.block b (by omega) (by simp; omega)) hBg (HS.out.at_ 1 rfl) (by omega) (by omega)).mono ?_; rintro e w1 ⟨b9, rfl, hL⟩; (have HS := Lib.hid (HS.out.call 1 rfl hL)); clear hL)
      cases b9
      · go_wp2
        go_roundg (k - 1)
        case measure => omega
        case rel => exact ⟨k - 1, mm + 1, a + (1 + b5), y + b6, ls ++ [(⟨a, y⟩ : Sample)], _, cap, fp2, Kc + 3, Nat.le_refl _, by go_num, by show _ = _; rw [List.length_append, hml.out]; rfl, by omega, rfl, rfl, rfl, by omega, by omega, by omega, by omega, by omega, HS⟩
      · go_wp2_with (go_at_call 40; refine (pick_c code A n c g _ _ _ B (HC.out.keep fun b hb => HS.out.chg.block b (by omega) (by simp; omega)) hBg (HS.out.at_ 1 rfl) (by omega) (by omega)).mono ?_; rintro e w1 ⟨b7, rfl, b70, -, b71, hL⟩; (have HS := Lib.hid (HS.out.call 1 rfl hL)); have b71 := b71 (by omega); clear hL)
        go_roundg (k - 1)
        case measure => omega
        case rel => exact ⟨k - 1, mm + 1, a + (1 + b5), b7, ls ++ [(⟨a, y⟩ : Sample)], _, cap, fp2, Kc + 4, Nat.le_refl _, by go_num, by show _ = _; rw [List.length_append, hml.out]; rfl, by omega, rfl, rfl, rfl, by omega, by omega, by omega, by omega, by omega, HS⟩
    · have hk1 : ¬ (0 : Int) < (k : Nat) := by omega
      have HE := Lib.hid (HS.out.more 1 rfl (K' := K + 440) (by omega))
      clear HS
      by_cases hm1 : 0 < mm
      · have hm2 : (0 : Int) < (mm : Nat) := by omega
        obtain ⟨g1, rfl, hg1, -⟩ := Mm.sl_addr (HE.out.sl 0 rfl) (by rw [← hml.out]; exact hm1)
        have hd1 : decide (0 < mm) = true := by simpa using hm1
        go_upto_if 48 with (go_at_call 41; refine (one_c code A n c g _ _ _ B (HC.out.keep fun b hb => HE.out.chg.block b (by omega) (by simp; omega)) hBg (HE.out.at_ 1 rfl) (by omega) (by omega)).mono ?_; rintro e w1 ⟨b9, rfl, hL⟩; (have HS := Lib.hid (HE.out.call 1 rfl hL)); clear hL)
        cases b9
        · go_wp2
          go_ret
          exact ⟨ls, _, _, _, fp, rfl, by rw [← hml.out]; omega, HS.out.more 1 rfl (by omega)⟩
        · go_wp2_with first
            | (go_at_call 40; refine (pick_c code A n c g _ _ _ B (HC.out.keep fun b hb => HS.out.chg.block b (by omega) (by simp; omega)) hBg (HS.out.at_ 1 rfl) (by omega) (by omega)).mono ?_; rintro e w1 ⟨b7, rfl, b70, -, b71, hL⟩; (have HS := Lib.hid (HS.out.call 1 rfl hL)); have b71 := b71 (by omega); clear hL)
            | (go_at_call 27; (have HA := Lib.hid (HS.out.alloc' rfl 3 [.int .i64 (-1), .int .i64 1000000000, .int .i64 1000000001])); refine (among_c code A n c g _ [-1, 1000000000, 1000000001] _ 3 _ B (HC.out.keep fun b hb => HA.out.chg.block b (by omega) (by simp; omega)) hBg (HA.out.at_ 2 rfl) (by omega) (HA.out.at_ 0 rfl) (by have := HS.out.chg.size; omega) rfl (by omega) (by omega)).mono ?_; rintro e w1 ⟨b8, rfl, hv9, hL⟩; (have b80 : -1 ≤ b8 ∧ b8 ≤ 1000000001 := by simp at hv9; omega); (have HS := Lib.hid ((HA.out.call 2 rfl hL).tail)); clear hL hv9 HA; obtain ⟨x, hx⟩ : ∃ x, ls[b7.toNat]? = some x := ⟨_, List.getElem?_eq_getElem (show b7.toNat < ls.length by rw [← hml.out]; omega)⟩; obtain ⟨q0, q1⟩ := smp_ocell (HS.out.sl 0 rfl) (HS.out.ndat (i := 0) rfl) hx; have z1 := (HS.out.sl 0 rfl).frozen (b7.toNat * 2 + 1); have HX := Lib.hid hx; clear hx)
          go_ret
          have hI : Mm.I64 b8 := by unfold Mm.I64; omega
          exact ⟨ls.set b7.toNat ⟨x.At, b8⟩, _, _, _, fp, rfl, by rw [List.length_set, ← hml.out]; omega, (HS.out.putSl (m := 1) (x' := (⟨x.At, b8⟩ : Sample)) (u := .int .i64 b8) 0 rfl HX.out (by decide) (fun cs fx ho => by obtain ⟨rfl, hb, rfl⟩ := ho; exact smp_own_mk (x := ⟨x.At, b8⟩) ⟨hb.1, hI⟩)).more 1 rfl (K' := K + 500) (by omega)⟩
      · have hm2 : ¬ (0 : Int) < (mm : Nat) := by omega
        have hd1 : decide (0 < mm) = false := by simpa using hm1
        go_wp2
        go_ret
        exact ⟨ls, _, _, _, rfl, by rw [← hml.out]; omega, fp, HE.out.more 1 rfl (by omega)⟩
namespace Mm
/-- a list that has been drawn: where it lies, and that nothing that was there has turned -/
def DrawnL {α : Type} (E : Rep α) (w : World) (e : Ending) (w' : World) : Prop := ∃ (l : List α) (A1 : Option Addr) (n1 c1 : Nat), e = .returned (.slice A1 n1 c1) ∧ SlAt E w' w'.heap.size l A1 n1 c1 ∧ Below w.heap.size w w'
def DrawnLI {α : Type} (E : Rep α) (w : World) (e : Ending) (w' : World) : Prop := ∃ (l : List α) (A1 : Option Addr) (n1 c1 : Nat) (k : Int), e = .returned (.tuple #[.slice A1 n1 c1, .int .i64 k]) ∧ I64 k ∧ SlAt E w' w'.heap.size l A1 n1 c1 ∧ Below w.heap.size w w'
end Mm
theorem DrawCounterOk_c (code : List Int) (A : Option Addr) (n c : Nat) (w : World) (B : Nat) (hc : Mm.SlAt Mm.u8 w B code A n c) (hB : B ≤ w.heap.size) :
    Calls Try.prog 34 #[.slice A n c] w (Mm.DrawnL smp w) := by
  have hg0 : (Mm.tcur 47 A n c w.heap.size 0).holds (w.alloc (.cells #[.slice A n c, .int .i64 0, .int .u64 0] 47)) := ⟨0, 0, Mm.Blk.new w 47 [.slice A n c, .int .i64 0, .int .u64 0], by omega, by omega⟩
  have HC := Lib.hid (hc.keep (w' := w.alloc (.cells #[.slice A n c, .int .i64 0, .int .u64 0] 47)) fun b hb => (below_new (Below.refl _ w) _).block b (by omega))
  clear hc
  go_enter Try.func34, Try.ntmps34
  go_wp2_with (go_at_call 26; refine (counter_c code A n c w.heap.size 0 _ B HC.out hB hg0 (by omega)).mono ?_; rintro e w1 ⟨l, A1, n1, c1, fp, rfl, hl, hS⟩)
  go_ret
  exact ⟨l, _, _, _, rfl, (hS.sl 0 rfl).weak (hS.sl 0 rfl).olt, Mm.Below.chg (below_new (Below.refl _ w) _) hS.chg (by rw [Mm.sz1]; omega) (by simp)⟩
theorem DrawRiseOf_c (code : List Int) (A : Option Addr) (n c : Nat) (w : World) (B : Nat) (hc : Mm.SlAt Mm.u8 w B code A n c) (hB : B ≤ w.heap.size) :
    Calls Try.prog 13 #[.slice A n c] w (Mm.DrawnL smp w) := by
  go_enter Try.func13, Try.ntmps13
  go_wp2_with (go_at_call 34; refine (DrawCounterOk_c code A n c _ B hc hB).mono ?_; rintro e w1 ⟨l, A1, n1, c1, rfl, hS⟩)
  go_ret
  exact ⟨l, _, _, _, rfl, hS⟩
set_option maxRecDepth 100000 in
theorem DrawWindowsOf_c (code : List Int) (A : Option Addr) (n c : Nat) (w : World) (B : Nat) (hc : Mm.SlAt Mm.u8 w B code A n c) (hB : B ≤ w.heap.size) :
    Calls Try.prog 5 #[.slice A n c] w (Mm.DrawnLI smp w) := by
  have hg0 : (Mm.tcur 47 A n c w.heap.size 0).holds (w.alloc (.cells #[.slice A n c, .int .i64 0, .int .u64 0] 47)) := ⟨0, 0, Mm.Blk.new w 47 [.slice A n c, .int .i64 0, .int .u64 0], by omega, by omega⟩
  have HC := Lib.hid (hc.keep (w' := w.alloc (.cells #[.slice A n c, .int .i64 0, .int .u64 0] 47)) fun b hb => (below_new (Below.refl _ w) _).block b (by omega))
  have hsw : (w.alloc (.cells #[.slice A n c, .int .i64 0, .int .u64 0] 47)).heap.size = w.heap.size + 1 := Mm.sz1 _ _
  obtain ⟨g, hg⟩ : ∃ g, w.heap.size = g := ⟨_, rfl⟩
  rw [hg] at hg0 hB hsw
  clear hc
  go_enter Try.func5, Try.ntmps5
  go_wp2_with first
    | (go_at_call 26; (try rw [hg]); refine (counter_c code A n c g 0 _ B HC.out hB hg0 (by omega)).mono ?_; rintro e w1 ⟨l, A1, n1, c1, fp, rfl, hl, hS⟩; (have HS := Lib.hid hS); clear hS)
    | (go_at_call 27; go_loud ((have HA := Lib.hid (HS.out.alloc' rfl 3 [.int .i64 0, .int .i64 1, .int .i64 5, .int .i64 10, .int .i64 30, .int .i64 1000000, .int .i64 1000001])); refine (among_c code A n c g _ [0, 1, 5, 10, 30, 1000000, 1000001] _ 7 _ B (HC.out.keep fun b hb => HA.out.chg.block b (by omega) (by simp; omega)) hB (HA.out.at_ 2 rfl) (by omega) (HA.out.at_ 0 rfl) (by have := HS.out.chg.size; omega) rfl (by omega) (by omega)).mono ?_; rintro e w1 ⟨b6, rfl, hv9, hL⟩; (have b60 : 0 ≤ b6 ∧ b6 ≤ 1000001 := by simp at hv9; omega); (have HS := Lib.hid ((HA.out.call 2 rfl hL).tail)); clear hL hv9 HA))
  go_ret2
  have hch := HS.out.chg
  refine ⟨l, _, _, _, b6, rfl, by unfold Mm.I64; omega, (HS.out.sl 0 rfl).weak (HS.out.sl 0 rfl).olt, ?_⟩
  rw [hg]
  exact Mm.Below.chg (hg ▸ below_new (Below.refl _ w) _) hch (by rw [Mm.sz1]; omega) (by simp)
theorem DrawRateOf_c (code : List Int) (A : Option Addr) (n c : Nat) (w : World) (B : Nat) (hc : Mm.SlAt Mm.u8 w B code A n c) (hB : B ≤ w.heap.size) :
    Calls Try.prog 23 #[.slice A n c] w (Mm.DrawnLI smp w) := by
  go_enter Try.func23, Try.ntmps23
  go_wp2_with (go_at_call 5; refine (DrawWindowsOf_c code A n c _ B hc hB).mono ?_; rintro e w1 ⟨l, A1, n1, c1, k, rfl, hS⟩)
  go_ret2
  exact ⟨l, _, _, _, _, rfl, hS⟩
theorem DrawFillGaps_c (code : List Int) (A : Option Addr) (n c : Nat) (w : World) (B : Nat) (hc : Mm.SlAt Mm.u8 w B code A n c) (hB : B ≤ w.heap.size) :
    Calls Try.prog 9 #[.slice A n c] w (Mm.DrawnLI smp w) := by
  go_enter Try.func9, Try.ntmps9
  go_wp2_with (go_at_call 5; refine (DrawWindowsOf_c code A n c _ B hc hB).mono ?_; rintro e w1 ⟨l, A1, n1, c1, k, rfl, hS⟩)
  go_ret2
  exact ⟨l, _, _, _, _, rfl, hS⟩
end Go.Proofs.Ytjpmnegpkpimhaa
