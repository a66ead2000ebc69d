/-
  Contracts: drawn names. No conditions.
-/
import Derived.Test.YtjmcbggdckfefaaCu
import Derived.Test.YtjmcbggdckfefaaTy
import Derived.Deep.DeepCutAuto
import Derived.Lib.Strings
namespace Go.Proofs.Ytjmcbggdckfefaa
open Go.RowKit
attribute [local go_sem] und_cell World.cell?_alloc_some
def names15 : List ByteArray := [⟨#[97]⟩, ⟨#[97]⟩, ⟨#[97]⟩, ⟨#[98]⟩, ⟨#[98]⟩, ⟨#[99, 112, 117]⟩, ⟨#[109, 101, 109]⟩, ⟨#[100, 105, 115, 107]⟩, ⟨#[120]⟩, ⟨#[121]⟩, ⟨#[122]⟩, ⟨#[110, 101, 116]⟩, ⟨#[]⟩]
theorem names15_sz {x : ByteArray} (h : x ∈ names15) : x.size ≤ 4 := by
  unfold names15 at h
  simp only [List.mem_cons, List.not_mem_nil, or_false] at h
  rcases h with h | h | h | h | h | h | h | h | h | h | h | h | h <;> (rw [h]; decide)
set_option maxRecDepth 100000 in
theorem name15_c (code : List Int) (A : Option Addr) (n c g K : Nat) (w : World) (B : Nat) (hc : Mm.SlAt Mm.u8 w B code A n c) (hB : B ≤ g) (h : (Mm.tcur 92 A n c g K).holds w) (hK : K < 4611686018427387000) :
    Calls Try.prog 85 #[.pointer (some ⟨g, 0, none⟩)] w fun e w' => ∃ v : ByteArray, e = .returned (.string v) ∧ v ∈ names15 ∧ Mm.Left [g] w w' (Mm.tcur 92 A n c g (K + 1)) := by
  have hgw : g < w.heap.size := (Mm.tcur 92 A n c g K).lt h g (by simp [Mm.tcur])
  have HC := Lib.hid hc
  have HS : Hid (Mm.SepF [g] w w [Mm.tcur 92 A n c g K]) := Mm.SepF.one (Mm.tcur 92 A n c g K) w h (by simp [Mm.tcur])
  have HA := Lib.hid (HS.out.alloc' rfl 9 [.string ⟨#[97]⟩, .string ⟨#[97]⟩, .string ⟨#[97]⟩, .string ⟨#[98]⟩, .string ⟨#[98]⟩, .string ⟨#[99, 112, 117]⟩, .string ⟨#[109, 101, 109]⟩, .string ⟨#[100, 105, 115, 107]⟩, .string ⟨#[120]⟩, .string ⟨#[121]⟩, .string ⟨#[122]⟩, .string ⟨#[110, 101, 116]⟩, .string ⟨#[]⟩])
  clear hc h
  go_enter Try.func85, Try.ntmps85
  go_wp2_with (go_at_call 101; refine (of_c code A n c g K names15 w.heap.size 13 _ B (HC.out.keep fun b hb => HA.out.chg.block b (by omega) (by simp; omega)) hB (HA.out.at_ 1 rfl) (by omega) (HA.out.at_ 0 rfl) (by omega) rfl (by omega) (by omega)).mono ?_; rintro e w1 ⟨v, rfl, hv, hL⟩; (have HS := Lib.hid ((HA.out.call 1 rfl hL).tail)); clear hL HA)
  go_ret
  exact ⟨v, rfl, hv, HS.out.left⟩
theorem Try.infoStr : (Try.prog.info? 9).map (fun i => (i.zero, i.size, i.bytes)) = some (some (.string ⟨#[]⟩), 1, 16) := by kernel_rfl
set_option maxRecDepth 100000 in
set_option maxHeartbeats 2000000 in
theorem told_c (code : List Int) (A : Option Addr) (n c g K : Nat) (w : World) (B : Nat) (hc : Mm.SlAt Mm.u8 w B code A n c) (hBg : B ≤ g) (h : (Mm.tcur 92 A n c g K).holds w) (hK : K < 4611686018427386000) :
    Calls Try.prog 81 #[.pointer (some ⟨g, 0, none⟩)] w fun e w' => ∃ (l : List ByteArray) (A1 : Option Addr) (n1 c1 : Nat) (fp : List Nat), e = .returned (.slice A1 n1 c1) ∧ l.length ≤ 201 ∧ Mm.SepF [g] w w' [Mm.tsl Mm.str 9 l (.slice A1 n1 c1) fp, Mm.tcur 92 A n c g (K + 700)] := by
  have hgw : g < w.heap.size := (Mm.tcur 92 A n c g K).lt h g (by simp [Mm.tcur])
  have HC := Lib.hid hc
  have HS : Hid (Mm.SepF [g] w w [Mm.tcur 92 A n c g K]) := Mm.SepF.one (Mm.tcur 92 A n c g K) w h (by simp [Mm.tcur])
  clear hc h
  go_enter Try.func81, Try.ntmps81
  go_upto_if 9 with first
    | (go_at_call 80; refine (pick_c code A n c g _ _ _ B (HC.out.keep fun b hb => HS.out.chg.block b (by omega) (by simp; omega)) hBg (HS.out.at_ 0 rfl) (by omega) (by omega)).mono ?_; rintro e w1 ⟨b1, rfl, b10, -, b11, hL⟩; (have HS := Lib.hid (HS.out.call 0 rfl hL)); have b11 := b11 (by omega); clear hL)
    | (go_at_call 100; refine (one_c code A n c g _ _ _ B (HC.out.keep fun b hb => HS.out.chg.block b (by omega) (by simp; omega)) hBg (HS.out.at_ 0 rfl) (by omega) (by omega)).mono ?_; rintro e w1 ⟨b9, rfl, hL⟩; (have HS := Lib.hid (HS.out.call 0 rfl hL)); clear hL)
  go_cut [4] (fun s4 wx => ∃ m : Int, s4 = .int .i64 m ∧ 0 ≤ m ∧ m ≤ 201 ∧ Mm.SepF [g] w wx [Mm.tcur 92 A n c g (K + 3)])
  case first =>
    cases b9
    · go_wp2_with fail
      go_meet
      exact ⟨_, rfl, b10, by omega, HS.out.more 0 rfl (by omega)⟩
    · go_wp2_with (go_at_call 80; refine (pick_c code A n c g _ _ _ B (HC.out.keep fun b hb => HS.out.chg.block b (by omega) (by simp; omega)) hBg (HS.out.at_ 0 rfl) (by omega) (by omega)).mono ?_; rintro e w1 ⟨b2, rfl, b20, -, b21, hL⟩; (have HS := Lib.hid (HS.out.call 0 rfl hL)); have b21 := b21 (by omega); clear hL)
      go_meet
      exact ⟨_, rfl, by omega, by omega, HS.out.more 0 rfl (by omega)⟩
  case rest =>
  obtain ⟨m, rfl, hm0, hm1, HS⟩ := hcut
  have HS := Lib.hid ((HS.add (Below.refl _ _) (t := Mm.tsl Mm.str 9 [] (.slice none 0 0) []) Mm.SlOwn.nil List.nodup_nil (fun b hb => by cases hb)))
  go_wp2_with fail
  go_loopg [3, 4, 5] 201 (fun gg l nn s wr => ∃ (k mm : Nat) (ls : List ByteArray) (A1 : Option Addr) (c1 : Nat) (fp : List Nat) (Kc : Nat), k ≤ gg ∧ nn = .int .i64 k ∧ Hid (mm = ls.length) ∧ k + mm ≤ 201 ∧ l = .slice A1 mm c1 ∧ Kc + 3 * k ≤ K + 606 ∧ Hid (Mm.SepF [g] w wr [Mm.tsl Mm.str 9 ls (.slice A1 mm c1) fp, Mm.tcur 92 A n c g Kc]))
  case atStart => exact ⟨m.toNat, 0, [], none, 0, [], K + 3, by omega, by rw [Int.toNat_of_nonneg hm0], rfl, by omega, rfl, by omega, HS⟩
  case round =>
    obtain ⟨k, mm, ls, A1, c1, fp, Kc, hkg, rfl, hml, hkm, rfl, hKc, HS⟩ := hrel
    by_cases hk0 : 0 < k
    · have hk1 : (0 : Int) < (k : Nat) := by omega
      go_upto_region 8 with (go_at_call 85; refine (name15_c code A n c g _ _ B (HC.out.keep fun b hb => HS.out.chg.block b (by omega) (by simp; omega)) hBg (HS.out.at_ 1 rfl) (by omega)).mono ?_; rintro e w1 ⟨v, rfl, hv, hL⟩; (have HS := Lib.hid (HS.out.call 1 rfl hL)); clear hL)
      have hvs := names15_sz hv
      by_cases hv0 : v = ⟨#[]⟩
      · subst hv0
        go_upto_if 25 with (go_at_call 100; refine (one_c code A n c g _ _ _ B (HC.out.keep fun b hb => HS.out.chg.block b (by omega) (by simp; omega)) hBg (HS.out.at_ 1 rfl) (by omega) (by omega)).mono ?_; rintro e w1 ⟨b9, rfl, hL⟩; (have HS := Lib.hid (HS.out.call 1 rfl hL)); clear hL)
        cases b9
        · go_upto_region 10 with fail
          obtain ⟨i0, hi, hz0, hz1, hz2⟩ := info_parts Try.infoStr
          have hvm : Hid ((⟨#[97]⟩ : ByteArray).size ≤ maxLen) := by show _ ≤ _; unfold maxLen; decide
          obtain ⟨l0, ho2, hnext⟩ := HS.out.push0 0 rfl (W2 := w1.alloc (.cells #[.string (⟨#[97]⟩ : ByteArray)] 9)) (x := (⟨#[97]⟩ : ByteArray)) (below_new (Below.refl _ _) _) (cx := [.string (⟨#[97]⟩ : ByteArray)]) ⟨rfl, hvm.out, rfl⟩
          rw [← hml.out] at ho2 hnext
          have HNX := Lib.hid hnext
          have HO2 := Lib.hid ho2
          have hnews := Lib.hid (World.news_of_block (B := w1.heap.size) (cs := #[.string (⟨#[97]⟩ : ByteArray)]) (t := 9) (fr := (0, 0)) (w := w1.alloc (.cells #[.string (⟨#[97]⟩ : ByteArray)] 9)) (heap_alloc_new w1 _))
          clear hnext ho2
          go_wp2_with (at_builtin; refine wpList_append_lies _ (by rfl) _ _ _ (by rfl) 0 9 i0 _ 1 16 Try.underlying33 hi hz0 hz1 hz2 rfl (by omega) _ mm l0 (by rfl) HO2.out ⟨w1.heap.size, 0, none⟩ 1 1 [.string (⟨#[97]⟩ : ByteArray)] (by rfl) (by rfl) hnews.out (by simp [Value.oneCell']) (by omega) (by unfold maxLen; omega) (by omega) (Nat.zero_le _) _ rfl ?_; intro gg2 cap w2 hown1 hgrow hat hlt'; obtain ⟨fp2, hs2⟩ := HNX.out gg2 cap w2 hown1 hgrow hat; (have HS := Lib.hid hs2); clear hs2 hown1 hgrow hat HNX HO2 hnews)
          go_roundg (k - 1)
          case measure => omega
          case rel => exact ⟨k - 1, mm + 1, ls ++ [(⟨#[97]⟩ : ByteArray)], _, cap, fp2, Kc + 2, Nat.le_refl _, by go_num, by show _ = _; rw [List.length_append, hml.out]; rfl, by omega, rfl, by omega, HS⟩
        · go_upto_region 10 with fail
          obtain ⟨i0, hi, hz0, hz1, hz2⟩ := info_parts Try.infoStr
          have hvm : Hid ((⟨#[]⟩ : ByteArray).size ≤ maxLen) := by show _ ≤ _; unfold maxLen; decide
          obtain ⟨l0, ho2, hnext⟩ := HS.out.push0 0 rfl (W2 := w1.alloc (.cells #[.string (⟨#[]⟩ : ByteArray)] 9)) (x := (⟨#[]⟩ : ByteArray)) (below_new (Below.refl _ _) _) (cx := [.string (⟨#[]⟩ : ByteArray)]) ⟨rfl, hvm.out, rfl⟩
          rw [← hml.out] at ho2 hnext
          have HNX := Lib.hid hnext
          have HO2 := Lib.hid ho2
          have hnews := Lib.hid (World.news_of_block (B := w1.heap.size) (cs := #[.string (⟨#[]⟩ : ByteArray)]) (t := 9) (fr := (0, 0)) (w := w1.alloc (.cells #[.string (⟨#[]⟩ : ByteArray)] 9)) (heap_alloc_new w1 _))
          clear hnext ho2
          go_wp2_with (at_builtin; refine wpList_append_lies _ (by rfl) _ _ _ (by rfl) 0 9 i0 _ 1 16 Try.underlying33 hi hz0 hz1 hz2 rfl (by omega) _ mm l0 (by rfl) HO2.out ⟨w1.heap.size, 0, none⟩ 1 1 [.string (⟨#[]⟩ : ByteArray)] (by rfl) (by rfl) hnews.out (by simp [Value.oneCell']) (by omega) (by unfold maxLen; omega) (by omega) (Nat.zero_le _) _ rfl ?_; intro gg2 cap w2 hown1 hgrow hat hlt'; obtain ⟨fp2, hs2⟩ := HNX.out gg2 cap w2 hown1 hgrow hat; (have HS := Lib.hid hs2); clear hs2 hown1 hgrow hat HNX HO2 hnews)
          go_roundg (k - 1)
          case measure => omega
          case rel => exact ⟨k - 1, mm + 1, ls ++ [(⟨#[]⟩ : ByteArray)], _, cap, fp2, Kc + 2, Nat.le_refl _, by go_num, by show _ = _; rw [List.length_append, hml.out]; rfl, by omega, rfl, by omega, HS⟩
      · have hve : v.toList.isEmpty = false := by
          cases hh : v.toList with
          | nil => exact absurd (by rw [Lib.toList_data] at hh; cases v with | mk a => simp at hh; rw [hh]) hv0
          | cons => rfl
        go_upto_region 10 with fail
        obtain ⟨i0, hi, hz0, hz1, hz2⟩ := info_parts Try.infoStr
        have hvm : Hid (v.size ≤ maxLen) := by show _ ≤ _; unfold maxLen; omega
        obtain ⟨l0, ho2, hnext⟩ := HS.out.push0 0 rfl (W2 := w1.alloc (.cells #[.string v] 9)) (x := v) (below_new (Below.refl _ _) _) (cx := [.string v]) ⟨rfl, hvm.out, rfl⟩
        rw [← hml.out] at ho2 hnext
        have HNX := Lib.hid hnext
        have HO2 := Lib.hid ho2
        have hnews := Lib.hid (World.news_of_block (B := w1.heap.size) (cs := #[.string v]) (t := 9) (fr := (0, 0)) (w := w1.alloc (.cells #[.string v] 9)) (heap_alloc_new w1 _))
        clear hnext ho2
        go_wp2_with (at_builtin; refine wpList_append_lies _ (by rfl) _ _ _ (by rfl) 0 9 i0 _ 1 16 Try.underlying33 hi hz0 hz1 hz2 rfl (by omega) _ mm l0 (by rfl) HO2.out ⟨w1.heap.size, 0, none⟩ 1 1 [.string v] (by rfl) (by rfl) hnews.out (by simp [Value.oneCell']) (by omega) (by unfold maxLen; omega) (by omega) (Nat.zero_le _) _ rfl ?_; intro gg2 cap w2 hown1 hgrow hat hlt'; obtain ⟨fp2, hs2⟩ := HNX.out gg2 cap w2 hown1 hgrow hat; (have HS := Lib.hid hs2); clear hs2 hown1 hgrow hat HNX HO2 hnews)
        go_roundg (k - 1)
        case measure => omega
        case rel => exact ⟨k - 1, mm + 1, ls ++ [v], _, cap, fp2, Kc + 1, Nat.le_refl _, by go_num, by show _ = _; rw [List.length_append, hml.out]; rfl, by omega, rfl, by omega, HS⟩
    · have hk1 : ¬ (0 : Int) < (k : Nat) := by omega
      go_wp2
      go_ret
      first
        | exact ⟨ls, _, _, _, fp, rfl, by rw [← hml.out]; omega, HS.out.more 1 rfl (by omega)⟩
        | exact ⟨ls, _, _, _, rfl, by rw [← hml.out]; omega, fp, HS.out.more 1 rfl (by omega)⟩
namespace Mm
def DrawnIL {α : Type} (E : Rep α) (w : World) (e : Ending) (w' : World) : Prop := ∃ (l : List α) (A1 : Option Addr) (n1 c1 : Nat) (k : Int), e = .returned (.tuple #[.int .i64 k, .slice A1 n1 c1]) ∧ 1 ≤ k ∧ k ≤ 6 ∧ l.length ≤ 201 ∧ SlAt E w' w'.heap.size l A1 n1 c1 ∧ Below w.heap.size w w'
end Mm
set_option maxRecDepth 100000 in
theorem DrawFeedHeavy_c (code : List Int) (A : Option Addr) (n c : Nat) (w : World) (B : Nat) (hc : Mm.SlAt Mm.u8 w B code A n c) (hB : B ≤ w.heap.size) :
    Calls Try.prog 28 #[.slice A n c] w (Mm.DrawnIL Mm.str w) := by
  have hg0 : (Mm.tcur 92 A n c w.heap.size 0).holds (w.alloc (.cells #[.slice A n c, .int .i64 0, .int .u64 0] 92)) := ⟨0, 0, Mm.Blk.new w 92 [.slice A n c, .int .i64 0, .int .u64 0], by omega, by omega⟩
  have HC := Lib.hid (hc.keep (w' := w.alloc (.cells #[.slice A n c, .int .i64 0, .int .u64 0] 92)) fun b hb => (below_new (Below.refl _ w) _).block b (by omega))
  have hsw : (w.alloc (.cells #[.slice A n c, .int .i64 0, .int .u64 0] 92)).heap.size = w.heap.size + 1 := Mm.sz1 _ _
  have HS : Hid (Mm.SepF [w.heap.size] (w.alloc (.cells #[.slice A n c, .int .i64 0, .int .u64 0] 92)) (w.alloc (.cells #[.slice A n c, .int .i64 0, .int .u64 0] 92)) [Mm.tcur 92 A n c w.heap.size 0]) := Mm.SepF.one (Mm.tcur 92 A n c w.heap.size 0) _ hg0 (by simp [Mm.tcur])
  obtain ⟨g, hg⟩ : ∃ g, w.heap.size = g := ⟨_, rfl⟩
  rw [hg] at HS hB hsw
  clear hc hg0
  go_enter Try.func28, Try.ntmps28
  go_wp2_with first
    | (go_at_call 80; refine (pick_c code A n c g _ _ _ B (HC.out.keep fun b hb => HS.out.chg.block b (by omega) (by simp; omega)) hB (HS.out.at_ 0 rfl) (by omega) (by omega)).mono ?_; rintro e w1 ⟨b1, rfl, b10, -, b11, hL⟩; (have HS := Lib.hid (HS.out.call 0 rfl hL)); have b11 := b11 (by omega); clear hL)
    | (go_at_call 81; refine (told_c code A n c g _ _ B (HC.out.keep fun b hb => HS.out.chg.block b (by omega) (by simp; omega)) hB (HS.out.at_ 0 rfl) (by omega)).mono ?_; rintro e w1 ⟨l, A1, n1, c1, fp, rfl, hl, hS⟩; have hch := (HS.out.chg).trans hS.chg)
  go_ret2
  refine ⟨l, _, _, _, _, rfl, by omega, by omega, hl, (hS.sl 0 rfl).weak (hS.sl 0 rfl).olt, ?_⟩
  rw [hg]
  exact Mm.Below.chg (hg ▸ below_new (Below.refl _ w) _) hch (by rw [Mm.sz1]; omega) (by simp)
set_option maxRecDepth 100000 in
theorem DrawPlaceIn_c (code : List Int) (A : Option Addr) (n c : Nat) (w : World) (B : Nat) (hc : Mm.SlAt Mm.u8 w B code A n c) (hB : B ≤ w.heap.size) :
    Calls Try.prog 39 #[.slice A n c] w fun e w' => ∃ (k : Int) (s : ByteArray), e = .returned (.tuple #[.int .i64 k, .string s]) ∧ -1 ≤ k ∧ k ≤ 3 ∧ s.size ≤ 4 ∧ Below w.heap.size w w' := by
  have hg0 : (Mm.tcur 92 A n c w.heap.size 0).holds (w.alloc (.cells #[.slice A n c, .int .i64 0, .int .u64 0] 92)) := ⟨0, 0, Mm.Blk.new w 92 [.slice A n c, .int .i64 0, .int .u64 0], by omega, by omega⟩
  have HC := Lib.hid (hc.keep (w' := w.alloc (.cells #[.slice A n c, .int .i64 0, .int .u64 0] 92)) fun b hb => (below_new (Below.refl _ w) _).block b (by omega))
  have hsw : (w.alloc (.cells #[.slice A n c, .int .i64 0, .int .u64 0] 92)).heap.size = w.heap.size + 1 := Mm.sz1 _ _
  have HS : Hid (Mm.SepF [w.heap.size] (w.alloc (.cells #[.slice A n c, .int .i64 0, .int .u64 0] 92)) (w.alloc (.cells #[.slice A n c, .int .i64 0, .int .u64 0] 92)) [Mm.tcur 92 A n c w.heap.size 0]) := Mm.SepF.one (Mm.tcur 92 A n c w.heap.size 0) _ hg0 (by simp [Mm.tcur])
  obtain ⟨g, hg⟩ : ∃ g, w.heap.size = g := ⟨_, rfl⟩
  rw [hg] at HS hB hsw
  clear hc hg0
  go_enter Try.func39, Try.ntmps39
  go_wp2_with first
    | (go_at_call 80; refine (pick_c code A n c g _ _ _ B (HC.out.keep fun b hb => HS.out.chg.block b (by omega) (by simp; omega)) hB (HS.out.at_ 0 rfl) (by omega) (by omega)).mono ?_; rintro e w1 ⟨b1, rfl, b10, -, b11, hL⟩; (have HS := Lib.hid (HS.out.call 0 rfl hL)); have b11 := b11 (by omega); clear hL)
    | (go_at_call 85; refine (name15_c code A n c g _ _ B (HC.out.keep fun b hb => HS.out.chg.block b (by omega) (by simp; omega)) hB (HS.out.at_ 0 rfl) (by omega)).mono ?_; rintro e w1 ⟨v, rfl, hv, hL⟩; (have HS := Lib.hid (HS.out.call 0 rfl hL)); clear hL)
  go_ret2
  have hch := HS.out.chg
  refine ⟨_, v, rfl, by omega, by omega, names15_sz hv, ?_⟩
  rw [hg]
  exact Mm.Below.chg (hg ▸ below_new (Below.refl _ w) _) hch (by rw [Mm.sz1]; omega) (by simp)
end Go.Proofs.Ytjmcbggdckfefaa
