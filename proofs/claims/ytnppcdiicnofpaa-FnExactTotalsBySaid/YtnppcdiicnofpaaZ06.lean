/-
  Joined texts, in build order: Hh, Os. Each part says what it proves; no conditions beyond those that a part names.
-/
import Derived.Test.YtnppcdiicnofpaaZ01
import Derived.Test.YtnppcdiicnofpaaZ02
import Derived.Test.YtnppcdiicnofpaaZ03
import Derived.Test.YtnppcdiicnofpaaZ04
import Derived.Test.YtnppcdiicnofpaaZ05
import Derived.Lib.Hide
import Derived.Deep.DeepFit
import Derived.Test.YtnppcdiicnofpaaRows
/-
  The laws' own looks for marks. No conditions.
-/
namespace Go.Proofs.Ytnppcdiicnofpaa
open Go.RowKit
attribute [local go_sem] und_cell
set_option maxHeartbeats 2000000 in
theorem heldIntS_c (l : List Int) (A : Option Addr) (n c : Nat) (k : Int) (w : World) (B : Nat) (hl : Mm.SlAt Mm.int w B (Mm.mkL Pl.mkInt Pl.cnt1 l k) A n c) (hB : B ≤ w.heap.size) (h0 : 1 ≤ k) (h1 : k + Mm.cntL Pl.cnt1 l ≤ 1000000000000) :
    Calls Try.prog 17 #[.slice A n c, .int .i64 k] w fun e w' => e = .returned (.int .i64 (k + Mm.cntL Pl.cnt1 l)) ∧ Below w.heap.size w w' := by
  have hn : n ≤ 9223372036854775807 := by have := hl.2.1; have := hl.2.2.1; unfold maxLen at this; omega
  have hlen : Hid (l.length = n) := by have := hl.1; rw [Mm.mkL_len] at this; exact this
  have HL := Lib.hid hl
  have HN : Hid (∀ x : Int, 0 ≤ Pl.cnt1 x) := Pl.cnt1_nn
  clear hl
  go_enter Try.func17, Try.ntmps17
  go_wp2
  go_loopw [1, 5] (fun kk i wr => ∃ j : Nat, j ≤ n ∧ i = .int .i64 j ∧ kk = .int .i64 (k + Mm.cntL Pl.cnt1 (l.take j)) ∧ Below w.heap.size w wr) (fun _ i _ => n - (intOf i).toNat)
  case atStart => exact ⟨0, Nat.zero_le _, rfl, by simp [Mm.cntL], Below.refl _ _⟩
  case round =>
    obtain ⟨j, hj, rfl, rfl, hbel⟩ := hrel
    rename_i wr _
    by_cases hlt : j < n
    · obtain ⟨x, hx⟩ : ∃ x, l[j]? = some x := ⟨_, List.getElem?_eq_getElem (by have := hlen.out; omega)⟩
      have hc1 : Mm.cntL Pl.cnt1 (l.take (j + 1)) = Mm.cntL Pl.cnt1 (l.take j) + Pl.cnt1 x := Mm.cntL_succ hx
      have hc2 := Mm.cntL_take_le HN.out l (j + 1)
      have hc3 := Mm.cntL_nn HN.out (l.take j)
      have hc4 := HN.out x
      have hmg := Mm.mkL_get (mk := Pl.mkInt) (cnt := Pl.cnt1) (k := k) hx
      obtain ⟨kj, hkj⟩ : ∃ kj, k + Mm.cntL Pl.cnt1 (l.take j) = kj := ⟨_, rfl⟩
      rw [hkj]
      rw [hkj] at hmg
      have hk0 : 1 ≤ kj := by omega
      have hk1 : kj + Pl.cnt1 x ≤ 1000000000000 := by omega
      have HX := Lib.hid (And.intro hkj hc1)
      have hBw : B ≤ wr.heap.size := Nat.le_trans hB hbel.size
      obtain ⟨y, b, off, hy, rfl, hb, f0, d0⟩ := int_get (HL.out.keep (w' := wr) (fun b hb => hbel.block b (by omega))) hlt
      have hye : y = Pl.mkInt x kj := by rw [hy] at hmg; injection hmg
      rw [hye] at f0 d0
      clear hy hmg hkj hc1 hc2 hc3 hx hye
      have hcx : Pl.cnt1 x = 1 := rfl
      rw [hcx] at hk1
      have HCX := Lib.hid hcx
      clear hcx hc4
      have d0' : wr.cell? ⟨b, off + j, none⟩ = some (.int .i64 (kj)) := by exact d0
      clear d0
      clear f0
      go_wp2
      go_roundw
      case rel =>
        refine ⟨j + 1, by omega, by go_num, ?_, hbel⟩
        have h3 := HX.out.1; have h4 := HX.out.2; have h5 := HCX.out
        rw [h4]
        show Value.int .i64 _ = Value.int .i64 _
        congr 1
        omega
      case measure => simp [intOf]; omega
    · have HK : Hid (l.take j = l) := List.take_of_length_le (by have := hlen.out; omega)
      go_wp2
      go_ret
      exact ⟨ret_int (by rw [HK.out]), hbel⟩
set_option maxHeartbeats 2000000 in
theorem heldLabelS_c (l : List Label) (A : Option Addr) (n c : Nat) (k : Int) (w : World) (B : Nat) (hl : Mm.SlAt rLabel w B (Mm.mkL Pl.mkLabel Pl.cntLabel l k) A n c) (hB : B ≤ w.heap.size) (h0 : 1 ≤ k) (h1 : k + Mm.cntL Pl.cntLabel l ≤ 1000000000000) :
    Calls Try.prog 61 #[.slice A n c, .int .i64 k] w fun e w' => e = .returned (.int .i64 (k + Mm.cntL Pl.cntLabel l)) ∧ Below w.heap.size w w' := by
  have hn : n ≤ 9223372036854775807 := by have := hl.2.1; have := hl.2.2.1; unfold maxLen at this; omega
  have hlen : Hid (l.length = n) := by have := hl.1; rw [Mm.mkL_len] at this; exact this
  have HL := Lib.hid hl
  have HN : Hid (∀ x : Label, 0 ≤ Pl.cntLabel x) := Pl.cntLabel_nn
  clear hl
  go_enter Try.func61, Try.ntmps61
  go_wp2
  go_loopw [1, 5] (fun kk i wr => ∃ j : Nat, j ≤ n ∧ i = .int .i64 j ∧ kk = .int .i64 (k + Mm.cntL Pl.cntLabel (l.take j)) ∧ Below w.heap.size w wr) (fun _ i _ => n - (intOf i).toNat)
  case atStart => exact ⟨0, Nat.zero_le _, rfl, by simp [Mm.cntL], Below.refl _ _⟩
  case round =>
    obtain ⟨j, hj, rfl, rfl, hbel⟩ := hrel
    rename_i wr _
    by_cases hlt : j < n
    · obtain ⟨x, hx⟩ : ∃ x, l[j]? = some x := ⟨_, List.getElem?_eq_getElem (by have := hlen.out; omega)⟩
      have hc1 : Mm.cntL Pl.cntLabel (l.take (j + 1)) = Mm.cntL Pl.cntLabel (l.take j) + Pl.cntLabel x := Mm.cntL_succ hx
      have hc2 := Mm.cntL_take_le HN.out l (j + 1)
      have hc3 := Mm.cntL_nn HN.out (l.take j)
      have hc4 := HN.out x
      have hmg := Mm.mkL_get (mk := Pl.mkLabel) (cnt := Pl.cntLabel) (k := k) hx
      obtain ⟨kj, hkj⟩ : ∃ kj, k + Mm.cntL Pl.cntLabel (l.take j) = kj := ⟨_, rfl⟩
      rw [hkj]
      rw [hkj] at hmg
      have hk0 : 1 ≤ kj := by omega
      have hk1 : kj + Pl.cntLabel x ≤ 1000000000000 := by omega
      have HX := Lib.hid (And.intro hkj hc1)
      have hBw : B ≤ wr.heap.size := Nat.le_trans hB hbel.size
      obtain ⟨y, b, off, hy, rfl, hb, f0, f1, d0, d1⟩ := rLabel_get (HL.out.keep (w' := wr) (fun b hb => hbel.block b (by omega))) hlt
      have hye : y = Pl.mkLabel x kj := by rw [hy] at hmg; injection hmg
      rw [hye] at f0 f1 d0 d1
      clear hy hmg hkj hc1 hc2 hc3 hx hye
      have hcx : Pl.cntLabel x = 1 + 1 := rfl
      rw [hcx] at hk1 hc4
      have HCX := Lib.hid hcx
      clear hcx hc4
      have d0' : wr.cell? ⟨b, off + j * 2, none⟩ = some (.string (Pl.mkText (kj))) := by exact d0
      clear d0
      have d1' : wr.cell? ⟨b, off + j * 2 + 1, none⟩ = some (.string (Pl.mkText ((kj + 1)))) := by exact d1
      clear d1
      clear f0 f1
      go_wp2
      refine wp_region_und (by kernel_rfl) (by kernel_rfl) ?_
      repeat (go_big_quiet_step ((first | (go_at_call 71; exact und_call _ (markText_c _ _ (by omega) (by omega))))))
      refine wpQuiet_nil ?_
      intro X hX
      have HB1 := Lib.hid hX
      have d1__1 := below_some hX d1'
      clear hX
      have HW1 := Lib.hid (below_step hbel HB1.out)
      have HV1 := Lib.hid (HB1.out)
      go_wp2
      refine wp_region_und (by kernel_rfl) (by kernel_rfl) ?_
      repeat (go_big_quiet_step ((first | (go_at_call 71; exact und_call _ (markText_c _ _ (by omega) (by omega))))))
      refine wpQuiet_nil ?_
      intro X hX
      have HB2 := Lib.hid hX
      clear hX
      have HW2 := Lib.hid (below_step HW1.out HB2.out)
      have HV2 := Lib.hid (below_step HV1.out HB2.out)
      go_wp2
      go_roundw
      case rel =>
        refine ⟨j + 1, by omega, by go_num, ?_, HW2.out⟩
        have h3 := HX.out.1; have h4 := HX.out.2; have h5 := HCX.out
        rw [h4]
        show Value.int .i64 _ = Value.int .i64 _
        congr 1
        omega
      case measure => simp [intOf]; omega
    · have HK : Hid (l.take j = l) := List.take_of_length_le (by have := hlen.out; omega)
      go_wp2
      go_ret
      exact ⟨ret_int (by rw [HK.out]), hbel⟩
set_option maxHeartbeats 2000000 in
theorem heldTotalS_c (l : List Total) (A : Option Addr) (n c : Nat) (k : Int) (w : World) (B : Nat) (hl : Mm.SlAt rTotal w B (Mm.mkL Pl.mkTotal Pl.cntTotal l k) A n c) (hB : B ≤ w.heap.size) (h0 : 1 ≤ k) (h1 : k + Mm.cntL Pl.cntTotal l ≤ 1000000000000) :
    Calls Try.prog 22 #[.slice A n c, .int .i64 k] w fun e w' => e = .returned (.int .i64 (k + Mm.cntL Pl.cntTotal l)) ∧ Below w.heap.size w w' := by
  have hn : n ≤ 9223372036854775807 := by have := hl.2.1; have := hl.2.2.1; unfold maxLen at this; omega
  have hlen : Hid (l.length = n) := by have := hl.1; rw [Mm.mkL_len] at this; exact this
  have HL := Lib.hid hl
  have HN : Hid (∀ x : Total, 0 ≤ Pl.cntTotal x) := Pl.cntTotal_nn
  clear hl
  go_enter Try.func22, Try.ntmps22
  go_wp2
  go_loopw [1, 5] (fun kk i wr => ∃ j : Nat, j ≤ n ∧ i = .int .i64 j ∧ kk = .int .i64 (k + Mm.cntL Pl.cntTotal (l.take j)) ∧ Below w.heap.size w wr) (fun _ i _ => n - (intOf i).toNat)
  case atStart => exact ⟨0, Nat.zero_le _, rfl, by simp [Mm.cntL], Below.refl _ _⟩
  case round =>
    obtain ⟨j, hj, rfl, rfl, hbel⟩ := hrel
    rename_i wr _
    by_cases hlt : j < n
    · obtain ⟨x, hx⟩ : ∃ x, l[j]? = some x := ⟨_, List.getElem?_eq_getElem (by have := hlen.out; omega)⟩
      have hc1 : Mm.cntL Pl.cntTotal (l.take (j + 1)) = Mm.cntL Pl.cntTotal (l.take j) + Pl.cntTotal x := Mm.cntL_succ hx
      have hc2 := Mm.cntL_take_le HN.out l (j + 1)
      have hc3 := Mm.cntL_nn HN.out (l.take j)
      have hc4 := HN.out x
      have hmg := Mm.mkL_get (mk := Pl.mkTotal) (cnt := Pl.cntTotal) (k := k) hx
      obtain ⟨kj, hkj⟩ : ∃ kj, k + Mm.cntL Pl.cntTotal (l.take j) = kj := ⟨_, rfl⟩
      rw [hkj]
      rw [hkj] at hmg
      have hk0 : 1 ≤ kj := by omega
      have hk1 : kj + Pl.cntTotal x ≤ 1000000000000 := by omega
      have HX := Lib.hid (And.intro hkj hc1)
      have hBw : B ≤ wr.heap.size := Nat.le_trans hB hbel.size
      obtain ⟨y, b, off, A, n, c, hy, rfl, hb, f0, f1, f2, f3, f4, d0, d1, d2, d3, d4⟩ := rTotal_get (HL.out.keep (w' := wr) (fun b hb => hbel.block b (by omega))) hlt
      have hye : y = Pl.mkTotal x kj := by rw [hy] at hmg; injection hmg
      rw [hye] at f0 f1 f2 f3 f4 d1 d2 d3 d4
      clear hy hmg hkj hc1 hc2 hc3 hx hye
      have hcx : Pl.cntTotal x = (Mm.cntL Pl.cntLabel) x.Labels + 1 + 1 + 1 + 1 := rfl
      have hq0 := Mm.cntL_nn (cnt := Pl.cntLabel) (Pl.cntLabel_nn) x.Labels
      obtain ⟨z0, hz0⟩ : ∃ z, (Mm.cntL Pl.cntLabel) x.Labels = z := ⟨_, rfl⟩
      rw [hz0] at hcx hq0
      rw [hcx] at hk1 hc4
      have HCX := Lib.hid hcx
      clear hcx hc4
      have HZ0 := Lib.hid hz0
      clear hz0
      have HF := Lib.hid f0
      have d1' : wr.cell? ⟨b, off + j * 5 + 1, none⟩ = some (.int .i64 ((kj + z0))) := by rw [← HZ0.out]; exact d1
      clear d1
      have d2' : wr.cell? ⟨b, off + j * 5 + 2, none⟩ = some (.int .i64 (((kj + z0) + 1))) := by rw [← HZ0.out]; exact d2
      clear d2
      have d3' : wr.cell? ⟨b, off + j * 5 + 3, none⟩ = some (.int .i64 ((((kj + z0) + 1) + 1))) := by rw [← HZ0.out]; exact d3
      clear d3
      have d4' : wr.cell? ⟨b, off + j * 5 + 4, none⟩ = some (.int .i64 (((((kj + z0) + 1) + 1) + 1))) := by rw [← HZ0.out]; exact d4
      clear d4
      clear f0 f1 f2 f3 f4
      go_wp2_with fail
      refine (heldLabelS_c x.Labels _ _ _ _ _ B (Mm.SlAt.keep (w' := _) HF.out (fun b hb => rfl)) (hBw) (by omega) (by have hz9 := HZ0.out; omega)).mono ?_
      rintro e v1 ⟨rfl, hb1⟩
      rw [HZ0.out]
      have d1__1 := below_some hb1 d1'
      have d2__1 := below_some hb1 d2'
      have d3__1 := below_some hb1 d3'
      have d4__1 := below_some hb1 d4'
      have HB1 := Lib.hid hb1
      clear hb1
      have HW1 := Lib.hid (below_step hbel HB1.out)
      have HV1 := Lib.hid (HB1.out)
      go_wp2
      go_roundw
      case rel =>
        refine ⟨j + 1, by omega, by go_num, ?_, HW1.out⟩
        have h3 := HX.out.1; have h4 := HX.out.2; have h5 := HCX.out
        rw [h4]
        show Value.int .i64 _ = Value.int .i64 _
        congr 1
        omega
      case measure => simp [intOf]; omega
    · have HK : Hid (l.take j = l) := List.take_of_length_le (by have := hlen.out; omega)
      go_wp2
      go_ret
      exact ⟨ret_int (by rw [HK.out]), hbel⟩
end Go.Proofs.Ytnppcdiicnofpaa

/-
  The laws' own types, opened. No conditions.
-/
namespace Go.Proofs.Ytnppcdiicnofpaa
theorem opens_IntS : Mm.Opens Try.prog 24 (Mm.slice Mm.int 3) := Mm.opens_slice Try.underlying24 (by kernel_rfl) (by decide) (Mm.opens_int Try.underlying3 (by kernel_rfl))
theorem opens_StringS : Mm.Opens Try.prog 41 (Mm.slice Mm.str 9) := Mm.opens_slice Try.underlying41 (by kernel_rfl) (by decide) (Mm.opens_str Try.underlying9 (by kernel_rfl))
theorem opens_Label : Mm.Opens Try.prog 129 rLabel :=
  Mm.opens_map (Mm.opens_struct (E := (Mm.pair Mm.str Mm.str)) Try.underlying129 (by kernel_rfl) (Mm.opensF_cons rfl (Mm.opens_str Try.underlying9 (by kernel_rfl)) (Mm.opensF_one rfl (Mm.opens_str Try.underlying9 (by kernel_rfl))))) rfl
    (fun w B x cs h => by obtain ⟨_, _, rfl, ⟨rfl, h0⟩, ⟨rfl, h1⟩⟩ := h; exact ⟨⟨x.1, x.2⟩, rfl, ⟨h0, h1⟩⟩)
theorem opens_LabelS : Mm.Opens Try.prog 71 (Mm.slice rLabel 129) := Mm.opens_slice Try.underlying71 (by kernel_rfl) (by decide) opens_Label
theorem opens_Item : Mm.Opens Try.prog 101 rItem :=
  Mm.opens_map (Mm.opens_struct (E := (Mm.pair rLabelS Mm.int)) Try.underlying101 (by kernel_rfl) (Mm.opensF_cons rfl opens_LabelS (Mm.opensF_one rfl (Mm.opens_int Try.underlying3 (by kernel_rfl))))) rfl
    (fun w B x cs h => ⟨⟨x.1, x.2⟩, h⟩)
theorem opens_ItemS : Mm.Opens Try.prog 64 (Mm.slice rItem 101) := Mm.opens_slice Try.underlying64 (by kernel_rfl) (by decide) opens_Item
theorem opens_Total : Mm.Opens Try.prog 73 rTotal :=
  Mm.opens_map (Mm.opens_struct (E := (Mm.pair rLabelS (Mm.pair Mm.int (Mm.pair Mm.int (Mm.pair Mm.int Mm.int))))) Try.underlying73 (by kernel_rfl) (Mm.opensF_cons rfl opens_LabelS (Mm.opensF_cons rfl (Mm.opens_int Try.underlying3 (by kernel_rfl)) (Mm.opensF_cons rfl (Mm.opens_int Try.underlying3 (by kernel_rfl)) (Mm.opensF_cons rfl (Mm.opens_int Try.underlying3 (by kernel_rfl)) (Mm.opensF_one rfl (Mm.opens_int Try.underlying3 (by kernel_rfl)))))))) rfl
    (fun w B x cs h => ⟨⟨x.1, x.2.1, x.2.2.1, x.2.2.2.1, x.2.2.2.2⟩, h⟩)
theorem opens_TotalS : Mm.Opens Try.prog 22 (Mm.slice rTotal 73) := Mm.opens_slice Try.underlying22 (by kernel_rfl) (by decide) opens_Total
end Go.Proofs.Ytnppcdiicnofpaa
