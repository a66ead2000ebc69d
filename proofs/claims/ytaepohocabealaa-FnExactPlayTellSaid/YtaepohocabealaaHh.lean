/-
  The laws' own looks for marks. No conditions.
-/
import Derived.Test.YtaepohocabealaaWa
import Derived.Test.YtaepohocabealaaTy
import Derived.Test.YtaepohocabealaaQu
import Derived.Test.YtaepohocabealaaMt
import Derived.Lib.Hide
import Derived.Deep.DeepFit
namespace Go.Proofs.Ytaepohocabealaa
open Go.RowKit
attribute [local go_sem] und_cell
set_option maxHeartbeats 2000000 in
theorem heldIntS_c (l : List Int) (A : Option Addr) (n c : Nat) (k : Int) (w : World) (B : Nat) (hl : Mm.SlAt Mm.int w B (Mm.mkL Pl.mkInt Pl.cnt1 l k) A n c) (hB : B ≤ w.heap.size) (h0 : 1 ≤ k) (h1 : k + Mm.cntL Pl.cnt1 l ≤ 1000000000000) :
    Calls Try.prog 75 #[.slice A n c, .int .i64 k] w fun e w' => e = .returned (.int .i64 (k + Mm.cntL Pl.cnt1 l)) ∧ Below w.heap.size w w' := by
  have hn : n ≤ 9223372036854775807 := by have := hl.2.1; have := hl.2.2.1; unfold maxLen at this; omega
  have hlen : Hid (l.length = n) := by have := hl.1; rw [Mm.mkL_len] at this; exact this
  have HL := Lib.hid hl
  have HN : Hid (∀ x : Int, 0 ≤ Pl.cnt1 x) := Pl.cnt1_nn
  clear hl
  go_enter Try.func75, Try.ntmps75
  go_wp2
  go_loopw [1, 5] (fun kk i wr => ∃ j : Nat, j ≤ n ∧ i = .int .i64 j ∧ kk = .int .i64 (k + Mm.cntL Pl.cnt1 (l.take j)) ∧ Below w.heap.size w wr) (fun _ i _ => n - (intOf i).toNat)
  case atStart => exact ⟨0, Nat.zero_le _, rfl, by simp [Mm.cntL], Below.refl _ _⟩
  case round =>
    obtain ⟨j, hj, rfl, rfl, hbel⟩ := hrel
    rename_i wr _
    by_cases hlt : j < n
    · obtain ⟨x, hx⟩ : ∃ x, l[j]? = some x := ⟨_, List.getElem?_eq_getElem (by have := hlen.out; omega)⟩
      have hc1 : Mm.cntL Pl.cnt1 (l.take (j + 1)) = Mm.cntL Pl.cnt1 (l.take j) + Pl.cnt1 x := Mm.cntL_succ hx
      have hc2 := Mm.cntL_take_le HN.out l (j + 1)
      have hc3 := Mm.cntL_nn HN.out (l.take j)
      have hc4 := HN.out x
      have hmg := Mm.mkL_get (mk := Pl.mkInt) (cnt := Pl.cnt1) (k := k) hx
      obtain ⟨kj, hkj⟩ : ∃ kj, k + Mm.cntL Pl.cnt1 (l.take j) = kj := ⟨_, rfl⟩
      rw [hkj]
      rw [hkj] at hmg
      have hk0 : 1 ≤ kj := by omega
      have hk1 : kj + Pl.cnt1 x ≤ 1000000000000 := by omega
      have HX := Lib.hid (And.intro hkj hc1)
      have hBw : B ≤ wr.heap.size := Nat.le_trans hB hbel.size
      obtain ⟨y, b, off, hy, rfl, hb, f0, d0⟩ := int_get (HL.out.keep (w' := wr) (fun b hb => hbel.block b (by omega))) hlt
      have hye : y = Pl.mkInt x kj := by rw [hy] at hmg; injection hmg
      rw [hye] at f0 d0
      clear hy hmg hkj hc1 hc2 hc3 hx hye
      have hcx : Pl.cnt1 x = 1 := rfl
      rw [hcx] at hk1
      have HCX := Lib.hid hcx
      clear hcx hc4
      have d0' : wr.cell? ⟨b, off + j, none⟩ = some (.int .i64 (kj)) := by exact d0
      clear d0
      clear f0
      go_wp2
      go_roundw
      case rel =>
        refine ⟨j + 1, by omega, by go_num, ?_, hbel⟩
        have h3 := HX.out.1; have h4 := HX.out.2; have h5 := HCX.out
        rw [h4]
        show Value.int .i64 _ = Value.int .i64 _
        congr 1
        omega
      case measure => simp [intOf]; omega
    · have HK : Hid (l.take j = l) := List.take_of_length_le (by have := hlen.out; omega)
      go_wp2
      go_ret
      exact ⟨ret_int (by rw [HK.out]), hbel⟩
set_option maxHeartbeats 2000000 in
theorem heldStringS_c (l : List ByteArray) (A : Option Addr) (n c : Nat) (k : Int) (w : World) (B : Nat) (hl : Mm.SlAt Mm.str w B (Mm.mkL Pl.mkStr Pl.cnt1 l k) A n c) (hB : B ≤ w.heap.size) (h0 : 1 ≤ k) (h1 : k + Mm.cntL Pl.cnt1 l ≤ 1000000000000) :
    Calls Try.prog 107 #[.slice A n c, .int .i64 k] w fun e w' => e = .returned (.int .i64 (k + Mm.cntL Pl.cnt1 l)) ∧ Below w.heap.size w w' := by
  have hn : n ≤ 9223372036854775807 := by have := hl.2.1; have := hl.2.2.1; unfold maxLen at this; omega
  have hlen : Hid (l.length = n) := by have := hl.1; rw [Mm.mkL_len] at this; exact this
  have HL := Lib.hid hl
  have HN : Hid (∀ x : ByteArray, 0 ≤ Pl.cnt1 x) := Pl.cnt1_nn
  clear hl
  go_enter Try.func107, Try.ntmps107
  go_wp2
  go_loopw [1, 5] (fun kk i wr => ∃ j : Nat, j ≤ n ∧ i = .int .i64 j ∧ kk = .int .i64 (k + Mm.cntL Pl.cnt1 (l.take j)) ∧ Below w.heap.size w wr) (fun _ i _ => n - (intOf i).toNat)
  case atStart => exact ⟨0, Nat.zero_le _, rfl, by simp [Mm.cntL], Below.refl _ _⟩
  case round =>
    obtain ⟨j, hj, rfl, rfl, hbel⟩ := hrel
    rename_i wr _
    by_cases hlt : j < n
    · obtain ⟨x, hx⟩ : ∃ x, l[j]? = some x := ⟨_, List.getElem?_eq_getElem (by have := hlen.out; omega)⟩
      have hc1 : Mm.cntL Pl.cnt1 (l.take (j + 1)) = Mm.cntL Pl.cnt1 (l.take j) + Pl.cnt1 x := Mm.cntL_succ hx
      have hc2 := Mm.cntL_take_le HN.out l (j + 1)
      have hc3 := Mm.cntL_nn HN.out (l.take j)
      have hc4 := HN.out x
      have hmg := Mm.mkL_get (mk := Pl.mkStr) (cnt := Pl.cnt1) (k := k) hx
      obtain ⟨kj, hkj⟩ : ∃ kj, k + Mm.cntL Pl.cnt1 (l.take j) = kj := ⟨_, rfl⟩
      rw [hkj]
      rw [hkj] at hmg
      have hk0 : 1 ≤ kj := by omega
      have hk1 : kj + Pl.cnt1 x ≤ 1000000000000 := by omega
      have HX := Lib.hid (And.intro hkj hc1)
      have hBw : B ≤ wr.heap.size := Nat.le_trans hB hbel.size
      obtain ⟨y, b, off, hy, rfl, hb, f0, d0⟩ := str_get (HL.out.keep (w' := wr) (fun b hb => hbel.block b (by omega))) hlt
      have hye : y = Pl.mkStr x kj := by rw [hy] at hmg; injection hmg
      rw [hye] at f0 d0
      clear hy hmg hkj hc1 hc2 hc3 hx hye
      have hcx : Pl.cnt1 x = 1 := rfl
      rw [hcx] at hk1
      have HCX := Lib.hid hcx
      clear hcx hc4
      have d0' : wr.cell? ⟨b, off + j, none⟩ = some (.string (Pl.mkText (kj))) := by exact d0
      clear d0
      clear f0
      go_wp2
      refine wp_region_und (by kernel_rfl) (by kernel_rfl) ?_
      repeat (go_big_quiet_step ((first | (go_at_call 69; exact und_call _ (markText_c _ _ (by omega) (by omega))))))
      refine wpQuiet_nil ?_
      intro X hX
      have HB1 := Lib.hid hX
      clear hX
      have HW1 := Lib.hid (below_step hbel HB1.out)
      have HV1 := Lib.hid (HB1.out)
      go_wp2
      go_roundw
      case rel =>
        refine ⟨j + 1, by omega, by go_num, ?_, HW1.out⟩
        have h3 := HX.out.1; have h4 := HX.out.2; have h5 := HCX.out
        rw [h4]
        show Value.int .i64 _ = Value.int .i64 _
        congr 1
        omega
      case measure => simp [intOf]; omega
    · have HK : Hid (l.take j = l) := List.take_of_length_le (by have := hlen.out; omega)
      go_wp2
      go_ret
      exact ⟨ret_int (by rw [HK.out]), hbel⟩
set_option maxHeartbeats 2000000 in
theorem heldBoolS_c (l : List Bool) (A : Option Addr) (n c : Nat) (k : Int) (w : World) (B : Nat) (hl : Mm.SlAt Mm.bool w B (Mm.mkL Pl.mkBool Pl.cnt1 l k) A n c) (hB : B ≤ w.heap.size) (h0 : 1 ≤ k) (h1 : k + Mm.cntL Pl.cnt1 l ≤ 1000000000000) :
    Calls Try.prog 40 #[.slice A n c, .int .i64 k] w fun e w' => e = .returned (.int .i64 (k + Mm.cntL Pl.cnt1 l)) ∧ Below w.heap.size w w' := by
  have hn : n ≤ 9223372036854775807 := by have := hl.2.1; have := hl.2.2.1; unfold maxLen at this; omega
  have hlen : Hid (l.length = n) := by have := hl.1; rw [Mm.mkL_len] at this; exact this
  have HL := Lib.hid hl
  have HN : Hid (∀ x : Bool, 0 ≤ Pl.cnt1 x) := Pl.cnt1_nn
  clear hl
  go_enter Try.func40, Try.ntmps40
  go_wp2
  go_loopw [1, 5] (fun kk i wr => ∃ j : Nat, j ≤ n ∧ i = .int .i64 j ∧ kk = .int .i64 (k + Mm.cntL Pl.cnt1 (l.take j)) ∧ Below w.heap.size w wr) (fun _ i _ => n - (intOf i).toNat)
  case atStart => exact ⟨0, Nat.zero_le _, rfl, by simp [Mm.cntL], Below.refl _ _⟩
  case round =>
    obtain ⟨j, hj, rfl, rfl, hbel⟩ := hrel
    rename_i wr _
    by_cases hlt : j < n
    · obtain ⟨x, hx⟩ : ∃ x, l[j]? = some x := ⟨_, List.getElem?_eq_getElem (by have := hlen.out; omega)⟩
      have hc1 : Mm.cntL Pl.cnt1 (l.take (j + 1)) = Mm.cntL Pl.cnt1 (l.take j) + Pl.cnt1 x := Mm.cntL_succ hx
      have hc2 := Mm.cntL_take_le HN.out l (j + 1)
      have hc3 := Mm.cntL_nn HN.out (l.take j)
      have hc4 := HN.out x
      have hmg := Mm.mkL_get (mk := Pl.mkBool) (cnt := Pl.cnt1) (k := k) hx
      obtain ⟨kj, hkj⟩ : ∃ kj, k + Mm.cntL Pl.cnt1 (l.take j) = kj := ⟨_, rfl⟩
      rw [hkj]
      rw [hkj] at hmg
      have hk0 : 1 ≤ kj := by omega
      have hk1 : kj + Pl.cnt1 x ≤ 1000000000000 := by omega
      have HX := Lib.hid (And.intro hkj hc1)
      have hBw : B ≤ wr.heap.size := Nat.le_trans hB hbel.size
      obtain ⟨y, b, off, hy, rfl, hb, d0⟩ := bool_get (HL.out.keep (w' := wr) (fun b hb => hbel.block b (by omega))) hlt
      have hye : y = Pl.mkBool x kj := by rw [hy] at hmg; injection hmg
      rw [hye] at d0
      clear hy hmg hkj hc1 hc2 hc3 hx hye
      have hcx : Pl.cnt1 x = 1 := rfl
      rw [hcx] at hk1
      have HCX := Lib.hid hcx
      clear hcx hc4
      have d0' : wr.cell? ⟨b, off + j, none⟩ = some (.bool (kj % 3 == 0)) := by exact d0
      clear d0
      go_wp2
      go_roundw
      case rel =>
        refine ⟨j + 1, by omega, by go_num, ?_, hbel⟩
        have h3 := HX.out.1; have h4 := HX.out.2; have h5 := HCX.out
        rw [h4]
        show Value.int .i64 _ = Value.int .i64 _
        congr 1
        omega
      case measure => simp [intOf]; omega
    · have HK : Hid (l.take j = l) := List.take_of_length_le (by have := hlen.out; omega)
      go_wp2
      go_ret
      exact ⟨ret_int (by rw [HK.out]), hbel⟩
set_option maxHeartbeats 2000000 in
theorem heldStringSS_c (l : List (List ByteArray)) (A : Option Addr) (n c : Nat) (k : Int) (w : World) (B : Nat) (hl : Mm.SlAt strs w B (Mm.mkL (Mm.mkL Pl.mkStr Pl.cnt1) (Mm.cntL Pl.cnt1) l k) A n c) (hB : B ≤ w.heap.size) (h0 : 1 ≤ k) (h1 : k + Mm.cntL (Mm.cntL Pl.cnt1) l ≤ 1000000000000) :
    Calls Try.prog 74 #[.slice A n c, .int .i64 k] w fun e w' => e = .returned (.int .i64 (k + Mm.cntL (Mm.cntL Pl.cnt1) l)) ∧ Below w.heap.size w w' := by
  have hn : n ≤ 9223372036854775807 := by have := hl.2.1; have := hl.2.2.1; unfold maxLen at this; omega
  have hlen : Hid (l.length = n) := by have := hl.1; rw [Mm.mkL_len] at this; exact this
  have HL := Lib.hid hl
  have HN : Hid (∀ x : (List ByteArray), 0 ≤ (Mm.cntL Pl.cnt1) x) := Mm.cntL_nn (cnt := Pl.cnt1) (Pl.cnt1_nn)
  clear hl
  go_enter Try.func74, Try.ntmps74
  go_wp2
  go_loopw [1, 5] (fun kk i wr => ∃ j : Nat, j ≤ n ∧ i = .int .i64 j ∧ kk = .int .i64 (k + Mm.cntL (Mm.cntL Pl.cnt1) (l.take j)) ∧ Below w.heap.size w wr) (fun _ i _ => n - (intOf i).toNat)
  case atStart => exact ⟨0, Nat.zero_le _, rfl, by simp [Mm.cntL], Below.refl _ _⟩
  case round =>
    obtain ⟨j, hj, rfl, rfl, hbel⟩ := hrel
    rename_i wr _
    by_cases hlt : j < n
    · obtain ⟨x, hx⟩ : ∃ x, l[j]? = some x := ⟨_, List.getElem?_eq_getElem (by have := hlen.out; omega)⟩
      have hc1 : Mm.cntL (Mm.cntL Pl.cnt1) (l.take (j + 1)) = Mm.cntL (Mm.cntL Pl.cnt1) (l.take j) + (Mm.cntL Pl.cnt1) x := Mm.cntL_succ hx
      have hc2 := Mm.cntL_take_le HN.out l (j + 1)
      have hc3 := Mm.cntL_nn HN.out (l.take j)
      have hc4 := HN.out x
      have hmg := Mm.mkL_get (mk := (Mm.mkL Pl.mkStr Pl.cnt1)) (cnt := (Mm.cntL Pl.cnt1)) (k := k) hx
      obtain ⟨kj, hkj⟩ : ∃ kj, k + Mm.cntL (Mm.cntL Pl.cnt1) (l.take j) = kj := ⟨_, rfl⟩
      rw [hkj]
      rw [hkj] at hmg
      have hk0 : 1 ≤ kj := by omega
      have hk1 : kj + (Mm.cntL Pl.cnt1) x ≤ 1000000000000 := by omega
      have HX := Lib.hid (And.intro hkj hc1)
      have hBw : B ≤ wr.heap.size := Nat.le_trans hB hbel.size
      obtain ⟨y, b, off, P, p, q, hy, rfl, hb, f0, d0⟩ := strs_get (HL.out.keep (w' := wr) (fun b hb => hbel.block b (by omega))) hlt
      have hye : y = (Mm.mkL Pl.mkStr Pl.cnt1) x kj := by rw [hy] at hmg; injection hmg
      rw [hye] at f0
      clear hy hmg hkj hc1 hc2 hc3 hx hye
      have hcx : (Mm.cntL Pl.cnt1) x = (Mm.cntL Pl.cnt1) x := rfl
      have HCX := Lib.hid hcx
      clear hcx
      have HF := Lib.hid f0
      clear f0
      go_wp2_with fail
      refine (heldStringS_c x _ _ _ _ _ B (Mm.SlAt.keep (w' := _) HF.out (fun b hb => rfl)) (hBw) (by omega) (by omega)).mono ?_
      rintro e v1 ⟨rfl, hb1⟩
      have HB1 := Lib.hid hb1
      clear hb1
      have HW1 := Lib.hid (below_step hbel HB1.out)
      have HV1 := Lib.hid (HB1.out)
      go_wp2
      go_roundw
      case rel =>
        refine ⟨j + 1, by omega, by go_num, ?_, HW1.out⟩
        have h3 := HX.out.1; have h4 := HX.out.2; have h5 := HCX.out
        rw [h4]
        show Value.int .i64 _ = Value.int .i64 _
        congr 1
        omega
      case measure => simp [intOf]; omega
    · have HK : Hid (l.take j = l) := List.take_of_length_le (by have := hlen.out; omega)
      go_wp2
      go_ret
      exact ⟨ret_int (by rw [HK.out]), hbel⟩
set_option maxHeartbeats 2000000 in
theorem heldToldS_c (l : List Told) (A : Option Addr) (n c : Nat) (k : Int) (w : World) (B : Nat) (hl : Mm.SlAt rTold w B (Mm.mkL Pl.mkTold Pl.cntTold l k) A n c) (hB : B ≤ w.heap.size) (h0 : 1 ≤ k) (h1 : k + Mm.cntL Pl.cntTold l ≤ 1000000000000) :
    Calls Try.prog 77 #[.slice A n c, .int .i64 k] w fun e w' => e = .returned (.int .i64 (k + Mm.cntL Pl.cntTold l)) ∧ Below w.heap.size w w' := by
  have hn : n ≤ 9223372036854775807 := by have := hl.2.1; have := hl.2.2.1; unfold maxLen at this; omega
  have hlen : Hid (l.length = n) := by have := hl.1; rw [Mm.mkL_len] at this; exact this
  have HL := Lib.hid hl
  have HN : Hid (∀ x : Told, 0 ≤ Pl.cntTold x) := Pl.cntTold_nn
  clear hl
  go_enter Try.func77, Try.ntmps77
  go_wp2
  go_loopw [1, 5] (fun kk i wr => ∃ j : Nat, j ≤ n ∧ i = .int .i64 j ∧ kk = .int .i64 (k + Mm.cntL Pl.cntTold (l.take j)) ∧ Below w.heap.size w wr) (fun _ i _ => n - (intOf i).toNat)
  case atStart => exact ⟨0, Nat.zero_le _, rfl, by simp [Mm.cntL], Below.refl _ _⟩
  case round =>
    obtain ⟨j, hj, rfl, rfl, hbel⟩ := hrel
    rename_i wr _
    by_cases hlt : j < n
    · obtain ⟨x, hx⟩ : ∃ x, l[j]? = some x := ⟨_, List.getElem?_eq_getElem (by have := hlen.out; omega)⟩
      have hc1 : Mm.cntL Pl.cntTold (l.take (j + 1)) = Mm.cntL Pl.cntTold (l.take j) + Pl.cntTold x := Mm.cntL_succ hx
      have hc2 := Mm.cntL_take_le HN.out l (j + 1)
      have hc3 := Mm.cntL_nn HN.out (l.take j)
      have hc4 := HN.out x
      have hmg := Mm.mkL_get (mk := Pl.mkTold) (cnt := Pl.cntTold) (k := k) hx
      obtain ⟨kj, hkj⟩ : ∃ kj, k + Mm.cntL Pl.cntTold (l.take j) = kj := ⟨_, rfl⟩
      rw [hkj]
      rw [hkj] at hmg
      have hk0 : 1 ≤ kj := by omega
      have hk1 : kj + Pl.cntTold x ≤ 1000000000000 := by omega
      have HX := Lib.hid (And.intro hkj hc1)
      have hBw : B ≤ wr.heap.size := Nat.le_trans hB hbel.size
      obtain ⟨y, b, off, hy, rfl, hb, f0, f1, f2, d0, d1, d2⟩ := rTold_get (HL.out.keep (w' := wr) (fun b hb => hbel.block b (by omega))) hlt
      have hye : y = Pl.mkTold x kj := by rw [hy] at hmg; injection hmg
      rw [hye] at f0 f1 f2 d0 d1 d2
      clear hy hmg hkj hc1 hc2 hc3 hx hye
      have hcx : Pl.cntTold x = 1 + 1 + 1 := rfl
      rw [hcx] at hk1 hc4
      have HCX := Lib.hid hcx
      clear hcx hc4
      have d0' : wr.cell? ⟨b, off + j * 3, none⟩ = some (.int .i64 (kj)) := by exact d0
      clear d0
      have d1' : wr.cell? ⟨b, off + j * 3 + 1, none⟩ = some (.int .i64 ((kj + 1))) := by exact d1
      clear d1
      have d2' : wr.cell? ⟨b, off + j * 3 + 2, none⟩ = some (.string (Pl.mkText (((kj + 1) + 1)))) := by exact d2
      clear d2
      clear f0 f1 f2
      go_wp2
      refine wp_region_und (by kernel_rfl) (by kernel_rfl) ?_
      repeat (go_big_quiet_step ((first | (go_at_call 69; exact und_call _ (markText_c _ _ (by omega) (by omega))))))
      refine wpQuiet_nil ?_
      intro X hX
      have HB1 := Lib.hid hX
      clear hX
      have HW1 := Lib.hid (below_step hbel HB1.out)
      have HV1 := Lib.hid (HB1.out)
      go_wp2
      go_roundw
      case rel =>
        refine ⟨j + 1, by omega, by go_num, ?_, HW1.out⟩
        have h3 := HX.out.1; have h4 := HX.out.2; have h5 := HCX.out
        rw [h4]
        show Value.int .i64 _ = Value.int .i64 _
        congr 1
        omega
      case measure => simp [intOf]; omega
    · have HK : Hid (l.take j = l) := List.take_of_length_le (by have := hlen.out; omega)
      go_wp2
      go_ret
      exact ⟨ret_int (by rw [HK.out]), hbel⟩
set_option maxHeartbeats 2000000 in
theorem heldNoteS_c (l : List Note) (A : Option Addr) (n c : Nat) (k : Int) (w : World) (B : Nat) (hl : Mm.SlAt rNote w B (Mm.mkL Pl.mkNote Pl.cntNote l k) A n c) (hB : B ≤ w.heap.size) (h0 : 1 ≤ k) (h1 : k + Mm.cntL Pl.cntNote l ≤ 1000000000000) :
    Calls Try.prog 76 #[.slice A n c, .int .i64 k] w fun e w' => e = .returned (.int .i64 (k + Mm.cntL Pl.cntNote l)) ∧ Below w.heap.size w w' := by
  have hn : n ≤ 9223372036854775807 := by have := hl.2.1; have := hl.2.2.1; unfold maxLen at this; omega
  have hlen : Hid (l.length = n) := by have := hl.1; rw [Mm.mkL_len] at this; exact this
  have HL := Lib.hid hl
  have HN : Hid (∀ x : Note, 0 ≤ Pl.cntNote x) := Pl.cntNote_nn
  clear hl
  go_enter Try.func76, Try.ntmps76
  go_wp2
  go_loopw [1, 5] (fun kk i wr => ∃ j : Nat, j ≤ n ∧ i = .int .i64 j ∧ kk = .int .i64 (k + Mm.cntL Pl.cntNote (l.take j)) ∧ Below w.heap.size w wr) (fun _ i _ => n - (intOf i).toNat)
  case atStart => exact ⟨0, Nat.zero_le _, rfl, by simp [Mm.cntL], Below.refl _ _⟩
  case round =>
    obtain ⟨j, hj, rfl, rfl, hbel⟩ := hrel
    rename_i wr _
    by_cases hlt : j < n
    · obtain ⟨x, hx⟩ : ∃ x, l[j]? = some x := ⟨_, List.getElem?_eq_getElem (by have := hlen.out; omega)⟩
      have hc1 : Mm.cntL Pl.cntNote (l.take (j + 1)) = Mm.cntL Pl.cntNote (l.take j) + Pl.cntNote x := Mm.cntL_succ hx
      have hc2 := Mm.cntL_take_le HN.out l (j + 1)
      have hc3 := Mm.cntL_nn HN.out (l.take j)
      have hc4 := HN.out x
      have hmg := Mm.mkL_get (mk := Pl.mkNote) (cnt := Pl.cntNote) (k := k) hx
      obtain ⟨kj, hkj⟩ : ∃ kj, k + Mm.cntL Pl.cntNote (l.take j) = kj := ⟨_, rfl⟩
      rw [hkj]
      rw [hkj] at hmg
      have hk0 : 1 ≤ kj := by omega
      have hk1 : kj + Pl.cntNote x ≤ 1000000000000 := by omega
      have HX := Lib.hid (And.intro hkj hc1)
      have hBw : B ≤ wr.heap.size := Nat.le_trans hB hbel.size
      obtain ⟨y, b, off, hy, rfl, hb, f0, f1, f2, d0, d1, d2, d3⟩ := rNote_get (HL.out.keep (w' := wr) (fun b hb => hbel.block b (by omega))) hlt
      have hye : y = Pl.mkNote x kj := by rw [hy] at hmg; injection hmg
      rw [hye] at f0 f1 f2 d0 d1 d2 d3
      clear hy hmg hkj hc1 hc2 hc3 hx hye
      have hcx : Pl.cntNote x = 1 + 1 + 1 + 1 := rfl
      rw [hcx] at hk1 hc4
      have HCX := Lib.hid hcx
      clear hcx hc4
      have d0' : wr.cell? ⟨b, off + j * 4, none⟩ = some (.bool (kj % 3 == 0)) := by exact d0
      clear d0
      have d1' : wr.cell? ⟨b, off + j * 4 + 1, none⟩ = some (.int .i64 ((kj + 1))) := by exact d1
      clear d1
      have d2' : wr.cell? ⟨b, off + j * 4 + 2, none⟩ = some (.int .i64 (((kj + 1) + 1))) := by exact d2
      clear d2
      have d3' : wr.cell? ⟨b, off + j * 4 + 3, none⟩ = some (.string (Pl.mkText ((((kj + 1) + 1) + 1)))) := by exact d3
      clear d3
      clear f0 f1 f2
      go_wp2
      refine wp_region_und (by kernel_rfl) (by kernel_rfl) ?_
      repeat (go_big_quiet_step ((first | (go_at_call 69; exact und_call _ (markText_c _ _ (by omega) (by omega))))))
      refine wpQuiet_nil ?_
      intro X hX
      have HB1 := Lib.hid hX
      clear hX
      have HW1 := Lib.hid (below_step hbel HB1.out)
      have HV1 := Lib.hid (HB1.out)
      go_wp2
      go_roundw
      case rel =>
        refine ⟨j + 1, by omega, by go_num, ?_, HW1.out⟩
        have h3 := HX.out.1; have h4 := HX.out.2; have h5 := HCX.out
        rw [h4]
        show Value.int .i64 _ = Value.int .i64 _
        congr 1
        omega
      case measure => simp [intOf]; omega
    · have HK : Hid (l.take j = l) := List.take_of_length_le (by have := hlen.out; omega)
      go_wp2
      go_ret
      exact ⟨ret_int (by rw [HK.out]), hbel⟩
set_option maxHeartbeats 2000000 in
theorem heldTell_c (x : Tell) (cs : List Value) (k : Int) (w : World) (B : Nat) (ha : rTell.at_ w B (Pl.topTell x k) cs) (hB : B ≤ w.heap.size) (h0 : 1 ≤ k) (h1 : k + Pl.ctopTell x ≤ 1000000000000) :
    Calls Try.prog 39 #[.agg cs.toArray, .int .i64 k] w fun e w' => e = .returned (.int .i64 (k + Pl.ctopTell x)) ∧ Below w.heap.size w w' := by
  obtain ⟨A0, n0, c0, A1, n1, c1, A2, n2, c2, A3, n3, c3, A4, n4, c4, rfl, g0, g1, g2, g3, g4⟩ := rTell_at ha
  have hq0 := Mm.cntL_nn (cnt := (Mm.cntL Pl.cnt1)) (Mm.cntL_nn (cnt := Pl.cnt1) (Pl.cnt1_nn)) x.Texts
  have hq1 := Mm.cntL_nn (cnt := Pl.cnt1) (Pl.cnt1_nn) x.Heard
  have hq2 := Mm.cntL_nn (cnt := Pl.cntNote) (Pl.cntNote_nn) x.Line
  have hq3 := Mm.cntL_nn (cnt := Pl.cntTold) (Pl.cntTold_nn) x.Log
  have hq4 := Mm.cntL_nn (cnt := Pl.cnt1) (Pl.cnt1_nn) x.Next
  have hct : Pl.ctopTell x = (Mm.cntL (Mm.cntL Pl.cnt1)) x.Texts + (Mm.cntL Pl.cnt1) x.Heard + (Mm.cntL Pl.cntNote) x.Line + (Mm.cntL Pl.cntTold) x.Log + (Mm.cntL Pl.cnt1) x.Next := rfl
  rw [hct] at h1
  have HCT := Lib.hid hct
  clear hct
  have KB := Lib.hid (Mm.Blk.new w 31 [.slice A0 n0 c0, .slice A1 n1 c1, .slice A2 n2 c2, .slice A3 n3 c3, .slice A4 n4 c4])
  have HB := Lib.hid (below_new (Below.refl w.heap.size w) (.cells #[.slice A0 n0 c0, .slice A1 n1 c1, .slice A2 n2 c2, .slice A3 n3 c3, .slice A4 n4 c4] 31))
  have HG := Lib.hid (And.intro hB (And.intro g0 (And.intro g1 (And.intro g2 (And.intro g3 g4)))))
  clear ha g0 g1 g2 g3 g4
  go_enter Try.func39, Try.ntmps39
  go_wp2_with fail
  refine (heldStringSS_c x.Texts _ _ _ _ _ B (HG.out.2.1.keep fun b hb => HB.out.block b (Nat.lt_of_lt_of_le hb HG.out.1)) (Nat.le_trans HG.out.1 HB.out.size) (by omega) (by omega)).mono ?_
  rintro e v0 ⟨rfl, hb0⟩
  have HB := Lib.hid (below_step HB.out hb0)
  have KB := Lib.hid (KB.out.bel hb0)
  clear hb0
  have e0_1 := KB.out.cell (i := 1) rfl
  have e0_2 := KB.out.cell (i := 2) rfl
  have e0_3 := KB.out.cell (i := 3) rfl
  have e0_4 := KB.out.cell (i := 4) rfl
  go_wp2_with fail
  refine (heldIntS_c x.Heard _ _ _ _ _ B (HG.out.2.2.1.keep fun b hb => HB.out.block b (Nat.lt_of_lt_of_le hb HG.out.1)) (Nat.le_trans HG.out.1 HB.out.size) (by omega) (by omega)).mono ?_
  rintro e v1 ⟨rfl, hb1⟩
  have HB := Lib.hid (below_step HB.out hb1)
  have KB := Lib.hid (KB.out.bel hb1)
  clear hb1
  have e1_2 := KB.out.cell (i := 2) rfl
  have e1_3 := KB.out.cell (i := 3) rfl
  have e1_4 := KB.out.cell (i := 4) rfl
  go_wp2_with fail
  refine (heldNoteS_c x.Line _ _ _ _ _ B (HG.out.2.2.2.1.keep fun b hb => HB.out.block b (Nat.lt_of_lt_of_le hb HG.out.1)) (Nat.le_trans HG.out.1 HB.out.size) (by omega) (by omega)).mono ?_
  rintro e v2 ⟨rfl, hb2⟩
  have HB := Lib.hid (below_step HB.out hb2)
  have KB := Lib.hid (KB.out.bel hb2)
  clear hb2
  have e2_3 := KB.out.cell (i := 3) rfl
  have e2_4 := KB.out.cell (i := 4) rfl
  go_wp2_with fail
  refine (heldToldS_c x.Log _ _ _ _ _ B (HG.out.2.2.2.2.1.keep fun b hb => HB.out.block b (Nat.lt_of_lt_of_le hb HG.out.1)) (Nat.le_trans HG.out.1 HB.out.size) (by omega) (by omega)).mono ?_
  rintro e v3 ⟨rfl, hb3⟩
  have HB := Lib.hid (below_step HB.out hb3)
  have KB := Lib.hid (KB.out.bel hb3)
  clear hb3
  have e3_4 := KB.out.cell (i := 4) rfl
  go_wp2_with fail
  refine (heldIntS_c x.Next _ _ _ _ _ B (HG.out.2.2.2.2.2.keep fun b hb => HB.out.block b (Nat.lt_of_lt_of_le hb HG.out.1)) (Nat.le_trans HG.out.1 HB.out.size) (by omega) (by omega)).mono ?_
  rintro e v4 ⟨rfl, hb4⟩
  have HB := Lib.hid (below_step HB.out hb4)
  have KB := Lib.hid (KB.out.bel hb4)
  clear hb4
  go_wp2
  go_ret
  exact ⟨ret_int (by have := HCT.out; omega), HB.out⟩
end Go.Proofs.Ytaepohocabealaa
