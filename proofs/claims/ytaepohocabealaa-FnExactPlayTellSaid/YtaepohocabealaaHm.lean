/-
  The laws' own markings of things that are owned. No conditions.
-/
import Derived.Test.YtaepohocabealaaWa
import Derived.Test.YtaepohocabealaaTy
import Derived.Test.YtaepohocabealaaQu
import Derived.Test.YtaepohocabealaaMt
import Derived.Lib.Hide
import Derived.Deep.DeepFit
namespace Go.Proofs.Ytaepohocabealaa
open Go.RowKit
attribute [local go_sem] und_cell
set_option maxHeartbeats 2000000 in
theorem markIntS_c (l : List Int) (A : Option Addr) (n c : Nat) (fp : List Nat) (k : Int) (w : World) (ho : Mm.SlOwn Mm.int 3 w l (.slice A n c) fp) (hnd : fp.Nodup) (h0 : 1 ≤ k) (h1 : k + Mm.cntL Pl.cnt1 l ≤ 1000000000000) :
    Calls Try.prog 71 #[.slice A n c, .int .i64 k] w (Mm.MkRet Mm.int 3 Pl.mkInt Pl.cnt1 w l (.slice A n c) fp k) := by
  have hn : n ≤ 9223372036854775807 := by
    obtain ⟨_, _, _, he, _, h2, h3, _⟩ := ho.form
    injection he with _ e2 e3
    subst e2; subst e3
    unfold maxLen at h3; omega
  have hlen : Hid (l.length = n) := by
    obtain ⟨_, _, _, he, h2, _⟩ := ho.form
    injection he with _ e2
    show l.length = n
    rw [e2, h2]
  have HN : Hid (∀ x : Int, 0 ≤ Pl.cnt1 x) := Pl.cnt1_nn
  have HST := Lib.hid (Mm.MkAt.start (mk := Pl.mkInt) (cnt := Pl.cnt1) (k := k) ho hnd)
  clear ho hnd
  go_enter Try.func71, Try.ntmps71
  go_wp2
  go_loopw [1, 5] (fun kk i wr => ∃ j : Nat, j ≤ n ∧ i = .int .i64 j ∧ kk = .int .i64 (k + Mm.cntL Pl.cnt1 (l.take j)) ∧ Mm.MkAt Mm.int 3 Pl.mkInt Pl.cnt1 w l (.slice A n c) fp k j wr) (fun _ i _ => n - (intOf i).toNat)
  case atStart => exact ⟨0, Nat.zero_le _, rfl, by simp [Mm.cntL], HST.out⟩
  case round =>
    clear HST
    obtain ⟨j, hj, rfl, rfl, hm⟩ := hrel
    rename_i wr _
    by_cases hlt : j < n
    · obtain ⟨x, hx⟩ : ∃ x, l[j]? = some x := ⟨_, List.getElem?_eq_getElem (by have := hlen.out; omega)⟩
      have hc1 : Mm.cntL Pl.cnt1 (l.take (j + 1)) = Mm.cntL Pl.cnt1 (l.take j) + Pl.cnt1 x := Mm.cntL_succ hx
      have hc2 := Mm.cntL_take_le HN.out l (j + 1)
      have hc3 := Mm.cntL_nn HN.out (l.take j)
      have hc4 := HN.out x
      obtain ⟨kj, hkj⟩ : ∃ kj, k + Mm.cntL Pl.cnt1 (l.take j) = kj := ⟨_, rfl⟩
      rw [hkj]
      have hk0 : 1 ≤ kj := by omega
      have hk1 : kj + Pl.cnt1 x ≤ 1000000000000 := by omega
      have HX := Lib.hid (And.intro hx (And.intro hkj hc1))
      obtain ⟨hchg, fp0, ho0, hnd0, hsub0⟩ := hm
      have hx0 := Mm.half_get (mk := Pl.mkInt) (cnt := Pl.cnt1) (k := k) hx
      obtain ⟨g, rfl⟩ : ∃ g, A = some ⟨g, 0, none⟩ := by
        obtain ⟨_, _, hs, _⟩ := ho0
        obtain ⟨g, cap, he, _⟩ := hs.form (by rw [Mm.half_len]; have := hlen.out; omega)
        injection he with he
        exact ⟨g, he⟩
      have hgl := ho0.olt g ho0.mem_block
      have HC0 := Lib.hid hchg
      have HO0 := Lib.hid (And.intro ho0 (And.intro hnd0 (And.intro hsub0 hx0)))
      clear hchg hx hkj hc1 hc2 hc3 hx0
      have hcx : Pl.cnt1 x = 1 := rfl
      rw [hcx] at hk1
      have HCX := Lib.hid hcx
      clear hcx hc4
      have d0_0 := int_ocell HO0.out.1 HO0.out.2.1 HO0.out.2.2.2
      have e0_0 := HO0.out.1.frozen (j)
      have st0 := HO0.out.1.store HO0.out.2.1 (j := 0) (x' := kj) (u := .int .i64 (kj)) HO0.out.2.2.2 (by decide) (fun cs fx hh => by obtain ⟨rfl, _, rfl⟩ := hh; exact ⟨rfl, (by unfold Mm.I64; first | omega | (dsimp only; omega)), rfl⟩)
      rw [show j * (Mm.int).size + 0 = j from (by show j * 1 + 0 = j; omega)] at st0
      have HO0s := Lib.hid (And.intro st0 (And.intro HO0.out.2.1 (And.intro HO0.out.2.2.1 (show ((Mm.half Pl.mkInt Pl.cnt1 l k j).set j kj)[j]? = some kj from List.getElem?_set_self (by rw [Mm.half_len]; have := hlen.out; omega)))))
      have HC0s := Lib.hid (HC0.out.setCell (p := ⟨g, j, none⟩) (HO0.out.2.2.1 g HO0.out.1.mem_block) (.int .i64 (kj)))
      clear st0
      go_wp2
      go_roundw
      case rel =>
        refine ⟨j + 1, by omega, by go_num, ?_, ?_⟩
        · have h3 := HX.out.2.1; have h4 := HX.out.2.2; have h5 := HCX.out
          rw [h4]
          show Value.int .i64 _ = Value.int .i64 _
          congr 1
          omega
        · have h3 := HX.out.2.1
          refine ⟨HC0s.out, _, ?_, HO0s.out.2.1, HO0s.out.2.2.1⟩
          rw [← Mm.half_set HX.out.1, h3]
          exact HO0s.out.1
      case measure => simp [intOf]; omega
    · have HM := Lib.hid hm
      go_wp2
      go_ret
      exact HM.out.done (by have := hlen.out; omega)
set_option maxHeartbeats 2000000 in
theorem markStringS_c (l : List ByteArray) (A : Option Addr) (n c : Nat) (fp : List Nat) (k : Int) (w : World) (ho : Mm.SlOwn Mm.str 9 w l (.slice A n c) fp) (hnd : fp.Nodup) (h0 : 1 ≤ k) (h1 : k + Mm.cntL Pl.cnt1 l ≤ 1000000000000) :
    Calls Try.prog 106 #[.slice A n c, .int .i64 k] w (Mm.MkRet Mm.str 9 Pl.mkStr Pl.cnt1 w l (.slice A n c) fp k) := by
  have hn : n ≤ 9223372036854775807 := by
    obtain ⟨_, _, _, he, _, h2, h3, _⟩ := ho.form
    injection he with _ e2 e3
    subst e2; subst e3
    unfold maxLen at h3; omega
  have hlen : Hid (l.length = n) := by
    obtain ⟨_, _, _, he, h2, _⟩ := ho.form
    injection he with _ e2
    show l.length = n
    rw [e2, h2]
  have HN : Hid (∀ x : ByteArray, 0 ≤ Pl.cnt1 x) := Pl.cnt1_nn
  have HST := Lib.hid (Mm.MkAt.start (mk := Pl.mkStr) (cnt := Pl.cnt1) (k := k) ho hnd)
  clear ho hnd
  go_enter Try.func106, Try.ntmps106
  go_wp2
  go_loopw [1, 5] (fun kk i wr => ∃ j : Nat, j ≤ n ∧ i = .int .i64 j ∧ kk = .int .i64 (k + Mm.cntL Pl.cnt1 (l.take j)) ∧ Mm.MkAt Mm.str 9 Pl.mkStr Pl.cnt1 w l (.slice A n c) fp k j wr) (fun _ i _ => n - (intOf i).toNat)
  case atStart => exact ⟨0, Nat.zero_le _, rfl, by simp [Mm.cntL], HST.out⟩
  case round =>
    clear HST
    obtain ⟨j, hj, rfl, rfl, hm⟩ := hrel
    rename_i wr _
    by_cases hlt : j < n
    · obtain ⟨x, hx⟩ : ∃ x, l[j]? = some x := ⟨_, List.getElem?_eq_getElem (by have := hlen.out; omega)⟩
      have hc1 : Mm.cntL Pl.cnt1 (l.take (j + 1)) = Mm.cntL Pl.cnt1 (l.take j) + Pl.cnt1 x := Mm.cntL_succ hx
      have hc2 := Mm.cntL_take_le HN.out l (j + 1)
      have hc3 := Mm.cntL_nn HN.out (l.take j)
      have hc4 := HN.out x
      obtain ⟨kj, hkj⟩ : ∃ kj, k + Mm.cntL Pl.cnt1 (l.take j) = kj := ⟨_, rfl⟩
      rw [hkj]
      have hk0 : 1 ≤ kj := by omega
      have hk1 : kj + Pl.cnt1 x ≤ 1000000000000 := by omega
      have HX := Lib.hid (And.intro hx (And.intro hkj hc1))
      obtain ⟨hchg, fp0, ho0, hnd0, hsub0⟩ := hm
      have hx0 := Mm.half_get (mk := Pl.mkStr) (cnt := Pl.cnt1) (k := k) hx
      obtain ⟨g, rfl⟩ : ∃ g, A = some ⟨g, 0, none⟩ := by
        obtain ⟨_, _, hs, _⟩ := ho0
        obtain ⟨g, cap, he, _⟩ := hs.form (by rw [Mm.half_len]; have := hlen.out; omega)
        injection he with he
        exact ⟨g, he⟩
      have hgl := ho0.olt g ho0.mem_block
      have HC0 := Lib.hid hchg
      have HO0 := Lib.hid (And.intro ho0 (And.intro hnd0 (And.intro hsub0 hx0)))
      clear hchg hx hkj hc1 hc2 hc3 hx0
      have hcx : Pl.cnt1 x = 1 := rfl
      rw [hcx] at hk1
      have HCX := Lib.hid hcx
      clear hcx hc4
      have d0_0 := str_ocell HO0.out.1 HO0.out.2.1 HO0.out.2.2.2
      have e0_0 := HO0.out.1.frozen (j)
      go_wp2_with fail
      refine (markText_c _ _ (by omega) (by omega)).mono ?_
      rintro e v0 ⟨rfl, hb0⟩
      have HO0m := Lib.hid (And.intro (HO0.out.1.okeep (w' := v0) (fun b hb => hb0.block b (HO0.out.1.olt b hb))) HO0.out.2)
      have HC0m := Lib.hid (Mm.und_chg HC0.out hb0)
      clear hb0
      have dm0_0 := str_ocell HO0m.out.1 HO0m.out.2.1 HO0m.out.2.2.2
      have em0_0 := HO0m.out.1.frozen (j)
      have st0 := HO0m.out.1.store HO0m.out.2.1 (j := 0) (x' := (Pl.mkText (kj))) (u := .string (Pl.mkText (kj))) HO0m.out.2.2.2 (by decide) (fun cs fx hh => by obtain ⟨rfl, _, rfl⟩ := hh; exact ⟨rfl, (Pl.mkText_len _ (by first | omega | (dsimp only; omega)) (by first | omega | (dsimp only; omega))), rfl⟩)
      rw [show j * (Mm.str).size + 0 = j from (by show j * 1 + 0 = j; omega)] at st0
      have HO0s := Lib.hid (And.intro st0 (And.intro HO0m.out.2.1 (And.intro HO0m.out.2.2.1 (show ((Mm.half Pl.mkStr Pl.cnt1 l k j).set j (Pl.mkText (kj)))[j]? = some (Pl.mkText (kj)) from List.getElem?_set_self (by rw [Mm.half_len]; have := hlen.out; omega)))))
      have HC0s := Lib.hid (HC0m.out.setCell (p := ⟨g, j, none⟩) (HO0m.out.2.2.1 g HO0m.out.1.mem_block) (.string (Pl.mkText (kj))))
      clear st0
      go_wp2
      go_roundw
      case rel =>
        refine ⟨j + 1, by omega, by go_num, ?_, ?_⟩
        · have h3 := HX.out.2.1; have h4 := HX.out.2.2; have h5 := HCX.out
          rw [h4]
          show Value.int .i64 _ = Value.int .i64 _
          congr 1
          omega
        · have h3 := HX.out.2.1
          refine ⟨HC0s.out, _, ?_, HO0s.out.2.1, HO0s.out.2.2.1⟩
          rw [← Mm.half_set HX.out.1, h3]
          exact HO0s.out.1
      case measure => simp [intOf]; omega
    · have HM := Lib.hid hm
      go_wp2
      go_ret
      exact HM.out.done (by have := hlen.out; omega)
set_option maxHeartbeats 2000000 in
theorem markBoolS_c (l : List Bool) (A : Option Addr) (n c : Nat) (fp : List Nat) (k : Int) (w : World) (ho : Mm.SlOwn Mm.bool 4 w l (.slice A n c) fp) (hnd : fp.Nodup) (h0 : 1 ≤ k) (h1 : k + Mm.cntL Pl.cnt1 l ≤ 1000000000000) :
    Calls Try.prog 38 #[.slice A n c, .int .i64 k] w (Mm.MkRet Mm.bool 4 Pl.mkBool Pl.cnt1 w l (.slice A n c) fp k) := by
  have hn : n ≤ 9223372036854775807 := by
    obtain ⟨_, _, _, he, _, h2, h3, _⟩ := ho.form
    injection he with _ e2 e3
    subst e2; subst e3
    unfold maxLen at h3; omega
  have hlen : Hid (l.length = n) := by
    obtain ⟨_, _, _, he, h2, _⟩ := ho.form
    injection he with _ e2
    show l.length = n
    rw [e2, h2]
  have HN : Hid (∀ x : Bool, 0 ≤ Pl.cnt1 x) := Pl.cnt1_nn
  have HST := Lib.hid (Mm.MkAt.start (mk := Pl.mkBool) (cnt := Pl.cnt1) (k := k) ho hnd)
  clear ho hnd
  go_enter Try.func38, Try.ntmps38
  go_wp2
  go_loopw [1, 5] (fun kk i wr => ∃ j : Nat, j ≤ n ∧ i = .int .i64 j ∧ kk = .int .i64 (k + Mm.cntL Pl.cnt1 (l.take j)) ∧ Mm.MkAt Mm.bool 4 Pl.mkBool Pl.cnt1 w l (.slice A n c) fp k j wr) (fun _ i _ => n - (intOf i).toNat)
  case atStart => exact ⟨0, Nat.zero_le _, rfl, by simp [Mm.cntL], HST.out⟩
  case round =>
    clear HST
    obtain ⟨j, hj, rfl, rfl, hm⟩ := hrel
    rename_i wr _
    by_cases hlt : j < n
    · obtain ⟨x, hx⟩ : ∃ x, l[j]? = some x := ⟨_, List.getElem?_eq_getElem (by have := hlen.out; omega)⟩
      have hc1 : Mm.cntL Pl.cnt1 (l.take (j + 1)) = Mm.cntL Pl.cnt1 (l.take j) + Pl.cnt1 x := Mm.cntL_succ hx
      have hc2 := Mm.cntL_take_le HN.out l (j + 1)
      have hc3 := Mm.cntL_nn HN.out (l.take j)
      have hc4 := HN.out x
      obtain ⟨kj, hkj⟩ : ∃ kj, k + Mm.cntL Pl.cnt1 (l.take j) = kj := ⟨_, rfl⟩
      rw [hkj]
      have hk0 : 1 ≤ kj := by omega
      have hk1 : kj + Pl.cnt1 x ≤ 1000000000000 := by omega
      have HX := Lib.hid (And.intro hx (And.intro hkj hc1))
      obtain ⟨hchg, fp0, ho0, hnd0, hsub0⟩ := hm
      have hx0 := Mm.half_get (mk := Pl.mkBool) (cnt := Pl.cnt1) (k := k) hx
      obtain ⟨g, rfl⟩ : ∃ g, A = some ⟨g, 0, none⟩ := by
        obtain ⟨_, _, hs, _⟩ := ho0
        obtain ⟨g, cap, he, _⟩ := hs.form (by rw [Mm.half_len]; have := hlen.out; omega)
        injection he with he
        exact ⟨g, he⟩
      have hgl := ho0.olt g ho0.mem_block
      have HC0 := Lib.hid hchg
      have HO0 := Lib.hid (And.intro ho0 (And.intro hnd0 (And.intro hsub0 hx0)))
      clear hchg hx hkj hc1 hc2 hc3 hx0
      have hcx : Pl.cnt1 x = 1 := rfl
      rw [hcx] at hk1
      have HCX := Lib.hid hcx
      clear hcx hc4
      have d0_0 := bool_ocell HO0.out.1 HO0.out.2.1 HO0.out.2.2.2
      have e0_0 := HO0.out.1.frozen (j)
      have st0 := HO0.out.1.store HO0.out.2.1 (j := 0) (x' := (kj % 3 == 0)) (u := .bool (kj % 3 == 0)) HO0.out.2.2.2 (by decide) (fun cs fx hh => by obtain ⟨rfl, _, rfl⟩ := hh; exact ⟨rfl, trivial, rfl⟩)
      rw [show j * (Mm.bool).size + 0 = j from (by show j * 1 + 0 = j; omega)] at st0
      have HO0s := Lib.hid (And.intro st0 (And.intro HO0.out.2.1 (And.intro HO0.out.2.2.1 (show ((Mm.half Pl.mkBool Pl.cnt1 l k j).set j (kj % 3 == 0))[j]? = some (kj % 3 == 0) from List.getElem?_set_self (by rw [Mm.half_len]; have := hlen.out; omega)))))
      have HC0s := Lib.hid (HC0.out.setCell (p := ⟨g, j, none⟩) (HO0.out.2.2.1 g HO0.out.1.mem_block) (.bool (kj % 3 == 0)))
      clear st0
      go_wp2
      go_roundw
      case rel =>
        refine ⟨j + 1, by omega, by go_num, ?_, ?_⟩
        · have h3 := HX.out.2.1; have h4 := HX.out.2.2; have h5 := HCX.out
          rw [h4]
          show Value.int .i64 _ = Value.int .i64 _
          congr 1
          omega
        · have h3 := HX.out.2.1
          refine ⟨HC0s.out, _, ?_, HO0s.out.2.1, HO0s.out.2.2.1⟩
          rw [← Mm.half_set HX.out.1, h3]
          exact HO0s.out.1
      case measure => simp [intOf]; omega
    · have HM := Lib.hid hm
      go_wp2
      go_ret
      exact HM.out.done (by have := hlen.out; omega)
set_option maxHeartbeats 2000000 in
theorem markStringSS_c (l : List (List ByteArray)) (A : Option Addr) (n c : Nat) (fp : List Nat) (k : Int) (w : World) (ho : Mm.SlOwn strs 40 w l (.slice A n c) fp) (hnd : fp.Nodup) (h0 : 1 ≤ k) (h1 : k + Mm.cntL (Mm.cntL Pl.cnt1) l ≤ 1000000000000) :
    Calls Try.prog 70 #[.slice A n c, .int .i64 k] w (Mm.MkRet strs 40 (Mm.mkL Pl.mkStr Pl.cnt1) (Mm.cntL Pl.cnt1) w l (.slice A n c) fp k) := by
  have hn : n ≤ 9223372036854775807 := by
    obtain ⟨_, _, _, he, _, h2, h3, _⟩ := ho.form
    injection he with _ e2 e3
    subst e2; subst e3
    unfold maxLen at h3; omega
  have hlen : Hid (l.length = n) := by
    obtain ⟨_, _, _, he, h2, _⟩ := ho.form
    injection he with _ e2
    show l.length = n
    rw [e2, h2]
  have HN : Hid (∀ x : (List ByteArray), 0 ≤ (Mm.cntL Pl.cnt1) x) := Mm.cntL_nn (cnt := Pl.cnt1) (Pl.cnt1_nn)
  have HST := Lib.hid (Mm.MkAt.start (mk := (Mm.mkL Pl.mkStr Pl.cnt1)) (cnt := (Mm.cntL Pl.cnt1)) (k := k) ho hnd)
  clear ho hnd
  go_enter Try.func70, Try.ntmps70
  go_wp2
  go_loopw [1, 5] (fun kk i wr => ∃ j : Nat, j ≤ n ∧ i = .int .i64 j ∧ kk = .int .i64 (k + Mm.cntL (Mm.cntL Pl.cnt1) (l.take j)) ∧ Mm.MkAt strs 40 (Mm.mkL Pl.mkStr Pl.cnt1) (Mm.cntL Pl.cnt1) w l (.slice A n c) fp k j wr) (fun _ i _ => n - (intOf i).toNat)
  case atStart => exact ⟨0, Nat.zero_le _, rfl, by simp [Mm.cntL], HST.out⟩
  case round =>
    clear HST
    obtain ⟨j, hj, rfl, rfl, hm⟩ := hrel
    rename_i wr _
    by_cases hlt : j < n
    · obtain ⟨x, hx⟩ : ∃ x, l[j]? = some x := ⟨_, List.getElem?_eq_getElem (by have := hlen.out; omega)⟩
      have hc1 : Mm.cntL (Mm.cntL Pl.cnt1) (l.take (j + 1)) = Mm.cntL (Mm.cntL Pl.cnt1) (l.take j) + (Mm.cntL Pl.cnt1) x := Mm.cntL_succ hx
      have hc2 := Mm.cntL_take_le HN.out l (j + 1)
      have hc3 := Mm.cntL_nn HN.out (l.take j)
      have hc4 := HN.out x
      obtain ⟨kj, hkj⟩ : ∃ kj, k + Mm.cntL (Mm.cntL Pl.cnt1) (l.take j) = kj := ⟨_, rfl⟩
      rw [hkj]
      have hk0 : 1 ≤ kj := by omega
      have hk1 : kj + (Mm.cntL Pl.cnt1) x ≤ 1000000000000 := by omega
      have HX := Lib.hid (And.intro hx (And.intro hkj hc1))
      obtain ⟨hchg, fp0, ho0, hnd0, hsub0⟩ := hm
      have hx0 := Mm.half_get (mk := (Mm.mkL Pl.mkStr Pl.cnt1)) (cnt := (Mm.cntL Pl.cnt1)) (k := k) hx
      obtain ⟨g, rfl⟩ : ∃ g, A = some ⟨g, 0, none⟩ := by
        obtain ⟨_, _, hs, _⟩ := ho0
        obtain ⟨g, cap, he, _⟩ := hs.form (by rw [Mm.half_len]; have := hlen.out; omega)
        injection he with he
        exact ⟨g, he⟩
      have hgl := ho0.olt g ho0.mem_block
      have HC0 := Lib.hid hchg
      have HO0 := Lib.hid (And.intro ho0 (And.intro hnd0 (And.intro hsub0 hx0)))
      clear hchg hx hkj hc1 hc2 hc3 hx0
      have hcx : (Mm.cntL Pl.cnt1) x = (Mm.cntL Pl.cnt1) x := rfl
      have HCX := Lib.hid hcx
      clear hcx
      obtain ⟨P0, p0, q0, d0_0⟩ := strs_ocell HO0.out.1 HO0.out.2.1 HO0.out.2.2.2
      have e0_0 := HO0.out.1.frozen (j)
      obtain ⟨cs0, fx0, hox0, hnx0, hsx0, hcx0, hnext0⟩ := HO0.out.1.inner HO0.out.2.1 HO0.out.2.2.2
      obtain ⟨vv0, rfl, hoi0⟩ := hox0
      obtain ⟨Pi0, pi0, qi0, rfl, -⟩ := hoi0.form
      clear d0_0
      have dd0 := Mm.cell_sp (a' := j) (hcx0 0 _ rfl) (show j * (strs).size + 0 = j from (by show j * 1 + 0 = j; omega))
      have HI0 := Lib.hid (And.intro hoi0 (And.intro hnx0 (And.intro hsx0 hnext0)))
      clear hoi0 hnx0 hsx0 hnext0 hcx0
      go_wp2_with fail
      refine (markStringS_c x _ _ _ _ _ _ HI0.out.1 HI0.out.2.1 (by omega) (by omega)).mono ?_
      rintro e v0 ⟨rfl, hch0, fn0, ho0', hnd0', hsub0'⟩
      obtain ⟨fo0, hof0, hnf0, hsf0⟩ := HI0.out.2.2.2 v0 ((Mm.mkL Pl.mkStr Pl.cnt1) x kj) fn0 hch0 (⟨_, rfl, ho0'⟩) hnd0' hsub0'
      have HO0s := Lib.hid (And.intro hof0 (And.intro hnf0 (And.intro (fun b hb => HO0.out.2.2.1 b (hsf0 b hb)) (show ((Mm.half (Mm.mkL Pl.mkStr Pl.cnt1) (Mm.cntL Pl.cnt1) l k j).set j ((Mm.mkL Pl.mkStr Pl.cnt1) x kj))[j]? = some ((Mm.mkL Pl.mkStr Pl.cnt1) x kj) from List.getElem?_set_self (by rw [Mm.half_len]; have := hlen.out; omega)))))
      have HC0s := Lib.hid (HC0.out.trans (hch0.more (fun b hb => HO0.out.2.2.1 b (HI0.out.2.2.1 b hb).1)))
      clear hch0 ho0' hnd0' hsub0' hof0 hnf0 hsf0
      obtain ⟨Pn0, pn0, qn0, dn0_0⟩ := strs_ocell HO0s.out.1 HO0s.out.2.1 HO0s.out.2.2.2
      have en0_0 := HO0s.out.1.frozen (j)
      go_wp2
      go_roundw
      case rel =>
        refine ⟨j + 1, by omega, by go_num, ?_, ?_⟩
        · have h3 := HX.out.2.1; have h4 := HX.out.2.2; have h5 := HCX.out
          rw [h4]
          show Value.int .i64 _ = Value.int .i64 _
          congr 1
          omega
        · have h3 := HX.out.2.1
          refine ⟨HC0s.out, _, ?_, HO0s.out.2.1, HO0s.out.2.2.1⟩
          rw [← Mm.half_set HX.out.1, h3]
          exact HO0s.out.1
      case measure => simp [intOf]; omega
    · have HM := Lib.hid hm
      go_wp2
      go_ret
      exact HM.out.done (by have := hlen.out; omega)
set_option maxHeartbeats 2000000 in
theorem markToldS_c (l : List Told) (A : Option Addr) (n c : Nat) (fp : List Nat) (k : Int) (w : World) (ho : Mm.SlOwn rTold 52 w l (.slice A n c) fp) (hnd : fp.Nodup) (h0 : 1 ≤ k) (h1 : k + Mm.cntL Pl.cntTold l ≤ 1000000000000) :
    Calls Try.prog 73 #[.slice A n c, .int .i64 k] w (Mm.MkRet rTold 52 Pl.mkTold Pl.cntTold w l (.slice A n c) fp k) := by
  have hn : n ≤ 9223372036854775807 := by
    obtain ⟨_, _, _, he, _, h2, h3, _⟩ := ho.form
    injection he with _ e2 e3
    subst e2; subst e3
    unfold maxLen at h3; omega
  have hlen : Hid (l.length = n) := by
    obtain ⟨_, _, _, he, h2, _⟩ := ho.form
    injection he with _ e2
    show l.length = n
    rw [e2, h2]
  have HN : Hid (∀ x : Told, 0 ≤ Pl.cntTold x) := Pl.cntTold_nn
  have HST := Lib.hid (Mm.MkAt.start (mk := Pl.mkTold) (cnt := Pl.cntTold) (k := k) ho hnd)
  clear ho hnd
  go_enter Try.func73, Try.ntmps73
  go_wp2
  go_loopw [1, 5] (fun kk i wr => ∃ j : Nat, j ≤ n ∧ i = .int .i64 j ∧ kk = .int .i64 (k + Mm.cntL Pl.cntTold (l.take j)) ∧ Mm.MkAt rTold 52 Pl.mkTold Pl.cntTold w l (.slice A n c) fp k j wr) (fun _ i _ => n - (intOf i).toNat)
  case atStart => exact ⟨0, Nat.zero_le _, rfl, by simp [Mm.cntL], HST.out⟩
  case round =>
    clear HST
    obtain ⟨j, hj, rfl, rfl, hm⟩ := hrel
    rename_i wr _
    by_cases hlt : j < n
    · obtain ⟨x, hx⟩ : ∃ x, l[j]? = some x := ⟨_, List.getElem?_eq_getElem (by have := hlen.out; omega)⟩
      have hc1 : Mm.cntL Pl.cntTold (l.take (j + 1)) = Mm.cntL Pl.cntTold (l.take j) + Pl.cntTold x := Mm.cntL_succ hx
      have hc2 := Mm.cntL_take_le HN.out l (j + 1)
      have hc3 := Mm.cntL_nn HN.out (l.take j)
      have hc4 := HN.out x
      obtain ⟨kj, hkj⟩ : ∃ kj, k + Mm.cntL Pl.cntTold (l.take j) = kj := ⟨_, rfl⟩
      rw [hkj]
      have hk0 : 1 ≤ kj := by omega
      have hk1 : kj + Pl.cntTold x ≤ 1000000000000 := by omega
      have HX := Lib.hid (And.intro hx (And.intro hkj hc1))
      obtain ⟨hchg, fp0, ho0, hnd0, hsub0⟩ := hm
      have hx0 := Mm.half_get (mk := Pl.mkTold) (cnt := Pl.cntTold) (k := k) hx
      obtain ⟨g, rfl⟩ : ∃ g, A = some ⟨g, 0, none⟩ := by
        obtain ⟨_, _, hs, _⟩ := ho0
        obtain ⟨g, cap, he, _⟩ := hs.form (by rw [Mm.half_len]; have := hlen.out; omega)
        injection he with he
        exact ⟨g, he⟩
      have hgl := ho0.olt g ho0.mem_block
      have HC0 := Lib.hid hchg
      have HO0 := Lib.hid (And.intro ho0 (And.intro hnd0 (And.intro hsub0 hx0)))
      clear hchg hx hkj hc1 hc2 hc3 hx0
      have hcx : Pl.cntTold x = 1 + 1 + 1 := rfl
      rw [hcx] at hk1 hc4
      have HCX := Lib.hid hcx
      clear hcx hc4
      obtain ⟨d0_0, d0_1, d0_2⟩ := rTold_ocell HO0.out.1 HO0.out.2.1 HO0.out.2.2.2
      have e0_0 := HO0.out.1.frozen (j * 3)
      have e0_1 := HO0.out.1.frozen (j * 3 + 1)
      have e0_2 := HO0.out.1.frozen (j * 3 + 2)
      have st0 := HO0.out.1.store HO0.out.2.1 (j := 0) (x' := ⟨kj, x.No, x.Text⟩) (u := .int .i64 (kj)) HO0.out.2.2.2 (by decide) (fun cs fx hh => by obtain ⟨rfl, ⟨g0, g1, g2⟩, rfl⟩ := hh; exact ⟨rfl, ⟨(by unfold Mm.I64; first | omega | (dsimp only; omega)), g1, g2⟩, rfl⟩)
      have HO0s := Lib.hid (And.intro st0 (And.intro HO0.out.2.1 (And.intro HO0.out.2.2.1 (show ((Mm.half Pl.mkTold Pl.cntTold l k j).set j ⟨kj, x.No, x.Text⟩)[j]? = some ⟨kj, x.No, x.Text⟩ from List.getElem?_set_self (by rw [Mm.half_len]; have := hlen.out; omega)))))
      have HC0s := Lib.hid (HC0.out.setCell (p := ⟨g, j * 3, none⟩) (HO0.out.2.2.1 g HO0.out.1.mem_block) (.int .i64 (kj)))
      clear st0
      have st1 := HO0s.out.1.store HO0s.out.2.1 (j := 1) (x' := ⟨kj, (kj + 1), x.Text⟩) (u := .int .i64 ((kj + 1))) HO0s.out.2.2.2 (by decide) (fun cs fx hh => by obtain ⟨rfl, ⟨g0, g1, g2⟩, rfl⟩ := hh; exact ⟨rfl, ⟨g0, (by unfold Mm.I64; first | omega | (dsimp only; omega)), g2⟩, rfl⟩)
      rw [List.set_set] at st1
      have HO1s := Lib.hid (And.intro st1 (And.intro HO0s.out.2.1 (And.intro HO0s.out.2.2.1 (show ((Mm.half Pl.mkTold Pl.cntTold l k j).set j ⟨kj, (kj + 1), x.Text⟩)[j]? = some ⟨kj, (kj + 1), x.Text⟩ from List.getElem?_set_self (by rw [Mm.half_len]; have := hlen.out; omega)))))
      have HC1s := Lib.hid (HC0s.out.setCell (p := ⟨g, j * 3 + 1, none⟩) (HO0s.out.2.2.1 g HO0s.out.1.mem_block) (.int .i64 ((kj + 1))))
      clear st1
      go_wp2_with fail
      refine (markText_c _ _ (by omega) (by omega)).mono ?_
      rintro e v2 ⟨rfl, hb2⟩
      have HO2m := Lib.hid (And.intro (HO1s.out.1.okeep (w' := v2) (fun b hb => hb2.block b (HO1s.out.1.olt b hb))) HO1s.out.2)
      have HC2m := Lib.hid (Mm.und_chg HC1s.out hb2)
      clear hb2
      obtain ⟨dm2_0, dm2_1, dm2_2⟩ := rTold_ocell HO2m.out.1 HO2m.out.2.1 HO2m.out.2.2.2
      have em2_0 := HO2m.out.1.frozen (j * 3)
      have em2_1 := HO2m.out.1.frozen (j * 3 + 1)
      have em2_2 := HO2m.out.1.frozen (j * 3 + 2)
      have st2 := HO2m.out.1.store HO2m.out.2.1 (j := 2) (x' := ⟨kj, (kj + 1), (Pl.mkText (((kj + 1) + 1)))⟩) (u := .string (Pl.mkText (((kj + 1) + 1)))) HO2m.out.2.2.2 (by decide) (fun cs fx hh => by obtain ⟨rfl, ⟨g0, g1, g2⟩, rfl⟩ := hh; exact ⟨rfl, ⟨g0, g1, (Pl.mkText_len _ (by first | omega | (dsimp only; omega)) (by first | omega | (dsimp only; omega)))⟩, rfl⟩)
      rw [List.set_set] at st2
      have HO2s := Lib.hid (And.intro st2 (And.intro HO2m.out.2.1 (And.intro HO2m.out.2.2.1 (show ((Mm.half Pl.mkTold Pl.cntTold l k j).set j ⟨kj, (kj + 1), (Pl.mkText (((kj + 1) + 1)))⟩)[j]? = some ⟨kj, (kj + 1), (Pl.mkText (((kj + 1) + 1)))⟩ from List.getElem?_set_self (by rw [Mm.half_len]; have := hlen.out; omega)))))
      have HC2s := Lib.hid (HC2m.out.setCell (p := ⟨g, j * 3 + 2, none⟩) (HO2m.out.2.2.1 g HO2m.out.1.mem_block) (.string (Pl.mkText (((kj + 1) + 1)))))
      clear st2
      go_wp2
      go_roundw
      case rel =>
        refine ⟨j + 1, by omega, by go_num, ?_, ?_⟩
        · have h3 := HX.out.2.1; have h4 := HX.out.2.2; have h5 := HCX.out
          rw [h4]
          show Value.int .i64 _ = Value.int .i64 _
          congr 1
          omega
        · have h3 := HX.out.2.1
          refine ⟨HC2s.out, _, ?_, HO2s.out.2.1, HO2s.out.2.2.1⟩
          rw [← Mm.half_set HX.out.1, h3]
          exact HO2s.out.1
      case measure => simp [intOf]; omega
    · have HM := Lib.hid hm
      go_wp2
      go_ret
      exact HM.out.done (by have := hlen.out; omega)
set_option maxHeartbeats 2000000 in
theorem markNoteS_c (l : List Note) (A : Option Addr) (n c : Nat) (fp : List Nat) (k : Int) (w : World) (ho : Mm.SlOwn rNote 94 w l (.slice A n c) fp) (hnd : fp.Nodup) (h0 : 1 ≤ k) (h1 : k + Mm.cntL Pl.cntNote l ≤ 1000000000000) :
    Calls Try.prog 72 #[.slice A n c, .int .i64 k] w (Mm.MkRet rNote 94 Pl.mkNote Pl.cntNote w l (.slice A n c) fp k) := by
  have hn : n ≤ 9223372036854775807 := by
    obtain ⟨_, _, _, he, _, h2, h3, _⟩ := ho.form
    injection he with _ e2 e3
    subst e2; subst e3
    unfold maxLen at h3; omega
  have hlen : Hid (l.length = n) := by
    obtain ⟨_, _, _, he, h2, _⟩ := ho.form
    injection he with _ e2
    show l.length = n
    rw [e2, h2]
  have HN : Hid (∀ x : Note, 0 ≤ Pl.cntNote x) := Pl.cntNote_nn
  have HST := Lib.hid (Mm.MkAt.start (mk := Pl.mkNote) (cnt := Pl.cntNote) (k := k) ho hnd)
  clear ho hnd
  go_enter Try.func72, Try.ntmps72
  go_wp2
  go_loopw [1, 5] (fun kk i wr => ∃ j : Nat, j ≤ n ∧ i = .int .i64 j ∧ kk = .int .i64 (k + Mm.cntL Pl.cntNote (l.take j)) ∧ Mm.MkAt rNote 94 Pl.mkNote Pl.cntNote w l (.slice A n c) fp k j wr) (fun _ i _ => n - (intOf i).toNat)
  case atStart => exact ⟨0, Nat.zero_le _, rfl, by simp [Mm.cntL], HST.out⟩
  case round =>
    clear HST
    obtain ⟨j, hj, rfl, rfl, hm⟩ := hrel
    rename_i wr _
    by_cases hlt : j < n
    · obtain ⟨x, hx⟩ : ∃ x, l[j]? = some x := ⟨_, List.getElem?_eq_getElem (by have := hlen.out; omega)⟩
      have hc1 : Mm.cntL Pl.cntNote (l.take (j + 1)) = Mm.cntL Pl.cntNote (l.take j) + Pl.cntNote x := Mm.cntL_succ hx
      have hc2 := Mm.cntL_take_le HN.out l (j + 1)
      have hc3 := Mm.cntL_nn HN.out (l.take j)
      have hc4 := HN.out x
      obtain ⟨kj, hkj⟩ : ∃ kj, k + Mm.cntL Pl.cntNote (l.take j) = kj := ⟨_, rfl⟩
      rw [hkj]
      have hk0 : 1 ≤ kj := by omega
      have hk1 : kj + Pl.cntNote x ≤ 1000000000000 := by omega
      have HX := Lib.hid (And.intro hx (And.intro hkj hc1))
      obtain ⟨hchg, fp0, ho0, hnd0, hsub0⟩ := hm
      have hx0 := Mm.half_get (mk := Pl.mkNote) (cnt := Pl.cntNote) (k := k) hx
      obtain ⟨g, rfl⟩ : ∃ g, A = some ⟨g, 0, none⟩ := by
        obtain ⟨_, _, hs, _⟩ := ho0
        obtain ⟨g, cap, he, _⟩ := hs.form (by rw [Mm.half_len]; have := hlen.out; omega)
        injection he with he
        exact ⟨g, he⟩
      have hgl := ho0.olt g ho0.mem_block
      have HC0 := Lib.hid hchg
      have HO0 := Lib.hid (And.intro ho0 (And.intro hnd0 (And.intro hsub0 hx0)))
      clear hchg hx hkj hc1 hc2 hc3 hx0
      have hcx : Pl.cntNote x = 1 + 1 + 1 + 1 := rfl
      rw [hcx] at hk1 hc4
      have HCX := Lib.hid hcx
      clear hcx hc4
      obtain ⟨d0_0, d0_1, d0_2, d0_3⟩ := rNote_ocell HO0.out.1 HO0.out.2.1 HO0.out.2.2.2
      have e0_0 := HO0.out.1.frozen (j * 4)
      have e0_1 := HO0.out.1.frozen (j * 4 + 1)
      have e0_2 := HO0.out.1.frozen (j * 4 + 2)
      have e0_3 := HO0.out.1.frozen (j * 4 + 3)
      have st0 := HO0.out.1.store HO0.out.2.1 (j := 0) (x' := ⟨(kj % 3 == 0), ⟨x.What.Who, x.What.No, x.What.Text⟩⟩) (u := .bool (kj % 3 == 0)) HO0.out.2.2.2 (by decide) (fun cs fx hh => by obtain ⟨rfl, ⟨g0, g1, g2⟩, rfl⟩ := hh; exact ⟨rfl, ⟨g0, g1, g2⟩, rfl⟩)
      have HO0s := Lib.hid (And.intro st0 (And.intro HO0.out.2.1 (And.intro HO0.out.2.2.1 (show ((Mm.half Pl.mkNote Pl.cntNote l k j).set j ⟨(kj % 3 == 0), ⟨x.What.Who, x.What.No, x.What.Text⟩⟩)[j]? = some ⟨(kj % 3 == 0), ⟨x.What.Who, x.What.No, x.What.Text⟩⟩ from List.getElem?_set_self (by rw [Mm.half_len]; have := hlen.out; omega)))))
      have HC0s := Lib.hid (HC0.out.setCell (p := ⟨g, j * 4, none⟩) (HO0.out.2.2.1 g HO0.out.1.mem_block) (.bool (kj % 3 == 0)))
      clear st0
      have st1 := HO0s.out.1.store HO0s.out.2.1 (j := 1) (x' := ⟨(kj % 3 == 0), ⟨(kj + 1), x.What.No, x.What.Text⟩⟩) (u := .int .i64 ((kj + 1))) HO0s.out.2.2.2 (by decide) (fun cs fx hh => by obtain ⟨rfl, ⟨g0, g1, g2⟩, rfl⟩ := hh; exact ⟨rfl, ⟨(by unfold Mm.I64; first | omega | (dsimp only; omega)), g1, g2⟩, rfl⟩)
      rw [List.set_set] at st1
      have HO1s := Lib.hid (And.intro st1 (And.intro HO0s.out.2.1 (And.intro HO0s.out.2.2.1 (show ((Mm.half Pl.mkNote Pl.cntNote l k j).set j ⟨(kj % 3 == 0), ⟨(kj + 1), x.What.No, x.What.Text⟩⟩)[j]? = some ⟨(kj % 3 == 0), ⟨(kj + 1), x.What.No, x.What.Text⟩⟩ from List.getElem?_set_self (by rw [Mm.half_len]; have := hlen.out; omega)))))
      have HC1s := Lib.hid (HC0s.out.setCell (p := ⟨g, j * 4 + 1, none⟩) (HO0s.out.2.2.1 g HO0s.out.1.mem_block) (.int .i64 ((kj + 1))))
      clear st1
      have st2 := HO1s.out.1.store HO1s.out.2.1 (j := 2) (x' := ⟨(kj % 3 == 0), ⟨(kj + 1), ((kj + 1) + 1), x.What.Text⟩⟩) (u := .int .i64 (((kj + 1) + 1))) HO1s.out.2.2.2 (by decide) (fun cs fx hh => by obtain ⟨rfl, ⟨g0, g1, g2⟩, rfl⟩ := hh; exact ⟨rfl, ⟨g0, (by unfold Mm.I64; first | omega | (dsimp only; omega)), g2⟩, rfl⟩)
      rw [List.set_set] at st2
      have HO2s := Lib.hid (And.intro st2 (And.intro HO1s.out.2.1 (And.intro HO1s.out.2.2.1 (show ((Mm.half Pl.mkNote Pl.cntNote l k j).set j ⟨(kj % 3 == 0), ⟨(kj + 1), ((kj + 1) + 1), x.What.Text⟩⟩)[j]? = some ⟨(kj % 3 == 0), ⟨(kj + 1), ((kj + 1) + 1), x.What.Text⟩⟩ from List.getElem?_set_self (by rw [Mm.half_len]; have := hlen.out; omega)))))
      have HC2s := Lib.hid (HC1s.out.setCell (p := ⟨g, j * 4 + 2, none⟩) (HO1s.out.2.2.1 g HO1s.out.1.mem_block) (.int .i64 (((kj + 1) + 1))))
      clear st2
      go_wp2_with fail
      refine (markText_c _ _ (by omega) (by omega)).mono ?_
      rintro e v3 ⟨rfl, hb3⟩
      have HO3m := Lib.hid (And.intro (HO2s.out.1.okeep (w' := v3) (fun b hb => hb3.block b (HO2s.out.1.olt b hb))) HO2s.out.2)
      have HC3m := Lib.hid (Mm.und_chg HC2s.out hb3)
      clear hb3
      obtain ⟨dm3_0, dm3_1, dm3_2, dm3_3⟩ := rNote_ocell HO3m.out.1 HO3m.out.2.1 HO3m.out.2.2.2
      have em3_0 := HO3m.out.1.frozen (j * 4)
      have em3_1 := HO3m.out.1.frozen (j * 4 + 1)
      have em3_2 := HO3m.out.1.frozen (j * 4 + 2)
      have em3_3 := HO3m.out.1.frozen (j * 4 + 3)
      have st3 := HO3m.out.1.store HO3m.out.2.1 (j := 3) (x' := ⟨(kj % 3 == 0), ⟨(kj + 1), ((kj + 1) + 1), (Pl.mkText ((((kj + 1) + 1) + 1)))⟩⟩) (u := .string (Pl.mkText ((((kj + 1) + 1) + 1)))) HO3m.out.2.2.2 (by decide) (fun cs fx hh => by obtain ⟨rfl, ⟨g0, g1, g2⟩, rfl⟩ := hh; exact ⟨rfl, ⟨g0, g1, (Pl.mkText_len _ (by first | omega | (dsimp only; omega)) (by first | omega | (dsimp only; omega)))⟩, rfl⟩)
      rw [List.set_set] at st3
      have HO3s := Lib.hid (And.intro st3 (And.intro HO3m.out.2.1 (And.intro HO3m.out.2.2.1 (show ((Mm.half Pl.mkNote Pl.cntNote l k j).set j ⟨(kj % 3 == 0), ⟨(kj + 1), ((kj + 1) + 1), (Pl.mkText ((((kj + 1) + 1) + 1)))⟩⟩)[j]? = some ⟨(kj % 3 == 0), ⟨(kj + 1), ((kj + 1) + 1), (Pl.mkText ((((kj + 1) + 1) + 1)))⟩⟩ from List.getElem?_set_self (by rw [Mm.half_len]; have := hlen.out; omega)))))
      have HC3s := Lib.hid (HC3m.out.setCell (p := ⟨g, j * 4 + 3, none⟩) (HO3m.out.2.2.1 g HO3m.out.1.mem_block) (.string (Pl.mkText ((((kj + 1) + 1) + 1)))))
      clear st3
      go_wp2
      go_roundw
      case rel =>
        refine ⟨j + 1, by omega, by go_num, ?_, ?_⟩
        · have h3 := HX.out.2.1; have h4 := HX.out.2.2; have h5 := HCX.out
          rw [h4]
          show Value.int .i64 _ = Value.int .i64 _
          congr 1
          omega
        · have h3 := HX.out.2.1
          refine ⟨HC3s.out, _, ?_, HO3s.out.2.1, HO3s.out.2.2.1⟩
          rw [← Mm.half_set HX.out.1, h3]
          exact HO3s.out.1
      case measure => simp [intOf]; omega
    · have HM := Lib.hid hm
      go_wp2
      go_ret
      exact HM.out.done (by have := hlen.out; omega)
set_option maxHeartbeats 2000000 in
theorem markTellStepS_c (l : List TellStep) (A : Option Addr) (n c : Nat) (fp : List Nat) (k : Int) (w : World) (ho : Mm.SlOwn rTellStep 46 w l (.slice A n c) fp) (hnd : fp.Nodup) (h0 : 1 ≤ k) (h1 : k + Mm.cntL Pl.cntTellStep l ≤ 1000000000000) :
    Calls Try.prog 36 #[.slice A n c, .int .i64 k] w (Mm.MkRet rTellStep 46 Pl.mkTellStep Pl.cntTellStep w l (.slice A n c) fp k) := by
  have hn : n ≤ 9223372036854775807 := by
    obtain ⟨_, _, _, he, _, h2, h3, _⟩ := ho.form
    injection he with _ e2 e3
    subst e2; subst e3
    unfold maxLen at h3; omega
  have hlen : Hid (l.length = n) := by
    obtain ⟨_, _, _, he, h2, _⟩ := ho.form
    injection he with _ e2
    show l.length = n
    rw [e2, h2]
  have HN : Hid (∀ x : TellStep, 0 ≤ Pl.cntTellStep x) := Pl.cntTellStep_nn
  have HST := Lib.hid (Mm.MkAt.start (mk := Pl.mkTellStep) (cnt := Pl.cntTellStep) (k := k) ho hnd)
  clear ho hnd
  go_enter Try.func36, Try.ntmps36
  go_wp2
  go_loopw [1, 5] (fun kk i wr => ∃ j : Nat, j ≤ n ∧ i = .int .i64 j ∧ kk = .int .i64 (k + Mm.cntL Pl.cntTellStep (l.take j)) ∧ Mm.MkAt rTellStep 46 Pl.mkTellStep Pl.cntTellStep w l (.slice A n c) fp k j wr) (fun _ i _ => n - (intOf i).toNat)
  case atStart => exact ⟨0, Nat.zero_le _, rfl, by simp [Mm.cntL], HST.out⟩
  case round =>
    clear HST
    obtain ⟨j, hj, rfl, rfl, hm⟩ := hrel
    rename_i wr _
    by_cases hlt : j < n
    · obtain ⟨x, hx⟩ : ∃ x, l[j]? = some x := ⟨_, List.getElem?_eq_getElem (by have := hlen.out; omega)⟩
      have hc1 : Mm.cntL Pl.cntTellStep (l.take (j + 1)) = Mm.cntL Pl.cntTellStep (l.take j) + Pl.cntTellStep x := Mm.cntL_succ hx
      have hc2 := Mm.cntL_take_le HN.out l (j + 1)
      have hc3 := Mm.cntL_nn HN.out (l.take j)
      have hc4 := HN.out x
      obtain ⟨kj, hkj⟩ : ∃ kj, k + Mm.cntL Pl.cntTellStep (l.take j) = kj := ⟨_, rfl⟩
      rw [hkj]
      have hk0 : 1 ≤ kj := by omega
      have hk1 : kj + Pl.cntTellStep x ≤ 1000000000000 := by omega
      have HX := Lib.hid (And.intro hx (And.intro hkj hc1))
      obtain ⟨hchg, fp0, ho0, hnd0, hsub0⟩ := hm
      have hx0 := Mm.half_get (mk := Pl.mkTellStep) (cnt := Pl.cntTellStep) (k := k) hx
      obtain ⟨g, rfl⟩ : ∃ g, A = some ⟨g, 0, none⟩ := by
        obtain ⟨_, _, hs, _⟩ := ho0
        obtain ⟨g, cap, he, _⟩ := hs.form (by rw [Mm.half_len]; have := hlen.out; omega)
        injection he with he
        exact ⟨g, he⟩
      have hgl := ho0.olt g ho0.mem_block
      have HC0 := Lib.hid hchg
      have HO0 := Lib.hid (And.intro ho0 (And.intro hnd0 (And.intro hsub0 hx0)))
      clear hchg hx hkj hc1 hc2 hc3 hx0
      have hcx : Pl.cntTellStep x = 1 + 1 + 1 := rfl
      rw [hcx] at hk1 hc4
      have HCX := Lib.hid hcx
      clear hcx hc4
      obtain ⟨d0_0, d0_1, d0_2⟩ := rTellStep_ocell HO0.out.1 HO0.out.2.1 HO0.out.2.2.2
      have e0_0 := HO0.out.1.frozen (j * 3)
      have e0_1 := HO0.out.1.frozen (j * 3 + 1)
      have e0_2 := HO0.out.1.frozen (j * 3 + 2)
      have st0 := HO0.out.1.store HO0.out.2.1 (j := 0) (x' := ⟨kj, x.K, x.Text⟩) (u := .int .i64 (kj)) HO0.out.2.2.2 (by decide) (fun cs fx hh => by obtain ⟨rfl, ⟨g0, g1, g2⟩, rfl⟩ := hh; exact ⟨rfl, ⟨(by unfold Mm.I64; first | omega | (dsimp only; omega)), g1, g2⟩, rfl⟩)
      have HO0s := Lib.hid (And.intro st0 (And.intro HO0.out.2.1 (And.intro HO0.out.2.2.1 (show ((Mm.half Pl.mkTellStep Pl.cntTellStep l k j).set j ⟨kj, x.K, x.Text⟩)[j]? = some ⟨kj, x.K, x.Text⟩ from List.getElem?_set_self (by rw [Mm.half_len]; have := hlen.out; omega)))))
      have HC0s := Lib.hid (HC0.out.setCell (p := ⟨g, j * 3, none⟩) (HO0.out.2.2.1 g HO0.out.1.mem_block) (.int .i64 (kj)))
      clear st0
      have st1 := HO0s.out.1.store HO0s.out.2.1 (j := 1) (x' := ⟨kj, (kj + 1), x.Text⟩) (u := .int .i64 ((kj + 1))) HO0s.out.2.2.2 (by decide) (fun cs fx hh => by obtain ⟨rfl, ⟨g0, g1, g2⟩, rfl⟩ := hh; exact ⟨rfl, ⟨g0, (by unfold Mm.I64; first | omega | (dsimp only; omega)), g2⟩, rfl⟩)
      rw [List.set_set] at st1
      have HO1s := Lib.hid (And.intro st1 (And.intro HO0s.out.2.1 (And.intro HO0s.out.2.2.1 (show ((Mm.half Pl.mkTellStep Pl.cntTellStep l k j).set j ⟨kj, (kj + 1), x.Text⟩)[j]? = some ⟨kj, (kj + 1), x.Text⟩ from List.getElem?_set_self (by rw [Mm.half_len]; have := hlen.out; omega)))))
      have HC1s := Lib.hid (HC0s.out.setCell (p := ⟨g, j * 3 + 1, none⟩) (HO0s.out.2.2.1 g HO0s.out.1.mem_block) (.int .i64 ((kj + 1))))
      clear st1
      go_wp2_with fail
      refine (markText_c _ _ (by omega) (by omega)).mono ?_
      rintro e v2 ⟨rfl, hb2⟩
      have HO2m := Lib.hid (And.intro (HO1s.out.1.okeep (w' := v2) (fun b hb => hb2.block b (HO1s.out.1.olt b hb))) HO1s.out.2)
      have HC2m := Lib.hid (Mm.und_chg HC1s.out hb2)
      clear hb2
      obtain ⟨dm2_0, dm2_1, dm2_2⟩ := rTellStep_ocell HO2m.out.1 HO2m.out.2.1 HO2m.out.2.2.2
      have em2_0 := HO2m.out.1.frozen (j * 3)
      have em2_1 := HO2m.out.1.frozen (j * 3 + 1)
      have em2_2 := HO2m.out.1.frozen (j * 3 + 2)
      have st2 := HO2m.out.1.store HO2m.out.2.1 (j := 2) (x' := ⟨kj, (kj + 1), (Pl.mkText (((kj + 1) + 1)))⟩) (u := .string (Pl.mkText (((kj + 1) + 1)))) HO2m.out.2.2.2 (by decide) (fun cs fx hh => by obtain ⟨rfl, ⟨g0, g1, g2⟩, rfl⟩ := hh; exact ⟨rfl, ⟨g0, g1, (Pl.mkText_len _ (by first | omega | (dsimp only; omega)) (by first | omega | (dsimp only; omega)))⟩, rfl⟩)
      rw [List.set_set] at st2
      have HO2s := Lib.hid (And.intro st2 (And.intro HO2m.out.2.1 (And.intro HO2m.out.2.2.1 (show ((Mm.half Pl.mkTellStep Pl.cntTellStep l k j).set j ⟨kj, (kj + 1), (Pl.mkText (((kj + 1) + 1)))⟩)[j]? = some ⟨kj, (kj + 1), (Pl.mkText (((kj + 1) + 1)))⟩ from List.getElem?_set_self (by rw [Mm.half_len]; have := hlen.out; omega)))))
      have HC2s := Lib.hid (HC2m.out.setCell (p := ⟨g, j * 3 + 2, none⟩) (HO2m.out.2.2.1 g HO2m.out.1.mem_block) (.string (Pl.mkText (((kj + 1) + 1)))))
      clear st2
      go_wp2
      go_roundw
      case rel =>
        refine ⟨j + 1, by omega, by go_num, ?_, ?_⟩
        · have h3 := HX.out.2.1; have h4 := HX.out.2.2; have h5 := HCX.out
          rw [h4]
          show Value.int .i64 _ = Value.int .i64 _
          congr 1
          omega
        · have h3 := HX.out.2.1
          refine ⟨HC2s.out, _, ?_, HO2s.out.2.1, HO2s.out.2.2.1⟩
          rw [← Mm.half_set HX.out.1, h3]
          exact HO2s.out.1
      case measure => simp [intOf]; omega
    · have HM := Lib.hid hm
      go_wp2
      go_ret
      exact HM.out.done (by have := hlen.out; omega)
end Go.Proofs.Ytaepohocabealaa
