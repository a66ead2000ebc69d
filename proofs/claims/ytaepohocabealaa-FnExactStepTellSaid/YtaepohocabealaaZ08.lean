/-
  Joined texts, in build order: Hm, Hn, Hh, LwStepTell, Os, LawStepTell. Each part says what it proves; no conditions beyond those that a part names.
-/
import Derived.Test.YtaepohocabealaaZ01
import Derived.Test.YtaepohocabealaaZ02
import Derived.Test.YtaepohocabealaaZ03
import Derived.Test.YtaepohocabealaaZ04
import Derived.Test.YtaepohocabealaaZ05
import Derived.Test.YtaepohocabealaaZ06
import Derived.Test.YtaepohocabealaaZ07
import Derived.Lib.Hide
import Derived.Deep.DeepFit
import Derived.Test.YtaepohocabealaaRows
import Derived.WalkKit
import Derived.ProofKit
import Derived.OpenShut
import Derived.ShutString
import Derived.ChangeOld
import Derived.Below
/-
  The laws' own markings of things that are owned. No conditions.
-/
namespace Go.Proofs.Ytaepohocabealaa
open Go.RowKit
attribute [local go_sem] und_cell
set_option maxHeartbeats 2000000 in
theorem markIntS_c (l : List Int) (A : Option Addr) (n c : Nat) (fp : List Nat) (k : Int) (w : World) (ho : Mm.SlOwn Mm.int 3 w l (.slice A n c) fp) (hnd : fp.Nodup) (h0 : 1 ≤ k) (h1 : k + Mm.cntL Pl.cnt1 l ≤ 1000000000000) :
    Calls Try.prog 71 #[.slice A n c, .int .i64 k] w (Mm.MkRet Mm.int 3 Pl.mkInt Pl.cnt1 w l (.slice A n c) fp k) := by
  have hn : n ≤ 9223372036854775807 := by
    obtain ⟨_, _, _, he, _, h2, h3, _⟩ := ho.form
    injection he with _ e2 e3
    subst e2; subst e3
    unfold maxLen at h3; omega
  have hlen : Hid (l.length = n) := by
    obtain ⟨_, _, _, he, h2, _⟩ := ho.form
    injection he with _ e2
    show l.length = n
    rw [e2, h2]
  have HN : Hid (∀ x : Int, 0 ≤ Pl.cnt1 x) := Pl.cnt1_nn
  have HST := Lib.hid (Mm.MkAt.start (mk := Pl.mkInt) (cnt := Pl.cnt1) (k := k) ho hnd)
  clear ho hnd
  go_enter Try.func71, Try.ntmps71
  go_wp2
  go_loopw [1, 5] (fun kk i wr => ∃ j : Nat, j ≤ n ∧ i = .int .i64 j ∧ kk = .int .i64 (k + Mm.cntL Pl.cnt1 (l.take j)) ∧ Mm.MkAt Mm.int 3 Pl.mkInt Pl.cnt1 w l (.slice A n c) fp k j wr) (fun _ i _ => n - (intOf i).toNat)
  case atStart => exact ⟨0, Nat.zero_le _, rfl, by simp [Mm.cntL], HST.out⟩
  case round =>
    clear HST
    obtain ⟨j, hj, rfl, rfl, hm⟩ := hrel
    rename_i wr _
    by_cases hlt : j < n
    · obtain ⟨x, hx⟩ : ∃ x, l[j]? = some x := ⟨_, List.getElem?_eq_getElem (by have := hlen.out; omega)⟩
      have hc1 : Mm.cntL Pl.cnt1 (l.take (j + 1)) = Mm.cntL Pl.cnt1 (l.take j) + Pl.cnt1 x := Mm.cntL_succ hx
      have hc2 := Mm.cntL_take_le HN.out l (j + 1)
      have hc3 := Mm.cntL_nn HN.out (l.take j)
      have hc4 := HN.out x
      obtain ⟨kj, hkj⟩ : ∃ kj, k + Mm.cntL Pl.cnt1 (l.take j) = kj := ⟨_, rfl⟩
      rw [hkj]
      have hk0 : 1 ≤ kj := by omega
      have hk1 : kj + Pl.cnt1 x ≤ 1000000000000 := by omega
      have HX := Lib.hid (And.intro hx (And.intro hkj hc1))
      obtain ⟨hchg, fp0, ho0, hnd0, hsub0⟩ := hm
      have hx0 := Mm.half_get (mk := Pl.mkInt) (cnt := Pl.cnt1) (k := k) hx
      obtain ⟨g, rfl⟩ : ∃ g, A = some ⟨g, 0, none⟩ := by
        obtain ⟨_, _, hs, _⟩ := ho0
        obtain ⟨g, cap, he, _⟩ := hs.form (by rw [Mm.half_len]; have := hlen.out; omega)
        injection he with he
        exact ⟨g, he⟩
      have hgl := ho0.olt g ho0.mem_block
      have HC0 := Lib.hid hchg
      have HO0 := Lib.hid (And.intro ho0 (And.intro hnd0 (And.intro hsub0 hx0)))
      clear hchg hx hkj hc1 hc2 hc3 hx0
      have hcx : Pl.cnt1 x = 1 := rfl
      rw [hcx] at hk1
      have HCX := Lib.hid hcx
      clear hcx hc4
      have d0_0 := int_ocell HO0.out.1 HO0.out.2.1 HO0.out.2.2.2
      have e0_0 := HO0.out.1.frozen (j)
      have st0 := HO0.out.1.store HO0.out.2.1 (j := 0) (x' := kj) (u := .int .i64 (kj)) HO0.out.2.2.2 (by decide) (fun cs fx hh => by obtain ⟨rfl, _, rfl⟩ := hh; exact ⟨rfl, (by unfold Mm.I64; first | omega | (dsimp only; omega)), rfl⟩)
      rw [show j * (Mm.int).size + 0 = j from (by show j * 1 + 0 = j; omega)] at st0
      have HO0s := Lib.hid (And.intro st0 (And.intro HO0.out.2.1 (And.intro HO0.out.2.2.1 (show ((Mm.half Pl.mkInt Pl.cnt1 l k j).set j kj)[j]? = some kj from List.getElem?_set_self (by rw [Mm.half_len]; have := hlen.out; omega)))))
      have HC0s := Lib.hid (HC0.out.setCell (p := ⟨g, j, none⟩) (HO0.out.2.2.1 g HO0.out.1.mem_block) (.int .i64 (kj)))
      clear st0
      go_wp2
      go_roundw
      case rel =>
        refine ⟨j + 1, by omega, by go_num, ?_, ?_⟩
        · have h3 := HX.out.2.1; have h4 := HX.out.2.2; have h5 := HCX.out
          rw [h4]
          show Value.int .i64 _ = Value.int .i64 _
          congr 1
          omega
        · have h3 := HX.out.2.1
          refine ⟨HC0s.out, _, ?_, HO0s.out.2.1, HO0s.out.2.2.1⟩
          rw [← Mm.half_set HX.out.1, h3]
          exact HO0s.out.1
      case measure => simp [intOf]; omega
    · have HM := Lib.hid hm
      go_wp2
      go_ret
      exact HM.out.done (by have := hlen.out; omega)
set_option maxHeartbeats 2000000 in
theorem markStringS_c (l : List ByteArray) (A : Option Addr) (n c : Nat) (fp : List Nat) (k : Int) (w : World) (ho : Mm.SlOwn Mm.str 9 w l (.slice A n c) fp) (hnd : fp.Nodup) (h0 : 1 ≤ k) (h1 : k + Mm.cntL Pl.cnt1 l ≤ 1000000000000) :
    Calls Try.prog 106 #[.slice A n c, .int .i64 k] w (Mm.MkRet Mm.str 9 Pl.mkStr Pl.cnt1 w l (.slice A n c) fp k) := by
  have hn : n ≤ 9223372036854775807 := by
    obtain ⟨_, _, _, he, _, h2, h3, _⟩ := ho.form
    injection he with _ e2 e3
    subst e2; subst e3
    unfold maxLen at h3; omega
  have hlen : Hid (l.length = n) := by
    obtain ⟨_, _, _, he, h2, _⟩ := ho.form
    injection he with _ e2
    show l.length = n
    rw [e2, h2]
  have HN : Hid (∀ x : ByteArray, 0 ≤ Pl.cnt1 x) := Pl.cnt1_nn
  have HST := Lib.hid (Mm.MkAt.start (mk := Pl.mkStr) (cnt := Pl.cnt1) (k := k) ho hnd)
  clear ho hnd
  go_enter Try.func106, Try.ntmps106
  go_wp2
  go_loopw [1, 5] (fun kk i wr => ∃ j : Nat, j ≤ n ∧ i = .int .i64 j ∧ kk = .int .i64 (k + Mm.cntL Pl.cnt1 (l.take j)) ∧ Mm.MkAt Mm.str 9 Pl.mkStr Pl.cnt1 w l (.slice A n c) fp k j wr) (fun _ i _ => n - (intOf i).toNat)
  case atStart => exact ⟨0, Nat.zero_le _, rfl, by simp [Mm.cntL], HST.out⟩
  case round =>
    clear HST
    obtain ⟨j, hj, rfl, rfl, hm⟩ := hrel
    rename_i wr _
    by_cases hlt : j < n
    · obtain ⟨x, hx⟩ : ∃ x, l[j]? = some x := ⟨_, List.getElem?_eq_getElem (by have := hlen.out; omega)⟩
      have hc1 : Mm.cntL Pl.cnt1 (l.take (j + 1)) = Mm.cntL Pl.cnt1 (l.take j) + Pl.cnt1 x := Mm.cntL_succ hx
      have hc2 := Mm.cntL_take_le HN.out l (j + 1)
      have hc3 := Mm.cntL_nn HN.out (l.take j)
      have hc4 := HN.out x
      obtain ⟨kj, hkj⟩ : ∃ kj, k + Mm.cntL Pl.cnt1 (l.take j) = kj := ⟨_, rfl⟩
      rw [hkj]
      have hk0 : 1 ≤ kj := by omega
      have hk1 : kj + Pl.cnt1 x ≤ 1000000000000 := by omega
      have HX := Lib.hid (And.intro hx (And.intro hkj hc1))
      obtain ⟨hchg, fp0, ho0, hnd0, hsub0⟩ := hm
      have hx0 := Mm.half_get (mk := Pl.mkStr) (cnt := Pl.cnt1) (k := k) hx
      obtain ⟨g, rfl⟩ : ∃ g, A = some ⟨g, 0, none⟩ := by
        obtain ⟨_, _, hs, _⟩ := ho0
        obtain ⟨g, cap, he, _⟩ := hs.form (by rw [Mm.half_len]; have := hlen.out; omega)
        injection he with he
        exact ⟨g, he⟩
      have hgl := ho0.olt g ho0.mem_block
      have HC0 := Lib.hid hchg
      have HO0 := Lib.hid (And.intro ho0 (And.intro hnd0 (And.intro hsub0 hx0)))
      clear hchg hx hkj hc1 hc2 hc3 hx0
      have hcx : Pl.cnt1 x = 1 := rfl
      rw [hcx] at hk1
      have HCX := Lib.hid hcx
      clear hcx hc4
      have d0_0 := str_ocell HO0.out.1 HO0.out.2.1 HO0.out.2.2.2
      have e0_0 := HO0.out.1.frozen (j)
      go_wp2_with fail
      refine (markText_c _ _ (by omega) (by omega)).mono ?_
      rintro e v0 ⟨rfl, hb0⟩
      have HO0m := Lib.hid (And.intro (HO0.out.1.okeep (w' := v0) (fun b hb => hb0.block b (HO0.out.1.olt b hb))) HO0.out.2)
      have HC0m := Lib.hid (Mm.und_chg HC0.out hb0)
      clear hb0
      have dm0_0 := str_ocell HO0m.out.1 HO0m.out.2.1 HO0m.out.2.2.2
      have em0_0 := HO0m.out.1.frozen (j)
      have st0 := HO0m.out.1.store HO0m.out.2.1 (j := 0) (x' := (Pl.mkText (kj))) (u := .string (Pl.mkText (kj))) HO0m.out.2.2.2 (by decide) (fun cs fx hh => by obtain ⟨rfl, _, rfl⟩ := hh; exact ⟨rfl, (Pl.mkText_len _ (by first | omega | (dsimp only; omega)) (by first | omega | (dsimp only; omega))), rfl⟩)
      rw [show j * (Mm.str).size + 0 = j from (by show j * 1 + 0 = j; omega)] at st0
      have HO0s := Lib.hid (And.intro st0 (And.intro HO0m.out.2.1 (And.intro HO0m.out.2.2.1 (show ((Mm.half Pl.mkStr Pl.cnt1 l k j).set j (Pl.mkText (kj)))[j]? = some (Pl.mkText (kj)) from List.getElem?_set_self (by rw [Mm.half_len]; have := hlen.out; omega)))))
      have HC0s := Lib.hid (HC0m.out.setCell (p := ⟨g, j, none⟩) (HO0m.out.2.2.1 g HO0m.out.1.mem_block) (.string (Pl.mkText (kj))))
      clear st0
      go_wp2
      go_roundw
      case rel =>
        refine ⟨j + 1, by omega, by go_num, ?_, ?_⟩
        · have h3 := HX.out.2.1; have h4 := HX.out.2.2; have h5 := HCX.out
          rw [h4]
          show Value.int .i64 _ = Value.int .i64 _
          congr 1
          omega
        · have h3 := HX.out.2.1
          refine ⟨HC0s.out, _, ?_, HO0s.out.2.1, HO0s.out.2.2.1⟩
          rw [← Mm.half_set HX.out.1, h3]
          exact HO0s.out.1
      case measure => simp [intOf]; omega
    · have HM := Lib.hid hm
      go_wp2
      go_ret
      exact HM.out.done (by have := hlen.out; omega)
set_option maxHeartbeats 2000000 in
theorem markBoolS_c (l : List Bool) (A : Option Addr) (n c : Nat) (fp : List Nat) (k : Int) (w : World) (ho : Mm.SlOwn Mm.bool 4 w l (.slice A n c) fp) (hnd : fp.Nodup) (h0 : 1 ≤ k) (h1 : k + Mm.cntL Pl.cnt1 l ≤ 1000000000000) :
    Calls Try.prog 38 #[.slice A n c, .int .i64 k] w (Mm.MkRet Mm.bool 4 Pl.mkBool Pl.cnt1 w l (.slice A n c) fp k) := by
  have hn : n ≤ 9223372036854775807 := by
    obtain ⟨_, _, _, he, _, h2, h3, _⟩ := ho.form
    injection he with _ e2 e3
    subst e2; subst e3
    unfold maxLen at h3; omega
  have hlen : Hid (l.length = n) := by
    obtain ⟨_, _, _, he, h2, _⟩ := ho.form
    injection he with _ e2
    show l.length = n
    rw [e2, h2]
  have HN : Hid (∀ x : Bool, 0 ≤ Pl.cnt1 x) := Pl.cnt1_nn
  have HST := Lib.hid (Mm.MkAt.start (mk := Pl.mkBool) (cnt := Pl.cnt1) (k := k) ho hnd)
  clear ho hnd
  go_enter Try.func38, Try.ntmps38
  go_wp2
  go_loopw [1, 5] (fun kk i wr => ∃ j : Nat, j ≤ n ∧ i = .int .i64 j ∧ kk = .int .i64 (k + Mm.cntL Pl.cnt1 (l.take j)) ∧ Mm.MkAt Mm.bool 4 Pl.mkBool Pl.cnt1 w l (.slice A n c) fp k j wr) (fun _ i _ => n - (intOf i).toNat)
  case atStart => exact ⟨0, Nat.zero_le _, rfl, by simp [Mm.cntL], HST.out⟩
  case round =>
    clear HST
    obtain ⟨j, hj, rfl, rfl, hm⟩ := hrel
    rename_i wr _
    by_cases hlt : j < n
    · obtain ⟨x, hx⟩ : ∃ x, l[j]? = some x := ⟨_, List.getElem?_eq_getElem (by have := hlen.out; omega)⟩
      have hc1 : Mm.cntL Pl.cnt1 (l.take (j + 1)) = Mm.cntL Pl.cnt1 (l.take j) + Pl.cnt1 x := Mm.cntL_succ hx
      have hc2 := Mm.cntL_take_le HN.out l (j + 1)
      have hc3 := Mm.cntL_nn HN.out (l.take j)
      have hc4 := HN.out x
      obtain ⟨kj, hkj⟩ : ∃ kj, k + Mm.cntL Pl.cnt1 (l.take j) = kj := ⟨_, rfl⟩
      rw [hkj]
      have hk0 : 1 ≤ kj := by omega
      have hk1 : kj + Pl.cnt1 x ≤ 1000000000000 := by omega
      have HX := Lib.hid (And.intro hx (And.intro hkj hc1))
      obtain ⟨hchg, fp0, ho0, hnd0, hsub0⟩ := hm
      have hx0 := Mm.half_get (mk := Pl.mkBool) (cnt := Pl.cnt1) (k := k) hx
      obtain ⟨g, rfl⟩ : ∃ g, A = some ⟨g, 0, none⟩ := by
        obtain ⟨_, _, hs, _⟩ := ho0
        obtain ⟨g, cap, he, _⟩ := hs.form (by rw [Mm.half_len]; have := hlen.out; omega)
        injection he with he
        exact ⟨g, he⟩
      have hgl := ho0.olt g ho0.mem_block
      have HC0 := Lib.hid hchg
      have HO0 := Lib.hid (And.intro ho0 (And.intro hnd0 (And.intro hsub0 hx0)))
      clear hchg hx hkj hc1 hc2 hc3 hx0
      have hcx : Pl.cnt1 x = 1 := rfl
      rw [hcx] at hk1
      have HCX := Lib.hid hcx
      clear hcx hc4
      have d0_0 := bool_ocell HO0.out.1 HO0.out.2.1 HO0.out.2.2.2
      have e0_0 := HO0.out.1.frozen (j)
      have st0 := HO0.out.1.store HO0.out.2.1 (j := 0) (x' := (kj % 3 == 0)) (u := .bool (kj % 3 == 0)) HO0.out.2.2.2 (by decide) (fun cs fx hh => by obtain ⟨rfl, _, rfl⟩ := hh; exact ⟨rfl, trivial, rfl⟩)
      rw [show j * (Mm.bool).size + 0 = j from (by show j * 1 + 0 = j; omega)] at st0
      have HO0s := Lib.hid (And.intro st0 (And.intro HO0.out.2.1 (And.intro HO0.out.2.2.1 (show ((Mm.half Pl.mkBool Pl.cnt1 l k j).set j (kj % 3 == 0))[j]? = some (kj % 3 == 0) from List.getElem?_set_self (by rw [Mm.half_len]; have := hlen.out; omega)))))
      have HC0s := Lib.hid (HC0.out.setCell (p := ⟨g, j, none⟩) (HO0.out.2.2.1 g HO0.out.1.mem_block) (.bool (kj % 3 == 0)))
      clear st0
      go_wp2
      go_roundw
      case rel =>
        refine ⟨j + 1, by omega, by go_num, ?_, ?_⟩
        · have h3 := HX.out.2.1; have h4 := HX.out.2.2; have h5 := HCX.out
          rw [h4]
          show Value.int .i64 _ = Value.int .i64 _
          congr 1
          omega
        · have h3 := HX.out.2.1
          refine ⟨HC0s.out, _, ?_, HO0s.out.2.1, HO0s.out.2.2.1⟩
          rw [← Mm.half_set HX.out.1, h3]
          exact HO0s.out.1
      case measure => simp [intOf]; omega
    · have HM := Lib.hid hm
      go_wp2
      go_ret
      exact HM.out.done (by have := hlen.out; omega)
set_option maxHeartbeats 2000000 in
theorem markStringSS_c (l : List (List ByteArray)) (A : Option Addr) (n c : Nat) (fp : List Nat) (k : Int) (w : World) (ho : Mm.SlOwn strs 40 w l (.slice A n c) fp) (hnd : fp.Nodup) (h0 : 1 ≤ k) (h1 : k + Mm.cntL (Mm.cntL Pl.cnt1) l ≤ 1000000000000) :
    Calls Try.prog 70 #[.slice A n c, .int .i64 k] w (Mm.MkRet strs 40 (Mm.mkL Pl.mkStr Pl.cnt1) (Mm.cntL Pl.cnt1) w l (.slice A n c) fp k) := by
  have hn : n ≤ 9223372036854775807 := by
    obtain ⟨_, _, _, he, _, h2, h3, _⟩ := ho.form
    injection he with _ e2 e3
    subst e2; subst e3
    unfold maxLen at h3; omega
  have hlen : Hid (l.length = n) := by
    obtain ⟨_, _, _, he, h2, _⟩ := ho.form
    injection he with _ e2
    show l.length = n
    rw [e2, h2]
  have HN : Hid (∀ x : (List ByteArray), 0 ≤ (Mm.cntL Pl.cnt1) x) := Mm.cntL_nn (cnt := Pl.cnt1) (Pl.cnt1_nn)
  have HST := Lib.hid (Mm.MkAt.start (mk := (Mm.mkL Pl.mkStr Pl.cnt1)) (cnt := (Mm.cntL Pl.cnt1)) (k := k) ho hnd)
  clear ho hnd
  go_enter Try.func70, Try.ntmps70
  go_wp2
  go_loopw [1, 5] (fun kk i wr => ∃ j : Nat, j ≤ n ∧ i = .int .i64 j ∧ kk = .int .i64 (k + Mm.cntL (Mm.cntL Pl.cnt1) (l.take j)) ∧ Mm.MkAt strs 40 (Mm.mkL Pl.mkStr Pl.cnt1) (Mm.cntL Pl.cnt1) w l (.slice A n c) fp k j wr) (fun _ i _ => n - (intOf i).toNat)
  case atStart => exact ⟨0, Nat.zero_le _, rfl, by simp [Mm.cntL], HST.out⟩
  case round =>
    clear HST
    obtain ⟨j, hj, rfl, rfl, hm⟩ := hrel
    rename_i wr _
    by_cases hlt : j < n
    · obtain ⟨x, hx⟩ : ∃ x, l[j]? = some x := ⟨_, List.getElem?_eq_getElem (by have := hlen.out; omega)⟩
      have hc1 : Mm.cntL (Mm.cntL Pl.cnt1) (l.take (j + 1)) = Mm.cntL (Mm.cntL Pl.cnt1) (l.take j) + (Mm.cntL Pl.cnt1) x := Mm.cntL_succ hx
      have hc2 := Mm.cntL_take_le HN.out l (j + 1)
      have hc3 := Mm.cntL_nn HN.out (l.take j)
      have hc4 := HN.out x
      obtain ⟨kj, hkj⟩ : ∃ kj, k + Mm.cntL (Mm.cntL Pl.cnt1) (l.take j) = kj := ⟨_, rfl⟩
      rw [hkj]
      have hk0 : 1 ≤ kj := by omega
      have hk1 : kj + (Mm.cntL Pl.cnt1) x ≤ 1000000000000 := by omega
      have HX := Lib.hid (And.intro hx (And.intro hkj hc1))
      obtain ⟨hchg, fp0, ho0, hnd0, hsub0⟩ := hm
      have hx0 := Mm.half_get (mk := (Mm.mkL Pl.mkStr Pl.cnt1)) (cnt := (Mm.cntL Pl.cnt1)) (k := k) hx
      obtain ⟨g, rfl⟩ : ∃ g, A = some ⟨g, 0, none⟩ := by
        obtain ⟨_, _, hs, _⟩ := ho0
        obtain ⟨g, cap, he, _⟩ := hs.form (by rw [Mm.half_len]; have := hlen.out; omega)
        injection he with he
        exact ⟨g, he⟩
      have hgl := ho0.olt g ho0.mem_block
      have HC0 := Lib.hid hchg
      have HO0 := Lib.hid (And.intro ho0 (And.intro hnd0 (And.intro hsub0 hx0)))
      clear hchg hx hkj hc1 hc2 hc3 hx0
      have hcx : (Mm.cntL Pl.cnt1) x = (Mm.cntL Pl.cnt1) x := rfl
      have HCX := Lib.hid hcx
      clear hcx
      obtain ⟨P0, p0, q0, d0_0⟩ := strs_ocell HO0.out.1 HO0.out.2.1 HO0.out.2.2.2
      have e0_0 := HO0.out.1.frozen (j)
      obtain ⟨cs0, fx0, hox0, hnx0, hsx0, hcx0, hnext0⟩ := HO0.out.1.inner HO0.out.2.1 HO0.out.2.2.2
      obtain ⟨vv0, rfl, hoi0⟩ := hox0
      obtain ⟨Pi0, pi0, qi0, rfl, -⟩ := hoi0.form
      clear d0_0
      have dd0 := Mm.cell_sp (a' := j) (hcx0 0 _ rfl) (show j * (strs).size + 0 = j from (by show j * 1 + 0 = j; omega))
      have HI0 := Lib.hid (And.intro hoi0 (And.intro hnx0 (And.intro hsx0 hnext0)))
      clear hoi0 hnx0 hsx0 hnext0 hcx0
      go_wp2_with fail
      refine (markStringS_c x _ _ _ _ _ _ HI0.out.1 HI0.out.2.1 (by omega) (by omega)).mono ?_
      rintro e v0 ⟨rfl, hch0, fn0, ho0', hnd0', hsub0'⟩
      obtain ⟨fo0, hof0, hnf0, hsf0⟩ := HI0.out.2.2.2 v0 ((Mm.mkL Pl.mkStr Pl.cnt1) x kj) fn0 hch0 (⟨_, rfl, ho0'⟩) hnd0' hsub0'
      have HO0s := Lib.hid (And.intro hof0 (And.intro hnf0 (And.intro (fun b hb => HO0.out.2.2.1 b (hsf0 b hb)) (show ((Mm.half (Mm.mkL Pl.mkStr Pl.cnt1) (Mm.cntL Pl.cnt1) l k j).set j ((Mm.mkL Pl.mkStr Pl.cnt1) x kj))[j]? = some ((Mm.mkL Pl.mkStr Pl.cnt1) x kj) from List.getElem?_set_self (by rw [Mm.half_len]; have := hlen.out; omega)))))
      have HC0s := Lib.hid (HC0.out.trans (hch0.more (fun b hb => HO0.out.2.2.1 b (HI0.out.2.2.1 b hb).1)))
      clear hch0 ho0' hnd0' hsub0' hof0 hnf0 hsf0
      obtain ⟨Pn0, pn0, qn0, dn0_0⟩ := strs_ocell HO0s.out.1 HO0s.out.2.1 HO0s.out.2.2.2
      have en0_0 := HO0s.out.1.frozen (j)
      go_wp2
      go_roundw
      case rel =>
        refine ⟨j + 1, by omega, by go_num, ?_, ?_⟩
        · have h3 := HX.out.2.1; have h4 := HX.out.2.2; have h5 := HCX.out
          rw [h4]
          show Value.int .i64 _ = Value.int .i64 _
          congr 1
          omega
        · have h3 := HX.out.2.1
          refine ⟨HC0s.out, _, ?_, HO0s.out.2.1, HO0s.out.2.2.1⟩
          rw [← Mm.half_set HX.out.1, h3]
          exact HO0s.out.1
      case measure => simp [intOf]; omega
    · have HM := Lib.hid hm
      go_wp2
      go_ret
      exact HM.out.done (by have := hlen.out; omega)
set_option maxHeartbeats 2000000 in
theorem markToldS_c (l : List Told) (A : Option Addr) (n c : Nat) (fp : List Nat) (k : Int) (w : World) (ho : Mm.SlOwn rTold 52 w l (.slice A n c) fp) (hnd : fp.Nodup) (h0 : 1 ≤ k) (h1 : k + Mm.cntL Pl.cntTold l ≤ 1000000000000) :
    Calls Try.prog 73 #[.slice A n c, .int .i64 k] w (Mm.MkRet rTold 52 Pl.mkTold Pl.cntTold w l (.slice A n c) fp k) := by
  have hn : n ≤ 9223372036854775807 := by
    obtain ⟨_, _, _, he, _, h2, h3, _⟩ := ho.form
    injection he with _ e2 e3
    subst e2; subst e3
    unfold maxLen at h3; omega
  have hlen : Hid (l.length = n) := by
    obtain ⟨_, _, _, he, h2, _⟩ := ho.form
    injection he with _ e2
    show l.length = n
    rw [e2, h2]
  have HN : Hid (∀ x : Told, 0 ≤ Pl.cntTold x) := Pl.cntTold_nn
  have HST := Lib.hid (Mm.MkAt.start (mk := Pl.mkTold) (cnt := Pl.cntTold) (k := k) ho hnd)
  clear ho hnd
  go_enter Try.func73, Try.ntmps73
  go_wp2
  go_loopw [1, 5] (fun kk i wr => ∃ j : Nat, j ≤ n ∧ i = .int .i64 j ∧ kk = .int .i64 (k + Mm.cntL Pl.cntTold (l.take j)) ∧ Mm.MkAt rTold 52 Pl.mkTold Pl.cntTold w l (.slice A n c) fp k j wr) (fun _ i _ => n - (intOf i).toNat)
  case atStart => exact ⟨0, Nat.zero_le _, rfl, by simp [Mm.cntL], HST.out⟩
  case round =>
    clear HST
    obtain ⟨j, hj, rfl, rfl, hm⟩ := hrel
    rename_i wr _
    by_cases hlt : j < n
    · obtain ⟨x, hx⟩ : ∃ x, l[j]? = some x := ⟨_, List.getElem?_eq_getElem (by have := hlen.out; omega)⟩
      have hc1 : Mm.cntL Pl.cntTold (l.take (j + 1)) = Mm.cntL Pl.cntTold (l.take j) + Pl.cntTold x := Mm.cntL_succ hx
      have hc2 := Mm.cntL_take_le HN.out l (j + 1)
      have hc3 := Mm.cntL_nn HN.out (l.take j)
      have hc4 := HN.out x
      obtain ⟨kj, hkj⟩ : ∃ kj, k + Mm.cntL Pl.cntTold (l.take j) = kj := ⟨_, rfl⟩
      rw [hkj]
      have hk0 : 1 ≤ kj := by omega
      have hk1 : kj + Pl.cntTold x ≤ 1000000000000 := by omega
      have HX := Lib.hid (And.intro hx (And.intro hkj hc1))
      obtain ⟨hchg, fp0, ho0, hnd0, hsub0⟩ := hm
      have hx0 := Mm.half_get (mk := Pl.mkTold) (cnt := Pl.cntTold) (k := k) hx
      obtain ⟨g, rfl⟩ : ∃ g, A = some ⟨g, 0, none⟩ := by
        obtain ⟨_, _, hs, _⟩ := ho0
        obtain ⟨g, cap, he, _⟩ := hs.form (by rw [Mm.half_len]; have := hlen.out; omega)
        injection he with he
        exact ⟨g, he⟩
      have hgl := ho0.olt g ho0.mem_block
      have HC0 := Lib.hid hchg
      have HO0 := Lib.hid (And.intro ho0 (And.intro hnd0 (And.intro hsub0 hx0)))
      clear hchg hx hkj hc1 hc2 hc3 hx0
      have hcx : Pl.cntTold x = 1 + 1 + 1 := rfl
      rw [hcx] at hk1 hc4
      have HCX := Lib.hid hcx
      clear hcx hc4
      obtain ⟨d0_0, d0_1, d0_2⟩ := rTold_ocell HO0.out.1 HO0.out.2.1 HO0.out.2.2.2
      have e0_0 := HO0.out.1.frozen (j * 3)
      have e0_1 := HO0.out.1.frozen (j * 3 + 1)
      have e0_2 := HO0.out.1.frozen (j * 3 + 2)
      have st0 := HO0.out.1.store HO0.out.2.1 (j := 0) (x' := ⟨kj, x.No, x.Text⟩) (u := .int .i64 (kj)) HO0.out.2.2.2 (by decide) (fun cs fx hh => by obtain ⟨rfl, ⟨g0, g1, g2⟩, rfl⟩ := hh; exact ⟨rfl, ⟨(by unfold Mm.I64; first | omega | (dsimp only; omega)), g1, g2⟩, rfl⟩)
      have HO0s := Lib.hid (And.intro st0 (And.intro HO0.out.2.1 (And.intro HO0.out.2.2.1 (show ((Mm.half Pl.mkTold Pl.cntTold l k j).set j ⟨kj, x.No, x.Text⟩)[j]? = some ⟨kj, x.No, x.Text⟩ from List.getElem?_set_self (by rw [Mm.half_len]; have := hlen.out; omega)))))
      have HC0s := Lib.hid (HC0.out.setCell (p := ⟨g, j * 3, none⟩) (HO0.out.2.2.1 g HO0.out.1.mem_block) (.int .i64 (kj)))
      clear st0
      have st1 := HO0s.out.1.store HO0s.out.2.1 (j := 1) (x' := ⟨kj, (kj + 1), x.Text⟩) (u := .int .i64 ((kj + 1))) HO0s.out.2.2.2 (by decide) (fun cs fx hh => by obtain ⟨rfl, ⟨g0, g1, g2⟩, rfl⟩ := hh; exact ⟨rfl, ⟨g0, (by unfold Mm.I64; first | omega | (dsimp only; omega)), g2⟩, rfl⟩)
      rw [List.set_set] at st1
      have HO1s := Lib.hid (And.intro st1 (And.intro HO0s.out.2.1 (And.intro HO0s.out.2.2.1 (show ((Mm.half Pl.mkTold Pl.cntTold l k j).set j ⟨kj, (kj + 1), x.Text⟩)[j]? = some ⟨kj, (kj + 1), x.Text⟩ from List.getElem?_set_self (by rw [Mm.half_len]; have := hlen.out; omega)))))
      have HC1s := Lib.hid (HC0s.out.setCell (p := ⟨g, j * 3 + 1, none⟩) (HO0s.out.2.2.1 g HO0s.out.1.mem_block) (.int .i64 ((kj + 1))))
      clear st1
      go_wp2_with fail
      refine (markText_c _ _ (by omega) (by omega)).mono ?_
      rintro e v2 ⟨rfl, hb2⟩
      have HO2m := Lib.hid (And.intro (HO1s.out.1.okeep (w' := v2) (fun b hb => hb2.block b (HO1s.out.1.olt b hb))) HO1s.out.2)
      have HC2m := Lib.hid (Mm.und_chg HC1s.out hb2)
      clear hb2
      obtain ⟨dm2_0, dm2_1, dm2_2⟩ := rTold_ocell HO2m.out.1 HO2m.out.2.1 HO2m.out.2.2.2
      have em2_0 := HO2m.out.1.frozen (j * 3)
      have em2_1 := HO2m.out.1.frozen (j * 3 + 1)
      have em2_2 := HO2m.out.1.frozen (j * 3 + 2)
      have st2 := HO2m.out.1.store HO2m.out.2.1 (j := 2) (x' := ⟨kj, (kj + 1), (Pl.mkText (((kj + 1) + 1)))⟩) (u := .string (Pl.mkText (((kj + 1) + 1)))) HO2m.out.2.2.2 (by decide) (fun cs fx hh => by obtain ⟨rfl, ⟨g0, g1, g2⟩, rfl⟩ := hh; exact ⟨rfl, ⟨g0, g1, (Pl.mkText_len _ (by first | omega | (dsimp only; omega)) (by first | omega | (dsimp only; omega)))⟩, rfl⟩)
      rw [List.set_set] at st2
      have HO2s := Lib.hid (And.intro st2 (And.intro HO2m.out.2.1 (And.intro HO2m.out.2.2.1 (show ((Mm.half Pl.mkTold Pl.cntTold l k j).set j ⟨kj, (kj + 1), (Pl.mkText (((kj + 1) + 1)))⟩)[j]? = some ⟨kj, (kj + 1), (Pl.mkText (((kj + 1) + 1)))⟩ from List.getElem?_set_self (by rw [Mm.half_len]; have := hlen.out; omega)))))
      have HC2s := Lib.hid (HC2m.out.setCell (p := ⟨g, j * 3 + 2, none⟩) (HO2m.out.2.2.1 g HO2m.out.1.mem_block) (.string (Pl.mkText (((kj + 1) + 1)))))
      clear st2
      go_wp2
      go_roundw
      case rel =>
        refine ⟨j + 1, by omega, by go_num, ?_, ?_⟩
        · have h3 := HX.out.2.1; have h4 := HX.out.2.2; have h5 := HCX.out
          rw [h4]
          show Value.int .i64 _ = Value.int .i64 _
          congr 1
          omega
        · have h3 := HX.out.2.1
          refine ⟨HC2s.out, _, ?_, HO2s.out.2.1, HO2s.out.2.2.1⟩
          rw [← Mm.half_set HX.out.1, h3]
          exact HO2s.out.1
      case measure => simp [intOf]; omega
    · have HM := Lib.hid hm
      go_wp2
      go_ret
      exact HM.out.done (by have := hlen.out; omega)
set_option maxHeartbeats 2000000 in
theorem markNoteS_c (l : List Note) (A : Option Addr) (n c : Nat) (fp : List Nat) (k : Int) (w : World) (ho : Mm.SlOwn rNote 94 w l (.slice A n c) fp) (hnd : fp.Nodup) (h0 : 1 ≤ k) (h1 : k + Mm.cntL Pl.cntNote l ≤ 1000000000000) :
    Calls Try.prog 72 #[.slice A n c, .int .i64 k] w (Mm.MkRet rNote 94 Pl.mkNote Pl.cntNote w l (.slice A n c) fp k) := by
  have hn : n ≤ 9223372036854775807 := by
    obtain ⟨_, _, _, he, _, h2, h3, _⟩ := ho.form
    injection he with _ e2 e3
    subst e2; subst e3
    unfold maxLen at h3; omega
  have hlen : Hid (l.length = n) := by
    obtain ⟨_, _, _, he, h2, _⟩ := ho.form
    injection he with _ e2
    show l.length = n
    rw [e2, h2]
  have HN : Hid (∀ x : Note, 0 ≤ Pl.cntNote x) := Pl.cntNote_nn
  have HST := Lib.hid (Mm.MkAt.start (mk := Pl.mkNote) (cnt := Pl.cntNote) (k := k) ho hnd)
  clear ho hnd
  go_enter Try.func72, Try.ntmps72
  go_wp2
  go_loopw [1, 5] (fun kk i wr => ∃ j : Nat, j ≤ n ∧ i = .int .i64 j ∧ kk = .int .i64 (k + Mm.cntL Pl.cntNote (l.take j)) ∧ Mm.MkAt rNote 94 Pl.mkNote Pl.cntNote w l (.slice A n c) fp k j wr) (fun _ i _ => n - (intOf i).toNat)
  case atStart => exact ⟨0, Nat.zero_le _, rfl, by simp [Mm.cntL], HST.out⟩
  case round =>
    clear HST
    obtain ⟨j, hj, rfl, rfl, hm⟩ := hrel
    rename_i wr _
    by_cases hlt : j < n
    · obtain ⟨x, hx⟩ : ∃ x, l[j]? = some x := ⟨_, List.getElem?_eq_getElem (by have := hlen.out; omega)⟩
      have hc1 : Mm.cntL Pl.cntNote (l.take (j + 1)) = Mm.cntL Pl.cntNote (l.take j) + Pl.cntNote x := Mm.cntL_succ hx
      have hc2 := Mm.cntL_take_le HN.out l (j + 1)
      have hc3 := Mm.cntL_nn HN.out (l.take j)
      have hc4 := HN.out x
      obtain ⟨kj, hkj⟩ : ∃ kj, k + Mm.cntL Pl.cntNote (l.take j) = kj := ⟨_, rfl⟩
      rw [hkj]
      have hk0 : 1 ≤ kj := by omega
      have hk1 : kj + Pl.cntNote x ≤ 1000000000000 := by omega
      have HX := Lib.hid (And.intro hx (And.intro hkj hc1))
      obtain ⟨hchg, fp0, ho0, hnd0, hsub0⟩ := hm
      have hx0 := Mm.half_get (mk := Pl.mkNote) (cnt := Pl.cntNote) (k := k) hx
      obtain ⟨g, rfl⟩ : ∃ g, A = some ⟨g, 0, none⟩ := by
        obtain ⟨_, _, hs, _⟩ := ho0
        obtain ⟨g, cap, he, _⟩ := hs.form (by rw [Mm.half_len]; have := hlen.out; omega)
        injection he with he
        exact ⟨g, he⟩
      have hgl := ho0.olt g ho0.mem_block
      have HC0 := Lib.hid hchg
      have HO0 := Lib.hid (And.intro ho0 (And.intro hnd0 (And.intro hsub0 hx0)))
      clear hchg hx hkj hc1 hc2 hc3 hx0
      have hcx : Pl.cntNote x = 1 + 1 + 1 + 1 := rfl
      rw [hcx] at hk1 hc4
      have HCX := Lib.hid hcx
      clear hcx hc4
      obtain ⟨d0_0, d0_1, d0_2, d0_3⟩ := rNote_ocell HO0.out.1 HO0.out.2.1 HO0.out.2.2.2
      have e0_0 := HO0.out.1.frozen (j * 4)
      have e0_1 := HO0.out.1.frozen (j * 4 + 1)
      have e0_2 := HO0.out.1.frozen (j * 4 + 2)
      have e0_3 := HO0.out.1.frozen (j * 4 + 3)
      have st0 := HO0.out.1.store HO0.out.2.1 (j := 0) (x' := ⟨(kj % 3 == 0), ⟨x.What.Who, x.What.No, x.What.Text⟩⟩) (u := .bool (kj % 3 == 0)) HO0.out.2.2.2 (by decide) (fun cs fx hh => by obtain ⟨rfl, ⟨g0, g1, g2⟩, rfl⟩ := hh; exact ⟨rfl, ⟨g0, g1, g2⟩, rfl⟩)
      have HO0s := Lib.hid (And.intro st0 (And.intro HO0.out.2.1 (And.intro HO0.out.2.2.1 (show ((Mm.half Pl.mkNote Pl.cntNote l k j).set j ⟨(kj % 3 == 0), ⟨x.What.Who, x.What.No, x.What.Text⟩⟩)[j]? = some ⟨(kj % 3 == 0), ⟨x.What.Who, x.What.No, x.What.Text⟩⟩ from List.getElem?_set_self (by rw [Mm.half_len]; have := hlen.out; omega)))))
      have HC0s := Lib.hid (HC0.out.setCell (p := ⟨g, j * 4, none⟩) (HO0.out.2.2.1 g HO0.out.1.mem_block) (.bool (kj % 3 == 0)))
      clear st0
      have st1 := HO0s.out.1.store HO0s.out.2.1 (j := 1) (x' := ⟨(kj % 3 == 0), ⟨(kj + 1), x.What.No, x.What.Text⟩⟩) (u := .int .i64 ((kj + 1))) HO0s.out.2.2.2 (by decide) (fun cs fx hh => by obtain ⟨rfl, ⟨g0, g1, g2⟩, rfl⟩ := hh; exact ⟨rfl, ⟨(by unfold Mm.I64; first | omega | (dsimp only; omega)), g1, g2⟩, rfl⟩)
      rw [List.set_set] at st1
      have HO1s := Lib.hid (And.intro st1 (And.intro HO0s.out.2.1 (And.intro HO0s.out.2.2.1 (show ((Mm.half Pl.mkNote Pl.cntNote l k j).set j ⟨(kj % 3 == 0), ⟨(kj + 1), x.What.No, x.What.Text⟩⟩)[j]? = some ⟨(kj % 3 == 0), ⟨(kj + 1), x.What.No, x.What.Text⟩⟩ from List.getElem?_set_self (by rw [Mm.half_len]; have := hlen.out; omega)))))
      have HC1s := Lib.hid (HC0s.out.setCell (p := ⟨g, j * 4 + 1, none⟩) (HO0s.out.2.2.1 g HO0s.out.1.mem_block) (.int .i64 ((kj + 1))))
      clear st1
      have st2 := HO1s.out.1.store HO1s.out.2.1 (j := 2) (x' := ⟨(kj % 3 == 0), ⟨(kj + 1), ((kj + 1) + 1), x.What.Text⟩⟩) (u := .int .i64 (((kj + 1) + 1))) HO1s.out.2.2.2 (by decide) (fun cs fx hh => by obtain ⟨rfl, ⟨g0, g1, g2⟩, rfl⟩ := hh; exact ⟨rfl, ⟨g0, (by unfold Mm.I64; first | omega | (dsimp only; omega)), g2⟩, rfl⟩)
      rw [List.set_set] at st2
      have HO2s := Lib.hid (And.intro st2 (And.intro HO1s.out.2.1 (And.intro HO1s.out.2.2.1 (show ((Mm.half Pl.mkNote Pl.cntNote l k j).set j ⟨(kj % 3 == 0), ⟨(kj + 1), ((kj + 1) + 1), x.What.Text⟩⟩)[j]? = some ⟨(kj % 3 == 0), ⟨(kj + 1), ((kj + 1) + 1), x.What.Text⟩⟩ from List.getElem?_set_self (by rw [Mm.half_len]; have := hlen.out; omega)))))
      have HC2s := Lib.hid (HC1s.out.setCell (p := ⟨g, j * 4 + 2, none⟩) (HO1s.out.2.2.1 g HO1s.out.1.mem_block) (.int .i64 (((kj + 1) + 1))))
      clear st2
      go_wp2_with fail
      refine (markText_c _ _ (by omega) (by omega)).mono ?_
      rintro e v3 ⟨rfl, hb3⟩
      have HO3m := Lib.hid (And.intro (HO2s.out.1.okeep (w' := v3) (fun b hb => hb3.block b (HO2s.out.1.olt b hb))) HO2s.out.2)
      have HC3m := Lib.hid (Mm.und_chg HC2s.out hb3)
      clear hb3
      obtain ⟨dm3_0, dm3_1, dm3_2, dm3_3⟩ := rNote_ocell HO3m.out.1 HO3m.out.2.1 HO3m.out.2.2.2
      have em3_0 := HO3m.out.1.frozen (j * 4)
      have em3_1 := HO3m.out.1.frozen (j * 4 + 1)
      have em3_2 := HO3m.out.1.frozen (j * 4 + 2)
      have em3_3 := HO3m.out.1.frozen (j * 4 + 3)
      have st3 := HO3m.out.1.store HO3m.out.2.1 (j := 3) (x' := ⟨(kj % 3 == 0), ⟨(kj + 1), ((kj + 1) + 1), (Pl.mkText ((((kj + 1) + 1) + 1)))⟩⟩) (u := .string (Pl.mkText ((((kj + 1) + 1) + 1)))) HO3m.out.2.2.2 (by decide) (fun cs fx hh => by obtain ⟨rfl, ⟨g0, g1, g2⟩, rfl⟩ := hh; exact ⟨rfl, ⟨g0, g1, (Pl.mkText_len _ (by first | omega | (dsimp only; omega)) (by first | omega | (dsimp only; omega)))⟩, rfl⟩)
      rw [List.set_set] at st3
      have HO3s := Lib.hid (And.intro st3 (And.intro HO3m.out.2.1 (And.intro HO3m.out.2.2.1 (show ((Mm.half Pl.mkNote Pl.cntNote l k j).set j ⟨(kj % 3 == 0), ⟨(kj + 1), ((kj + 1) + 1), (Pl.mkText ((((kj + 1) + 1) + 1)))⟩⟩)[j]? = some ⟨(kj % 3 == 0), ⟨(kj + 1), ((kj + 1) + 1), (Pl.mkText ((((kj + 1) + 1) + 1)))⟩⟩ from List.getElem?_set_self (by rw [Mm.half_len]; have := hlen.out; omega)))))
      have HC3s := Lib.hid (HC3m.out.setCell (p := ⟨g, j * 4 + 3, none⟩) (HO3m.out.2.2.1 g HO3m.out.1.mem_block) (.string (Pl.mkText ((((kj + 1) + 1) + 1)))))
      clear st3
      go_wp2
      go_roundw
      case rel =>
        refine ⟨j + 1, by omega, by go_num, ?_, ?_⟩
        · have h3 := HX.out.2.1; have h4 := HX.out.2.2; have h5 := HCX.out
          rw [h4]
          show Value.int .i64 _ = Value.int .i64 _
          congr 1
          omega
        · have h3 := HX.out.2.1
          refine ⟨HC3s.out, _, ?_, HO3s.out.2.1, HO3s.out.2.2.1⟩
          rw [← Mm.half_set HX.out.1, h3]
          exact HO3s.out.1
      case measure => simp [intOf]; omega
    · have HM := Lib.hid hm
      go_wp2
      go_ret
      exact HM.out.done (by have := hlen.out; omega)
set_option maxHeartbeats 2000000 in
theorem markTellStepS_c (l : List TellStep) (A : Option Addr) (n c : Nat) (fp : List Nat) (k : Int) (w : World) (ho : Mm.SlOwn rTellStep 46 w l (.slice A n c) fp) (hnd : fp.Nodup) (h0 : 1 ≤ k) (h1 : k + Mm.cntL Pl.cntTellStep l ≤ 1000000000000) :
    Calls Try.prog 36 #[.slice A n c, .int .i64 k] w (Mm.MkRet rTellStep 46 Pl.mkTellStep Pl.cntTellStep w l (.slice A n c) fp k) := by
  have hn : n ≤ 9223372036854775807 := by
    obtain ⟨_, _, _, he, _, h2, h3, _⟩ := ho.form
    injection he with _ e2 e3
    subst e2; subst e3
    unfold maxLen at h3; omega
  have hlen : Hid (l.length = n) := by
    obtain ⟨_, _, _, he, h2, _⟩ := ho.form
    injection he with _ e2
    show l.length = n
    rw [e2, h2]
  have HN : Hid (∀ x : TellStep, 0 ≤ Pl.cntTellStep x) := Pl.cntTellStep_nn
  have HST := Lib.hid (Mm.MkAt.start (mk := Pl.mkTellStep) (cnt := Pl.cntTellStep) (k := k) ho hnd)
  clear ho hnd
  go_enter Try.func36, Try.ntmps36
  go_wp2
  go_loopw [1, 5] (fun kk i wr => ∃ j : Nat, j ≤ n ∧ i = .int .i64 j ∧ kk = .int .i64 (k + Mm.cntL Pl.cntTellStep (l.take j)) ∧ Mm.MkAt rTellStep 46 Pl.mkTellStep Pl.cntTellStep w l (.slice A n c) fp k j wr) (fun _ i _ => n - (intOf i).toNat)
  case atStart => exact ⟨0, Nat.zero_le _, rfl, by simp [Mm.cntL], HST.out⟩
  case round =>
    clear HST
    obtain ⟨j, hj, rfl, rfl, hm⟩ := hrel
    rename_i wr _
    by_cases hlt : j < n
    · obtain ⟨x, hx⟩ : ∃ x, l[j]? = some x := ⟨_, List.getElem?_eq_getElem (by have := hlen.out; omega)⟩
      have hc1 : Mm.cntL Pl.cntTellStep (l.take (j + 1)) = Mm.cntL Pl.cntTellStep (l.take j) + Pl.cntTellStep x := Mm.cntL_succ hx
      have hc2 := Mm.cntL_take_le HN.out l (j + 1)
      have hc3 := Mm.cntL_nn HN.out (l.take j)
      have hc4 := HN.out x
      obtain ⟨kj, hkj⟩ : ∃ kj, k + Mm.cntL Pl.cntTellStep (l.take j) = kj := ⟨_, rfl⟩
      rw [hkj]
      have hk0 : 1 ≤ kj := by omega
      have hk1 : kj + Pl.cntTellStep x ≤ 1000000000000 := by omega
      have HX := Lib.hid (And.intro hx (And.intro hkj hc1))
      obtain ⟨hchg, fp0, ho0, hnd0, hsub0⟩ := hm
      have hx0 := Mm.half_get (mk := Pl.mkTellStep) (cnt := Pl.cntTellStep) (k := k) hx
      obtain ⟨g, rfl⟩ : ∃ g, A = some ⟨g, 0, none⟩ := by
        obtain ⟨_, _, hs, _⟩ := ho0
        obtain ⟨g, cap, he, _⟩ := hs.form (by rw [Mm.half_len]; have := hlen.out; omega)
        injection he with he
        exact ⟨g, he⟩
      have hgl := ho0.olt g ho0.mem_block
      have HC0 := Lib.hid hchg
      have HO0 := Lib.hid (And.intro ho0 (And.intro hnd0 (And.intro hsub0 hx0)))
      clear hchg hx hkj hc1 hc2 hc3 hx0
      have hcx : Pl.cntTellStep x = 1 + 1 + 1 := rfl
      rw [hcx] at hk1 hc4
      have HCX := Lib.hid hcx
      clear hcx hc4
      obtain ⟨d0_0, d0_1, d0_2⟩ := rTellStep_ocell HO0.out.1 HO0.out.2.1 HO0.out.2.2.2
      have e0_0 := HO0.out.1.frozen (j * 3)
      have e0_1 := HO0.out.1.frozen (j * 3 + 1)
      have e0_2 := HO0.out.1.frozen (j * 3 + 2)
      have st0 := HO0.out.1.store HO0.out.2.1 (j := 0) (x' := ⟨kj, x.K, x.Text⟩) (u := .int .i64 (kj)) HO0.out.2.2.2 (by decide) (fun cs fx hh => by obtain ⟨rfl, ⟨g0, g1, g2⟩, rfl⟩ := hh; exact ⟨rfl, ⟨(by unfold Mm.I64; first | omega | (dsimp only; omega)), g1, g2⟩, rfl⟩)
      have HO0s := Lib.hid (And.intro st0 (And.intro HO0.out.2.1 (And.intro HO0.out.2.2.1 (show ((Mm.half Pl.mkTellStep Pl.cntTellStep l k j).set j ⟨kj, x.K, x.Text⟩)[j]? = some ⟨kj, x.K, x.Text⟩ from List.getElem?_set_self (by rw [Mm.half_len]; have := hlen.out; omega)))))
      have HC0s := Lib.hid (HC0.out.setCell (p := ⟨g, j * 3, none⟩) (HO0.out.2.2.1 g HO0.out.1.mem_block) (.int .i64 (kj)))
      clear st0
      have st1 := HO0s.out.1.store HO0s.out.2.1 (j := 1) (x' := ⟨kj, (kj + 1), x.Text⟩) (u := .int .i64 ((kj + 1))) HO0s.out.2.2.2 (by decide) (fun cs fx hh => by obtain ⟨rfl, ⟨g0, g1, g2⟩, rfl⟩ := hh; exact ⟨rfl, ⟨g0, (by unfold Mm.I64; first | omega | (dsimp only; omega)), g2⟩, rfl⟩)
      rw [List.set_set] at st1
      have HO1s := Lib.hid (And.intro st1 (And.intro HO0s.out.2.1 (And.intro HO0s.out.2.2.1 (show ((Mm.half Pl.mkTellStep Pl.cntTellStep l k j).set j ⟨kj, (kj + 1), x.Text⟩)[j]? = some ⟨kj, (kj + 1), x.Text⟩ from List.getElem?_set_self (by rw [Mm.half_len]; have := hlen.out; omega)))))
      have HC1s := Lib.hid (HC0s.out.setCell (p := ⟨g, j * 3 + 1, none⟩) (HO0s.out.2.2.1 g HO0s.out.1.mem_block) (.int .i64 ((kj + 1))))
      clear st1
      go_wp2_with fail
      refine (markText_c _ _ (by omega) (by omega)).mono ?_
      rintro e v2 ⟨rfl, hb2⟩
      have HO2m := Lib.hid (And.intro (HO1s.out.1.okeep (w' := v2) (fun b hb => hb2.block b (HO1s.out.1.olt b hb))) HO1s.out.2)
      have HC2m := Lib.hid (Mm.und_chg HC1s.out hb2)
      clear hb2
      obtain ⟨dm2_0, dm2_1, dm2_2⟩ := rTellStep_ocell HO2m.out.1 HO2m.out.2.1 HO2m.out.2.2.2
      have em2_0 := HO2m.out.1.frozen (j * 3)
      have em2_1 := HO2m.out.1.frozen (j * 3 + 1)
      have em2_2 := HO2m.out.1.frozen (j * 3 + 2)
      have st2 := HO2m.out.1.store HO2m.out.2.1 (j := 2) (x' := ⟨kj, (kj + 1), (Pl.mkText (((kj + 1) + 1)))⟩) (u := .string (Pl.mkText (((kj + 1) + 1)))) HO2m.out.2.2.2 (by decide) (fun cs fx hh => by obtain ⟨rfl, ⟨g0, g1, g2⟩, rfl⟩ := hh; exact ⟨rfl, ⟨g0, g1, (Pl.mkText_len _ (by first | omega | (dsimp only; omega)) (by first | omega | (dsimp only; omega)))⟩, rfl⟩)
      rw [List.set_set] at st2
      have HO2s := Lib.hid (And.intro st2 (And.intro HO2m.out.2.1 (And.intro HO2m.out.2.2.1 (show ((Mm.half Pl.mkTellStep Pl.cntTellStep l k j).set j ⟨kj, (kj + 1), (Pl.mkText (((kj + 1) + 1)))⟩)[j]? = some ⟨kj, (kj + 1), (Pl.mkText (((kj + 1) + 1)))⟩ from List.getElem?_set_self (by rw [Mm.half_len]; have := hlen.out; omega)))))
      have HC2s := Lib.hid (HC2m.out.setCell (p := ⟨g, j * 3 + 2, none⟩) (HO2m.out.2.2.1 g HO2m.out.1.mem_block) (.string (Pl.mkText (((kj + 1) + 1)))))
      clear st2
      go_wp2
      go_roundw
      case rel =>
        refine ⟨j + 1, by omega, by go_num, ?_, ?_⟩
        · have h3 := HX.out.2.1; have h4 := HX.out.2.2; have h5 := HCX.out
          rw [h4]
          show Value.int .i64 _ = Value.int .i64 _
          congr 1
          omega
        · have h3 := HX.out.2.1
          refine ⟨HC2s.out, _, ?_, HO2s.out.2.1, HO2s.out.2.2.1⟩
          rw [← Mm.half_set HX.out.1, h3]
          exact HO2s.out.1
      case measure => simp [intOf]; omega
    · have HM := Lib.hid hm
      go_wp2
      go_ret
      exact HM.out.done (by have := hlen.out; omega)
end Go.Proofs.Ytaepohocabealaa

/-
  The laws' own markings of whole structs that are owned. No conditions.
-/
namespace Go.Proofs.Ytaepohocabealaa
open Go.RowKit
attribute [local go_sem] und_cell
set_option maxHeartbeats 2000000 in
theorem markTell_c (x : Tell) (cs : List Value) (fp : List Nat) (k : Int) (w : World) (ho : rTell.own w x cs fp) (hnd : fp.Nodup) (h0 : 1 ≤ k) (h1 : k + Pl.ctopTell x ≤ 1000000000000) :
    Calls Try.prog 37 #[.agg cs.toArray, .int .i64 k] w (Mm.MkTop rTell Pl.topTell Pl.ctopTell w x cs fp k) := by
  obtain ⟨A0, n0, c0, A1, n1, c1, A2, n2, c2, A3, n3, c3, A4, n4, c4, f0, f1, f2, f3, f4, rfl, rfl, g0, g1, g2, g3, g4⟩ := rTell_own ho
  have hq0 := Mm.cntL_nn (cnt := (Mm.cntL Pl.cnt1)) (Mm.cntL_nn (cnt := Pl.cnt1) (Pl.cnt1_nn)) x.Texts
  have hq1 := Mm.cntL_nn (cnt := Pl.cnt1) (Pl.cnt1_nn) x.Heard
  have hq2 := Mm.cntL_nn (cnt := Pl.cntNote) (Pl.cntNote_nn) x.Line
  have hq3 := Mm.cntL_nn (cnt := Pl.cntTold) (Pl.cntTold_nn) x.Log
  have hq4 := Mm.cntL_nn (cnt := Pl.cnt1) (Pl.cnt1_nn) x.Next
  have hct : Pl.ctopTell x = (Mm.cntL (Mm.cntL Pl.cnt1)) x.Texts + (Mm.cntL Pl.cnt1) x.Heard + (Mm.cntL Pl.cntNote) x.Line + (Mm.cntL Pl.cntTold) x.Log + (Mm.cntL Pl.cnt1) x.Next := rfl
  rw [hct] at h1
  have HCT := Lib.hid hct
  clear hct
  have HND := Lib.hid hnd
  have KB := Lib.hid (Mm.Blk.new w 31 [.slice A0 n0 c0, .slice A1 n1 c1, .slice A2 n2 c2, .slice A3 n3 c3, .slice A4 n4 c4])
  have CH := Lib.hid (Mm.Chg.of_below (fp := f0 ++ (f1 ++ (f2 ++ (f3 ++ (f4))))) (below_new (Below.refl w.heap.size w) (.cells #[.slice A0 n0 c0, .slice A1 n1 c1, .slice A2 n2 c2, .slice A3 n3 c3, .slice A4 n4 c4] 31)))
  have hl0 := g0.olt
  have O0 := Lib.hid (g0.okeep (w' := (w.alloc (.cells #[.slice A0 n0 c0, .slice A1 n1 c1, .slice A2 n2 c2, .slice A3 n3 c3, .slice A4 n4 c4] 31))) fun b hb => Below.heap_alloc _ _ _ (hl0 b hb))
  have L0 := Lib.hid hl0
  clear hl0
  have hl1 := g1.olt
  have O1 := Lib.hid (g1.okeep (w' := (w.alloc (.cells #[.slice A0 n0 c0, .slice A1 n1 c1, .slice A2 n2 c2, .slice A3 n3 c3, .slice A4 n4 c4] 31))) fun b hb => Below.heap_alloc _ _ _ (hl1 b hb))
  have L1 := Lib.hid hl1
  clear hl1
  have hl2 := g2.olt
  have O2 := Lib.hid (g2.okeep (w' := (w.alloc (.cells #[.slice A0 n0 c0, .slice A1 n1 c1, .slice A2 n2 c2, .slice A3 n3 c3, .slice A4 n4 c4] 31))) fun b hb => Below.heap_alloc _ _ _ (hl2 b hb))
  have L2 := Lib.hid hl2
  clear hl2
  have hl3 := g3.olt
  have O3 := Lib.hid (g3.okeep (w' := (w.alloc (.cells #[.slice A0 n0 c0, .slice A1 n1 c1, .slice A2 n2 c2, .slice A3 n3 c3, .slice A4 n4 c4] 31))) fun b hb => Below.heap_alloc _ _ _ (hl3 b hb))
  have L3 := Lib.hid hl3
  clear hl3
  have hl4 := g4.olt
  have O4 := Lib.hid (g4.okeep (w' := (w.alloc (.cells #[.slice A0 n0 c0, .slice A1 n1 c1, .slice A2 n2 c2, .slice A3 n3 c3, .slice A4 n4 c4] 31))) fun b hb => Below.heap_alloc _ _ _ (hl4 b hb))
  have L4 := Lib.hid hl4
  clear hl4
  have D0_1 : Hid (∀ b, b ∈ f0 → b ∉ f1) := fun b hb hm => (List.nodup_append.1 HND.out).2.2 b hb b (List.mem_append_left _ hm) rfl
  have D0_2 : Hid (∀ b, b ∈ f0 → b ∉ f2) := fun b hb hm => (List.nodup_append.1 HND.out).2.2 b hb b (List.mem_append_right _ (List.mem_append_left _ hm)) rfl
  have D0_3 : Hid (∀ b, b ∈ f0 → b ∉ f3) := fun b hb hm => (List.nodup_append.1 HND.out).2.2 b hb b (List.mem_append_right _ (List.mem_append_right _ (List.mem_append_left _ hm))) rfl
  have D0_4 : Hid (∀ b, b ∈ f0 → b ∉ f4) := fun b hb hm => (List.nodup_append.1 HND.out).2.2 b hb b (List.mem_append_right _ (List.mem_append_right _ (List.mem_append_right _ hm))) rfl
  have D1_2 : Hid (∀ b, b ∈ f1 → b ∉ f2) := fun b hb hm => (List.nodup_append.1 (List.nodup_append.1 HND.out).2.1).2.2 b hb b (List.mem_append_left _ hm) rfl
  have D1_3 : Hid (∀ b, b ∈ f1 → b ∉ f3) := fun b hb hm => (List.nodup_append.1 (List.nodup_append.1 HND.out).2.1).2.2 b hb b (List.mem_append_right _ (List.mem_append_left _ hm)) rfl
  have D1_4 : Hid (∀ b, b ∈ f1 → b ∉ f4) := fun b hb hm => (List.nodup_append.1 (List.nodup_append.1 HND.out).2.1).2.2 b hb b (List.mem_append_right _ (List.mem_append_right _ hm)) rfl
  have D2_3 : Hid (∀ b, b ∈ f2 → b ∉ f3) := fun b hb hm => (List.nodup_append.1 (List.nodup_append.1 (List.nodup_append.1 HND.out).2.1).2.1).2.2 b hb b (List.mem_append_left _ hm) rfl
  have D2_4 : Hid (∀ b, b ∈ f2 → b ∉ f4) := fun b hb hm => (List.nodup_append.1 (List.nodup_append.1 (List.nodup_append.1 HND.out).2.1).2.1).2.2 b hb b (List.mem_append_right _ hm) rfl
  have D3_4 : Hid (∀ b, b ∈ f3 → b ∉ f4) := fun b hb hm => (List.nodup_append.1 (List.nodup_append.1 (List.nodup_append.1 (List.nodup_append.1 HND.out).2.1).2.1).2.1).2.2 b hb b hm rfl
  clear ho hnd g0 g1 g2 g3 g4
  go_enter Try.func37, Try.ntmps37
  go_wp2_with fail
  refine (markStringSS_c x.Texts _ _ _ _ _ _ O0.out (List.nodup_append.1 HND.out).1 (by omega) (by omega)).mono ?_
  rintro e v0 ⟨rfl, hch0, fn0, ho0', hnd0', hsub0'⟩
  have CH := Lib.hid (CH.out.trans (hch0.more fun b hb => (List.mem_append_left _ hb)))
  have KB := Lib.hid (KB.out.keep (hch0.block _ KB.out.lt (fun hm => by have := L0.out _ hm; omega)))
  have O1 := Lib.hid (O1.out.okeep fun b hb => hch0.block b (O1.out.olt b hb) (fun hm => D0_1.out b hm hb))
  have O2 := Lib.hid (O2.out.okeep fun b hb => hch0.block b (O2.out.olt b hb) (fun hm => D0_2.out b hm hb))
  have O3 := Lib.hid (O3.out.okeep fun b hb => hch0.block b (O3.out.olt b hb) (fun hm => D0_3.out b hm hb))
  have O4 := Lib.hid (O4.out.okeep fun b hb => hch0.block b (O4.out.olt b hb) (fun hm => D0_4.out b hm hb))
  have O0 := Lib.hid ho0'
  have S0 := Lib.hid (And.intro hnd0' hsub0')
  clear hch0 ho0' hnd0' hsub0'
  have e0_1 := KB.out.cell (i := 1) rfl
  have e0_2 := KB.out.cell (i := 2) rfl
  have e0_3 := KB.out.cell (i := 3) rfl
  have e0_4 := KB.out.cell (i := 4) rfl
  go_wp2_with fail
  refine (markIntS_c x.Heard _ _ _ _ _ _ O1.out (List.nodup_append.1 (List.nodup_append.1 HND.out).2.1).1 (by omega) (by omega)).mono ?_
  rintro e v1 ⟨rfl, hch1, fn1, ho1', hnd1', hsub1'⟩
  have CH := Lib.hid (CH.out.trans (hch1.more fun b hb => (List.mem_append_right _ (List.mem_append_left _ hb))))
  have KB := Lib.hid (KB.out.keep (hch1.block _ KB.out.lt (fun hm => by have := L1.out _ hm; omega)))
  have O0 := Lib.hid (O0.out.okeep fun b hb => hch1.block b (O0.out.olt b hb) (fun hm => D0_1.out b (S0.out.2 b hb) hm))
  have O2 := Lib.hid (O2.out.okeep fun b hb => hch1.block b (O2.out.olt b hb) (fun hm => D1_2.out b hm hb))
  have O3 := Lib.hid (O3.out.okeep fun b hb => hch1.block b (O3.out.olt b hb) (fun hm => D1_3.out b hm hb))
  have O4 := Lib.hid (O4.out.okeep fun b hb => hch1.block b (O4.out.olt b hb) (fun hm => D1_4.out b hm hb))
  have O1 := Lib.hid ho1'
  have S1 := Lib.hid (And.intro hnd1' hsub1')
  clear hch1 ho1' hnd1' hsub1'
  have e1_2 := KB.out.cell (i := 2) rfl
  have e1_3 := KB.out.cell (i := 3) rfl
  have e1_4 := KB.out.cell (i := 4) rfl
  go_wp2_with fail
  refine (markNoteS_c x.Line _ _ _ _ _ _ O2.out (List.nodup_append.1 (List.nodup_append.1 (List.nodup_append.1 HND.out).2.1).2.1).1 (by omega) (by omega)).mono ?_
  rintro e v2 ⟨rfl, hch2, fn2, ho2', hnd2', hsub2'⟩
  have CH := Lib.hid (CH.out.trans (hch2.more fun b hb => (List.mem_append_right _ (List.mem_append_right _ (List.mem_append_left _ hb)))))
  have KB := Lib.hid (KB.out.keep (hch2.block _ KB.out.lt (fun hm => by have := L2.out _ hm; omega)))
  have O0 := Lib.hid (O0.out.okeep fun b hb => hch2.block b (O0.out.olt b hb) (fun hm => D0_2.out b (S0.out.2 b hb) hm))
  have O1 := Lib.hid (O1.out.okeep fun b hb => hch2.block b (O1.out.olt b hb) (fun hm => D1_2.out b (S1.out.2 b hb) hm))
  have O3 := Lib.hid (O3.out.okeep fun b hb => hch2.block b (O3.out.olt b hb) (fun hm => D2_3.out b hm hb))
  have O4 := Lib.hid (O4.out.okeep fun b hb => hch2.block b (O4.out.olt b hb) (fun hm => D2_4.out b hm hb))
  have O2 := Lib.hid ho2'
  have S2 := Lib.hid (And.intro hnd2' hsub2')
  clear hch2 ho2' hnd2' hsub2'
  have e2_3 := KB.out.cell (i := 3) rfl
  have e2_4 := KB.out.cell (i := 4) rfl
  go_wp2_with fail
  refine (markToldS_c x.Log _ _ _ _ _ _ O3.out (List.nodup_append.1 (List.nodup_append.1 (List.nodup_append.1 (List.nodup_append.1 HND.out).2.1).2.1).2.1).1 (by omega) (by omega)).mono ?_
  rintro e v3 ⟨rfl, hch3, fn3, ho3', hnd3', hsub3'⟩
  have CH := Lib.hid (CH.out.trans (hch3.more fun b hb => (List.mem_append_right _ (List.mem_append_right _ (List.mem_append_right _ (List.mem_append_left _ hb))))))
  have KB := Lib.hid (KB.out.keep (hch3.block _ KB.out.lt (fun hm => by have := L3.out _ hm; omega)))
  have O0 := Lib.hid (O0.out.okeep fun b hb => hch3.block b (O0.out.olt b hb) (fun hm => D0_3.out b (S0.out.2 b hb) hm))
  have O1 := Lib.hid (O1.out.okeep fun b hb => hch3.block b (O1.out.olt b hb) (fun hm => D1_3.out b (S1.out.2 b hb) hm))
  have O2 := Lib.hid (O2.out.okeep fun b hb => hch3.block b (O2.out.olt b hb) (fun hm => D2_3.out b (S2.out.2 b hb) hm))
  have O4 := Lib.hid (O4.out.okeep fun b hb => hch3.block b (O4.out.olt b hb) (fun hm => D3_4.out b hm hb))
  have O3 := Lib.hid ho3'
  have S3 := Lib.hid (And.intro hnd3' hsub3')
  clear hch3 ho3' hnd3' hsub3'
  have e3_4 := KB.out.cell (i := 4) rfl
  go_wp2_with fail
  refine (markIntS_c x.Next _ _ _ _ _ _ O4.out (List.nodup_append.1 (List.nodup_append.1 (List.nodup_append.1 (List.nodup_append.1 HND.out).2.1).2.1).2.1).2.1 (by omega) (by omega)).mono ?_
  rintro e v4 ⟨rfl, hch4, fn4, ho4', hnd4', hsub4'⟩
  have CH := Lib.hid (CH.out.trans (hch4.more fun b hb => (List.mem_append_right _ (List.mem_append_right _ (List.mem_append_right _ (List.mem_append_right _ hb))))))
  have KB := Lib.hid (KB.out.keep (hch4.block _ KB.out.lt (fun hm => by have := L4.out _ hm; omega)))
  have O0 := Lib.hid (O0.out.okeep fun b hb => hch4.block b (O0.out.olt b hb) (fun hm => D0_4.out b (S0.out.2 b hb) hm))
  have O1 := Lib.hid (O1.out.okeep fun b hb => hch4.block b (O1.out.olt b hb) (fun hm => D1_4.out b (S1.out.2 b hb) hm))
  have O2 := Lib.hid (O2.out.okeep fun b hb => hch4.block b (O2.out.olt b hb) (fun hm => D2_4.out b (S2.out.2 b hb) hm))
  have O3 := Lib.hid (O3.out.okeep fun b hb => hch4.block b (O3.out.olt b hb) (fun hm => D3_4.out b (S3.out.2 b hb) hm))
  have O4 := Lib.hid ho4'
  have S4 := Lib.hid (And.intro hnd4' hsub4')
  clear hch4 ho4' hnd4' hsub4'
  go_wp2
  go_ret
  refine ⟨ret_int (by have := HCT.out; omega), CH.out, _, rTell_own_mk (x := Pl.topTell x k) O0.out O1.out O2.out O3.out O4.out, ?_, ?_⟩
  · exact (List.nodup_append.2 ⟨S0.out.1, (List.nodup_append.2 ⟨S1.out.1, (List.nodup_append.2 ⟨S2.out.1, (List.nodup_append.2 ⟨S3.out.1, S4.out.1, fun a ha b hb hab => by subst hab; exact D3_4.out a (S3.out.2 a ha) (S4.out.2 a hb)⟩), fun a ha b hb hab => by subst hab; exact (List.mem_append.1 hb).elim (fun hb => D2_3.out a (S2.out.2 a ha) (S3.out.2 a hb)) (fun hb => D2_4.out a (S2.out.2 a ha) (S4.out.2 a hb))⟩), fun a ha b hb hab => by subst hab; exact (List.mem_append.1 hb).elim (fun hb => D1_2.out a (S1.out.2 a ha) (S2.out.2 a hb)) (fun hb => (List.mem_append.1 hb).elim (fun hb => D1_3.out a (S1.out.2 a ha) (S3.out.2 a hb)) (fun hb => D1_4.out a (S1.out.2 a ha) (S4.out.2 a hb)))⟩), fun a ha b hb hab => by subst hab; exact (List.mem_append.1 hb).elim (fun hb => D0_1.out a (S0.out.2 a ha) (S1.out.2 a hb)) (fun hb => (List.mem_append.1 hb).elim (fun hb => D0_2.out a (S0.out.2 a ha) (S2.out.2 a hb)) (fun hb => (List.mem_append.1 hb).elim (fun hb => D0_3.out a (S0.out.2 a ha) (S3.out.2 a hb)) (fun hb => D0_4.out a (S0.out.2 a ha) (S4.out.2 a hb))))⟩)
  · intro b hb
    rcases List.mem_append.1 hb with hb | hb
    · exact (List.mem_append_left _ (S0.out.2 b hb))
    · rcases List.mem_append.1 hb with hb | hb
      · exact (List.mem_append_right _ (List.mem_append_left _ (S1.out.2 b hb)))
      · rcases List.mem_append.1 hb with hb | hb
        · exact (List.mem_append_right _ (List.mem_append_right _ (List.mem_append_left _ (S2.out.2 b hb))))
        · rcases List.mem_append.1 hb with hb | hb
          · exact (List.mem_append_right _ (List.mem_append_right _ (List.mem_append_right _ (List.mem_append_left _ (S3.out.2 b hb)))))
          · exact (List.mem_append_right _ (List.mem_append_right _ (List.mem_append_right _ (List.mem_append_right _ (S4.out.2 b hb)))))
end Go.Proofs.Ytaepohocabealaa

/-
  The laws' own looks for marks. No conditions.
-/
namespace Go.Proofs.Ytaepohocabealaa
open Go.RowKit
attribute [local go_sem] und_cell
set_option maxHeartbeats 2000000 in
theorem heldIntS_c (l : List Int) (A : Option Addr) (n c : Nat) (k : Int) (w : World) (B : Nat) (hl : Mm.SlAt Mm.int w B (Mm.mkL Pl.mkInt Pl.cnt1 l k) A n c) (hB : B ≤ w.heap.size) (h0 : 1 ≤ k) (h1 : k + Mm.cntL Pl.cnt1 l ≤ 1000000000000) :
    Calls Try.prog 75 #[.slice A n c, .int .i64 k] w fun e w' => e = .returned (.int .i64 (k + Mm.cntL Pl.cnt1 l)) ∧ Below w.heap.size w w' := by
  have hn : n ≤ 9223372036854775807 := by have := hl.2.1; have := hl.2.2.1; unfold maxLen at this; omega
  have hlen : Hid (l.length = n) := by have := hl.1; rw [Mm.mkL_len] at this; exact this
  have HL := Lib.hid hl
  have HN : Hid (∀ x : Int, 0 ≤ Pl.cnt1 x) := Pl.cnt1_nn
  clear hl
  go_enter Try.func75, Try.ntmps75
  go_wp2
  go_loopw [1, 5] (fun kk i wr => ∃ j : Nat, j ≤ n ∧ i = .int .i64 j ∧ kk = .int .i64 (k + Mm.cntL Pl.cnt1 (l.take j)) ∧ Below w.heap.size w wr) (fun _ i _ => n - (intOf i).toNat)
  case atStart => exact ⟨0, Nat.zero_le _, rfl, by simp [Mm.cntL], Below.refl _ _⟩
  case round =>
    obtain ⟨j, hj, rfl, rfl, hbel⟩ := hrel
    rename_i wr _
    by_cases hlt : j < n
    · obtain ⟨x, hx⟩ : ∃ x, l[j]? = some x := ⟨_, List.getElem?_eq_getElem (by have := hlen.out; omega)⟩
      have hc1 : Mm.cntL Pl.cnt1 (l.take (j + 1)) = Mm.cntL Pl.cnt1 (l.take j) + Pl.cnt1 x := Mm.cntL_succ hx
      have hc2 := Mm.cntL_take_le HN.out l (j + 1)
      have hc3 := Mm.cntL_nn HN.out (l.take j)
      have hc4 := HN.out x
      have hmg := Mm.mkL_get (mk := Pl.mkInt) (cnt := Pl.cnt1) (k := k) hx
      obtain ⟨kj, hkj⟩ : ∃ kj, k + Mm.cntL Pl.cnt1 (l.take j) = kj := ⟨_, rfl⟩
      rw [hkj]
      rw [hkj] at hmg
      have hk0 : 1 ≤ kj := by omega
      have hk1 : kj + Pl.cnt1 x ≤ 1000000000000 := by omega
      have HX := Lib.hid (And.intro hkj hc1)
      have hBw : B ≤ wr.heap.size := Nat.le_trans hB hbel.size
      obtain ⟨y, b, off, hy, rfl, hb, f0, d0⟩ := int_get (HL.out.keep (w' := wr) (fun b hb => hbel.block b (by omega))) hlt
      have hye : y = Pl.mkInt x kj := by rw [hy] at hmg; injection hmg
      rw [hye] at f0 d0
      clear hy hmg hkj hc1 hc2 hc3 hx hye
      have hcx : Pl.cnt1 x = 1 := rfl
      rw [hcx] at hk1
      have HCX := Lib.hid hcx
      clear hcx hc4
      have d0' : wr.cell? ⟨b, off + j, none⟩ = some (.int .i64 (kj)) := by exact d0
      clear d0
      clear f0
      go_wp2
      go_roundw
      case rel =>
        refine ⟨j + 1, by omega, by go_num, ?_, hbel⟩
        have h3 := HX.out.1; have h4 := HX.out.2; have h5 := HCX.out
        rw [h4]
        show Value.int .i64 _ = Value.int .i64 _
        congr 1
        omega
      case measure => simp [intOf]; omega
    · have HK : Hid (l.take j = l) := List.take_of_length_le (by have := hlen.out; omega)
      go_wp2
      go_ret
      exact ⟨ret_int (by rw [HK.out]), hbel⟩
set_option maxHeartbeats 2000000 in
theorem heldStringS_c (l : List ByteArray) (A : Option Addr) (n c : Nat) (k : Int) (w : World) (B : Nat) (hl : Mm.SlAt Mm.str w B (Mm.mkL Pl.mkStr Pl.cnt1 l k) A n c) (hB : B ≤ w.heap.size) (h0 : 1 ≤ k) (h1 : k + Mm.cntL Pl.cnt1 l ≤ 1000000000000) :
    Calls Try.prog 107 #[.slice A n c, .int .i64 k] w fun e w' => e = .returned (.int .i64 (k + Mm.cntL Pl.cnt1 l)) ∧ Below w.heap.size w w' := by
  have hn : n ≤ 9223372036854775807 := by have := hl.2.1; have := hl.2.2.1; unfold maxLen at this; omega
  have hlen : Hid (l.length = n) := by have := hl.1; rw [Mm.mkL_len] at this; exact this
  have HL := Lib.hid hl
  have HN : Hid (∀ x : ByteArray, 0 ≤ Pl.cnt1 x) := Pl.cnt1_nn
  clear hl
  go_enter Try.func107, Try.ntmps107
  go_wp2
  go_loopw [1, 5] (fun kk i wr => ∃ j : Nat, j ≤ n ∧ i = .int .i64 j ∧ kk = .int .i64 (k + Mm.cntL Pl.cnt1 (l.take j)) ∧ Below w.heap.size w wr) (fun _ i _ => n - (intOf i).toNat)
  case atStart => exact ⟨0, Nat.zero_le _, rfl, by simp [Mm.cntL], Below.refl _ _⟩
  case round =>
    obtain ⟨j, hj, rfl, rfl, hbel⟩ := hrel
    rename_i wr _
    by_cases hlt : j < n
    · obtain ⟨x, hx⟩ : ∃ x, l[j]? = some x := ⟨_, List.getElem?_eq_getElem (by have := hlen.out; omega)⟩
      have hc1 : Mm.cntL Pl.cnt1 (l.take (j + 1)) = Mm.cntL Pl.cnt1 (l.take j) + Pl.cnt1 x := Mm.cntL_succ hx
      have hc2 := Mm.cntL_take_le HN.out l (j + 1)
      have hc3 := Mm.cntL_nn HN.out (l.take j)
      have hc4 := HN.out x
      have hmg := Mm.mkL_get (mk := Pl.mkStr) (cnt := Pl.cnt1) (k := k) hx
      obtain ⟨kj, hkj⟩ : ∃ kj, k + Mm.cntL Pl.cnt1 (l.take j) = kj := ⟨_, rfl⟩
      rw [hkj]
      rw [hkj] at hmg
      have hk0 : 1 ≤ kj := by omega
      have hk1 : kj + Pl.cnt1 x ≤ 1000000000000 := by omega
      have HX := Lib.hid (And.intro hkj hc1)
      have hBw : B ≤ wr.heap.size := Nat.le_trans hB hbel.size
      obtain ⟨y, b, off, hy, rfl, hb, f0, d0⟩ := str_get (HL.out.keep (w' := wr) (fun b hb => hbel.block b (by omega))) hlt
      have hye : y = Pl.mkStr x kj := by rw [hy] at hmg; injection hmg
      rw [hye] at f0 d0
      clear hy hmg hkj hc1 hc2 hc3 hx hye
      have hcx : Pl.cnt1 x = 1 := rfl
      rw [hcx] at hk1
      have HCX := Lib.hid hcx
      clear hcx hc4
      have d0' : wr.cell? ⟨b, off + j, none⟩ = some (.string (Pl.mkText (kj))) := by exact d0
      clear d0
      clear f0
      go_wp2
      refine wp_region_und (by kernel_rfl) (by kernel_rfl) ?_
      repeat (go_big_quiet_step ((first | (go_at_call 69; exact und_call _ (markText_c _ _ (by omega) (by omega))))))
      refine wpQuiet_nil ?_
      intro X hX
      have HB1 := Lib.hid hX
      clear hX
      have HW1 := Lib.hid (below_step hbel HB1.out)
      have HV1 := Lib.hid (HB1.out)
      go_wp2
      go_roundw
      case rel =>
        refine ⟨j + 1, by omega, by go_num, ?_, HW1.out⟩
        have h3 := HX.out.1; have h4 := HX.out.2; have h5 := HCX.out
        rw [h4]
        show Value.int .i64 _ = Value.int .i64 _
        congr 1
        omega
      case measure => simp [intOf]; omega
    · have HK : Hid (l.take j = l) := List.take_of_length_le (by have := hlen.out; omega)
      go_wp2
      go_ret
      exact ⟨ret_int (by rw [HK.out]), hbel⟩
set_option maxHeartbeats 2000000 in
theorem heldBoolS_c (l : List Bool) (A : Option Addr) (n c : Nat) (k : Int) (w : World) (B : Nat) (hl : Mm.SlAt Mm.bool w B (Mm.mkL Pl.mkBool Pl.cnt1 l k) A n c) (hB : B ≤ w.heap.size) (h0 : 1 ≤ k) (h1 : k + Mm.cntL Pl.cnt1 l ≤ 1000000000000) :
    Calls Try.prog 40 #[.slice A n c, .int .i64 k] w fun e w' => e = .returned (.int .i64 (k + Mm.cntL Pl.cnt1 l)) ∧ Below w.heap.size w w' := by
  have hn : n ≤ 9223372036854775807 := by have := hl.2.1; have := hl.2.2.1; unfold maxLen at this; omega
  have hlen : Hid (l.length = n) := by have := hl.1; rw [Mm.mkL_len] at this; exact this
  have HL := Lib.hid hl
  have HN : Hid (∀ x : Bool, 0 ≤ Pl.cnt1 x) := Pl.cnt1_nn
  clear hl
  go_enter Try.func40, Try.ntmps40
  go_wp2
  go_loopw [1, 5] (fun kk i wr => ∃ j : Nat, j ≤ n ∧ i = .int .i64 j ∧ kk = .int .i64 (k + Mm.cntL Pl.cnt1 (l.take j)) ∧ Below w.heap.size w wr) (fun _ i _ => n - (intOf i).toNat)
  case atStart => exact ⟨0, Nat.zero_le _, rfl, by simp [Mm.cntL], Below.refl _ _⟩
  case round =>
    obtain ⟨j, hj, rfl, rfl, hbel⟩ := hrel
    rename_i wr _
    by_cases hlt : j < n
    · obtain ⟨x, hx⟩ : ∃ x, l[j]? = some x := ⟨_, List.getElem?_eq_getElem (by have := hlen.out; omega)⟩
      have hc1 : Mm.cntL Pl.cnt1 (l.take (j + 1)) = Mm.cntL Pl.cnt1 (l.take j) + Pl.cnt1 x := Mm.cntL_succ hx
      have hc2 := Mm.cntL_take_le HN.out l (j + 1)
      have hc3 := Mm.cntL_nn HN.out (l.take j)
      have hc4 := HN.out x
      have hmg := Mm.mkL_get (mk := Pl.mkBool) (cnt := Pl.cnt1) (k := k) hx
      obtain ⟨kj, hkj⟩ : ∃ kj, k + Mm.cntL Pl.cnt1 (l.take j) = kj := ⟨_, rfl⟩
      rw [hkj]
      rw [hkj] at hmg
      have hk0 : 1 ≤ kj := by omega
      have hk1 : kj + Pl.cnt1 x ≤ 1000000000000 := by omega
      have HX := Lib.hid (And.intro hkj hc1)
      have hBw : B ≤ wr.heap.size := Nat.le_trans hB hbel.size
      obtain ⟨y, b, off, hy, rfl, hb, d0⟩ := bool_get (HL.out.keep (w' := wr) (fun b hb => hbel.block b (by omega))) hlt
      have hye : y = Pl.mkBool x kj := by rw [hy] at hmg; injection hmg
      rw [hye] at d0
      clear hy hmg hkj hc1 hc2 hc3 hx hye
      have hcx : Pl.cnt1 x = 1 := rfl
      rw [hcx] at hk1
      have HCX := Lib.hid hcx
      clear hcx hc4
      have d0' : wr.cell? ⟨b, off + j, none⟩ = some (.bool (kj % 3 == 0)) := by exact d0
      clear d0
      go_wp2
      go_roundw
      case rel =>
        refine ⟨j + 1, by omega, by go_num, ?_, hbel⟩
        have h3 := HX.out.1; have h4 := HX.out.2; have h5 := HCX.out
        rw [h4]
        show Value.int .i64 _ = Value.int .i64 _
        congr 1
        omega
      case measure => simp [intOf]; omega
    · have HK : Hid (l.take j = l) := List.take_of_length_le (by have := hlen.out; omega)
      go_wp2
      go_ret
      exact ⟨ret_int (by rw [HK.out]), hbel⟩
set_option maxHeartbeats 2000000 in
theorem heldStringSS_c (l : List (List ByteArray)) (A : Option Addr) (n c : Nat) (k : Int) (w : World) (B : Nat) (hl : Mm.SlAt strs w B (Mm.mkL (Mm.mkL Pl.mkStr Pl.cnt1) (Mm.cntL Pl.cnt1) l k) A n c) (hB : B ≤ w.heap.size) (h0 : 1 ≤ k) (h1 : k + Mm.cntL (Mm.cntL Pl.cnt1) l ≤ 1000000000000) :
    Calls Try.prog 74 #[.slice A n c, .int .i64 k] w fun e w' => e = .returned (.int .i64 (k + Mm.cntL (Mm.cntL Pl.cnt1) l)) ∧ Below w.heap.size w w' := by
  have hn : n ≤ 9223372036854775807 := by have := hl.2.1; have := hl.2.2.1; unfold maxLen at this; omega
  have hlen : Hid (l.length = n) := by have := hl.1; rw [Mm.mkL_len] at this; exact this
  have HL := Lib.hid hl
  have HN : Hid (∀ x : (List ByteArray), 0 ≤ (Mm.cntL Pl.cnt1) x) := Mm.cntL_nn (cnt := Pl.cnt1) (Pl.cnt1_nn)
  clear hl
  go_enter Try.func74, Try.ntmps74
  go_wp2
  go_loopw [1, 5] (fun kk i wr => ∃ j : Nat, j ≤ n ∧ i = .int .i64 j ∧ kk = .int .i64 (k + Mm.cntL (Mm.cntL Pl.cnt1) (l.take j)) ∧ Below w.heap.size w wr) (fun _ i _ => n - (intOf i).toNat)
  case atStart => exact ⟨0, Nat.zero_le _, rfl, by simp [Mm.cntL], Below.refl _ _⟩
  case round =>
    obtain ⟨j, hj, rfl, rfl, hbel⟩ := hrel
    rename_i wr _
    by_cases hlt : j < n
    · obtain ⟨x, hx⟩ : ∃ x, l[j]? = some x := ⟨_, List.getElem?_eq_getElem (by have := hlen.out; omega)⟩
      have hc1 : Mm.cntL (Mm.cntL Pl.cnt1) (l.take (j + 1)) = Mm.cntL (Mm.cntL Pl.cnt1) (l.take j) + (Mm.cntL Pl.cnt1) x := Mm.cntL_succ hx
      have hc2 := Mm.cntL_take_le HN.out l (j + 1)
      have hc3 := Mm.cntL_nn HN.out (l.take j)
      have hc4 := HN.out x
      have hmg := Mm.mkL_get (mk := (Mm.mkL Pl.mkStr Pl.cnt1)) (cnt := (Mm.cntL Pl.cnt1)) (k := k) hx
      obtain ⟨kj, hkj⟩ : ∃ kj, k + Mm.cntL (Mm.cntL Pl.cnt1) (l.take j) = kj := ⟨_, rfl⟩
      rw [hkj]
      rw [hkj] at hmg
      have hk0 : 1 ≤ kj := by omega
      have hk1 : kj + (Mm.cntL Pl.cnt1) x ≤ 1000000000000 := by omega
      have HX := Lib.hid (And.intro hkj hc1)
      have hBw : B ≤ wr.heap.size := Nat.le_trans hB hbel.size
      obtain ⟨y, b, off, P, p, q, hy, rfl, hb, f0, d0⟩ := strs_get (HL.out.keep (w' := wr) (fun b hb => hbel.block b (by omega))) hlt
      have hye : y = (Mm.mkL Pl.mkStr Pl.cnt1) x kj := by rw [hy] at hmg; injection hmg
      rw [hye] at f0
      clear hy hmg hkj hc1 hc2 hc3 hx hye
      have hcx : (Mm.cntL Pl.cnt1) x = (Mm.cntL Pl.cnt1) x := rfl
      have HCX := Lib.hid hcx
      clear hcx
      have HF := Lib.hid f0
      clear f0
      go_wp2_with fail
      refine (heldStringS_c x _ _ _ _ _ B (Mm.SlAt.keep (w' := _) HF.out (fun b hb => rfl)) (hBw) (by omega) (by omega)).mono ?_
      rintro e v1 ⟨rfl, hb1⟩
      have HB1 := Lib.hid hb1
      clear hb1
      have HW1 := Lib.hid (below_step hbel HB1.out)
      have HV1 := Lib.hid (HB1.out)
      go_wp2
      go_roundw
      case rel =>
        refine ⟨j + 1, by omega, by go_num, ?_, HW1.out⟩
        have h3 := HX.out.1; have h4 := HX.out.2; have h5 := HCX.out
        rw [h4]
        show Value.int .i64 _ = Value.int .i64 _
        congr 1
        omega
      case measure => simp [intOf]; omega
    · have HK : Hid (l.take j = l) := List.take_of_length_le (by have := hlen.out; omega)
      go_wp2
      go_ret
      exact ⟨ret_int (by rw [HK.out]), hbel⟩
set_option maxHeartbeats 2000000 in
theorem heldToldS_c (l : List Told) (A : Option Addr) (n c : Nat) (k : Int) (w : World) (B : Nat) (hl : Mm.SlAt rTold w B (Mm.mkL Pl.mkTold Pl.cntTold l k) A n c) (hB : B ≤ w.heap.size) (h0 : 1 ≤ k) (h1 : k + Mm.cntL Pl.cntTold l ≤ 1000000000000) :
    Calls Try.prog 77 #[.slice A n c, .int .i64 k] w fun e w' => e = .returned (.int .i64 (k + Mm.cntL Pl.cntTold l)) ∧ Below w.heap.size w w' := by
  have hn : n ≤ 9223372036854775807 := by have := hl.2.1; have := hl.2.2.1; unfold maxLen at this; omega
  have hlen : Hid (l.length = n) := by have := hl.1; rw [Mm.mkL_len] at this; exact this
  have HL := Lib.hid hl
  have HN : Hid (∀ x : Told, 0 ≤ Pl.cntTold x) := Pl.cntTold_nn
  clear hl
  go_enter Try.func77, Try.ntmps77
  go_wp2
  go_loopw [1, 5] (fun kk i wr => ∃ j : Nat, j ≤ n ∧ i = .int .i64 j ∧ kk = .int .i64 (k + Mm.cntL Pl.cntTold (l.take j)) ∧ Below w.heap.size w wr) (fun _ i _ => n - (intOf i).toNat)
  case atStart => exact ⟨0, Nat.zero_le _, rfl, by simp [Mm.cntL], Below.refl _ _⟩
  case round =>
    obtain ⟨j, hj, rfl, rfl, hbel⟩ := hrel
    rename_i wr _
    by_cases hlt : j < n
    · obtain ⟨x, hx⟩ : ∃ x, l[j]? = some x := ⟨_, List.getElem?_eq_getElem (by have := hlen.out; omega)⟩
      have hc1 : Mm.cntL Pl.cntTold (l.take (j + 1)) = Mm.cntL Pl.cntTold (l.take j) + Pl.cntTold x := Mm.cntL_succ hx
      have hc2 := Mm.cntL_take_le HN.out l (j + 1)
      have hc3 := Mm.cntL_nn HN.out (l.take j)
      have hc4 := HN.out x
      have hmg := Mm.mkL_get (mk := Pl.mkTold) (cnt := Pl.cntTold) (k := k) hx
      obtain ⟨kj, hkj⟩ : ∃ kj, k + Mm.cntL Pl.cntTold (l.take j) = kj := ⟨_, rfl⟩
      rw [hkj]
      rw [hkj] at hmg
      have hk0 : 1 ≤ kj := by omega
      have hk1 : kj + Pl.cntTold x ≤ 1000000000000 := by omega
      have HX := Lib.hid (And.intro hkj hc1)
      have hBw : B ≤ wr.heap.size := Nat.le_trans hB hbel.size
      obtain ⟨y, b, off, hy, rfl, hb, f0, f1, f2, d0, d1, d2⟩ := rTold_get (HL.out.keep (w' := wr) (fun b hb => hbel.block b (by omega))) hlt
      have hye : y = Pl.mkTold x kj := by rw [hy] at hmg; injection hmg
      rw [hye] at f0 f1 f2 d0 d1 d2
      clear hy hmg hkj hc1 hc2 hc3 hx hye
      have hcx : Pl.cntTold x = 1 + 1 + 1 := rfl
      rw [hcx] at hk1 hc4
      have HCX := Lib.hid hcx
      clear hcx hc4
      have d0' : wr.cell? ⟨b, off + j * 3, none⟩ = some (.int .i64 (kj)) := by exact d0
      clear d0
      have d1' : wr.cell? ⟨b, off + j * 3 + 1, none⟩ = some (.int .i64 ((kj + 1))) := by exact d1
      clear d1
      have d2' : wr.cell? ⟨b, off + j * 3 + 2, none⟩ = some (.string (Pl.mkText (((kj + 1) + 1)))) := by exact d2
      clear d2
      clear f0 f1 f2
      go_wp2
      refine wp_region_und (by kernel_rfl) (by kernel_rfl) ?_
      repeat (go_big_quiet_step ((first | (go_at_call 69; exact und_call _ (markText_c _ _ (by omega) (by omega))))))
      refine wpQuiet_nil ?_
      intro X hX
      have HB1 := Lib.hid hX
      clear hX
      have HW1 := Lib.hid (below_step hbel HB1.out)
      have HV1 := Lib.hid (HB1.out)
      go_wp2
      go_roundw
      case rel =>
        refine ⟨j + 1, by omega, by go_num, ?_, HW1.out⟩
        have h3 := HX.out.1; have h4 := HX.out.2; have h5 := HCX.out
        rw [h4]
        show Value.int .i64 _ = Value.int .i64 _
        congr 1
        omega
      case measure => simp [intOf]; omega
    · have HK : Hid (l.take j = l) := List.take_of_length_le (by have := hlen.out; omega)
      go_wp2
      go_ret
      exact ⟨ret_int (by rw [HK.out]), hbel⟩
set_option maxHeartbeats 2000000 in
theorem heldNoteS_c (l : List Note) (A : Option Addr) (n c : Nat) (k : Int) (w : World) (B : Nat) (hl : Mm.SlAt rNote w B (Mm.mkL Pl.mkNote Pl.cntNote l k) A n c) (hB : B ≤ w.heap.size) (h0 : 1 ≤ k) (h1 : k + Mm.cntL Pl.cntNote l ≤ 1000000000000) :
    Calls Try.prog 76 #[.slice A n c, .int .i64 k] w fun e w' => e = .returned (.int .i64 (k + Mm.cntL Pl.cntNote l)) ∧ Below w.heap.size w w' := by
  have hn : n ≤ 9223372036854775807 := by have := hl.2.1; have := hl.2.2.1; unfold maxLen at this; omega
  have hlen : Hid (l.length = n) := by have := hl.1; rw [Mm.mkL_len] at this; exact this
  have HL := Lib.hid hl
  have HN : Hid (∀ x : Note, 0 ≤ Pl.cntNote x) := Pl.cntNote_nn
  clear hl
  go_enter Try.func76, Try.ntmps76
  go_wp2
  go_loopw [1, 5] (fun kk i wr => ∃ j : Nat, j ≤ n ∧ i = .int .i64 j ∧ kk = .int .i64 (k + Mm.cntL Pl.cntNote (l.take j)) ∧ Below w.heap.size w wr) (fun _ i _ => n - (intOf i).toNat)
  case atStart => exact ⟨0, Nat.zero_le _, rfl, by simp [Mm.cntL], Below.refl _ _⟩
  case round =>
    obtain ⟨j, hj, rfl, rfl, hbel⟩ := hrel
    rename_i wr _
    by_cases hlt : j < n
    · obtain ⟨x, hx⟩ : ∃ x, l[j]? = some x := ⟨_, List.getElem?_eq_getElem (by have := hlen.out; omega)⟩
      have hc1 : Mm.cntL Pl.cntNote (l.take (j + 1)) = Mm.cntL Pl.cntNote (l.take j) + Pl.cntNote x := Mm.cntL_succ hx
      have hc2 := Mm.cntL_take_le HN.out l (j + 1)
      have hc3 := Mm.cntL_nn HN.out (l.take j)
      have hc4 := HN.out x
      have hmg := Mm.mkL_get (mk := Pl.mkNote) (cnt := Pl.cntNote) (k := k) hx
      obtain ⟨kj, hkj⟩ : ∃ kj, k + Mm.cntL Pl.cntNote (l.take j) = kj := ⟨_, rfl⟩
      rw [hkj]
      rw [hkj] at hmg
      have hk0 : 1 ≤ kj := by omega
      have hk1 : kj + Pl.cntNote x ≤ 1000000000000 := by omega
      have HX := Lib.hid (And.intro hkj hc1)
      have hBw : B ≤ wr.heap.size := Nat.le_trans hB hbel.size
      obtain ⟨y, b, off, hy, rfl, hb, f0, f1, f2, d0, d1, d2, d3⟩ := rNote_get (HL.out.keep (w' := wr) (fun b hb => hbel.block b (by omega))) hlt
      have hye : y = Pl.mkNote x kj := by rw [hy] at hmg; injection hmg
      rw [hye] at f0 f1 f2 d0 d1 d2 d3
      clear hy hmg hkj hc1 hc2 hc3 hx hye
      have hcx : Pl.cntNote x = 1 + 1 + 1 + 1 := rfl
      rw [hcx] at hk1 hc4
      have HCX := Lib.hid hcx
      clear hcx hc4
      have d0' : wr.cell? ⟨b, off + j * 4, none⟩ = some (.bool (kj % 3 == 0)) := by exact d0
      clear d0
      have d1' : wr.cell? ⟨b, off + j * 4 + 1, none⟩ = some (.int .i64 ((kj + 1))) := by exact d1
      clear d1
      have d2' : wr.cell? ⟨b, off + j * 4 + 2, none⟩ = some (.int .i64 (((kj + 1) + 1))) := by exact d2
      clear d2
      have d3' : wr.cell? ⟨b, off + j * 4 + 3, none⟩ = some (.string (Pl.mkText ((((kj + 1) + 1) + 1)))) := by exact d3
      clear d3
      clear f0 f1 f2
      go_wp2
      refine wp_region_und (by kernel_rfl) (by kernel_rfl) ?_
      repeat (go_big_quiet_step ((first | (go_at_call 69; exact und_call _ (markText_c _ _ (by omega) (by omega))))))
      refine wpQuiet_nil ?_
      intro X hX
      have HB1 := Lib.hid hX
      clear hX
      have HW1 := Lib.hid (below_step hbel HB1.out)
      have HV1 := Lib.hid (HB1.out)
      go_wp2
      go_roundw
      case rel =>
        refine ⟨j + 1, by omega, by go_num, ?_, HW1.out⟩
        have h3 := HX.out.1; have h4 := HX.out.2; have h5 := HCX.out
        rw [h4]
        show Value.int .i64 _ = Value.int .i64 _
        congr 1
        omega
      case measure => simp [intOf]; omega
    · have HK : Hid (l.take j = l) := List.take_of_length_le (by have := hlen.out; omega)
      go_wp2
      go_ret
      exact ⟨ret_int (by rw [HK.out]), hbel⟩
set_option maxHeartbeats 2000000 in
theorem heldTell_c (x : Tell) (cs : List Value) (k : Int) (w : World) (B : Nat) (ha : rTell.at_ w B (Pl.topTell x k) cs) (hB : B ≤ w.heap.size) (h0 : 1 ≤ k) (h1 : k + Pl.ctopTell x ≤ 1000000000000) :
    Calls Try.prog 39 #[.agg cs.toArray, .int .i64 k] w fun e w' => e = .returned (.int .i64 (k + Pl.ctopTell x)) ∧ Below w.heap.size w w' := by
  obtain ⟨A0, n0, c0, A1, n1, c1, A2, n2, c2, A3, n3, c3, A4, n4, c4, rfl, g0, g1, g2, g3, g4⟩ := rTell_at ha
  have hq0 := Mm.cntL_nn (cnt := (Mm.cntL Pl.cnt1)) (Mm.cntL_nn (cnt := Pl.cnt1) (Pl.cnt1_nn)) x.Texts
  have hq1 := Mm.cntL_nn (cnt := Pl.cnt1) (Pl.cnt1_nn) x.Heard
  have hq2 := Mm.cntL_nn (cnt := Pl.cntNote) (Pl.cntNote_nn) x.Line
  have hq3 := Mm.cntL_nn (cnt := Pl.cntTold) (Pl.cntTold_nn) x.Log
  have hq4 := Mm.cntL_nn (cnt := Pl.cnt1) (Pl.cnt1_nn) x.Next
  have hct : Pl.ctopTell x = (Mm.cntL (Mm.cntL Pl.cnt1)) x.Texts + (Mm.cntL Pl.cnt1) x.Heard + (Mm.cntL Pl.cntNote) x.Line + (Mm.cntL Pl.cntTold) x.Log + (Mm.cntL Pl.cnt1) x.Next := rfl
  rw [hct] at h1
  have HCT := Lib.hid hct
  clear hct
  have KB := Lib.hid (Mm.Blk.new w 31 [.slice A0 n0 c0, .slice A1 n1 c1, .slice A2 n2 c2, .slice A3 n3 c3, .slice A4 n4 c4])
  have HB := Lib.hid (below_new (Below.refl w.heap.size w) (.cells #[.slice A0 n0 c0, .slice A1 n1 c1, .slice A2 n2 c2, .slice A3 n3 c3, .slice A4 n4 c4] 31))
  have HG := Lib.hid (And.intro hB (And.intro g0 (And.intro g1 (And.intro g2 (And.intro g3 g4)))))
  clear ha g0 g1 g2 g3 g4
  go_enter Try.func39, Try.ntmps39
  go_wp2_with fail
  refine (heldStringSS_c x.Texts _ _ _ _ _ B (HG.out.2.1.keep fun b hb => HB.out.block b (Nat.lt_of_lt_of_le hb HG.out.1)) (Nat.le_trans HG.out.1 HB.out.size) (by omega) (by omega)).mono ?_
  rintro e v0 ⟨rfl, hb0⟩
  have HB := Lib.hid (below_step HB.out hb0)
  have KB := Lib.hid (KB.out.bel hb0)
  clear hb0
  have e0_1 := KB.out.cell (i := 1) rfl
  have e0_2 := KB.out.cell (i := 2) rfl
  have e0_3 := KB.out.cell (i := 3) rfl
  have e0_4 := KB.out.cell (i := 4) rfl
  go_wp2_with fail
  refine (heldIntS_c x.Heard _ _ _ _ _ B (HG.out.2.2.1.keep fun b hb => HB.out.block b (Nat.lt_of_lt_of_le hb HG.out.1)) (Nat.le_trans HG.out.1 HB.out.size) (by omega) (by omega)).mono ?_
  rintro e v1 ⟨rfl, hb1⟩
  have HB := Lib.hid (below_step HB.out hb1)
  have KB := Lib.hid (KB.out.bel hb1)
  clear hb1
  have e1_2 := KB.out.cell (i := 2) rfl
  have e1_3 := KB.out.cell (i := 3) rfl
  have e1_4 := KB.out.cell (i := 4) rfl
  go_wp2_with fail
  refine (heldNoteS_c x.Line _ _ _ _ _ B (HG.out.2.2.2.1.keep fun b hb => HB.out.block b (Nat.lt_of_lt_of_le hb HG.out.1)) (Nat.le_trans HG.out.1 HB.out.size) (by omega) (by omega)).mono ?_
  rintro e v2 ⟨rfl, hb2⟩
  have HB := Lib.hid (below_step HB.out hb2)
  have KB := Lib.hid (KB.out.bel hb2)
  clear hb2
  have e2_3 := KB.out.cell (i := 3) rfl
  have e2_4 := KB.out.cell (i := 4) rfl
  go_wp2_with fail
  refine (heldToldS_c x.Log _ _ _ _ _ B (HG.out.2.2.2.2.1.keep fun b hb => HB.out.block b (Nat.lt_of_lt_of_le hb HG.out.1)) (Nat.le_trans HG.out.1 HB.out.size) (by omega) (by omega)).mono ?_
  rintro e v3 ⟨rfl, hb3⟩
  have HB := Lib.hid (below_step HB.out hb3)
  have KB := Lib.hid (KB.out.bel hb3)
  clear hb3
  have e3_4 := KB.out.cell (i := 4) rfl
  go_wp2_with fail
  refine (heldIntS_c x.Next _ _ _ _ _ B (HG.out.2.2.2.2.2.keep fun b hb => HB.out.block b (Nat.lt_of_lt_of_le hb HG.out.1)) (Nat.le_trans HG.out.1 HB.out.size) (by omega) (by omega)).mono ?_
  rintro e v4 ⟨rfl, hb4⟩
  have HB := Lib.hid (below_step HB.out hb4)
  have KB := Lib.hid (KB.out.bel hb4)
  clear hb4
  go_wp2
  go_ret
  exact ⟨ret_int (by have := HCT.out; omega), HB.out⟩
end Go.Proofs.Ytaepohocabealaa

/-
  The walk of the law on StepTell. No conditions.
-/
namespace Go.Proofs.Ytaepohocabealaa
open Go.RowKit
theorem cntL_le' {α : Type} {f : α → Int} {c : Int} : ∀ l : List α, (∀ x, x ∈ l → f x ≤ c) → Mm.cntL f l ≤ c * (l.length : Int)
  | [], _ => by simp [Mm.cntL]
  | x :: t, h => by
    have h1 := cntL_le' t (fun y hy => h y (List.mem_cons_of_mem _ hy))
    have h2 := h x List.mem_cons_self
    rw [Mm.cntL_cons, List.length_cons]
    have : c * ((t.length + 1 : Nat) : Int) = c * (t.length : Int) + c := by push_cast; rw [Int.mul_add, Int.mul_one]
    omega
theorem Pl.TSz.cnt {t : Tell} (h : Pl.TSz t) : Pl.ctopTell t ≤ 50000000 := by
  have h0 : Mm.cntL (Mm.cntL Pl.cnt1) t.Texts ≤ 20 * (t.Texts.length : Int) := cntL_le' _ (fun x hx => by
    obtain ⟨k, hk⟩ := List.mem_iff_getElem?.1 hx
    have h1 := cntL_le' (f := Pl.cnt1) (c := 1) x (fun y _ => by unfold Pl.cnt1; omega)
    have h2 := h.texts k x hk
    omega)
  have h1 := cntL_le' (f := Pl.cnt1) (c := 1) t.Heard (fun y _ => by unfold Pl.cnt1; omega)
  have h2 := cntL_le' (f := Pl.cntNote) (c := 4) t.Line (fun y _ => by unfold Pl.cntNote; omega)
  have h3 := cntL_le' (f := Pl.cntTold) (c := 3) t.Log (fun y _ => by unfold Pl.cntTold; omega)
  have h4 := cntL_le' (f := Pl.cnt1) (c := 1) t.Next (fun y _ => by unfold Pl.cnt1; omega)
  have := h.n4; have := h.heard; have := h.line; have := h.log; have := h.next
  unfold Pl.ctopTell
  omega
theorem zTe_sz : Pl.TSz Pl.zTe := ⟨by decide, by decide, by decide, by decide, by decide, fun k l h => by simp [Pl.zTe] at h⟩
theorem stepTell_cnt (t : Tell) (s : TellStep) : Pl.ctopTell (Pl.stepTell t s).1 ≤ 50000000 := by
  unfold Pl.stepTell
  split
  · rename_i h
    exact ((Pl.good_wf h.1).step s).sz.cnt
  · exact zTe_sz.cnt
attribute [local go_sem] und_cell cha_cell World.cell?_alloc_some
def gPT_StepTell (x : Tell) : Mm.Rel := fun _ _ v ds => ∃ (A0_p13 : Option Addr) (n0_p13 c0_p13 : Nat) (A1_p13 : Option Addr) (n1_p13 c1_p13 : Nat) (A2_p13 : Option Addr) (n2_p13 c2_p13 : Nat) (A3_p13 : Option Addr) (n3_p13 c3_p13 : Nat) (A4_p13 : Option Addr) (n4_p13 c4_p13 : Nat) (fp : List Nat), v = .agg #[.slice A0_p13 n0_p13 c0_p13, .slice A1_p13 n1_p13 c1_p13, .slice A2_p13 n2_p13 c2_p13, .slice A3_p13 n3_p13 c3_p13, .slice A4_p13 n4_p13 c4_p13] ∧ ds = [Mm.tow rTell x [.slice A0_p13 n0_p13 c0_p13, .slice A1_p13 n1_p13 c1_p13, .slice A2_p13 n2_p13 c2_p13, .slice A3_p13 n3_p13 c3_p13, .slice A4_p13 n4_p13 c4_p13] fp]
def gPR_StepTell (x : Tell) (b : Bool) : Mm.Rel := fun _ _ v ds => ∃ (A0_q13 : Option Addr) (n0_q13 c0_q13 : Nat) (A1_q13 : Option Addr) (n1_q13 c1_q13 : Nat) (A2_q13 : Option Addr) (n2_q13 c2_q13 : Nat) (A3_q13 : Option Addr) (n3_q13 c3_q13 : Nat) (A4_q13 : Option Addr) (n4_q13 c4_q13 : Nat) (fp : List Nat), v = .tuple #[.agg #[.slice A0_q13 n0_q13 c0_q13, .slice A1_q13 n1_q13 c1_q13, .slice A2_q13 n2_q13 c2_q13, .slice A3_q13 n3_q13 c3_q13, .slice A4_q13 n4_q13 c4_q13], .bool b] ∧ ds = [Mm.tow rTell x [.slice A0_q13 n0_q13 c0_q13, .slice A1_q13 n1_q13 c1_q13, .slice A2_q13 n2_q13 c2_q13, .slice A3_q13 n3_q13 c3_q13, .slice A4_q13 n4_q13 c4_q13] fp]
theorem gPT_StepTell_in {x : Tell} {vals : List Value} {tk : List Mm.Thing} : ∃ v ds, gPT_StepTell x vals tk v ds := ⟨_, _, none, 0, 0, none, 0, 0, none, 0, 0, none, 0, 0, none, 0, 0, [], rfl, rfl⟩
theorem gPR_StepTell_in {x : Tell} {b : Bool} {vals : List Value} {tk : List Mm.Thing} : ∃ v ds, gPR_StepTell x b vals tk v ds := ⟨_, _, none, 0, 0, none, 0, 0, none, 0, 0, none, 0, 0, none, 0, 0, [], rfl, rfl⟩
set_option maxRecDepth 100000 in
set_option maxHeartbeats 4000000 in
theorem walk_FnExactStepTell (cs_t : List Value) (t : Tell) (cs_s : List Value) (s : TellStep) (w : World) (r_t : rTell.at_ w w.heap.size t cs_t) (r_s : rTellStep.at_ w w.heap.size s cs_s) :
    Calls Try.prog 7 #[.agg cs_t.toArray, .agg cs_s.toArray] w fun e w' => e = .returned (.bool true) ∧ Below w.heap.size w w' := by
  have hopen_t := rTell_at r_t
  obtain ⟨A0_t, n0_t, c0_t, A1_t, n1_t, c1_t, A2_t, n2_t, c2_t, A3_t, n3_t, c3_t, A4_t, n4_t, c4_t, rfl, -⟩ := hopen_t
  have zn_t := Pl.szTell_nn t
  obtain ⟨rfl, hmi_s⟩ := rTellStep_at r_s
  have HMI_s := Lib.hid hmi_s
  clear hmi_s
  have zn_s := Pl.szTellStep_nn s
  have HT0 := Lib.hid (show Below w.heap.size w ((w.alloc (.cells #[.slice A0_t n0_t c0_t, .slice A1_t n1_t c1_t, .slice A2_t n2_t c2_t, .slice A3_t n3_t c3_t, .slice A4_t n4_t c4_t] 74)).alloc (.cells #[.int .i64 s.Kind, .int .i64 s.K, .string s.Text] 78)) from (below_new (below_new (Below.refl w.heap.size w) _) _))
  have KP_t := Lib.hid (show Mm.Blk ((w.alloc (.cells #[.slice A0_t n0_t c0_t, .slice A1_t n1_t c1_t, .slice A2_t n2_t c2_t, .slice A3_t n3_t c3_t, .slice A4_t n4_t c4_t] 74)).alloc (.cells #[.int .i64 s.Kind, .int .i64 s.K, .string s.Text] 78)) w.heap.size 74 [.slice A0_t n0_t c0_t, .slice A1_t n1_t c1_t, .slice A2_t n2_t c2_t, .slice A3_t n3_t c3_t, .slice A4_t n4_t c4_t] from ((Mm.Blk.new' w 74 [.slice A0_t n0_t c0_t, .slice A1_t n1_t c1_t, .slice A2_t n2_t c2_t, .slice A3_t n3_t c3_t, .slice A4_t n4_t c4_t] rfl).alloc (.cells #[.int .i64 s.Kind, .int .i64 s.K, .string s.Text] 78)))
  have KP_s := Lib.hid (show Mm.Blk ((w.alloc (.cells #[.slice A0_t n0_t c0_t, .slice A1_t n1_t c1_t, .slice A2_t n2_t c2_t, .slice A3_t n3_t c3_t, .slice A4_t n4_t c4_t] 74)).alloc (.cells #[.int .i64 s.Kind, .int .i64 s.K, .string s.Text] 78)) (w.heap.size + 1) 78 [.int .i64 s.Kind, .int .i64 s.K, .string s.Text] from (Mm.Blk.new' (w.alloc (.cells #[.slice A0_t n0_t c0_t, .slice A1_t n1_t c1_t, .slice A2_t n2_t c2_t, .slice A3_t n3_t c3_t, .slice A4_t n4_t c4_t] 74)) 78 [.int .i64 s.Kind, .int .i64 s.K, .string s.Text] (Mm.sz1 _ _)))
  have HR_t := Lib.hid (rTell.keep r_t fun b hb' => HT0.out.block b hb')
  have HB_t := Lib.hid HT0.out.size
  clear r_t r_s
  by_cases t_t : (1048576 - Pl.szTell t : Int) < 0
  · skip
    go_enter Try.func7, Try.ntmps7
    go_wp2_with fail
    refine (szTell_at t _ _ _ w.heap.size HR_t.out HB_t.out (by omega) (by omega)).mono ?_
    rintro e y1 ⟨rfl, hbz⟩
    rw [Pl.szRet_lt (by omega)]
    have HR_t := Lib.hid (rTell.keep HR_t.out fun b hb' => hbz.block b (Nat.lt_of_lt_of_le hb' HB_t.out))
    have HB_t := Lib.hid (Nat.le_trans HB_t.out hbz.size)
    have KP_t := Lib.hid (KP_t.out.bel hbz)
    have KP_s := Lib.hid (KP_s.out.bel hbz)
    have HT2 := Lib.hid (below_step HT0.out hbz)
    clear hbz
    go_wp2
    go_ret
    exact ⟨rfl, HT2.out⟩
  · skip
    by_cases t_s : (1048576 - Pl.szTell t - Pl.szTellStep s : Int) < 0
    · skip
      go_enter Try.func7, Try.ntmps7
      go_wp2_with fail
      refine (szTell_at t _ _ _ w.heap.size HR_t.out HB_t.out (by omega) (by omega)).mono ?_
      rintro e y3 ⟨rfl, hbz⟩
      rw [Pl.szRet_ge (by omega)]
      have HR_t := Lib.hid (rTell.keep HR_t.out fun b hb' => hbz.block b (Nat.lt_of_lt_of_le hb' HB_t.out))
      have HB_t := Lib.hid (Nat.le_trans HB_t.out hbz.size)
      have KP_t := Lib.hid (KP_t.out.bel hbz)
      have KP_s := Lib.hid (KP_s.out.bel hbz)
      have HT4 := Lib.hid (below_step HT0.out hbz)
      clear hbz
      have c6_KP_s_0 := KP_s.out.cell (i := 0) rfl
      have c6_KP_s_1 := KP_s.out.cell (i := 1) rfl
      have c6_KP_s_2 := KP_s.out.cell (i := 2) rfl
      go_wp2_with fail
      refine (szTellStep_c s _ _ 0 HMI_s.out.2.2 (Nat.zero_le _) (by omega) (by omega)).mono ?_
      rintro e y5 ⟨rfl, hbz⟩
      rw [Pl.szRet_lt (by omega)]
      have HR_t := Lib.hid (rTell.keep HR_t.out fun b hb' => hbz.block b (Nat.lt_of_lt_of_le hb' HB_t.out))
      have HB_t := Lib.hid (Nat.le_trans HB_t.out hbz.size)
      have KP_t := Lib.hid (KP_t.out.bel hbz)
      have KP_s := Lib.hid (KP_s.out.bel hbz)
      have HT7 := Lib.hid (below_step HT4.out hbz)
      clear hbz
      go_wp2
      go_ret
      exact ⟨rfl, HT7.out⟩
    · skip
      go_enter Try.func7, Try.ntmps7
      go_wp2_with fail
      refine (szTell_at t _ _ _ w.heap.size HR_t.out HB_t.out (by omega) (by omega)).mono ?_
      rintro e y8 ⟨rfl, hbz⟩
      rw [Pl.szRet_ge (by omega)]
      have HR_t := Lib.hid (rTell.keep HR_t.out fun b hb' => hbz.block b (Nat.lt_of_lt_of_le hb' HB_t.out))
      have HB_t := Lib.hid (Nat.le_trans HB_t.out hbz.size)
      have KP_t := Lib.hid (KP_t.out.bel hbz)
      have KP_s := Lib.hid (KP_s.out.bel hbz)
      have HT9 := Lib.hid (below_step HT0.out hbz)
      clear hbz
      have c11_KP_s_0 := KP_s.out.cell (i := 0) rfl
      have c11_KP_s_1 := KP_s.out.cell (i := 1) rfl
      have c11_KP_s_2 := KP_s.out.cell (i := 2) rfl
      go_wp2_with fail
      refine (szTellStep_c s _ _ 0 HMI_s.out.2.2 (Nat.zero_le _) (by omega) (by omega)).mono ?_
      rintro e y10 ⟨rfl, hbz⟩
      rw [Pl.szRet_ge (by omega)]
      have HR_t := Lib.hid (rTell.keep HR_t.out fun b hb' => hbz.block b (Nat.lt_of_lt_of_le hb' HB_t.out))
      have HB_t := Lib.hid (Nat.le_trans HB_t.out hbz.size)
      have KP_t := Lib.hid (KP_t.out.bel hbz)
      have KP_s := Lib.hid (KP_s.out.bel hbz)
      have HT12 := Lib.hid (below_step HT9.out hbz)
      clear hbz
      go_wp2_with fail
      have c14_KP_t_0 := KP_t.out.cell (i := 0) rfl
      have c14_KP_t_1 := KP_t.out.cell (i := 1) rfl
      have c14_KP_t_2 := KP_t.out.cell (i := 2) rfl
      have c14_KP_t_3 := KP_t.out.cell (i := 3) rfl
      have c14_KP_t_4 := KP_t.out.cell (i := 4) rfl
      have c14_KP_s_0 := KP_s.out.cell (i := 0) rfl
      have c14_KP_s_1 := KP_s.out.cell (i := 1) rfl
      have c14_KP_s_2 := KP_s.out.cell (i := 2) rfl
      refine Mm.wp_region_give 10 (fun i => match i with | 1 => some (gPT_StepTell t) | 3 => some (Mm.gVal (.agg #[.int .i64 s.Kind, .int .i64 s.K, .string s.Text])) | 4 => some (gPR_StepTell (Pl.stepTell t s).1 (Pl.stepTell t s).2) | 8 => some (Mm.gPtr 31 [.slice none 0 0, .slice none 0 0, .slice none 0 0, .slice none 0 0, .slice none 0 0]) | 9 => some (Mm.gSto 31) | _ => none) (fun i => match i with | 4 => [1] | 9 => [8] | _ => []) (fun _ => []) (F := []) (D := fun w' => ∃ x : Und y10, w' = und y10 x) (fun X us h => Mm.sep_und h) (by kernel_rfl) (by kernel_rfl) (by kernel_rfl) (Mm.SepF.startDrew _) ?_
      repeat (refine Mm.give_det (by rfl) (by rfl) (by rfl) (fun K hK => ?_); go_big_quiet_op; refine hK _ ?_; clear hK K)
      refine Mm.give_op0 _ (by rfl) rfl rfl (by rfl) (by rfl) (by rfl) gPT_StepTell_in (fun others X hX => ?_) ?_
      · go_wp2_with (go_at_call 42; refine (toTell_at t _ X w.heap.size (rTell.keep HR_t.out fun b hb => hX.bel0.block b (Nat.lt_of_lt_of_le hb HB_t.out)) (Nat.le_trans HB_t.out hX.chg.size) (by omega)).mono ?_; rintro e w5 ⟨cs5, fp5, rfl, ho, hnd, hnew, hb5⟩; obtain ⟨A0_p13, n0_p13, c0_p13, A1_p13, n1_p13, c1_p13, A2_p13, n2_p13, c2_p13, A3_p13, n3_p13, c3_p13, A4_p13, n4_p13, c4_p13, _, _, _, _, _, rfl, -⟩ := rTell_own ho)
        exact ⟨rfl, rfl, _, ⟨A0_p13, n0_p13, c0_p13, A1_p13, n1_p13, c1_p13, A2_p13, n2_p13, c2_p13, A3_p13, n3_p13, c3_p13, A4_p13, n4_p13, c4_p13, _, rfl, rfl⟩, hX.add hb5 (t := Mm.tow rTell t _ _) ho hnd hnew⟩
      rintro v ds ⟨A0_p13, n0_p13, c0_p13, A1_p13, n1_p13, c1_p13, A2_p13, n2_p13, c2_p13, A3_p13, n3_p13, c3_p13, A4_p13, n4_p13, c4_p13, fpp13, rfl, rfl⟩
      simp only [Act.put, List.setIfInBounds_toArray, List.set_cons_succ, List.set_cons_zero]
      repeat (refine Mm.give_det (by rfl) (by rfl) (by rfl) (fun K hK => ?_); go_big_quiet_op; refine hK _ ?_; clear hK K)
      refine Mm.give_op0 _ (by rfl) rfl rfl (by rfl) (by rfl) (by rfl) Mm.gVal_in (fun others X hX => ?_) ?_
      · go_wp2_with (go_at_call 44; refine (toTellStep_c s X).mono ?_; rintro e w5 ⟨rfl, hb5⟩)
        exact Mm.gvq_val hX hb5 rfl rfl
      rintro v ds ⟨rfl, rfl⟩
      simp only [Act.put, List.setIfInBounds_toArray, List.set_cons_succ, List.set_cons_zero]
      repeat (refine Mm.give_det (by rfl) (by rfl) (by rfl) (fun K hK => ?_); go_big_quiet_op; refine hK _ ?_; clear hK K)
      refine Mm.give_op1 _ 1 (by rfl) rfl rfl (by rfl) (by rfl) rfl (by rfl) _ rfl gPR_StepTell_in (fun others X hX => ?_) ?_
      · go_wp2_with (go_at_call 19; refine (specStepTell_c t _ s _ X X.heap.size (hX.rd 0 rfl) (rTellStep.weak (rTellStep_own_mk HMI_s.out) (fun b hb => absurd hb (by simp))) (Nat.le_refl _)).mono ?_; rintro e w6 ⟨cs6, fp6, rfl, ho, hnd, hnew, hb6⟩; obtain ⟨A0_q13, n0_q13, c0_q13, A1_q13, n1_q13, c1_q13, A2_q13, n2_q13, c2_q13, A3_q13, n3_q13, c3_q13, A4_q13, n4_q13, c4_q13, _, _, _, _, _, rfl, -⟩ := rTell_own ho)
        exact ⟨rfl, rfl, _, ⟨A0_q13, n0_q13, c0_q13, A1_q13, n1_q13, c1_q13, A2_q13, n2_q13, c2_q13, A3_q13, n3_q13, c3_q13, A4_q13, n4_q13, c4_q13, _, rfl, rfl⟩, (hX.tail.add hb6 (t := Mm.tow rTell (Pl.stepTell t s).1 _ _) ho hnd hnew)⟩
      rintro v ds ⟨A0_q13, n0_q13, c0_q13, A1_q13, n1_q13, c1_q13, A2_q13, n2_q13, c2_q13, A3_q13, n3_q13, c3_q13, A4_q13, n4_q13, c4_q13, fp13, rfl, rfl⟩
      simp only [Act.put, List.setIfInBounds_toArray, List.set_cons_succ, List.set_cons_zero]
      repeat (refine Mm.give_det (by rfl) (by rfl) (by rfl) (fun K hK => ?_); go_big_quiet_op; refine hK _ ?_; clear hK K)
      refine Mm.give_op0 _ (by rfl) rfl rfl (by rfl) (by rfl) (by rfl) Mm.gPtr_in (fun others X hX => ?_) ?_
      · go_wp2
        exact Mm.gvq_ptr hX rfl rfl rfl
      rintro v ds ⟨gp13, rfl, rfl⟩
      simp only [Act.put, List.setIfInBounds_toArray, List.set_cons_succ, List.set_cons_zero]
      refine Mm.give_store 31 gp13 [.slice none 0 0, .slice none 0 0, .slice none 0 0, .slice none 0 0, .slice none 0 0] [.slice A0_q13 n0_q13 c0_q13, .slice A1_q13 n1_q13 c1_q13, .slice A2_q13 n2_q13 c2_q13, .slice A3_q13 n3_q13 c3_q13, .slice A4_q13 n4_q13 c4_q13] 8 (by rfl) rfl rfl (by rfl) rfl (by rfl) rfl rfl (fun others X hX => ?_) ?_
      · have HSR := Lib.hid hX
        have r0 := HSR.out.cell (k := 0) 0 rfl rfl
        have z0 := HSR.out.frz (k := 0) 0 rfl
        have r1 := HSR.out.cell (k := 1) 0 rfl rfl
        have z1 := HSR.out.frz (k := 1) 0 rfl
        have r2 := HSR.out.cell (k := 2) 0 rfl rfl
        have z2 := HSR.out.frz (k := 2) 0 rfl
        have r3 := HSR.out.cell (k := 3) 0 rfl rfl
        have z3 := HSR.out.frz (k := 3) 0 rfl
        have r4 := HSR.out.cell (k := 4) 0 rfl rfl
        have z4 := HSR.out.frz (k := 4) 0 rfl
        go_wp2
        exact ⟨rfl, rfl, _, rfl, (((((hX.setBlk (k := 0) 0 rfl (.slice A0_q13 n0_q13 c0_q13)).setBlk (k := 1) 0 rfl (.slice A1_q13 n1_q13 c1_q13)).setBlk (k := 2) 0 rfl (.slice A2_q13 n2_q13 c2_q13)).setBlk (k := 3) 0 rfl (.slice A3_q13 n3_q13 c3_q13)).setBlk (k := 4) 0 rfl (.slice A4_q13 n4_q13 c4_q13))⟩
      refine Mm.give_nil ?_
      rintro X13 hX
      have hXs : Mm.SepF [] y10 X13 [Mm.tow rTell (Pl.stepTell t s).1 [.slice A0_q13 n0_q13 c0_q13, .slice A1_q13 n1_q13 c1_q13, .slice A2_q13 n2_q13 c2_q13, .slice A3_q13 n3_q13 c3_q13, .slice A4_q13 n4_q13 c4_q13] fp13, Mm.tblk gp13 31 [.slice A0_q13 n0_q13 c0_q13, .slice A1_q13 n1_q13 c1_q13, .slice A2_q13 n2_q13 c2_q13, .slice A3_q13 n3_q13 c3_q13, .slice A4_q13 n4_q13 c4_q13]] := hX
      clear hX
      have hbz := hXs.bel0
      have ho13 : rTell.own X13 (Pl.stepTell t s).1 [.slice A0_q13 n0_q13 c0_q13, .slice A1_q13 n1_q13 c1_q13, .slice A2_q13 n2_q13 c2_q13, .slice A3_q13 n3_q13 c3_q13, .slice A4_q13 n4_q13 c4_q13] fp13 := hXs.at_ 0 rfl
      have hnd13 := hXs.ndat (i := 0) rfl
      have hf13 : ∀ b, b ∈ fp13 → y10.heap.size ≤ b := fun b hb' => (hXs.new b (Mm.SepF.mem (i := 0) rfl hb')).resolve_left (fun hh => by cases hh)
      have hgp13 : y10.heap.size ≤ gp13 := (hXs.new gp13 (Mm.SepF.mem (i := 1) rfl (by simp [Mm.tblk]))).resolve_left (fun hh => by cases hh)
      clear hgp13
      have HR_t := Lib.hid (rTell.keep HR_t.out fun b hb' => hbz.block b (Nat.lt_of_lt_of_le hb' HB_t.out))
      have HB_t := Lib.hid (Nat.le_trans HB_t.out hbz.size)
      have KP_t := Lib.hid (KP_t.out.bel hbz)
      have KP_s := Lib.hid (KP_s.out.bel hbz)
      have HT15 := Lib.hid (below_step HT12.out hbz)
      have HW0 := Lib.hid (rTell.weak ho13 (B := X13.heap.size) (rTell.olt ho13))
      have HW0_s := Lib.hid (Nat.le_refl X13.heap.size)
      have KW := Lib.hid (show Mm.Blk X13 gp13 31 [.slice A0_q13 n0_q13 c0_q13, .slice A1_q13 n1_q13 c1_q13, .slice A2_q13 n2_q13 c2_q13, .slice A3_q13 n3_q13 c3_q13, .slice A4_q13 n4_q13 c4_q13] from hXs.at_ 1 rfl)
      clear ho13 hnd13 hf13 hXs hbz
      have c16_KP_t_0 := KP_t.out.cell (i := 0) rfl
      have c16_KP_t_1 := KP_t.out.cell (i := 1) rfl
      have c16_KP_t_2 := KP_t.out.cell (i := 2) rfl
      have c16_KP_t_3 := KP_t.out.cell (i := 3) rfl
      have c16_KP_t_4 := KP_t.out.cell (i := 4) rfl
      go_wp2_with fail
      refine (toTell_at t _ _ w.heap.size HR_t.out HB_t.out (by omega)).mono ?_
      rintro e v17 ⟨cs17, fp17, rfl, ho17, hnd17, hf17, hbz⟩
      obtain ⟨A0_17, n0_17, c0_17, A1_17, n1_17, c1_17, A2_17, n2_17, c2_17, A3_17, n3_17, c3_17, A4_17, n4_17, c4_17, _, _, _, _, _, rfl, -⟩ := rTell_own ho17
      have AP17_HR_t := Lib.hid (show ∀ b, b ∈ fp17 → w.heap.size ≤ b from fun b hb' => Nat.le_trans HB_t.out (hf17 b hb'))
      have AP17_HW0 := Lib.hid (show ∀ b, b ∈ fp17 → X13.heap.size ≤ b from fun b hb' => Nat.le_trans HW0_s.out (hf17 b hb'))
      have NB17_KP_t := Lib.hid (show ¬ w.heap.size ∈ fp17 from fun hm => by have := KP_t.out.lt; have := hf17 _ hm; omega)
      have NB17_KP_s := Lib.hid (show ¬ (w.heap.size + 1) ∈ fp17 from fun hm => by have := KP_s.out.lt; have := hf17 _ hm; omega)
      have NB17_KW := Lib.hid (show ¬ gp13 ∈ fp17 from fun hm => by have := KW.out.lt; have := hf17 _ hm; omega)
      have FR17 := Lib.hid (show ∀ b, b ∈ fp17 → w.heap.size ≤ b from fun b hb' => Nat.le_trans HT15.out.size (hf17 b hb'))
      have ND17 := Lib.hid hnd17
      have LT17 := Lib.hid (show ∀ b, b ∈ fp17 → b < v17.heap.size from rTell.olt ho17)
      have HR_t := Lib.hid (rTell.keep HR_t.out fun b hb' => hbz.block b (Nat.lt_of_lt_of_le hb' HB_t.out))
      have HB_t := Lib.hid (Nat.le_trans HB_t.out hbz.size)
      have HW0 := Lib.hid (rTell.keep HW0.out fun b hb' => hbz.block b (Nat.lt_of_lt_of_le hb' HW0_s.out))
      have HW0_s := Lib.hid (Nat.le_trans HW0_s.out hbz.size)
      have KP_t := Lib.hid (KP_t.out.bel hbz)
      have KP_s := Lib.hid (KP_s.out.bel hbz)
      have KW := Lib.hid (KW.out.bel hbz)
      have HT18 := Lib.hid (below_step HT15.out hbz)
      have HXx_t := Lib.hid (rTell.weak ho17 (B := v17.heap.size) (rTell.olt ho17))
      have HXx_t_s := Lib.hid (Nat.le_refl v17.heap.size)
      have OX_t := Lib.hid ho17
      clear ho17 hnd17 hf17
      clear hbz
      have NIKX_t_fp17 := Lib.hid (show ¬ v17.heap.size ∈ fp17 from fun hm => Nat.lt_irrefl _ (rTell.olt OX_t.out _ hm))
      have hbx : Below v17.heap.size v17 (v17.alloc (.cells #[.slice A0_17 n0_17 c0_17, .slice A1_17 n1_17 c1_17, .slice A2_17 n2_17 c2_17, .slice A3_17 n3_17 c3_17, .slice A4_17 n4_17 c4_17] 31)) := below_new (Below.refl _ _) _
      have HR_t := Lib.hid (rTell.keep HR_t.out fun b hb' => hbx.block b (Nat.lt_of_lt_of_le hb' HB_t.out))
      have HB_t := Lib.hid (Nat.le_trans HB_t.out hbx.size)
      have HW0 := Lib.hid (rTell.keep HW0.out fun b hb' => hbx.block b (Nat.lt_of_lt_of_le hb' HW0_s.out))
      have HW0_s := Lib.hid (Nat.le_trans HW0_s.out hbx.size)
      have HXx_t := Lib.hid (rTell.keep HXx_t.out fun b hb' => hbx.block b (Nat.lt_of_lt_of_le hb' HXx_t_s.out))
      have HXx_t_s := Lib.hid (Nat.le_trans HXx_t_s.out hbx.size)
      have OX_t := Lib.hid (rTell.okeep OX_t.out fun b hb' => hbx.block b (rTell.olt OX_t.out b hb'))
      have KP_t := Lib.hid (KP_t.out.bel hbx)
      have KP_s := Lib.hid (KP_s.out.bel hbx)
      have KW := Lib.hid (KW.out.bel hbx)
      have HT19 := Lib.hid (below_step HT18.out hbx)
      clear hbx
      have KX_t := Lib.hid (Mm.Blk.new v17 31 [.slice A0_17 n0_17 c0_17, .slice A1_17 n1_17 c1_17, .slice A2_17 n2_17 c2_17, .slice A3_17 n3_17 c3_17, .slice A4_17 n4_17 c4_17])
      have c20_KX_t_0 := KX_t.out.cell (i := 0) rfl
      have c20_KX_t_1 := KX_t.out.cell (i := 1) rfl
      have c20_KX_t_2 := KX_t.out.cell (i := 2) rfl
      have c20_KX_t_3 := KX_t.out.cell (i := 3) rfl
      have c20_KX_t_4 := KX_t.out.cell (i := 4) rfl
      go_wp2_with fail
      obtain ⟨W21, hW21⟩ : ∃ W21, (v17.alloc (.cells #[.slice A0_17 n0_17 c0_17, .slice A1_17 n1_17 c1_17, .slice A2_17 n2_17 c2_17, .slice A3_17 n3_17 c3_17, .slice A4_17 n4_17 c4_17] 31)) = W21 := ⟨_, rfl⟩
      try rw [hW21] at HT19
      try rw [hW21] at HR_t
      try rw [hW21] at HW0
      try rw [hW21] at HXx_t
      try rw [hW21] at HB_t
      try rw [hW21] at HW0_s
      try rw [hW21] at HXx_t_s
      try rw [hW21] at OX_t
      try rw [hW21] at KP_t
      try rw [hW21] at KP_s
      try rw [hW21] at KW
      try rw [hW21] at KX_t
      rw [hW21]
      clear hW21
      have c22_KP_s_0 := KP_s.out.cell (i := 0) rfl
      have c22_KP_s_1 := KP_s.out.cell (i := 1) rfl
      have c22_KP_s_2 := KP_s.out.cell (i := 2) rfl
      have c22_KX_t_0 := KX_t.out.cell (i := 0) rfl
      have c22_KX_t_1 := KX_t.out.cell (i := 1) rfl
      have c22_KX_t_2 := KX_t.out.cell (i := 2) rfl
      have c22_KX_t_3 := KX_t.out.cell (i := 3) rfl
      have c22_KX_t_4 := KX_t.out.cell (i := 4) rfl
      refine Mm.wp_region_give 9 (fun i => match i with | 2 => some (Mm.gVal (.agg #[.int .i64 s.Kind, .int .i64 s.K, .string s.Text])) | 3 => some (gPR_StepTell (Pl.stepTell t s).1 (Pl.stepTell t s).2) | 7 => some (Mm.gPtr 31 [.slice none 0 0, .slice none 0 0, .slice none 0 0, .slice none 0 0, .slice none 0 0]) | 8 => some (Mm.gSto 31) | _ => none) (fun i => match i with | 8 => [7] | _ => []) (fun _ => []) (F := []) (D := fun w' => ∃ x : Und W21, w' = und W21 x) (fun X us h => Mm.sep_und h) (by kernel_rfl) (by kernel_rfl) (by kernel_rfl) (Mm.SepF.startDrew _) ?_
      repeat (refine Mm.give_det (by rfl) (by rfl) (by rfl) (fun K hK => ?_); go_big_quiet_op; refine hK _ ?_; clear hK K)
      refine Mm.give_op0 _ (by rfl) rfl rfl (by rfl) (by rfl) (by rfl) Mm.gVal_in (fun others X hX => ?_) ?_
      · go_wp2_with (go_at_call 44; refine (toTellStep_c s X).mono ?_; rintro e w5 ⟨rfl, hb5⟩)
        exact Mm.gvq_val hX hb5 rfl rfl
      rintro v ds ⟨rfl, rfl⟩
      simp only [Act.put, List.setIfInBounds_toArray, List.set_cons_succ, List.set_cons_zero]
      repeat (refine Mm.give_det (by rfl) (by rfl) (by rfl) (fun K hK => ?_); go_big_quiet_op; refine hK _ ?_; clear hK K)
      refine Mm.give_op0 _ (by rfl) rfl rfl (by rfl) (by rfl) (by rfl) gPR_StepTell_in (fun others X hX => ?_) ?_
      · go_wp2_with (go_at_call 18; refine (implStepTell_c t _ s _ X W21.heap.size (rTell.keep (rTell.more HXx_t.out HXx_t_s.out) fun b hb => hX.bel0.block b hb) (rTellStep.weak (rTellStep_own_mk HMI_s.out) (fun b hb => absurd hb (by simp))) hX.chg.size).mono ?_; rintro e w6 ⟨cs6, fp6, rfl, ho, hnd, hnew, hb6⟩; obtain ⟨A0_q21, n0_q21, c0_q21, A1_q21, n1_q21, c1_q21, A2_q21, n2_q21, c2_q21, A3_q21, n3_q21, c3_q21, A4_q21, n4_q21, c4_q21, _, _, _, _, _, rfl, -⟩ := rTell_own ho)
        exact ⟨rfl, rfl, _, ⟨A0_q21, n0_q21, c0_q21, A1_q21, n1_q21, c1_q21, A2_q21, n2_q21, c2_q21, A3_q21, n3_q21, c3_q21, A4_q21, n4_q21, c4_q21, _, rfl, rfl⟩, (hX.add hb6 (t := Mm.tow rTell (Pl.stepTell t s).1 _ _) ho hnd hnew)⟩
      rintro v ds ⟨A0_q21, n0_q21, c0_q21, A1_q21, n1_q21, c1_q21, A2_q21, n2_q21, c2_q21, A3_q21, n3_q21, c3_q21, A4_q21, n4_q21, c4_q21, fp21, rfl, rfl⟩
      simp only [Act.put, List.setIfInBounds_toArray, List.set_cons_succ, List.set_cons_zero]
      repeat (refine Mm.give_det (by rfl) (by rfl) (by rfl) (fun K hK => ?_); go_big_quiet_op; refine hK _ ?_; clear hK K)
      refine Mm.give_op0 _ (by rfl) rfl rfl (by rfl) (by rfl) (by rfl) Mm.gPtr_in (fun others X hX => ?_) ?_
      · go_wp2
        exact Mm.gvq_ptr hX rfl rfl rfl
      rintro v ds ⟨gp21, rfl, rfl⟩
      simp only [Act.put, List.setIfInBounds_toArray, List.set_cons_succ, List.set_cons_zero]
      refine Mm.give_store 31 gp21 [.slice none 0 0, .slice none 0 0, .slice none 0 0, .slice none 0 0, .slice none 0 0] [.slice A0_q21 n0_q21 c0_q21, .slice A1_q21 n1_q21 c1_q21, .slice A2_q21 n2_q21 c2_q21, .slice A3_q21 n3_q21 c3_q21, .slice A4_q21 n4_q21 c4_q21] 7 (by rfl) rfl rfl (by rfl) rfl (by rfl) rfl rfl (fun others X hX => ?_) ?_
      · have HSR := Lib.hid hX
        have r0 := HSR.out.cell (k := 0) 0 rfl rfl
        have z0 := HSR.out.frz (k := 0) 0 rfl
        have r1 := HSR.out.cell (k := 1) 0 rfl rfl
        have z1 := HSR.out.frz (k := 1) 0 rfl
        have r2 := HSR.out.cell (k := 2) 0 rfl rfl
        have z2 := HSR.out.frz (k := 2) 0 rfl
        have r3 := HSR.out.cell (k := 3) 0 rfl rfl
        have z3 := HSR.out.frz (k := 3) 0 rfl
        have r4 := HSR.out.cell (k := 4) 0 rfl rfl
        have z4 := HSR.out.frz (k := 4) 0 rfl
        go_wp2
        exact ⟨rfl, rfl, _, rfl, (((((hX.setBlk (k := 0) 0 rfl (.slice A0_q21 n0_q21 c0_q21)).setBlk (k := 1) 0 rfl (.slice A1_q21 n1_q21 c1_q21)).setBlk (k := 2) 0 rfl (.slice A2_q21 n2_q21 c2_q21)).setBlk (k := 3) 0 rfl (.slice A3_q21 n3_q21 c3_q21)).setBlk (k := 4) 0 rfl (.slice A4_q21 n4_q21 c4_q21))⟩
      refine Mm.give_nil ?_
      rintro X21 hX
      have hXs : Mm.SepF [] W21 X21 [Mm.tow rTell (Pl.stepTell t s).1 [.slice A0_q21 n0_q21 c0_q21, .slice A1_q21 n1_q21 c1_q21, .slice A2_q21 n2_q21 c2_q21, .slice A3_q21 n3_q21 c3_q21, .slice A4_q21 n4_q21 c4_q21] fp21, Mm.tblk gp21 31 [.slice A0_q21 n0_q21 c0_q21, .slice A1_q21 n1_q21 c1_q21, .slice A2_q21 n2_q21 c2_q21, .slice A3_q21 n3_q21 c3_q21, .slice A4_q21 n4_q21 c4_q21]] := hX
      clear hX
      have hbz := hXs.bel0
      have ho21 : rTell.own X21 (Pl.stepTell t s).1 [.slice A0_q21 n0_q21 c0_q21, .slice A1_q21 n1_q21 c1_q21, .slice A2_q21 n2_q21 c2_q21, .slice A3_q21 n3_q21 c3_q21, .slice A4_q21 n4_q21 c4_q21] fp21 := hXs.at_ 0 rfl
      have hnd21 := hXs.ndat (i := 0) rfl
      have hf21 : ∀ b, b ∈ fp21 → W21.heap.size ≤ b := fun b hb' => (hXs.new b (Mm.SepF.mem (i := 0) rfl hb')).resolve_left (fun hh => by cases hh)
      have hgp21 : W21.heap.size ≤ gp21 := (hXs.new gp21 (Mm.SepF.mem (i := 1) rfl (by simp [Mm.tblk]))).resolve_left (fun hh => by cases hh)
      have NJ21_fp17 := Lib.hid (show ¬ gp21 ∈ fp17 from fun hm => by have := rTell.olt OX_t.out gp21 hm; omega)
      clear hgp21
      have AP21_HR_t := Lib.hid (show ∀ b, b ∈ fp21 → w.heap.size ≤ b from fun b hb' => Nat.le_trans HB_t.out (hf21 b hb'))
      have AP21_HW0 := Lib.hid (show ∀ b, b ∈ fp21 → X13.heap.size ≤ b from fun b hb' => Nat.le_trans HW0_s.out (hf21 b hb'))
      have AP21_HXx_t := Lib.hid (show ∀ b, b ∈ fp21 → v17.heap.size ≤ b from fun b hb' => Nat.le_trans HXx_t_s.out (hf21 b hb'))
      have DP21_OX_t := Lib.hid (show ∀ b, b ∈ fp21 → b ∉ fp17 from fun b hb' hm => by have := rTell.olt OX_t.out b hm; have := hf21 b hb'; omega)
      have NB21_KP_t := Lib.hid (show ¬ w.heap.size ∈ fp21 from fun hm => by have := KP_t.out.lt; have := hf21 _ hm; omega)
      have NB21_KP_s := Lib.hid (show ¬ (w.heap.size + 1) ∈ fp21 from fun hm => by have := KP_s.out.lt; have := hf21 _ hm; omega)
      have NB21_KW := Lib.hid (show ¬ gp13 ∈ fp21 from fun hm => by have := KW.out.lt; have := hf21 _ hm; omega)
      have NB21_KX_t := Lib.hid (show ¬ v17.heap.size ∈ fp21 from fun hm => by have := KX_t.out.lt; have := hf21 _ hm; omega)
      have FR21 := Lib.hid (show ∀ b, b ∈ fp21 → w.heap.size ≤ b from fun b hb' => Nat.le_trans HT19.out.size (hf21 b hb'))
      have ND21 := Lib.hid hnd21
      have LT21 := Lib.hid (show ∀ b, b ∈ fp21 → b < X21.heap.size from rTell.olt ho21)
      have HR_t := Lib.hid (rTell.keep HR_t.out fun b hb' => hbz.block b (Nat.lt_of_lt_of_le hb' HB_t.out))
      have HB_t := Lib.hid (Nat.le_trans HB_t.out hbz.size)
      have HW0 := Lib.hid (rTell.keep HW0.out fun b hb' => hbz.block b (Nat.lt_of_lt_of_le hb' HW0_s.out))
      have HW0_s := Lib.hid (Nat.le_trans HW0_s.out hbz.size)
      have HXx_t := Lib.hid (rTell.keep HXx_t.out fun b hb' => hbz.block b (Nat.lt_of_lt_of_le hb' HXx_t_s.out))
      have HXx_t_s := Lib.hid (Nat.le_trans HXx_t_s.out hbz.size)
      have OX_t := Lib.hid (rTell.okeep OX_t.out fun b hb' => hbz.block b (rTell.olt OX_t.out b hb'))
      have KP_t := Lib.hid (KP_t.out.bel hbz)
      have KP_s := Lib.hid (KP_s.out.bel hbz)
      have KW := Lib.hid (KW.out.bel hbz)
      have KX_t := Lib.hid (KX_t.out.bel hbz)
      have HT23 := Lib.hid (below_step HT19.out hbz)
      have OG := Lib.hid ho21
      have KG := Lib.hid (show Mm.Blk X21 gp21 31 [.slice A0_q21 n0_q21 c0_q21, .slice A1_q21 n1_q21 c1_q21, .slice A2_q21 n2_q21 c2_q21, .slice A3_q21 n3_q21 c3_q21, .slice A4_q21 n4_q21 c4_q21] from hXs.at_ 1 rfl)
      have NIKG := Lib.hid (show ¬ gp21 ∈ fp21 from fun hm => hXs.apart (i := 1) (j := 0) rfl rfl (by decide) _ (by simp [Mm.tblk]) hm)
      clear ho21 hnd21 hf21 hXs hbz
      have c24_KP_t_0 := KP_t.out.cell (i := 0) rfl
      have c24_KP_t_1 := KP_t.out.cell (i := 1) rfl
      have c24_KP_t_2 := KP_t.out.cell (i := 2) rfl
      have c24_KP_t_3 := KP_t.out.cell (i := 3) rfl
      have c24_KP_t_4 := KP_t.out.cell (i := 4) rfl
      have c24_KP_s_0 := KP_s.out.cell (i := 0) rfl
      have c24_KP_s_1 := KP_s.out.cell (i := 1) rfl
      have c24_KP_s_2 := KP_s.out.cell (i := 2) rfl
      have c24_KW_0 := KW.out.cell (i := 0) rfl
      have c24_KW_1 := KW.out.cell (i := 1) rfl
      have c24_KW_2 := KW.out.cell (i := 2) rfl
      have c24_KW_3 := KW.out.cell (i := 3) rfl
      have c24_KW_4 := KW.out.cell (i := 4) rfl
      have c24_KX_t_0 := KX_t.out.cell (i := 0) rfl
      have c24_KX_t_1 := KX_t.out.cell (i := 1) rfl
      have c24_KX_t_2 := KX_t.out.cell (i := 2) rfl
      have c24_KX_t_3 := KX_t.out.cell (i := 3) rfl
      have c24_KX_t_4 := KX_t.out.cell (i := 4) rfl
      have c24_KG_0 := KG.out.cell (i := 0) rfl
      have c24_KG_1 := KG.out.cell (i := 1) rfl
      have c24_KG_2 := KG.out.cell (i := 2) rfl
      have c24_KG_3 := KG.out.cell (i := 3) rfl
      have c24_KG_4 := KG.out.cell (i := 4) rfl
      go_wp2_with fail
      refine (eqTell_at (Pl.stepTell t s).1 _ _ _ _ (rTell.weak OG.out (B := _) (rTell.olt OG.out)) (rTell.more HW0.out HW0_s.out) (Nat.le_refl _)).mono ?_
      rintro e v25 ⟨rfl, hbz⟩
      have HR_t := Lib.hid (rTell.keep HR_t.out fun b hb' => hbz.block b (Nat.lt_of_lt_of_le hb' HB_t.out))
      have HB_t := Lib.hid (Nat.le_trans HB_t.out hbz.size)
      have HW0 := Lib.hid (rTell.keep HW0.out fun b hb' => hbz.block b (Nat.lt_of_lt_of_le hb' HW0_s.out))
      have HW0_s := Lib.hid (Nat.le_trans HW0_s.out hbz.size)
      have HXx_t := Lib.hid (rTell.keep HXx_t.out fun b hb' => hbz.block b (Nat.lt_of_lt_of_le hb' HXx_t_s.out))
      have HXx_t_s := Lib.hid (Nat.le_trans HXx_t_s.out hbz.size)
      have OX_t := Lib.hid (rTell.okeep OX_t.out fun b hb' => hbz.block b (rTell.olt OX_t.out b hb'))
      have OG := Lib.hid (rTell.okeep OG.out fun b hb' => hbz.block b (rTell.olt OG.out b hb'))
      have KP_t := Lib.hid (KP_t.out.bel hbz)
      have KP_s := Lib.hid (KP_s.out.bel hbz)
      have KW := Lib.hid (KW.out.bel hbz)
      have KX_t := Lib.hid (KX_t.out.bel hbz)
      have KG := Lib.hid (KG.out.bel hbz)
      have HT26 := Lib.hid (below_step HT23.out hbz)
      clear hbz
      have c27_KP_t_0 := KP_t.out.cell (i := 0) rfl
      have c27_KP_t_1 := KP_t.out.cell (i := 1) rfl
      have c27_KP_t_2 := KP_t.out.cell (i := 2) rfl
      have c27_KP_t_3 := KP_t.out.cell (i := 3) rfl
      have c27_KP_t_4 := KP_t.out.cell (i := 4) rfl
      have c27_KX_t_0 := KX_t.out.cell (i := 0) rfl
      have c27_KX_t_1 := KX_t.out.cell (i := 1) rfl
      have c27_KX_t_2 := KX_t.out.cell (i := 2) rfl
      have c27_KX_t_3 := KX_t.out.cell (i := 3) rfl
      have c27_KX_t_4 := KX_t.out.cell (i := 4) rfl
      go_wp2_with fail
      have hdr := (Below.refl v25.heap.size v25).drew
      have HR_t := Lib.hid (rTell.keep HR_t.out fun b hb' => hdr.block b (Nat.lt_of_lt_of_le hb' HB_t.out))
      have HB_t := Lib.hid (Nat.le_trans HB_t.out hdr.size)
      have HW0 := Lib.hid (rTell.keep HW0.out fun b hb' => hdr.block b (Nat.lt_of_lt_of_le hb' HW0_s.out))
      have HW0_s := Lib.hid (Nat.le_trans HW0_s.out hdr.size)
      have HXx_t := Lib.hid (rTell.keep HXx_t.out fun b hb' => hdr.block b (Nat.lt_of_lt_of_le hb' HXx_t_s.out))
      have HXx_t_s := Lib.hid (Nat.le_trans HXx_t_s.out hdr.size)
      have OX_t := Lib.hid (rTell.okeep OX_t.out fun b hb' => hdr.block b (rTell.olt OX_t.out b hb'))
      have OG := Lib.hid (rTell.okeep OG.out fun b hb' => hdr.block b (rTell.olt OG.out b hb'))
      have KP_t := Lib.hid (KP_t.out.bel hdr)
      have KP_s := Lib.hid (KP_s.out.bel hdr)
      have KW := Lib.hid (KW.out.bel hdr)
      have KX_t := Lib.hid (KX_t.out.bel hdr)
      have KG := Lib.hid (KG.out.bel hdr)
      have HT28 := Lib.hid (below_step HT26.out hdr)
      clear hdr
      have c29_KP_t_0 := KP_t.out.cell (i := 0) rfl
      have c29_KP_t_1 := KP_t.out.cell (i := 1) rfl
      have c29_KP_t_2 := KP_t.out.cell (i := 2) rfl
      have c29_KP_t_3 := KP_t.out.cell (i := 3) rfl
      have c29_KP_t_4 := KP_t.out.cell (i := 4) rfl
      have c29_KX_t_0 := KX_t.out.cell (i := 0) rfl
      have c29_KX_t_1 := KX_t.out.cell (i := 1) rfl
      have c29_KX_t_2 := KX_t.out.cell (i := 2) rfl
      have c29_KX_t_3 := KX_t.out.cell (i := 3) rfl
      have c29_KX_t_4 := KX_t.out.cell (i := 4) rfl
      go_region_held3 (fun wx => wx.cell? ⟨w.heap.size, 0, none⟩ = some (.slice A0_t n0_t c0_t) ∧ wx.cell? ⟨w.heap.size, 1, none⟩ = some (.slice A1_t n1_t c1_t) ∧ wx.cell? ⟨w.heap.size, 2, none⟩ = some (.slice A2_t n2_t c2_t) ∧ wx.cell? ⟨w.heap.size, 3, none⟩ = some (.slice A3_t n3_t c3_t) ∧ wx.cell? ⟨w.heap.size, 4, none⟩ = some (.slice A4_t n4_t c4_t) ∧ wx.cell? ⟨v17.heap.size, 0, none⟩ = some (.slice A0_17 n0_17 c0_17) ∧ wx.cell? ⟨v17.heap.size, 1, none⟩ = some (.slice A1_17 n1_17 c1_17) ∧ wx.cell? ⟨v17.heap.size, 2, none⟩ = some (.slice A2_17 n2_17 c2_17) ∧ wx.cell? ⟨v17.heap.size, 3, none⟩ = some (.slice A3_17 n3_17 c3_17) ∧ wx.cell? ⟨v17.heap.size, 4, none⟩ = some (.slice A4_17 n4_17 c4_17))
        (first | (go_keep; done) | ((try dsimp only); go_split_ands; refine ⟨?_, ?_, ?_, ?_, ?_, ?_, ?_, ?_, ?_, ?_⟩ <;> first | (exact below_some hbz (by assumption)) | (exact (KP_t.out.alloc _).cell (i := 0) rfl) | (exact (KP_t.out.alloc _).cell (i := 1) rfl) | (exact (KP_t.out.alloc _).cell (i := 2) rfl) | (exact (KP_t.out.alloc _).cell (i := 3) rfl) | (exact (KP_t.out.alloc _).cell (i := 4) rfl) | (exact (KX_t.out.alloc _).cell (i := 0) rfl) | (exact (KX_t.out.alloc _).cell (i := 1) rfl) | (exact (KX_t.out.alloc _).cell (i := 2) rfl) | (exact (KX_t.out.alloc _).cell (i := 3) rfl) | (exact (KX_t.out.alloc _).cell (i := 4) rfl) | (go_keep; done) | (simp [World.cell?_alloc_some, World.cell?_setCell_far, *]; done)))
        (first
          | (go_at_call 42; (with_reducible refine (toTell_at t _ _ w.heap.size HR_t.out HB_t.out (by omega)).mono ?_); rintro e v30 ⟨cs30, fp30, rfl, ho30, hnd30, hf30, hbz⟩; obtain ⟨A0_30, n0_30, c0_30, A1_30, n1_30, c1_30, A2_30, n2_30, c2_30, A3_30, n3_30, c3_30, A4_30, n4_30, c4_30, _, _, _, _, _, rfl, -⟩ := rTell_own ho30; (have HR_t := Lib.hid (rTell.keep HR_t.out fun b hb' => hbz.block b (Nat.lt_of_lt_of_le hb' HB_t.out))); (have HB_t := Lib.hid (Nat.le_trans HB_t.out hbz.size)); (have HW0 := Lib.hid (rTell.keep HW0.out fun b hb' => hbz.block b (Nat.lt_of_lt_of_le hb' HW0_s.out))); (have HW0_s := Lib.hid (Nat.le_trans HW0_s.out hbz.size)); (have HXx_t := Lib.hid (rTell.keep HXx_t.out fun b hb' => hbz.block b (Nat.lt_of_lt_of_le hb' HXx_t_s.out))); (have HXx_t_s := Lib.hid (Nat.le_trans HXx_t_s.out hbz.size)); (have OX_t := Lib.hid (rTell.okeep OX_t.out fun b hb' => hbz.block b (rTell.olt OX_t.out b hb'))); (have OG := Lib.hid (rTell.okeep OG.out fun b hb' => hbz.block b (rTell.olt OG.out b hb'))); (have KP_t := Lib.hid (KP_t.out.bel hbz)); (have KP_s := Lib.hid (KP_s.out.bel hbz)); (have KW := Lib.hid (KW.out.bel hbz)); (have KX_t := Lib.hid (KX_t.out.bel hbz)); (have KG := Lib.hid (KG.out.bel hbz)); (have HT31 := Lib.hid (below_step HT28.out hbz)); (have HXz_t := Lib.hid (rTell.weak ho30 (B := v30.heap.size) (rTell.olt ho30))); (have HXz_t_s := Lib.hid (Nat.le_refl v30.heap.size)); clear ho30 hnd30 hf30)
          | (go_at_call 33; (with_reducible refine (eqTell_at t _ _ _ v30.heap.size (rTell.more HXx_t.out HXx_t_s.out) HXz_t.out (Nat.le_refl _)).mono ?_); rintro e v32 ⟨rfl, hbz⟩; (have HR_t := Lib.hid (rTell.keep HR_t.out fun b hb' => hbz.block b (Nat.lt_of_lt_of_le hb' HB_t.out))); (have HB_t := Lib.hid (Nat.le_trans HB_t.out hbz.size)); (have HW0 := Lib.hid (rTell.keep HW0.out fun b hb' => hbz.block b (Nat.lt_of_lt_of_le hb' HW0_s.out))); (have HW0_s := Lib.hid (Nat.le_trans HW0_s.out hbz.size)); (have HXx_t := Lib.hid (rTell.keep HXx_t.out fun b hb' => hbz.block b (Nat.lt_of_lt_of_le hb' HXx_t_s.out))); (have HXx_t_s := Lib.hid (Nat.le_trans HXx_t_s.out hbz.size)); (have HXz_t := Lib.hid (rTell.keep HXz_t.out fun b hb' => hbz.block b (Nat.lt_of_lt_of_le hb' HXz_t_s.out))); (have HXz_t_s := Lib.hid (Nat.le_trans HXz_t_s.out hbz.size)); (have OX_t := Lib.hid (rTell.okeep OX_t.out fun b hb' => hbz.block b (rTell.olt OX_t.out b hb'))); (have OG := Lib.hid (rTell.okeep OG.out fun b hb' => hbz.block b (rTell.olt OG.out b hb'))); (have KP_t := Lib.hid (KP_t.out.bel hbz)); (have KP_s := Lib.hid (KP_s.out.bel hbz)); (have KW := Lib.hid (KW.out.bel hbz)); (have KX_t := Lib.hid (KX_t.out.bel hbz)); (have KG := Lib.hid (KG.out.bel hbz)); (have HT33 := Lib.hid (below_step HT31.out hbz))))
      clear hbz
      have hcn_t := Pl.ctopTell_nn t
      have hcb_t : Pl.ctopTell t ≤ 50000000 := by have := Pl.ctopbTell t; omega
      have c35_KX_t_0 := KX_t.out.cell (i := 0) rfl
      have c35_KX_t_1 := KX_t.out.cell (i := 1) rfl
      have c35_KX_t_2 := KX_t.out.cell (i := 2) rfl
      have c35_KX_t_3 := KX_t.out.cell (i := 3) rfl
      have c35_KX_t_4 := KX_t.out.cell (i := 4) rfl
      go_wp2_with fail
      refine (markTell_c t _ _ _ _ OX_t.out ND17.out (by omega) (by omega)).mono ?_
      rintro e v34 ⟨rfl, hch, -⟩
      have HR_t := Lib.hid (rTell.keep HR_t.out fun b hb' => hch.block b (Nat.lt_of_lt_of_le hb' HB_t.out) (fun hm => by have := AP17_HR_t.out b hm; omega))
      have HB_t := Lib.hid (Nat.le_trans HB_t.out hch.size)
      have HW0 := Lib.hid (rTell.keep HW0.out fun b hb' => hch.block b (Nat.lt_of_lt_of_le hb' HW0_s.out) (fun hm => by have := AP17_HW0.out b hm; omega))
      have HW0_s := Lib.hid (Nat.le_trans HW0_s.out hch.size)
      have OG := Lib.hid (rTell.okeep OG.out fun b hb' => hch.block b (rTell.olt OG.out b hb') (fun hm => DP21_OX_t.out b hb' hm))
      have KP_t := Lib.hid (KP_t.out.keep (hch.block _ KP_t.out.lt (NB17_KP_t.out)))
      have KP_s := Lib.hid (KP_s.out.keep (hch.block _ KP_s.out.lt (NB17_KP_s.out)))
      have KW := Lib.hid (KW.out.keep (hch.block _ KW.out.lt (NB17_KW.out)))
      have KX_t := Lib.hid (KX_t.out.keep (hch.block _ KX_t.out.lt (NIKX_t_fp17.out)))
      have KG := Lib.hid (KG.out.keep (hch.block _ KG.out.lt (NJ21_fp17.out)))
      have HT36 := Lib.hid (Mm.Below.chg HT33.out hch HT33.out.size FR17.out)
      clear hch
      have c37_KP_t_0 := KP_t.out.cell (i := 0) rfl
      have c37_KP_t_1 := KP_t.out.cell (i := 1) rfl
      have c37_KP_t_2 := KP_t.out.cell (i := 2) rfl
      have c37_KP_t_3 := KP_t.out.cell (i := 3) rfl
      have c37_KP_t_4 := KP_t.out.cell (i := 4) rfl
      have c37_KP_s_0 := KP_s.out.cell (i := 0) rfl
      have c37_KP_s_1 := KP_s.out.cell (i := 1) rfl
      have c37_KP_s_2 := KP_s.out.cell (i := 2) rfl
      have c37_KW_0 := KW.out.cell (i := 0) rfl
      have c37_KW_1 := KW.out.cell (i := 1) rfl
      have c37_KW_2 := KW.out.cell (i := 2) rfl
      have c37_KW_3 := KW.out.cell (i := 3) rfl
      have c37_KW_4 := KW.out.cell (i := 4) rfl
      have c37_KX_t_0 := KX_t.out.cell (i := 0) rfl
      have c37_KX_t_1 := KX_t.out.cell (i := 1) rfl
      have c37_KX_t_2 := KX_t.out.cell (i := 2) rfl
      have c37_KX_t_3 := KX_t.out.cell (i := 3) rfl
      have c37_KX_t_4 := KX_t.out.cell (i := 4) rfl
      have c37_KG_0 := KG.out.cell (i := 0) rfl
      have c37_KG_1 := KG.out.cell (i := 1) rfl
      have c37_KG_2 := KG.out.cell (i := 2) rfl
      have c37_KG_3 := KG.out.cell (i := 3) rfl
      have c37_KG_4 := KG.out.cell (i := 4) rfl
      go_wp2_with fail
      refine (eqTell_at (Pl.stepTell t s).1 _ _ _ _ (rTell.weak OG.out (B := _) (rTell.olt OG.out)) (rTell.more HW0.out HW0_s.out) (Nat.le_refl _)).mono ?_
      rintro e v38 ⟨rfl, hbz⟩
      have HR_t := Lib.hid (rTell.keep HR_t.out fun b hb' => hbz.block b (Nat.lt_of_lt_of_le hb' HB_t.out))
      have HB_t := Lib.hid (Nat.le_trans HB_t.out hbz.size)
      have HW0 := Lib.hid (rTell.keep HW0.out fun b hb' => hbz.block b (Nat.lt_of_lt_of_le hb' HW0_s.out))
      have HW0_s := Lib.hid (Nat.le_trans HW0_s.out hbz.size)
      have OG := Lib.hid (rTell.okeep OG.out fun b hb' => hbz.block b (rTell.olt OG.out b hb'))
      have KP_t := Lib.hid (KP_t.out.bel hbz)
      have KP_s := Lib.hid (KP_s.out.bel hbz)
      have KW := Lib.hid (KW.out.bel hbz)
      have KX_t := Lib.hid (KX_t.out.bel hbz)
      have KG := Lib.hid (KG.out.bel hbz)
      have HT39 := Lib.hid (below_step HT36.out hbz)
      clear hbz
      have hcg : 0 ≤ Pl.ctopTell (Pl.stepTell t s).1 := Pl.ctopTell_nn (Pl.stepTell t s).1
      have hcgb : Pl.ctopTell (Pl.stepTell t s).1 ≤ 50000000 := (stepTell_cnt t s)
      obtain ⟨cg, hcge⟩ : ∃ z, Pl.ctopTell (Pl.stepTell t s).1 = z := ⟨_, rfl⟩
      rw [hcge] at hcg hcgb
      have HCG := Lib.hid hcge
      clear hcge
      have c40_KG_0 := KG.out.cell (i := 0) rfl
      have c40_KG_1 := KG.out.cell (i := 1) rfl
      have c40_KG_2 := KG.out.cell (i := 2) rfl
      have c40_KG_3 := KG.out.cell (i := 3) rfl
      have c40_KG_4 := KG.out.cell (i := 4) rfl
      go_wp2_with fail
      refine (markTell_c (Pl.stepTell t s).1 _ _ _ _ OG.out ND21.out (by omega) (by rw [HCG.out]; omega)).mono ?_
      rintro e v41 ⟨rfl, hch, fpm, hom, hndm, hsubm⟩
      rw [HCG.out]
      have HR_t := Lib.hid (rTell.keep HR_t.out fun b hb' => hch.block b (Nat.lt_of_lt_of_le hb' HB_t.out) (fun hm => by have := AP21_HR_t.out b hm; omega))
      have HB_t := Lib.hid (Nat.le_trans HB_t.out hch.size)
      have HW0 := Lib.hid (rTell.keep HW0.out fun b hb' => hch.block b (Nat.lt_of_lt_of_le hb' HW0_s.out) (fun hm => by have := AP21_HW0.out b hm; omega))
      have HW0_s := Lib.hid (Nat.le_trans HW0_s.out hch.size)
      have KP_t := Lib.hid (KP_t.out.keep (hch.block _ KP_t.out.lt (NB21_KP_t.out)))
      have KP_s := Lib.hid (KP_s.out.keep (hch.block _ KP_s.out.lt (NB21_KP_s.out)))
      have KW := Lib.hid (KW.out.keep (hch.block _ KW.out.lt (NB21_KW.out)))
      have KX_t := Lib.hid (KX_t.out.keep (hch.block _ KX_t.out.lt (NB21_KX_t.out)))
      have KG := Lib.hid (KG.out.keep (hch.block _ KG.out.lt (NIKG.out)))
      have HT42 := Lib.hid (Mm.Below.chg HT39.out hch HT39.out.size FR21.out)
      clear hch
      have OM := Lib.hid hom
      clear hom hndm hsubm
      have c43_KG_0 := KG.out.cell (i := 0) rfl
      have c43_KG_1 := KG.out.cell (i := 1) rfl
      have c43_KG_2 := KG.out.cell (i := 2) rfl
      have c43_KG_3 := KG.out.cell (i := 3) rfl
      have c43_KG_4 := KG.out.cell (i := 4) rfl
      go_wp2_with fail
      refine (heldTell_c (Pl.stepTell t s).1 _ _ _ _ (rTell.weak OM.out (B := _) (rTell.olt OM.out)) (Nat.le_refl _) (by omega) (by rw [HCG.out]; omega)).mono ?_
      rintro e v44 ⟨rfl, hbz⟩
      rw [HCG.out]
      have HR_t := Lib.hid (rTell.keep HR_t.out fun b hb' => hbz.block b (Nat.lt_of_lt_of_le hb' HB_t.out))
      have HB_t := Lib.hid (Nat.le_trans HB_t.out hbz.size)
      have HW0 := Lib.hid (rTell.keep HW0.out fun b hb' => hbz.block b (Nat.lt_of_lt_of_le hb' HW0_s.out))
      have HW0_s := Lib.hid (Nat.le_trans HW0_s.out hbz.size)
      have OM := Lib.hid (rTell.okeep OM.out fun b hb' => hbz.block b (rTell.olt OM.out b hb'))
      have KP_t := Lib.hid (KP_t.out.bel hbz)
      have KP_s := Lib.hid (KP_s.out.bel hbz)
      have KW := Lib.hid (KW.out.bel hbz)
      have KX_t := Lib.hid (KX_t.out.bel hbz)
      have KG := Lib.hid (KG.out.bel hbz)
      have HT45 := Lib.hid (below_step HT42.out hbz)
      clear hbz
      go_wp2_with fail
      have c47_KP_t_0 := KP_t.out.cell (i := 0) rfl
      have c47_KP_t_1 := KP_t.out.cell (i := 1) rfl
      have c47_KP_t_2 := KP_t.out.cell (i := 2) rfl
      have c47_KP_t_3 := KP_t.out.cell (i := 3) rfl
      have c47_KP_t_4 := KP_t.out.cell (i := 4) rfl
      have c47_KP_s_0 := KP_s.out.cell (i := 0) rfl
      have c47_KP_s_1 := KP_s.out.cell (i := 1) rfl
      have c47_KP_s_2 := KP_s.out.cell (i := 2) rfl
      refine Mm.wp_region_give 10 (fun i => match i with | 1 => some (gPT_StepTell t) | 3 => some (Mm.gVal (.agg #[.int .i64 s.Kind, .int .i64 s.K, .string s.Text])) | 4 => some (gPR_StepTell (Pl.stepTell t s).1 (Pl.stepTell t s).2) | 8 => some (Mm.gPtr 31 [.slice none 0 0, .slice none 0 0, .slice none 0 0, .slice none 0 0, .slice none 0 0]) | 9 => some (Mm.gSto 31) | _ => none) (fun i => match i with | 4 => [1] | 9 => [8] | _ => []) (fun _ => []) (F := []) (D := fun w' => ∃ x : Und v44, w' = und v44 x) (fun X us h => Mm.sep_und h) (by kernel_rfl) (by kernel_rfl) (by kernel_rfl) (Mm.SepF.startDrew _) ?_
      repeat (refine Mm.give_det (by rfl) (by rfl) (by rfl) (fun K hK => ?_); go_big_quiet_op; refine hK _ ?_; clear hK K)
      refine Mm.give_op0 _ (by rfl) rfl rfl (by rfl) (by rfl) (by rfl) gPT_StepTell_in (fun others X hX => ?_) ?_
      · go_wp2_with (go_at_call 42; refine (toTell_at t _ X w.heap.size (rTell.keep HR_t.out fun b hb => hX.bel0.block b (Nat.lt_of_lt_of_le hb HB_t.out)) (Nat.le_trans HB_t.out hX.chg.size) (by omega)).mono ?_; rintro e w5 ⟨cs5, fp5, rfl, ho, hnd, hnew, hb5⟩; obtain ⟨A0_p46, n0_p46, c0_p46, A1_p46, n1_p46, c1_p46, A2_p46, n2_p46, c2_p46, A3_p46, n3_p46, c3_p46, A4_p46, n4_p46, c4_p46, _, _, _, _, _, rfl, -⟩ := rTell_own ho)
        exact ⟨rfl, rfl, _, ⟨A0_p46, n0_p46, c0_p46, A1_p46, n1_p46, c1_p46, A2_p46, n2_p46, c2_p46, A3_p46, n3_p46, c3_p46, A4_p46, n4_p46, c4_p46, _, rfl, rfl⟩, hX.add hb5 (t := Mm.tow rTell t _ _) ho hnd hnew⟩
      rintro v ds ⟨A0_p46, n0_p46, c0_p46, A1_p46, n1_p46, c1_p46, A2_p46, n2_p46, c2_p46, A3_p46, n3_p46, c3_p46, A4_p46, n4_p46, c4_p46, fpp46, rfl, rfl⟩
      simp only [Act.put, List.setIfInBounds_toArray, List.set_cons_succ, List.set_cons_zero]
      repeat (refine Mm.give_det (by rfl) (by rfl) (by rfl) (fun K hK => ?_); go_big_quiet_op; refine hK _ ?_; clear hK K)
      refine Mm.give_op0 _ (by rfl) rfl rfl (by rfl) (by rfl) (by rfl) Mm.gVal_in (fun others X hX => ?_) ?_
      · go_wp2_with (go_at_call 44; refine (toTellStep_c s X).mono ?_; rintro e w5 ⟨rfl, hb5⟩)
        exact Mm.gvq_val hX hb5 rfl rfl
      rintro v ds ⟨rfl, rfl⟩
      simp only [Act.put, List.setIfInBounds_toArray, List.set_cons_succ, List.set_cons_zero]
      repeat (refine Mm.give_det (by rfl) (by rfl) (by rfl) (fun K hK => ?_); go_big_quiet_op; refine hK _ ?_; clear hK K)
      refine Mm.give_op1 _ 1 (by rfl) rfl rfl (by rfl) (by rfl) rfl (by rfl) _ rfl gPR_StepTell_in (fun others X hX => ?_) ?_
      · go_wp2_with (go_at_call 18; refine (implStepTell_c t _ s _ X X.heap.size (hX.rd 0 rfl) (rTellStep.weak (rTellStep_own_mk HMI_s.out) (fun b hb => absurd hb (by simp))) (Nat.le_refl _)).mono ?_; rintro e w6 ⟨cs6, fp6, rfl, ho, hnd, hnew, hb6⟩; obtain ⟨A0_q46, n0_q46, c0_q46, A1_q46, n1_q46, c1_q46, A2_q46, n2_q46, c2_q46, A3_q46, n3_q46, c3_q46, A4_q46, n4_q46, c4_q46, _, _, _, _, _, rfl, -⟩ := rTell_own ho)
        exact ⟨rfl, rfl, _, ⟨A0_q46, n0_q46, c0_q46, A1_q46, n1_q46, c1_q46, A2_q46, n2_q46, c2_q46, A3_q46, n3_q46, c3_q46, A4_q46, n4_q46, c4_q46, _, rfl, rfl⟩, (hX.tail.add hb6 (t := Mm.tow rTell (Pl.stepTell t s).1 _ _) ho hnd hnew)⟩
      rintro v ds ⟨A0_q46, n0_q46, c0_q46, A1_q46, n1_q46, c1_q46, A2_q46, n2_q46, c2_q46, A3_q46, n3_q46, c3_q46, A4_q46, n4_q46, c4_q46, fp46, rfl, rfl⟩
      simp only [Act.put, List.setIfInBounds_toArray, List.set_cons_succ, List.set_cons_zero]
      repeat (refine Mm.give_det (by rfl) (by rfl) (by rfl) (fun K hK => ?_); go_big_quiet_op; refine hK _ ?_; clear hK K)
      refine Mm.give_op0 _ (by rfl) rfl rfl (by rfl) (by rfl) (by rfl) Mm.gPtr_in (fun others X hX => ?_) ?_
      · go_wp2
        exact Mm.gvq_ptr hX rfl rfl rfl
      rintro v ds ⟨gp46, rfl, rfl⟩
      simp only [Act.put, List.setIfInBounds_toArray, List.set_cons_succ, List.set_cons_zero]
      refine Mm.give_store 31 gp46 [.slice none 0 0, .slice none 0 0, .slice none 0 0, .slice none 0 0, .slice none 0 0] [.slice A0_q46 n0_q46 c0_q46, .slice A1_q46 n1_q46 c1_q46, .slice A2_q46 n2_q46 c2_q46, .slice A3_q46 n3_q46 c3_q46, .slice A4_q46 n4_q46 c4_q46] 8 (by rfl) rfl rfl (by rfl) rfl (by rfl) rfl rfl (fun others X hX => ?_) ?_
      · have HSR := Lib.hid hX
        have r0 := HSR.out.cell (k := 0) 0 rfl rfl
        have z0 := HSR.out.frz (k := 0) 0 rfl
        have r1 := HSR.out.cell (k := 1) 0 rfl rfl
        have z1 := HSR.out.frz (k := 1) 0 rfl
        have r2 := HSR.out.cell (k := 2) 0 rfl rfl
        have z2 := HSR.out.frz (k := 2) 0 rfl
        have r3 := HSR.out.cell (k := 3) 0 rfl rfl
        have z3 := HSR.out.frz (k := 3) 0 rfl
        have r4 := HSR.out.cell (k := 4) 0 rfl rfl
        have z4 := HSR.out.frz (k := 4) 0 rfl
        go_wp2
        exact ⟨rfl, rfl, _, rfl, (((((hX.setBlk (k := 0) 0 rfl (.slice A0_q46 n0_q46 c0_q46)).setBlk (k := 1) 0 rfl (.slice A1_q46 n1_q46 c1_q46)).setBlk (k := 2) 0 rfl (.slice A2_q46 n2_q46 c2_q46)).setBlk (k := 3) 0 rfl (.slice A3_q46 n3_q46 c3_q46)).setBlk (k := 4) 0 rfl (.slice A4_q46 n4_q46 c4_q46))⟩
      refine Mm.give_nil ?_
      rintro X46 hX
      have hXs : Mm.SepF [] v44 X46 [Mm.tow rTell (Pl.stepTell t s).1 [.slice A0_q46 n0_q46 c0_q46, .slice A1_q46 n1_q46 c1_q46, .slice A2_q46 n2_q46 c2_q46, .slice A3_q46 n3_q46 c3_q46, .slice A4_q46 n4_q46 c4_q46] fp46, Mm.tblk gp46 31 [.slice A0_q46 n0_q46 c0_q46, .slice A1_q46 n1_q46 c1_q46, .slice A2_q46 n2_q46 c2_q46, .slice A3_q46 n3_q46 c3_q46, .slice A4_q46 n4_q46 c4_q46]] := hX
      clear hX
      have hbz := hXs.bel0
      have ho46 : rTell.own X46 (Pl.stepTell t s).1 [.slice A0_q46 n0_q46 c0_q46, .slice A1_q46 n1_q46 c1_q46, .slice A2_q46 n2_q46 c2_q46, .slice A3_q46 n3_q46 c3_q46, .slice A4_q46 n4_q46 c4_q46] fp46 := hXs.at_ 0 rfl
      have hnd46 := hXs.ndat (i := 0) rfl
      have hf46 : ∀ b, b ∈ fp46 → v44.heap.size ≤ b := fun b hb' => (hXs.new b (Mm.SepF.mem (i := 0) rfl hb')).resolve_left (fun hh => by cases hh)
      have hgp46 : v44.heap.size ≤ gp46 := (hXs.new gp46 (Mm.SepF.mem (i := 1) rfl (by simp [Mm.tblk]))).resolve_left (fun hh => by cases hh)
      have NJ46_fpm := Lib.hid (show ¬ gp46 ∈ fpm from fun hm => by have := rTell.olt OM.out gp46 hm; omega)
      clear hgp46
      have HR_t := Lib.hid (rTell.keep HR_t.out fun b hb' => hbz.block b (Nat.lt_of_lt_of_le hb' HB_t.out))
      have HB_t := Lib.hid (Nat.le_trans HB_t.out hbz.size)
      have HW0 := Lib.hid (rTell.keep HW0.out fun b hb' => hbz.block b (Nat.lt_of_lt_of_le hb' HW0_s.out))
      have HW0_s := Lib.hid (Nat.le_trans HW0_s.out hbz.size)
      have OM := Lib.hid (rTell.okeep OM.out fun b hb' => hbz.block b (rTell.olt OM.out b hb'))
      have KP_t := Lib.hid (KP_t.out.bel hbz)
      have KP_s := Lib.hid (KP_s.out.bel hbz)
      have KW := Lib.hid (KW.out.bel hbz)
      have KX_t := Lib.hid (KX_t.out.bel hbz)
      have KG := Lib.hid (KG.out.bel hbz)
      have HT48 := Lib.hid (below_step HT45.out hbz)
      have HH := Lib.hid (rTell.weak ho46 (B := X46.heap.size) (rTell.olt ho46))
      have HH_s := Lib.hid (Nat.le_refl X46.heap.size)
      have KH := Lib.hid (show Mm.Blk X46 gp46 31 [.slice A0_q46 n0_q46 c0_q46, .slice A1_q46 n1_q46 c1_q46, .slice A2_q46 n2_q46 c2_q46, .slice A3_q46 n3_q46 c3_q46, .slice A4_q46 n4_q46 c4_q46] from hXs.at_ 1 rfl)
      clear ho46 hnd46 hf46 hXs hbz
      have c49_KW_0 := KW.out.cell (i := 0) rfl
      have c49_KW_1 := KW.out.cell (i := 1) rfl
      have c49_KW_2 := KW.out.cell (i := 2) rfl
      have c49_KW_3 := KW.out.cell (i := 3) rfl
      have c49_KW_4 := KW.out.cell (i := 4) rfl
      have c49_KH_0 := KH.out.cell (i := 0) rfl
      have c49_KH_1 := KH.out.cell (i := 1) rfl
      have c49_KH_2 := KH.out.cell (i := 2) rfl
      have c49_KH_3 := KH.out.cell (i := 3) rfl
      have c49_KH_4 := KH.out.cell (i := 4) rfl
      go_wp2_with fail
      refine (eqTell_at (Pl.stepTell t s).1 _ _ _ _ (rTell.more HH.out HH_s.out) (rTell.more HW0.out HW0_s.out) (Nat.le_refl _)).mono ?_
      rintro e v50 ⟨rfl, hbz⟩
      have HR_t := Lib.hid (rTell.keep HR_t.out fun b hb' => hbz.block b (Nat.lt_of_lt_of_le hb' HB_t.out))
      have HB_t := Lib.hid (Nat.le_trans HB_t.out hbz.size)
      have HW0 := Lib.hid (rTell.keep HW0.out fun b hb' => hbz.block b (Nat.lt_of_lt_of_le hb' HW0_s.out))
      have HW0_s := Lib.hid (Nat.le_trans HW0_s.out hbz.size)
      have HH := Lib.hid (rTell.keep HH.out fun b hb' => hbz.block b (Nat.lt_of_lt_of_le hb' HH_s.out))
      have HH_s := Lib.hid (Nat.le_trans HH_s.out hbz.size)
      have OM := Lib.hid (rTell.okeep OM.out fun b hb' => hbz.block b (rTell.olt OM.out b hb'))
      have KP_t := Lib.hid (KP_t.out.bel hbz)
      have KP_s := Lib.hid (KP_s.out.bel hbz)
      have KW := Lib.hid (KW.out.bel hbz)
      have KX_t := Lib.hid (KX_t.out.bel hbz)
      have KG := Lib.hid (KG.out.bel hbz)
      have KH := Lib.hid (KH.out.bel hbz)
      have HT51 := Lib.hid (below_step HT48.out hbz)
      clear hbz
      have c52_KG_0 := KG.out.cell (i := 0) rfl
      have c52_KG_1 := KG.out.cell (i := 1) rfl
      have c52_KG_2 := KG.out.cell (i := 2) rfl
      have c52_KG_3 := KG.out.cell (i := 3) rfl
      have c52_KG_4 := KG.out.cell (i := 4) rfl
      go_wp2_with fail
      refine (heldTell_c (Pl.stepTell t s).1 _ _ _ _ (rTell.weak OM.out (B := _) (rTell.olt OM.out)) (Nat.le_refl _) (by omega) (by rw [HCG.out]; omega)).mono ?_
      rintro e v53 ⟨rfl, hbz⟩
      rw [HCG.out]
      have HR_t := Lib.hid (rTell.keep HR_t.out fun b hb' => hbz.block b (Nat.lt_of_lt_of_le hb' HB_t.out))
      have HB_t := Lib.hid (Nat.le_trans HB_t.out hbz.size)
      have HW0 := Lib.hid (rTell.keep HW0.out fun b hb' => hbz.block b (Nat.lt_of_lt_of_le hb' HW0_s.out))
      have HW0_s := Lib.hid (Nat.le_trans HW0_s.out hbz.size)
      have HH := Lib.hid (rTell.keep HH.out fun b hb' => hbz.block b (Nat.lt_of_lt_of_le hb' HH_s.out))
      have HH_s := Lib.hid (Nat.le_trans HH_s.out hbz.size)
      have OM := Lib.hid (rTell.okeep OM.out fun b hb' => hbz.block b (rTell.olt OM.out b hb'))
      have KP_t := Lib.hid (KP_t.out.bel hbz)
      have KP_s := Lib.hid (KP_s.out.bel hbz)
      have KW := Lib.hid (KW.out.bel hbz)
      have KX_t := Lib.hid (KX_t.out.bel hbz)
      have KG := Lib.hid (KG.out.bel hbz)
      have KH := Lib.hid (KH.out.bel hbz)
      have HT54 := Lib.hid (below_step HT51.out hbz)
      clear hbz
      go_wp2
      go_ret
      exact ⟨rfl, HT54.out⟩
end Go.Proofs.Ytaepohocabealaa

/-
  The laws' own types, opened. No conditions.
-/
namespace Go.Proofs.Ytaepohocabealaa
theorem opens_IntS : Mm.Opens Try.prog 27 (Mm.slice Mm.int 3) := Mm.opens_slice Try.underlying27 (by kernel_rfl) (by decide) (Mm.opens_int Try.underlying3 (by kernel_rfl))
theorem opens_StringS : Mm.Opens Try.prog 40 (Mm.slice Mm.str 9) := Mm.opens_slice Try.underlying40 (by kernel_rfl) (by decide) (Mm.opens_str Try.underlying9 (by kernel_rfl))
theorem opens_BoolS : Mm.Opens Try.prog 32 (Mm.slice Mm.bool 4) := Mm.opens_slice Try.underlying32 (by kernel_rfl) (by decide) (Mm.opens_bool Try.underlying4 (by kernel_rfl))
theorem opens_StringSS : Mm.Opens Try.prog 26 (Mm.slice strs 40) := Mm.opens_slice Try.underlying26 (by kernel_rfl) (by decide) opens_StringS
theorem opens_Told : Mm.Opens Try.prog 132 rTold :=
  Mm.opens_map (Mm.opens_struct (E := (Mm.pair Mm.int (Mm.pair Mm.int Mm.str))) Try.underlying132 (by kernel_rfl) (Mm.opensF_cons rfl (Mm.opens_int Try.underlying3 (by kernel_rfl)) (Mm.opensF_cons rfl (Mm.opens_int Try.underlying3 (by kernel_rfl)) (Mm.opensF_one rfl (Mm.opens_str Try.underlying9 (by kernel_rfl)))))) rfl
    (fun w B x cs h => by obtain ⟨_, _, rfl, ⟨rfl, h0⟩, ⟨_, _, rfl, ⟨rfl, h1⟩, ⟨rfl, h2⟩⟩⟩ := h; exact ⟨⟨x.1, x.2.1, x.2.2⟩, rfl, ⟨h0, h1, h2⟩⟩)
theorem opens_ToldS : Mm.Opens Try.prog 72 (Mm.slice rTold 132) := Mm.opens_slice Try.underlying72 (by kernel_rfl) (by decide) opens_Told
theorem opens_Note : Mm.Opens Try.prog 134 rNote :=
  Mm.opens_map (Mm.opens_struct (E := (Mm.pair Mm.bool rTold)) Try.underlying134 (by kernel_rfl) (Mm.opensF_cons rfl (Mm.opens_bool Try.underlying4 (by kernel_rfl)) (Mm.opensF_one rfl opens_Told))) rfl
    (fun w B x cs h => by obtain ⟨_, _, rfl, ⟨rfl, h0⟩, ⟨rfl, h1⟩⟩ := h; exact ⟨⟨x.1, x.2⟩, rfl, ⟨h1.1, h1.2.1, h1.2.2⟩⟩)
theorem opens_NoteS : Mm.Opens Try.prog 71 (Mm.slice rNote 134) := Mm.opens_slice Try.underlying71 (by kernel_rfl) (by decide) opens_Note
theorem opens_TellStep : Mm.Opens Try.prog 78 rTellStep :=
  Mm.opens_map (Mm.opens_struct (E := (Mm.pair Mm.int (Mm.pair Mm.int Mm.str))) Try.underlying78 (by kernel_rfl) (Mm.opensF_cons rfl (Mm.opens_int Try.underlying3 (by kernel_rfl)) (Mm.opensF_cons rfl (Mm.opens_int Try.underlying3 (by kernel_rfl)) (Mm.opensF_one rfl (Mm.opens_str Try.underlying9 (by kernel_rfl)))))) rfl
    (fun w B x cs h => by obtain ⟨_, _, rfl, ⟨rfl, h0⟩, ⟨_, _, rfl, ⟨rfl, h1⟩, ⟨rfl, h2⟩⟩⟩ := h; exact ⟨⟨x.1, x.2.1, x.2.2⟩, rfl, ⟨h0, h1, h2⟩⟩)
theorem opens_TellStepS : Mm.Opens Try.prog 63 (Mm.slice rTellStep 78) := Mm.opens_slice Try.underlying63 (by kernel_rfl) (by decide) opens_TellStep
theorem opens_Tell : Mm.Opens Try.prog 74 rTell :=
  Mm.opens_map (Mm.opens_struct (E := (Mm.pair strss (Mm.pair ints (Mm.pair rNoteS (Mm.pair rToldS ints))))) Try.underlying74 (by kernel_rfl) (Mm.opensF_cons rfl opens_StringSS (Mm.opensF_cons rfl opens_IntS (Mm.opensF_cons rfl opens_NoteS (Mm.opensF_cons rfl opens_ToldS (Mm.opensF_one rfl opens_IntS)))))) rfl
    (fun w B x cs h => ⟨⟨x.1, x.2.1, x.2.2.1, x.2.2.2.1, x.2.2.2.2⟩, h⟩)
end Go.Proofs.Ytaepohocabealaa

/-
  The statement of FnExactStepTell: for every input the law returns true, and every argument reads afterwards as it read before. No conditions.
-/
namespace Go.Proofs.Ytaepohocabealaa.fnExactStepTell
open Go.ChangeShapes Go.WideShapes Go.ChangeAt Go.RowKit
open Go.ChangeMaps (open_string shut_string)
set_option linter.unusedVariables false

theorem own : ownKnob Try.prog.godebug = none := by kernel_rfl
theorem laidOut : laidOutB Try.prog = true := by kernel_rfl

set_option maxRecDepth 100000 in
theorem lifted (os : Os) (started : os.Started) (H : Type) (enc : TypeId × Value → H) :
    ReturnsInHanded {} Try.checked os 7 .any (Rows.fnExactStepTellSpec.pre6 enc Try.prog Try.f7 Rows.fnExactStepTellRow.domain false) (Rows.fnExactStepTellSpec.post enc Try.prog Try.f7 false true false false) := by
  refine returnsInHanded_of_change (C := Try.checked) own started (by kernel_rfl) Try.func7
    (ChangeSpec.witness6 (enc := enc) (C := Try.checked) false ⟨#[], #[.agg #[.slice none 0 0, .slice none 0 0, .slice none 0 0, .slice none 0 0, .slice none 0 0], .agg #[.int .i64 0, .int .i64 0, .string ByteArray.empty]], []⟩ 8 (by kernel_rfl) (by kernel_rfl) (by kernel_rfl) (by kernel_rfl)) ?_
  intro W base args ds gs before hval0 hW hcnd _
  have hval : ∀ (j : Nat) t v, Try.f7.params[j]? = some t → args[j]? = some v → Value.okWide Try.prog W .any base t v := hval0
  have hW' := hW
  obtain ⟨p, q, hA0, hV, rfl, hfz, hnd⟩ := hW
  have hA : DataW.TrodAll enc Try.prog W 0 (fun _ => true) true Try.f7.params.toList args.toList ds p := hA0
  rw [Try.params7] at hA hval
  obtain ⟨v0, vs0, d0, ds0, p0, q0, hargs, rfl, rfl, h0, r0⟩ := trodAll_cons hA
  obtain ⟨v1, vs1, d1, ds1, p1, q1, rfl, rfl, rfl, h1, r1⟩ := trodAll_cons r0
  obtain ⟨rfl, rfl, rfl⟩ := trodAll_nil r1
  obtain rfl : args = #[v0, v1] := by cases args; simp_all
  obtain ⟨rfl, rfl⟩ := trodVars_none hV
  have k0 := h0
  have lt0 : ∀ x ∈ p0, x.block < W.heap.size := by obtain ⟨m, hm⟩ := k0; exact DataW.trod_lt m _ _ _ hm
  have k1 := h1
  have lt1 : ∀ x ∈ p1, x.block < W.heap.size := by obtain ⟨m, hm⟩ := k1; exact DataW.trod_lt m _ _ _ hm
  obtain ⟨cs0, a0, rfl, w0⟩ := Mm.open_st opens_Tell Try.underlying74 (hval 0 74 v0 rfl rfl) h0
  obtain ⟨cs1, a1, rfl, w1⟩ := Mm.open_st opens_TellStep Try.underlying78 (hval 1 78 v1 rfl rfl) h1
  clear hA0 hval0
  refine (walk_FnExactStepTell cs0 a0 cs1 a1 W w0 w1).mono fun e W' ⟨he, bel⟩ => ?_
  subst he
  exact ⟨_, rfl, _, _, _, [], _, [], hW', trodAll_mk1 (shut_bool Try.underlying4 _), (trodAll_cons_mk (Below.trod laidOut (by kernel_rfl) (of_decide_eq_true (by kernel_rfl)) k0 bel lt0) (trodAll_cons_mk (Below.trod laidOut (by kernel_rfl) (of_decide_eq_true (by kernel_rfl)) k1 bel lt1) trodAll_mk0)), rfl, bel.frame _, fun h => by cases h⟩

theorem over : Rows.fnExactStepTellRow.holds Try.pinned (OpenSpec.ofChange Rows.fnExactStepTellSpec) :=
  OpenClaim.holds_of_wide 7 Try.f7 rfl rfl rfl rfl rfl rfl rfl ⟨rfl, rfl, rfl, rfl, rfl⟩ rfl rfl rfl rfl rfl (by kernel_rfl) Try.func7 (by kernel_rfl)
    (of_decide_eq_true (by kernel_rfl)) (by unfold Func.isWrapper; first | (rw [if_pos (by decide +kernel)]; kernel_rfl) | (rw [if_neg (by decide +kernel)]; exact ⟨rfl, rfl⟩))
    (fun os started H enc _ => lifted os started H enc)

theorem proved : Rows.FnExactStepTellSaid := over
#print axioms proved
end Go.Proofs.Ytaepohocabealaa.fnExactStepTell
