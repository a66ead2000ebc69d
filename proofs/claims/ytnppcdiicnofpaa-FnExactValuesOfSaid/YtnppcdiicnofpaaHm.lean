/-
  The laws' own markings of things that are owned. No conditions.
-/
import Derived.Test.YtnppcdiicnofpaaWa
import Derived.Test.YtnppcdiicnofpaaTy
import Derived.Test.YtnppcdiicnofpaaQu
import Derived.Test.YtnppcdiicnofpaaMt
import Derived.Lib.Hide
import Derived.Deep.DeepFit
namespace Go.Proofs.Ytnppcdiicnofpaa
open Go.RowKit
attribute [local go_sem] und_cell
set_option maxHeartbeats 2000000 in
theorem markIntS_c (l : List Int) (A : Option Addr) (n c : Nat) (fp : List Nat) (k : Int) (w : World) (ho : Mm.SlOwn Mm.int 3 w l (.slice A n c) fp) (hnd : fp.Nodup) (h0 : 1 ≤ k) (h1 : k + Mm.cntL Pl.cnt1 l ≤ 1000000000000) :
    Calls Try.prog 16 #[.slice A n c, .int .i64 k] w (Mm.MkRet Mm.int 3 Pl.mkInt Pl.cnt1 w l (.slice A n c) fp k) := by
  have hn : n ≤ 9223372036854775807 := by
    obtain ⟨_, _, _, he, _, h2, h3, _⟩ := ho.form
    injection he with _ e2 e3
    subst e2; subst e3
    unfold maxLen at h3; omega
  have hlen : Hid (l.length = n) := by
    obtain ⟨_, _, _, he, h2, _⟩ := ho.form
    injection he with _ e2
    show l.length = n
    rw [e2, h2]
  have HN : Hid (∀ x : Int, 0 ≤ Pl.cnt1 x) := Pl.cnt1_nn
  have HST := Lib.hid (Mm.MkAt.start (mk := Pl.mkInt) (cnt := Pl.cnt1) (k := k) ho hnd)
  clear ho hnd
  go_enter Try.func16, Try.ntmps16
  go_wp2
  go_loopw [1, 5] (fun kk i wr => ∃ j : Nat, j ≤ n ∧ i = .int .i64 j ∧ kk = .int .i64 (k + Mm.cntL Pl.cnt1 (l.take j)) ∧ Mm.MkAt Mm.int 3 Pl.mkInt Pl.cnt1 w l (.slice A n c) fp k j wr) (fun _ i _ => n - (intOf i).toNat)
  case atStart => exact ⟨0, Nat.zero_le _, rfl, by simp [Mm.cntL], HST.out⟩
  case round =>
    clear HST
    obtain ⟨j, hj, rfl, rfl, hm⟩ := hrel
    rename_i wr _
    by_cases hlt : j < n
    · obtain ⟨x, hx⟩ : ∃ x, l[j]? = some x := ⟨_, List.getElem?_eq_getElem (by have := hlen.out; omega)⟩
      have hc1 : Mm.cntL Pl.cnt1 (l.take (j + 1)) = Mm.cntL Pl.cnt1 (l.take j) + Pl.cnt1 x := Mm.cntL_succ hx
      have hc2 := Mm.cntL_take_le HN.out l (j + 1)
      have hc3 := Mm.cntL_nn HN.out (l.take j)
      have hc4 := HN.out x
      obtain ⟨kj, hkj⟩ : ∃ kj, k + Mm.cntL Pl.cnt1 (l.take j) = kj := ⟨_, rfl⟩
      rw [hkj]
      have hk0 : 1 ≤ kj := by omega
      have hk1 : kj + Pl.cnt1 x ≤ 1000000000000 := by omega
      have HX := Lib.hid (And.intro hx (And.intro hkj hc1))
      obtain ⟨hchg, fp0, ho0, hnd0, hsub0⟩ := hm
      have hx0 := Mm.half_get (mk := Pl.mkInt) (cnt := Pl.cnt1) (k := k) hx
      obtain ⟨g, rfl⟩ : ∃ g, A = some ⟨g, 0, none⟩ := by
        obtain ⟨_, _, hs, _⟩ := ho0
        obtain ⟨g, cap, he, _⟩ := hs.form (by rw [Mm.half_len]; have := hlen.out; omega)
        injection he with he
        exact ⟨g, he⟩
      have hgl := ho0.olt g ho0.mem_block
      have HC0 := Lib.hid hchg
      have HO0 := Lib.hid (And.intro ho0 (And.intro hnd0 (And.intro hsub0 hx0)))
      clear hchg hx hkj hc1 hc2 hc3 hx0
      have hcx : Pl.cnt1 x = 1 := rfl
      rw [hcx] at hk1
      have HCX := Lib.hid hcx
      clear hcx hc4
      have d0_0 := int_ocell HO0.out.1 HO0.out.2.1 HO0.out.2.2.2
      have e0_0 := HO0.out.1.frozen (j)
      have st0 := HO0.out.1.store HO0.out.2.1 (j := 0) (x' := kj) (u := .int .i64 (kj)) HO0.out.2.2.2 (by decide) (fun cs fx hh => by obtain ⟨rfl, _, rfl⟩ := hh; exact ⟨rfl, (by unfold Mm.I64; first | omega | (dsimp only; omega)), rfl⟩)
      rw [show j * (Mm.int).size + 0 = j from (by show j * 1 + 0 = j; omega)] at st0
      have HO0s := Lib.hid (And.intro st0 (And.intro HO0.out.2.1 (And.intro HO0.out.2.2.1 (show ((Mm.half Pl.mkInt Pl.cnt1 l k j).set j kj)[j]? = some kj from List.getElem?_set_self (by rw [Mm.half_len]; have := hlen.out; omega)))))
      have HC0s := Lib.hid (HC0.out.setCell (p := ⟨g, j, none⟩) (HO0.out.2.2.1 g HO0.out.1.mem_block) (.int .i64 (kj)))
      clear st0
      go_wp2
      go_roundw
      case rel =>
        refine ⟨j + 1, by omega, by go_num, ?_, ?_⟩
        · have h3 := HX.out.2.1; have h4 := HX.out.2.2; have h5 := HCX.out
          rw [h4]
          show Value.int .i64 _ = Value.int .i64 _
          congr 1
          omega
        · have h3 := HX.out.2.1
          refine ⟨HC0s.out, _, ?_, HO0s.out.2.1, HO0s.out.2.2.1⟩
          rw [← Mm.half_set HX.out.1, h3]
          exact HO0s.out.1
      case measure => simp [intOf]; omega
    · have HM := Lib.hid hm
      go_wp2
      go_ret
      exact HM.out.done (by have := hlen.out; omega)
set_option maxHeartbeats 2000000 in
theorem markStringS_c (l : List ByteArray) (A : Option Addr) (n c : Nat) (fp : List Nat) (k : Int) (w : World) (ho : Mm.SlOwn Mm.str 9 w l (.slice A n c) fp) (hnd : fp.Nodup) (h0 : 1 ≤ k) (h1 : k + Mm.cntL Pl.cnt1 l ≤ 1000000000000) :
    Calls Try.prog 41 #[.slice A n c, .int .i64 k] w (Mm.MkRet Mm.str 9 Pl.mkStr Pl.cnt1 w l (.slice A n c) fp k) := by
  have hn : n ≤ 9223372036854775807 := by
    obtain ⟨_, _, _, he, _, h2, h3, _⟩ := ho.form
    injection he with _ e2 e3
    subst e2; subst e3
    unfold maxLen at h3; omega
  have hlen : Hid (l.length = n) := by
    obtain ⟨_, _, _, he, h2, _⟩ := ho.form
    injection he with _ e2
    show l.length = n
    rw [e2, h2]
  have HN : Hid (∀ x : ByteArray, 0 ≤ Pl.cnt1 x) := Pl.cnt1_nn
  have HST := Lib.hid (Mm.MkAt.start (mk := Pl.mkStr) (cnt := Pl.cnt1) (k := k) ho hnd)
  clear ho hnd
  go_enter Try.func41, Try.ntmps41
  go_wp2
  go_loopw [1, 5] (fun kk i wr => ∃ j : Nat, j ≤ n ∧ i = .int .i64 j ∧ kk = .int .i64 (k + Mm.cntL Pl.cnt1 (l.take j)) ∧ Mm.MkAt Mm.str 9 Pl.mkStr Pl.cnt1 w l (.slice A n c) fp k j wr) (fun _ i _ => n - (intOf i).toNat)
  case atStart => exact ⟨0, Nat.zero_le _, rfl, by simp [Mm.cntL], HST.out⟩
  case round =>
    clear HST
    obtain ⟨j, hj, rfl, rfl, hm⟩ := hrel
    rename_i wr _
    by_cases hlt : j < n
    · obtain ⟨x, hx⟩ : ∃ x, l[j]? = some x := ⟨_, List.getElem?_eq_getElem (by have := hlen.out; omega)⟩
      have hc1 : Mm.cntL Pl.cnt1 (l.take (j + 1)) = Mm.cntL Pl.cnt1 (l.take j) + Pl.cnt1 x := Mm.cntL_succ hx
      have hc2 := Mm.cntL_take_le HN.out l (j + 1)
      have hc3 := Mm.cntL_nn HN.out (l.take j)
      have hc4 := HN.out x
      obtain ⟨kj, hkj⟩ : ∃ kj, k + Mm.cntL Pl.cnt1 (l.take j) = kj := ⟨_, rfl⟩
      rw [hkj]
      have hk0 : 1 ≤ kj := by omega
      have hk1 : kj + Pl.cnt1 x ≤ 1000000000000 := by omega
      have HX := Lib.hid (And.intro hx (And.intro hkj hc1))
      obtain ⟨hchg, fp0, ho0, hnd0, hsub0⟩ := hm
      have hx0 := Mm.half_get (mk := Pl.mkStr) (cnt := Pl.cnt1) (k := k) hx
      obtain ⟨g, rfl⟩ : ∃ g, A = some ⟨g, 0, none⟩ := by
        obtain ⟨_, _, hs, _⟩ := ho0
        obtain ⟨g, cap, he, _⟩ := hs.form (by rw [Mm.half_len]; have := hlen.out; omega)
        injection he with he
        exact ⟨g, he⟩
      have hgl := ho0.olt g ho0.mem_block
      have HC0 := Lib.hid hchg
      have HO0 := Lib.hid (And.intro ho0 (And.intro hnd0 (And.intro hsub0 hx0)))
      clear hchg hx hkj hc1 hc2 hc3 hx0
      have hcx : Pl.cnt1 x = 1 := rfl
      rw [hcx] at hk1
      have HCX := Lib.hid hcx
      clear hcx hc4
      have d0_0 := str_ocell HO0.out.1 HO0.out.2.1 HO0.out.2.2.2
      have e0_0 := HO0.out.1.frozen (j)
      go_wp2_with fail
      refine (markText_c _ _ (by omega) (by omega)).mono ?_
      rintro e v0 ⟨rfl, hb0⟩
      have HO0m := Lib.hid (And.intro (HO0.out.1.okeep (w' := v0) (fun b hb => hb0.block b (HO0.out.1.olt b hb))) HO0.out.2)
      have HC0m := Lib.hid (Mm.und_chg HC0.out hb0)
      clear hb0
      have dm0_0 := str_ocell HO0m.out.1 HO0m.out.2.1 HO0m.out.2.2.2
      have em0_0 := HO0m.out.1.frozen (j)
      have st0 := HO0m.out.1.store HO0m.out.2.1 (j := 0) (x' := (Pl.mkText (kj))) (u := .string (Pl.mkText (kj))) HO0m.out.2.2.2 (by decide) (fun cs fx hh => by obtain ⟨rfl, _, rfl⟩ := hh; exact ⟨rfl, (Pl.mkText_len _ (by first | omega | (dsimp only; omega)) (by first | omega | (dsimp only; omega))), rfl⟩)
      rw [show j * (Mm.str).size + 0 = j from (by show j * 1 + 0 = j; omega)] at st0
      have HO0s := Lib.hid (And.intro st0 (And.intro HO0m.out.2.1 (And.intro HO0m.out.2.2.1 (show ((Mm.half Pl.mkStr Pl.cnt1 l k j).set j (Pl.mkText (kj)))[j]? = some (Pl.mkText (kj)) from List.getElem?_set_self (by rw [Mm.half_len]; have := hlen.out; omega)))))
      have HC0s := Lib.hid (HC0m.out.setCell (p := ⟨g, j, none⟩) (HO0m.out.2.2.1 g HO0m.out.1.mem_block) (.string (Pl.mkText (kj))))
      clear st0
      go_wp2
      go_roundw
      case rel =>
        refine ⟨j + 1, by omega, by go_num, ?_, ?_⟩
        · have h3 := HX.out.2.1; have h4 := HX.out.2.2; have h5 := HCX.out
          rw [h4]
          show Value.int .i64 _ = Value.int .i64 _
          congr 1
          omega
        · have h3 := HX.out.2.1
          refine ⟨HC0s.out, _, ?_, HO0s.out.2.1, HO0s.out.2.2.1⟩
          rw [← Mm.half_set HX.out.1, h3]
          exact HO0s.out.1
      case measure => simp [intOf]; omega
    · have HM := Lib.hid hm
      go_wp2
      go_ret
      exact HM.out.done (by have := hlen.out; omega)
set_option maxHeartbeats 2000000 in
theorem markLabelS_c (l : List Label) (A : Option Addr) (n c : Nat) (fp : List Nat) (k : Int) (w : World) (ho : Mm.SlOwn rLabel 97 w l (.slice A n c) fp) (hnd : fp.Nodup) (h0 : 1 ≤ k) (h1 : k + Mm.cntL Pl.cntLabel l ≤ 1000000000000) :
    Calls Try.prog 55 #[.slice A n c, .int .i64 k] w (Mm.MkRet rLabel 97 Pl.mkLabel Pl.cntLabel w l (.slice A n c) fp k) := by
  have hn : n ≤ 9223372036854775807 := by
    obtain ⟨_, _, _, he, _, h2, h3, _⟩ := ho.form
    injection he with _ e2 e3
    subst e2; subst e3
    unfold maxLen at h3; omega
  have hlen : Hid (l.length = n) := by
    obtain ⟨_, _, _, he, h2, _⟩ := ho.form
    injection he with _ e2
    show l.length = n
    rw [e2, h2]
  have HN : Hid (∀ x : Label, 0 ≤ Pl.cntLabel x) := Pl.cntLabel_nn
  have HST := Lib.hid (Mm.MkAt.start (mk := Pl.mkLabel) (cnt := Pl.cntLabel) (k := k) ho hnd)
  clear ho hnd
  go_enter Try.func55, Try.ntmps55
  go_wp2
  go_loopw [1, 5] (fun kk i wr => ∃ j : Nat, j ≤ n ∧ i = .int .i64 j ∧ kk = .int .i64 (k + Mm.cntL Pl.cntLabel (l.take j)) ∧ Mm.MkAt rLabel 97 Pl.mkLabel Pl.cntLabel w l (.slice A n c) fp k j wr) (fun _ i _ => n - (intOf i).toNat)
  case atStart => exact ⟨0, Nat.zero_le _, rfl, by simp [Mm.cntL], HST.out⟩
  case round =>
    clear HST
    obtain ⟨j, hj, rfl, rfl, hm⟩ := hrel
    rename_i wr _
    by_cases hlt : j < n
    · obtain ⟨x, hx⟩ : ∃ x, l[j]? = some x := ⟨_, List.getElem?_eq_getElem (by have := hlen.out; omega)⟩
      have hc1 : Mm.cntL Pl.cntLabel (l.take (j + 1)) = Mm.cntL Pl.cntLabel (l.take j) + Pl.cntLabel x := Mm.cntL_succ hx
      have hc2 := Mm.cntL_take_le HN.out l (j + 1)
      have hc3 := Mm.cntL_nn HN.out (l.take j)
      have hc4 := HN.out x
      obtain ⟨kj, hkj⟩ : ∃ kj, k + Mm.cntL Pl.cntLabel (l.take j) = kj := ⟨_, rfl⟩
      rw [hkj]
      have hk0 : 1 ≤ kj := by omega
      have hk1 : kj + Pl.cntLabel x ≤ 1000000000000 := by omega
      have HX := Lib.hid (And.intro hx (And.intro hkj hc1))
      obtain ⟨hchg, fp0, ho0, hnd0, hsub0⟩ := hm
      have hx0 := Mm.half_get (mk := Pl.mkLabel) (cnt := Pl.cntLabel) (k := k) hx
      obtain ⟨g, rfl⟩ : ∃ g, A = some ⟨g, 0, none⟩ := by
        obtain ⟨_, _, hs, _⟩ := ho0
        obtain ⟨g, cap, he, _⟩ := hs.form (by rw [Mm.half_len]; have := hlen.out; omega)
        injection he with he
        exact ⟨g, he⟩
      have hgl := ho0.olt g ho0.mem_block
      have HC0 := Lib.hid hchg
      have HO0 := Lib.hid (And.intro ho0 (And.intro hnd0 (And.intro hsub0 hx0)))
      clear hchg hx hkj hc1 hc2 hc3 hx0
      have hcx : Pl.cntLabel x = 1 + 1 := rfl
      rw [hcx] at hk1 hc4
      have HCX := Lib.hid hcx
      clear hcx hc4
      obtain ⟨d0_0, d0_1⟩ := rLabel_ocell HO0.out.1 HO0.out.2.1 HO0.out.2.2.2
      have e0_0 := HO0.out.1.frozen (j * 2)
      have e0_1 := HO0.out.1.frozen (j * 2 + 1)
      go_wp2_with fail
      refine (markText_c _ _ (by omega) (by omega)).mono ?_
      rintro e v0 ⟨rfl, hb0⟩
      have HO0m := Lib.hid (And.intro (HO0.out.1.okeep (w' := v0) (fun b hb => hb0.block b (HO0.out.1.olt b hb))) HO0.out.2)
      have HC0m := Lib.hid (Mm.und_chg HC0.out hb0)
      clear hb0
      obtain ⟨dm0_0, dm0_1⟩ := rLabel_ocell HO0m.out.1 HO0m.out.2.1 HO0m.out.2.2.2
      have em0_0 := HO0m.out.1.frozen (j * 2)
      have em0_1 := HO0m.out.1.frozen (j * 2 + 1)
      have st0 := HO0m.out.1.store HO0m.out.2.1 (j := 0) (x' := ⟨(Pl.mkText (kj)), x.Value⟩) (u := .string (Pl.mkText (kj))) HO0m.out.2.2.2 (by decide) (fun cs fx hh => by obtain ⟨rfl, ⟨g0, g1⟩, rfl⟩ := hh; exact ⟨rfl, ⟨(Pl.mkText_len _ (by first | omega | (dsimp only; omega)) (by first | omega | (dsimp only; omega))), g1⟩, rfl⟩)
      have HO0s := Lib.hid (And.intro st0 (And.intro HO0m.out.2.1 (And.intro HO0m.out.2.2.1 (show ((Mm.half Pl.mkLabel Pl.cntLabel l k j).set j ⟨(Pl.mkText (kj)), x.Value⟩)[j]? = some ⟨(Pl.mkText (kj)), x.Value⟩ from List.getElem?_set_self (by rw [Mm.half_len]; have := hlen.out; omega)))))
      have HC0s := Lib.hid (HC0m.out.setCell (p := ⟨g, j * 2, none⟩) (HO0m.out.2.2.1 g HO0m.out.1.mem_block) (.string (Pl.mkText (kj))))
      clear st0
      go_wp2_with fail
      refine (markText_c _ _ (by omega) (by omega)).mono ?_
      rintro e v1 ⟨rfl, hb1⟩
      have HO1m := Lib.hid (And.intro (HO0s.out.1.okeep (w' := v1) (fun b hb => hb1.block b (HO0s.out.1.olt b hb))) HO0s.out.2)
      have HC1m := Lib.hid (Mm.und_chg HC0s.out hb1)
      clear hb1
      obtain ⟨dm1_0, dm1_1⟩ := rLabel_ocell HO1m.out.1 HO1m.out.2.1 HO1m.out.2.2.2
      have em1_0 := HO1m.out.1.frozen (j * 2)
      have em1_1 := HO1m.out.1.frozen (j * 2 + 1)
      have st1 := HO1m.out.1.store HO1m.out.2.1 (j := 1) (x' := ⟨(Pl.mkText (kj)), (Pl.mkText ((kj + 1)))⟩) (u := .string (Pl.mkText ((kj + 1)))) HO1m.out.2.2.2 (by decide) (fun cs fx hh => by obtain ⟨rfl, ⟨g0, g1⟩, rfl⟩ := hh; exact ⟨rfl, ⟨g0, (Pl.mkText_len _ (by first | omega | (dsimp only; omega)) (by first | omega | (dsimp only; omega)))⟩, rfl⟩)
      rw [List.set_set] at st1
      have HO1s := Lib.hid (And.intro st1 (And.intro HO1m.out.2.1 (And.intro HO1m.out.2.2.1 (show ((Mm.half Pl.mkLabel Pl.cntLabel l k j).set j ⟨(Pl.mkText (kj)), (Pl.mkText ((kj + 1)))⟩)[j]? = some ⟨(Pl.mkText (kj)), (Pl.mkText ((kj + 1)))⟩ from List.getElem?_set_self (by rw [Mm.half_len]; have := hlen.out; omega)))))
      have HC1s := Lib.hid (HC1m.out.setCell (p := ⟨g, j * 2 + 1, none⟩) (HO1m.out.2.2.1 g HO1m.out.1.mem_block) (.string (Pl.mkText ((kj + 1)))))
      clear st1
      go_wp2
      go_roundw
      case rel =>
        refine ⟨j + 1, by omega, by go_num, ?_, ?_⟩
        · have h3 := HX.out.2.1; have h4 := HX.out.2.2; have h5 := HCX.out
          rw [h4]
          show Value.int .i64 _ = Value.int .i64 _
          congr 1
          omega
        · have h3 := HX.out.2.1
          refine ⟨HC1s.out, _, ?_, HO1s.out.2.1, HO1s.out.2.2.1⟩
          rw [← Mm.half_set HX.out.1, h3]
          exact HO1s.out.1
      case measure => simp [intOf]; omega
    · have HM := Lib.hid hm
      go_wp2
      go_ret
      exact HM.out.done (by have := hlen.out; omega)
set_option maxHeartbeats 2000000 in
theorem markItemS_c (l : List Item) (A : Option Addr) (n c : Nat) (fp : List Nat) (k : Int) (w : World) (ho : Mm.SlOwn rItem 91 w l (.slice A n c) fp) (hnd : fp.Nodup) (h0 : 1 ≤ k) (h1 : k + Mm.cntL Pl.cntItem l ≤ 1000000000000) :
    Calls Try.prog 45 #[.slice A n c, .int .i64 k] w (Mm.MkRet rItem 91 Pl.mkItem Pl.cntItem w l (.slice A n c) fp k) := by
  have hn : n ≤ 9223372036854775807 := by
    obtain ⟨_, _, _, he, _, h2, h3, _⟩ := ho.form
    injection he with _ e2 e3
    subst e2; subst e3
    unfold maxLen at h3; omega
  have hlen : Hid (l.length = n) := by
    obtain ⟨_, _, _, he, h2, _⟩ := ho.form
    injection he with _ e2
    show l.length = n
    rw [e2, h2]
  have HN : Hid (∀ x : Item, 0 ≤ Pl.cntItem x) := Pl.cntItem_nn
  have HST := Lib.hid (Mm.MkAt.start (mk := Pl.mkItem) (cnt := Pl.cntItem) (k := k) ho hnd)
  clear ho hnd
  go_enter Try.func45, Try.ntmps45
  go_wp2
  go_loopw [1, 5] (fun kk i wr => ∃ j : Nat, j ≤ n ∧ i = .int .i64 j ∧ kk = .int .i64 (k + Mm.cntL Pl.cntItem (l.take j)) ∧ Mm.MkAt rItem 91 Pl.mkItem Pl.cntItem w l (.slice A n c) fp k j wr) (fun _ i _ => n - (intOf i).toNat)
  case atStart => exact ⟨0, Nat.zero_le _, rfl, by simp [Mm.cntL], HST.out⟩
  case round =>
    clear HST
    obtain ⟨j, hj, rfl, rfl, hm⟩ := hrel
    rename_i wr _
    by_cases hlt : j < n
    · obtain ⟨x, hx⟩ : ∃ x, l[j]? = some x := ⟨_, List.getElem?_eq_getElem (by have := hlen.out; omega)⟩
      have hc1 : Mm.cntL Pl.cntItem (l.take (j + 1)) = Mm.cntL Pl.cntItem (l.take j) + Pl.cntItem x := Mm.cntL_succ hx
      have hc2 := Mm.cntL_take_le HN.out l (j + 1)
      have hc3 := Mm.cntL_nn HN.out (l.take j)
      have hc4 := HN.out x
      obtain ⟨kj, hkj⟩ : ∃ kj, k + Mm.cntL Pl.cntItem (l.take j) = kj := ⟨_, rfl⟩
      rw [hkj]
      have hk0 : 1 ≤ kj := by omega
      have hk1 : kj + Pl.cntItem x ≤ 1000000000000 := by omega
      have HX := Lib.hid (And.intro hx (And.intro hkj hc1))
      obtain ⟨hchg, fp0, ho0, hnd0, hsub0⟩ := hm
      have hx0 := Mm.half_get (mk := Pl.mkItem) (cnt := Pl.cntItem) (k := k) hx
      obtain ⟨g, rfl⟩ : ∃ g, A = some ⟨g, 0, none⟩ := by
        obtain ⟨_, _, hs, _⟩ := ho0
        obtain ⟨g, cap, he, _⟩ := hs.form (by rw [Mm.half_len]; have := hlen.out; omega)
        injection he with he
        exact ⟨g, he⟩
      have hgl := ho0.olt g ho0.mem_block
      have HC0 := Lib.hid hchg
      have HO0 := Lib.hid (And.intro ho0 (And.intro hnd0 (And.intro hsub0 hx0)))
      clear hchg hx hkj hc1 hc2 hc3 hx0
      have hcx : Pl.cntItem x = (Mm.cntL Pl.cntLabel) x.Labels + 1 := rfl
      have hq0 := Mm.cntL_nn (cnt := Pl.cntLabel) (Pl.cntLabel_nn) x.Labels
      obtain ⟨z0, hz0⟩ : ∃ z, (Mm.cntL Pl.cntLabel) x.Labels = z := ⟨_, rfl⟩
      rw [hz0] at hcx hq0
      rw [hcx] at hk1 hc4
      have HCX := Lib.hid hcx
      clear hcx hc4
      have HZ0 := Lib.hid hz0
      clear hz0
      obtain ⟨A0, n0, c0, d0_0, d0_1⟩ := rItem_ocell HO0.out.1 HO0.out.2.1 HO0.out.2.2.2
      have e0_0 := HO0.out.1.frozen (j * 2)
      have e0_1 := HO0.out.1.frozen (j * 2 + 1)
      obtain ⟨cs0, fx0, hox0, hnx0, hsx0, hcx0, hnext0⟩ := HO0.out.1.inner HO0.out.2.1 HO0.out.2.2.2
      obtain ⟨Ai0, ni0, ci0, fi0, rfl, rfl, gi0_0, gi0_1⟩ := rItem_own hox0
      have hoi0 := gi0_0
      clear d0_0
      have dd0 := Mm.cell_sp (a' := j * 2) (hcx0 0 _ rfl) rfl
      have HI0 := Lib.hid (And.intro hoi0 (And.intro hnx0 (And.intro hsx0 hnext0)))
      have HG0 := Lib.hid (And.intro gi0_0 gi0_1)
      clear hoi0 hnx0 hsx0 hnext0 hcx0 gi0_0 gi0_1
      go_wp2_with fail
      refine (markLabelS_c x.Labels _ _ _ _ _ _ HI0.out.1 HI0.out.2.1 (by omega) (by have hz9 := HZ0.out; omega)).mono ?_
      rintro e v0 ⟨rfl, hch0, fn0, ho0', hnd0', hsub0'⟩
      obtain ⟨fo0, hof0, hnf0, hsf0⟩ := HI0.out.2.2.2 v0 (⟨((Mm.mkL Pl.mkLabel Pl.cntLabel) x.Labels kj), x.Value⟩ : Item) fn0 hch0 (rItem_own_mk (x := ⟨((Mm.mkL Pl.mkLabel Pl.cntLabel) x.Labels kj), x.Value⟩) ho0' HG0.out.2) hnd0' hsub0'
      have HO0s := Lib.hid (And.intro hof0 (And.intro hnf0 (And.intro (fun b hb => HO0.out.2.2.1 b (hsf0 b hb)) (show ((Mm.half Pl.mkItem Pl.cntItem l k j).set j ⟨((Mm.mkL Pl.mkLabel Pl.cntLabel) x.Labels kj), x.Value⟩)[j]? = some ⟨((Mm.mkL Pl.mkLabel Pl.cntLabel) x.Labels kj), x.Value⟩ from List.getElem?_set_self (by rw [Mm.half_len]; have := hlen.out; omega)))))
      have HC0s := Lib.hid (HC0.out.trans (hch0.more (fun b hb => HO0.out.2.2.1 b (HI0.out.2.2.1 b hb).1)))
      clear hch0 ho0' hnd0' hsub0' hof0 hnf0 hsf0
      rw [HZ0.out]
      obtain ⟨An0, nn0, cn0, dn0_0, dn0_1⟩ := rItem_ocell HO0s.out.1 HO0s.out.2.1 HO0s.out.2.2.2
      have en0_0 := HO0s.out.1.frozen (j * 2)
      have en0_1 := HO0s.out.1.frozen (j * 2 + 1)
      have st1 := HO0s.out.1.store HO0s.out.2.1 (j := 1) (x' := ⟨((Mm.mkL Pl.mkLabel Pl.cntLabel) x.Labels kj), (kj + z0)⟩) (u := .int .i64 ((kj + z0))) HO0s.out.2.2.2 (by decide) (fun cs fx hh => by obtain ⟨A, n, c, _, rfl, rfl, g0, g1⟩ := rItem_own hh; exact rItem_own_mk (x := ⟨((Mm.mkL Pl.mkLabel Pl.cntLabel) x.Labels kj), (kj + z0)⟩) g0 (by unfold Mm.I64; first | omega | (dsimp only; omega)))
      rw [List.set_set] at st1
      have HO1s := Lib.hid (And.intro st1 (And.intro HO0s.out.2.1 (And.intro HO0s.out.2.2.1 (show ((Mm.half Pl.mkItem Pl.cntItem l k j).set j ⟨((Mm.mkL Pl.mkLabel Pl.cntLabel) x.Labels kj), (kj + z0)⟩)[j]? = some ⟨((Mm.mkL Pl.mkLabel Pl.cntLabel) x.Labels kj), (kj + z0)⟩ from List.getElem?_set_self (by rw [Mm.half_len]; have := hlen.out; omega)))))
      have HC1s := Lib.hid (HC0s.out.setCell (p := ⟨g, j * 2 + 1, none⟩) (HO0s.out.2.2.1 g HO0s.out.1.mem_block) (.int .i64 ((kj + z0))))
      clear st1
      go_wp2
      go_roundw
      case rel =>
        refine ⟨j + 1, by omega, by go_num, ?_, ?_⟩
        · have h3 := HX.out.2.1; have h4 := HX.out.2.2; have h5 := HCX.out
          rw [h4]
          show Value.int .i64 _ = Value.int .i64 _
          congr 1
          omega
        · have h3 := HX.out.2.1
          refine ⟨HC1s.out, _, ?_, HO1s.out.2.1, HO1s.out.2.2.1⟩
          rw [← Mm.half_set HX.out.1, h3]
          exact (by rw [show Pl.mkItem x kj = ⟨((Mm.mkL Pl.mkLabel Pl.cntLabel) x.Labels kj), (kj + z0)⟩ from (by (try rw [← HZ0.out]); rfl)]; exact HO1s.out.1)
      case measure => simp [intOf]; omega
    · have HM := Lib.hid hm
      go_wp2
      go_ret
      exact HM.out.done (by have := hlen.out; omega)
set_option maxHeartbeats 2000000 in
theorem markTotalS_c (l : List Total) (A : Option Addr) (n c : Nat) (fp : List Nat) (k : Int) (w : World) (ho : Mm.SlOwn rTotal 50 w l (.slice A n c) fp) (hnd : fp.Nodup) (h0 : 1 ≤ k) (h1 : k + Mm.cntL Pl.cntTotal l ≤ 1000000000000) :
    Calls Try.prog 15 #[.slice A n c, .int .i64 k] w (Mm.MkRet rTotal 50 Pl.mkTotal Pl.cntTotal w l (.slice A n c) fp k) := by
  have hn : n ≤ 9223372036854775807 := by
    obtain ⟨_, _, _, he, _, h2, h3, _⟩ := ho.form
    injection he with _ e2 e3
    subst e2; subst e3
    unfold maxLen at h3; omega
  have hlen : Hid (l.length = n) := by
    obtain ⟨_, _, _, he, h2, _⟩ := ho.form
    injection he with _ e2
    show l.length = n
    rw [e2, h2]
  have HN : Hid (∀ x : Total, 0 ≤ Pl.cntTotal x) := Pl.cntTotal_nn
  have HST := Lib.hid (Mm.MkAt.start (mk := Pl.mkTotal) (cnt := Pl.cntTotal) (k := k) ho hnd)
  clear ho hnd
  go_enter Try.func15, Try.ntmps15
  go_wp2
  go_loopw [1, 5] (fun kk i wr => ∃ j : Nat, j ≤ n ∧ i = .int .i64 j ∧ kk = .int .i64 (k + Mm.cntL Pl.cntTotal (l.take j)) ∧ Mm.MkAt rTotal 50 Pl.mkTotal Pl.cntTotal w l (.slice A n c) fp k j wr) (fun _ i _ => n - (intOf i).toNat)
  case atStart => exact ⟨0, Nat.zero_le _, rfl, by simp [Mm.cntL], HST.out⟩
  case round =>
    clear HST
    obtain ⟨j, hj, rfl, rfl, hm⟩ := hrel
    rename_i wr _
    by_cases hlt : j < n
    · obtain ⟨x, hx⟩ : ∃ x, l[j]? = some x := ⟨_, List.getElem?_eq_getElem (by have := hlen.out; omega)⟩
      have hc1 : Mm.cntL Pl.cntTotal (l.take (j + 1)) = Mm.cntL Pl.cntTotal (l.take j) + Pl.cntTotal x := Mm.cntL_succ hx
      have hc2 := Mm.cntL_take_le HN.out l (j + 1)
      have hc3 := Mm.cntL_nn HN.out (l.take j)
      have hc4 := HN.out x
      obtain ⟨kj, hkj⟩ : ∃ kj, k + Mm.cntL Pl.cntTotal (l.take j) = kj := ⟨_, rfl⟩
      rw [hkj]
      have hk0 : 1 ≤ kj := by omega
      have hk1 : kj + Pl.cntTotal x ≤ 1000000000000 := by omega
      have HX := Lib.hid (And.intro hx (And.intro hkj hc1))
      obtain ⟨hchg, fp0, ho0, hnd0, hsub0⟩ := hm
      have hx0 := Mm.half_get (mk := Pl.mkTotal) (cnt := Pl.cntTotal) (k := k) hx
      obtain ⟨g, rfl⟩ : ∃ g, A = some ⟨g, 0, none⟩ := by
        obtain ⟨_, _, hs, _⟩ := ho0
        obtain ⟨g, cap, he, _⟩ := hs.form (by rw [Mm.half_len]; have := hlen.out; omega)
        injection he with he
        exact ⟨g, he⟩
      have hgl := ho0.olt g ho0.mem_block
      have HC0 := Lib.hid hchg
      have HO0 := Lib.hid (And.intro ho0 (And.intro hnd0 (And.intro hsub0 hx0)))
      clear hchg hx hkj hc1 hc2 hc3 hx0
      have hcx : Pl.cntTotal x = (Mm.cntL Pl.cntLabel) x.Labels + 1 + 1 + 1 + 1 := rfl
      have hq0 := Mm.cntL_nn (cnt := Pl.cntLabel) (Pl.cntLabel_nn) x.Labels
      obtain ⟨z0, hz0⟩ : ∃ z, (Mm.cntL Pl.cntLabel) x.Labels = z := ⟨_, rfl⟩
      rw [hz0] at hcx hq0
      rw [hcx] at hk1 hc4
      have HCX := Lib.hid hcx
      clear hcx hc4
      have HZ0 := Lib.hid hz0
      clear hz0
      obtain ⟨A0, n0, c0, d0_0, d0_1, d0_2, d0_3, d0_4⟩ := rTotal_ocell HO0.out.1 HO0.out.2.1 HO0.out.2.2.2
      have e0_0 := HO0.out.1.frozen (j * 5)
      have e0_1 := HO0.out.1.frozen (j * 5 + 1)
      have e0_2 := HO0.out.1.frozen (j * 5 + 2)
      have e0_3 := HO0.out.1.frozen (j * 5 + 3)
      have e0_4 := HO0.out.1.frozen (j * 5 + 4)
      obtain ⟨cs0, fx0, hox0, hnx0, hsx0, hcx0, hnext0⟩ := HO0.out.1.inner HO0.out.2.1 HO0.out.2.2.2
      obtain ⟨Ai0, ni0, ci0, fi0, rfl, rfl, gi0_0, gi0_1, gi0_2, gi0_3, gi0_4⟩ := rTotal_own hox0
      have hoi0 := gi0_0
      clear d0_0
      have dd0 := Mm.cell_sp (a' := j * 5) (hcx0 0 _ rfl) rfl
      have HI0 := Lib.hid (And.intro hoi0 (And.intro hnx0 (And.intro hsx0 hnext0)))
      have HG0 := Lib.hid (And.intro gi0_0 (And.intro gi0_1 (And.intro gi0_2 (And.intro gi0_3 gi0_4))))
      clear hoi0 hnx0 hsx0 hnext0 hcx0 gi0_0 gi0_1 gi0_2 gi0_3 gi0_4
      go_wp2_with fail
      refine (markLabelS_c x.Labels _ _ _ _ _ _ HI0.out.1 HI0.out.2.1 (by omega) (by have hz9 := HZ0.out; omega)).mono ?_
      rintro e v0 ⟨rfl, hch0, fn0, ho0', hnd0', hsub0'⟩
      obtain ⟨fo0, hof0, hnf0, hsf0⟩ := HI0.out.2.2.2 v0 (⟨((Mm.mkL Pl.mkLabel Pl.cntLabel) x.Labels kj), x.Sum, x.Count, x.Least, x.Most⟩ : Total) fn0 hch0 (rTotal_own_mk (x := ⟨((Mm.mkL Pl.mkLabel Pl.cntLabel) x.Labels kj), x.Sum, x.Count, x.Least, x.Most⟩) ho0' HG0.out.2.1 HG0.out.2.2.1 HG0.out.2.2.2.1 HG0.out.2.2.2.2) hnd0' hsub0'
      have HO0s := Lib.hid (And.intro hof0 (And.intro hnf0 (And.intro (fun b hb => HO0.out.2.2.1 b (hsf0 b hb)) (show ((Mm.half Pl.mkTotal Pl.cntTotal l k j).set j ⟨((Mm.mkL Pl.mkLabel Pl.cntLabel) x.Labels kj), x.Sum, x.Count, x.Least, x.Most⟩)[j]? = some ⟨((Mm.mkL Pl.mkLabel Pl.cntLabel) x.Labels kj), x.Sum, x.Count, x.Least, x.Most⟩ from List.getElem?_set_self (by rw [Mm.half_len]; have := hlen.out; omega)))))
      have HC0s := Lib.hid (HC0.out.trans (hch0.more (fun b hb => HO0.out.2.2.1 b (HI0.out.2.2.1 b hb).1)))
      clear hch0 ho0' hnd0' hsub0' hof0 hnf0 hsf0
      rw [HZ0.out]
      obtain ⟨An0, nn0, cn0, dn0_0, dn0_1, dn0_2, dn0_3, dn0_4⟩ := rTotal_ocell HO0s.out.1 HO0s.out.2.1 HO0s.out.2.2.2
      have en0_0 := HO0s.out.1.frozen (j * 5)
      have en0_1 := HO0s.out.1.frozen (j * 5 + 1)
      have en0_2 := HO0s.out.1.frozen (j * 5 + 2)
      have en0_3 := HO0s.out.1.frozen (j * 5 + 3)
      have en0_4 := HO0s.out.1.frozen (j * 5 + 4)
      have st1 := HO0s.out.1.store HO0s.out.2.1 (j := 1) (x' := ⟨((Mm.mkL Pl.mkLabel Pl.cntLabel) x.Labels kj), (kj + z0), x.Count, x.Least, x.Most⟩) (u := .int .i64 ((kj + z0))) HO0s.out.2.2.2 (by decide) (fun cs fx hh => by obtain ⟨A, n, c, _, rfl, rfl, g0, g1, g2, g3, g4⟩ := rTotal_own hh; exact rTotal_own_mk (x := ⟨((Mm.mkL Pl.mkLabel Pl.cntLabel) x.Labels kj), (kj + z0), x.Count, x.Least, x.Most⟩) g0 (by unfold Mm.I64; first | omega | (dsimp only; omega)) g2 g3 g4)
      rw [List.set_set] at st1
      have HO1s := Lib.hid (And.intro st1 (And.intro HO0s.out.2.1 (And.intro HO0s.out.2.2.1 (show ((Mm.half Pl.mkTotal Pl.cntTotal l k j).set j ⟨((Mm.mkL Pl.mkLabel Pl.cntLabel) x.Labels kj), (kj + z0), x.Count, x.Least, x.Most⟩)[j]? = some ⟨((Mm.mkL Pl.mkLabel Pl.cntLabel) x.Labels kj), (kj + z0), x.Count, x.Least, x.Most⟩ from List.getElem?_set_self (by rw [Mm.half_len]; have := hlen.out; omega)))))
      have HC1s := Lib.hid (HC0s.out.setCell (p := ⟨g, j * 5 + 1, none⟩) (HO0s.out.2.2.1 g HO0s.out.1.mem_block) (.int .i64 ((kj + z0))))
      clear st1
      have st2 := HO1s.out.1.store HO1s.out.2.1 (j := 2) (x' := ⟨((Mm.mkL Pl.mkLabel Pl.cntLabel) x.Labels kj), (kj + z0), ((kj + z0) + 1), x.Least, x.Most⟩) (u := .int .i64 (((kj + z0) + 1))) HO1s.out.2.2.2 (by decide) (fun cs fx hh => by obtain ⟨A, n, c, _, rfl, rfl, g0, g1, g2, g3, g4⟩ := rTotal_own hh; exact rTotal_own_mk (x := ⟨((Mm.mkL Pl.mkLabel Pl.cntLabel) x.Labels kj), (kj + z0), ((kj + z0) + 1), x.Least, x.Most⟩) g0 g1 (by unfold Mm.I64; first | omega | (dsimp only; omega)) g3 g4)
      rw [List.set_set] at st2
      have HO2s := Lib.hid (And.intro st2 (And.intro HO1s.out.2.1 (And.intro HO1s.out.2.2.1 (show ((Mm.half Pl.mkTotal Pl.cntTotal l k j).set j ⟨((Mm.mkL Pl.mkLabel Pl.cntLabel) x.Labels kj), (kj + z0), ((kj + z0) + 1), x.Least, x.Most⟩)[j]? = some ⟨((Mm.mkL Pl.mkLabel Pl.cntLabel) x.Labels kj), (kj + z0), ((kj + z0) + 1), x.Least, x.Most⟩ from List.getElem?_set_self (by rw [Mm.half_len]; have := hlen.out; omega)))))
      have HC2s := Lib.hid (HC1s.out.setCell (p := ⟨g, j * 5 + 2, none⟩) (HO1s.out.2.2.1 g HO1s.out.1.mem_block) (.int .i64 (((kj + z0) + 1))))
      clear st2
      have st3 := HO2s.out.1.store HO2s.out.2.1 (j := 3) (x' := ⟨((Mm.mkL Pl.mkLabel Pl.cntLabel) x.Labels kj), (kj + z0), ((kj + z0) + 1), (((kj + z0) + 1) + 1), x.Most⟩) (u := .int .i64 ((((kj + z0) + 1) + 1))) HO2s.out.2.2.2 (by decide) (fun cs fx hh => by obtain ⟨A, n, c, _, rfl, rfl, g0, g1, g2, g3, g4⟩ := rTotal_own hh; exact rTotal_own_mk (x := ⟨((Mm.mkL Pl.mkLabel Pl.cntLabel) x.Labels kj), (kj + z0), ((kj + z0) + 1), (((kj + z0) + 1) + 1), x.Most⟩) g0 g1 g2 (by unfold Mm.I64; first | omega | (dsimp only; omega)) g4)
      rw [List.set_set] at st3
      have HO3s := Lib.hid (And.intro st3 (And.intro HO2s.out.2.1 (And.intro HO2s.out.2.2.1 (show ((Mm.half Pl.mkTotal Pl.cntTotal l k j).set j ⟨((Mm.mkL Pl.mkLabel Pl.cntLabel) x.Labels kj), (kj + z0), ((kj + z0) + 1), (((kj + z0) + 1) + 1), x.Most⟩)[j]? = some ⟨((Mm.mkL Pl.mkLabel Pl.cntLabel) x.Labels kj), (kj + z0), ((kj + z0) + 1), (((kj + z0) + 1) + 1), x.Most⟩ from List.getElem?_set_self (by rw [Mm.half_len]; have := hlen.out; omega)))))
      have HC3s := Lib.hid (HC2s.out.setCell (p := ⟨g, j * 5 + 3, none⟩) (HO2s.out.2.2.1 g HO2s.out.1.mem_block) (.int .i64 ((((kj + z0) + 1) + 1))))
      clear st3
      have st4 := HO3s.out.1.store HO3s.out.2.1 (j := 4) (x' := ⟨((Mm.mkL Pl.mkLabel Pl.cntLabel) x.Labels kj), (kj + z0), ((kj + z0) + 1), (((kj + z0) + 1) + 1), ((((kj + z0) + 1) + 1) + 1)⟩) (u := .int .i64 (((((kj + z0) + 1) + 1) + 1))) HO3s.out.2.2.2 (by decide) (fun cs fx hh => by obtain ⟨A, n, c, _, rfl, rfl, g0, g1, g2, g3, g4⟩ := rTotal_own hh; exact rTotal_own_mk (x := ⟨((Mm.mkL Pl.mkLabel Pl.cntLabel) x.Labels kj), (kj + z0), ((kj + z0) + 1), (((kj + z0) + 1) + 1), ((((kj + z0) + 1) + 1) + 1)⟩) g0 g1 g2 g3 (by unfold Mm.I64; first | omega | (dsimp only; omega)))
      rw [List.set_set] at st4
      have HO4s := Lib.hid (And.intro st4 (And.intro HO3s.out.2.1 (And.intro HO3s.out.2.2.1 (show ((Mm.half Pl.mkTotal Pl.cntTotal l k j).set j ⟨((Mm.mkL Pl.mkLabel Pl.cntLabel) x.Labels kj), (kj + z0), ((kj + z0) + 1), (((kj + z0) + 1) + 1), ((((kj + z0) + 1) + 1) + 1)⟩)[j]? = some ⟨((Mm.mkL Pl.mkLabel Pl.cntLabel) x.Labels kj), (kj + z0), ((kj + z0) + 1), (((kj + z0) + 1) + 1), ((((kj + z0) + 1) + 1) + 1)⟩ from List.getElem?_set_self (by rw [Mm.half_len]; have := hlen.out; omega)))))
      have HC4s := Lib.hid (HC3s.out.setCell (p := ⟨g, j * 5 + 4, none⟩) (HO3s.out.2.2.1 g HO3s.out.1.mem_block) (.int .i64 (((((kj + z0) + 1) + 1) + 1))))
      clear st4
      go_wp2
      go_roundw
      case rel =>
        refine ⟨j + 1, by omega, by go_num, ?_, ?_⟩
        · have h3 := HX.out.2.1; have h4 := HX.out.2.2; have h5 := HCX.out
          rw [h4]
          show Value.int .i64 _ = Value.int .i64 _
          congr 1
          omega
        · have h3 := HX.out.2.1
          refine ⟨HC4s.out, _, ?_, HO4s.out.2.1, HO4s.out.2.2.1⟩
          rw [← Mm.half_set HX.out.1, h3]
          exact (by rw [show Pl.mkTotal x kj = ⟨((Mm.mkL Pl.mkLabel Pl.cntLabel) x.Labels kj), (kj + z0), ((kj + z0) + 1), (((kj + z0) + 1) + 1), ((((kj + z0) + 1) + 1) + 1)⟩ from (by (try rw [← HZ0.out]); rfl)]; exact HO4s.out.1)
      case measure => simp [intOf]; omega
    · have HM := Lib.hid hm
      go_wp2
      go_ret
      exact HM.out.done (by have := hlen.out; omega)
end Go.Proofs.Ytnppcdiicnofpaa
