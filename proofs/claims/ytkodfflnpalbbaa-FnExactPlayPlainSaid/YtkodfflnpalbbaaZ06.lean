/-
  Joined texts, in build order: Hm, Hn, Hh, Op, Os. Each part says what it proves; no conditions beyond those that a part names.
-/
import Derived.Test.YtkodfflnpalbbaaZ01
import Derived.Test.YtkodfflnpalbbaaZ02
import Derived.Test.YtkodfflnpalbbaaZ03
import Derived.Test.YtkodfflnpalbbaaZ05
import Derived.Lib.Hide
import Derived.Deep.DeepFit
import Derived.ProofKit
import Derived.OpenShut
import Derived.Deep.Slices
import Derived.Test.YtkodfflnpalbbaaRows
/-
  The laws' own markings of things that are owned. No conditions.
-/
namespace Go.Proofs.Ytkodfflnpalbbaa
open Go.RowKit
attribute [local go_sem] und_cell
set_option maxHeartbeats 2000000 in
theorem markIntS_c (l : List Int) (A : Option Addr) (n c : Nat) (fp : List Nat) (k : Int) (w : World) (ho : Mm.SlOwn Mm.int 3 w l (.slice A n c) fp) (hnd : fp.Nodup) (h0 : 1 ≤ k) (h1 : k + Mm.cntL Pl.cnt1 l ≤ 1000000000000) :
    Calls Try.prog 58 #[.slice A n c, .int .i64 k] w (Mm.MkRet Mm.int 3 Pl.mkInt Pl.cnt1 w l (.slice A n c) fp k) := by
  have hn : n ≤ 9223372036854775807 := by
    obtain ⟨_, _, _, he, _, h2, h3, _⟩ := ho.form
    injection he with _ e2 e3
    subst e2; subst e3
    unfold maxLen at h3; omega
  have hlen : Hid (l.length = n) := by
    obtain ⟨_, _, _, he, h2, _⟩ := ho.form
    injection he with _ e2
    show l.length = n
    rw [e2, h2]
  have HN : Hid (∀ x : Int, 0 ≤ Pl.cnt1 x) := Pl.cnt1_nn
  have HST := Lib.hid (Mm.MkAt.start (mk := Pl.mkInt) (cnt := Pl.cnt1) (k := k) ho hnd)
  clear ho hnd
  go_enter Try.func58, Try.ntmps58
  go_wp2
  go_loopw [1, 5] (fun kk i wr => ∃ j : Nat, j ≤ n ∧ i = .int .i64 j ∧ kk = .int .i64 (k + Mm.cntL Pl.cnt1 (l.take j)) ∧ Mm.MkAt Mm.int 3 Pl.mkInt Pl.cnt1 w l (.slice A n c) fp k j wr) (fun _ i _ => n - (intOf i).toNat)
  case atStart => exact ⟨0, Nat.zero_le _, rfl, by simp [Mm.cntL], HST.out⟩
  case round =>
    clear HST
    obtain ⟨j, hj, rfl, rfl, hm⟩ := hrel
    rename_i wr _
    by_cases hlt : j < n
    · obtain ⟨x, hx⟩ : ∃ x, l[j]? = some x := ⟨_, List.getElem?_eq_getElem (by have := hlen.out; omega)⟩
      have hc1 : Mm.cntL Pl.cnt1 (l.take (j + 1)) = Mm.cntL Pl.cnt1 (l.take j) + Pl.cnt1 x := Mm.cntL_succ hx
      have hc2 := Mm.cntL_take_le HN.out l (j + 1)
      have hc3 := Mm.cntL_nn HN.out (l.take j)
      have hc4 := HN.out x
      obtain ⟨kj, hkj⟩ : ∃ kj, k + Mm.cntL Pl.cnt1 (l.take j) = kj := ⟨_, rfl⟩
      rw [hkj]
      have hk0 : 1 ≤ kj := by omega
      have hk1 : kj + Pl.cnt1 x ≤ 1000000000000 := by omega
      have HX := Lib.hid (And.intro hx (And.intro hkj hc1))
      obtain ⟨hchg, fp0, ho0, hnd0, hsub0⟩ := hm
      have hx0 := Mm.half_get (mk := Pl.mkInt) (cnt := Pl.cnt1) (k := k) hx
      obtain ⟨g, rfl⟩ : ∃ g, A = some ⟨g, 0, none⟩ := by
        obtain ⟨_, _, hs, _⟩ := ho0
        obtain ⟨g, cap, he, _⟩ := hs.form (by rw [Mm.half_len]; have := hlen.out; omega)
        injection he with he
        exact ⟨g, he⟩
      have hgl := ho0.olt g ho0.mem_block
      have HC0 := Lib.hid hchg
      have HO0 := Lib.hid (And.intro ho0 (And.intro hnd0 (And.intro hsub0 hx0)))
      clear hchg hx hkj hc1 hc2 hc3 hx0
      have hcx : Pl.cnt1 x = 1 := rfl
      rw [hcx] at hk1
      have HCX := Lib.hid hcx
      clear hcx hc4
      have d0_0 := int_ocell HO0.out.1 HO0.out.2.1 HO0.out.2.2.2
      have e0_0 := HO0.out.1.frozen (j)
      have st0 := HO0.out.1.store HO0.out.2.1 (j := 0) (x' := kj) (u := .int .i64 (kj)) HO0.out.2.2.2 (by decide) (fun cs fx hh => by obtain ⟨rfl, _, rfl⟩ := hh; exact ⟨rfl, (by unfold Mm.I64; first | omega | (dsimp only; omega)), rfl⟩)
      rw [show j * (Mm.int).size + 0 = j from (by show j * 1 + 0 = j; omega)] at st0
      have HO0s := Lib.hid (And.intro st0 (And.intro HO0.out.2.1 (And.intro HO0.out.2.2.1 (show ((Mm.half Pl.mkInt Pl.cnt1 l k j).set j kj)[j]? = some kj from List.getElem?_set_self (by rw [Mm.half_len]; have := hlen.out; omega)))))
      have HC0s := Lib.hid (HC0.out.setCell (p := ⟨g, j, none⟩) (HO0.out.2.2.1 g HO0.out.1.mem_block) (.int .i64 (kj)))
      clear st0
      go_wp2
      go_roundw
      case rel =>
        refine ⟨j + 1, by omega, by go_num, ?_, ?_⟩
        · have h3 := HX.out.2.1; have h4 := HX.out.2.2; have h5 := HCX.out
          rw [h4]
          show Value.int .i64 _ = Value.int .i64 _
          congr 1
          omega
        · have h3 := HX.out.2.1
          refine ⟨HC0s.out, _, ?_, HO0s.out.2.1, HO0s.out.2.2.1⟩
          rw [← Mm.half_set HX.out.1, h3]
          exact HO0s.out.1
      case measure => simp [intOf]; omega
    · have HM := Lib.hid hm
      go_wp2
      go_ret
      exact HM.out.done (by have := hlen.out; omega)
set_option maxHeartbeats 2000000 in
theorem markSampleS_c (l : List Sample) (A : Option Addr) (n c : Nat) (fp : List Nat) (k : Int) (w : World) (ho : Mm.SlOwn smp 89 w l (.slice A n c) fp) (hnd : fp.Nodup) (h0 : 1 ≤ k) (h1 : k + Mm.cntL Pl.cntSample l ≤ 1000000000000) :
    Calls Try.prog 55 #[.slice A n c, .int .i64 k] w (Mm.MkRet smp 89 Pl.mkSample Pl.cntSample w l (.slice A n c) fp k) := by
  have hn : n ≤ 9223372036854775807 := by
    obtain ⟨_, _, _, he, _, h2, h3, _⟩ := ho.form
    injection he with _ e2 e3
    subst e2; subst e3
    unfold maxLen at h3; omega
  have hlen : Hid (l.length = n) := by
    obtain ⟨_, _, _, he, h2, _⟩ := ho.form
    injection he with _ e2
    show l.length = n
    rw [e2, h2]
  have HN : Hid (∀ x : Sample, 0 ≤ Pl.cntSample x) := Pl.cntSample_nn
  have HST := Lib.hid (Mm.MkAt.start (mk := Pl.mkSample) (cnt := Pl.cntSample) (k := k) ho hnd)
  clear ho hnd
  go_enter Try.func55, Try.ntmps55
  go_wp2
  go_loopw [1, 5] (fun kk i wr => ∃ j : Nat, j ≤ n ∧ i = .int .i64 j ∧ kk = .int .i64 (k + Mm.cntL Pl.cntSample (l.take j)) ∧ Mm.MkAt smp 89 Pl.mkSample Pl.cntSample w l (.slice A n c) fp k j wr) (fun _ i _ => n - (intOf i).toNat)
  case atStart => exact ⟨0, Nat.zero_le _, rfl, by simp [Mm.cntL], HST.out⟩
  case round =>
    clear HST
    obtain ⟨j, hj, rfl, rfl, hm⟩ := hrel
    rename_i wr _
    by_cases hlt : j < n
    · obtain ⟨x, hx⟩ : ∃ x, l[j]? = some x := ⟨_, List.getElem?_eq_getElem (by have := hlen.out; omega)⟩
      have hc1 : Mm.cntL Pl.cntSample (l.take (j + 1)) = Mm.cntL Pl.cntSample (l.take j) + Pl.cntSample x := Mm.cntL_succ hx
      have hc2 := Mm.cntL_take_le HN.out l (j + 1)
      have hc3 := Mm.cntL_nn HN.out (l.take j)
      have hc4 := HN.out x
      obtain ⟨kj, hkj⟩ : ∃ kj, k + Mm.cntL Pl.cntSample (l.take j) = kj := ⟨_, rfl⟩
      rw [hkj]
      have hk0 : 1 ≤ kj := by omega
      have hk1 : kj + Pl.cntSample x ≤ 1000000000000 := by omega
      have HX := Lib.hid (And.intro hx (And.intro hkj hc1))
      obtain ⟨hchg, fp0, ho0, hnd0, hsub0⟩ := hm
      have hx0 := Mm.half_get (mk := Pl.mkSample) (cnt := Pl.cntSample) (k := k) hx
      obtain ⟨g, rfl⟩ : ∃ g, A = some ⟨g, 0, none⟩ := by
        obtain ⟨_, _, hs, _⟩ := ho0
        obtain ⟨g, cap, he, _⟩ := hs.form (by rw [Mm.half_len]; have := hlen.out; omega)
        injection he with he
        exact ⟨g, he⟩
      have hgl := ho0.olt g ho0.mem_block
      have HC0 := Lib.hid hchg
      have HO0 := Lib.hid (And.intro ho0 (And.intro hnd0 (And.intro hsub0 hx0)))
      clear hchg hx hkj hc1 hc2 hc3 hx0
      have hcx : Pl.cntSample x = 1 + 1 := rfl
      rw [hcx] at hk1 hc4
      have HCX := Lib.hid hcx
      clear hcx hc4
      obtain ⟨d0_0, d0_1⟩ := smp_ocell HO0.out.1 HO0.out.2.1 HO0.out.2.2.2
      have e0_0 := HO0.out.1.frozen (j * 2)
      have e0_1 := HO0.out.1.frozen (j * 2 + 1)
      have st0 := HO0.out.1.store HO0.out.2.1 (j := 0) (x' := ⟨kj, x.Value⟩) (u := .int .i64 (kj)) HO0.out.2.2.2 (by decide) (fun cs fx hh => by obtain ⟨rfl, ⟨g0, g1⟩, rfl⟩ := hh; exact ⟨rfl, ⟨(by unfold Mm.I64; first | omega | (dsimp only; omega)), g1⟩, rfl⟩)
      have HO0s := Lib.hid (And.intro st0 (And.intro HO0.out.2.1 (And.intro HO0.out.2.2.1 (show ((Mm.half Pl.mkSample Pl.cntSample l k j).set j ⟨kj, x.Value⟩)[j]? = some ⟨kj, x.Value⟩ from List.getElem?_set_self (by rw [Mm.half_len]; have := hlen.out; omega)))))
      have HC0s := Lib.hid (HC0.out.setCell (p := ⟨g, j * 2, none⟩) (HO0.out.2.2.1 g HO0.out.1.mem_block) (.int .i64 (kj)))
      clear st0
      have st1 := HO0s.out.1.store HO0s.out.2.1 (j := 1) (x' := ⟨kj, (kj + 1)⟩) (u := .int .i64 ((kj + 1))) HO0s.out.2.2.2 (by decide) (fun cs fx hh => by obtain ⟨rfl, ⟨g0, g1⟩, rfl⟩ := hh; exact ⟨rfl, ⟨g0, (by unfold Mm.I64; first | omega | (dsimp only; omega))⟩, rfl⟩)
      rw [List.set_set] at st1
      have HO1s := Lib.hid (And.intro st1 (And.intro HO0s.out.2.1 (And.intro HO0s.out.2.2.1 (show ((Mm.half Pl.mkSample Pl.cntSample l k j).set j ⟨kj, (kj + 1)⟩)[j]? = some ⟨kj, (kj + 1)⟩ from List.getElem?_set_self (by rw [Mm.half_len]; have := hlen.out; omega)))))
      have HC1s := Lib.hid (HC0s.out.setCell (p := ⟨g, j * 2 + 1, none⟩) (HO0s.out.2.2.1 g HO0s.out.1.mem_block) (.int .i64 ((kj + 1))))
      clear st1
      go_wp2
      go_roundw
      case rel =>
        refine ⟨j + 1, by omega, by go_num, ?_, ?_⟩
        · have h3 := HX.out.2.1; have h4 := HX.out.2.2; have h5 := HCX.out
          rw [h4]
          show Value.int .i64 _ = Value.int .i64 _
          congr 1
          omega
        · have h3 := HX.out.2.1
          refine ⟨HC1s.out, _, ?_, HO1s.out.2.1, HO1s.out.2.2.1⟩
          rw [← Mm.half_set HX.out.1, h3]
          exact HO1s.out.1
      case measure => simp [intOf]; omega
    · have HM := Lib.hid hm
      go_wp2
      go_ret
      exact HM.out.done (by have := hlen.out; omega)
set_option maxHeartbeats 2000000 in
theorem markHouseStepS_c (l : List HouseStep) (A : Option Addr) (n c : Nat) (fp : List Nat) (k : Int) (w : World) (ho : Mm.SlOwn rHouseStep 63 w l (.slice A n c) fp) (hnd : fp.Nodup) (h0 : 1 ≤ k) (h1 : k + Mm.cntL Pl.cntHouseStep l ≤ 1000000000000) :
    Calls Try.prog 16 #[.slice A n c, .int .i64 k] w (Mm.MkRet rHouseStep 63 Pl.mkHouseStep Pl.cntHouseStep w l (.slice A n c) fp k) := by
  have hn : n ≤ 9223372036854775807 := by
    obtain ⟨_, _, _, he, _, h2, h3, _⟩ := ho.form
    injection he with _ e2 e3
    subst e2; subst e3
    unfold maxLen at h3; omega
  have hlen : Hid (l.length = n) := by
    obtain ⟨_, _, _, he, h2, _⟩ := ho.form
    injection he with _ e2
    show l.length = n
    rw [e2, h2]
  have HN : Hid (∀ x : HouseStep, 0 ≤ Pl.cntHouseStep x) := Pl.cntHouseStep_nn
  have HST := Lib.hid (Mm.MkAt.start (mk := Pl.mkHouseStep) (cnt := Pl.cntHouseStep) (k := k) ho hnd)
  clear ho hnd
  go_enter Try.func16, Try.ntmps16
  go_wp2
  go_loopw [1, 5] (fun kk i wr => ∃ j : Nat, j ≤ n ∧ i = .int .i64 j ∧ kk = .int .i64 (k + Mm.cntL Pl.cntHouseStep (l.take j)) ∧ Mm.MkAt rHouseStep 63 Pl.mkHouseStep Pl.cntHouseStep w l (.slice A n c) fp k j wr) (fun _ i _ => n - (intOf i).toNat)
  case atStart => exact ⟨0, Nat.zero_le _, rfl, by simp [Mm.cntL], HST.out⟩
  case round =>
    clear HST
    obtain ⟨j, hj, rfl, rfl, hm⟩ := hrel
    rename_i wr _
    by_cases hlt : j < n
    · obtain ⟨x, hx⟩ : ∃ x, l[j]? = some x := ⟨_, List.getElem?_eq_getElem (by have := hlen.out; omega)⟩
      have hc1 : Mm.cntL Pl.cntHouseStep (l.take (j + 1)) = Mm.cntL Pl.cntHouseStep (l.take j) + Pl.cntHouseStep x := Mm.cntL_succ hx
      have hc2 := Mm.cntL_take_le HN.out l (j + 1)
      have hc3 := Mm.cntL_nn HN.out (l.take j)
      have hc4 := HN.out x
      obtain ⟨kj, hkj⟩ : ∃ kj, k + Mm.cntL Pl.cntHouseStep (l.take j) = kj := ⟨_, rfl⟩
      rw [hkj]
      have hk0 : 1 ≤ kj := by omega
      have hk1 : kj + Pl.cntHouseStep x ≤ 1000000000000 := by omega
      have HX := Lib.hid (And.intro hx (And.intro hkj hc1))
      obtain ⟨hchg, fp0, ho0, hnd0, hsub0⟩ := hm
      have hx0 := Mm.half_get (mk := Pl.mkHouseStep) (cnt := Pl.cntHouseStep) (k := k) hx
      obtain ⟨g, rfl⟩ : ∃ g, A = some ⟨g, 0, none⟩ := by
        obtain ⟨_, _, hs, _⟩ := ho0
        obtain ⟨g, cap, he, _⟩ := hs.form (by rw [Mm.half_len]; have := hlen.out; omega)
        injection he with he
        exact ⟨g, he⟩
      have hgl := ho0.olt g ho0.mem_block
      have HC0 := Lib.hid hchg
      have HO0 := Lib.hid (And.intro ho0 (And.intro hnd0 (And.intro hsub0 hx0)))
      clear hchg hx hkj hc1 hc2 hc3 hx0
      have hcx : Pl.cntHouseStep x = 1 + 1 + 1 + 1 + 1 := rfl
      rw [hcx] at hk1 hc4
      have HCX := Lib.hid hcx
      clear hcx hc4
      obtain ⟨d0_0, d0_1, d0_2, d0_3, d0_4⟩ := rHouseStep_ocell HO0.out.1 HO0.out.2.1 HO0.out.2.2.2
      have e0_0 := HO0.out.1.frozen (j * 5)
      have e0_1 := HO0.out.1.frozen (j * 5 + 1)
      have e0_2 := HO0.out.1.frozen (j * 5 + 2)
      have e0_3 := HO0.out.1.frozen (j * 5 + 3)
      have e0_4 := HO0.out.1.frozen (j * 5 + 4)
      have st0 := HO0.out.1.store HO0.out.2.1 (j := 0) (x' := ⟨kj, x.Part, ⟨x.What.Name, x.What.At, x.What.Value⟩⟩) (u := .int .i64 (kj)) HO0.out.2.2.2 (by decide) (fun cs fx hh => by obtain ⟨rfl, ⟨g0, g1, g2, g3, g4⟩, rfl⟩ := hh; exact ⟨rfl, ⟨(by unfold Mm.I64; first | omega | (dsimp only; omega)), g1, g2, g3, g4⟩, rfl⟩)
      have HO0s := Lib.hid (And.intro st0 (And.intro HO0.out.2.1 (And.intro HO0.out.2.2.1 (show ((Mm.half Pl.mkHouseStep Pl.cntHouseStep l k j).set j ⟨kj, x.Part, ⟨x.What.Name, x.What.At, x.What.Value⟩⟩)[j]? = some ⟨kj, x.Part, ⟨x.What.Name, x.What.At, x.What.Value⟩⟩ from List.getElem?_set_self (by rw [Mm.half_len]; have := hlen.out; omega)))))
      have HC0s := Lib.hid (HC0.out.setCell (p := ⟨g, j * 5, none⟩) (HO0.out.2.2.1 g HO0.out.1.mem_block) (.int .i64 (kj)))
      clear st0
      have st1 := HO0s.out.1.store HO0s.out.2.1 (j := 1) (x' := ⟨kj, (kj + 1), ⟨x.What.Name, x.What.At, x.What.Value⟩⟩) (u := .int .i64 ((kj + 1))) HO0s.out.2.2.2 (by decide) (fun cs fx hh => by obtain ⟨rfl, ⟨g0, g1, g2, g3, g4⟩, rfl⟩ := hh; exact ⟨rfl, ⟨g0, (by unfold Mm.I64; first | omega | (dsimp only; omega)), g2, g3, g4⟩, rfl⟩)
      rw [List.set_set] at st1
      have HO1s := Lib.hid (And.intro st1 (And.intro HO0s.out.2.1 (And.intro HO0s.out.2.2.1 (show ((Mm.half Pl.mkHouseStep Pl.cntHouseStep l k j).set j ⟨kj, (kj + 1), ⟨x.What.Name, x.What.At, x.What.Value⟩⟩)[j]? = some ⟨kj, (kj + 1), ⟨x.What.Name, x.What.At, x.What.Value⟩⟩ from List.getElem?_set_self (by rw [Mm.half_len]; have := hlen.out; omega)))))
      have HC1s := Lib.hid (HC0s.out.setCell (p := ⟨g, j * 5 + 1, none⟩) (HO0s.out.2.2.1 g HO0s.out.1.mem_block) (.int .i64 ((kj + 1))))
      clear st1
      go_wp2_with fail
      refine (markText_c _ _ (by omega) (by omega)).mono ?_
      rintro e v2 ⟨rfl, hb2⟩
      have HO2m := Lib.hid (And.intro (HO1s.out.1.okeep (w' := v2) (fun b hb => hb2.block b (HO1s.out.1.olt b hb))) HO1s.out.2)
      have HC2m := Lib.hid (Mm.und_chg HC1s.out hb2)
      clear hb2
      obtain ⟨dm2_0, dm2_1, dm2_2, dm2_3, dm2_4⟩ := rHouseStep_ocell HO2m.out.1 HO2m.out.2.1 HO2m.out.2.2.2
      have em2_0 := HO2m.out.1.frozen (j * 5)
      have em2_1 := HO2m.out.1.frozen (j * 5 + 1)
      have em2_2 := HO2m.out.1.frozen (j * 5 + 2)
      have em2_3 := HO2m.out.1.frozen (j * 5 + 3)
      have em2_4 := HO2m.out.1.frozen (j * 5 + 4)
      have st2 := HO2m.out.1.store HO2m.out.2.1 (j := 2) (x' := ⟨kj, (kj + 1), ⟨(Pl.mkText (((kj + 1) + 1))), x.What.At, x.What.Value⟩⟩) (u := .string (Pl.mkText (((kj + 1) + 1)))) HO2m.out.2.2.2 (by decide) (fun cs fx hh => by obtain ⟨rfl, ⟨g0, g1, g2, g3, g4⟩, rfl⟩ := hh; exact ⟨rfl, ⟨g0, g1, (Pl.mkText_len _ (by first | omega | (dsimp only; omega)) (by first | omega | (dsimp only; omega))), g3, g4⟩, rfl⟩)
      rw [List.set_set] at st2
      have HO2s := Lib.hid (And.intro st2 (And.intro HO2m.out.2.1 (And.intro HO2m.out.2.2.1 (show ((Mm.half Pl.mkHouseStep Pl.cntHouseStep l k j).set j ⟨kj, (kj + 1), ⟨(Pl.mkText (((kj + 1) + 1))), x.What.At, x.What.Value⟩⟩)[j]? = some ⟨kj, (kj + 1), ⟨(Pl.mkText (((kj + 1) + 1))), x.What.At, x.What.Value⟩⟩ from List.getElem?_set_self (by rw [Mm.half_len]; have := hlen.out; omega)))))
      have HC2s := Lib.hid (HC2m.out.setCell (p := ⟨g, j * 5 + 2, none⟩) (HO2m.out.2.2.1 g HO2m.out.1.mem_block) (.string (Pl.mkText (((kj + 1) + 1)))))
      clear st2
      have st3 := HO2s.out.1.store HO2s.out.2.1 (j := 3) (x' := ⟨kj, (kj + 1), ⟨(Pl.mkText (((kj + 1) + 1))), (((kj + 1) + 1) + 1), x.What.Value⟩⟩) (u := .int .i64 ((((kj + 1) + 1) + 1))) HO2s.out.2.2.2 (by decide) (fun cs fx hh => by obtain ⟨rfl, ⟨g0, g1, g2, g3, g4⟩, rfl⟩ := hh; exact ⟨rfl, ⟨g0, g1, g2, (by unfold Mm.I64; first | omega | (dsimp only; omega)), g4⟩, rfl⟩)
      rw [List.set_set] at st3
      have HO3s := Lib.hid (And.intro st3 (And.intro HO2s.out.2.1 (And.intro HO2s.out.2.2.1 (show ((Mm.half Pl.mkHouseStep Pl.cntHouseStep l k j).set j ⟨kj, (kj + 1), ⟨(Pl.mkText (((kj + 1) + 1))), (((kj + 1) + 1) + 1), x.What.Value⟩⟩)[j]? = some ⟨kj, (kj + 1), ⟨(Pl.mkText (((kj + 1) + 1))), (((kj + 1) + 1) + 1), x.What.Value⟩⟩ from List.getElem?_set_self (by rw [Mm.half_len]; have := hlen.out; omega)))))
      have HC3s := Lib.hid (HC2s.out.setCell (p := ⟨g, j * 5 + 3, none⟩) (HO2s.out.2.2.1 g HO2s.out.1.mem_block) (.int .i64 ((((kj + 1) + 1) + 1))))
      clear st3
      have st4 := HO3s.out.1.store HO3s.out.2.1 (j := 4) (x' := ⟨kj, (kj + 1), ⟨(Pl.mkText (((kj + 1) + 1))), (((kj + 1) + 1) + 1), ((((kj + 1) + 1) + 1) + 1)⟩⟩) (u := .int .i64 (((((kj + 1) + 1) + 1) + 1))) HO3s.out.2.2.2 (by decide) (fun cs fx hh => by obtain ⟨rfl, ⟨g0, g1, g2, g3, g4⟩, rfl⟩ := hh; exact ⟨rfl, ⟨g0, g1, g2, g3, (by unfold Mm.I64; first | omega | (dsimp only; omega))⟩, rfl⟩)
      rw [List.set_set] at st4
      have HO4s := Lib.hid (And.intro st4 (And.intro HO3s.out.2.1 (And.intro HO3s.out.2.2.1 (show ((Mm.half Pl.mkHouseStep Pl.cntHouseStep l k j).set j ⟨kj, (kj + 1), ⟨(Pl.mkText (((kj + 1) + 1))), (((kj + 1) + 1) + 1), ((((kj + 1) + 1) + 1) + 1)⟩⟩)[j]? = some ⟨kj, (kj + 1), ⟨(Pl.mkText (((kj + 1) + 1))), (((kj + 1) + 1) + 1), ((((kj + 1) + 1) + 1) + 1)⟩⟩ from List.getElem?_set_self (by rw [Mm.half_len]; have := hlen.out; omega)))))
      have HC4s := Lib.hid (HC3s.out.setCell (p := ⟨g, j * 5 + 4, none⟩) (HO3s.out.2.2.1 g HO3s.out.1.mem_block) (.int .i64 (((((kj + 1) + 1) + 1) + 1))))
      clear st4
      go_wp2
      go_roundw
      case rel =>
        refine ⟨j + 1, by omega, by go_num, ?_, ?_⟩
        · have h3 := HX.out.2.1; have h4 := HX.out.2.2; have h5 := HCX.out
          rw [h4]
          show Value.int .i64 _ = Value.int .i64 _
          congr 1
          omega
        · have h3 := HX.out.2.1
          refine ⟨HC4s.out, _, ?_, HO4s.out.2.1, HO4s.out.2.2.1⟩
          rw [← Mm.half_set HX.out.1, h3]
          exact HO4s.out.1
      case measure => simp [intOf]; omega
    · have HM := Lib.hid hm
      go_wp2
      go_ret
      exact HM.out.done (by have := hlen.out; omega)
set_option maxHeartbeats 2000000 in
theorem markRowS_c (l : List Row) (A : Option Addr) (n c : Nat) (fp : List Nat) (k : Int) (w : World) (ho : Mm.SlOwn rRow 83 w l (.slice A n c) fp) (hnd : fp.Nodup) (h0 : 1 ≤ k) (h1 : k + Mm.cntL Pl.cntRow l ≤ 1000000000000) :
    Calls Try.prog 39 #[.slice A n c, .int .i64 k] w (Mm.MkRet rRow 83 Pl.mkRow Pl.cntRow w l (.slice A n c) fp k) := by
  have hn : n ≤ 9223372036854775807 := by
    obtain ⟨_, _, _, he, _, h2, h3, _⟩ := ho.form
    injection he with _ e2 e3
    subst e2; subst e3
    unfold maxLen at h3; omega
  have hlen : Hid (l.length = n) := by
    obtain ⟨_, _, _, he, h2, _⟩ := ho.form
    injection he with _ e2
    show l.length = n
    rw [e2, h2]
  have HN : Hid (∀ x : Row, 0 ≤ Pl.cntRow x) := Pl.cntRow_nn
  have HST := Lib.hid (Mm.MkAt.start (mk := Pl.mkRow) (cnt := Pl.cntRow) (k := k) ho hnd)
  clear ho hnd
  go_enter Try.func39, Try.ntmps39
  go_wp2
  go_loopw [1, 5] (fun kk i wr => ∃ j : Nat, j ≤ n ∧ i = .int .i64 j ∧ kk = .int .i64 (k + Mm.cntL Pl.cntRow (l.take j)) ∧ Mm.MkAt rRow 83 Pl.mkRow Pl.cntRow w l (.slice A n c) fp k j wr) (fun _ i _ => n - (intOf i).toNat)
  case atStart => exact ⟨0, Nat.zero_le _, rfl, by simp [Mm.cntL], HST.out⟩
  case round =>
    clear HST
    obtain ⟨j, hj, rfl, rfl, hm⟩ := hrel
    rename_i wr _
    by_cases hlt : j < n
    · obtain ⟨x, hx⟩ : ∃ x, l[j]? = some x := ⟨_, List.getElem?_eq_getElem (by have := hlen.out; omega)⟩
      have hc1 : Mm.cntL Pl.cntRow (l.take (j + 1)) = Mm.cntL Pl.cntRow (l.take j) + Pl.cntRow x := Mm.cntL_succ hx
      have hc2 := Mm.cntL_take_le HN.out l (j + 1)
      have hc3 := Mm.cntL_nn HN.out (l.take j)
      have hc4 := HN.out x
      obtain ⟨kj, hkj⟩ : ∃ kj, k + Mm.cntL Pl.cntRow (l.take j) = kj := ⟨_, rfl⟩
      rw [hkj]
      have hk0 : 1 ≤ kj := by omega
      have hk1 : kj + Pl.cntRow x ≤ 1000000000000 := by omega
      have HX := Lib.hid (And.intro hx (And.intro hkj hc1))
      obtain ⟨hchg, fp0, ho0, hnd0, hsub0⟩ := hm
      have hx0 := Mm.half_get (mk := Pl.mkRow) (cnt := Pl.cntRow) (k := k) hx
      obtain ⟨g, rfl⟩ : ∃ g, A = some ⟨g, 0, none⟩ := by
        obtain ⟨_, _, hs, _⟩ := ho0
        obtain ⟨g, cap, he, _⟩ := hs.form (by rw [Mm.half_len]; have := hlen.out; omega)
        injection he with he
        exact ⟨g, he⟩
      have hgl := ho0.olt g ho0.mem_block
      have HC0 := Lib.hid hchg
      have HO0 := Lib.hid (And.intro ho0 (And.intro hnd0 (And.intro hsub0 hx0)))
      clear hchg hx hkj hc1 hc2 hc3 hx0
      have hcx : Pl.cntRow x = 1 + (Mm.cntL Pl.cntSample) x.Samples := rfl
      have hq1 := Mm.cntL_nn (cnt := Pl.cntSample) (Pl.cntSample_nn) x.Samples
      obtain ⟨z1, hz1⟩ : ∃ z, (Mm.cntL Pl.cntSample) x.Samples = z := ⟨_, rfl⟩
      rw [hz1] at hcx hq1
      rw [hcx] at hk1 hc4
      have HCX := Lib.hid hcx
      clear hcx hc4
      have HZ1 := Lib.hid hz1
      clear hz1
      obtain ⟨A0, n0, c0, d0_0, d0_1⟩ := rRow_ocell HO0.out.1 HO0.out.2.1 HO0.out.2.2.2
      have e0_0 := HO0.out.1.frozen (j * 2)
      have e0_1 := HO0.out.1.frozen (j * 2 + 1)
      go_wp2_with fail
      refine (markText_c _ _ (by omega) (by omega)).mono ?_
      rintro e v0 ⟨rfl, hb0⟩
      have HO0m := Lib.hid (And.intro (HO0.out.1.okeep (w' := v0) (fun b hb => hb0.block b (HO0.out.1.olt b hb))) HO0.out.2)
      have HC0m := Lib.hid (Mm.und_chg HC0.out hb0)
      clear hb0
      obtain ⟨Am0, nm0, cm0, dm0_0, dm0_1⟩ := rRow_ocell HO0m.out.1 HO0m.out.2.1 HO0m.out.2.2.2
      have em0_0 := HO0m.out.1.frozen (j * 2)
      have em0_1 := HO0m.out.1.frozen (j * 2 + 1)
      have st0 := HO0m.out.1.store HO0m.out.2.1 (j := 0) (x' := ⟨(Pl.mkText (kj)), x.Samples⟩) (u := .string (Pl.mkText (kj))) HO0m.out.2.2.2 (by decide) (fun cs fx hh => by obtain ⟨A, n, c, _, rfl, rfl, g0, g1⟩ := rRow_own hh; exact rRow_own_mk (x := ⟨(Pl.mkText (kj)), x.Samples⟩) (Pl.mkText_len _ (by first | omega | (dsimp only; omega)) (by first | omega | (dsimp only; omega))) g1)
      have HO0s := Lib.hid (And.intro st0 (And.intro HO0m.out.2.1 (And.intro HO0m.out.2.2.1 (show ((Mm.half Pl.mkRow Pl.cntRow l k j).set j ⟨(Pl.mkText (kj)), x.Samples⟩)[j]? = some ⟨(Pl.mkText (kj)), x.Samples⟩ from List.getElem?_set_self (by rw [Mm.half_len]; have := hlen.out; omega)))))
      have HC0s := Lib.hid (HC0m.out.setCell (p := ⟨g, j * 2, none⟩) (HO0m.out.2.2.1 g HO0m.out.1.mem_block) (.string (Pl.mkText (kj))))
      clear st0
      obtain ⟨cs1, fx1, hox1, hnx1, hsx1, hcx1, hnext1⟩ := HO0s.out.1.inner HO0s.out.2.1 HO0s.out.2.2.2
      obtain ⟨Ai1, ni1, ci1, fi1, rfl, rfl, gi1_0, gi1_1⟩ := rRow_own hox1
      have hoi1 := gi1_1
      clear dm0_1
      have dd1 := Mm.cell_sp (a' := j * 2 + 1) (hcx1 1 _ rfl) rfl
      rw [World.cell?_setCell_other _ _ _ _ (by intro e9; have e8 : j * 2 + 0 = j * 2 + 1 := congrArg Addr.off e9; omega)] at dd1
      have HI1 := Lib.hid (And.intro hoi1 (And.intro hnx1 (And.intro hsx1 hnext1)))
      have HG1 := Lib.hid (And.intro gi1_0 gi1_1)
      clear hoi1 hnx1 hsx1 hnext1 hcx1 gi1_0 gi1_1
      go_wp2_with fail
      refine (markSampleS_c x.Samples _ _ _ _ _ _ HI1.out.1 HI1.out.2.1 (by omega) (by have hz9 := HZ1.out; omega)).mono ?_
      rintro e v1 ⟨rfl, hch1, fn1, ho1', hnd1', hsub1'⟩
      obtain ⟨fo1, hof1, hnf1, hsf1⟩ := HI1.out.2.2.2 v1 (⟨(Pl.mkText (kj)), ((Mm.mkL Pl.mkSample Pl.cntSample) x.Samples (kj + 1))⟩ : Row) fn1 hch1 (rRow_own_mk (x := ⟨(Pl.mkText (kj)), ((Mm.mkL Pl.mkSample Pl.cntSample) x.Samples (kj + 1))⟩) HG1.out.1 ho1') hnd1' hsub1'
      rw [List.set_set] at hof1
      have HO1s := Lib.hid (And.intro hof1 (And.intro hnf1 (And.intro (fun b hb => HO0s.out.2.2.1 b (hsf1 b hb)) (show ((Mm.half Pl.mkRow Pl.cntRow l k j).set j ⟨(Pl.mkText (kj)), ((Mm.mkL Pl.mkSample Pl.cntSample) x.Samples (kj + 1))⟩)[j]? = some ⟨(Pl.mkText (kj)), ((Mm.mkL Pl.mkSample Pl.cntSample) x.Samples (kj + 1))⟩ from List.getElem?_set_self (by rw [Mm.half_len]; have := hlen.out; omega)))))
      have HC1s := Lib.hid (HC0s.out.trans (hch1.more (fun b hb => HO0s.out.2.2.1 b (HI1.out.2.2.1 b hb).1)))
      clear hch1 ho1' hnd1' hsub1' hof1 hnf1 hsf1
      rw [HZ1.out]
      obtain ⟨An1, nn1, cn1, dn1_0, dn1_1⟩ := rRow_ocell HO1s.out.1 HO1s.out.2.1 HO1s.out.2.2.2
      have en1_0 := HO1s.out.1.frozen (j * 2)
      have en1_1 := HO1s.out.1.frozen (j * 2 + 1)
      go_wp2
      go_roundw
      case rel =>
        refine ⟨j + 1, by omega, by go_num, ?_, ?_⟩
        · have h3 := HX.out.2.1; have h4 := HX.out.2.2; have h5 := HCX.out
          rw [h4]
          show Value.int .i64 _ = Value.int .i64 _
          congr 1
          omega
        · have h3 := HX.out.2.1
          refine ⟨HC1s.out, _, ?_, HO1s.out.2.1, HO1s.out.2.2.1⟩
          rw [← Mm.half_set HX.out.1, h3]
          exact (by rw [show Pl.mkRow x kj = ⟨(Pl.mkText (kj)), ((Mm.mkL Pl.mkSample Pl.cntSample) x.Samples (kj + 1))⟩ from (by (try rw [← HZ1.out]); rfl)]; exact HO1s.out.1)
      case measure => simp [intOf]; omega
    · have HM := Lib.hid hm
      go_wp2
      go_ret
      exact HM.out.done (by have := hlen.out; omega)
set_option maxHeartbeats 2000000 in
theorem markHeadS_c (l : List Head) (A : Option Addr) (n c : Nat) (fp : List Nat) (k : Int) (w : World) (ho : Mm.SlOwn rHead 35 w l (.slice A n c) fp) (hnd : fp.Nodup) (h0 : 1 ≤ k) (h1 : k + Mm.cntL Pl.cntHead l ≤ 1000000000000) :
    Calls Try.prog 26 #[.slice A n c, .int .i64 k] w (Mm.MkRet rHead 35 Pl.mkHead Pl.cntHead w l (.slice A n c) fp k) := by
  have hn : n ≤ 9223372036854775807 := by
    obtain ⟨_, _, _, he, _, h2, h3, _⟩ := ho.form
    injection he with _ e2 e3
    subst e2; subst e3
    unfold maxLen at h3; omega
  have hlen : Hid (l.length = n) := by
    obtain ⟨_, _, _, he, h2, _⟩ := ho.form
    injection he with _ e2
    show l.length = n
    rw [e2, h2]
  have HN : Hid (∀ x : Head, 0 ≤ Pl.cntHead x) := Pl.cntHead_nn
  have HST := Lib.hid (Mm.MkAt.start (mk := Pl.mkHead) (cnt := Pl.cntHead) (k := k) ho hnd)
  clear ho hnd
  go_enter Try.func26, Try.ntmps26
  go_wp2
  go_loopw [1, 5] (fun kk i wr => ∃ j : Nat, j ≤ n ∧ i = .int .i64 j ∧ kk = .int .i64 (k + Mm.cntL Pl.cntHead (l.take j)) ∧ Mm.MkAt rHead 35 Pl.mkHead Pl.cntHead w l (.slice A n c) fp k j wr) (fun _ i _ => n - (intOf i).toNat)
  case atStart => exact ⟨0, Nat.zero_le _, rfl, by simp [Mm.cntL], HST.out⟩
  case round =>
    clear HST
    obtain ⟨j, hj, rfl, rfl, hm⟩ := hrel
    rename_i wr _
    by_cases hlt : j < n
    · obtain ⟨x, hx⟩ : ∃ x, l[j]? = some x := ⟨_, List.getElem?_eq_getElem (by have := hlen.out; omega)⟩
      have hc1 : Mm.cntL Pl.cntHead (l.take (j + 1)) = Mm.cntL Pl.cntHead (l.take j) + Pl.cntHead x := Mm.cntL_succ hx
      have hc2 := Mm.cntL_take_le HN.out l (j + 1)
      have hc3 := Mm.cntL_nn HN.out (l.take j)
      have hc4 := HN.out x
      obtain ⟨kj, hkj⟩ : ∃ kj, k + Mm.cntL Pl.cntHead (l.take j) = kj := ⟨_, rfl⟩
      rw [hkj]
      have hk0 : 1 ≤ kj := by omega
      have hk1 : kj + Pl.cntHead x ≤ 1000000000000 := by omega
      have HX := Lib.hid (And.intro hx (And.intro hkj hc1))
      obtain ⟨hchg, fp0, ho0, hnd0, hsub0⟩ := hm
      have hx0 := Mm.half_get (mk := Pl.mkHead) (cnt := Pl.cntHead) (k := k) hx
      obtain ⟨g, rfl⟩ : ∃ g, A = some ⟨g, 0, none⟩ := by
        obtain ⟨_, _, hs, _⟩ := ho0
        obtain ⟨g, cap, he, _⟩ := hs.form (by rw [Mm.half_len]; have := hlen.out; omega)
        injection he with he
        exact ⟨g, he⟩
      have hgl := ho0.olt g ho0.mem_block
      have HC0 := Lib.hid hchg
      have HO0 := Lib.hid (And.intro ho0 (And.intro hnd0 (And.intro hsub0 hx0)))
      clear hchg hx hkj hc1 hc2 hc3 hx0
      have hcx : Pl.cntHead x = (Mm.cntL Pl.cntRow) x.Rows + 1 := rfl
      have hq0 := Mm.cntL_nn (cnt := Pl.cntRow) (Pl.cntRow_nn) x.Rows
      obtain ⟨z0, hz0⟩ : ∃ z, (Mm.cntL Pl.cntRow) x.Rows = z := ⟨_, rfl⟩
      rw [hz0] at hcx hq0
      rw [hcx] at hk1 hc4
      have HCX := Lib.hid hcx
      clear hcx hc4
      have HZ0 := Lib.hid hz0
      clear hz0
      obtain ⟨A0, n0, c0, d0_0, d0_1⟩ := rHead_ocell HO0.out.1 HO0.out.2.1 HO0.out.2.2.2
      have e0_0 := HO0.out.1.frozen (j * 2)
      have e0_1 := HO0.out.1.frozen (j * 2 + 1)
      obtain ⟨cs0, fx0, hox0, hnx0, hsx0, hcx0, hnext0⟩ := HO0.out.1.inner HO0.out.2.1 HO0.out.2.2.2
      obtain ⟨Ai0, ni0, ci0, fi0, rfl, rfl, gi0_0, gi0_1⟩ := rHead_own hox0
      have hoi0 := gi0_0
      clear d0_0
      have dd0 := Mm.cell_sp (a' := j * 2) (hcx0 0 _ rfl) rfl
      have HI0 := Lib.hid (And.intro hoi0 (And.intro hnx0 (And.intro hsx0 hnext0)))
      have HG0 := Lib.hid (And.intro gi0_0 gi0_1)
      clear hoi0 hnx0 hsx0 hnext0 hcx0 gi0_0 gi0_1
      go_wp2_with fail
      refine (markRowS_c x.Rows _ _ _ _ _ _ HI0.out.1 HI0.out.2.1 (by omega) (by have hz9 := HZ0.out; omega)).mono ?_
      rintro e v0 ⟨rfl, hch0, fn0, ho0', hnd0', hsub0'⟩
      obtain ⟨fo0, hof0, hnf0, hsf0⟩ := HI0.out.2.2.2 v0 (⟨((Mm.mkL Pl.mkRow Pl.cntRow) x.Rows kj), x.Offset⟩ : Head) fn0 hch0 (rHead_own_mk (x := ⟨((Mm.mkL Pl.mkRow Pl.cntRow) x.Rows kj), x.Offset⟩) ho0' HG0.out.2) hnd0' hsub0'
      have HO0s := Lib.hid (And.intro hof0 (And.intro hnf0 (And.intro (fun b hb => HO0.out.2.2.1 b (hsf0 b hb)) (show ((Mm.half Pl.mkHead Pl.cntHead l k j).set j ⟨((Mm.mkL Pl.mkRow Pl.cntRow) x.Rows kj), x.Offset⟩)[j]? = some ⟨((Mm.mkL Pl.mkRow Pl.cntRow) x.Rows kj), x.Offset⟩ from List.getElem?_set_self (by rw [Mm.half_len]; have := hlen.out; omega)))))
      have HC0s := Lib.hid (HC0.out.trans (hch0.more (fun b hb => HO0.out.2.2.1 b (HI0.out.2.2.1 b hb).1)))
      clear hch0 ho0' hnd0' hsub0' hof0 hnf0 hsf0
      rw [HZ0.out]
      obtain ⟨An0, nn0, cn0, dn0_0, dn0_1⟩ := rHead_ocell HO0s.out.1 HO0s.out.2.1 HO0s.out.2.2.2
      have en0_0 := HO0s.out.1.frozen (j * 2)
      have en0_1 := HO0s.out.1.frozen (j * 2 + 1)
      have st1 := HO0s.out.1.store HO0s.out.2.1 (j := 1) (x' := ⟨((Mm.mkL Pl.mkRow Pl.cntRow) x.Rows kj), (kj + z0)⟩) (u := .int .i64 ((kj + z0))) HO0s.out.2.2.2 (by decide) (fun cs fx hh => by obtain ⟨A, n, c, _, rfl, rfl, g0, g1⟩ := rHead_own hh; exact rHead_own_mk (x := ⟨((Mm.mkL Pl.mkRow Pl.cntRow) x.Rows kj), (kj + z0)⟩) g0 (by unfold Mm.I64; first | omega | (dsimp only; omega)))
      rw [List.set_set] at st1
      have HO1s := Lib.hid (And.intro st1 (And.intro HO0s.out.2.1 (And.intro HO0s.out.2.2.1 (show ((Mm.half Pl.mkHead Pl.cntHead l k j).set j ⟨((Mm.mkL Pl.mkRow Pl.cntRow) x.Rows kj), (kj + z0)⟩)[j]? = some ⟨((Mm.mkL Pl.mkRow Pl.cntRow) x.Rows kj), (kj + z0)⟩ from List.getElem?_set_self (by rw [Mm.half_len]; have := hlen.out; omega)))))
      have HC1s := Lib.hid (HC0s.out.setCell (p := ⟨g, j * 2 + 1, none⟩) (HO0s.out.2.2.1 g HO0s.out.1.mem_block) (.int .i64 ((kj + z0))))
      clear st1
      go_wp2
      go_roundw
      case rel =>
        refine ⟨j + 1, by omega, by go_num, ?_, ?_⟩
        · have h3 := HX.out.2.1; have h4 := HX.out.2.2; have h5 := HCX.out
          rw [h4]
          show Value.int .i64 _ = Value.int .i64 _
          congr 1
          omega
        · have h3 := HX.out.2.1
          refine ⟨HC1s.out, _, ?_, HO1s.out.2.1, HO1s.out.2.2.1⟩
          rw [← Mm.half_set HX.out.1, h3]
          exact (by rw [show Pl.mkHead x kj = ⟨((Mm.mkL Pl.mkRow Pl.cntRow) x.Rows kj), (kj + z0)⟩ from (by (try rw [← HZ0.out]); rfl)]; exact HO1s.out.1)
      case measure => simp [intOf]; omega
    · have HM := Lib.hid hm
      go_wp2
      go_ret
      exact HM.out.done (by have := hlen.out; omega)
set_option maxHeartbeats 2000000 in
theorem markPieceS_c (l : List Piece) (A : Option Addr) (n c : Nat) (fp : List Nat) (k : Int) (w : World) (ho : Mm.SlOwn rPiece 76 w l (.slice A n c) fp) (hnd : fp.Nodup) (h0 : 1 ≤ k) (h1 : k + Mm.cntL Pl.cntPiece l ≤ 1000000000000) :
    Calls Try.prog 43 #[.slice A n c, .int .i64 k] w (Mm.MkRet rPiece 76 Pl.mkPiece Pl.cntPiece w l (.slice A n c) fp k) := by
  have hn : n ≤ 9223372036854775807 := by
    obtain ⟨_, _, _, he, _, h2, h3, _⟩ := ho.form
    injection he with _ e2 e3
    subst e2; subst e3
    unfold maxLen at h3; omega
  have hlen : Hid (l.length = n) := by
    obtain ⟨_, _, _, he, h2, _⟩ := ho.form
    injection he with _ e2
    show l.length = n
    rw [e2, h2]
  have HN : Hid (∀ x : Piece, 0 ≤ Pl.cntPiece x) := Pl.cntPiece_nn
  have HST := Lib.hid (Mm.MkAt.start (mk := Pl.mkPiece) (cnt := Pl.cntPiece) (k := k) ho hnd)
  clear ho hnd
  go_enter Try.func43, Try.ntmps43
  go_wp2
  go_loopw [1, 5] (fun kk i wr => ∃ j : Nat, j ≤ n ∧ i = .int .i64 j ∧ kk = .int .i64 (k + Mm.cntL Pl.cntPiece (l.take j)) ∧ Mm.MkAt rPiece 76 Pl.mkPiece Pl.cntPiece w l (.slice A n c) fp k j wr) (fun _ i _ => n - (intOf i).toNat)
  case atStart => exact ⟨0, Nat.zero_le _, rfl, by simp [Mm.cntL], HST.out⟩
  case round =>
    clear HST
    obtain ⟨j, hj, rfl, rfl, hm⟩ := hrel
    rename_i wr _
    by_cases hlt : j < n
    · obtain ⟨x, hx⟩ : ∃ x, l[j]? = some x := ⟨_, List.getElem?_eq_getElem (by have := hlen.out; omega)⟩
      have hc1 : Mm.cntL Pl.cntPiece (l.take (j + 1)) = Mm.cntL Pl.cntPiece (l.take j) + Pl.cntPiece x := Mm.cntL_succ hx
      have hc2 := Mm.cntL_take_le HN.out l (j + 1)
      have hc3 := Mm.cntL_nn HN.out (l.take j)
      have hc4 := HN.out x
      obtain ⟨kj, hkj⟩ : ∃ kj, k + Mm.cntL Pl.cntPiece (l.take j) = kj := ⟨_, rfl⟩
      rw [hkj]
      have hk0 : 1 ≤ kj := by omega
      have hk1 : kj + Pl.cntPiece x ≤ 1000000000000 := by omega
      have HX := Lib.hid (And.intro hx (And.intro hkj hc1))
      obtain ⟨hchg, fp0, ho0, hnd0, hsub0⟩ := hm
      have hx0 := Mm.half_get (mk := Pl.mkPiece) (cnt := Pl.cntPiece) (k := k) hx
      obtain ⟨g, rfl⟩ : ∃ g, A = some ⟨g, 0, none⟩ := by
        obtain ⟨_, _, hs, _⟩ := ho0
        obtain ⟨g, cap, he, _⟩ := hs.form (by rw [Mm.half_len]; have := hlen.out; omega)
        injection he with he
        exact ⟨g, he⟩
      have hgl := ho0.olt g ho0.mem_block
      have HC0 := Lib.hid hchg
      have HO0 := Lib.hid (And.intro ho0 (And.intro hnd0 (And.intro hsub0 hx0)))
      clear hchg hx hkj hc1 hc2 hc3 hx0
      have hcx : Pl.cntPiece x = 1 + 1 + (Mm.cntL Pl.cnt1) x.Index := rfl
      have hq2 := Mm.cntL_nn (cnt := Pl.cnt1) (Pl.cnt1_nn) x.Index
      obtain ⟨z2, hz2⟩ : ∃ z, (Mm.cntL Pl.cnt1) x.Index = z := ⟨_, rfl⟩
      rw [hz2] at hcx hq2
      rw [hcx] at hk1 hc4
      have HCX := Lib.hid hcx
      clear hcx hc4
      have HZ2 := Lib.hid hz2
      clear hz2
      obtain ⟨A0, n0, c0, d0_0, d0_1, d0_2⟩ := rPiece_ocell HO0.out.1 HO0.out.2.1 HO0.out.2.2.2
      have e0_0 := HO0.out.1.frozen (j * 3)
      have e0_1 := HO0.out.1.frozen (j * 3 + 1)
      have e0_2 := HO0.out.1.frozen (j * 3 + 2)
      have st0 := HO0.out.1.store HO0.out.2.1 (j := 0) (x' := ⟨kj, x.Bytes, x.Index⟩) (u := .int .i64 (kj)) HO0.out.2.2.2 (by decide) (fun cs fx hh => by obtain ⟨A, n, c, _, rfl, rfl, g0, g1, g2⟩ := rPiece_own hh; exact rPiece_own_mk (x := ⟨kj, x.Bytes, x.Index⟩) (by unfold Mm.I64; first | omega | (dsimp only; omega)) g1 g2)
      have HO0s := Lib.hid (And.intro st0 (And.intro HO0.out.2.1 (And.intro HO0.out.2.2.1 (show ((Mm.half Pl.mkPiece Pl.cntPiece l k j).set j ⟨kj, x.Bytes, x.Index⟩)[j]? = some ⟨kj, x.Bytes, x.Index⟩ from List.getElem?_set_self (by rw [Mm.half_len]; have := hlen.out; omega)))))
      have HC0s := Lib.hid (HC0.out.setCell (p := ⟨g, j * 3, none⟩) (HO0.out.2.2.1 g HO0.out.1.mem_block) (.int .i64 (kj)))
      clear st0
      go_wp2_with fail
      refine (markText_c _ _ (by omega) (by omega)).mono ?_
      rintro e v1 ⟨rfl, hb1⟩
      have HO1m := Lib.hid (And.intro (HO0s.out.1.okeep (w' := v1) (fun b hb => hb1.block b (HO0s.out.1.olt b hb))) HO0s.out.2)
      have HC1m := Lib.hid (Mm.und_chg HC0s.out hb1)
      clear hb1
      obtain ⟨Am1, nm1, cm1, dm1_0, dm1_1, dm1_2⟩ := rPiece_ocell HO1m.out.1 HO1m.out.2.1 HO1m.out.2.2.2
      have em1_0 := HO1m.out.1.frozen (j * 3)
      have em1_1 := HO1m.out.1.frozen (j * 3 + 1)
      have em1_2 := HO1m.out.1.frozen (j * 3 + 2)
      have st1 := HO1m.out.1.store HO1m.out.2.1 (j := 1) (x' := ⟨kj, (Pl.mkText ((kj + 1))), x.Index⟩) (u := .string (Pl.mkText ((kj + 1)))) HO1m.out.2.2.2 (by decide) (fun cs fx hh => by obtain ⟨A, n, c, _, rfl, rfl, g0, g1, g2⟩ := rPiece_own hh; exact rPiece_own_mk (x := ⟨kj, (Pl.mkText ((kj + 1))), x.Index⟩) g0 (Pl.mkText_len _ (by first | omega | (dsimp only; omega)) (by first | omega | (dsimp only; omega))) g2)
      rw [List.set_set] at st1
      have HO1s := Lib.hid (And.intro st1 (And.intro HO1m.out.2.1 (And.intro HO1m.out.2.2.1 (show ((Mm.half Pl.mkPiece Pl.cntPiece l k j).set j ⟨kj, (Pl.mkText ((kj + 1))), x.Index⟩)[j]? = some ⟨kj, (Pl.mkText ((kj + 1))), x.Index⟩ from List.getElem?_set_self (by rw [Mm.half_len]; have := hlen.out; omega)))))
      have HC1s := Lib.hid (HC1m.out.setCell (p := ⟨g, j * 3 + 1, none⟩) (HO1m.out.2.2.1 g HO1m.out.1.mem_block) (.string (Pl.mkText ((kj + 1)))))
      clear st1
      obtain ⟨cs2, fx2, hox2, hnx2, hsx2, hcx2, hnext2⟩ := HO1s.out.1.inner HO1s.out.2.1 HO1s.out.2.2.2
      obtain ⟨Ai2, ni2, ci2, fi2, rfl, rfl, gi2_0, gi2_1, gi2_2⟩ := rPiece_own hox2
      have hoi2 := gi2_2
      clear dm1_2
      have dd2 := Mm.cell_sp (a' := j * 3 + 2) (hcx2 2 _ rfl) rfl
      rw [World.cell?_setCell_other _ _ _ _ (by intro e9; have e8 : j * 3 + 1 = j * 3 + 2 := congrArg Addr.off e9; omega)] at dd2
      have HI2 := Lib.hid (And.intro hoi2 (And.intro hnx2 (And.intro hsx2 hnext2)))
      have HG2 := Lib.hid (And.intro gi2_0 (And.intro gi2_1 gi2_2))
      clear hoi2 hnx2 hsx2 hnext2 hcx2 gi2_0 gi2_1 gi2_2
      go_wp2_with fail
      refine (markIntS_c x.Index _ _ _ _ _ _ HI2.out.1 HI2.out.2.1 (by omega) (by have hz9 := HZ2.out; omega)).mono ?_
      rintro e v2 ⟨rfl, hch2, fn2, ho2', hnd2', hsub2'⟩
      obtain ⟨fo2, hof2, hnf2, hsf2⟩ := HI2.out.2.2.2 v2 (⟨kj, (Pl.mkText ((kj + 1))), ((Mm.mkL Pl.mkInt Pl.cnt1) x.Index ((kj + 1) + 1))⟩ : Piece) fn2 hch2 (rPiece_own_mk (x := ⟨kj, (Pl.mkText ((kj + 1))), ((Mm.mkL Pl.mkInt Pl.cnt1) x.Index ((kj + 1) + 1))⟩) HG2.out.1 HG2.out.2.1 ho2') hnd2' hsub2'
      rw [List.set_set] at hof2
      have HO2s := Lib.hid (And.intro hof2 (And.intro hnf2 (And.intro (fun b hb => HO1s.out.2.2.1 b (hsf2 b hb)) (show ((Mm.half Pl.mkPiece Pl.cntPiece l k j).set j ⟨kj, (Pl.mkText ((kj + 1))), ((Mm.mkL Pl.mkInt Pl.cnt1) x.Index ((kj + 1) + 1))⟩)[j]? = some ⟨kj, (Pl.mkText ((kj + 1))), ((Mm.mkL Pl.mkInt Pl.cnt1) x.Index ((kj + 1) + 1))⟩ from List.getElem?_set_self (by rw [Mm.half_len]; have := hlen.out; omega)))))
      have HC2s := Lib.hid (HC1s.out.trans (hch2.more (fun b hb => HO1s.out.2.2.1 b (HI2.out.2.2.1 b hb).1)))
      clear hch2 ho2' hnd2' hsub2' hof2 hnf2 hsf2
      rw [HZ2.out]
      obtain ⟨An2, nn2, cn2, dn2_0, dn2_1, dn2_2⟩ := rPiece_ocell HO2s.out.1 HO2s.out.2.1 HO2s.out.2.2.2
      have en2_0 := HO2s.out.1.frozen (j * 3)
      have en2_1 := HO2s.out.1.frozen (j * 3 + 1)
      have en2_2 := HO2s.out.1.frozen (j * 3 + 2)
      go_wp2
      go_roundw
      case rel =>
        refine ⟨j + 1, by omega, by go_num, ?_, ?_⟩
        · have h3 := HX.out.2.1; have h4 := HX.out.2.2; have h5 := HCX.out
          rw [h4]
          show Value.int .i64 _ = Value.int .i64 _
          congr 1
          omega
        · have h3 := HX.out.2.1
          refine ⟨HC2s.out, _, ?_, HO2s.out.2.1, HO2s.out.2.2.1⟩
          rw [← Mm.half_set HX.out.1, h3]
          exact (by rw [show Pl.mkPiece x kj = ⟨kj, (Pl.mkText ((kj + 1))), ((Mm.mkL Pl.mkInt Pl.cnt1) x.Index ((kj + 1) + 1))⟩ from (by (try rw [← HZ2.out]); rfl)]; exact HO2s.out.1)
      case measure => simp [intOf]; omega
    · have HM := Lib.hid hm
      go_wp2
      go_ret
      exact HM.out.done (by have := hlen.out; omega)
set_option maxHeartbeats 2000000 in
theorem markLogS_c (l : List Log) (A : Option Addr) (n c : Nat) (fp : List Nat) (k : Int) (w : World) (ho : Mm.SlOwn rLog 48 w l (.slice A n c) fp) (hnd : fp.Nodup) (h0 : 1 ≤ k) (h1 : k + Mm.cntL Pl.cntLog l ≤ 1000000000000) :
    Calls Try.prog 25 #[.slice A n c, .int .i64 k] w (Mm.MkRet rLog 48 Pl.mkLog Pl.cntLog w l (.slice A n c) fp k) := by
  have hn : n ≤ 9223372036854775807 := by
    obtain ⟨_, _, _, he, _, h2, h3, _⟩ := ho.form
    injection he with _ e2 e3
    subst e2; subst e3
    unfold maxLen at h3; omega
  have hlen : Hid (l.length = n) := by
    obtain ⟨_, _, _, he, h2, _⟩ := ho.form
    injection he with _ e2
    show l.length = n
    rw [e2, h2]
  have HN : Hid (∀ x : Log, 0 ≤ Pl.cntLog x) := Pl.cntLog_nn
  have HST := Lib.hid (Mm.MkAt.start (mk := Pl.mkLog) (cnt := Pl.cntLog) (k := k) ho hnd)
  clear ho hnd
  go_enter Try.func25, Try.ntmps25
  go_wp2
  go_loopw [1, 5] (fun kk i wr => ∃ j : Nat, j ≤ n ∧ i = .int .i64 j ∧ kk = .int .i64 (k + Mm.cntL Pl.cntLog (l.take j)) ∧ Mm.MkAt rLog 48 Pl.mkLog Pl.cntLog w l (.slice A n c) fp k j wr) (fun _ i _ => n - (intOf i).toNat)
  case atStart => exact ⟨0, Nat.zero_le _, rfl, by simp [Mm.cntL], HST.out⟩
  case round =>
    clear HST
    obtain ⟨j, hj, rfl, rfl, hm⟩ := hrel
    rename_i wr _
    by_cases hlt : j < n
    · obtain ⟨x, hx⟩ : ∃ x, l[j]? = some x := ⟨_, List.getElem?_eq_getElem (by have := hlen.out; omega)⟩
      have hc1 : Mm.cntL Pl.cntLog (l.take (j + 1)) = Mm.cntL Pl.cntLog (l.take j) + Pl.cntLog x := Mm.cntL_succ hx
      have hc2 := Mm.cntL_take_le HN.out l (j + 1)
      have hc3 := Mm.cntL_nn HN.out (l.take j)
      have hc4 := HN.out x
      obtain ⟨kj, hkj⟩ : ∃ kj, k + Mm.cntL Pl.cntLog (l.take j) = kj := ⟨_, rfl⟩
      rw [hkj]
      have hk0 : 1 ≤ kj := by omega
      have hk1 : kj + Pl.cntLog x ≤ 1000000000000 := by omega
      have HX := Lib.hid (And.intro hx (And.intro hkj hc1))
      obtain ⟨hchg, fp0, ho0, hnd0, hsub0⟩ := hm
      have hx0 := Mm.half_get (mk := Pl.mkLog) (cnt := Pl.cntLog) (k := k) hx
      obtain ⟨g, rfl⟩ : ∃ g, A = some ⟨g, 0, none⟩ := by
        obtain ⟨_, _, hs, _⟩ := ho0
        obtain ⟨g, cap, he, _⟩ := hs.form (by rw [Mm.half_len]; have := hlen.out; omega)
        injection he with he
        exact ⟨g, he⟩
      have hgl := ho0.olt g ho0.mem_block
      have HC0 := Lib.hid hchg
      have HO0 := Lib.hid (And.intro ho0 (And.intro hnd0 (And.intro hsub0 hx0)))
      clear hchg hx hkj hc1 hc2 hc3 hx0
      have hcx : Pl.cntLog x = (Mm.cntL Pl.cntPiece) x.Pieces + 1 := rfl
      have hq0 := Mm.cntL_nn (cnt := Pl.cntPiece) (Pl.cntPiece_nn) x.Pieces
      obtain ⟨z0, hz0⟩ : ∃ z, (Mm.cntL Pl.cntPiece) x.Pieces = z := ⟨_, rfl⟩
      rw [hz0] at hcx hq0
      rw [hcx] at hk1 hc4
      have HCX := Lib.hid hcx
      clear hcx hc4
      have HZ0 := Lib.hid hz0
      clear hz0
      obtain ⟨A0, n0, c0, d0_0, d0_1⟩ := rLog_ocell HO0.out.1 HO0.out.2.1 HO0.out.2.2.2
      have e0_0 := HO0.out.1.frozen (j * 2)
      have e0_1 := HO0.out.1.frozen (j * 2 + 1)
      obtain ⟨cs0, fx0, hox0, hnx0, hsx0, hcx0, hnext0⟩ := HO0.out.1.inner HO0.out.2.1 HO0.out.2.2.2
      obtain ⟨Ai0, ni0, ci0, fi0, rfl, rfl, gi0_0, gi0_1⟩ := rLog_own hox0
      have hoi0 := gi0_0
      clear d0_0
      have dd0 := Mm.cell_sp (a' := j * 2) (hcx0 0 _ rfl) rfl
      have HI0 := Lib.hid (And.intro hoi0 (And.intro hnx0 (And.intro hsx0 hnext0)))
      have HG0 := Lib.hid (And.intro gi0_0 gi0_1)
      clear hoi0 hnx0 hsx0 hnext0 hcx0 gi0_0 gi0_1
      go_wp2_with fail
      refine (markPieceS_c x.Pieces _ _ _ _ _ _ HI0.out.1 HI0.out.2.1 (by omega) (by have hz9 := HZ0.out; omega)).mono ?_
      rintro e v0 ⟨rfl, hch0, fn0, ho0', hnd0', hsub0'⟩
      obtain ⟨fo0, hof0, hnf0, hsf0⟩ := HI0.out.2.2.2 v0 (⟨((Mm.mkL Pl.mkPiece Pl.cntPiece) x.Pieces kj), x.Begin⟩ : Log) fn0 hch0 (rLog_own_mk (x := ⟨((Mm.mkL Pl.mkPiece Pl.cntPiece) x.Pieces kj), x.Begin⟩) ho0' HG0.out.2) hnd0' hsub0'
      have HO0s := Lib.hid (And.intro hof0 (And.intro hnf0 (And.intro (fun b hb => HO0.out.2.2.1 b (hsf0 b hb)) (show ((Mm.half Pl.mkLog Pl.cntLog l k j).set j ⟨((Mm.mkL Pl.mkPiece Pl.cntPiece) x.Pieces kj), x.Begin⟩)[j]? = some ⟨((Mm.mkL Pl.mkPiece Pl.cntPiece) x.Pieces kj), x.Begin⟩ from List.getElem?_set_self (by rw [Mm.half_len]; have := hlen.out; omega)))))
      have HC0s := Lib.hid (HC0.out.trans (hch0.more (fun b hb => HO0.out.2.2.1 b (HI0.out.2.2.1 b hb).1)))
      clear hch0 ho0' hnd0' hsub0' hof0 hnf0 hsf0
      rw [HZ0.out]
      obtain ⟨An0, nn0, cn0, dn0_0, dn0_1⟩ := rLog_ocell HO0s.out.1 HO0s.out.2.1 HO0s.out.2.2.2
      have en0_0 := HO0s.out.1.frozen (j * 2)
      have en0_1 := HO0s.out.1.frozen (j * 2 + 1)
      have st1 := HO0s.out.1.store HO0s.out.2.1 (j := 1) (x' := ⟨((Mm.mkL Pl.mkPiece Pl.cntPiece) x.Pieces kj), (kj + z0)⟩) (u := .int .i64 ((kj + z0))) HO0s.out.2.2.2 (by decide) (fun cs fx hh => by obtain ⟨A, n, c, _, rfl, rfl, g0, g1⟩ := rLog_own hh; exact rLog_own_mk (x := ⟨((Mm.mkL Pl.mkPiece Pl.cntPiece) x.Pieces kj), (kj + z0)⟩) g0 (by unfold Mm.I64; first | omega | (dsimp only; omega)))
      rw [List.set_set] at st1
      have HO1s := Lib.hid (And.intro st1 (And.intro HO0s.out.2.1 (And.intro HO0s.out.2.2.1 (show ((Mm.half Pl.mkLog Pl.cntLog l k j).set j ⟨((Mm.mkL Pl.mkPiece Pl.cntPiece) x.Pieces kj), (kj + z0)⟩)[j]? = some ⟨((Mm.mkL Pl.mkPiece Pl.cntPiece) x.Pieces kj), (kj + z0)⟩ from List.getElem?_set_self (by rw [Mm.half_len]; have := hlen.out; omega)))))
      have HC1s := Lib.hid (HC0s.out.setCell (p := ⟨g, j * 2 + 1, none⟩) (HO0s.out.2.2.1 g HO0s.out.1.mem_block) (.int .i64 ((kj + z0))))
      clear st1
      go_wp2
      go_roundw
      case rel =>
        refine ⟨j + 1, by omega, by go_num, ?_, ?_⟩
        · have h3 := HX.out.2.1; have h4 := HX.out.2.2; have h5 := HCX.out
          rw [h4]
          show Value.int .i64 _ = Value.int .i64 _
          congr 1
          omega
        · have h3 := HX.out.2.1
          refine ⟨HC1s.out, _, ?_, HO1s.out.2.1, HO1s.out.2.2.1⟩
          rw [← Mm.half_set HX.out.1, h3]
          exact (by rw [show Pl.mkLog x kj = ⟨((Mm.mkL Pl.mkPiece Pl.cntPiece) x.Pieces kj), (kj + z0)⟩ from (by (try rw [← HZ0.out]); rfl)]; exact HO1s.out.1)
      case measure => simp [intOf]; omega
    · have HM := Lib.hid hm
      go_wp2
      go_ret
      exact HM.out.done (by have := hlen.out; omega)
end Go.Proofs.Ytkodfflnpalbbaa

/-
  The laws' own markings of whole structs that are owned. No conditions.
-/
namespace Go.Proofs.Ytkodfflnpalbbaa
open Go.RowKit
attribute [local go_sem] und_cell
set_option maxHeartbeats 2000000 in
theorem markHead_c (x : Head) (cs : List Value) (fp : List Nat) (k : Int) (w : World) (ho : rHead.own w x cs fp) (hnd : fp.Nodup) (h0 : 1 ≤ k) (h1 : k + Pl.ctopHead x ≤ 1000000000000) :
    Calls Try.prog 17 #[.agg cs.toArray, .int .i64 k] w (Mm.MkTop rHead Pl.topHead Pl.ctopHead w x cs fp k) := by
  obtain ⟨A, n, c, _, rfl, rfl, g0, g1⟩ := rHead_own ho
  have hq0 := Mm.cntL_nn (cnt := Pl.cntRow) (Pl.cntRow_nn) x.Rows
  have hct : Pl.ctopHead x = (Mm.cntL Pl.cntRow) x.Rows := rfl
  rw [hct] at h1
  have HCT := Lib.hid hct
  clear hct
  have HND := Lib.hid hnd
  have KB := Lib.hid (Mm.Blk.new w 35 [.slice A n c, .int .i64 x.Offset])
  have CH := Lib.hid (Mm.Chg.of_below (fp := fp) (below_new (Below.refl w.heap.size w) (.cells #[.slice A n c, .int .i64 x.Offset] 35)))
  have hl0 := g0.olt
  have O0 := Lib.hid (g0.okeep (w' := (w.alloc (.cells #[.slice A n c, .int .i64 x.Offset] 35))) fun b hb => Below.heap_alloc _ _ _ (hl0 b hb))
  have L0 := Lib.hid hl0
  clear hl0
  have HS := Lib.hid g1
  clear ho hnd g0 g1
  go_enter Try.func17, Try.ntmps17
  go_wp2_with fail
  refine (markRowS_c x.Rows _ _ _ _ _ _ O0.out HND.out (by omega) (by omega)).mono ?_
  rintro e v0 ⟨rfl, hch0, fn0, ho0', hnd0', hsub0'⟩
  have CH := Lib.hid (CH.out.trans (hch0.more fun b hb => hb))
  have KB := Lib.hid (KB.out.keep (hch0.block _ KB.out.lt (fun hm => by have := L0.out _ hm; omega)))
  have O0 := Lib.hid ho0'
  have S0 := Lib.hid (And.intro hnd0' hsub0')
  clear hch0 ho0' hnd0' hsub0'
  go_wp2
  go_ret
  refine ⟨ret_int (by have := HCT.out; omega), CH.out, _, rHead_own_mk (x := Pl.topHead x k) O0.out HS.out, ?_, ?_⟩
  · exact S0.out.1
  · intro b hb
    exact (S0.out.2 b hb)
set_option maxHeartbeats 2000000 in
theorem markHouse_c (x : House) (cs : List Value) (fp : List Nat) (k : Int) (w : World) (ho : rHouse.own w x cs fp) (hnd : fp.Nodup) (h0 : 1 ≤ k) (h1 : k + Pl.ctopHouse x ≤ 1000000000000) :
    Calls Try.prog 8 #[.agg cs.toArray, .int .i64 k] w (Mm.MkTop rHouse Pl.topHouse Pl.ctopHouse w x cs fp k) := by
  obtain ⟨A0, n0, c0, A1, n1, c1, A2, n2, c2, f0, f1, f2, rfl, rfl, g0, g1, g2⟩ := rHouse_own ho
  have hq0 := Mm.cntL_nn (cnt := Pl.cntLog) (Pl.cntLog_nn) x.Logs
  have hq1 := Mm.cntL_nn (cnt := Pl.cntHead) (Pl.cntHead_nn) x.Heads
  have hq2 := Mm.cntL_nn (cnt := Pl.cntHead) (Pl.cntHead_nn) x.Kept
  have hct : Pl.ctopHouse x = (Mm.cntL Pl.cntLog) x.Logs + (Mm.cntL Pl.cntHead) x.Heads + (Mm.cntL Pl.cntHead) x.Kept := rfl
  rw [hct] at h1
  have HCT := Lib.hid hct
  clear hct
  have HND := Lib.hid hnd
  have KB := Lib.hid (Mm.Blk.new w 25 [.slice A0 n0 c0, .slice A1 n1 c1, .slice A2 n2 c2])
  have CH := Lib.hid (Mm.Chg.of_below (fp := f0 ++ (f1 ++ (f2))) (below_new (Below.refl w.heap.size w) (.cells #[.slice A0 n0 c0, .slice A1 n1 c1, .slice A2 n2 c2] 25)))
  have hl0 := g0.olt
  have O0 := Lib.hid (g0.okeep (w' := (w.alloc (.cells #[.slice A0 n0 c0, .slice A1 n1 c1, .slice A2 n2 c2] 25))) fun b hb => Below.heap_alloc _ _ _ (hl0 b hb))
  have L0 := Lib.hid hl0
  clear hl0
  have hl1 := g1.olt
  have O1 := Lib.hid (g1.okeep (w' := (w.alloc (.cells #[.slice A0 n0 c0, .slice A1 n1 c1, .slice A2 n2 c2] 25))) fun b hb => Below.heap_alloc _ _ _ (hl1 b hb))
  have L1 := Lib.hid hl1
  clear hl1
  have hl2 := g2.olt
  have O2 := Lib.hid (g2.okeep (w' := (w.alloc (.cells #[.slice A0 n0 c0, .slice A1 n1 c1, .slice A2 n2 c2] 25))) fun b hb => Below.heap_alloc _ _ _ (hl2 b hb))
  have L2 := Lib.hid hl2
  clear hl2
  have D0_1 : Hid (∀ b, b ∈ f0 → b ∉ f1) := fun b hb hm => (List.nodup_append.1 HND.out).2.2 b hb b (List.mem_append_left _ hm) rfl
  have D0_2 : Hid (∀ b, b ∈ f0 → b ∉ f2) := fun b hb hm => (List.nodup_append.1 HND.out).2.2 b hb b (List.mem_append_right _ hm) rfl
  have D1_2 : Hid (∀ b, b ∈ f1 → b ∉ f2) := fun b hb hm => (List.nodup_append.1 (List.nodup_append.1 HND.out).2.1).2.2 b hb b hm rfl
  clear ho hnd g0 g1 g2
  go_enter Try.func8, Try.ntmps8
  go_wp2_with fail
  refine (markLogS_c x.Logs _ _ _ _ _ _ O0.out (List.nodup_append.1 HND.out).1 (by omega) (by omega)).mono ?_
  rintro e v0 ⟨rfl, hch0, fn0, ho0', hnd0', hsub0'⟩
  have CH := Lib.hid (CH.out.trans (hch0.more fun b hb => (List.mem_append_left _ hb)))
  have KB := Lib.hid (KB.out.keep (hch0.block _ KB.out.lt (fun hm => by have := L0.out _ hm; omega)))
  have O1 := Lib.hid (O1.out.okeep fun b hb => hch0.block b (O1.out.olt b hb) (fun hm => D0_1.out b hm hb))
  have O2 := Lib.hid (O2.out.okeep fun b hb => hch0.block b (O2.out.olt b hb) (fun hm => D0_2.out b hm hb))
  have O0 := Lib.hid ho0'
  have S0 := Lib.hid (And.intro hnd0' hsub0')
  clear hch0 ho0' hnd0' hsub0'
  have e0_1 := KB.out.cell (i := 1) rfl
  have e0_2 := KB.out.cell (i := 2) rfl
  go_wp2_with fail
  refine (markHeadS_c x.Heads _ _ _ _ _ _ O1.out (List.nodup_append.1 (List.nodup_append.1 HND.out).2.1).1 (by omega) (by omega)).mono ?_
  rintro e v1 ⟨rfl, hch1, fn1, ho1', hnd1', hsub1'⟩
  have CH := Lib.hid (CH.out.trans (hch1.more fun b hb => (List.mem_append_right _ (List.mem_append_left _ hb))))
  have KB := Lib.hid (KB.out.keep (hch1.block _ KB.out.lt (fun hm => by have := L1.out _ hm; omega)))
  have O0 := Lib.hid (O0.out.okeep fun b hb => hch1.block b (O0.out.olt b hb) (fun hm => D0_1.out b (S0.out.2 b hb) hm))
  have O2 := Lib.hid (O2.out.okeep fun b hb => hch1.block b (O2.out.olt b hb) (fun hm => D1_2.out b hm hb))
  have O1 := Lib.hid ho1'
  have S1 := Lib.hid (And.intro hnd1' hsub1')
  clear hch1 ho1' hnd1' hsub1'
  have e1_2 := KB.out.cell (i := 2) rfl
  go_wp2_with fail
  refine (markHeadS_c x.Kept _ _ _ _ _ _ O2.out (List.nodup_append.1 (List.nodup_append.1 HND.out).2.1).2.1 (by omega) (by omega)).mono ?_
  rintro e v2 ⟨rfl, hch2, fn2, ho2', hnd2', hsub2'⟩
  have CH := Lib.hid (CH.out.trans (hch2.more fun b hb => (List.mem_append_right _ (List.mem_append_right _ hb))))
  have KB := Lib.hid (KB.out.keep (hch2.block _ KB.out.lt (fun hm => by have := L2.out _ hm; omega)))
  have O0 := Lib.hid (O0.out.okeep fun b hb => hch2.block b (O0.out.olt b hb) (fun hm => D0_2.out b (S0.out.2 b hb) hm))
  have O1 := Lib.hid (O1.out.okeep fun b hb => hch2.block b (O1.out.olt b hb) (fun hm => D1_2.out b (S1.out.2 b hb) hm))
  have O2 := Lib.hid ho2'
  have S2 := Lib.hid (And.intro hnd2' hsub2')
  clear hch2 ho2' hnd2' hsub2'
  go_wp2
  go_ret
  refine ⟨ret_int (by have := HCT.out; omega), CH.out, _, rHouse_own_mk (x := Pl.topHouse x k) O0.out O1.out O2.out, ?_, ?_⟩
  · exact (List.nodup_append.2 ⟨S0.out.1, (List.nodup_append.2 ⟨S1.out.1, S2.out.1, fun a ha b hb hab => by subst hab; exact D1_2.out a (S1.out.2 a ha) (S2.out.2 a hb)⟩), fun a ha b hb hab => by subst hab; exact (List.mem_append.1 hb).elim (fun hb => D0_1.out a (S0.out.2 a ha) (S1.out.2 a hb)) (fun hb => D0_2.out a (S0.out.2 a ha) (S2.out.2 a hb))⟩)
  · intro b hb
    rcases List.mem_append.1 hb with hb | hb
    · exact (List.mem_append_left _ (S0.out.2 b hb))
    · rcases List.mem_append.1 hb with hb | hb
      · exact (List.mem_append_right _ (List.mem_append_left _ (S1.out.2 b hb)))
      · exact (List.mem_append_right _ (List.mem_append_right _ (S2.out.2 b hb)))
end Go.Proofs.Ytkodfflnpalbbaa

/-
  The laws' own looks for marks. No conditions.
-/
namespace Go.Proofs.Ytkodfflnpalbbaa
open Go.RowKit
attribute [local go_sem] und_cell
set_option maxHeartbeats 2000000 in
theorem heldIntS_c (l : List Int) (A : Option Addr) (n c : Nat) (k : Int) (w : World) (B : Nat) (hl : Mm.SlAt Mm.int w B (Mm.mkL Pl.mkInt Pl.cnt1 l k) A n c) (hB : B ≤ w.heap.size) (h0 : 1 ≤ k) (h1 : k + Mm.cntL Pl.cnt1 l ≤ 1000000000000) :
    Calls Try.prog 59 #[.slice A n c, .int .i64 k] w fun e w' => e = .returned (.int .i64 (k + Mm.cntL Pl.cnt1 l)) ∧ Below w.heap.size w w' := by
  have hn : n ≤ 9223372036854775807 := by have := hl.2.1; have := hl.2.2.1; unfold maxLen at this; omega
  have hlen : Hid (l.length = n) := by have := hl.1; rw [Mm.mkL_len] at this; exact this
  have HL := Lib.hid hl
  have HN : Hid (∀ x : Int, 0 ≤ Pl.cnt1 x) := Pl.cnt1_nn
  clear hl
  go_enter Try.func59, Try.ntmps59
  go_wp2
  go_loopw [1, 5] (fun kk i wr => ∃ j : Nat, j ≤ n ∧ i = .int .i64 j ∧ kk = .int .i64 (k + Mm.cntL Pl.cnt1 (l.take j)) ∧ Below w.heap.size w wr) (fun _ i _ => n - (intOf i).toNat)
  case atStart => exact ⟨0, Nat.zero_le _, rfl, by simp [Mm.cntL], Below.refl _ _⟩
  case round =>
    obtain ⟨j, hj, rfl, rfl, hbel⟩ := hrel
    rename_i wr _
    by_cases hlt : j < n
    · obtain ⟨x, hx⟩ : ∃ x, l[j]? = some x := ⟨_, List.getElem?_eq_getElem (by have := hlen.out; omega)⟩
      have hc1 : Mm.cntL Pl.cnt1 (l.take (j + 1)) = Mm.cntL Pl.cnt1 (l.take j) + Pl.cnt1 x := Mm.cntL_succ hx
      have hc2 := Mm.cntL_take_le HN.out l (j + 1)
      have hc3 := Mm.cntL_nn HN.out (l.take j)
      have hc4 := HN.out x
      have hmg := Mm.mkL_get (mk := Pl.mkInt) (cnt := Pl.cnt1) (k := k) hx
      obtain ⟨kj, hkj⟩ : ∃ kj, k + Mm.cntL Pl.cnt1 (l.take j) = kj := ⟨_, rfl⟩
      rw [hkj]
      rw [hkj] at hmg
      have hk0 : 1 ≤ kj := by omega
      have hk1 : kj + Pl.cnt1 x ≤ 1000000000000 := by omega
      have HX := Lib.hid (And.intro hkj hc1)
      have hBw : B ≤ wr.heap.size := Nat.le_trans hB hbel.size
      obtain ⟨y, b, off, hy, rfl, hb, f0, d0⟩ := int_get (HL.out.keep (w' := wr) (fun b hb => hbel.block b (by omega))) hlt
      have hye : y = Pl.mkInt x kj := by rw [hy] at hmg; injection hmg
      rw [hye] at f0 d0
      clear hy hmg hkj hc1 hc2 hc3 hx hye
      have hcx : Pl.cnt1 x = 1 := rfl
      rw [hcx] at hk1
      have HCX := Lib.hid hcx
      clear hcx hc4
      have d0' : wr.cell? ⟨b, off + j, none⟩ = some (.int .i64 (kj)) := by exact d0
      clear d0
      clear f0
      go_wp2
      go_roundw
      case rel =>
        refine ⟨j + 1, by omega, by go_num, ?_, hbel⟩
        have h3 := HX.out.1; have h4 := HX.out.2; have h5 := HCX.out
        rw [h4]
        show Value.int .i64 _ = Value.int .i64 _
        congr 1
        omega
      case measure => simp [intOf]; omega
    · have HK : Hid (l.take j = l) := List.take_of_length_le (by have := hlen.out; omega)
      go_wp2
      go_ret
      exact ⟨ret_int (by rw [HK.out]), hbel⟩
set_option maxHeartbeats 2000000 in
theorem heldSampleS_c (l : List Sample) (A : Option Addr) (n c : Nat) (k : Int) (w : World) (B : Nat) (hl : Mm.SlAt smp w B (Mm.mkL Pl.mkSample Pl.cntSample l k) A n c) (hB : B ≤ w.heap.size) (h0 : 1 ≤ k) (h1 : k + Mm.cntL Pl.cntSample l ≤ 1000000000000) :
    Calls Try.prog 56 #[.slice A n c, .int .i64 k] w fun e w' => e = .returned (.int .i64 (k + Mm.cntL Pl.cntSample l)) ∧ Below w.heap.size w w' := by
  have hn : n ≤ 9223372036854775807 := by have := hl.2.1; have := hl.2.2.1; unfold maxLen at this; omega
  have hlen : Hid (l.length = n) := by have := hl.1; rw [Mm.mkL_len] at this; exact this
  have HL := Lib.hid hl
  have HN : Hid (∀ x : Sample, 0 ≤ Pl.cntSample x) := Pl.cntSample_nn
  clear hl
  go_enter Try.func56, Try.ntmps56
  go_wp2
  go_loopw [1, 5] (fun kk i wr => ∃ j : Nat, j ≤ n ∧ i = .int .i64 j ∧ kk = .int .i64 (k + Mm.cntL Pl.cntSample (l.take j)) ∧ Below w.heap.size w wr) (fun _ i _ => n - (intOf i).toNat)
  case atStart => exact ⟨0, Nat.zero_le _, rfl, by simp [Mm.cntL], Below.refl _ _⟩
  case round =>
    obtain ⟨j, hj, rfl, rfl, hbel⟩ := hrel
    rename_i wr _
    by_cases hlt : j < n
    · obtain ⟨x, hx⟩ : ∃ x, l[j]? = some x := ⟨_, List.getElem?_eq_getElem (by have := hlen.out; omega)⟩
      have hc1 : Mm.cntL Pl.cntSample (l.take (j + 1)) = Mm.cntL Pl.cntSample (l.take j) + Pl.cntSample x := Mm.cntL_succ hx
      have hc2 := Mm.cntL_take_le HN.out l (j + 1)
      have hc3 := Mm.cntL_nn HN.out (l.take j)
      have hc4 := HN.out x
      have hmg := Mm.mkL_get (mk := Pl.mkSample) (cnt := Pl.cntSample) (k := k) hx
      obtain ⟨kj, hkj⟩ : ∃ kj, k + Mm.cntL Pl.cntSample (l.take j) = kj := ⟨_, rfl⟩
      rw [hkj]
      rw [hkj] at hmg
      have hk0 : 1 ≤ kj := by omega
      have hk1 : kj + Pl.cntSample x ≤ 1000000000000 := by omega
      have HX := Lib.hid (And.intro hkj hc1)
      have hBw : B ≤ wr.heap.size := Nat.le_trans hB hbel.size
      obtain ⟨y, b, off, hy, rfl, hb, f0, f1, d0, d1⟩ := smp_get (HL.out.keep (w' := wr) (fun b hb => hbel.block b (by omega))) hlt
      have hye : y = Pl.mkSample x kj := by rw [hy] at hmg; injection hmg
      rw [hye] at f0 f1 d0 d1
      clear hy hmg hkj hc1 hc2 hc3 hx hye
      have hcx : Pl.cntSample x = 1 + 1 := rfl
      rw [hcx] at hk1 hc4
      have HCX := Lib.hid hcx
      clear hcx hc4
      have d0' : wr.cell? ⟨b, off + j * 2, none⟩ = some (.int .i64 (kj)) := by exact d0
      clear d0
      have d1' : wr.cell? ⟨b, off + j * 2 + 1, none⟩ = some (.int .i64 ((kj + 1))) := by exact d1
      clear d1
      clear f0 f1
      go_wp2
      go_roundw
      case rel =>
        refine ⟨j + 1, by omega, by go_num, ?_, hbel⟩
        have h3 := HX.out.1; have h4 := HX.out.2; have h5 := HCX.out
        rw [h4]
        show Value.int .i64 _ = Value.int .i64 _
        congr 1
        omega
      case measure => simp [intOf]; omega
    · have HK : Hid (l.take j = l) := List.take_of_length_le (by have := hlen.out; omega)
      go_wp2
      go_ret
      exact ⟨ret_int (by rw [HK.out]), hbel⟩
set_option maxHeartbeats 2000000 in
theorem heldRowS_c (l : List Row) (A : Option Addr) (n c : Nat) (k : Int) (w : World) (B : Nat) (hl : Mm.SlAt rRow w B (Mm.mkL Pl.mkRow Pl.cntRow l k) A n c) (hB : B ≤ w.heap.size) (h0 : 1 ≤ k) (h1 : k + Mm.cntL Pl.cntRow l ≤ 1000000000000) :
    Calls Try.prog 40 #[.slice A n c, .int .i64 k] w fun e w' => e = .returned (.int .i64 (k + Mm.cntL Pl.cntRow l)) ∧ Below w.heap.size w w' := by
  have hn : n ≤ 9223372036854775807 := by have := hl.2.1; have := hl.2.2.1; unfold maxLen at this; omega
  have hlen : Hid (l.length = n) := by have := hl.1; rw [Mm.mkL_len] at this; exact this
  have HL := Lib.hid hl
  have HN : Hid (∀ x : Row, 0 ≤ Pl.cntRow x) := Pl.cntRow_nn
  clear hl
  go_enter Try.func40, Try.ntmps40
  go_wp2
  go_loopw [1, 5] (fun kk i wr => ∃ j : Nat, j ≤ n ∧ i = .int .i64 j ∧ kk = .int .i64 (k + Mm.cntL Pl.cntRow (l.take j)) ∧ Below w.heap.size w wr) (fun _ i _ => n - (intOf i).toNat)
  case atStart => exact ⟨0, Nat.zero_le _, rfl, by simp [Mm.cntL], Below.refl _ _⟩
  case round =>
    obtain ⟨j, hj, rfl, rfl, hbel⟩ := hrel
    rename_i wr _
    by_cases hlt : j < n
    · obtain ⟨x, hx⟩ : ∃ x, l[j]? = some x := ⟨_, List.getElem?_eq_getElem (by have := hlen.out; omega)⟩
      have hc1 : Mm.cntL Pl.cntRow (l.take (j + 1)) = Mm.cntL Pl.cntRow (l.take j) + Pl.cntRow x := Mm.cntL_succ hx
      have hc2 := Mm.cntL_take_le HN.out l (j + 1)
      have hc3 := Mm.cntL_nn HN.out (l.take j)
      have hc4 := HN.out x
      have hmg := Mm.mkL_get (mk := Pl.mkRow) (cnt := Pl.cntRow) (k := k) hx
      obtain ⟨kj, hkj⟩ : ∃ kj, k + Mm.cntL Pl.cntRow (l.take j) = kj := ⟨_, rfl⟩
      rw [hkj]
      rw [hkj] at hmg
      have hk0 : 1 ≤ kj := by omega
      have hk1 : kj + Pl.cntRow x ≤ 1000000000000 := by omega
      have HX := Lib.hid (And.intro hkj hc1)
      have hBw : B ≤ wr.heap.size := Nat.le_trans hB hbel.size
      obtain ⟨y, b, off, A, n, c, hy, rfl, hb, f0, f1, d0, d1⟩ := rRow_get (HL.out.keep (w' := wr) (fun b hb => hbel.block b (by omega))) hlt
      have hye : y = Pl.mkRow x kj := by rw [hy] at hmg; injection hmg
      rw [hye] at f0 f1 d0
      clear hy hmg hkj hc1 hc2 hc3 hx hye
      have hcx : Pl.cntRow x = 1 + (Mm.cntL Pl.cntSample) x.Samples := rfl
      have hq1 := Mm.cntL_nn (cnt := Pl.cntSample) (Pl.cntSample_nn) x.Samples
      obtain ⟨z1, hz1⟩ : ∃ z, (Mm.cntL Pl.cntSample) x.Samples = z := ⟨_, rfl⟩
      rw [hz1] at hcx hq1
      rw [hcx] at hk1 hc4
      have HCX := Lib.hid hcx
      clear hcx hc4
      have HZ1 := Lib.hid hz1
      clear hz1
      have HF := Lib.hid f1
      have d0' : wr.cell? ⟨b, off + j * 2, none⟩ = some (.string (Pl.mkText (kj))) := by exact d0
      clear d0
      clear f0 f1
      go_wp2
      refine wp_region_und (by kernel_rfl) (by kernel_rfl) ?_
      repeat (go_big_quiet_step ((first | (go_at_call 38; exact und_call _ (markText_c _ _ (by omega) (by omega))))))
      refine wpQuiet_nil ?_
      intro X hX
      have HB1 := Lib.hid hX
      have d1_1 := below_some hX d1
      clear hX
      have HW1 := Lib.hid (below_step hbel HB1.out)
      have HV1 := Lib.hid (HB1.out)
      go_wp2_with fail
      refine (heldSampleS_c x.Samples _ _ _ _ _ B (Mm.SlAt.keep (w' := _) HF.out (fun b hb => (HV1.out).block b (Nat.lt_of_lt_of_le hb hBw))) (Nat.le_trans hBw (HV1.out).size) (by omega) (by have hz9 := HZ1.out; omega)).mono ?_
      rintro e v2 ⟨rfl, hb2⟩
      rw [HZ1.out]
      have HB2 := Lib.hid hb2
      clear hb2
      have HW2 := Lib.hid (below_step HW1.out HB2.out)
      have HV2 := Lib.hid (below_step HV1.out HB2.out)
      go_wp2
      go_roundw
      case rel =>
        refine ⟨j + 1, by omega, by go_num, ?_, HW2.out⟩
        have h3 := HX.out.1; have h4 := HX.out.2; have h5 := HCX.out
        rw [h4]
        show Value.int .i64 _ = Value.int .i64 _
        congr 1
        omega
      case measure => simp [intOf]; omega
    · have HK : Hid (l.take j = l) := List.take_of_length_le (by have := hlen.out; omega)
      go_wp2
      go_ret
      exact ⟨ret_int (by rw [HK.out]), hbel⟩
set_option maxHeartbeats 2000000 in
theorem heldHeadS_c (l : List Head) (A : Option Addr) (n c : Nat) (k : Int) (w : World) (B : Nat) (hl : Mm.SlAt rHead w B (Mm.mkL Pl.mkHead Pl.cntHead l k) A n c) (hB : B ≤ w.heap.size) (h0 : 1 ≤ k) (h1 : k + Mm.cntL Pl.cntHead l ≤ 1000000000000) :
    Calls Try.prog 28 #[.slice A n c, .int .i64 k] w fun e w' => e = .returned (.int .i64 (k + Mm.cntL Pl.cntHead l)) ∧ Below w.heap.size w w' := by
  have hn : n ≤ 9223372036854775807 := by have := hl.2.1; have := hl.2.2.1; unfold maxLen at this; omega
  have hlen : Hid (l.length = n) := by have := hl.1; rw [Mm.mkL_len] at this; exact this
  have HL := Lib.hid hl
  have HN : Hid (∀ x : Head, 0 ≤ Pl.cntHead x) := Pl.cntHead_nn
  clear hl
  go_enter Try.func28, Try.ntmps28
  go_wp2
  go_loopw [1, 5] (fun kk i wr => ∃ j : Nat, j ≤ n ∧ i = .int .i64 j ∧ kk = .int .i64 (k + Mm.cntL Pl.cntHead (l.take j)) ∧ Below w.heap.size w wr) (fun _ i _ => n - (intOf i).toNat)
  case atStart => exact ⟨0, Nat.zero_le _, rfl, by simp [Mm.cntL], Below.refl _ _⟩
  case round =>
    obtain ⟨j, hj, rfl, rfl, hbel⟩ := hrel
    rename_i wr _
    by_cases hlt : j < n
    · obtain ⟨x, hx⟩ : ∃ x, l[j]? = some x := ⟨_, List.getElem?_eq_getElem (by have := hlen.out; omega)⟩
      have hc1 : Mm.cntL Pl.cntHead (l.take (j + 1)) = Mm.cntL Pl.cntHead (l.take j) + Pl.cntHead x := Mm.cntL_succ hx
      have hc2 := Mm.cntL_take_le HN.out l (j + 1)
      have hc3 := Mm.cntL_nn HN.out (l.take j)
      have hc4 := HN.out x
      have hmg := Mm.mkL_get (mk := Pl.mkHead) (cnt := Pl.cntHead) (k := k) hx
      obtain ⟨kj, hkj⟩ : ∃ kj, k + Mm.cntL Pl.cntHead (l.take j) = kj := ⟨_, rfl⟩
      rw [hkj]
      rw [hkj] at hmg
      have hk0 : 1 ≤ kj := by omega
      have hk1 : kj + Pl.cntHead x ≤ 1000000000000 := by omega
      have HX := Lib.hid (And.intro hkj hc1)
      have hBw : B ≤ wr.heap.size := Nat.le_trans hB hbel.size
      obtain ⟨y, b, off, A, n, c, hy, rfl, hb, f0, f1, d0, d1⟩ := rHead_get (HL.out.keep (w' := wr) (fun b hb => hbel.block b (by omega))) hlt
      have hye : y = Pl.mkHead x kj := by rw [hy] at hmg; injection hmg
      rw [hye] at f0 f1 d1
      clear hy hmg hkj hc1 hc2 hc3 hx hye
      have hcx : Pl.cntHead x = (Mm.cntL Pl.cntRow) x.Rows + 1 := rfl
      have hq0 := Mm.cntL_nn (cnt := Pl.cntRow) (Pl.cntRow_nn) x.Rows
      obtain ⟨z0, hz0⟩ : ∃ z, (Mm.cntL Pl.cntRow) x.Rows = z := ⟨_, rfl⟩
      rw [hz0] at hcx hq0
      rw [hcx] at hk1 hc4
      have HCX := Lib.hid hcx
      clear hcx hc4
      have HZ0 := Lib.hid hz0
      clear hz0
      have HF := Lib.hid f0
      have d1' : wr.cell? ⟨b, off + j * 2 + 1, none⟩ = some (.int .i64 ((kj + z0))) := by rw [← HZ0.out]; exact d1
      clear d1
      clear f0 f1
      go_wp2_with fail
      refine (heldRowS_c x.Rows _ _ _ _ _ B (Mm.SlAt.keep (w' := _) HF.out (fun b hb => rfl)) (hBw) (by omega) (by have hz9 := HZ0.out; omega)).mono ?_
      rintro e v1 ⟨rfl, hb1⟩
      rw [HZ0.out]
      have d1__1 := below_some hb1 d1'
      have HB1 := Lib.hid hb1
      clear hb1
      have HW1 := Lib.hid (below_step hbel HB1.out)
      have HV1 := Lib.hid (HB1.out)
      go_wp2
      go_roundw
      case rel =>
        refine ⟨j + 1, by omega, by go_num, ?_, HW1.out⟩
        have h3 := HX.out.1; have h4 := HX.out.2; have h5 := HCX.out
        rw [h4]
        show Value.int .i64 _ = Value.int .i64 _
        congr 1
        omega
      case measure => simp [intOf]; omega
    · have HK : Hid (l.take j = l) := List.take_of_length_le (by have := hlen.out; omega)
      go_wp2
      go_ret
      exact ⟨ret_int (by rw [HK.out]), hbel⟩
set_option maxHeartbeats 2000000 in
theorem heldPieceS_c (l : List Piece) (A : Option Addr) (n c : Nat) (k : Int) (w : World) (B : Nat) (hl : Mm.SlAt rPiece w B (Mm.mkL Pl.mkPiece Pl.cntPiece l k) A n c) (hB : B ≤ w.heap.size) (h0 : 1 ≤ k) (h1 : k + Mm.cntL Pl.cntPiece l ≤ 1000000000000) :
    Calls Try.prog 44 #[.slice A n c, .int .i64 k] w fun e w' => e = .returned (.int .i64 (k + Mm.cntL Pl.cntPiece l)) ∧ Below w.heap.size w w' := by
  have hn : n ≤ 9223372036854775807 := by have := hl.2.1; have := hl.2.2.1; unfold maxLen at this; omega
  have hlen : Hid (l.length = n) := by have := hl.1; rw [Mm.mkL_len] at this; exact this
  have HL := Lib.hid hl
  have HN : Hid (∀ x : Piece, 0 ≤ Pl.cntPiece x) := Pl.cntPiece_nn
  clear hl
  go_enter Try.func44, Try.ntmps44
  go_wp2
  go_loopw [1, 5] (fun kk i wr => ∃ j : Nat, j ≤ n ∧ i = .int .i64 j ∧ kk = .int .i64 (k + Mm.cntL Pl.cntPiece (l.take j)) ∧ Below w.heap.size w wr) (fun _ i _ => n - (intOf i).toNat)
  case atStart => exact ⟨0, Nat.zero_le _, rfl, by simp [Mm.cntL], Below.refl _ _⟩
  case round =>
    obtain ⟨j, hj, rfl, rfl, hbel⟩ := hrel
    rename_i wr _
    by_cases hlt : j < n
    · obtain ⟨x, hx⟩ : ∃ x, l[j]? = some x := ⟨_, List.getElem?_eq_getElem (by have := hlen.out; omega)⟩
      have hc1 : Mm.cntL Pl.cntPiece (l.take (j + 1)) = Mm.cntL Pl.cntPiece (l.take j) + Pl.cntPiece x := Mm.cntL_succ hx
      have hc2 := Mm.cntL_take_le HN.out l (j + 1)
      have hc3 := Mm.cntL_nn HN.out (l.take j)
      have hc4 := HN.out x
      have hmg := Mm.mkL_get (mk := Pl.mkPiece) (cnt := Pl.cntPiece) (k := k) hx
      obtain ⟨kj, hkj⟩ : ∃ kj, k + Mm.cntL Pl.cntPiece (l.take j) = kj := ⟨_, rfl⟩
      rw [hkj]
      rw [hkj] at hmg
      have hk0 : 1 ≤ kj := by omega
      have hk1 : kj + Pl.cntPiece x ≤ 1000000000000 := by omega
      have HX := Lib.hid (And.intro hkj hc1)
      have hBw : B ≤ wr.heap.size := Nat.le_trans hB hbel.size
      obtain ⟨y, b, off, A, n, c, hy, rfl, hb, f0, f1, f2, d0, d1, d2⟩ := rPiece_get (HL.out.keep (w' := wr) (fun b hb => hbel.block b (by omega))) hlt
      have hye : y = Pl.mkPiece x kj := by rw [hy] at hmg; injection hmg
      rw [hye] at f0 f1 f2 d0 d1
      clear hy hmg hkj hc1 hc2 hc3 hx hye
      have hcx : Pl.cntPiece x = 1 + 1 + (Mm.cntL Pl.cnt1) x.Index := rfl
      have hq2 := Mm.cntL_nn (cnt := Pl.cnt1) (Pl.cnt1_nn) x.Index
      obtain ⟨z2, hz2⟩ : ∃ z, (Mm.cntL Pl.cnt1) x.Index = z := ⟨_, rfl⟩
      rw [hz2] at hcx hq2
      rw [hcx] at hk1 hc4
      have HCX := Lib.hid hcx
      clear hcx hc4
      have HZ2 := Lib.hid hz2
      clear hz2
      have HF := Lib.hid f2
      have d0' : wr.cell? ⟨b, off + j * 3, none⟩ = some (.int .i64 (kj)) := by exact d0
      clear d0
      have d1' : wr.cell? ⟨b, off + j * 3 + 1, none⟩ = some (.string (Pl.mkText ((kj + 1)))) := by exact d1
      clear d1
      clear f0 f1 f2
      go_wp2
      refine wp_region_und (by kernel_rfl) (by kernel_rfl) ?_
      repeat (go_big_quiet_step ((first | (go_at_call 38; exact und_call _ (markText_c _ _ (by omega) (by omega))))))
      refine wpQuiet_nil ?_
      intro X hX
      have HB1 := Lib.hid hX
      have d2_1 := below_some hX d2
      clear hX
      have HW1 := Lib.hid (below_step hbel HB1.out)
      have HV1 := Lib.hid (HB1.out)
      go_wp2_with fail
      refine (heldIntS_c x.Index _ _ _ _ _ B (Mm.SlAt.keep (w' := _) HF.out (fun b hb => (HV1.out).block b (Nat.lt_of_lt_of_le hb hBw))) (Nat.le_trans hBw (HV1.out).size) (by omega) (by have hz9 := HZ2.out; omega)).mono ?_
      rintro e v2 ⟨rfl, hb2⟩
      rw [HZ2.out]
      have HB2 := Lib.hid hb2
      clear hb2
      have HW2 := Lib.hid (below_step HW1.out HB2.out)
      have HV2 := Lib.hid (below_step HV1.out HB2.out)
      go_wp2
      go_roundw
      case rel =>
        refine ⟨j + 1, by omega, by go_num, ?_, HW2.out⟩
        have h3 := HX.out.1; have h4 := HX.out.2; have h5 := HCX.out
        rw [h4]
        show Value.int .i64 _ = Value.int .i64 _
        congr 1
        omega
      case measure => simp [intOf]; omega
    · have HK : Hid (l.take j = l) := List.take_of_length_le (by have := hlen.out; omega)
      go_wp2
      go_ret
      exact ⟨ret_int (by rw [HK.out]), hbel⟩
set_option maxHeartbeats 2000000 in
theorem heldLogS_c (l : List Log) (A : Option Addr) (n c : Nat) (k : Int) (w : World) (B : Nat) (hl : Mm.SlAt rLog w B (Mm.mkL Pl.mkLog Pl.cntLog l k) A n c) (hB : B ≤ w.heap.size) (h0 : 1 ≤ k) (h1 : k + Mm.cntL Pl.cntLog l ≤ 1000000000000) :
    Calls Try.prog 27 #[.slice A n c, .int .i64 k] w fun e w' => e = .returned (.int .i64 (k + Mm.cntL Pl.cntLog l)) ∧ Below w.heap.size w w' := by
  have hn : n ≤ 9223372036854775807 := by have := hl.2.1; have := hl.2.2.1; unfold maxLen at this; omega
  have hlen : Hid (l.length = n) := by have := hl.1; rw [Mm.mkL_len] at this; exact this
  have HL := Lib.hid hl
  have HN : Hid (∀ x : Log, 0 ≤ Pl.cntLog x) := Pl.cntLog_nn
  clear hl
  go_enter Try.func27, Try.ntmps27
  go_wp2
  go_loopw [1, 5] (fun kk i wr => ∃ j : Nat, j ≤ n ∧ i = .int .i64 j ∧ kk = .int .i64 (k + Mm.cntL Pl.cntLog (l.take j)) ∧ Below w.heap.size w wr) (fun _ i _ => n - (intOf i).toNat)
  case atStart => exact ⟨0, Nat.zero_le _, rfl, by simp [Mm.cntL], Below.refl _ _⟩
  case round =>
    obtain ⟨j, hj, rfl, rfl, hbel⟩ := hrel
    rename_i wr _
    by_cases hlt : j < n
    · obtain ⟨x, hx⟩ : ∃ x, l[j]? = some x := ⟨_, List.getElem?_eq_getElem (by have := hlen.out; omega)⟩
      have hc1 : Mm.cntL Pl.cntLog (l.take (j + 1)) = Mm.cntL Pl.cntLog (l.take j) + Pl.cntLog x := Mm.cntL_succ hx
      have hc2 := Mm.cntL_take_le HN.out l (j + 1)
      have hc3 := Mm.cntL_nn HN.out (l.take j)
      have hc4 := HN.out x
      have hmg := Mm.mkL_get (mk := Pl.mkLog) (cnt := Pl.cntLog) (k := k) hx
      obtain ⟨kj, hkj⟩ : ∃ kj, k + Mm.cntL Pl.cntLog (l.take j) = kj := ⟨_, rfl⟩
      rw [hkj]
      rw [hkj] at hmg
      have hk0 : 1 ≤ kj := by omega
      have hk1 : kj + Pl.cntLog x ≤ 1000000000000 := by omega
      have HX := Lib.hid (And.intro hkj hc1)
      have hBw : B ≤ wr.heap.size := Nat.le_trans hB hbel.size
      obtain ⟨y, b, off, A, n, c, hy, rfl, hb, f0, f1, d0, d1⟩ := rLog_get (HL.out.keep (w' := wr) (fun b hb => hbel.block b (by omega))) hlt
      have hye : y = Pl.mkLog x kj := by rw [hy] at hmg; injection hmg
      rw [hye] at f0 f1 d1
      clear hy hmg hkj hc1 hc2 hc3 hx hye
      have hcx : Pl.cntLog x = (Mm.cntL Pl.cntPiece) x.Pieces + 1 := rfl
      have hq0 := Mm.cntL_nn (cnt := Pl.cntPiece) (Pl.cntPiece_nn) x.Pieces
      obtain ⟨z0, hz0⟩ : ∃ z, (Mm.cntL Pl.cntPiece) x.Pieces = z := ⟨_, rfl⟩
      rw [hz0] at hcx hq0
      rw [hcx] at hk1 hc4
      have HCX := Lib.hid hcx
      clear hcx hc4
      have HZ0 := Lib.hid hz0
      clear hz0
      have HF := Lib.hid f0
      have d1' : wr.cell? ⟨b, off + j * 2 + 1, none⟩ = some (.int .i64 ((kj + z0))) := by rw [← HZ0.out]; exact d1
      clear d1
      clear f0 f1
      go_wp2_with fail
      refine (heldPieceS_c x.Pieces _ _ _ _ _ B (Mm.SlAt.keep (w' := _) HF.out (fun b hb => rfl)) (hBw) (by omega) (by have hz9 := HZ0.out; omega)).mono ?_
      rintro e v1 ⟨rfl, hb1⟩
      rw [HZ0.out]
      have d1__1 := below_some hb1 d1'
      have HB1 := Lib.hid hb1
      clear hb1
      have HW1 := Lib.hid (below_step hbel HB1.out)
      have HV1 := Lib.hid (HB1.out)
      go_wp2
      go_roundw
      case rel =>
        refine ⟨j + 1, by omega, by go_num, ?_, HW1.out⟩
        have h3 := HX.out.1; have h4 := HX.out.2; have h5 := HCX.out
        rw [h4]
        show Value.int .i64 _ = Value.int .i64 _
        congr 1
        omega
      case measure => simp [intOf]; omega
    · have HK : Hid (l.take j = l) := List.take_of_length_le (by have := hlen.out; omega)
      go_wp2
      go_ret
      exact ⟨ret_int (by rw [HK.out]), hbel⟩
set_option maxHeartbeats 2000000 in
theorem heldHead_c (x : Head) (cs : List Value) (k : Int) (w : World) (B : Nat) (ha : rHead.at_ w B (Pl.topHead x k) cs) (hB : B ≤ w.heap.size) (h0 : 1 ≤ k) (h1 : k + Pl.ctopHead x ≤ 1000000000000) :
    Calls Try.prog 18 #[.agg cs.toArray, .int .i64 k] w fun e w' => e = .returned (.int .i64 (k + Pl.ctopHead x)) ∧ Below w.heap.size w w' := by
  obtain ⟨A, n, c, rfl, g0, g1⟩ := rHead_at ha
  have hq0 := Mm.cntL_nn (cnt := Pl.cntRow) (Pl.cntRow_nn) x.Rows
  have hct : Pl.ctopHead x = (Mm.cntL Pl.cntRow) x.Rows := rfl
  rw [hct] at h1
  have HCT := Lib.hid hct
  clear hct
  have KB := Lib.hid (Mm.Blk.new w 35 [.slice A n c, .int .i64 (Pl.topHead x k).Offset])
  have HB := Lib.hid (below_new (Below.refl w.heap.size w) (.cells #[.slice A n c, .int .i64 (Pl.topHead x k).Offset] 35))
  have HG := Lib.hid (And.intro hB g0)
  clear ha g0 g1
  go_enter Try.func18, Try.ntmps18
  go_wp2_with fail
  refine (heldRowS_c x.Rows _ _ _ _ _ B (HG.out.2.keep fun b hb => HB.out.block b (Nat.lt_of_lt_of_le hb HG.out.1)) (Nat.le_trans HG.out.1 HB.out.size) (by omega) (by omega)).mono ?_
  rintro e v0 ⟨rfl, hb0⟩
  have HB := Lib.hid (below_step HB.out hb0)
  have KB := Lib.hid (KB.out.bel hb0)
  clear hb0
  go_wp2
  go_ret
  exact ⟨ret_int (by have := HCT.out; omega), HB.out⟩
set_option maxHeartbeats 2000000 in
theorem heldHouse_c (x : House) (cs : List Value) (k : Int) (w : World) (B : Nat) (ha : rHouse.at_ w B (Pl.topHouse x k) cs) (hB : B ≤ w.heap.size) (h0 : 1 ≤ k) (h1 : k + Pl.ctopHouse x ≤ 1000000000000) :
    Calls Try.prog 9 #[.agg cs.toArray, .int .i64 k] w fun e w' => e = .returned (.int .i64 (k + Pl.ctopHouse x)) ∧ Below w.heap.size w w' := by
  obtain ⟨A0, n0, c0, A1, n1, c1, A2, n2, c2, rfl, g0, g1, g2⟩ := rHouse_at ha
  have hq0 := Mm.cntL_nn (cnt := Pl.cntLog) (Pl.cntLog_nn) x.Logs
  have hq1 := Mm.cntL_nn (cnt := Pl.cntHead) (Pl.cntHead_nn) x.Heads
  have hq2 := Mm.cntL_nn (cnt := Pl.cntHead) (Pl.cntHead_nn) x.Kept
  have hct : Pl.ctopHouse x = (Mm.cntL Pl.cntLog) x.Logs + (Mm.cntL Pl.cntHead) x.Heads + (Mm.cntL Pl.cntHead) x.Kept := rfl
  rw [hct] at h1
  have HCT := Lib.hid hct
  clear hct
  have KB := Lib.hid (Mm.Blk.new w 25 [.slice A0 n0 c0, .slice A1 n1 c1, .slice A2 n2 c2])
  have HB := Lib.hid (below_new (Below.refl w.heap.size w) (.cells #[.slice A0 n0 c0, .slice A1 n1 c1, .slice A2 n2 c2] 25))
  have HG := Lib.hid (And.intro hB (And.intro g0 (And.intro g1 g2)))
  clear ha g0 g1 g2
  go_enter Try.func9, Try.ntmps9
  go_wp2_with fail
  refine (heldLogS_c x.Logs _ _ _ _ _ B (HG.out.2.1.keep fun b hb => HB.out.block b (Nat.lt_of_lt_of_le hb HG.out.1)) (Nat.le_trans HG.out.1 HB.out.size) (by omega) (by omega)).mono ?_
  rintro e v0 ⟨rfl, hb0⟩
  have HB := Lib.hid (below_step HB.out hb0)
  have KB := Lib.hid (KB.out.bel hb0)
  clear hb0
  have e0_1 := KB.out.cell (i := 1) rfl
  have e0_2 := KB.out.cell (i := 2) rfl
  go_wp2_with fail
  refine (heldHeadS_c x.Heads _ _ _ _ _ B (HG.out.2.2.1.keep fun b hb => HB.out.block b (Nat.lt_of_lt_of_le hb HG.out.1)) (Nat.le_trans HG.out.1 HB.out.size) (by omega) (by omega)).mono ?_
  rintro e v1 ⟨rfl, hb1⟩
  have HB := Lib.hid (below_step HB.out hb1)
  have KB := Lib.hid (KB.out.bel hb1)
  clear hb1
  have e1_2 := KB.out.cell (i := 2) rfl
  go_wp2_with fail
  refine (heldHeadS_c x.Kept _ _ _ _ _ B (HG.out.2.2.2.keep fun b hb => HB.out.block b (Nat.lt_of_lt_of_le hb HG.out.1)) (Nat.le_trans HG.out.1 HB.out.size) (by omega) (by omega)).mono ?_
  rintro e v2 ⟨rfl, hb2⟩
  have HB := Lib.hid (below_step HB.out hb2)
  have KB := Lib.hid (KB.out.bel hb2)
  clear hb2
  go_wp2
  go_ret
  exact ⟨ret_int (by have := HCT.out; omega), HB.out⟩
end Go.Proofs.Ytkodfflnpalbbaa

/-
  From the form's own reading of an argument to the readings of Mm: for numbers, strings, structs and slices of whatever depth. No program in sight. No conditions.
-/
namespace Go.Proofs.Ytkodfflnpalbbaa
open Go.ChangeShapes Go.WideShapes Go.RowKit Go.Deep
namespace Mm

def Opens {α : Type} (P : Program) (t : TypeId) (E : Rep α) : Prop :=
  P.cellsOf t = E.size ∧ ∀ (H : Type) (enc : TypeId × Value → H) (w : World) (base : Nat) (spare : Nat → Bool) (held : Bool) (fuel : Nat) (cs : List Value) (x : DataW H × List MemPlace),
    DataW.trod enc P w base spare held fuel t cs = some x → ∃ y, E.at_ w w.heap.size y cs

variable {P : Program} {t e : TypeId}

theorem opens_int (ht : P.underlying t = some (.int .i64)) (hc : P.cellsOf t = 1) : Opens P t int := ⟨hc, fun H enc w base spare held fuel cs x h => by
  obtain ⟨n, rfl, _, hw⟩ := DataW.trod_int ht h
  refine ⟨n, rfl, ?_⟩
  simp [Lit.wf, IntKind.min, IntKind.max, IntKind.signed, IntKind.bits] at hw
  unfold I64
  omega⟩
theorem opens_bool (ht : P.underlying t = some .bool) (hc : P.cellsOf t = 1) : Opens P t bool := ⟨hc, fun H enc w base spare held fuel cs x h => by
  obtain ⟨n, rfl, _⟩ := DataW.trod_bool ht h
  exact ⟨n, rfl, trivial⟩⟩
theorem opens_str (ht : P.underlying t = some .string) (hc : P.cellsOf t = 1) : Opens P t str := ⟨hc, fun H enc w base spare held fuel cs x h => by
  obtain ⟨n, rfl, _, hw⟩ := DataW.trod_string ht h
  exact ⟨n, rfl, hw⟩⟩
theorem opens_map {α β : Type} {E : Rep α} {F : Rep β} (h : Opens P t E) (hs : E.size = F.size) (hc : ∀ w B x cs, E.at_ w B x cs → ∃ y, F.at_ w B y cs) : Opens P t F :=
  ⟨h.1.trans hs, fun H enc w base spare held fuel cs x hx => by
    obtain ⟨y, hy⟩ := h.2 H enc w base spare held fuel cs x hx
    exact hc _ _ _ _ hy⟩
theorem opens_slice {α : Type} {E : Rep α} (ht : P.underlying t = some (.slice e)) (hc : P.cellsOf t = 1) (h0 : 0 < E.size) (hE : Opens P e E) : Opens P t (slice E e) := ⟨hc, fun H enc w base spare held fuel cs x h => by
  rcases open_slice ht h with ⟨rfl, _⟩ | ⟨a, len, cap, m, n, D, Pl, rfl, hb, hl, hm, hmm, _, hi⟩
  · exact ⟨[], none, 0, 0, rfl, SlAt.nil (Nat.zero_le _) (fun _ => rfl)⟩
  · have hle : len ≤ m := by rw [hmm]; split <;> omega
    have hex : ∀ i : Fin len, ∃ y : α, ∃ cs', E.at_ w w.heap.size y cs' ∧ cs'.length = E.size ∧ ∀ j, j < E.size → w.cell? (a.add (i.1 * E.size + j)) = cs'[j]? := by
      intro i
      obtain ⟨cs', h1, h2⟩ := hi i.1 (by have := i.2; omega)
      obtain ⟨y, hy⟩ := hE.2 H enc w base spare held n cs' _ h2
      obtain ⟨_, hln, hcell⟩ := World.cells?_some h1
      rw [hE.1] at hln hcell
      exact ⟨y, cs', hy, hln, fun j hj => by rw [← Go.Deep.add_add]; exact hcell j hj⟩
    refine ⟨List.ofFn fun i : Fin len => Classical.choose (hex i), some a, len, cap, rfl, by simp, hl, hm, (fun h => by cases h), fun i y hy => ?_⟩
    have hil : i < len := by
      have := (List.getElem?_eq_some_iff.1 hy).1
      simpa using this
    obtain ⟨cs', h1, h2, h3⟩ := Classical.choose_spec (hex ⟨i, hil⟩)
    have hey : Classical.choose (hex ⟨i, hil⟩) = y := by
      rw [List.getElem?_ofFn] at hy
      simpa [hil] using hy
    rw [hey] at h1
    obtain ⟨cs0, _, h20, h30⟩ := Classical.choose_spec (hex ⟨0, by omega⟩)
    have hc0 := h30 0 h0
    rw [List.getElem?_eq_getElem (by omega)] at hc0
    obtain ⟨b, off, spot⟩ := a
    have hsp : spot = none := by
      have := World.cell?_spot hc0
      simpa [Addr.add] using this
    subst hsp
    have hadd : ∀ k : Nat, (⟨b, off, none⟩ : Addr).add k = ⟨b, off + k, none⟩ := fun k => by unfold Addr.add; split <;> simp_all
    refine ⟨b, off, cs', rfl, ?_, h1, fun j u hu => ?_⟩
    · have := World.block_lt_of_cell? w _ hc0
      rw [hadd] at this
      exact this
    · have hj : j < cs'.length := (List.getElem?_eq_some_iff.1 hu).1
      have := h3 j (by omega)
      rw [hu, hadd] at this
      rw [Nat.add_assoc]
      exact this⟩

def OpensF {α : Type} (P : Program) (l : List Field) (off : Nat) (E : Rep α) : Prop :=
  ∀ (H : Type) (enc : TypeId × Value → H) (w : World) (base : Nat) (spare : Nat → Bool) (held : Bool) (n : Nat) (cs : List Value), cs.length = off + E.size →
    (∀ (i : Nat) (f : Field), l[i]? = some f → ∃ x, DataW.trod enc P w base spare held n f.type ((cs.drop f.offset).take (P.cellsOf f.type)) = some x) → ∃ y, E.at_ w w.heap.size y (cs.drop off)
theorem opensF_one {α : Type} {E : Rep α} {f : Field} {off : Nat} (ho : f.offset = off) (h : Opens P f.type E) : OpensF P [f] off E := fun H enc w base spare held n cs hl hf => by
  obtain ⟨x, hx⟩ := hf 0 f rfl
  obtain ⟨y, hy⟩ := h.2 H enc w base spare held n _ x hx
  rw [ho, h.1, List.take_of_length_le (by rw [List.length_drop]; omega)] at hy
  exact ⟨y, hy⟩
theorem opensF_cons {α β : Type} {E : Rep α} {F : Rep β} {f : Field} {l : List Field} {off : Nat} (ho : f.offset = off) (h : Opens P f.type E) (hr : OpensF P l (off + E.size) F) : OpensF P (f :: l) off (pair E F) :=
  fun H enc w base spare held n cs hl hf => by
    obtain ⟨x, hx⟩ := hf 0 f rfl
    obtain ⟨y, hy⟩ := h.2 H enc w base spare held n _ x hx
    rw [ho, h.1] at hy
    have hl' : cs.length = off + E.size + F.size := by rw [hl]; show off + (E.size + F.size) = _; omega
    obtain ⟨z, hz⟩ := hr H enc w base spare held n cs hl' (fun i g hg => hf (i + 1) g (by simpa using hg))
    refine ⟨(y, z), _, _, ?_, hy, hz⟩
    rw [← List.drop_drop, List.take_append_drop]
theorem opens_struct {α : Type} {E : Rep α} {fs : Array Field} (ht : P.underlying t = some (.struct fs)) (hc : P.cellsOf t = E.size) (h : OpensF P fs.toList 0 E) : Opens P t E := ⟨hc, fun H enc w base spare held fuel cs x hx => by
  obtain ⟨ys, n, _, _, hlen, hyl, hf⟩ := DataW.trod_struct ht hx
  have := h H enc w base spare held n cs (by rw [hlen, hc]; omega) (fun i f hi => by
    have hi' : i < fs.size := by
      have := (List.getElem?_eq_some_iff.1 hi).1
      simpa using this
    have h2 := hf i f (by rw [← Array.getElem?_toList]; exact hi)
    rw [List.getElem?_eq_getElem (by omega)] at h2
    exact ⟨_, h2⟩)
  simpa using this⟩

/-- a parameter that is a slice -/
theorem open_sl {H : Type} {enc : TypeId × Value → H} {w : World} {base : Nat} {spare : Nat → Bool} {held : Bool} {r : Reach} {b0 : Nat} {v : Value} {d : DataW H} {p : List MemPlace} {α : Type} {E : Rep α}
    (ho : Opens P t (slice E e)) (ht : P.underlying t = some (.slice e)) (hv : Value.okWide P w r b0 t v) (h : DataW.Trod enc P w base spare held t v d p) :
    ∃ A n c xs, v = .slice A n c ∧ SlAt E w w.heap.size xs A n c := by
  obtain ⟨A, n, c, rfl⟩ := okWide_slice ht hv
  obtain ⟨fuel, hf⟩ := h
  obtain ⟨xs, A', n', c', he, hx⟩ := ho.2 H enc w base spare held fuel _ _ hf
  simp [Value.cells] at he
  obtain ⟨rfl, rfl, rfl⟩ := he
  exact ⟨A, n, c, xs, rfl, hx⟩
/-- a parameter that is a struct -/
theorem open_st {H : Type} {enc : TypeId × Value → H} {w : World} {base : Nat} {spare : Nat → Bool} {held : Bool} {r : Reach} {b0 : Nat} {v : Value} {d : DataW H} {p : List MemPlace} {α : Type} {E : Rep α} {fs : Array Field}
    (ho : Opens P t E) (ht : P.underlying t = some (.struct fs)) (hv : Value.okWide P w r b0 t v) (h : DataW.Trod enc P w base spare held t v d p) :
    ∃ (cs : List Value) (x : α), v = .agg cs.toArray ∧ E.at_ w w.heap.size x cs := by
  obtain ⟨cs, rfl, _⟩ := okWide_struct ht hv
  obtain ⟨fuel, hf⟩ := h
  obtain ⟨x, hx⟩ := ho.2 H enc w base spare held fuel _ _ hf
  exact ⟨cs.toList, x, by simp, hx⟩
end Mm
end Go.Proofs.Ytkodfflnpalbbaa

/-
  The laws' own types, opened. No conditions.
-/
namespace Go.Proofs.Ytkodfflnpalbbaa
theorem opens_IntS : Mm.Opens Try.prog 68 (Mm.slice Mm.int 3) := Mm.opens_slice Try.underlying68 (by kernel_rfl) (by decide) (Mm.opens_int Try.underlying3 (by kernel_rfl))
theorem opens_Say : Mm.Opens Try.prog 57 rSay :=
  Mm.opens_map (Mm.opens_struct (E := (Mm.pair Mm.str (Mm.pair Mm.int Mm.int))) Try.underlying57 (by kernel_rfl) (Mm.opensF_cons rfl (Mm.opens_str Try.underlying9 (by kernel_rfl)) (Mm.opensF_cons rfl (Mm.opens_int Try.underlying3 (by kernel_rfl)) (Mm.opensF_one rfl (Mm.opens_int Try.underlying3 (by kernel_rfl)))))) rfl
    (fun w B x cs h => by obtain ⟨_, _, rfl, ⟨rfl, h0⟩, ⟨_, _, rfl, ⟨rfl, h1⟩, ⟨rfl, h2⟩⟩⟩ := h; exact ⟨⟨x.1, x.2.1, x.2.2⟩, rfl, ⟨h0, h1, h2⟩⟩)
theorem opens_HouseStep : Mm.Opens Try.prog 59 rHouseStep :=
  Mm.opens_map (Mm.opens_struct (E := (Mm.pair Mm.int (Mm.pair Mm.int rSay))) Try.underlying59 (by kernel_rfl) (Mm.opensF_cons rfl (Mm.opens_int Try.underlying3 (by kernel_rfl)) (Mm.opensF_cons rfl (Mm.opens_int Try.underlying3 (by kernel_rfl)) (Mm.opensF_one rfl opens_Say)))) rfl
    (fun w B x cs h => by obtain ⟨_, _, rfl, ⟨rfl, h0⟩, ⟨_, _, rfl, ⟨rfl, h1⟩, ⟨rfl, h2⟩⟩⟩ := h; exact ⟨⟨x.1, x.2.1, x.2.2⟩, rfl, ⟨h0, h1, h2.1, h2.2.1, h2.2.2⟩⟩)
theorem opens_HouseStepS : Mm.Opens Try.prog 31 (Mm.slice rHouseStep 59) := Mm.opens_slice Try.underlying31 (by kernel_rfl) (by decide) opens_HouseStep
end Go.Proofs.Ytkodfflnpalbbaa
