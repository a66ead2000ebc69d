/-
  The laws' own markings of things that are owned. No conditions.
-/
import Derived.Test.YtogfhncaodaefaaWa
import Derived.Test.YtogfhncaodaefaaTy
import Derived.Test.YtogfhncaodaefaaQu
import Derived.Test.YtogfhncaodaefaaMt
import Derived.Lib.Hide
import Derived.Deep.DeepFit
namespace Go.Proofs.Ytogfhncaodaefaa
open Go.RowKit
attribute [local go_sem] und_cell
set_option maxHeartbeats 2000000 in
theorem markSampleS_c (l : List Sample) (A : Option Addr) (n c : Nat) (fp : List Nat) (k : Int) (w : World) (ho : Mm.SlOwn smp 44 w l (.slice A n c) fp) (hnd : fp.Nodup) (h0 : 1 ≤ k) (h1 : k + Mm.cntL Pl.cntSample l ≤ 1000000000000) :
    Calls Try.prog 18 #[.slice A n c, .int .i64 k] w (Mm.MkRet smp 44 Pl.mkSample Pl.cntSample w l (.slice A n c) fp k) := by
  have hn : n ≤ 9223372036854775807 := by
    obtain ⟨_, _, _, he, _, h2, h3, _⟩ := ho.form
    injection he with _ e2 e3
    subst e2; subst e3
    unfold maxLen at h3; omega
  have hlen : Hid (l.length = n) := by
    obtain ⟨_, _, _, he, h2, _⟩ := ho.form
    injection he with _ e2
    show l.length = n
    rw [e2, h2]
  have HN : Hid (∀ x : Sample, 0 ≤ Pl.cntSample x) := Pl.cntSample_nn
  have HST := Lib.hid (Mm.MkAt.start (mk := Pl.mkSample) (cnt := Pl.cntSample) (k := k) ho hnd)
  clear ho hnd
  go_enter Try.func18, Try.ntmps18
  go_wp2
  go_loopw [1, 5] (fun kk i wr => ∃ j : Nat, j ≤ n ∧ i = .int .i64 j ∧ kk = .int .i64 (k + Mm.cntL Pl.cntSample (l.take j)) ∧ Mm.MkAt smp 44 Pl.mkSample Pl.cntSample w l (.slice A n c) fp k j wr) (fun _ i _ => n - (intOf i).toNat)
  case atStart => exact ⟨0, Nat.zero_le _, rfl, by simp [Mm.cntL], HST.out⟩
  case round =>
    clear HST
    obtain ⟨j, hj, rfl, rfl, hm⟩ := hrel
    rename_i wr _
    by_cases hlt : j < n
    · obtain ⟨x, hx⟩ : ∃ x, l[j]? = some x := ⟨_, List.getElem?_eq_getElem (by have := hlen.out; omega)⟩
      have hc1 : Mm.cntL Pl.cntSample (l.take (j + 1)) = Mm.cntL Pl.cntSample (l.take j) + Pl.cntSample x := Mm.cntL_succ hx
      have hc2 := Mm.cntL_take_le HN.out l (j + 1)
      have hc3 := Mm.cntL_nn HN.out (l.take j)
      have hc4 := HN.out x
      obtain ⟨kj, hkj⟩ : ∃ kj, k + Mm.cntL Pl.cntSample (l.take j) = kj := ⟨_, rfl⟩
      rw [hkj]
      have hk0 : 1 ≤ kj := by omega
      have hk1 : kj + Pl.cntSample x ≤ 1000000000000 := by omega
      have HX := Lib.hid (And.intro hx (And.intro hkj hc1))
      obtain ⟨hchg, fp0, ho0, hnd0, hsub0⟩ := hm
      have hx0 := Mm.half_get (mk := Pl.mkSample) (cnt := Pl.cntSample) (k := k) hx
      obtain ⟨g, rfl⟩ : ∃ g, A = some ⟨g, 0, none⟩ := by
        obtain ⟨_, _, hs, _⟩ := ho0
        obtain ⟨g, cap, he, _⟩ := hs.form (by rw [Mm.half_len]; have := hlen.out; omega)
        injection he with he
        exact ⟨g, he⟩
      have hgl := ho0.olt g ho0.mem_block
      have HC0 := Lib.hid hchg
      have HO0 := Lib.hid (And.intro ho0 (And.intro hnd0 (And.intro hsub0 hx0)))
      clear hchg hx hkj hc1 hc2 hc3 hx0
      have hcx : Pl.cntSample x = 1 + 1 := rfl
      rw [hcx] at hk1 hc4
      have HCX := Lib.hid hcx
      clear hcx hc4
      obtain ⟨d0_0, d0_1⟩ := smp_ocell HO0.out.1 HO0.out.2.1 HO0.out.2.2.2
      have e0_0 := HO0.out.1.frozen (j * 2)
      have e0_1 := HO0.out.1.frozen (j * 2 + 1)
      have st0 := HO0.out.1.store HO0.out.2.1 (j := 0) (x' := ⟨kj, x.Value⟩) (u := .int .i64 (kj)) HO0.out.2.2.2 (by decide) (fun cs fx hh => by obtain ⟨rfl, ⟨g0, g1⟩, rfl⟩ := hh; exact ⟨rfl, ⟨(by unfold Mm.I64; first | omega | (dsimp only; omega)), g1⟩, rfl⟩)
      have HO0s := Lib.hid (And.intro st0 (And.intro HO0.out.2.1 (And.intro HO0.out.2.2.1 (show ((Mm.half Pl.mkSample Pl.cntSample l k j).set j ⟨kj, x.Value⟩)[j]? = some ⟨kj, x.Value⟩ from List.getElem?_set_self (by rw [Mm.half_len]; have := hlen.out; omega)))))
      have HC0s := Lib.hid (HC0.out.setCell (p := ⟨g, j * 2, none⟩) (HO0.out.2.2.1 g HO0.out.1.mem_block) (.int .i64 (kj)))
      clear st0
      have st1 := HO0s.out.1.store HO0s.out.2.1 (j := 1) (x' := ⟨kj, (kj + 1)⟩) (u := .int .i64 ((kj + 1))) HO0s.out.2.2.2 (by decide) (fun cs fx hh => by obtain ⟨rfl, ⟨g0, g1⟩, rfl⟩ := hh; exact ⟨rfl, ⟨g0, (by unfold Mm.I64; first | omega | (dsimp only; omega))⟩, rfl⟩)
      rw [List.set_set] at st1
      have HO1s := Lib.hid (And.intro st1 (And.intro HO0s.out.2.1 (And.intro HO0s.out.2.2.1 (show ((Mm.half Pl.mkSample Pl.cntSample l k j).set j ⟨kj, (kj + 1)⟩)[j]? = some ⟨kj, (kj + 1)⟩ from List.getElem?_set_self (by rw [Mm.half_len]; have := hlen.out; omega)))))
      have HC1s := Lib.hid (HC0s.out.setCell (p := ⟨g, j * 2 + 1, none⟩) (HO0s.out.2.2.1 g HO0s.out.1.mem_block) (.int .i64 ((kj + 1))))
      clear st1
      go_wp2
      go_roundw
      case rel =>
        refine ⟨j + 1, by omega, by go_num, ?_, ?_⟩
        · have h3 := HX.out.2.1; have h4 := HX.out.2.2; have h5 := HCX.out
          rw [h4]
          show Value.int .i64 _ = Value.int .i64 _
          congr 1
          omega
        · have h3 := HX.out.2.1
          refine ⟨HC1s.out, _, ?_, HO1s.out.2.1, HO1s.out.2.2.1⟩
          rw [← Mm.half_set HX.out.1, h3]
          exact HO1s.out.1
      case measure => simp [intOf]; omega
    · have HM := Lib.hid hm
      go_wp2
      go_ret
      exact HM.out.done (by have := hlen.out; omega)
set_option maxHeartbeats 2000000 in
theorem markWindowS_c (l : List Window) (A : Option Addr) (n c : Nat) (fp : List Nat) (k : Int) (w : World) (ho : Mm.SlOwn rWindow 53 w l (.slice A n c) fp) (hnd : fp.Nodup) (h0 : 1 ≤ k) (h1 : k + Mm.cntL Pl.cntWindow l ≤ 1000000000000) :
    Calls Try.prog 27 #[.slice A n c, .int .i64 k] w (Mm.MkRet rWindow 53 Pl.mkWindow Pl.cntWindow w l (.slice A n c) fp k) := by
  have hn : n ≤ 9223372036854775807 := by
    obtain ⟨_, _, _, he, _, h2, h3, _⟩ := ho.form
    injection he with _ e2 e3
    subst e2; subst e3
    unfold maxLen at h3; omega
  have hlen : Hid (l.length = n) := by
    obtain ⟨_, _, _, he, h2, _⟩ := ho.form
    injection he with _ e2
    show l.length = n
    rw [e2, h2]
  have HN : Hid (∀ x : Window, 0 ≤ Pl.cntWindow x) := Pl.cntWindow_nn
  have HST := Lib.hid (Mm.MkAt.start (mk := Pl.mkWindow) (cnt := Pl.cntWindow) (k := k) ho hnd)
  clear ho hnd
  go_enter Try.func27, Try.ntmps27
  go_wp2
  go_loopw [1, 5] (fun kk i wr => ∃ j : Nat, j ≤ n ∧ i = .int .i64 j ∧ kk = .int .i64 (k + Mm.cntL Pl.cntWindow (l.take j)) ∧ Mm.MkAt rWindow 53 Pl.mkWindow Pl.cntWindow w l (.slice A n c) fp k j wr) (fun _ i _ => n - (intOf i).toNat)
  case atStart => exact ⟨0, Nat.zero_le _, rfl, by simp [Mm.cntL], HST.out⟩
  case round =>
    clear HST
    obtain ⟨j, hj, rfl, rfl, hm⟩ := hrel
    rename_i wr _
    by_cases hlt : j < n
    · obtain ⟨x, hx⟩ : ∃ x, l[j]? = some x := ⟨_, List.getElem?_eq_getElem (by have := hlen.out; omega)⟩
      have hc1 : Mm.cntL Pl.cntWindow (l.take (j + 1)) = Mm.cntL Pl.cntWindow (l.take j) + Pl.cntWindow x := Mm.cntL_succ hx
      have hc2 := Mm.cntL_take_le HN.out l (j + 1)
      have hc3 := Mm.cntL_nn HN.out (l.take j)
      have hc4 := HN.out x
      obtain ⟨kj, hkj⟩ : ∃ kj, k + Mm.cntL Pl.cntWindow (l.take j) = kj := ⟨_, rfl⟩
      rw [hkj]
      have hk0 : 1 ≤ kj := by omega
      have hk1 : kj + Pl.cntWindow x ≤ 1000000000000 := by omega
      have HX := Lib.hid (And.intro hx (And.intro hkj hc1))
      obtain ⟨hchg, fp0, ho0, hnd0, hsub0⟩ := hm
      have hx0 := Mm.half_get (mk := Pl.mkWindow) (cnt := Pl.cntWindow) (k := k) hx
      obtain ⟨g, rfl⟩ : ∃ g, A = some ⟨g, 0, none⟩ := by
        obtain ⟨_, _, hs, _⟩ := ho0
        obtain ⟨g, cap, he, _⟩ := hs.form (by rw [Mm.half_len]; have := hlen.out; omega)
        injection he with he
        exact ⟨g, he⟩
      have hgl := ho0.olt g ho0.mem_block
      have HC0 := Lib.hid hchg
      have HO0 := Lib.hid (And.intro ho0 (And.intro hnd0 (And.intro hsub0 hx0)))
      clear hchg hx hkj hc1 hc2 hc3 hx0
      have hcx : Pl.cntWindow x = 1 + 1 + 1 + 1 + 1 := rfl
      rw [hcx] at hk1 hc4
      have HCX := Lib.hid hcx
      clear hcx hc4
      obtain ⟨d0_0, d0_1, d0_2, d0_3, d0_4⟩ := rWindow_ocell HO0.out.1 HO0.out.2.1 HO0.out.2.2.2
      have e0_0 := HO0.out.1.frozen (j * 5)
      have e0_1 := HO0.out.1.frozen (j * 5 + 1)
      have e0_2 := HO0.out.1.frozen (j * 5 + 2)
      have e0_3 := HO0.out.1.frozen (j * 5 + 3)
      have e0_4 := HO0.out.1.frozen (j * 5 + 4)
      have st0 := HO0.out.1.store HO0.out.2.1 (j := 0) (x' := ⟨kj, x.First, x.Last, x.Count, x.Rise⟩) (u := .int .i64 (kj)) HO0.out.2.2.2 (by decide) (fun cs fx hh => by obtain ⟨rfl, ⟨g0, g1, g2, g3, g4⟩, rfl⟩ := hh; exact ⟨rfl, ⟨(by unfold Mm.I64; first | omega | (dsimp only; omega)), g1, g2, g3, g4⟩, rfl⟩)
      have HO0s := Lib.hid (And.intro st0 (And.intro HO0.out.2.1 (And.intro HO0.out.2.2.1 (show ((Mm.half Pl.mkWindow Pl.cntWindow l k j).set j ⟨kj, x.First, x.Last, x.Count, x.Rise⟩)[j]? = some ⟨kj, x.First, x.Last, x.Count, x.Rise⟩ from List.getElem?_set_self (by rw [Mm.half_len]; have := hlen.out; omega)))))
      have HC0s := Lib.hid (HC0.out.setCell (p := ⟨g, j * 5, none⟩) (HO0.out.2.2.1 g HO0.out.1.mem_block) (.int .i64 (kj)))
      clear st0
      have st1 := HO0s.out.1.store HO0s.out.2.1 (j := 1) (x' := ⟨kj, (kj + 1), x.Last, x.Count, x.Rise⟩) (u := .int .i64 ((kj + 1))) HO0s.out.2.2.2 (by decide) (fun cs fx hh => by obtain ⟨rfl, ⟨g0, g1, g2, g3, g4⟩, rfl⟩ := hh; exact ⟨rfl, ⟨g0, (by unfold Mm.I64; first | omega | (dsimp only; omega)), g2, g3, g4⟩, rfl⟩)
      rw [List.set_set] at st1
      have HO1s := Lib.hid (And.intro st1 (And.intro HO0s.out.2.1 (And.intro HO0s.out.2.2.1 (show ((Mm.half Pl.mkWindow Pl.cntWindow l k j).set j ⟨kj, (kj + 1), x.Last, x.Count, x.Rise⟩)[j]? = some ⟨kj, (kj + 1), x.Last, x.Count, x.Rise⟩ from List.getElem?_set_self (by rw [Mm.half_len]; have := hlen.out; omega)))))
      have HC1s := Lib.hid (HC0s.out.setCell (p := ⟨g, j * 5 + 1, none⟩) (HO0s.out.2.2.1 g HO0s.out.1.mem_block) (.int .i64 ((kj + 1))))
      clear st1
      have st2 := HO1s.out.1.store HO1s.out.2.1 (j := 2) (x' := ⟨kj, (kj + 1), ((kj + 1) + 1), x.Count, x.Rise⟩) (u := .int .i64 (((kj + 1) + 1))) HO1s.out.2.2.2 (by decide) (fun cs fx hh => by obtain ⟨rfl, ⟨g0, g1, g2, g3, g4⟩, rfl⟩ := hh; exact ⟨rfl, ⟨g0, g1, (by unfold Mm.I64; first | omega | (dsimp only; omega)), g3, g4⟩, rfl⟩)
      rw [List.set_set] at st2
      have HO2s := Lib.hid (And.intro st2 (And.intro HO1s.out.2.1 (And.intro HO1s.out.2.2.1 (show ((Mm.half Pl.mkWindow Pl.cntWindow l k j).set j ⟨kj, (kj + 1), ((kj + 1) + 1), x.Count, x.Rise⟩)[j]? = some ⟨kj, (kj + 1), ((kj + 1) + 1), x.Count, x.Rise⟩ from List.getElem?_set_self (by rw [Mm.half_len]; have := hlen.out; omega)))))
      have HC2s := Lib.hid (HC1s.out.setCell (p := ⟨g, j * 5 + 2, none⟩) (HO1s.out.2.2.1 g HO1s.out.1.mem_block) (.int .i64 (((kj + 1) + 1))))
      clear st2
      have st3 := HO2s.out.1.store HO2s.out.2.1 (j := 3) (x' := ⟨kj, (kj + 1), ((kj + 1) + 1), (((kj + 1) + 1) + 1), x.Rise⟩) (u := .int .i64 ((((kj + 1) + 1) + 1))) HO2s.out.2.2.2 (by decide) (fun cs fx hh => by obtain ⟨rfl, ⟨g0, g1, g2, g3, g4⟩, rfl⟩ := hh; exact ⟨rfl, ⟨g0, g1, g2, (by unfold Mm.I64; first | omega | (dsimp only; omega)), g4⟩, rfl⟩)
      rw [List.set_set] at st3
      have HO3s := Lib.hid (And.intro st3 (And.intro HO2s.out.2.1 (And.intro HO2s.out.2.2.1 (show ((Mm.half Pl.mkWindow Pl.cntWindow l k j).set j ⟨kj, (kj + 1), ((kj + 1) + 1), (((kj + 1) + 1) + 1), x.Rise⟩)[j]? = some ⟨kj, (kj + 1), ((kj + 1) + 1), (((kj + 1) + 1) + 1), x.Rise⟩ from List.getElem?_set_self (by rw [Mm.half_len]; have := hlen.out; omega)))))
      have HC3s := Lib.hid (HC2s.out.setCell (p := ⟨g, j * 5 + 3, none⟩) (HO2s.out.2.2.1 g HO2s.out.1.mem_block) (.int .i64 ((((kj + 1) + 1) + 1))))
      clear st3
      have st4 := HO3s.out.1.store HO3s.out.2.1 (j := 4) (x' := ⟨kj, (kj + 1), ((kj + 1) + 1), (((kj + 1) + 1) + 1), ((((kj + 1) + 1) + 1) + 1)⟩) (u := .int .i64 (((((kj + 1) + 1) + 1) + 1))) HO3s.out.2.2.2 (by decide) (fun cs fx hh => by obtain ⟨rfl, ⟨g0, g1, g2, g3, g4⟩, rfl⟩ := hh; exact ⟨rfl, ⟨g0, g1, g2, g3, (by unfold Mm.I64; first | omega | (dsimp only; omega))⟩, rfl⟩)
      rw [List.set_set] at st4
      have HO4s := Lib.hid (And.intro st4 (And.intro HO3s.out.2.1 (And.intro HO3s.out.2.2.1 (show ((Mm.half Pl.mkWindow Pl.cntWindow l k j).set j ⟨kj, (kj + 1), ((kj + 1) + 1), (((kj + 1) + 1) + 1), ((((kj + 1) + 1) + 1) + 1)⟩)[j]? = some ⟨kj, (kj + 1), ((kj + 1) + 1), (((kj + 1) + 1) + 1), ((((kj + 1) + 1) + 1) + 1)⟩ from List.getElem?_set_self (by rw [Mm.half_len]; have := hlen.out; omega)))))
      have HC4s := Lib.hid (HC3s.out.setCell (p := ⟨g, j * 5 + 4, none⟩) (HO3s.out.2.2.1 g HO3s.out.1.mem_block) (.int .i64 (((((kj + 1) + 1) + 1) + 1))))
      clear st4
      go_wp2
      go_roundw
      case rel =>
        refine ⟨j + 1, by omega, by go_num, ?_, ?_⟩
        · have h3 := HX.out.2.1; have h4 := HX.out.2.2; have h5 := HCX.out
          rw [h4]
          show Value.int .i64 _ = Value.int .i64 _
          congr 1
          omega
        · have h3 := HX.out.2.1
          refine ⟨HC4s.out, _, ?_, HO4s.out.2.1, HO4s.out.2.2.1⟩
          rw [← Mm.half_set HX.out.1, h3]
          exact HO4s.out.1
      case measure => simp [intOf]; omega
    · have HM := Lib.hid hm
      go_wp2
      go_ret
      exact HM.out.done (by have := hlen.out; omega)
end Go.Proofs.Ytogfhncaodaefaa
