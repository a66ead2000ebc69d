/-
  Joined texts, in build order: B1, Sw, Rs, B2, B3, B4, B6, B7, Wc, B5, B9, Cs, B8. Each part says what it proves; no conditions beyond those that a part names.
-/
import Derived.Test.YtpmeagchkcffoaaZ01
import Derived.Test.YtpmeagchkcffoaaZ02
import Derived.Test.YtpmeagchkcffoaaZ03
import Derived.Deep.RegionLaw
import Derived.Deep.LoopGhost
import Derived.Deep.DeepCutAuto
import Derived.Deep.CutBlock
import Derived.Lib.Hide
import Derived.WalkSpells
/-
  The law's marking of a bank whose ways may begin within their blocks. No conditions.
-/
namespace Go.Proofs.Ytpmeagchkcffoaa
open Go.RowKit
attribute [local go_sem] und_cell
theorem Mm.OffOwn.store {w : World} {xs : List Int} {A : Option Addr} {n c j : Nat} {fp : List Nat} {x0 y : Int} (h : Mm.OffOwn w xs (.slice A n c) fp) (hj : xs[j]? = some x0) (hy : Mm.I64 y) :
    ∃ g o, A = some ⟨g, o, none⟩ ∧ g ∈ fp ∧ w.cell? ⟨g, o + j, none⟩ = some (.int .i64 x0) ∧ w.frozen? ⟨g, o + j, none⟩ = false ∧ Mm.OffOwn (w.setCell ⟨g, o + j, none⟩ (.int .i64 y)) (xs.set j y) (.slice A n c) fp := by
  rcases h with ⟨_, rfl, _⟩ | ⟨g, o, n', c', cs, hv, rfl, h⟩
  · simp at hj
  · injection hv with e1 e2 e3
    subst e1 e2 e3
    have hl := (List.getElem?_eq_some_iff.1 hj).1
    have h1 := h.len
    have h2 := h.nc
    have h3 := h.room
    refine ⟨g, o, rfl, by simp, h.blk.cell (h.val j x0 hj).1, h.blk.frozen _, .inr ⟨g, o, n, c, cs.set (o + j) (.int .i64 y), rfl, rfl, h.blk.set_ _ _, by rw [List.length_set]; exact h3, h2, h.max, by rw [List.length_set]; exact h1, fun i z hz => ?_⟩⟩
    by_cases hi : j = i
    · subst hi
      rw [List.getElem?_set_self hl] at hz
      injection hz with hz
      subst hz
      exact ⟨List.getElem?_set_self (by omega), hy⟩
    · rw [List.getElem?_set_ne hi] at hz
      rw [List.getElem?_set_ne (by omega)]
      exact h.val i z hz
theorem way_ocell {w : World} {e : TypeId} {xs : List (List Int)} {g n c i : Nat} {x : (List Int)} {fp : List Nat} (h : Mm.SlOwn Mm.way e w xs (.slice (some ⟨g, 0, none⟩) n c) fp) (hnd : fp.Nodup) (hi : xs[i]? = some x) : ∃ A' n' c', w.cell? ⟨g, i, none⟩ = some (.slice A' n' c') := by
  obtain ⟨cs, fx, hown, _, _, hc, _⟩ := h.inner hnd hi
  obtain ⟨v', rfl, ho⟩ := hown
  obtain ⟨A', n', c', rfl, _⟩ := ho.form
  exact ⟨A', n', c', (by have e0 := hc 0 _ rfl; rwa [show i * Mm.way.size + 0 = i by show i * 1 + 0 = i; omega] at e0)⟩
def Mm.MkRetO (w : World) (l : List Int) (v : Value) (fp : List Nat) (k : Int) (e : Ending) (w' : World) : Prop :=
  e = .returned (.int .i64 (k + Mm.cntL Pl.cnt1 l)) ∧ Mm.Chg fp w w' ∧ ∃ fp', Mm.OffOwn w' (Mm.mkL Pl.mkInt Pl.cnt1 l k) v fp' ∧ fp'.Nodup ∧ ∀ b, b ∈ fp' → b ∈ fp
set_option maxHeartbeats 2000000 in
theorem markIntSO_c (l : List Int) (A : Option Addr) (n c : Nat) (fp : List Nat) (k : Int) (w : World) (ho : Mm.OffOwn w l (.slice A n c) fp) (hnd : fp.Nodup) (h0 : 1 ≤ k) (h1 : k + Mm.cntL Pl.cnt1 l ≤ 1000000000000) :
    Calls Try.prog 14 #[.slice A n c, .int .i64 k] w (Mm.MkRetO w l (.slice A n c) fp k) := by
  have hn : n ≤ 9223372036854775807 := by
    obtain ⟨_, _, _, he, _, h2, h3, _⟩ := ho.form
    injection he with _ e2 e3
    subst e2; subst e3
    unfold maxLen at h3; omega
  have hlen : Hid (l.length = n) := by
    obtain ⟨_, _, _, he, h2, _⟩ := ho.form
    injection he with _ e2
    show l.length = n
    rw [e2, h2]
  have HN : Hid (∀ x : Int, 0 ≤ Pl.cnt1 x) := Pl.cnt1_nn
  have HND := Lib.hid hnd
  have HST : Hid (Mm.Chg fp w w ∧ Mm.OffOwn w (Mm.half Pl.mkInt Pl.cnt1 l k 0) (.slice A n c) fp) := Lib.hid ⟨Mm.Chg.refl _ _, by rw [show Mm.half Pl.mkInt Pl.cnt1 l k 0 = l by simp [Mm.half, Mm.mkL]]; exact ho⟩
  clear ho hnd
  go_enter Try.func14, Try.ntmps14
  go_wp2
  go_loopw [1, 5] (fun kk i wr => ∃ j : Nat, j ≤ n ∧ i = .int .i64 j ∧ kk = .int .i64 (k + Mm.cntL Pl.cnt1 (l.take j)) ∧ Hid (Mm.Chg fp w wr ∧ Mm.OffOwn wr (Mm.half Pl.mkInt Pl.cnt1 l k j) (.slice A n c) fp)) (fun _ i _ => n - (intOf i).toNat)
  case atStart => exact ⟨0, Nat.zero_le _, rfl, by simp [Mm.cntL], HST⟩
  case round =>
    clear HST
    obtain ⟨j, hj, rfl, rfl, hm⟩ := hrel
    rename_i wr _
    by_cases hlt : j < n
    · obtain ⟨x, hx⟩ : ∃ x, l[j]? = some x := ⟨_, List.getElem?_eq_getElem (by have := hlen.out; omega)⟩
      have hc1 : Mm.cntL Pl.cnt1 (l.take (j + 1)) = Mm.cntL Pl.cnt1 (l.take j) + Pl.cnt1 x := Mm.cntL_succ hx
      have hc2 := Mm.cntL_take_le HN.out l (j + 1)
      have hc3 := Mm.cntL_nn HN.out (l.take j)
      have hcx : Pl.cnt1 x = 1 := rfl
      obtain ⟨kj, hkj⟩ : ∃ kj, k + Mm.cntL Pl.cnt1 (l.take j) = kj := ⟨_, rfl⟩
      rw [hkj]
      have hk0 : 1 ≤ kj := by omega
      have hk1 : kj + 1 ≤ 1000000000000 := by omega
      have HX := Lib.hid (And.intro hx (And.intro hkj hc1))
      have hx0 := Mm.half_get (mk := Pl.mkInt) (cnt := Pl.cnt1) (k := k) hx
      obtain ⟨g, o, rfl, hg, d0, e0, hst⟩ := hm.out.2.store (y := kj) hx0 (by unfold Mm.I64; omega)
      have HNW := Lib.hid (And.intro (hm.out.1.setCell (p := ⟨g, o + j, none⟩) hg (.int .i64 kj)) hst)
      clear hx hkj hc1 hc2 hc3 hx0 hm hst hcx
      go_wp2
      go_roundw
      case rel =>
        refine ⟨j + 1, by omega, by go_num, ?_, ?_⟩
        · have h3 := HX.out.2.1; have h4 := HX.out.2.2
          rw [h4]
          show Value.int .i64 _ = Value.int .i64 _
          congr 1
          have : Pl.cnt1 x = 1 := rfl
          omega
        · have h3 := HX.out.2.1
          refine ⟨HNW.out.1, ?_⟩
          rw [← Mm.half_set HX.out.1, h3]
          exact HNW.out.2
      case measure => simp [intOf]; omega
    · have HM := Lib.hid hm
      obtain rfl : j = n := by omega
      have HE : Hid (l.take j = l) := Lib.hid (List.take_of_length_le (by have := hlen.out; omega))
      have HE2 : Hid (Mm.half Pl.mkInt Pl.cnt1 l k j = Mm.mkL Pl.mkInt Pl.cnt1 l k) := Lib.hid (by unfold Mm.half; rw [List.drop_of_length_le (by have := hlen.out; omega), List.append_nil, HE.out])
      go_wp2
      go_ret
      exact ⟨ret_int (by rw [HE.out]), HM.out.out.1, fp, by rw [← HE2.out]; exact HM.out.out.2, HND.out, fun b hb => hb⟩
set_option maxHeartbeats 2000000 in
theorem markIntSSW_c (l : List (List Int)) (A : Option Addr) (n c : Nat) (fp : List Nat) (k : Int) (w : World) (ho : Mm.SlOwn Mm.way 22 w l (.slice A n c) fp) (hnd : fp.Nodup) (h0 : 1 ≤ k) (h1 : k + Mm.cntL (Mm.cntL Pl.cnt1) l ≤ 1000000000000) :
    Calls Try.prog 38 #[.slice A n c, .int .i64 k] w (Mm.MkRet Mm.way 22 (Mm.mkL Pl.mkInt Pl.cnt1) (Mm.cntL Pl.cnt1) w l (.slice A n c) fp k) := by
  have hn : n ≤ 9223372036854775807 := by
    obtain ⟨_, _, _, he, _, h2, h3, _⟩ := ho.form
    injection he with _ e2 e3
    subst e2; subst e3
    unfold maxLen at h3; omega
  have hlen : Hid (l.length = n) := by
    obtain ⟨_, _, _, he, h2, _⟩ := ho.form
    injection he with _ e2
    show l.length = n
    rw [e2, h2]
  have HN : Hid (∀ x : (List Int), 0 ≤ (Mm.cntL Pl.cnt1) x) := Mm.cntL_nn (cnt := Pl.cnt1) (Pl.cnt1_nn)
  have HST := Lib.hid (Mm.MkAt.start (mk := (Mm.mkL Pl.mkInt Pl.cnt1)) (cnt := (Mm.cntL Pl.cnt1)) (k := k) ho hnd)
  clear ho hnd
  go_enter Try.func38, Try.ntmps38
  go_wp2
  go_loopw [1, 5] (fun kk i wr => ∃ j : Nat, j ≤ n ∧ i = .int .i64 j ∧ kk = .int .i64 (k + Mm.cntL (Mm.cntL Pl.cnt1) (l.take j)) ∧ Mm.MkAt Mm.way 22 (Mm.mkL Pl.mkInt Pl.cnt1) (Mm.cntL Pl.cnt1) w l (.slice A n c) fp k j wr) (fun _ i _ => n - (intOf i).toNat)
  case atStart => exact ⟨0, Nat.zero_le _, rfl, by simp [Mm.cntL], HST.out⟩
  case round =>
    clear HST
    obtain ⟨j, hj, rfl, rfl, hm⟩ := hrel
    rename_i wr _
    by_cases hlt : j < n
    · obtain ⟨x, hx⟩ : ∃ x, l[j]? = some x := ⟨_, List.getElem?_eq_getElem (by have := hlen.out; omega)⟩
      have hc1 : Mm.cntL (Mm.cntL Pl.cnt1) (l.take (j + 1)) = Mm.cntL (Mm.cntL Pl.cnt1) (l.take j) + (Mm.cntL Pl.cnt1) x := Mm.cntL_succ hx
      have hc2 := Mm.cntL_take_le HN.out l (j + 1)
      have hc3 := Mm.cntL_nn HN.out (l.take j)
      have hc4 := HN.out x
      obtain ⟨kj, hkj⟩ : ∃ kj, k + Mm.cntL (Mm.cntL Pl.cnt1) (l.take j) = kj := ⟨_, rfl⟩
      rw [hkj]
      have hk0 : 1 ≤ kj := by omega
      have hk1 : kj + (Mm.cntL Pl.cnt1) x ≤ 1000000000000 := by omega
      have HX := Lib.hid (And.intro hx (And.intro hkj hc1))
      obtain ⟨hchg, fp0, ho0, hnd0, hsub0⟩ := hm
      have hx0 := Mm.half_get (mk := (Mm.mkL Pl.mkInt Pl.cnt1)) (cnt := (Mm.cntL Pl.cnt1)) (k := k) hx
      obtain ⟨g, rfl⟩ : ∃ g, A = some ⟨g, 0, none⟩ := by
        obtain ⟨_, _, hs, _⟩ := ho0
        obtain ⟨g, cap, he, _⟩ := hs.form (by rw [Mm.half_len]; have := hlen.out; omega)
        injection he with he
        exact ⟨g, he⟩
      have hgl := ho0.olt g ho0.mem_block
      have HC0 := Lib.hid hchg
      have HO0 := Lib.hid (And.intro ho0 (And.intro hnd0 (And.intro hsub0 hx0)))
      clear hchg hx hkj hc1 hc2 hc3 hx0
      have hcx : (Mm.cntL Pl.cnt1) x = (Mm.cntL Pl.cnt1) x := rfl
      have HCX := Lib.hid hcx
      clear hcx
      obtain ⟨P0, p0, q0, d0_0⟩ := way_ocell HO0.out.1 HO0.out.2.1 HO0.out.2.2.2
      have e0_0 := HO0.out.1.frozen (j)
      obtain ⟨cs0, fx0, hox0, hnx0, hsx0, hcx0, hnext0⟩ := HO0.out.1.inner HO0.out.2.1 HO0.out.2.2.2
      obtain ⟨vv0, rfl, hoi0⟩ := hox0
      obtain ⟨Pi0, pi0, qi0, rfl, -⟩ := hoi0.form
      clear d0_0
      have dd0 := Mm.cell_sp (a' := j) (hcx0 0 _ rfl) (show j * (Mm.way).size + 0 = j from (by show j * 1 + 0 = j; omega))
      have HI0 := Lib.hid (And.intro hoi0 (And.intro hnx0 (And.intro hsx0 hnext0)))
      clear hoi0 hnx0 hsx0 hnext0 hcx0
      go_wp2_with fail
      refine (markIntSO_c x _ _ _ _ _ _ HI0.out.1 HI0.out.2.1 (by omega) (by omega)).mono ?_
      rintro e v0 ⟨rfl, hch0, fn0, ho0', hnd0', hsub0'⟩
      obtain ⟨fo0, hof0, hnf0, hsf0⟩ := HI0.out.2.2.2 v0 ((Mm.mkL Pl.mkInt Pl.cnt1) x kj) fn0 hch0 (⟨_, rfl, ho0'⟩) hnd0' hsub0'
      have HO0s := Lib.hid (And.intro hof0 (And.intro hnf0 (And.intro (fun b hb => HO0.out.2.2.1 b (hsf0 b hb)) (show ((Mm.half (Mm.mkL Pl.mkInt Pl.cnt1) (Mm.cntL Pl.cnt1) l k j).set j ((Mm.mkL Pl.mkInt Pl.cnt1) x kj))[j]? = some ((Mm.mkL Pl.mkInt Pl.cnt1) x kj) from List.getElem?_set_self (by rw [Mm.half_len]; have := hlen.out; omega)))))
      have HC0s := Lib.hid (HC0.out.trans (hch0.more (fun b hb => HO0.out.2.2.1 b (HI0.out.2.2.1 b hb).1)))
      clear hch0 ho0' hnd0' hsub0' hof0 hnf0 hsf0
      obtain ⟨Pn0, pn0, qn0, dn0_0⟩ := way_ocell HO0s.out.1 HO0s.out.2.1 HO0s.out.2.2.2
      have en0_0 := HO0s.out.1.frozen (j)
      go_wp2
      go_roundw
      case rel =>
        refine ⟨j + 1, by omega, by go_num, ?_, ?_⟩
        · have h3 := HX.out.2.1; have h4 := HX.out.2.2; have h5 := HCX.out
          rw [h4]
          show Value.int .i64 _ = Value.int .i64 _
          congr 1
          omega
        · have h3 := HX.out.2.1
          refine ⟨HC0s.out, _, ?_, HO0s.out.2.1, HO0s.out.2.2.1⟩
          rw [← Mm.half_set HX.out.1, h3]
          exact HO0s.out.1
      case measure => simp [intOf]; omega
    · have HM := Lib.hid hm
      go_wp2
      go_ret
      exact HM.out.done (by have := hlen.out; omega)
def rBankW : Mm.Rep Bank := Mm.iso (fun x => (x.Coins, (x.Ways, (x.Kept, (x.Heard, x.Found))))) (Mm.pair ints (Mm.pair (Mm.slice Mm.way 22) (Mm.pair ints (Mm.pair boolss intss))))
theorem rBankW_at {w : World} {B : Nat} {x : Bank} {cs : List Value} (h : rBankW.at_ w B x cs) : ∃ A0 n0 c0 A1 n1 c1 A2 n2 c2 A3 n3 c3 A4 n4 c4, cs = [.slice A0 n0 c0, .slice A1 n1 c1, .slice A2 n2 c2, .slice A3 n3 c3, .slice A4 n4 c4] ∧ Mm.SlAt Mm.int w B x.Coins A0 n0 c0 ∧ Mm.SlAt ints w B x.Ways A1 n1 c1 ∧ Mm.SlAt Mm.int w B x.Kept A2 n2 c2 ∧ Mm.SlAt bools w B x.Heard A3 n3 c3 ∧ Mm.SlAt ints w B x.Found A4 n4 c4 := by
  obtain ⟨_, _, rfl, ⟨A0, n0, c0, rfl, h0⟩, ⟨_, _, rfl, ⟨A1, n1, c1, rfl, h1⟩, ⟨_, _, rfl, ⟨A2, n2, c2, rfl, h2⟩, ⟨_, _, rfl, ⟨A3, n3, c3, rfl, h3⟩, ⟨A4, n4, c4, rfl, h4⟩⟩⟩⟩⟩ := h
  exact ⟨A0, n0, c0, A1, n1, c1, A2, n2, c2, A3, n3, c3, A4, n4, c4, rfl, h0, h1, h2, h3, h4⟩
theorem rBankW_at_mk {w : World} {B : Nat} {x : Bank} {A0 : Option Addr} {n0 c0 : Nat} {A1 : Option Addr} {n1 c1 : Nat} {A2 : Option Addr} {n2 c2 : Nat} {A3 : Option Addr} {n3 c3 : Nat} {A4 : Option Addr} {n4 c4 : Nat} (g0 : Mm.SlAt Mm.int w B x.Coins A0 n0 c0) (g1 : Mm.SlAt ints w B x.Ways A1 n1 c1) (g2 : Mm.SlAt Mm.int w B x.Kept A2 n2 c2) (g3 : Mm.SlAt bools w B x.Heard A3 n3 c3) (g4 : Mm.SlAt ints w B x.Found A4 n4 c4) : rBankW.at_ w B x [.slice A0 n0 c0, .slice A1 n1 c1, .slice A2 n2 c2, .slice A3 n3 c3, .slice A4 n4 c4] :=
  ⟨_, _, rfl, ⟨A0, n0, c0, rfl, g0⟩, ⟨_, _, rfl, ⟨A1, n1, c1, rfl, g1⟩, ⟨_, _, rfl, ⟨A2, n2, c2, rfl, g2⟩, ⟨_, _, rfl, ⟨A3, n3, c3, rfl, g3⟩, ⟨A4, n4, c4, rfl, g4⟩⟩⟩⟩⟩
theorem rBankW_own {w : World} {x : Bank} {cs : List Value} {fp : List Nat} (h : rBankW.own w x cs fp) : ∃ A0 n0 c0 A1 n1 c1 A2 n2 c2 A3 n3 c3 A4 n4 c4 f0 f1 f2 f3 f4, cs = [.slice A0 n0 c0, .slice A1 n1 c1, .slice A2 n2 c2, .slice A3 n3 c3, .slice A4 n4 c4] ∧ fp = f0 ++ (f1 ++ (f2 ++ (f3 ++ f4))) ∧ Mm.SlOwn Mm.int 3 w x.Coins (.slice A0 n0 c0) f0 ∧ Mm.SlOwn Mm.way 22 w x.Ways (.slice A1 n1 c1) f1 ∧ Mm.SlOwn Mm.int 3 w x.Kept (.slice A2 n2 c2) f2 ∧ Mm.SlOwn bools 29 w x.Heard (.slice A3 n3 c3) f3 ∧ Mm.SlOwn ints 22 w x.Found (.slice A4 n4 c4) f4 := by
  obtain ⟨_, _, _, _, rfl, rfl, ⟨v0, rfl, h0⟩, ⟨_, _, _, _, rfl, rfl, ⟨v1, rfl, h1⟩, ⟨_, _, _, _, rfl, rfl, ⟨v2, rfl, h2⟩, ⟨_, _, _, _, rfl, rfl, ⟨v3, rfl, h3⟩, ⟨v4, rfl, h4⟩⟩⟩⟩⟩ := h
  obtain ⟨A0, n0, c0, rfl, _⟩ := h0.form
  obtain ⟨A1, n1, c1, rfl, _⟩ := h1.form
  obtain ⟨A2, n2, c2, rfl, _⟩ := h2.form
  obtain ⟨A3, n3, c3, rfl, _⟩ := h3.form
  obtain ⟨A4, n4, c4, rfl, _⟩ := h4.form
  exact ⟨A0, n0, c0, A1, n1, c1, A2, n2, c2, A3, n3, c3, A4, n4, c4, _, _, _, _, _, rfl, by simp, h0, h1, h2, h3, h4⟩
theorem rBankW_own_mk {w : World} {x : Bank} {A0 : Option Addr} {n0 c0 : Nat} {A1 : Option Addr} {n1 c1 : Nat} {A2 : Option Addr} {n2 c2 : Nat} {A3 : Option Addr} {n3 c3 : Nat} {A4 : Option Addr} {n4 c4 : Nat} {f0 f1 f2 f3 f4 : List Nat} (g0 : Mm.SlOwn Mm.int 3 w x.Coins (.slice A0 n0 c0) f0) (g1 : Mm.SlOwn Mm.way 22 w x.Ways (.slice A1 n1 c1) f1) (g2 : Mm.SlOwn Mm.int 3 w x.Kept (.slice A2 n2 c2) f2) (g3 : Mm.SlOwn bools 29 w x.Heard (.slice A3 n3 c3) f3) (g4 : Mm.SlOwn ints 22 w x.Found (.slice A4 n4 c4) f4) : rBankW.own w x [.slice A0 n0 c0, .slice A1 n1 c1, .slice A2 n2 c2, .slice A3 n3 c3, .slice A4 n4 c4] (f0 ++ (f1 ++ (f2 ++ (f3 ++ f4)))) := by
  have h : rBankW.own w x _ _ := ⟨_, _, _, _, rfl, rfl, ⟨_, rfl, g0⟩, ⟨_, _, _, _, rfl, rfl, ⟨_, rfl, g1⟩, ⟨_, _, _, _, rfl, rfl, ⟨_, rfl, g2⟩, ⟨_, _, _, _, rfl, rfl, ⟨_, rfl, g3⟩, ⟨_, rfl, g4⟩⟩⟩⟩⟩
  simpa using h
set_option maxHeartbeats 2000000 in
theorem markBankW_c (x : Bank) (cs : List Value) (fp : List Nat) (k : Int) (w : World) (ho : rBankW.own w x cs fp) (hnd : fp.Nodup) (h0 : 1 ≤ k) (h1 : k + Pl.ctopBank x ≤ 1000000000000) :
    Calls Try.prog 16 #[.agg cs.toArray, .int .i64 k] w (Mm.MkTop rBankW Pl.topBank Pl.ctopBank w x cs fp k) := by
  obtain ⟨A0, n0, c0, A1, n1, c1, A2, n2, c2, A3, n3, c3, A4, n4, c4, f0, f1, f2, f3, f4, rfl, rfl, g0, g1, g2, g3, g4⟩ := rBankW_own ho
  have hq0 := Mm.cntL_nn (cnt := Pl.cnt1) (Pl.cnt1_nn) x.Coins
  have hq1 := Mm.cntL_nn (cnt := (Mm.cntL Pl.cnt1)) (Mm.cntL_nn (cnt := Pl.cnt1) (Pl.cnt1_nn)) x.Ways
  have hq2 := Mm.cntL_nn (cnt := Pl.cnt1) (Pl.cnt1_nn) x.Kept
  have hq3 := Mm.cntL_nn (cnt := (Mm.cntL Pl.cnt1)) (Mm.cntL_nn (cnt := Pl.cnt1) (Pl.cnt1_nn)) x.Heard
  have hq4 := Mm.cntL_nn (cnt := (Mm.cntL Pl.cnt1)) (Mm.cntL_nn (cnt := Pl.cnt1) (Pl.cnt1_nn)) x.Found
  have hct : Pl.ctopBank x = (Mm.cntL Pl.cnt1) x.Coins + (Mm.cntL (Mm.cntL Pl.cnt1)) x.Ways + (Mm.cntL Pl.cnt1) x.Kept + (Mm.cntL (Mm.cntL Pl.cnt1)) x.Heard + (Mm.cntL (Mm.cntL Pl.cnt1)) x.Found := rfl
  rw [hct] at h1
  have HCT := Lib.hid hct
  clear hct
  have HND := Lib.hid hnd
  have KB := Lib.hid (Mm.Blk.new w 28 [.slice A0 n0 c0, .slice A1 n1 c1, .slice A2 n2 c2, .slice A3 n3 c3, .slice A4 n4 c4])
  have CH := Lib.hid (Mm.Chg.of_below (fp := f0 ++ (f1 ++ (f2 ++ (f3 ++ (f4))))) (below_new (Below.refl w.heap.size w) (.cells #[.slice A0 n0 c0, .slice A1 n1 c1, .slice A2 n2 c2, .slice A3 n3 c3, .slice A4 n4 c4] 28)))
  have hl0 := g0.olt
  have O0 := Lib.hid (g0.okeep (w' := (w.alloc (.cells #[.slice A0 n0 c0, .slice A1 n1 c1, .slice A2 n2 c2, .slice A3 n3 c3, .slice A4 n4 c4] 28))) fun b hb => Below.heap_alloc _ _ _ (hl0 b hb))
  have L0 := Lib.hid hl0
  clear hl0
  have hl1 := g1.olt
  have O1 := Lib.hid (g1.okeep (w' := (w.alloc (.cells #[.slice A0 n0 c0, .slice A1 n1 c1, .slice A2 n2 c2, .slice A3 n3 c3, .slice A4 n4 c4] 28))) fun b hb => Below.heap_alloc _ _ _ (hl1 b hb))
  have L1 := Lib.hid hl1
  clear hl1
  have hl2 := g2.olt
  have O2 := Lib.hid (g2.okeep (w' := (w.alloc (.cells #[.slice A0 n0 c0, .slice A1 n1 c1, .slice A2 n2 c2, .slice A3 n3 c3, .slice A4 n4 c4] 28))) fun b hb => Below.heap_alloc _ _ _ (hl2 b hb))
  have L2 := Lib.hid hl2
  clear hl2
  have hl3 := g3.olt
  have O3 := Lib.hid (g3.okeep (w' := (w.alloc (.cells #[.slice A0 n0 c0, .slice A1 n1 c1, .slice A2 n2 c2, .slice A3 n3 c3, .slice A4 n4 c4] 28))) fun b hb => Below.heap_alloc _ _ _ (hl3 b hb))
  have L3 := Lib.hid hl3
  clear hl3
  have hl4 := g4.olt
  have O4 := Lib.hid (g4.okeep (w' := (w.alloc (.cells #[.slice A0 n0 c0, .slice A1 n1 c1, .slice A2 n2 c2, .slice A3 n3 c3, .slice A4 n4 c4] 28))) fun b hb => Below.heap_alloc _ _ _ (hl4 b hb))
  have L4 := Lib.hid hl4
  clear hl4
  have D0_1 : Hid (∀ b, b ∈ f0 → b ∉ f1) := fun b hb hm => (List.nodup_append.1 HND.out).2.2 b hb b (List.mem_append_left _ hm) rfl
  have D0_2 : Hid (∀ b, b ∈ f0 → b ∉ f2) := fun b hb hm => (List.nodup_append.1 HND.out).2.2 b hb b (List.mem_append_right _ (List.mem_append_left _ hm)) rfl
  have D0_3 : Hid (∀ b, b ∈ f0 → b ∉ f3) := fun b hb hm => (List.nodup_append.1 HND.out).2.2 b hb b (List.mem_append_right _ (List.mem_append_right _ (List.mem_append_left _ hm))) rfl
  have D0_4 : Hid (∀ b, b ∈ f0 → b ∉ f4) := fun b hb hm => (List.nodup_append.1 HND.out).2.2 b hb b (List.mem_append_right _ (List.mem_append_right _ (List.mem_append_right _ hm))) rfl
  have D1_2 : Hid (∀ b, b ∈ f1 → b ∉ f2) := fun b hb hm => (List.nodup_append.1 (List.nodup_append.1 HND.out).2.1).2.2 b hb b (List.mem_append_left _ hm) rfl
  have D1_3 : Hid (∀ b, b ∈ f1 → b ∉ f3) := fun b hb hm => (List.nodup_append.1 (List.nodup_append.1 HND.out).2.1).2.2 b hb b (List.mem_append_right _ (List.mem_append_left _ hm)) rfl
  have D1_4 : Hid (∀ b, b ∈ f1 → b ∉ f4) := fun b hb hm => (List.nodup_append.1 (List.nodup_append.1 HND.out).2.1).2.2 b hb b (List.mem_append_right _ (List.mem_append_right _ hm)) rfl
  have D2_3 : Hid (∀ b, b ∈ f2 → b ∉ f3) := fun b hb hm => (List.nodup_append.1 (List.nodup_append.1 (List.nodup_append.1 HND.out).2.1).2.1).2.2 b hb b (List.mem_append_left _ hm) rfl
  have D2_4 : Hid (∀ b, b ∈ f2 → b ∉ f4) := fun b hb hm => (List.nodup_append.1 (List.nodup_append.1 (List.nodup_append.1 HND.out).2.1).2.1).2.2 b hb b (List.mem_append_right _ hm) rfl
  have D3_4 : Hid (∀ b, b ∈ f3 → b ∉ f4) := fun b hb hm => (List.nodup_append.1 (List.nodup_append.1 (List.nodup_append.1 (List.nodup_append.1 HND.out).2.1).2.1).2.1).2.2 b hb b hm rfl
  clear ho hnd g0 g1 g2 g3 g4
  go_enter Try.func16, Try.ntmps16
  go_wp2_with fail
  refine (markIntS_c x.Coins _ _ _ _ _ _ O0.out (List.nodup_append.1 HND.out).1 (by omega) (by omega)).mono ?_
  rintro e v0 ⟨rfl, hch0, fn0, ho0', hnd0', hsub0'⟩
  have CH := Lib.hid (CH.out.trans (hch0.more fun b hb => (List.mem_append_left _ hb)))
  have KB := Lib.hid (KB.out.keep (hch0.block _ KB.out.lt (fun hm => by have := L0.out _ hm; omega)))
  have O1 := Lib.hid (O1.out.okeep fun b hb => hch0.block b (O1.out.olt b hb) (fun hm => D0_1.out b hm hb))
  have O2 := Lib.hid (O2.out.okeep fun b hb => hch0.block b (O2.out.olt b hb) (fun hm => D0_2.out b hm hb))
  have O3 := Lib.hid (O3.out.okeep fun b hb => hch0.block b (O3.out.olt b hb) (fun hm => D0_3.out b hm hb))
  have O4 := Lib.hid (O4.out.okeep fun b hb => hch0.block b (O4.out.olt b hb) (fun hm => D0_4.out b hm hb))
  have O0 := Lib.hid ho0'
  have S0 := Lib.hid (And.intro hnd0' hsub0')
  clear hch0 ho0' hnd0' hsub0'
  have e0_1 := KB.out.cell (i := 1) rfl
  have e0_2 := KB.out.cell (i := 2) rfl
  have e0_3 := KB.out.cell (i := 3) rfl
  have e0_4 := KB.out.cell (i := 4) rfl
  go_wp2_with fail
  refine (markIntSSW_c x.Ways _ _ _ _ _ _ O1.out (List.nodup_append.1 (List.nodup_append.1 HND.out).2.1).1 (by omega) (by omega)).mono ?_
  rintro e v1 ⟨rfl, hch1, fn1, ho1', hnd1', hsub1'⟩
  have CH := Lib.hid (CH.out.trans (hch1.more fun b hb => (List.mem_append_right _ (List.mem_append_left _ hb))))
  have KB := Lib.hid (KB.out.keep (hch1.block _ KB.out.lt (fun hm => by have := L1.out _ hm; omega)))
  have O0 := Lib.hid (O0.out.okeep fun b hb => hch1.block b (O0.out.olt b hb) (fun hm => D0_1.out b (S0.out.2 b hb) hm))
  have O2 := Lib.hid (O2.out.okeep fun b hb => hch1.block b (O2.out.olt b hb) (fun hm => D1_2.out b hm hb))
  have O3 := Lib.hid (O3.out.okeep fun b hb => hch1.block b (O3.out.olt b hb) (fun hm => D1_3.out b hm hb))
  have O4 := Lib.hid (O4.out.okeep fun b hb => hch1.block b (O4.out.olt b hb) (fun hm => D1_4.out b hm hb))
  have O1 := Lib.hid ho1'
  have S1 := Lib.hid (And.intro hnd1' hsub1')
  clear hch1 ho1' hnd1' hsub1'
  have e1_2 := KB.out.cell (i := 2) rfl
  have e1_3 := KB.out.cell (i := 3) rfl
  have e1_4 := KB.out.cell (i := 4) rfl
  go_wp2_with fail
  refine (markIntS_c x.Kept _ _ _ _ _ _ O2.out (List.nodup_append.1 (List.nodup_append.1 (List.nodup_append.1 HND.out).2.1).2.1).1 (by omega) (by omega)).mono ?_
  rintro e v2 ⟨rfl, hch2, fn2, ho2', hnd2', hsub2'⟩
  have CH := Lib.hid (CH.out.trans (hch2.more fun b hb => (List.mem_append_right _ (List.mem_append_right _ (List.mem_append_left _ hb)))))
  have KB := Lib.hid (KB.out.keep (hch2.block _ KB.out.lt (fun hm => by have := L2.out _ hm; omega)))
  have O0 := Lib.hid (O0.out.okeep fun b hb => hch2.block b (O0.out.olt b hb) (fun hm => D0_2.out b (S0.out.2 b hb) hm))
  have O1 := Lib.hid (O1.out.okeep fun b hb => hch2.block b (O1.out.olt b hb) (fun hm => D1_2.out b (S1.out.2 b hb) hm))
  have O3 := Lib.hid (O3.out.okeep fun b hb => hch2.block b (O3.out.olt b hb) (fun hm => D2_3.out b hm hb))
  have O4 := Lib.hid (O4.out.okeep fun b hb => hch2.block b (O4.out.olt b hb) (fun hm => D2_4.out b hm hb))
  have O2 := Lib.hid ho2'
  have S2 := Lib.hid (And.intro hnd2' hsub2')
  clear hch2 ho2' hnd2' hsub2'
  have e2_3 := KB.out.cell (i := 3) rfl
  have e2_4 := KB.out.cell (i := 4) rfl
  go_wp2_with fail
  refine (markBoolSS_c x.Heard _ _ _ _ _ _ O3.out (List.nodup_append.1 (List.nodup_append.1 (List.nodup_append.1 (List.nodup_append.1 HND.out).2.1).2.1).2.1).1 (by omega) (by omega)).mono ?_
  rintro e v3 ⟨rfl, hch3, fn3, ho3', hnd3', hsub3'⟩
  have CH := Lib.hid (CH.out.trans (hch3.more fun b hb => (List.mem_append_right _ (List.mem_append_right _ (List.mem_append_right _ (List.mem_append_left _ hb))))))
  have KB := Lib.hid (KB.out.keep (hch3.block _ KB.out.lt (fun hm => by have := L3.out _ hm; omega)))
  have O0 := Lib.hid (O0.out.okeep fun b hb => hch3.block b (O0.out.olt b hb) (fun hm => D0_3.out b (S0.out.2 b hb) hm))
  have O1 := Lib.hid (O1.out.okeep fun b hb => hch3.block b (O1.out.olt b hb) (fun hm => D1_3.out b (S1.out.2 b hb) hm))
  have O2 := Lib.hid (O2.out.okeep fun b hb => hch3.block b (O2.out.olt b hb) (fun hm => D2_3.out b (S2.out.2 b hb) hm))
  have O4 := Lib.hid (O4.out.okeep fun b hb => hch3.block b (O4.out.olt b hb) (fun hm => D3_4.out b hm hb))
  have O3 := Lib.hid ho3'
  have S3 := Lib.hid (And.intro hnd3' hsub3')
  clear hch3 ho3' hnd3' hsub3'
  have e3_4 := KB.out.cell (i := 4) rfl
  go_wp2_with fail
  refine (markIntSS_c x.Found _ _ _ _ _ _ O4.out (List.nodup_append.1 (List.nodup_append.1 (List.nodup_append.1 (List.nodup_append.1 HND.out).2.1).2.1).2.1).2.1 (by omega) (by omega)).mono ?_
  rintro e v4 ⟨rfl, hch4, fn4, ho4', hnd4', hsub4'⟩
  have CH := Lib.hid (CH.out.trans (hch4.more fun b hb => (List.mem_append_right _ (List.mem_append_right _ (List.mem_append_right _ (List.mem_append_right _ hb))))))
  have KB := Lib.hid (KB.out.keep (hch4.block _ KB.out.lt (fun hm => by have := L4.out _ hm; omega)))
  have O0 := Lib.hid (O0.out.okeep fun b hb => hch4.block b (O0.out.olt b hb) (fun hm => D0_4.out b (S0.out.2 b hb) hm))
  have O1 := Lib.hid (O1.out.okeep fun b hb => hch4.block b (O1.out.olt b hb) (fun hm => D1_4.out b (S1.out.2 b hb) hm))
  have O2 := Lib.hid (O2.out.okeep fun b hb => hch4.block b (O2.out.olt b hb) (fun hm => D2_4.out b (S2.out.2 b hb) hm))
  have O3 := Lib.hid (O3.out.okeep fun b hb => hch4.block b (O3.out.olt b hb) (fun hm => D3_4.out b (S3.out.2 b hb) hm))
  have O4 := Lib.hid ho4'
  have S4 := Lib.hid (And.intro hnd4' hsub4')
  clear hch4 ho4' hnd4' hsub4'
  go_wp2
  go_ret
  refine ⟨ret_int (by have := HCT.out; omega), CH.out, _, rBankW_own_mk (x := Pl.topBank x k) O0.out O1.out O2.out O3.out O4.out, ?_, ?_⟩
  · exact (List.nodup_append.2 ⟨S0.out.1, (List.nodup_append.2 ⟨S1.out.1, (List.nodup_append.2 ⟨S2.out.1, (List.nodup_append.2 ⟨S3.out.1, S4.out.1, fun a ha b hb hab => by subst hab; exact D3_4.out a (S3.out.2 a ha) (S4.out.2 a hb)⟩), fun a ha b hb hab => by subst hab; exact (List.mem_append.1 hb).elim (fun hb => D2_3.out a (S2.out.2 a ha) (S3.out.2 a hb)) (fun hb => D2_4.out a (S2.out.2 a ha) (S4.out.2 a hb))⟩), fun a ha b hb hab => by subst hab; exact (List.mem_append.1 hb).elim (fun hb => D1_2.out a (S1.out.2 a ha) (S2.out.2 a hb)) (fun hb => (List.mem_append.1 hb).elim (fun hb => D1_3.out a (S1.out.2 a ha) (S3.out.2 a hb)) (fun hb => D1_4.out a (S1.out.2 a ha) (S4.out.2 a hb)))⟩), fun a ha b hb hab => by subst hab; exact (List.mem_append.1 hb).elim (fun hb => D0_1.out a (S0.out.2 a ha) (S1.out.2 a hb)) (fun hb => (List.mem_append.1 hb).elim (fun hb => D0_2.out a (S0.out.2 a ha) (S2.out.2 a hb)) (fun hb => (List.mem_append.1 hb).elim (fun hb => D0_3.out a (S0.out.2 a ha) (S3.out.2 a hb)) (fun hb => D0_4.out a (S0.out.2 a ha) (S4.out.2 a hb))))⟩)
  · intro b hb
    rcases List.mem_append.1 hb with hb | hb
    · exact (List.mem_append_left _ (S0.out.2 b hb))
    · rcases List.mem_append.1 hb with hb | hb
      · exact (List.mem_append_right _ (List.mem_append_left _ (S1.out.2 b hb)))
      · rcases List.mem_append.1 hb with hb | hb
        · exact (List.mem_append_right _ (List.mem_append_right _ (List.mem_append_left _ (S2.out.2 b hb))))
        · rcases List.mem_append.1 hb with hb | hb
          · exact (List.mem_append_right _ (List.mem_append_right _ (List.mem_append_right _ (List.mem_append_left _ (S3.out.2 b hb)))))
          · exact (List.mem_append_right _ (List.mem_append_right _ (List.mem_append_right _ (List.mem_append_right _ (S4.out.2 b hb)))))
end Go.Proofs.Ytpmeagchkcffoaa

/-
  One element of an owned slice changed, in its own cell and in what it leads to; the same among the things of a call. No program in sight. No conditions.
-/
namespace Go.Proofs.Ytpmeagchkcffoaa
open Go.RowKit
namespace Mm
section
variable {α : Type} {E : Rep α} {e : TypeId} {w w' : World} {xs : List α} {fp : List Nat}
theorem Chg.grow {fx : List Nat} {a b : World} (h : Chg fx a b) {k : Nat} (hk : k < a.heap.size) (hn : k ∉ fx) : b.heap[k]? = a.heap[k]? := h.block k hk hn
theorem SlOwn.swap {g n c : Nat} (h : SlOwn E e w xs (.slice (some ⟨g, 0, none⟩) n c) fp) (hnd : fp.Nodup) {i : Nat} {x : α} (hi : xs[i]? = some x) :
    ∃ cs fx, E.own w x cs fx ∧ fx.Nodup ∧ (∀ b, b ∈ fx → b ∈ fp ∧ b ≠ g) ∧ (∀ j u, cs[j]? = some u → w.cell? ⟨g, i * E.size + j, none⟩ = some u) ∧
      ∀ W x' j u fx', Chg fx w W → j < E.size → E.own W x' (cs.set j u) fx' → fx'.Nodup → (∀ b, b ∈ fx' → b ∈ fx ∨ w.heap.size ≤ b) →
        ∃ fp', SlOwn E e (W.setCell ⟨g, i * E.size + j, none⟩ u) (xs.set i x') (.slice (some ⟨g, 0, none⟩) n c) fp' ∧ fp'.Nodup ∧ (∀ b, b ∈ fp' → b ∈ fp ∨ w.heap.size ≤ b) ∧ Chg fp w (W.setCell ⟨g, i * E.size + j, none⟩ u) := by
  have hol := h.olt
  have hgm := h.mem_block
  obtain ⟨es, he, ho, rfl⟩ := h
  have hn : n = xs.length := by
    rcases ho.2 with ⟨h, _⟩ | ⟨g', cap, cur, h, _⟩
    · cases h
    · injection h
  subst hn
  have hil : i < xs.length := (List.getElem?_eq_some_iff.1 hi).1
  have hie : i < es.length := by rw [he.1]; exact hil
  have hy := List.getElem?_eq_getElem hie
  have hown := he.2 i x _ hi hy
  have hgl := hol g hgm
  simp only [Value.ownBlock, Option.toList_some, List.singleton_append, List.nodup_cons] at hnd
  have hgn : ∀ y ∈ es, g ∉ y.2 := fun y hy hg => hnd.1 (List.mem_flatMap.2 ⟨y, hy, hg⟩)
  have hsp := flat_split (·.2) hy
  have hd := hnd.2
  rw [(hsp es[i]).1] at hd
  simp only [List.nodup_append] at hd
  have hmem : ∀ b, b ∈ es[i].2 → b ∈ es.flatMap (·.2) := fun b hb => List.mem_flatMap.2 ⟨_, List.getElem_mem hie, hb⟩
  refine ⟨es[i].1, es[i].2, hown, hd.2.1.1, fun b hb => ⟨List.mem_append_right _ (hmem b hb), fun e => hgn _ (List.getElem_mem hie) (e ▸ hb)⟩, fun j u hu => ?_, fun W x' j u fx' hc hj hx' hxn hxs => ?_⟩
  · have := ho.cells (g := g) rfl (i * E.size + j) u (flatMap_get (·.1) E.size es he.len i _ j u hy hu)
    rw [add0] at this
    exact this
  · have hW : ∀ b, b ≠ g → (W.setCell ⟨g, i * E.size + j, none⟩ u).heap[b]? = W.heap[b]? := fun b hb => Below.heap_setCell _ _ _ _ hb
    have m1 : ∀ y, y ∈ es.take i → ∀ b, b ∈ y.2 → b ∉ es[i].2 := fun y hy b hb hm => hd.2.2 b (List.mem_flatMap.2 ⟨y, hy, hb⟩) b (List.mem_append_left _ hm) rfl
    have m2 : ∀ y, y ∈ es.drop (i + 1) → ∀ b, b ∈ y.2 → b ∉ es[i].2 := fun y hy b hb hm => hd.2.1.2.2 b hm b (List.mem_flatMap.2 ⟨y, hy, hb⟩) rfl
    have hgx : g ∉ fx' := fun hg => by
      rcases hxs g hg with h | h
      · exact hgn _ (List.getElem_mem hie) h
      · omega
    have hsub : ∀ b, b ∈ (es.set i (es[i].1.set j u, fx')).flatMap (·.2) → b ∈ es.flatMap (·.2) ∨ w.heap.size ≤ b := by
      intro b hb
      obtain ⟨y, hy, hb⟩ := List.mem_flatMap.1 hb
      rcases List.mem_or_eq_of_mem_set hy with h | rfl
      · exact .inl (List.mem_flatMap.2 ⟨y, h, hb⟩)
      · exact (hxs b hb).imp (hmem b) id
    have hWo : W.ownsRow 0 e E.size (.slice (some ⟨g, 0, none⟩) xs.length c) xs.length (es.flatMap (·.1)) := by
      refine ⟨ho.1, ?_⟩
      rcases ho.2 with h | ⟨g', cap, cur, hv, h1, h2, h3⟩
      · exact .inl h
      · injection hv with hA _ hcap
        injection hA with hA
        injection hA with hA
        subst hA
        subst hcap
        exact .inr ⟨g, _, cur, rfl, h1, (hc.block g hgl (hgn _ (List.getElem_mem hie))).trans h2, h3⟩
    have h1 := (hWo.stored (i * E.size + j) u).1
    have hs : setList (es.flatMap (·.1)) (i * E.size) (es[i].1.set j u) = (es.flatMap (·.1)).set (i * E.size + j) u := by
      have hlen : (es.flatMap (·.1)).length = xs.length * E.size := ho.1
      have hle : i * E.size + E.size ≤ xs.length * E.size := by
        have := Nat.mul_le_mul_right E.size (show i + 1 ≤ xs.length by omega)
        rw [Nat.add_mul] at this; omega
      have hol := E.olen hown
      apply List.ext_getElem?
      intro k
      rw [setList_get _ _ _ _ (by rw [List.length_set, hol, hlen]; exact hle), List.length_set, hol]
      by_cases hkk : i * E.size ≤ k ∧ k < i * E.size + E.size
      · rw [if_pos hkk]
        by_cases hkj : k = i * E.size + j
        · subst hkj
          rw [show i * E.size + j - i * E.size = j by omega, List.getElem?_set_self (by omega), List.getElem?_set_self (by omega)]
        · rw [List.getElem?_set_ne (by omega), List.getElem?_set_ne (by omega)]
          have hu := List.getElem?_eq_getElem (show k - i * E.size < es[i].1.length by omega)
          have := flatMap_get (·.1) E.size es he.len i _ (k - i * E.size) _ hy hu
          rw [show i * E.size + (k - i * E.size) = k by omega] at this
          rw [this, hu]
      · rw [if_neg hkk, List.getElem?_set_ne (by omega)]
    have hll := setList_elems E.size es i (es[i].1.set j u) fx' he.len (by rw [List.length_set]; exact E.olen hown) hie
    have hchg : Chg (g :: es.flatMap (·.2)) w (W.setCell ⟨g, i * E.size + j, none⟩ u) := (hc.more fun b hb => List.mem_cons_of_mem _ (hmem b hb)).setCell (by simp) u
    refine ⟨_, ⟨es.set i (es[i].1.set j u, fx'), ⟨by rw [List.length_set, List.length_set, he.1], fun k y z hy hz => ?_⟩, ?_, rfl⟩, ?_, ?_, hchg⟩
    · by_cases hki : i = k
      · subst hki
        rw [List.getElem?_set_self hie] at hz
        rw [List.getElem?_set_self hil] at hy
        injection hy with hy; injection hz with hz
        subst hy; subst hz
        exact E.okeep hx' fun b hb => hW b (fun e => hgx (e ▸ hb))
      · rw [List.getElem?_set_ne hki] at hz hy
        have hk := he.2 k y z hy hz
        refine E.okeep hk fun b hb => (hW b (fun e => hgn z (List.mem_of_getElem? hz) (e ▸ hb))).trans (hc.block b (E.olt hk b hb) ?_)
        rcases Nat.lt_or_gt_of_ne hki with h | h
        · refine m2 z (List.mem_of_getElem? (i := k - (i + 1)) ?_) b hb
          rw [List.getElem?_drop, show i + 1 + (k - (i + 1)) = k by omega]
          exact hz
        · refine m1 z (List.mem_of_getElem? (i := k) ?_) b hb
          rw [List.getElem?_take, if_pos h]
          exact hz
    · rw [List.length_set, ← hll, hs]; exact h1
    · simp only [Value.ownBlock, Option.toList_some, List.singleton_append, List.nodup_cons]
      refine ⟨fun hg => ?_, ?_⟩
      · rcases hsub g hg with h | h
        · exact hnd.1 h
        · omega
      rw [(hsp (es[i].1.set j u, fx')).2]
      simp only [List.nodup_append]
      have hL : ∀ b, b ∈ es.flatMap (·.2) → b < w.heap.size := fun b hb => hol b (List.mem_append_right _ hb)
      rw [(hsp es[i]).1] at hL
      refine ⟨hd.1, ⟨hxn, hd.2.1.2.1, fun a ha b hb hab => ?_⟩, fun a ha b hb hab => ?_⟩
      · subst hab
        rcases hxs a ha with h | h
        · exact hd.2.1.2.2 a h a hb rfl
        · have := hL a (List.mem_append_right _ (List.mem_append_right _ hb)); omega
      · subst hab
        rcases List.mem_append.1 hb with hb | hb
        · rcases hxs a hb with h | h
          · exact hd.2.2 a ha a (List.mem_append_left _ h) rfl
          · have := hL a (List.mem_append_left _ ha); omega
        · exact hd.2.2 a ha a (List.mem_append_right _ hb) rfl
    · intro b hb
      rcases List.mem_append.1 hb with hb | hb
      · exact .inl (List.mem_append_left _ hb)
      · exact (hsub b hb).imp (List.mem_append_right _) id
/-- element k is changed, one of its own cells and what it leads to -/
theorem SepF.swap {F : List Nat} {w0 wr : World} {ts : List Thing} {g n c k : Nat} {x : α} (h : SepF F w0 wr ts) (i : Nat) (hi : ts[i]? = some (tsl E e xs (.slice (some ⟨g, 0, none⟩) n c) fp)) (hk : xs[k]? = some x) :
    ∃ cs fx, E.own wr x cs fx ∧ fx.Nodup ∧ (∀ b, b ∈ fx → b ∈ fp ∧ b ≠ g) ∧ (∀ j u, cs[j]? = some u → wr.cell? ⟨g, k * E.size + j, none⟩ = some u) ∧
      ∀ W x' j u fx', Chg fx wr W → j < E.size → E.own W x' (cs.set j u) fx' → fx'.Nodup → (∀ b, b ∈ fx' → b ∈ fx ∨ wr.heap.size ≤ b) →
        ∃ fp', SepF F w0 (W.setCell ⟨g, k * E.size + j, none⟩ u) (ts.set i (tsl E e (xs.set k x') (.slice (some ⟨g, 0, none⟩) n c) fp')) := by
  have h1 : SlOwn E e wr xs (.slice (some ⟨g, 0, none⟩) n c) fp := h.at_ i hi
  obtain ⟨cs, fx, k1, k2, k3, k4, k5⟩ := h1.swap (h.ndat hi) hk
  refine ⟨cs, fx, k1, k2, k3, k4, fun W x' j u fx' m1 m2 m3 m4 m5 => ?_⟩
  obtain ⟨fp', p1, p2, p3, p4⟩ := k5 W x' j u fx' m1 m2 m3 m4 m5
  exact ⟨fp', h.upd hi p4 p1 p2 p3⟩
end
end Mm
end Go.Proofs.Ytpmeagchkcffoaa

/-
  Regions that draw their order and give: a store among the operations of the plan (it yields no value; the block that it stores into is taken and given back). No program in sight. No conditions.
-/
namespace Go.Proofs.Ytpmeagchkcffoaa
open Go.RowKit
namespace Mm
section
variable {P : Program} {F : List Nat} {w : World} {N : Nat} {ops : Array Oper} {D : World → Prop} {rel : Nat → Option Rel} {takes : Nat → List Nat} {Q : Act → Sig → Prop} {i : Nat} {o : Oper} {rest : List Oper} {a : Act} {σ : Sig}
def GvQn (F : List Nat) (w : World) (r : List Thing → Prop) (df : List Deferred) (rest : List Thing) (x : Exit) (a' : Act) (w' : World) : Prop :=
  x = .normal ∧ a'.defers = df ∧ ∃ ds, r ds ∧ SepF F w w' (ds ++ rest)
theorem gvalid_none {r : Value → List Thing → Prop} {r' : List Thing → Prop} (hr : ∀ u ds, r' ds → r u ds) (hd : o.dst = none) (hw : Region.wanted o (yielded ops a.tmps) = true) (hi : i ≤ N) (hn : (takes i).Nodup) (hk : ∀ k ∈ takes i, k ≤ N)
    (h : ∀ others X, SepF F w X ((takes i).flatMap σ ++ others) → wpList P ops (GvQn F w r' a.defers others) [o] a X) : GValid P (GC F w N) takes i o a σ r := by
  intro σ' X hC hag
  have e4 : (takes i).flatMap σ' = (takes i).flatMap σ := by
    rw [List.flatMap_def, List.flatMap_def]; exact congrArg List.flatten (List.map_congr_left hag)
  have h0 : SepF F w X (sigAll N σ') := hC
  have h1 := h0.sigTake hn hk
  rw [e4] at h1
  have h2 := h _ X h1
  have fin : ∀ u w', GvQn F w r' a.defers (sigAll N (sigUpd takes σ' i [])) .normal (a.put o.dst u) w' → ∃ ds, r u ds ∧ GC F w N (sigUpd takes σ' i ds) w' := fun u w' ⟨_, _, ds, h3, h4⟩ =>
    ⟨ds, hr u ds h3, h4.permE (sigAll_upd hi)⟩
  unfold wpList at h2
  rw [if_pos hw] at h2
  have h3 : o.wp P a X (fun a' w' => GvQn F w r' a.defers (sigAll N (sigUpd takes σ' i [])) .normal a' w') (GvQn F w r' a.defers (sigAll N (sigUpd takes σ' i []))) := by
    first
      | exact h2
      | exact h2.elim id fun h => by obtain ⟨_, a', w', h, _⟩ := h; cases h
  unfold Oper.wp at h3
  generalize (execOp a.eval o).run P X = R at *
  cases R with
  | ok n w' =>
    cases n <;> simp only [Oper.upon] at h3 <;> simp only [ups] <;> first | exact fin _ _ h3 | skip
    · refine h3.mono fun e w'' he => ?_
      cases e with
      | returned v => exact ⟨v, rfl, fin _ _ he⟩
      | panicked c => exact absurd he.1 (by simp)
      | outgrown => obtain ⟨a', w', h, _⟩ := he; cases h
    · have := h3.2.1
      rw [hd] at this
      exact absurd this (by simp [Act.put])
    · exact Rows.mono h3 fun v w'' he => fin _ _ he
  | halt x w' => cases x <;> simp only [Oper.upon] at h3; exact absurd h3.1 (by simp)
/-- what a store of a struct gives: the block, written anew -/
def gSto (T : TypeId) : Rel := fun vals _ _ ds => ∃ g cs, vals = [.pointer (some ⟨g, 0, none⟩), .agg cs.toArray] ∧ ds = [tblk g T cs]
/-- a store into the block that operation k gave -/
theorem give_store (T : TypeId) (g : Nat) (cs0 cs : List Value) (k : Nat) (hw : Region.wanted o (yielded ops a.tmps) = true) (hr : rel i = some (gSto T)) (hd : o.dst = none) (hi : Nat.ble i N = true) (ht : takes i = [k]) (hk : Nat.ble k N = true)
    (htk : σ k = [tblk g T cs0]) (hv : o.op.operands.toList.map a.eval = [.pointer (some ⟨g, 0, none⟩), .agg cs.toArray])
    (h : ∀ others X, SepF F w X (tblk g T cs0 :: others) → wpList P ops (GvQn F w (fun ds => ds = [tblk g T cs]) a.defers others) [o] a X)
    (hnext : wpGive P ops (GC F w N) D rel takes Q (i + 1) rest a (sigUpd takes σ i [tblk g T cs])) : wpGive P ops (GC F w N) D rel takes Q i (o :: rest) a σ := by
  have e : (takes i).flatMap σ = [tblk g T cs0] := by rw [ht, ← htk]; simp
  refine give_rel hw hr (gvalid_none (r' := fun ds => ds = [tblk g T cs]) (fun u ds h => ?_) hd hw (Nat.le_of_ble_eq_true hi) (by rw [ht]; simp) (by rw [ht]; intro x hx; rw [List.mem_singleton.1 hx]; exact Nat.le_of_ble_eq_true hk) ?_) ?_ ?_
  · exact ⟨g, cs, hv, h⟩
  · rw [e]; exact h
  · exact ⟨undef, _, g, cs, hv, rfl⟩
  · rintro v ds ⟨g', cs', hv', rfl⟩
    have h1 := hv.symm.trans hv'
    injection h1 with h2 h3
    injection h3 with h4 _
    injection h2 with h5
    injection h5 with h6
    injection h6 with h7
    injection h4 with h8
    have h9 : cs = cs' := by simpa using congrArg Array.toList h8
    subst h7 h9
    rw [hd]
    exact hnext
end
end Mm
end Go.Proofs.Ytpmeagchkcffoaa

/-
  Banks: plain steps; a bank in memory as a box and five slices; stores into its rows. No conditions beyond those named.
-/
namespace Go.Proofs.Ytpmeagchkcffoaa
open Go.RowKit
attribute [local go_sem] und_cell cha_cell World.cell?_alloc_some
namespace Pl
/-- the markers that node k sends to the first t nodes -/
def recW (n k : Nat) : Nat → List (List Int) → List (List Int)
  | 0, W => W
  | t + 1, W => if t = k then recW n k t W else (recW n k t W).set (k * n + t) (((recW n k t W)[k * n + t]?).getD [] ++ [0])
def coinAt (b : Bank) (k : Nat) : Int := (b.Coins[k]?).getD 0
def keptAt (b : Bank) (k : Nat) : Int := (b.Kept[k]?).getD 0
def wayAt (b : Bank) (i : Nat) : List Int := (b.Ways[i]?).getD []
def heardAt (b : Bank) (t f : Nat) : Bool := (((b.Heard[t]?).getD [])[f]?).getD false
def foundAt (b : Bank) (f t : Nat) : Int := (((b.Found[f]?).getD [])[t]?).getD 0
def brec (b : Bank) (k : Nat) : Bank := ⟨b.Coins, recW b.Coins.length k b.Coins.length b.Ways, b.Kept.set k (coinAt b k), b.Heard, b.Found⟩
def setHeard (b : Bank) (t f : Nat) : Bank := ⟨b.Coins, b.Ways, b.Kept, b.Heard.set t (((b.Heard[t]?).getD []).set f true), b.Found⟩
def addFound (b : Bank) (f t : Nat) (x : Int) : Bank := ⟨b.Coins, b.Ways, b.Kept, b.Heard, b.Found.set f (((b.Found[f]?).getD []).set t (foundAt b f t + x))⟩
def addCoin (b : Bank) (t : Nat) (x : Int) : Bank := ⟨b.Coins.set t (coinAt b t + x), b.Ways, b.Kept, b.Heard, b.Found⟩
def setWay (b : Bank) (i : Nat) (l : List Int) : Bank := ⟨b.Coins, b.Ways.set i l, b.Kept, b.Heard, b.Found⟩
def btake (b : Bank) (f t : Nat) (x : Int) : Bank :=
  if 0 < x then (if 0 ≤ keptAt b t ∧ heardAt b t f = false then addFound (addCoin b t x) f t x else addCoin b t x)
  else setHeard (if keptAt b t < 0 then brec b t else b) t f
def bstep (b : Bank) (s : SnapStep) : Bank × Bool :=
  let n := b.Coins.length
  let f := s.From.toNat
  let t := s.To.toNat
  if ¬ (0 ≤ s.From ∧ s.From < n ∧ 0 ≤ s.To ∧ s.To < n) then (b, false)
  else if s.Kind = 1 then
    (if 1 ≤ s.Many ∧ s.Many ≤ 50 ∧ s.Many ≤ coinAt b f ∧ s.To ≠ s.From ∧ (wayAt b (f * n + t)).length < 39 then (setWay (addCoin b f (-s.Many)) (f * n + t) (wayAt b (f * n + t) ++ [s.Many]), true) else (b, false))
  else if s.Kind = 2 then
    (match wayAt b (f * n + t) with
     | [] => (b, false)
     | x :: r => if s.Many = 0 then (btake (setWay b (f * n + t) r) f t x, true) else (b, false))
  else if s.Kind = 3 then (if keptAt b f < 0 ∧ s.To = 0 ∧ s.Many = 0 then (brec b f, true) else (b, false))
  else (b, false)
theorem recW_len (n k : Nat) : ∀ (t : Nat) (W : List (List Int)), (recW n k t W).length = W.length
  | 0, _ => rfl
  | t + 1, W => by
    unfold recW
    split
    · exact recW_len n k t W
    · rw [List.length_set]; exact recW_len n k t W
theorem recW_row {n k m : Nat} {W : List (List Int)} (h : ∀ r, r ∈ W → r.length ≤ m) : ∀ t r, r ∈ recW n k t W → r.length ≤ m + t
  | 0, r, hr => h r hr
  | t + 1, r, hr => by
    unfold recW at hr
    split at hr
    · have := recW_row h t r hr; omega
    · rcases List.mem_or_eq_of_mem_set hr with h1 | h1
      · have := recW_row h t r h1; omega
      · subst h1
        rw [List.length_append]
        cases hg : (recW n k t W)[k * n + t]? with
        | none => simp; omega
        | some y => have := recW_row h t y (List.mem_of_getElem? hg); simp; omega
/-- what is true of a bank behind k steps -/
structure BI (k : Nat) (b : Bank) : Prop where
  n1 : 1 ≤ b.Coins.length
  n5 : b.Coins.length ≤ 5
  wa : b.Ways.length = b.Coins.length * b.Coins.length
  ke : b.Kept.length = b.Coins.length
  he : b.Heard.length = b.Coins.length
  fo : b.Found.length = b.Coins.length
  hr : ∀ r, r ∈ b.Heard → r.length = b.Coins.length
  fr : ∀ r, r ∈ b.Found → r.length = b.Coins.length
  cb : ∀ c, c ∈ b.Coins → 0 ≤ c ∧ c ≤ 50 + 50 * k
  kb : ∀ c, c ∈ b.Kept → -1 ≤ c ∧ c ≤ 50 + 50 * k
  fb : ∀ r, r ∈ b.Found → ∀ c, c ∈ r → 0 ≤ c ∧ c ≤ 50 * k
  wl : ∀ r, r ∈ b.Ways → r.length ≤ k
  wb : ∀ r, r ∈ b.Ways → ∀ c, c ∈ r → 0 ≤ c ∧ c ≤ 50
  dg : ∀ i, i < b.Coins.length → b.Ways[i * b.Coins.length + i]? = some []
end Pl
namespace Mm
theorem SepF.putInt {F : List Nat} {w0 wr : World} {ts : List Thing} {e : TypeId} {xs : List Int} {g n c k : Nat} {fp : List Nat} {x y : Int} (h : SepF F w0 wr ts) (i : Nat) (hi : ts[i]? = some (tsl int e xs (.slice (some ⟨g, 0, none⟩) n c) fp)) (hk : xs[k]? = some x) (hy : I64 y) :
    SepF F w0 (wr.setCell ⟨g, k, none⟩ (.int .i64 y)) (ts.set i (tsl int e (xs.set k y) (.slice (some ⟨g, 0, none⟩) n c) fp)) := by
  have h9 := h.putSl (x' := y) (u := .int .i64 y) (m := 0) i hi hk (by decide) (fun cs fx ho => by obtain ⟨rfl, _, rfl⟩ := ho; exact ⟨rfl, hy, rfl⟩)
  rwa [show k * int.size + 0 = k by show k * 1 + 0 = k; omega] at h9
/-- a cell of a row of a slice of rows -/
theorem SepF.row {α : Type} {E : Rep α} {F : List Nat} {w0 wr : World} {ts : List Thing} {e e' : TypeId} {xs : List (List α)} {row : List α} {g n c k j : Nat} {fp : List Nat} {x : α} (h1 : E.size = 1) (h : SepF F w0 wr ts) (i : Nat) (hi : ts[i]? = some (tsl (slice E e') e xs (.slice (some ⟨g, 0, none⟩) n c) fp)) (hk : xs[k]? = some row) (hj : row[j]? = some x) :
    ∃ g' n' c' u0 fx0, wr.cell? ⟨g, k, none⟩ = some (.slice (some ⟨g', 0, none⟩) n' c') ∧ n' = row.length ∧ E.own wr x [u0] fx0 ∧ wr.cell? ⟨g', j, none⟩ = some u0 ∧ wr.frozen? ⟨g', j, none⟩ = false ∧
      ∀ y u, (∀ cs fx, E.own wr x cs fx → E.own wr y [u] fx) → ∃ fp', SepF F w0 (wr.setCell ⟨g', j, none⟩ u) (ts.set i (tsl (slice E e') e (xs.set k (row.set j y)) (.slice (some ⟨g, 0, none⟩) n c) fp')) := by
  obtain ⟨cs, fx, ⟨v, rfl, hown⟩, hfn, hfs, hc, hnext⟩ := h.putIn i hi hk
  obtain ⟨A, n', c', rfl, hn', _⟩ := hown.form
  obtain ⟨g', rfl, hg', _⟩ := Mm.sl_addr hown (by have := (List.getElem?_eq_some_iff.1 hj).1; omega)
  obtain ⟨cs0, fx0, ho0, _, hs0, hc0, _⟩ := hown.inner hfn hj
  have hl0 : cs0.length = 1 := by rw [E.olen ho0, h1]
  obtain ⟨u0, rfl⟩ := List.length_eq_one_iff.1 hl0
  refine ⟨g', n', c', u0, fx0, ?_, hn', ho0, ?_, hown.frozen j, fun y u hy => ?_⟩
  · have := hc 0 _ rfl
    rwa [show k * (slice E e').size + 0 = k by show k * 1 + 0 = k; omega] at this
  · have := hc0 0 _ rfl
    rwa [h1, show j * 1 + 0 = j by omega] at this
  · exact hnext _ (row.set j y) fx ((Chg.refl _ _).setCell hg' u) ⟨_, rfl, hown.store1 hfn h1 hj hy⟩ hfn (fun b hb => hb)
end Mm
/-- a bank that the call owns: its box and its five slices -/
def BankS (F : List Nat) (w0 w : World) (gb n : Nat) (b : Bank) (rest : List Mm.Thing) : Prop :=
  ∃ g0 g1 g2 g3 g4 c0 c1 c2 c3 c4 f0 f1 f2 f3 f4, Mm.SepF F w0 w (Mm.tblk gb 28 [.slice (some ⟨g0, 0, none⟩) n c0, .slice (some ⟨g1, 0, none⟩) (n * n) c1, .slice (some ⟨g2, 0, none⟩) n c2, .slice (some ⟨g3, 0, none⟩) n c3, .slice (some ⟨g4, 0, none⟩) n c4] :: Mm.tsl Mm.int 3 b.Coins (.slice (some ⟨g0, 0, none⟩) n c0) f0 :: Mm.tsl Mm.way 22 b.Ways (.slice (some ⟨g1, 0, none⟩) (n * n) c1) f1 :: Mm.tsl Mm.int 3 b.Kept (.slice (some ⟨g2, 0, none⟩) n c2) f2 :: Mm.tsl bools 29 b.Heard (.slice (some ⟨g3, 0, none⟩) n c3) f3 :: Mm.tsl ints 22 b.Found (.slice (some ⟨g4, 0, none⟩) n c4) f4 :: rest)
theorem Try.infoIntB : (Try.prog.info? 3).map (fun i => (i.zero, i.size, i.bytes)) = some (some (.int .i64 0), 1, 8) := by kernel_rfl
theorem sq_lt {n k j : Nat} (hk : k < n) (hj : j < n) : k * n + j < n * n := by
  have h1 : (k + 1) * n ≤ n * n := Nat.mul_le_mul_right n hk
  rw [Nat.add_mul] at h1
  omega
theorem sq_le {n : Nat} (h : n ≤ 5) : n * n ≤ 25 := Nat.mul_le_mul h h
set_option maxRecDepth 100000 in
set_option maxHeartbeats 4000000 in
theorem record_c (b : Bank) (q n k gb : Nat) (F : List Nat) (w0 w : World) (rest : List Mm.Thing) (hS : BankS F w0 w gb n b rest) (hI : Pl.BI q b) (hn : b.Coins.length = n) (hk : k < n) (hq : q ≤ 900) :
    Calls Try.prog 62 #[.pointer (some ⟨gb, 0, none⟩), .int .i64 k] w fun e w' => e = .returned (.tuple #[]) ∧ BankS F w0 w' gb n (Pl.brec b k) rest := by
  obtain ⟨g0, g1, g2, g3, g4, c0, c1, c2, c3, c4, f0, f1, f2, f3, f4, hs⟩ := hS
  have HS := Lib.hid hs
  have HI := Lib.hid hI
  have HN := Lib.hid hn
  have hn5 : n ≤ 5 := by rw [← hn]; exact hI.n5
  obtain ⟨cv, hcv⟩ : ∃ cv, b.Coins[k]? = some cv := ⟨_, List.getElem?_eq_getElem (by omega)⟩
  obtain ⟨kv, hkv⟩ : ∃ kv, b.Kept[k]? = some kv := ⟨_, List.getElem?_eq_getElem (by rw [hI.ke]; omega)⟩
  have HCV := Lib.hid hcv
  have HKV := Lib.hid hkv
  have HCI : Hid (Mm.I64 cv) := Lib.hid (by have := hI.cb cv (List.mem_of_getElem? hcv); unfold Mm.I64; omega)
  obtain ⟨iI, qI, qI0, qI1, qI2⟩ := info_parts Try.infoIntB
  have b0 := HS.out.cell (k := 0) 0 rfl rfl
  have b2 := HS.out.cell (k := 2) 0 rfl rfl
  have d0 := int_ocell (HS.out.sl 1 rfl) (HS.out.ndat (i := 1) rfl) hcv
  have d2 := int_ocell (HS.out.sl 3 rfl) (HS.out.ndat (i := 3) rfl) hkv
  have fk1 : (0 : Int) ≤ (k : Nat) := by omega
  have fk2 : ((k : Nat) : Int).toNat = k := by omega
  have fk3 : (k : Int) < (n : Nat) := by omega
  clear hs hI hn hcv hkv
  go_enter Try.func62, Try.ntmps62
  go_upto_region 1 with fail
  refine wp_region_und_tail 13 (by kernel_rfl) (by kernel_rfl) ?_
  simp only [List.take_succ_cons, List.take_zero, List.drop_succ_cons, List.drop_zero]
  repeat (go_big_quiet_step ((first | fail)))
  refine wpQuiet_nil ?_
  intro X hX
  have HS1 := Lib.hid (HS.out.step hX)
  clear hX HS b0 b2 d0 d2
  have d2 := int_ocell (HS1.out.sl 3 rfl) (HS1.out.ndat (i := 3) rfl) HKV.out
  have z2 := (HS1.out.sl 3 rfl).frozen k
  obtain ⟨W1, hW1⟩ : ∃ W, X.setCell ⟨g2, k, none⟩ (.int .i64 cv) = W := ⟨_, rfl⟩
  have HS2 := Lib.hid ((HS1.out.putInt (y := cv) 3 rfl HKV.out HCI.out).atW hW1)
  go_upto_region 2 with fail
  clear hW1 d2 z2 HS1
  have KS : Hid (Mm.SepF F w0 W1 (Mm.tblk gb 28 [.slice (some ⟨g0, 0, none⟩) n c0, .slice (some ⟨g1, 0, none⟩) (n * n) c1, .slice (some ⟨g2, 0, none⟩) n c2, .slice (some ⟨g3, 0, none⟩) n c3, .slice (some ⟨g4, 0, none⟩) n c4] :: Mm.tsl Mm.int 3 b.Coins (.slice (some ⟨g0, 0, none⟩) n c0) f0 :: Mm.tsl Mm.way 22 (Pl.recW n k 0 b.Ways) (.slice (some ⟨g1, 0, none⟩) (n * n) c1) f1 :: Mm.tsl Mm.int 3 (b.Kept.set k cv) (.slice (some ⟨g2, 0, none⟩) n c2) f2 :: Mm.tsl bools 29 b.Heard (.slice (some ⟨g3, 0, none⟩) n c3) f3 :: Mm.tsl ints 22 b.Found (.slice (some ⟨g4, 0, none⟩) n c4) f4 :: rest)) := HS2
  clear HS2
  go_wp2
  go_loopg [25] n (fun gg i wr => ∃ (j : Nat) (f1 : List Nat), n - j ≤ gg ∧ j ≤ n ∧ i = .int .i64 j ∧ Hid (Mm.SepF F w0 wr (Mm.tblk gb 28 [.slice (some ⟨g0, 0, none⟩) n c0, .slice (some ⟨g1, 0, none⟩) (n * n) c1, .slice (some ⟨g2, 0, none⟩) n c2, .slice (some ⟨g3, 0, none⟩) n c3, .slice (some ⟨g4, 0, none⟩) n c4] :: Mm.tsl Mm.int 3 b.Coins (.slice (some ⟨g0, 0, none⟩) n c0) f0 :: Mm.tsl Mm.way 22 (Pl.recW n k j b.Ways) (.slice (some ⟨g1, 0, none⟩) (n * n) c1) f1 :: Mm.tsl Mm.int 3 (b.Kept.set k cv) (.slice (some ⟨g2, 0, none⟩) n c2) f2 :: Mm.tsl bools 29 b.Heard (.slice (some ⟨g3, 0, none⟩) n c3) f3 :: Mm.tsl ints 22 b.Found (.slice (some ⟨g4, 0, none⟩) n c4) f4 :: rest)))
  case atStart => exact ⟨0, f1, Nat.le_refl _, Nat.zero_le _, rfl, KS⟩
  case round =>
    clear KS f1
    obtain ⟨j, f1, hg, hj, rfl, HS⟩ := hrel
    obtain ⟨W, rfl⟩ : ∃ W : World, W = wr := ⟨_, rfl⟩
    by_cases hlt : j < n
    · have f1' : (j : Int) < (n : Nat) := by omega
      by_cases hjk : j = k
      · as_aux_lemma =>
        have HE : Hid (Pl.recW n k (j + 1) b.Ways = Pl.recW n k j b.Ways) := Lib.hid (by
          show (if j = k then _ else _) = _
          rw [if_pos hjk])
        have q1 : ((j : Int) != (k : Nat)) = false := by simp; omega
        clear hjk
        go_wp2
        go_roundg (n - (j + 1))
        case measure => omega
        case rel => exact ⟨j + 1, f1, Nat.le_refl _, by omega, by go_num, by rw [HE.out]; exact HS⟩
      · as_aux_lemma =>
        have q1 : ((j : Int) != (k : Nat)) = true := by simp; omega
        obtain ⟨p0, hp0⟩ : ∃ p, k * n = p := ⟨_, rfl⟩
        obtain ⟨p, hp⟩ : ∃ p, p0 + j = p := ⟨_, rfl⟩
        have hpn : p < n * n := by rw [← hp, ← hp0]; exact sq_lt hk hlt
        have hn25 := sq_le hn5
        have m1 : IntKind.i64.wrap ((k : Int) * (n : Nat)) = (p0 : Nat) := by
          rw [show (k : Int) * (n : Nat) = ((k * n : Nat) : Int) by push_cast; rfl, hp0]
          exact IntWalk.i64_in _ (by omega)
        have m2 : IntKind.i64.wrap ((p0 : Int) + (j : Nat)) = (p : Nat) := by
          rw [show (p0 : Int) + (j : Nat) = ((p0 + j : Nat) : Int) by push_cast; rfl, hp]
          exact IntWalk.i64_in _ (by omega)
        have m3 : (0 : Int) ≤ (p : Nat) := by omega
        have m4 : ((p : Nat) : Int).toNat = p := by omega
        have m5 : (p : Int) < ((n * n : Nat) : Int) := by omega
        obtain ⟨row, hrow⟩ : ∃ row, (Pl.recW n k j b.Ways)[p]? = some row := ⟨_, List.getElem?_eq_getElem (by rw [Pl.recW_len, HI.out.wa, HN.out]; exact hpn)⟩
        have HE : Hid (Pl.recW n k (j + 1) b.Ways = (Pl.recW n k j b.Ways).set p (row ++ [0])) := Lib.hid (by
          show (if j = k then _ else _) = _
          rw [if_neg hjk, hp0, hp, hrow]; rfl)
        have hrl : row.length ≤ 1000 := by have := Pl.recW_row (n := n) (k := k) HI.out.wl j row (List.mem_of_getElem? hrow); omega
        have HROW := Lib.hid hrow
        obtain ⟨cs, fx, ⟨v, rfl, hown⟩, hfn, hfs, hc, hnext⟩ := HS.out.swap 2 rfl hrow
        have ec := hc 0 _ rfl
        rw [show p * Mm.way.size + 0 = p by show p * 1 + 0 = p; omega] at ec
        obtain ⟨A5, n5', c5, rfl, hn5', _⟩ := hown.form
        have HNX := Lib.hid hnext
        have HGO := Lib.hid (And.intro hown hfn)
        have b1 := HS.out.cell (k := 1) 0 rfl rfl
        have nb : gb ∉ fx := fun hh => HS.out.apart (i := 0) (j := 2) rfl rfl (by decide) gb (by simp [Mm.tblk]) (hfs _ hh).1
        have ng : g1 ∉ fx := fun hh => (hfs _ hh).2 rfl
        have hgl : g1 < W.heap.size := (HS.out.sl 2 rfl).olt g1 (HS.out.sl 2 rfl).mem_block
        have zr := (HS.out.sl 2 rfl).frozen p
        clear hp0 hp hpn hjk hrow hown hfn hfs hc hnext hn5'
        go_upto_region 6 with fail
        refine Mm.wp_region_give 23 (fun i => match i with | 20 => some (Mm.gBs 3 [.int .i64 0]) | 21 => some (Mm.gWay (row ++ [0])) | _ => none) (fun i => match i with | 21 => [20, 24] | _ => []) (fun i => match i with | 24 => [Mm.tway row (.slice A5 n5' c5) fx] | _ => []) (F := fx) (D := fun w' => ∃ z : Cha fx W, w' = cha fx W z) (fun X us h => Mm.sep_cha h) (by kernel_rfl) (by kernel_rfl) (by kernel_rfl) (Mm.sep_eq ((Mm.SepF.one (Mm.tway row (.slice A5 n5' c5) fx) W HGO.out.1 HGO.out.2).step (Below.refl _ _).drew) rfl) ?_
        repeat (refine Mm.give_det (by rfl) (by rfl) (by rfl) (fun K hK => ?_); go_big_quiet_op; refine hK _ ?_; clear hK K)
        refine Mm.give_op0 51 (by rfl) rfl (by rfl) (by rfl) (by rfl) (by rfl) Mm.gBs_in (fun others X6 hX6 => ?_) ?_
        · go_wp2
          exact Mm.gvq_bs hX6 rfl rfl rfl
        rintro v ds' ⟨gs, rfl, rfl⟩
        simp only [Act.put, List.setIfInBounds_toArray, List.set_cons_succ, List.set_cons_zero]
        refine Mm.give_op2 52 20 24 (by rfl) rfl (by rfl) (by rfl) (by rfl) rfl (by rfl) (by rfl) (by rfl) _ _ rfl rfl Mm.gWay_in (fun others X6 hX6 => Mm.app_gvw rfl (.tmp 50) (.tmp 51) 22 rfl 52 rfl (by rfl) iI _ Try.underlying22 qI qI0 qI1 qI2 rfl rfl rfl (by constructor <;> omega) hrl hX6) ?_
        rintro v ds' ⟨A8, n8, c8, f8, rfl, rfl, hn8⟩
        simp only [Act.put, List.setIfInBounds_toArray, List.set_cons_succ, List.set_cons_zero]
        repeat (refine Mm.give_det (by rfl) (by rfl) (by rfl) (fun K hK => ?_); go_big_quiet_op; refine hK _ ?_; clear hK K)
        refine Mm.give_nil ?_
        rintro X7 hX7
        have hx7 : Mm.SepF fx W X7 [Mm.tway (row ++ [0]) (.slice A8 n8 c8) f8] := Mm.sep_eq hX7 rfl
        have d4 : X7.cell? ⟨g1, p, none⟩ = some (.slice A5 n5' c5) := (World.cell?_of_block (hx7.chg.block g1 hgl ng)).trans ec
        have z4 : X7.frozen? ⟨g1, p, none⟩ = false := (World.frozen?_of_block (hx7.chg.block g1 hgl ng)).trans zr
        obtain ⟨fp5, hs5⟩ := HNX.out X7 (row ++ [0]) 0 (.slice A8 n8 c8) f8 hx7.chg (by decide) ⟨_, rfl, hx7.at_ 0 rfl⟩ (hx7.ndat (i := 0) rfl) (fun b hb => hx7.new b (Mm.SepF.mem (i := 0) rfl hb))
        rw [show p * Mm.way.size + 0 = p by show p * 1 + 0 = p; omega] at hs5
        have HS5 := Lib.hid hs5
        clear hX7 hx7 hs5 ec b1 nb ng hgl zr
        go_wp2
        go_roundg (n - (j + 1))
        case measure => omega
        case rel => exact ⟨j + 1, fp5, Nat.le_refl _, by omega, by go_num, by rw [HE.out]; exact HS5⟩
    · obtain rfl : j = n := by omega
      have f1' : ¬ ((j : Nat) : Int) < (j : Nat) := by omega
      have HF : Hid (Pl.brec b k = ⟨b.Coins, Pl.recW j k j b.Ways, b.Kept.set k cv, b.Heard, b.Found⟩) := Lib.hid (by unfold Pl.brec Pl.coinAt; rw [HN.out, HCV.out]; rfl)
      go_wp2
      go_end0
      rw [HF.out]
      exact ⟨rfl, g0, g1, g2, g3, g4, c0, c1, c2, c3, c4, f0, f1, f2, f3, f4, HS.out⟩
end Go.Proofs.Ytpmeagchkcffoaa

/-
  Contract: an item taken out of a way, the program's ((*Bank).take). No conditions beyond those named.
-/
namespace Go.Proofs.Ytpmeagchkcffoaa
open Go.RowKit
attribute [local go_sem] und_cell cha_cell World.cell?_alloc_some
namespace Pl
theorem coinAt_of {b : Bank} {k : Nat} {v : Int} (h : b.Coins[k]? = some v) : coinAt b k = v := by unfold coinAt; rw [h]; rfl
theorem keptAt_of {b : Bank} {k : Nat} {v : Int} (h : b.Kept[k]? = some v) : keptAt b k = v := by unfold keptAt; rw [h]; rfl
theorem heardAt_of {b : Bank} {t f : Nat} {r : List Bool} {v : Bool} (h : b.Heard[t]? = some r) (g : r[f]? = some v) : heardAt b t f = v := by unfold heardAt; rw [h]; show (r[f]?).getD false = v; rw [g]; rfl
theorem foundAt_of {b : Bank} {f t : Nat} {r : List Int} {v : Int} (h : b.Found[f]? = some r) (g : r[t]? = some v) : foundAt b f t = v := by unfold foundAt; rw [h]; show (r[t]?).getD 0 = v; rw [g]; rfl
end Pl
set_option maxRecDepth 100000 in
set_option maxHeartbeats 4000000 in
theorem take_c (b : Bank) (q n f t gb : Nat) (x : Int) (F : List Nat) (w0 w : World) (rest : List Mm.Thing) (hS : BankS F w0 w gb n b rest) (hI : Pl.BI q b) (hn : b.Coins.length = n) (hf : f < n) (ht : t < n) (hx : 0 ≤ x ∧ x ≤ 50) (hq : q ≤ 900) :
    Calls Try.prog 61 #[.pointer (some ⟨gb, 0, none⟩), .int .i64 f, .int .i64 t, .int .i64 x] w fun e w' => e = .returned (.tuple #[]) ∧ BankS F w0 w' gb n (Pl.btake b f t x) rest := by
  have HI := Lib.hid hI
  have HN := Lib.hid hn
  have HBS := Lib.hid hS
  obtain ⟨g0, g1, g2, g3, g4, c0, c1, c2, c3, c4, f0, f1, f2, f3, f4, hs⟩ := hS
  have HS := Lib.hid hs
  have hn5 : n ≤ 5 := by rw [← hn]; exact hI.n5
  obtain ⟨cv, hcv⟩ : ∃ cv, b.Coins[t]? = some cv := ⟨_, List.getElem?_eq_getElem (by omega)⟩
  obtain ⟨kv, hkv⟩ : ∃ kv, b.Kept[t]? = some kv := ⟨_, List.getElem?_eq_getElem (by rw [hI.ke]; omega)⟩
  obtain ⟨hr, hhr⟩ : ∃ r, b.Heard[t]? = some r := ⟨_, List.getElem?_eq_getElem (by rw [hI.he]; omega)⟩
  obtain ⟨fr, hfr⟩ : ∃ r, b.Found[f]? = some r := ⟨_, List.getElem?_eq_getElem (by rw [hI.fo]; omega)⟩
  have hrl := hI.hr hr (List.mem_of_getElem? hhr)
  have frl := hI.fr fr (List.mem_of_getElem? hfr)
  obtain ⟨hv, hhv⟩ : ∃ v, hr[f]? = some v := ⟨_, List.getElem?_eq_getElem (by omega)⟩
  obtain ⟨fv, hfv⟩ : ∃ v, fr[t]? = some v := ⟨_, List.getElem?_eq_getElem (by omega)⟩
  have HCV := Lib.hid hcv
  have HKV := Lib.hid hkv
  have HHR := Lib.hid hhr
  have HFR := Lib.hid hfr
  have HHV := Lib.hid hhv
  have HFV := Lib.hid hfv
  have hcb := hI.cb cv (List.mem_of_getElem? hcv)
  have hfb := hI.fb fr (List.mem_of_getElem? hfr) fv (List.mem_of_getElem? hfv)
  have HKA := Lib.hid (Pl.keptAt_of hkv)
  have HHA := Lib.hid (Pl.heardAt_of hhr hhv)
  have ff1 : (0 : Int) ≤ (f : Nat) := by omega
  have ff2 : ((f : Nat) : Int).toNat = f := by omega
  have ff3 : (f : Int) < (n : Nat) := by omega
  have ft1 : (0 : Int) ≤ (t : Nat) := by omega
  have ft2 : ((t : Nat) : Int).toNat = t := by omega
  have ft3 : (t : Int) < (n : Nat) := by omega
  clear hs hI hn hcv hkv hhr hfr hhv hfv
  by_cases hx0 : 0 < x
  · have b0 := HS.out.cell (k := 0) 0 rfl rfl
    have d0 := int_ocell (HS.out.sl 1 rfl) (HS.out.ndat (i := 1) rfl) HCV.out
    have z0 := (HS.out.sl 1 rfl).frozen t
    obtain ⟨cw, hcw⟩ : ∃ cw, cv + x = cw := ⟨_, rfl⟩
    have m1 : IntKind.i64.wrap (cv + x) = cw := by rw [IntWalk.i64_in _ (by omega)]; exact hcw
    have HCI : Hid (Mm.I64 cw) := Lib.hid (by unfold Mm.I64; omega)
    have HAC : Hid (Pl.addCoin b t x = ⟨b.Coins.set t cw, b.Ways, b.Kept, b.Heard, b.Found⟩) := Lib.hid (by unfold Pl.addCoin; rw [Pl.coinAt_of HCV.out, hcw])
    obtain ⟨W1, hW1⟩ : ∃ W, w.setCell ⟨g0, t, none⟩ (.int .i64 cw) = W := ⟨_, rfl⟩
    have HS1 := Lib.hid ((HS.out.putInt (y := cw) 1 rfl HCV.out HCI.out).atW hW1)
    obtain ⟨fw, hfw⟩ : ∃ fw, fv + x = fw := ⟨_, rfl⟩
    have m2 : IntKind.i64.wrap (fv + x) = fw := by rw [IntWalk.i64_in _ (by omega)]; exact hfw
    have HFI : Hid (Mm.I64 fw) := Lib.hid (by unfold Mm.I64; omega)
    have HFA : Hid (Pl.foundAt b f t + x = fw) := Lib.hid (by rw [Pl.foundAt_of HFR.out HFV.out, hfw])
    clear hcw hfw hcb hfb
    go_enter Try.func61, Try.ntmps61
    go_upto_region 2 with fail
    clear hW1 b0 d0 z0 m1 HS
    have b2 := HS1.out.cell (k := 2) 0 rfl rfl
    have b3 := HS1.out.cell (k := 3) 0 rfl rfl
    have d2 := int_ocell (HS1.out.sl 3 rfl) (HS1.out.ndat (i := 3) rfl) HKV.out
    obtain ⟨gh, nh, ch, u0, fx0, e3, hnh, ⟨hu0, -, -⟩, e4, -, -⟩ := HS1.out.row (E := Mm.bool) (e' := 4) rfl 4 rfl HHR.out HHV.out
    injection hu0 with hu0 _
    subst hu0
    have fh1 : (f : Int) < (nh : Nat) := by have := HN.out; omega
    clear hnh
    by_cases hk0 : 0 ≤ kv
    · cases hvv : hv with
      | true =>
        as_aux_lemma =>
        have HF : Hid (Pl.btake b f t x = ⟨b.Coins.set t cw, b.Ways, b.Kept, b.Heard, b.Found⟩) := Lib.hid (by
          unfold Pl.btake
          rw [if_pos hx0, if_neg (by rw [HHA.out, hvv]; simp), HAC.out])
        rw [hvv] at e4
        clear hvv
        go_wp2
        exact bodyPost_ret (v := .tuple #[]) (by simp [results, Try.results61, go_sem]) rfl (by rw [HF.out]; exact ⟨rfl, g0, g1, g2, g3, g4, c0, c1, c2, c3, c4, f0, f1, f2, f3, f4, HS1.out⟩)
      | false =>
        as_aux_lemma =>
        have HF : Hid (Pl.btake b f t x = ⟨b.Coins.set t cw, b.Ways, b.Kept, b.Heard, b.Found.set f (fr.set t fw)⟩) := Lib.hid (by
          unfold Pl.btake
          rw [if_pos hx0, if_pos ⟨by rw [HKA.out]; exact hk0, by rw [HHA.out, hvv]⟩, HAC.out]
          unfold Pl.addFound
          rw [show Pl.foundAt ⟨b.Coins.set t cw, b.Ways, b.Kept, b.Heard, b.Found⟩ f t + x = fw from HFA.out]
          show Bank.mk _ _ _ _ (b.Found.set f (((b.Found[f]?).getD []).set t fw)) = _
          rw [HFR.out]; rfl)
        rw [hvv] at e4
        clear hvv
        go_upto_region 3 with fail
        clear b2 b3 d2 e3 e4 fh1
        have b4 := HS1.out.cell (k := 4) 0 rfl rfl
        obtain ⟨gq, nq, cq, u1, fx1, e5, hnq, ⟨hu1, -, -⟩, e6, z6, hnext⟩ := HS1.out.row (E := Mm.int) (e' := 3) rfl 5 rfl HFR.out HFV.out
        injection hu1 with hu1 _
        subst hu1
        have ft4 : (t : Int) < (nq : Nat) := by have := HN.out; omega
        obtain ⟨fp', hs5⟩ := hnext fw (.int .i64 fw) (fun cs fx ho => by obtain ⟨rfl, _, rfl⟩ := ho; exact ⟨rfl, HFI.out, rfl⟩)
        have HS5 := Lib.hid hs5
        clear hnext hs5 hnq
        go_wp2
        exact bodyPost_ret (v := .tuple #[]) (by simp [results, Try.results61, go_sem]) rfl (by rw [HF.out]; exact ⟨rfl, g0, g1, g2, g3, g4, c0, c1, c2, c3, c4, f0, f1, f2, f3, fp', HS5.out⟩)
    · as_aux_lemma =>
      have HF : Hid (Pl.btake b f t x = ⟨b.Coins.set t cw, b.Ways, b.Kept, b.Heard, b.Found⟩) := Lib.hid (by
        unfold Pl.btake
        rw [if_pos hx0, if_neg (by rw [HKA.out]; exact fun hh => hk0 hh.1), HAC.out])
      go_wp2
      exact bodyPost_ret (v := .tuple #[]) (by simp [results, Try.results61, go_sem]) rfl (by rw [HF.out]; exact ⟨rfl, g0, g1, g2, g3, g4, c0, c1, c2, c3, c4, f0, f1, f2, f3, f4, HS1.out⟩)
  · have b2 := HS.out.cell (k := 2) 0 rfl rfl
    have d2 := int_ocell (HS.out.sl 3 rfl) (HS.out.ndat (i := 3) rfl) HKV.out
    by_cases hk0 : kv < 0
    · as_aux_lemma =>
      have HF : Hid (Pl.btake b f t x = Pl.setHeard (Pl.brec b t) t f) := Lib.hid (by
        unfold Pl.btake
        rw [if_neg hx0, if_pos (by rw [HKA.out]; exact hk0)])
      have CR := record_c b q n t gb F w0 w rest HBS.out HI.out HN.out ht hq
      clear HS HBS
      go_enter Try.func61, Try.ntmps61
      go_upto_region 6 with (go_at_call 62; (with_reducible refine CR.mono ?_); clear CR; rintro e w3 ⟨rfl, g0, g1, g2, g3, g4, c0, c1, c2, c3, c4, f0, f1, f2, f3, f4, hs⟩; (have HS := Lib.hid hs); clear hs)
      clear b2 d2
      have b3 := HS.out.cell (k := 3) 0 rfl rfl
      obtain ⟨gh, nh, ch, u0, fx0, e3, hnh, ⟨hu0, -, -⟩, e4, z4, hnext⟩ := HS.out.row (E := Mm.bool) (e' := 4) rfl 4 rfl HHR.out HHV.out
      injection hu0 with hu0 _
      subst hu0
      have fh1 : (f : Int) < (nh : Nat) := by have := HN.out; omega
      obtain ⟨fp', hs5⟩ := hnext true (.bool true) (fun cs fx ho => by obtain ⟨rfl, _, rfl⟩ := ho; exact ⟨rfl, trivial, rfl⟩)
      have HS5 := Lib.hid hs5
      have HE : Hid (Pl.setHeard (Pl.brec b t) t f = ⟨(Pl.brec b t).Coins, (Pl.brec b t).Ways, (Pl.brec b t).Kept, b.Heard.set t (hr.set f true), (Pl.brec b t).Found⟩) := Lib.hid (by
        show Bank.mk _ _ _ (b.Heard.set t (((b.Heard[t]?).getD []).set f true)) _ = _
        rw [HHR.out]; rfl)
      clear hnext hs5 hnh
      go_wp2
      go_end0
      rw [HF.out, HE.out]
      exact ⟨rfl, g0, g1, g2, g3, g4, c0, c1, c2, c3, c4, f0, f1, f2, fp', f4, HS5.out⟩
    · as_aux_lemma =>
      have HF : Hid (Pl.btake b f t x = Pl.setHeard b t f) := Lib.hid (by
        unfold Pl.btake
        rw [if_neg hx0, if_neg (by rw [HKA.out]; exact hk0)])
      have b3 := HS.out.cell (k := 3) 0 rfl rfl
      obtain ⟨gh, nh, ch, u0, fx0, e3, hnh, ⟨hu0, -, -⟩, e4, z4, hnext⟩ := HS.out.row (E := Mm.bool) (e' := 4) rfl 4 rfl HHR.out HHV.out
      injection hu0 with hu0 _
      subst hu0
      have fh1 : (f : Int) < (nh : Nat) := by have := HN.out; omega
      obtain ⟨fp', hs5⟩ := hnext true (.bool true) (fun cs fx ho => by obtain ⟨rfl, _, rfl⟩ := ho; exact ⟨rfl, trivial, rfl⟩)
      have HS5 := Lib.hid hs5
      have HE : Hid (Pl.setHeard b t f = ⟨b.Coins, b.Ways, b.Kept, b.Heard.set t (hr.set f true), b.Found⟩) := Lib.hid (by
        show Bank.mk _ _ _ (b.Heard.set t (((b.Heard[t]?).getD []).set f true)) _ = _
        rw [HHR.out]; rfl)
      clear hnext hs5 hnh
      go_enter Try.func61, Try.ntmps61
      go_wp2
      go_end0
      rw [HF.out, HE.out]
      exact ⟨rfl, g0, g1, g2, g3, g4, c0, c1, c2, c3, c4, f0, f1, f2, fp', f4, HS5.out⟩
end Go.Proofs.Ytpmeagchkcffoaa

/-
  Contract: a step of a bank, the program's ((*Bank).step). No conditions beyond those named.
-/
namespace Go.Proofs.Ytpmeagchkcffoaa
open Go.RowKit
attribute [local go_sem] und_cell cha_cell World.cell?_alloc_some
theorem BankS.put {F : List Nat} {w0 w : World} {gb n g : Nat} {b : Bank} {rest : List Mm.Thing} (h : BankS F w0 w gb n b rest) (hg : w.heap.size = g) (t : TypeId) (cs : List Value) : BankS F w0 (w.alloc (.cells cs.toArray t)) gb n b (Mm.tblk g t cs :: rest) := by
  obtain ⟨g0, g1, g2, g3, g4, c0, c1, c2, c3, c4, f0, f1, f2, f3, f4, hs⟩ := h
  exact ⟨g0, g1, g2, g3, g4, c0, c1, c2, c3, c4, f0, f1, f2, f3, f4, (hs.alloc' hg t cs).permE (List.perm_middle (l₁ := [_, _, _, _, _, _]))⟩
theorem BankS.drop {F : List Nat} {w0 w : World} {gb n : Nat} {b : Bank} {t : Mm.Thing} {rest : List Mm.Thing} (h : BankS F w0 w gb n b (t :: rest)) : BankS F w0 w gb n b rest := by
  obtain ⟨g0, g1, g2, g3, g4, c0, c1, c2, c3, c4, f0, f1, f2, f3, f4, hs⟩ := h
  exact ⟨g0, g1, g2, g3, g4, c0, c1, c2, c3, c4, f0, f1, f2, f3, f4, (hs.permE (List.perm_middle (l₁ := [_, _, _, _, _, _]) (a := t) (l₂ := rest)).symm).tail⟩
namespace Pl
theorem wayAt_of {b : Bank} {k : Nat} {v : List Int} (h : b.Ways[k]? = some v) : wayAt b k = v := by unfold wayAt; rw [h]; rfl
theorem BI.pop {q p : Nat} {b : Bank} {x : Int} {r : List Int} (h : BI q b) (hp : b.Ways[p]? = some (x :: r)) : BI q (setWay b p r) := by
  have hm := List.mem_of_getElem? hp
  refine ⟨h.n1, h.n5, by show (b.Ways.set p r).length = _; rw [List.length_set]; exact h.wa, h.ke, h.he, h.fo, h.hr, h.fr, h.cb, h.kb, h.fb, fun y hy => ?_, fun y hy => ?_, fun i hi => ?_⟩
  · rcases List.mem_or_eq_of_mem_set hy with h1 | rfl
    · exact h.wl y h1
    · have := h.wl _ hm; simp at this; omega
  · rcases List.mem_or_eq_of_mem_set hy with h1 | rfl
    · exact h.wb y h1
    · exact fun c hc => h.wb _ hm c (List.mem_cons_of_mem _ hc)
  · have h1 := h.dg i hi
    show (b.Ways.set p r)[i * b.Coins.length + i]? = _
    by_cases he : p = i * b.Coins.length + i
    · rw [← he, hp] at h1; injection h1 with h1; cases h1
    · rw [List.getElem?_set_ne he]; exact h1
end Pl
set_option maxRecDepth 100000 in
set_option maxHeartbeats 4000000 in
theorem step_c (b : Bank) (s : SnapStep) (q n gb : Nat) (F : List Nat) (w0 w : World) (rest : List Mm.Thing) (hS : BankS F w0 w gb n b rest) (hI : Pl.BI q b) (hn : b.Coins.length = n) (hq : q ≤ 900) (hs1 : Mm.I64 s.Kind ∧ Mm.I64 s.From ∧ Mm.I64 s.To ∧ Mm.I64 s.Many) :
    Calls Try.prog 34 #[.pointer (some ⟨gb, 0, none⟩), .agg #[.int .i64 s.Kind, .int .i64 s.From, .int .i64 s.To, .int .i64 s.Many]] w fun e w' => e = .returned (.bool (Pl.bstep b s).2) ∧ BankS F w0 w' gb n (Pl.bstep b s).1 rest := by
  obtain ⟨kd, fr, tw, mn⟩ := s
  dsimp only at hs1 ⊢
  have HI := Lib.hid hI
  have HN := Lib.hid hn
  have hn5 : n ≤ 5 := by rw [← hn]; exact hI.n5
  have hn1 : 1 ≤ n := by rw [← hn]; exact hI.n1
  obtain ⟨gs, hgs⟩ : ∃ g, w.heap.size = g := ⟨_, rfl⟩
  obtain ⟨W1, hW1⟩ : ∃ W, w.alloc (.cells #[.int .i64 kd, .int .i64 fr, .int .i64 tw, .int .i64 mn] 53) = W := ⟨_, rfl⟩
  have hb1 := hS.put hgs 53 [.int .i64 kd, .int .i64 fr, .int .i64 tw, .int .i64 mn]
  rw [hW1] at hb1
  obtain ⟨g0, g1, g2, g3, g4, c0, c1, c2, c3, c4, f0, f1, f2, f3, f4, hs⟩ := hb1
  have HS := Lib.hid hs
  obtain ⟨n', hn'⟩ : ∃ n', n = n' + 1 := ⟨n - 1, by omega⟩
  have m0 : IntKind.i64.wrap ((n : Int) - 1) = (n' : Nat) := by rw [IntWalk.i64_in _ (by omega)]; omega
  have HMI : Hid (Mm.I64 mn) := Lib.hid hs1.2.2.2
  have HN' := Lib.hid hn'
  clear hS hI hn hs hn' hs1
  have b0 := HS.out.cell (k := 0) 0 rfl rfl
  have s0 := HS.out.cell (k := 0) 6 rfl rfl
  have s1 := HS.out.cell (k := 1) 6 rfl rfl
  have s2 := HS.out.cell (k := 2) 6 rfl rfl
  have s3 := HS.out.cell (k := 3) 6 rfl rfl
  have CA := within_c fr 0 (n' : Nat) W1
  have CB := within_c tw 0 (n' : Nat) W1
  by_cases hF : ¬ (0 ≤ fr ∧ fr < n)
  · as_aux_lemma =>
    have HF : Hid (Pl.bstep b ⟨kd, fr, tw, mn⟩ = (b, false)) := Lib.hid (by unfold Pl.bstep; exact if_pos (by rw [HN.out]; exact fun hh => hF ⟨hh.1, hh.2.1⟩))
    rw [show Pl.isIn fr 0 (n' : Nat) = false by unfold Pl.isIn; have := HN'.out; simp; omega] at CA
    clear hF CB
    go_enter Try.func34, Try.ntmps34
    go_wp2_with (go_at_call 56; (with_reducible refine CA.mono ?_); clear CA; rintro e w3 ⟨rfl, rfl⟩)
    go_ret
    exact ⟨ret_bool (by rw [HF.out]), by rw [HF.out]; exact BankS.drop ⟨g0, g1, g2, g3, g4, c0, c1, c2, c3, c4, f0, f1, f2, f3, f4, HS.out⟩⟩
  replace hF := Decidable.not_not.1 hF
  by_cases hT : ¬ (0 ≤ tw ∧ tw < n)
  · as_aux_lemma =>
    have HF : Hid (Pl.bstep b ⟨kd, fr, tw, mn⟩ = (b, false)) := Lib.hid (by unfold Pl.bstep; exact if_pos (by rw [HN.out]; exact fun hh => hT ⟨hh.2.2.1, hh.2.2.2⟩))
    rw [show Pl.isIn fr 0 (n' : Nat) = true by unfold Pl.isIn; have := HN'.out; simp; omega] at CA
    rw [show Pl.isIn tw 0 (n' : Nat) = false by unfold Pl.isIn; have := HN'.out; simp; omega] at CB
    clear hF hT
    go_enter Try.func34, Try.ntmps34
    go_wp2_with first
      | (go_at_call 56; (with_reducible refine CA.mono ?_); clear CA; rintro e w3 ⟨rfl, rfl⟩)
      | (go_at_call 56; (with_reducible refine CB.mono ?_); clear CB; rintro e w3 ⟨rfl, rfl⟩)
    go_ret
    exact ⟨ret_bool (by rw [HF.out]), by rw [HF.out]; exact BankS.drop ⟨g0, g1, g2, g3, g4, c0, c1, c2, c3, c4, f0, f1, f2, f3, f4, HS.out⟩⟩
  replace hT := Decidable.not_not.1 hT
  obtain ⟨f, rfl⟩ : ∃ f : Nat, fr = f := ⟨fr.toNat, by omega⟩
  obtain ⟨t, rfl⟩ : ∃ t : Nat, tw = t := ⟨tw.toNat, by omega⟩
  have hf : f < n := by omega
  have ht : t < n := by omega
  rw [show Pl.isIn (f : Nat) 0 (n' : Nat) = true by unfold Pl.isIn; have := HN'.out; simp; omega] at CA
  rw [show Pl.isIn (t : Nat) 0 (n' : Nat) = true by unfold Pl.isIn; have := HN'.out; simp; omega] at CB
  obtain ⟨p0, hp0⟩ : ∃ p, f * n = p := ⟨_, rfl⟩
  obtain ⟨p, hp⟩ : ∃ p, p0 + t = p := ⟨_, rfl⟩
  have hpn : p < n * n := by rw [← hp, ← hp0]; exact sq_lt hf ht
  have hn25 := sq_le hn5
  have m1 : IntKind.i64.wrap ((f : Int) * (n : Nat)) = (p0 : Nat) := by
    rw [show (f : Int) * (n : Nat) = ((f * n : Nat) : Int) by push_cast; rfl, hp0]
    exact IntWalk.i64_in _ (by omega)
  have m2 : IntKind.i64.wrap ((p0 : Int) + (t : Nat)) = (p : Nat) := by
    rw [show (p0 : Int) + (t : Nat) = ((p0 + t : Nat) : Int) by push_cast; rfl, hp]
    exact IntWalk.i64_in _ (by omega)
  have m3 : (0 : Int) ≤ (p : Nat) := by omega
  have m4 : ((p : Nat) : Int).toNat = p := by omega
  have m5 : (p : Int) < ((n * n : Nat) : Int) := by omega
  have HBS : Hid (∀ kd mn, Pl.bstep b ⟨kd, (f : Nat), (t : Nat), mn⟩ = if kd = 1 then
      (if 1 ≤ mn ∧ mn ≤ 50 ∧ mn ≤ Pl.coinAt b f ∧ ((t : Int) ≠ (f : Nat)) ∧ (Pl.wayAt b p).length < 39 then (Pl.setWay (Pl.addCoin b f (-mn)) p (Pl.wayAt b p ++ [mn]), true) else (b, false))
    else if kd = 2 then
      (match Pl.wayAt b p with
       | [] => (b, false)
       | x :: r => if mn = 0 then (Pl.btake (Pl.setWay b p r) f t x, true) else (b, false))
    else if kd = 3 then (if Pl.keptAt b f < 0 ∧ (t : Int) = 0 ∧ mn = 0 then (Pl.brec b f, true) else (b, false))
    else (b, false)) := Lib.hid (fun kd mn => by
      unfold Pl.bstep
      rw [if_neg (by rw [HN.out]; exact fun hh => hh ⟨hF.1, hF.2, hT.1, hT.2⟩)]
      simp only [Int.toNat_natCast]
      (rw [HN.out, hp0, hp]) <;> rfl)
  have ff1 : (0 : Int) ≤ (f : Nat) := by omega
  have ff2 : ((f : Nat) : Int).toNat = f := by omega
  have ff3 : (f : Int) < (n : Nat) := by omega
  obtain ⟨cv, hcv⟩ : ∃ cv, b.Coins[f]? = some cv := ⟨_, List.getElem?_eq_getElem (by have := HN.out; omega)⟩
  obtain ⟨kv, hkv⟩ : ∃ kv, b.Kept[f]? = some kv := ⟨_, List.getElem?_eq_getElem (by rw [HI.out.ke]; have := HN.out; omega)⟩
  obtain ⟨row, hrow⟩ : ∃ row, b.Ways[p]? = some row := ⟨_, List.getElem?_eq_getElem (by rw [HI.out.wa, HN.out]; exact hpn)⟩
  have HCV := Lib.hid hcv
  have HKV := Lib.hid hkv
  have HROW := Lib.hid hrow
  have HCA := Lib.hid (Pl.coinAt_of hcv)
  have HKA := Lib.hid (Pl.keptAt_of hkv)
  have HWA := Lib.hid (Pl.wayAt_of hrow)
  have hcb := HI.out.cb cv (List.mem_of_getElem? hcv)
  have hrl : row.length ≤ 900 := by have := HI.out.wl row (List.mem_of_getElem? hrow); omega
  clear hp0 hp hpn hcv hkv hrow hF hT
  go_enter Try.func34, Try.ntmps34
  go_upto_region 4 with first
    | (go_at_call 56; (with_reducible refine CA.mono ?_); clear CA; rintro e w3 ⟨rfl, rfl⟩)
    | (go_at_call 56; (with_reducible refine CB.mono ?_); clear CB; rintro e w3 ⟨rfl, rfl⟩)
  clear hW1 hgs b0 s0 m0
  have b1 := HS.out.cell (k := 1) 0 rfl rfl
  refine wp_region_und (by kernel_rfl) (by kernel_rfl) ?_
  repeat (go_big_quiet_step ((first | fail)))
  refine wpQuiet_nil ?_
  intro X hX
  replace HS := Lib.hid (HS.out.step hX)
  clear hX b1 s1 s2 s3 m1 m2
  have s0 := HS.out.cell (k := 0) 6 rfl rfl
  have s1 := HS.out.cell (k := 1) 6 rfl rfl
  have s2 := HS.out.cell (k := 2) 6 rfl rfl
  have s3 := HS.out.cell (k := 3) 6 rfl rfl
  by_cases hk1 : kd = 1
  · subst hk1
    have HB1 : Hid (Pl.bstep b ⟨1, (f : Nat), (t : Nat), mn⟩ = if 1 ≤ mn ∧ mn ≤ 50 ∧ mn ≤ Pl.coinAt b f ∧ ((t : Int) ≠ (f : Nat)) ∧ (Pl.wayAt b p).length < 39 then (Pl.setWay (Pl.addCoin b f (-mn)) p (Pl.wayAt b p ++ [mn]), true) else (b, false)) := Lib.hid (by rw [HBS.out, if_pos rfl])
    obtain ⟨cs, fx, ⟨v, rfl, hown⟩, hfn, hfs, hc, hnext⟩ := HS.out.swap 2 rfl HROW.out
    have ec := hc 0 _ rfl
    rw [show p * Mm.way.size + 0 = p by show p * 1 + 0 = p; omega] at ec
    obtain ⟨A5, n5', c5, rfl, hn5', hnc5, _⟩ := hown.form
    have HNX := Lib.hid hnext
    have HGO := Lib.hid (And.intro hown hfn)
    have HFS := Lib.hid hfs
    have HN5 := Lib.hid hn5'
    clear hown hfn hfs hc hnext hn5'
    have b0 := HS.out.cell (k := 0) 0 rfl rfl
    have d0 := int_ocell (HS.out.sl 1 rfl) (HS.out.ndat (i := 1) rfl) HCV.out
    go_upto_region 8 with fail
    have CM := fun z : Und X => und_same z (within_c mn 1 50 (und X z))
    by_cases hm : ¬ (1 ≤ mn ∧ mn ≤ 50)
    · as_aux_lemma =>
      have HF : Hid (Pl.bstep b ⟨1, (f : Nat), (t : Nat), mn⟩ = (b, false)) := Lib.hid (by rw [HB1.out]; exact if_neg (fun hh => hm ⟨hh.1, hh.2.1⟩))
      rw [show Pl.isIn mn 1 50 = false by unfold Pl.isIn; simp; omega] at CM
      clear hm
      refine wp_region_und (by kernel_rfl) (by kernel_rfl) ?_
      repeat (go_big_quiet_step ((first | (go_at_call 56; with_reducible exact CM _))))
      refine wpQuiet_nil ?_
      intro X hX
      replace HS := Lib.hid (HS.out.step hX)
      go_wp2
      go_ret
      exact ⟨ret_bool (by rw [HF.out]), by rw [HF.out]; exact BankS.drop ⟨g0, g1, g2, g3, g4, c0, c1, c2, c3, c4, f0, f1, f2, f3, f4, HS.out⟩⟩
    replace hm := Decidable.not_not.1 hm
    rw [show Pl.isIn mn 1 50 = true by unfold Pl.isIn; simp; omega] at CM
    by_cases hc : cv < mn
    · as_aux_lemma =>
      have HF : Hid (Pl.bstep b ⟨1, (f : Nat), (t : Nat), mn⟩ = (b, false)) := Lib.hid (by rw [HB1.out]; exact if_neg (fun hh => by have := hh.2.2.1; rw [HCA.out] at this; omega))
      have q1 : decide (cv < mn) = true := by simp [hc]
      clear hm
      refine wp_region_und (by kernel_rfl) (by kernel_rfl) ?_
      repeat (go_big_quiet_step ((first | (go_at_call 56; with_reducible exact CM _))))
      refine wpQuiet_nil ?_
      intro X hX
      replace HS := Lib.hid (HS.out.step hX)
      go_wp2
      go_ret
      exact ⟨ret_bool (by rw [HF.out]), by rw [HF.out]; exact BankS.drop ⟨g0, g1, g2, g3, g4, c0, c1, c2, c3, c4, f0, f1, f2, f3, f4, HS.out⟩⟩
    have q1 : decide (cv < mn) = false := by simp; omega
    by_cases hte : t = f
    · as_aux_lemma =>
      have HF : Hid (Pl.bstep b ⟨1, (f : Nat), (t : Nat), mn⟩ = (b, false)) := Lib.hid (by rw [HB1.out]; exact if_neg (fun hh => hh.2.2.2.1 (by rw [hte])))
      have q2 : ((t : Int) == (f : Nat)) = true := by simp [hte]
      clear hm hc hte
      refine wp_region_und (by kernel_rfl) (by kernel_rfl) ?_
      repeat (go_big_quiet_step ((first | (go_at_call 56; with_reducible exact CM _))))
      refine wpQuiet_nil ?_
      intro X hX
      replace HS := Lib.hid (HS.out.step hX)
      go_wp2
      go_ret
      exact ⟨ret_bool (by rw [HF.out]), by rw [HF.out]; exact BankS.drop ⟨g0, g1, g2, g3, g4, c0, c1, c2, c3, c4, f0, f1, f2, f3, f4, HS.out⟩⟩
    have q2 : ((t : Int) == (f : Nat)) = false := by simp; omega
    by_cases hl : 39 ≤ row.length
    · as_aux_lemma =>
      have HF : Hid (Pl.bstep b ⟨1, (f : Nat), (t : Nat), mn⟩ = (b, false)) := Lib.hid (by rw [HB1.out]; exact if_neg (fun hh => by have := hh.2.2.2.2; rw [HWA.out] at this; omega))
      have q3 : decide ((39 : Int) ≤ (n5' : Nat)) = true := by have := HN5.out; simp; omega
      clear hm hc hte hl
      refine wp_region_und (by kernel_rfl) (by kernel_rfl) ?_
      repeat (go_big_quiet_step ((first | (go_at_call 56; with_reducible exact CM _))))
      refine wpQuiet_nil ?_
      intro X hX
      replace HS := Lib.hid (HS.out.step hX)
      go_wp2
      go_ret
      exact ⟨ret_bool (by rw [HF.out]), by rw [HF.out]; exact BankS.drop ⟨g0, g1, g2, g3, g4, c0, c1, c2, c3, c4, f0, f1, f2, f3, f4, HS.out⟩⟩
    as_aux_lemma =>
    have HF : Hid (Pl.bstep b ⟨1, (f : Nat), (t : Nat), mn⟩ = (Pl.setWay (Pl.addCoin b f (-mn)) p (row ++ [mn]), true)) := Lib.hid (by
      rw [HB1.out, HWA.out]
      exact if_pos ⟨hm.1, hm.2, by rw [HCA.out]; omega, by omega, by omega⟩)
    have q3 : decide ((39 : Int) ≤ (n5' : Nat)) = false := by have := HN5.out; simp; omega
    obtain ⟨cw, hcw⟩ : ∃ cw, cv - mn = cw := ⟨_, rfl⟩
    have m7 : IntKind.i64.wrap (cv - mn) = cw := by rw [IntWalk.i64_in _ (by omega)]; exact hcw
    have HCI : Hid (Mm.I64 cw) := Lib.hid (by unfold Mm.I64; omega)
    have HE : Hid (Pl.setWay (Pl.addCoin b f (-mn)) p (row ++ [mn]) = ⟨b.Coins.set f cw, b.Ways.set p (row ++ [mn]), b.Kept, b.Heard, b.Found⟩) := Lib.hid (by
      unfold Pl.setWay Pl.addCoin
      rw [HCA.out, show cv + -mn = cw by omega])
    clear hm hc hte hl hcw
    refine wp_region_und (by kernel_rfl) (by kernel_rfl) ?_
    repeat (go_big_quiet_step ((first | (go_at_call 56; with_reducible exact CM _))))
    refine wpQuiet_nil ?_
    intro X hX
    replace HS := Lib.hid (HS.out.step hX)
    clear CM hX ec HNX HGO HFS HN5 b0 d0 s0 s1 s2 s3 q3
    have b0 := HS.out.cell (k := 0) 0 rfl rfl
    have d0 := int_ocell (HS.out.sl 1 rfl) (HS.out.ndat (i := 1) rfl) HCV.out
    have s1 := HS.out.cell (k := 1) 6 rfl rfl
    have s3 := HS.out.cell (k := 3) 6 rfl rfl
    go_upto_region 10 with fail
    clear q1 q2
    refine wp_region_und_tail 12 (by kernel_rfl) (by kernel_rfl) ?_
    simp only [List.take_succ_cons, List.take_zero, List.drop_succ_cons, List.drop_zero]
    repeat (go_big_quiet_step ((first | fail)))
    refine wpQuiet_nil ?_
    intro X hX
    replace HS := Lib.hid (HS.out.step hX)
    clear hX b0 d0 s1 s3 m7
    have d0 := int_ocell (HS.out.sl 1 rfl) (HS.out.ndat (i := 1) rfl) HCV.out
    have z0 := (HS.out.sl 1 rfl).frozen f
    obtain ⟨W9, hW9⟩ : ∃ W, X.setCell ⟨g0, f, none⟩ (.int .i64 cw) = W := ⟨_, rfl⟩
    replace HS := Lib.hid ((HS.out.putInt (y := cw) 1 rfl HCV.out HCI.out).atW hW9)
    go_upto_region 11 with fail
    clear hW9 d0 z0
    obtain ⟨cs, fx, ⟨v, rfl, hown⟩, hfn, hfs, hc, hnext⟩ := HS.out.swap 2 rfl HROW.out
    have ec := hc 0 _ rfl
    rw [show p * Mm.way.size + 0 = p by show p * 1 + 0 = p; omega] at ec
    obtain ⟨A5, n5', c5, rfl, hn5', hnc5, _⟩ := hown.form
    have HNX := Lib.hid hnext
    have HGO := Lib.hid (And.intro hown hfn)
    have HFS := Lib.hid hfs
    have HN5 := Lib.hid hn5'
    clear hown hfn hfs hc hnext hn5'
    obtain ⟨iI, qI, qI0, qI1, qI2⟩ := info_parts Try.infoIntB
    have s3 := HS.out.cell (k := 3) 6 rfl rfl
    have nb : gs ∉ fx := fun hh => HS.out.apart (i := 6) (j := 2) rfl rfl (by decide) gs (by simp [Mm.tblk]) (HFS.out _ hh).1
    have ng : g1 ∉ fx := fun hh => (HFS.out _ hh).2 rfl
    have hgl : g1 < W9.heap.size := (HS.out.sl 2 rfl).olt g1 (HS.out.sl 2 rfl).mem_block
    have zr := (HS.out.sl 2 rfl).frozen p
    clear hnc5
    refine Mm.wp_region_give 9 (fun i => match i with | 6 => some (Mm.gBs 3 [.int .i64 mn]) | 7 => some (Mm.gWay (row ++ [mn])) | _ => none) (fun i => match i with | 7 => [6, 10] | _ => []) (fun i => match i with | 10 => [Mm.tway row (.slice A5 n5' c5) fx] | _ => []) (F := fx) (D := fun w' => ∃ z : Cha fx W9, w' = cha fx W9 z) (fun X us h => Mm.sep_cha h) (by kernel_rfl) (by kernel_rfl) (by kernel_rfl) (Mm.sep_eq ((Mm.SepF.one (Mm.tway row (.slice A5 n5' c5) fx) W9 HGO.out.1 HGO.out.2).step (Below.refl _ _).drew) rfl) ?_
    repeat (refine Mm.give_det (by rfl) (by rfl) (by rfl) (fun K hK => ?_); go_big_quiet_op; refine hK _ ?_; clear hK K)
    refine Mm.give_op0 92 (by rfl) rfl (by rfl) (by rfl) (by rfl) (by rfl) Mm.gBs_in (fun others X6 hX6 => ?_) ?_
    · go_wp2
      exact Mm.gvq_bs hX6 rfl rfl rfl
    rintro v ds' ⟨gs', rfl, rfl⟩
    simp only [Act.put, List.setIfInBounds_toArray, List.set_cons_succ, List.set_cons_zero]
    refine Mm.give_op2 93 6 10 (by rfl) rfl (by rfl) (by rfl) (by rfl) rfl (by rfl) (by rfl) (by rfl) _ _ rfl rfl Mm.gWay_in (fun others X6 hX6 => Mm.app_gvw rfl (.tmp 89) (.tmp 92) 22 rfl 93 rfl (by rfl) iI _ Try.underlying22 qI qI0 qI1 qI2 rfl rfl rfl HMI.out (by omega) hX6) ?_
    rintro v ds' ⟨A8, n8, c8, f8, rfl, rfl, hn8⟩
    simp only [Act.put, List.setIfInBounds_toArray, List.set_cons_succ, List.set_cons_zero]
    repeat (refine Mm.give_det (by rfl) (by rfl) (by rfl) (fun K hK => ?_); go_big_quiet_op; refine hK _ ?_; clear hK K)
    refine Mm.give_nil ?_
    rintro X7 hX7
    have hx7 : Mm.SepF fx W9 X7 [Mm.tway (row ++ [mn]) (.slice A8 n8 c8) f8] := Mm.sep_eq hX7 rfl
    have d4 : X7.cell? ⟨g1, p, none⟩ = some (.slice A5 n5' c5) := (World.cell?_of_block (hx7.chg.block g1 hgl ng)).trans ec
    have z4 : X7.frozen? ⟨g1, p, none⟩ = false := (World.frozen?_of_block (hx7.chg.block g1 hgl ng)).trans zr
    obtain ⟨fp5, hs5⟩ := HNX.out X7 (row ++ [mn]) 0 (.slice A8 n8 c8) f8 hx7.chg (by decide) ⟨_, rfl, hx7.at_ 0 rfl⟩ (hx7.ndat (i := 0) rfl) (fun b hb => hx7.new b (Mm.SepF.mem (i := 0) rfl hb))
    rw [show p * Mm.way.size + 0 = p by show p * 1 + 0 = p; omega] at hs5
    have HS5 := Lib.hid hs5
    clear hX7 hx7 hs5 ec s3 nb ng hgl zr
    go_wp2
    go_ret
    exact ⟨ret_bool (by rw [HF.out]), by rw [HF.out, HE.out]; exact BankS.drop ⟨g0, g1, g2, g3, g4, c0, c1, c2, c3, c4, f0, fp5, f2, f3, f4, HS5.out⟩⟩
  by_cases hk2 : kd = 2
  · subst hk2
    have HB2 : Hid (Pl.bstep b ⟨2, (f : Nat), (t : Nat), mn⟩ = match Pl.wayAt b p with
       | [] => (b, false)
       | x :: r => if mn = 0 then (Pl.btake (Pl.setWay b p r) f t x, true) else (b, false)) := Lib.hid (by rw [HBS.out, if_neg (by decide), if_pos rfl])
    rw [HWA.out] at HB2
    obtain ⟨cs, fx, ⟨v, rfl, hown⟩, hfn, hfs, hc, hnext⟩ := HS.out.swap 2 rfl HROW.out
    have ec := hc 0 _ rfl
    rw [show p * Mm.way.size + 0 = p by show p * 1 + 0 = p; omega] at ec
    obtain ⟨A5, n5', c5, rfl, hn5', hnc5, _⟩ := hown.form
    have HNX := Lib.hid hnext
    have HGO := Lib.hid (And.intro hown hfn)
    have HFS := Lib.hid hfs
    have HN5 := Lib.hid hn5'
    clear hown hfn hfs hc hnext hn5'
    rcases row with _ | ⟨x, r⟩
    · as_aux_lemma =>
      have HF : Hid (Pl.bstep b ⟨2, (f : Nat), (t : Nat), mn⟩ = (b, false)) := Lib.hid (by rw [HB2.out])
      have q1 : ((n5' : Int) == 0) = true := by have := HN5.out; simp at this; simp [this]
      go_wp2
      go_ret
      exact ⟨ret_bool (by rw [HF.out]), by rw [HF.out]; exact BankS.drop ⟨g0, g1, g2, g3, g4, c0, c1, c2, c3, c4, f0, f1, f2, f3, f4, HS.out⟩⟩
    have q1 : ((n5' : Int) == 0) = false := by have := HN5.out; simp at this; simp; omega
    by_cases hm : ¬ (mn = 0)
    · as_aux_lemma =>
      have HF : Hid (Pl.bstep b ⟨2, (f : Nat), (t : Nat), mn⟩ = (b, false)) := Lib.hid (by rw [HB2.out]; exact if_neg hm)
      have q2 : (mn != 0) = true := by simp [hm]
      clear hm
      go_wp2
      go_ret
      exact ⟨ret_bool (by rw [HF.out]), by rw [HF.out]; exact BankS.drop ⟨g0, g1, g2, g3, g4, c0, c1, c2, c3, c4, f0, f1, f2, f3, f4, HS.out⟩⟩
    replace hm := Decidable.not_not.1 hm
    have HF : Hid (Pl.bstep b ⟨2, (f : Nat), (t : Nat), mn⟩ = (Pl.btake (Pl.setWay b p r) f t x, true)) := Lib.hid (by rw [HB2.out]; exact if_pos hm)
    have q2 : (mn != 0) = false := by simp [hm]
    clear hm
    obtain ⟨g, o, rfl, hn6, hnc6, hxi, hcell, hpop, hpop1⟩ := HGO.out.1.pop
    have hx50 := HI.out.wb _ (List.mem_of_getElem? HROW.out) x List.mem_cons_self
    have z1 := (HS.out.sl 2 rfl).frozen p
    have HP1 := Lib.hid hpop
    have HP2 := Lib.hid hpop1
    have h1n : 1 ≤ n5' := by omega
    have h1n' : (0 : Int) < (n5' : Nat) := by omega
    have HN6 := Lib.hid hn6
    clear hpop hpop1 hn6
    clear hxi
    go_upto_region 15 with fail
    go_upto_region 16 with fail
    clear hcell
    by_cases hc1 : c5 = 1
    · as_aux_lemma =>
      subst hc1
      obtain rfl : n5' = 1 := by omega
      obtain ⟨XT, hXT⟩ : ∃ XT, X.setCell ⟨g1, p, none⟩ (.slice (some ⟨g, o, none⟩) 0 0) = XT := ⟨_, rfl⟩
      obtain ⟨fp5, hs5⟩ := HNX.out X r 0 (.slice (some ⟨g, o, none⟩) 0 0) fx (Mm.Chg.refl _ _) (by decide) ⟨_, rfl, HP2.out rfl⟩ HGO.out.2 (fun b hb => .inl hb)
      rw [show p * Mm.way.size + 0 = p by show p * 1 + 0 = p; omega, hXT] at hs5
      have CT := take_c (Pl.setWay b p r) q n f t gb x F w0 XT _ ⟨g0, g1, g2, g3, g4, c0, c1, c2, c3, c4, f0, fp5, f2, f3, f4, hs5⟩ (HI.out.pop HROW.out) HN.out hf ht hx50 hq
      have s1' := hs5.cell (k := 1) 6 rfl rfl
      have s2' := hs5.cell (k := 2) 6 rfl rfl
      clear hs5
      go_upto_region 17 with fail
      clear hXT
      go_wp2_with (go_at_call 61; (with_reducible refine CT.mono ?_); clear CT; rintro e w3 ⟨rfl, hs9⟩; (have HS9 := Lib.hid hs9); clear hs9)
      go_ret
      exact ⟨ret_bool (by rw [HF.out]), by rw [HF.out]; exact BankS.drop HS9.out⟩
    · as_aux_lemma =>
      obtain ⟨XT, hXT⟩ : ∃ XT, X.setCell ⟨g1, p, none⟩ (.slice (some ⟨g, o + 1, none⟩) (n5' - 1) (c5 - 1)) = XT := ⟨_, rfl⟩
      obtain ⟨fp5, hs5⟩ := HNX.out X r 0 (.slice (some ⟨g, o + 1, none⟩) (n5' - 1) (c5 - 1)) fx (Mm.Chg.refl _ _) (by decide) ⟨_, rfl, HP1.out⟩ HGO.out.2 (fun b hb => .inl hb)
      rw [show p * Mm.way.size + 0 = p by show p * 1 + 0 = p; omega, hXT] at hs5
      have CT := take_c (Pl.setWay b p r) q n f t gb x F w0 XT _ ⟨g0, g1, g2, g3, g4, c0, c1, c2, c3, c4, f0, fp5, f2, f3, f4, hs5⟩ (HI.out.pop HROW.out) HN.out hf ht hx50 hq
      have h2c : ¬ (1 = c5) := fun hh => hc1 hh.symm
      have s1' := hs5.cell (k := 1) 6 rfl rfl
      have s2' := hs5.cell (k := 2) 6 rfl rfl
      clear hs5
      go_upto_region 17 with fail
      clear hXT
      go_wp2_with (go_at_call 61; (with_reducible refine CT.mono ?_); clear CT; rintro e w3 ⟨rfl, hs9⟩; (have HS9 := Lib.hid hs9); clear hs9)
      go_ret
      exact ⟨ret_bool (by rw [HF.out]), by rw [HF.out]; exact BankS.drop HS9.out⟩
  by_cases hk3 : kd = 3
  · subst hk3
    have b2 := HS.out.cell (k := 2) 0 rfl rfl
    have d2 := int_ocell (HS.out.sl 3 rfl) (HS.out.ndat (i := 3) rfl) HKV.out
    have HB3 : Hid (Pl.bstep b ⟨3, (f : Nat), (t : Nat), mn⟩ = if Pl.keptAt b f < 0 ∧ (t : Int) = 0 ∧ mn = 0 then (Pl.brec b f, true) else (b, false)) := Lib.hid (by rw [HBS.out, if_neg (by decide), if_neg (by decide), if_pos rfl])
    go_upto_region 19 with fail
    by_cases hk0 : 0 ≤ kv
    · as_aux_lemma =>
      have HF : Hid (Pl.bstep b ⟨3, (f : Nat), (t : Nat), mn⟩ = (b, false)) := Lib.hid (by rw [HB3.out]; exact if_neg (fun hh => by have := hh.1; rw [HKA.out] at this; omega))
      have q1 : decide (0 ≤ kv) = true := by simp [hk0]
      refine wp_region_und (by kernel_rfl) (by kernel_rfl) ?_
      repeat (go_big_quiet_step ((first | fail)))
      refine wpQuiet_nil ?_
      intro X hX
      replace HS := Lib.hid (HS.out.step hX)
      go_wp2
      go_ret
      exact ⟨ret_bool (by rw [HF.out]), by rw [HF.out]; exact BankS.drop ⟨g0, g1, g2, g3, g4, c0, c1, c2, c3, c4, f0, f1, f2, f3, f4, HS.out⟩⟩
    have q1 : decide (0 ≤ kv) = false := by simp; omega
    by_cases ht0 : ¬ ((t : Int) = 0)
    · as_aux_lemma =>
      have HF : Hid (Pl.bstep b ⟨3, (f : Nat), (t : Nat), mn⟩ = (b, false)) := Lib.hid (by rw [HB3.out]; exact if_neg (fun hh => ht0 hh.2.1))
      have q2 : ((t : Int) != 0) = true := by simp; omega
      clear ht0
      refine wp_region_und (by kernel_rfl) (by kernel_rfl) ?_
      repeat (go_big_quiet_step ((first | fail)))
      refine wpQuiet_nil ?_
      intro X hX
      replace HS := Lib.hid (HS.out.step hX)
      go_wp2
      go_ret
      exact ⟨ret_bool (by rw [HF.out]), by rw [HF.out]; exact BankS.drop ⟨g0, g1, g2, g3, g4, c0, c1, c2, c3, c4, f0, f1, f2, f3, f4, HS.out⟩⟩
    replace ht0 := Decidable.not_not.1 ht0
    have q2 : ((t : Int) != 0) = false := by simp; omega
    by_cases hm : ¬ (mn = 0)
    · as_aux_lemma =>
      have HF : Hid (Pl.bstep b ⟨3, (f : Nat), (t : Nat), mn⟩ = (b, false)) := Lib.hid (by rw [HB3.out]; exact if_neg (fun hh => hm hh.2.2))
      have q3 : (mn != 0) = true := by simp [hm]
      clear ht0 hm
      refine wp_region_und (by kernel_rfl) (by kernel_rfl) ?_
      repeat (go_big_quiet_step ((first | fail)))
      refine wpQuiet_nil ?_
      intro X hX
      replace HS := Lib.hid (HS.out.step hX)
      go_wp2
      go_ret
      exact ⟨ret_bool (by rw [HF.out]), by rw [HF.out]; exact BankS.drop ⟨g0, g1, g2, g3, g4, c0, c1, c2, c3, c4, f0, f1, f2, f3, f4, HS.out⟩⟩
    replace hm := Decidable.not_not.1 hm
    as_aux_lemma =>
    have HF : Hid (Pl.bstep b ⟨3, (f : Nat), (t : Nat), mn⟩ = (Pl.brec b f, true)) := Lib.hid (by rw [HB3.out]; exact if_pos ⟨by rw [HKA.out]; omega, ht0, hm⟩)
    have q3 : (mn != 0) = false := by simp [hm]
    clear ht0 hm
    refine wp_region_und (by kernel_rfl) (by kernel_rfl) ?_
    repeat (go_big_quiet_step ((first | fail)))
    refine wpQuiet_nil ?_
    intro X hX
    replace HS := Lib.hid (HS.out.step hX)
    have s1 := HS.out.cell (k := 1) 6 rfl rfl
    have CR := record_c b q n f gb F w0 X _ ⟨g0, g1, g2, g3, g4, c0, c1, c2, c3, c4, f0, f1, f2, f3, f4, HS.out⟩ HI.out HN.out hf hq
    go_wp2_with (go_at_call 62; (with_reducible refine CR.mono ?_); clear CR; rintro e w3 ⟨rfl, hs9⟩; (have HS9 := Lib.hid hs9); clear hs9)
    go_ret
    exact ⟨ret_bool (by rw [HF.out]), by rw [HF.out]; exact BankS.drop HS9.out⟩
  · as_aux_lemma =>
    have HF : Hid (Pl.bstep b ⟨kd, (f : Nat), (t : Nat), mn⟩ = (b, false)) := Lib.hid (by rw [HBS.out, if_neg hk1, if_neg hk2, if_neg hk3])
    have q1 : (kd == 1) = false := by simp [hk1]
    have q2 : (kd == 2) = false := by simp [hk2]
    have q3 : (kd == 3) = false := by simp [hk3]
    clear hk1 hk2 hk3
    go_wp2
    go_ret
    exact ⟨ret_bool (by rw [HF.out]), by rw [HF.out]; exact BankS.drop ⟨g0, g1, g2, g3, g4, c0, c1, c2, c3, c4, f0, f1, f2, f3, f4, HS.out⟩⟩
end Go.Proofs.Ytpmeagchkcffoaa

/-
  Plain banks: what holds of a bank holds behind a step. No program in sight. No conditions.
-/
namespace Go.Proofs.Ytpmeagchkcffoaa
open Go.RowKit
namespace Pl
theorem BI.up {q : Nat} {b : Bank} (h : BI q b) : BI (q + 1) b :=
  ⟨h.n1, h.n5, h.wa, h.ke, h.he, h.fo, h.hr, h.fr, fun c hc => by have := h.cb c hc; omega, fun c hc => by have := h.kb c hc; omega, fun r hr c hc => by have := h.fb r hr c hc; omega, fun r hr => by have := h.wl r hr; omega, h.wb, h.dg⟩
theorem recW_at {n k : Nat} {W : List (List Int)} (hk : k < n) : ∀ t, t ≤ n → ∀ i, i < n → (recW n k t W)[i * n + i]? = W[i * n + i]?
  | 0, _, _, _ => rfl
  | t + 1, ht, i, hi => by
    unfold recW
    split
    · exact recW_at hk t (by omega) i hi
    · rename_i htk
      rw [List.getElem?_set_ne]
      · exact recW_at hk t (by omega) i hi
      · intro he
        by_cases hki : k = i
        · subst hki; omega
        · rcases Nat.lt_or_gt_of_ne hki with h1 | h1
          · have h2 : (k + 1) * n ≤ i * n := Nat.mul_le_mul_right n h1
            rw [Nat.add_mul] at h2; omega
          · have h2 : (i + 1) * n ≤ k * n := Nat.mul_le_mul_right n h1
            rw [Nat.add_mul] at h2; omega
theorem recW_val {n k : Nat} {W : List (List Int)} (h : ∀ r, r ∈ W → ∀ c, c ∈ r → 0 ≤ c ∧ c ≤ 50) : ∀ t r, r ∈ recW n k t W → ∀ c, c ∈ r → 0 ≤ c ∧ c ≤ 50
  | 0, r, hr => h r hr
  | t + 1, r, hr => by
    unfold recW at hr
    split at hr
    · exact recW_val h t r hr
    · rcases List.mem_or_eq_of_mem_set hr with h1 | h1
      · exact recW_val h t r h1
      · subst h1
        intro c hc
        rcases List.mem_append.1 hc with hc | hc
        · cases hg : (recW n k t W)[k * n + t]? with
          | none => rw [hg] at hc; simp at hc
          | some y => rw [hg] at hc; exact recW_val h t y (List.mem_of_getElem? hg) c hc
        · rw [List.mem_singleton.1 hc]; omega
/-- one marker a way at most -/
theorem recW_one {n k m : Nat} {W : List (List Int)} (h : ∀ r, r ∈ W → r.length ≤ m) : ∀ t, (∀ r, r ∈ recW n k t W → r.length ≤ m + 1) ∧ ∀ j, t ≤ j → ∀ r, (recW n k t W)[k * n + j]? = some r → r.length ≤ m
  | 0 => ⟨fun r hr => by have := h r hr; omega, fun j _ r hr => h r (List.mem_of_getElem? hr)⟩
  | t + 1 => by
    obtain ⟨h1, h2⟩ := recW_one (n := n) (k := k) h t
    unfold recW
    split
    · exact ⟨h1, fun j hj => h2 j (by omega)⟩
    · refine ⟨fun r hr => ?_, fun j hj r hr => ?_⟩
      · rcases List.mem_or_eq_of_mem_set hr with h3 | h3
        · exact h1 r h3
        · subst h3
          rw [List.length_append]
          cases hg : (recW n k t W)[k * n + t]? with
          | none => simp
          | some y => have := h2 t (Nat.le_refl _) y hg; simp; omega
      · rw [List.getElem?_set_ne (by omega)] at hr
        exact h2 j (by omega) r hr
theorem BI.recK {q k : Nat} {b : Bank} (h : BI q b) (hk : k < b.Coins.length) : BI (q + 1) (brec b k) := by
  have hu := h.up
  obtain ⟨cv, hcv⟩ : ∃ cv, b.Coins[k]? = some cv := ⟨_, List.getElem?_eq_getElem hk⟩
  refine ⟨h.n1, h.n5, by show (recW _ _ _ _).length = _; rw [recW_len]; exact h.wa, by show (b.Kept.set k _).length = _; rw [List.length_set]; exact h.ke, h.he, h.fo, h.hr, h.fr, hu.cb, fun c hc => ?_, hu.fb, (recW_one h.wl _).1, recW_val h.wb _, fun i hi => ?_⟩
  · rcases List.mem_or_eq_of_mem_set hc with h1 | h1
    · exact hu.kb c h1
    · rw [coinAt_of hcv] at h1
      subst h1
      have := hu.cb c (List.mem_of_getElem? hcv)
      omega
  · show (recW _ _ _ _)[i * b.Coins.length + i]? = _
    rw [recW_at hk _ (Nat.le_refl _) i hi]; exact h.dg i hi
theorem BI.hear {q t f : Nat} {b : Bank} (h : BI q b) (ht : t < b.Coins.length) : BI q (setHeard b t f) := by
  refine ⟨h.n1, h.n5, h.wa, h.ke, by show (b.Heard.set t _).length = _; rw [List.length_set]; exact h.he, h.fo, fun r hr => ?_, h.fr, h.cb, h.kb, h.fb, h.wl, h.wb, h.dg⟩
  rcases List.mem_or_eq_of_mem_set hr with h1 | h1
  · exact h.hr r h1
  · subst h1
    obtain ⟨y, hy⟩ : ∃ y, b.Heard[t]? = some y := ⟨_, List.getElem?_eq_getElem (by rw [h.he]; exact ht)⟩
    rw [List.length_set, hy]
    exact h.hr y (List.mem_of_getElem? hy)
theorem BI.coin {q t : Nat} {x : Int} {b : Bank} (h : BI q b) (ht : t < b.Coins.length) (hx : -coinAt b t ≤ x ∧ x ≤ 50) : BI (q + 1) (addCoin b t x) := by
  have hu := h.up
  obtain ⟨cv, hcv⟩ : ∃ cv, b.Coins[t]? = some cv := ⟨_, List.getElem?_eq_getElem ht⟩
  have hl : (addCoin b t x).Coins.length = b.Coins.length := by show (b.Coins.set t _).length = _; rw [List.length_set]
  refine ⟨by rw [hl]; exact h.n1, by rw [hl]; exact h.n5, by rw [hl]; exact h.wa, by rw [hl]; exact h.ke, by rw [hl]; exact h.he, by rw [hl]; exact h.fo, by rw [hl]; exact h.hr, by rw [hl]; exact h.fr, fun c hc => ?_, hu.kb, hu.fb, hu.wl, h.wb, by rw [hl]; exact h.dg⟩
  rcases List.mem_or_eq_of_mem_set hc with h1 | h1
  · exact hu.cb c h1
  · rw [coinAt_of hcv] at h1 hx
    have := h.cb cv (List.mem_of_getElem? hcv)
    omega
theorem BI.found {q f t : Nat} {x : Int} {b : Bank} (h : BI q b) (hf : f < b.Coins.length) (ht : t < b.Coins.length) (hx : 0 ≤ x ∧ x ≤ 50) : BI (q + 1) (addFound b f t x) := by
  have hu := h.up
  obtain ⟨y, hy⟩ : ∃ y, b.Found[f]? = some y := ⟨_, List.getElem?_eq_getElem (by rw [h.fo]; exact hf)⟩
  have hyl := h.fr y (List.mem_of_getElem? hy)
  obtain ⟨v, hv⟩ : ∃ v, y[t]? = some v := ⟨_, List.getElem?_eq_getElem (by omega)⟩
  have hvb := h.fb y (List.mem_of_getElem? hy) v (List.mem_of_getElem? hv)
  refine ⟨h.n1, h.n5, h.wa, h.ke, h.he, by show (b.Found.set f _).length = _; rw [List.length_set]; exact h.fo, h.hr, fun r hr => ?_, hu.cb, hu.kb, fun r hr => ?_, hu.wl, h.wb, h.dg⟩
  · rcases List.mem_or_eq_of_mem_set hr with h1 | h1
    · exact h.fr r h1
    · subst h1; rw [List.length_set, hy]; exact hyl
  · rcases List.mem_or_eq_of_mem_set hr with h1 | h1
    · exact hu.fb r h1
    · subst h1
      intro c hc
      rw [hy] at hc
      rcases List.mem_or_eq_of_mem_set hc with h2 | h2
      · have := h.fb y (List.mem_of_getElem? hy) c h2; omega
      · rw [foundAt_of hy hv] at h2; omega
theorem BI.takeB {q f t : Nat} {x : Int} {b : Bank} (h : BI q b) (hf : f < b.Coins.length) (ht : t < b.Coins.length) (hx : 0 ≤ x ∧ x ≤ 50) : BI (q + 1) (btake b f t x) := by
  obtain ⟨cv, hcv⟩ : ∃ cv, b.Coins[t]? = some cv := ⟨_, List.getElem?_eq_getElem ht⟩
  have hc0 := h.cb cv (List.mem_of_getElem? hcv)
  have hcn : -coinAt b t ≤ x ∧ x ≤ 50 := by rw [coinAt_of hcv]; omega
  unfold btake
  split
  · split
    · have h1 := h.coin ht hcn
      have h2 := h.found hf ht hx
      exact ⟨h1.n1, h1.n5, h1.wa, h1.ke, h1.he, by show (b.Found.set f _).length = _; rw [List.length_set]; exact h1.fo, h1.hr, by rw [show (addFound (addCoin b t x) f t x).Coins.length = b.Coins.length by show (b.Coins.set t _).length = _; rw [List.length_set]]; exact h2.fr, h1.cb, h1.kb, h2.fb, h1.wl, h1.wb, h1.dg⟩
    · exact h.coin ht hcn
  · split
    · exact (h.recK ht).hear ht
    · exact h.up.hear ht
theorem BI.step {q : Nat} {b : Bank} (h : BI q b) (s : SnapStep) : BI (q + 1) (bstep b s).1 := by
  unfold bstep
  dsimp only
  split
  · exact h.up
  rename_i hg
  replace hg := Decidable.not_not.1 hg
  have hf : s.From.toNat < b.Coins.length := by omega
  have ht : s.To.toNat < b.Coins.length := by omega
  split
  · split
    · rename_i hc
      obtain ⟨c1, c2, c3, c4, c5⟩ := hc
      have h1 := h.coin (x := -s.Many) hf ⟨by omega, by omega⟩
      have hl : (addCoin b s.From.toNat (-s.Many)).Coins.length = b.Coins.length := by show (b.Coins.set _ _).length = _; rw [List.length_set]
      have hp := sq_lt hf ht
      obtain ⟨row, hrow⟩ : ∃ row, b.Ways[s.From.toNat * b.Coins.length + s.To.toNat]? = some row := ⟨_, List.getElem?_eq_getElem (by rw [h.wa]; exact hp)⟩
      refine ⟨h1.n1, h1.n5, by show (b.Ways.set _ _).length = _; rw [List.length_set]; exact h1.wa, h1.ke, h1.he, h1.fo, h1.hr, h1.fr, h1.cb, h1.kb, h1.fb, fun r hr => ?_, fun r hr => ?_, fun i hi => ?_⟩
      · rcases List.mem_or_eq_of_mem_set hr with h3 | h3
        · exact h1.wl r h3
        · subst h3
          rw [wayAt_of hrow, List.length_append]
          have := h.wl row (List.mem_of_getElem? hrow)
          simp; omega
      · rcases List.mem_or_eq_of_mem_set hr with h3 | h3
        · exact h.wb r h3
        · subst h3
          intro c hc
          rw [wayAt_of hrow] at hc
          rcases List.mem_append.1 hc with hc | hc
          · exact h.wb row (List.mem_of_getElem? hrow) c hc
          · rw [List.mem_singleton.1 hc]; omega
      · have hi' : i < b.Coins.length := Nat.lt_of_lt_of_le hi (Nat.le_of_eq hl)
        show (b.Ways.set _ _)[i * (addCoin b s.From.toNat (-s.Many)).Coins.length + i]? = _
        rw [hl, List.getElem?_set_ne]
        · exact h.dg i hi'
        · intro he
          generalize b.Coins.length = n at he hf ht hi'
          generalize hff : s.From.toNat = f at he hf
          generalize htt : s.To.toNat = t at he ht
          have hft : f ≠ t := fun e => c4 (by omega)
          by_cases hfi : f = i
          · subst hfi; omega
          · rcases Nat.lt_or_gt_of_ne hfi with h3 | h3
            · have h2 : (f + 1) * n ≤ i * n := Nat.mul_le_mul_right n h3
              rw [Nat.add_mul] at h2; omega
            · have h2 : (i + 1) * n ≤ f * n := Nat.mul_le_mul_right n h3
              rw [Nat.add_mul] at h2; omega
    · exact h.up
  split
  · have hp := sq_lt hf ht
    obtain ⟨row, hrow⟩ : ∃ row, b.Ways[s.From.toNat * b.Coins.length + s.To.toNat]? = some row := ⟨_, List.getElem?_eq_getElem (by rw [h.wa]; exact hp)⟩
    rw [wayAt_of hrow]
    cases row with
    | nil => exact h.up
    | cons x r =>
      dsimp only
      split
      · exact (h.pop hrow).takeB hf ht (h.wb _ (List.mem_of_getElem? hrow) x List.mem_cons_self)
      · exact h.up
  split
  · split
    · exact h.recK hf
    · exact h.up
  · exact h.up
end Pl
end Go.Proofs.Ytpmeagchkcffoaa

/-
  Contract: slices.Repeat of one number, up to five times. No conditions beyond those named.
-/
namespace Go.Proofs.Ytpmeagchkcffoaa
open Go.RowKit
attribute [local go_sem] und_cell cha_cell World.cell?_alloc_some
set_option maxRecDepth 100000 in
theorem mul64_c (n : Nat) (h : n = 1 ∨ n = 2 ∨ n = 3 ∨ n = 4 ∨ n = 5) (w : World) :
    Calls Try.prog 74 #[.int .u64 1, .int .u64 n] w fun e w' => e = .returned (.tuple #[.int .u64 0, .int .u64 n]) ∧ w = w' := by
  rcases h with rfl | rfl | rfl | rfl | rfl
  all_goals
    go_enter Try.func74, Try.ntmps74
    go_wp2
    exact bodyPost_ret (v := .tuple #[.int .u64 0, .int .u64 _]) (by simp [results, Try.results74, go_sem]; decide +kernel) rfl ⟨rfl, rfl⟩
set_option maxRecDepth 100000 in
theorem mul_c (n : Nat) (h : n = 1 ∨ n = 2 ∨ n = 3 ∨ n = 4 ∨ n = 5) (w : World) :
    Calls Try.prog 70 #[.int .u64 1, .int .u64 n] w fun e w' => e = .returned (.tuple #[.int .u64 0, .int .u64 n]) ∧ w = w' := by
  have C := mul64_c n h w
  clear h
  go_enter Try.func70, Try.ntmps70
  go_wp2_with (go_at_call 74; (with_reducible refine C.mono ?_); clear C; rintro e w1 ⟨rfl, rfl⟩)
  exact bodyPost_ret (v := .tuple #[.int .u64 0, .int .u64 n]) (by simp [results, Try.results70, go_sem]) rfl ⟨rfl, rfl⟩
/-- what Repeat lays: m copies, then zeros -/
def repCells (x : Int) (m n : Nat) : List Value := List.replicate m (.int .i64 x) ++ List.replicate (n - m) (.int .i64 0)
theorem repCells_get {x : Int} {m n j : Nat} (h : j < m) : (repCells x m n)[j]? = some (.int .i64 x) := by
  unfold repCells
  rw [List.getElem?_append_left (by simpa using h), List.getElem?_replicate, if_pos h]
theorem repCells_len {x : Int} {m n : Nat} (h : m ≤ n) : (repCells x m n).length = n := by unfold repCells; simp; omega
theorem repCells_full (x : Int) (n : Nat) : repCells x n n = List.replicate n (.int .i64 x) := by unfold repCells; simp
theorem setCells_rep {g n : Nat} {t : TypeId} {x : Int} : ∀ (k m : Nat), m + k ≤ n → ∀ {w : World}, Mm.Blk w g t (repCells x m n) → Mm.Blk (w.setCells g m (List.replicate k (.int .i64 x))) g t (repCells x (m + k) n)
  | 0, m, _, _, h => h
  | k + 1, m, hk, w, h => by
    rw [List.replicate_succ]
    show Mm.Blk ((w.setCell ⟨g, m, none⟩ (.int .i64 x)).setCells g (m + 1) (List.replicate k (.int .i64 x))) g t (repCells x (m + (k + 1)) n)
    rw [show m + (k + 1) = m + 1 + k by omega]
    refine setCells_rep (n := n) k (m + 1) (by omega) ?_
    have h1 := h.set_ m (.int .i64 x)
    have e : (repCells x m n).set m (.int .i64 x) = repCells x (m + 1) n := by
      unfold repCells
      rw [List.set_append_right _ _ (by simp), List.length_replicate, Nat.sub_self]
      obtain ⟨d, hd⟩ : ∃ d, n - m = d + 1 := ⟨n - m - 1, by omega⟩
      rw [hd, show n - (m + 1) = d by omega, List.replicate_succ, List.set_cons_zero, List.replicate_succ', List.append_assoc]
      rfl
    rw [e] at h1
    exact h1
theorem setCells_chg {g : Nat} : ∀ (l : List Value) (o : Nat) (w : World), Mm.Chg [g] w (w.setCells g o l)
  | [], _, w => Mm.Chg.refl _ _
  | v :: l, o, w => ((Mm.Chg.refl [g] w).setCell (p := ⟨g, o, none⟩) (by simp) v).trans (setCells_chg l (o + 1) _)
theorem make_intsB (n : Nat) (h5 : n = 1 ∨ n = 2 ∨ n = 3 ∨ n = 4 ∨ n = 5) (W : World) : (Instr.makeSlice 22 (.int .i64 n) (.int .i64 n)).run Try.prog W = .ok (.slice (some ⟨W.heap.size, 0, none⟩) n n) (W.alloc (.cells (Array.replicate n (.int .i64 0)) 3)) := by
  rcases h5 with rfl | rfl | rfl | rfl | rfl
  all_goals kernel_rfl
theorem szIntB : (Try.prog.info? 3).map (·.size) = some 1 := by kernel_rfl
set_option maxRecDepth 100000 in
set_option maxHeartbeats 4000000 in
theorem repeat_c (gb n : Nat) (x : Int) (w : World) (hb : Mm.Blk w gb 3 [.int .i64 x]) (h5 : n = 1 ∨ n = 2 ∨ n = 3 ∨ n = 4 ∨ n = 5) :
    Calls Try.prog 60 #[.slice (some ⟨gb, 0, none⟩) 1 1, .int .i64 n] w fun e w' => ∃ g, e = .returned (.slice (some ⟨g, 0, none⟩) n n) ∧ Below w.heap.size w w' ∧ w.heap.size ≤ g ∧ Mm.Blk w' g 3 (List.replicate n (.int .i64 x)) := by
  have CM := mul_c n h5 w
  have hn1 : 1 ≤ n := by omega
  have hn5 : n ≤ 5 := by omega
  have c1 : IntKind.u64.wrap (n : Int) = (n : Int) := by rcases h5 with rfl | rfl | rfl | rfl | rfl <;> rfl
  have c2 : IntKind.i64.wrap (n : Int) = (n : Int) := IntWalk.i64_in _ (by omega)
  have HM := make_intsB n h5 w
  clear h5
  have d0 := hb.cell (i := 0) rfl
  obtain ⟨g, hg⟩ : ∃ g, w.heap.size = g := ⟨_, rfl⟩
  obtain ⟨W1, hW1⟩ : ∃ W, w.alloc (.cells (Array.replicate n (.int .i64 0)) 3) = W := ⟨_, rfl⟩
  have hB1 : Mm.Blk W1 g 3 (repCells x 0 n) := by rw [← hW1, ← List.toArray_replicate]; exact Mm.Blk.new' w 3 (List.replicate n (.int .i64 0)) hg
  have hb1 : Below w.heap.size w W1 := by rw [← hW1]; exact below_new (Below.refl _ _) _
  have d1 := below_some hb1 d0
  have HC := fun ty => Mm.run_copy_k (P := Try.prog) W1 22 22 ty 3 1 g 0 n n ⟨gb, 0, none⟩ 1 1 [.int .i64 x] Try.underlying22 szIntB (by rw [show Nat.min 1 n = 1 from Nat.min_eq_left hn1]; rfl) (fun j v hj => by
    cases j with
    | zero => injection hj with hj; subst hj; exact d1
    | succ j => simp at hj) (fun j hj => by
    have : j = 0 := by simpa using hj
    subst this
    rw [hB1.cell (i := 0) (List.getElem?_eq_getElem (by rw [repCells_len (Nat.zero_le _)]; omega))]; rfl) (fun j _ => hB1.frozen _) (fun v hv => by rw [List.mem_singleton.1 hv]; rfl)
  simp only [show Nat.min 1 n = 1 from Nat.min_eq_left hn1] at HC
  obtain ⟨W2, hW2⟩ : ∃ W, W1.setCells g 0 [.int .i64 x] = W := ⟨_, rfl⟩
  have hB2 : Mm.Blk W2 g 3 (repCells x 1 n) := by rw [← hW2]; exact setCells_rep (x := x) 1 0 (by omega) hB1
  have hc2 : Mm.Chg [g] w W2 := by rw [← hW2]; exact (Mm.Chg.of_below hb1).trans (setCells_chg _ _ _)
  rw [hW2] at HC
  have HB2 := Lib.hid (And.intro hB2 hc2)
  have HGW := Lib.hid hg
  clear hB1 hb1 hB2 hc2 d1
  go_enter Try.func60, Try.ntmps60
  go_upto_region 7 with (go_at_call 70; (with_reducible refine CM.mono ?_); clear CM; rintro e w1 ⟨rfl, rfl⟩)
  go_wp2_with (at_builtin; refine wpList_copy_runI _ rfl _ _ 22 22 rfl _ _ rfl rfl (HC _) ?_)
  clear HM HC hW1 hW2 d0 hg c1 c2
  go_loopg [8] n (fun gg i wr => ∃ m : Nat, n - m ≤ gg ∧ 1 ≤ m ∧ m ≤ n ∧ i = .int .i64 m ∧ Hid (Mm.Blk wr g 3 (repCells x m n) ∧ Mm.Chg [g] w wr))
  case atStart => exact ⟨1, by omega, Nat.le_refl _, hn1, rfl, HB2⟩
  case round =>
    clear HB2
    obtain ⟨m, hgg, hm1, hmn, rfl, HB⟩ := hrel
    obtain ⟨W, rfl⟩ : ∃ W : World, W = wr := ⟨_, rfl⟩
    by_cases hlt : m < n
    · obtain ⟨k, hk⟩ : ∃ k, Nat.min m (n - m) = k := ⟨_, rfl⟩
      have hk1 : 1 ≤ k := by rw [← hk]; exact Nat.le_min.2 ⟨hm1, by omega⟩
      have hk2 : k ≤ m := by rw [← hk]; exact Nat.min_le_left _ _
      have hk3 : k ≤ n - m := by rw [← hk]; exact Nat.min_le_right _ _
      have hbd : Mm.Blk W.drew g 3 (repCells x m n) := HB.out.1
      have HC := fun ty => Mm.run_copy_k (P := Try.prog) W.drew 22 22 ty 3 1 g m (n - m) (n - m) ⟨g, 0, none⟩ m n (List.replicate k (.int .i64 x)) Try.underlying22 szIntB (by rw [hk]; simp) (fun j v hj => by
        have hjk : j < k := by have := (List.getElem?_eq_some_iff.1 hj).1; simpa using this
        rw [List.getElem?_replicate, if_pos hjk] at hj
        injection hj with hj
        subst hj
        rw [Mm.add0]
        exact hbd.cell (repCells_get (by omega))) (fun j hj => by
        have hjk : j < k := by simpa using hj
        rw [hbd.cell (i := m + j) (List.getElem?_eq_getElem (by rw [repCells_len hmn]; omega))]; rfl) (fun j _ => hbd.frozen _) (fun v hv => by rw [(List.mem_replicate.1 hv).2]; rfl)
      rw [hk] at HC
      obtain ⟨W5, hW5⟩ : ∃ V, W.drew.setCells g m (List.replicate k (.int .i64 x)) = V := ⟨_, rfl⟩
      rw [hW5] at HC
      have HB5 : Hid (Mm.Blk W5 g 3 (repCells x (m + k) n) ∧ Mm.Chg [g] w W5) := Lib.hid ⟨by rw [← hW5]; exact setCells_rep k m (by omega) hbd, by rw [← hW5]; exact (HB.out.2.trans (Mm.Chg.of_below (Below.refl _ _).drew)).trans (setCells_chg _ _ _)⟩
      have f1 : (m : Int) < (n : Nat) := by omega
      have f2 : (0 : Int) ≤ (m : Nat) := by omega
      have f3 : ((m : Nat) : Int).toNat = m := by omega
      have f4 : ¬ (m = n) := by omega
      have f5 : IntKind.i64.wrap ((m : Int) + (k : Nat)) = ((m + k : Nat) : Int) := by rw [IntWalk.i64_in _ (by omega)]; push_cast; rfl
      clear hk hbd hW5
      go_upto_region 9 with fail
      go_region_law (refine step_copy_runI rfl _ _ 22 22 rfl (.slice (some ⟨g, m, none⟩) (n - m) (n - m)) (.slice (some ⟨g, 0, none⟩) m n) (by simp [Act.eval, Act.put]; omega) (by simp [Act.eval, Act.put]) (HC _) ?_)
      go_wp2
      go_roundg (n - (m + k))
      case measure => omega
      case rel => exact ⟨m + k, Nat.le_refl _, by omega, by omega, rfl, HB5⟩
    · obtain rfl : m = n := by omega
      have f1 : ¬ ((m : Nat) : Int) < (m : Nat) := by omega
      go_wp2
      go_ret
      refine ⟨g, rfl, ?_, by rw [HGW.out]; exact Nat.le_refl _, by rw [← repCells_full]; exact HB.out.1⟩
      have h := HB.out.2
      exact ⟨h.os, h.tape, h.output, h.size, fun k hk => h.block k hk (fun hh => by rw [List.mem_singleton.1 hh, ← HGW.out] at hk; omega)⟩
end Go.Proofs.Ytpmeagchkcffoaa

/-
  Contracts: slices.Clone where the elements lead nowhere. No conditions.
-/
namespace Go.Proofs.Ytpmeagchkcffoaa
open Go.RowKit
theorem Try.info_clInt : (Try.prog.info? 3).map (fun i => (i.zero, i.size, i.bytes)) = some (some (.int .i64 0), 1, 8) := by kernel_rfl
set_option maxHeartbeats 1000000 in
theorem clInt_c (l : List Int) (A : Option Addr) (n c : Nat) (w : World) (B : Nat) (hl : Mm.SlAt Mm.int w B l A n c) (hn : n ≤ 1048576) :
    Calls Try.prog 59 #[.slice A n c] w (Mm.NewSl Mm.int 3 w l) := by
  have hlen := Lib.hid hl.1
  have hcap := hl.2.1
  have hq : ∀ (w : World) (a : Option Addr) (n c n' c' : Nat), (binOp .eql 22 (.slice a n c) (.slice none n' c')).run Try.prog w = .ok (.bool a.isNone) w := fun w a n c n' c' => Lib.run_eql_slice_nil w _ _ a n c n' c' Try.underlying22
  cases A with
  | none =>
    have hc : c = 0 := hl.2.2.2.1 rfl
    have hl0 : l = [] := List.length_eq_zero_iff.1 (by rw [hlen.out]; omega)
    subst hl0
    clear hl
    go_enter Try.func59, Try.ntmps59
    go_wp2
    go_ret
    exact (Mm.Acc.nil (Below.refl _ _)).newsl
  | some a =>
    have HC := Lib.hid (Mm.flat_cells' (E := Mm.int) (enc := (fun x : Int => ([.int .i64 x] : List Value))) (fun x cs h => h.1) hl)
    have HLN := Lib.hid (Mm.flat_len (E := Mm.int) (enc := (fun x : Int => ([.int .i64 x] : List Value))) (fun x cs h => h.1) hl)
    have HOK : Hid (∀ (w' : World) x, x ∈ l → (Mm.int).own w' x ((fun x : Int => ([.int .i64 x] : List Value)) x) []) := fun w' x hx => by
      obtain ⟨i, hi, rfl⟩ := List.mem_iff_getElem.1 hx
      obtain ⟨y, b, off, cs, hy, _, _, ha, _⟩ := hl.get (k := i) (by rw [← hlen.out]; exact hi)
      rw [List.getElem?_eq_getElem hi] at hy
      injection hy with hy
      subst hy
      exact ⟨rfl, ha.2, rfl⟩
    have H1 : Hid (∀ u : Value, u ∈ l.flatMap (fun x : Int => ([.int .i64 x] : List Value)) → u.oneCell' = true) := fun u hu => by
      obtain ⟨x, hx, hu⟩ := List.mem_flatMap.1 hu
      exact Mm.int.one (HOK.out w x hx) u hu
    clear hl
    obtain ⟨i0, hi, hz0, hz1, hz2⟩ := info_parts Try.info_clInt
    go_enter Try.func59, Try.ntmps59
    go_wp2_with (at_builtin; refine wpList_append_own_at _ rfl _ _ 22 rfl w.heap.size 3 i0 (.int .i64 0) 1 8 Try.underlying22 hi hz0 hz1 hz2 rfl (by decide) _ _ _ rfl (World.ownsRow_made w #[] 0 (Nat.le_refl _) (Nat.zero_le _) rfl) a n c (l.flatMap (fun x : Int => ([.int .i64 x] : List Value))) rfl HLN.out (fun j u hj => Lib.cell?_alloc_some _ (HC.out j u hj)) H1.out (by unfold maxLen; omega) (by omega) (by simp) ?_; intro v' w1 hown hgrow hnil hat)
    have HA := Lib.hid (Mm.clone_post (E := Mm.int) (e := 3) (Nat.zero_add _) (List.nil_append _) hown hgrow (fun x hx => HOK.out _ x hx) hlen.out)
    clear hown hgrow hat hnil
    go_wp2
    go_ret
    exact HA.out.newsl
end Go.Proofs.Ytpmeagchkcffoaa

/-
  Contracts: whether coins are those of a new bank, both sides. No conditions beyond those named.
-/
namespace Go.Proofs.Ytpmeagchkcffoaa
open Go.RowKit
attribute [local go_sem] und_cell cha_cell World.cell?_alloc_some
def Pl.coinOk (a : Int) : Bool := Pl.isIn a 0 50
def Pl.coinsOk (l : List Int) : Bool := Pl.isIn l.length 1 5 && l.all Pl.coinOk
theorem Pl.any_snoc {α : Type} {p : α → Bool} {l : List α} {k : Nat} {x : α} (h : l[k]? = some x) : (l.take (k + 1)).any p = ((l.take k).any p || p x) := by
  rw [Mm.take_succ_some h, List.any_append]; simp
theorem coin1_c (a : Int) (w : World) : Calls Try.prog 58 #[.int .i64 a] w fun e w' => e = .returned (.bool (!Pl.coinOk a)) ∧ Below w.heap.size w w' := by
  have C := within_c a 0 50 w
  obtain ⟨b, hb⟩ : ∃ b, Pl.isIn a 0 50 = b := ⟨_, rfl⟩
  unfold Pl.coinOk
  rw [hb] at C ⊢
  clear hb
  go_enter Try.func58, Try.ntmps58
  go_wp2_with (go_at_call 56; (with_reducible refine C.mono ?_); clear C; rintro e w1 ⟨rfl, rfl⟩)
  cases b <;> (go_ret; exact ⟨rfl, Below.refl _ _⟩)
set_option maxRecDepth 100000 in
set_option maxHeartbeats 1000000 in
theorem coin2_c (l : List Int) (A : Option Addr) (n c : Nat) (w : World) (B : Nat) (hl : Mm.SlAt Mm.int w B l A n c) (hB : B ≤ w.heap.size) :
    Calls Try.prog 69 #[.slice A n c, .func (Fn.func 58) #[] #[]] w fun e w' => ∃ i : Int, e = .returned (.int .i64 i) ∧ decide (0 ≤ i) = l.any (fun x => !Pl.coinOk x) ∧ Below w.heap.size w w' := by
  have hn : n ≤ 9223372036854775807 := by have := hl.2.1; have := hl.2.2.1; unfold maxLen at this; omega
  have hlen : Hid (l.length = n) := hl.1
  have HL := Lib.hid hl
  clear hl
  go_enter Try.func69, Try.ntmps69
  go_wp2
  go_loopg [5, 8] n (fun g _ i wr => ∃ k : Nat, n - k ≤ g ∧ k ≤ n ∧ i = .int .i64 k ∧ Hid ((l.take k).any (fun x => !Pl.coinOk x) = false) ∧ Hid (Below w.heap.size w wr))
  case atStart => exact ⟨0, Nat.le_refl _, Nat.zero_le _, rfl, rfl, Below.refl _ _⟩
  case round =>
    obtain ⟨k, hgk, hk, rfl, HA, HB⟩ := hrel
    obtain ⟨W, rfl⟩ : ∃ W : World, W = wr := ⟨_, rfl⟩
    have hsz := HB.out.size
    by_cases hlt : k < n
    · (obtain ⟨x, b, off, hx, rfl, hb, ix, e0⟩ := int_get (HL.out.keep (w' := W) fun b hb => HB.out.block b (by omega)) hlt);(have C := coin1_c x W);(clear ix)
      have HN : Hid ((l.take (k + 1)).any (fun x => !Pl.coinOk x) = ((l.take k).any (fun x => !Pl.coinOk x) || (fun x => !Pl.coinOk x) x)) := Lib.hid (Pl.any_snoc hx)
      have HX := Lib.hid hx
      have f1 : (k : Int) < (n : Nat) := by omega
      have f2 : (0 : Int) ≤ (k : Nat) := by omega
      have f3 : ((k : Nat) : Int).toNat = k := by omega
      clear hx
      obtain ⟨pb, hs⟩ : ∃ pb, (fun x => !Pl.coinOk x) x = pb := ⟨_, rfl⟩
      have hs2 : (!Pl.coinOk x) = pb := hs
      rw [hs2] at C
      clear hs2
      cases pb with
      | false =>
        rw [hs, HA.out] at HN
        clear hs
        go_wp2_with (go_at_call 58; (with_reducible refine C.mono ?_); clear C; rintro e w1 ⟨rfl, hb1⟩)
        go_roundg (n - (k + 1))
        case measure => omega
        case rel => exact ⟨k + 1, Nat.le_refl _, by omega, by go_num, HN.out, below_step HB.out hb1⟩
      | true =>
        have HF : Hid (l.any (fun x => !Pl.coinOk x) = true) := Lib.hid (List.any_eq_true.2 ⟨x, List.mem_of_getElem? HX.out, hs⟩)
        clear hs
        go_wp2_with (go_at_call 58; (with_reducible refine C.mono ?_); clear C; rintro e w1 ⟨rfl, hb1⟩)
        go_ret
        exact ⟨k, rfl, by rw [HF.out]; exact decide_eq_true (by omega), below_step HB.out hb1⟩
    · have HF : Hid (l.any (fun x => !Pl.coinOk x) = false) := Lib.hid (by rw [← List.take_of_length_le (show l.length ≤ k by rw [hlen.out]; omega)]; exact HA.out)
      have f1 : ¬ (k : Int) < (n : Nat) := by omega
      go_wp2
      go_ret
      exact ⟨-1, rfl, by rw [HF.out]; rfl, HB.out⟩
set_option maxRecDepth 100000 in
theorem coin3_c (l : List Int) (A : Option Addr) (n c : Nat) (w : World) (B : Nat) (hl : Mm.SlAt Mm.int w B l A n c) (hB : B ≤ w.heap.size) :
    Calls Try.prog 57 #[.slice A n c, .func (Fn.func 58) #[] #[]] w fun e w' => e = .returned (.bool (l.any (fun x => !Pl.coinOk x))) ∧ Below w.heap.size w w' := by
  have C := coin2_c l A n c w B hl hB
  clear hl
  obtain ⟨b, hb⟩ : ∃ b, l.any (fun x => !Pl.coinOk x) = b := ⟨_, rfl⟩
  rw [hb] at C ⊢
  clear hb
  cases b with
  | false =>
    go_enter Try.func57, Try.ntmps57
    go_wp2_with (go_at_call 69; (with_reducible refine C.mono ?_); clear C; rintro e w1 ⟨i, rfl, hi, hb1⟩)
    go_ret
    exact ⟨rfl, hb1⟩
  | true =>
    go_enter Try.func57, Try.ntmps57
    go_wp2_with (go_at_call 69; (with_reducible refine C.mono ?_); clear C; rintro e w1 ⟨i, rfl, hi, hb1⟩)
    go_ret
    exact ⟨rfl, hb1⟩
theorem Pl.coins_any (l : List Int) : l.any (fun x => !Pl.coinOk x) = !l.all Pl.coinOk := by rw [List.all_eq_not_any_not, Bool.not_not]
set_option maxRecDepth 100000 in
theorem areCoins_c (l : List Int) (A : Option Addr) (n c : Nat) (w : World) (B : Nat) (hl : Mm.SlAt Mm.int w B l A n c) (hB : B ≤ w.heap.size) :
    Calls Try.prog 32 #[.slice A n c] w fun e w' => e = .returned (.bool (Pl.coinsOk l)) ∧ Below w.heap.size w w' := by
  have C := fun W (hb : Below w.heap.size w W) => coin3_c l A n c W B (hl.keep fun b hb' => hb.block b (by omega)) (by have := hb.size; omega)
  have CW := within_c (n : Int) 1 5 w
  have HF : Hid (Pl.coinsOk l = (Pl.isIn (n : Nat) 1 5 && l.all Pl.coinOk)) := Lib.hid (by unfold Pl.coinsOk; rw [hl.1])
  rw [Pl.coins_any] at C
  have C := C w (Below.refl _ _)
  obtain ⟨b1, h1⟩ : ∃ b, Pl.isIn (n : Nat) 1 5 = b := ⟨_, rfl⟩
  obtain ⟨b2, h2⟩ : ∃ b, l.all Pl.coinOk = b := ⟨_, rfl⟩
  rw [h1] at CW HF
  rw [h2] at C HF
  rw [HF.out]
  clear h1 h2 hl HF
  cases b1
  all_goals
    go_enter Try.func32, Try.ntmps32
    go_wp2_with first
      | (go_at_call 56; (with_reducible refine CW.mono ?_); clear CW; rintro e w1 ⟨rfl, rfl⟩)
      | (go_at_call 57; (with_reducible refine C.mono ?_); clear C; rintro e w2 ⟨rfl, hb2⟩)
    go_ret
    first
      | exact ⟨ret_bool (by simp), hb2⟩
      | exact ⟨ret_bool (by simp), Below.refl _ _⟩
end Go.Proofs.Ytpmeagchkcffoaa

/-
  Giving regions: a fresh row laid into a block of one, and appended to a slice of rows. No program in sight. No conditions.
-/
namespace Go.Proofs.Ytpmeagchkcffoaa
open Go.RowKit
namespace Mm
/-- a block of one row, and the row -/
def gRow {α : Type} (E : Rep α) (e e' : TypeId) (row : List α) : Rel := fun _ _ v ds => ∃ g A n c f, v = .slice (some ⟨g, 0, none⟩) 1 1 ∧ ds = [tblk g e [.slice A n c], tsl E e' row (.slice A n c) f]
theorem gRow_in {α : Type} {E : Rep α} {e e' : TypeId} {row : List α} {vals : List Value} {tk : List Thing} : ∃ v ds, gRow E e e' row vals tk v ds := ⟨_, _, 0, none, 0, 0, [], rfl, rfl⟩
section
variable {P : Program} {F : List Nat} {w X : World} {ops : Array Oper} {o : Oper} {a : Act} {others tk : List Thing} {vals : List Value}
theorem gvq_row {α : Type} {E : Rep α} {e e' : TypeId} {row : List α} {A : Option Addr} {n c : Nat} {f : List Nat} {g d : Nat} {df : List Deferred} {a' : Act} (h : SepF F w X (tsl E e' row (.slice A n c) f :: others)) (hg : X.heap.size = g) (hv : a'.tmps.getD d undef = .slice (some ⟨g, 0, none⟩) 1 1) (hdf : a'.defers = df) : GvQ F w (gRow E e e' row vals tk) d df others .normal a' (X.alloc (.cells [Value.slice A n c].toArray e)) :=
  ⟨rfl, hdf, _, ⟨_, _, _, _, _, hv, rfl⟩, h.alloc' hg e [.slice A n c]⟩
/-- append of a row -/
theorem app_gvr {α : Type} {E : Rep α} {e e' : TypeId} {xs : List (List α)} {row : List α} {A : Option Addr} {n c : Nat} {f : List Nat} {v : Value} {fp : List Nat} {gb : Nat} (hgd : o.guard = none) (s y : Operand) (t : TypeId)
    (ho : o.op = .call { callee := .builtin .append, args := #[s, y], argTypes := #[t, t] }) (d : Nat) (hd : o.dst = some d) (hs : Nat.blt d a.tmps.size = true) (i : TypeInfo) (z : Value) (bytes : Nat)
    (ht : P.underlying t = some (.slice e)) (hi : P.info? e = some i) (hz : i.zero = some z) (hsize : i.size = 1) (hby : i.bytes = bytes) (hzs : z.cells.size = 1)
    (hsv : a.eval s = v) (hyv : a.eval y = .slice (some ⟨gb, 0, none⟩) 1 1) (h63 : xs.length + 1 ≤ maxLen) (hbytes : (xs.length + 1) * bytes ≤ 140737488355328)
    (hS : SepF F w X ([tblk gb e [.slice A n c], tsl E e' row (.slice A n c) f, tsl (slice E e') e xs v fp] ++ others)) : wpList P ops (GvQ F w (gSl (slice E e') e (xs ++ [row]) vals tk) d a.defers others) [o] a X := by
  obtain ⟨l0, ho1, hnext⟩ := hS.push 2 1 (by decide) rfl rfl (Below.refl _ _) (x := row) (cx := [.slice A n c]) (fun W h => ⟨_, rfl, h⟩)
  have hb : Blk X gb e [.slice A n c] := hS.at_ 0 rfl
  unfold wpList
  rw [if_pos (by simp [Region.wanted, hgd])]
  refine .inl (wp_append_lies _ s y t ho 0 e i z 1 bytes ht hi hz hsize hby hzs (by omega) v xs.length l0 hsv ho1 ⟨gb, 0, none⟩ 1 1 [.slice A n c] hyv rfl ?_ (by simp [Value.oneCell']) (by omega) h63 hbytes (Nat.zero_le _) _ rfl ?_)
  · have h1 := World.news_of_block hb
    simpa using h1
  · intro gg cap w4 hown1 hgrow hat hlt
    obtain ⟨fp', hs4⟩ := hnext gg cap w4 hown1 hgrow hat
    have e1 : ((a.put o.dst (.slice (some ⟨gg, 0, none⟩) (xs.length + 1) cap)).tmps.getD d undef) = .slice (some ⟨gg, 0, none⟩) (xs.length + 1) cap := by
      rw [hd]; exact put_get (by simpa [Nat.blt_eq] using hs) _
    exact ⟨rfl, by rw [hd]; rfl, _, ⟨some ⟨gg, 0, none⟩, xs.length + 1, cap, fp', e1, rfl, by show _ = _; simp⟩, hs4.tail.tail⟩
end
end Mm
end Go.Proofs.Ytpmeagchkcffoaa

/-
  Things that a call owns: a step that is handed several of them. No conditions.
-/
namespace Go.Proofs.Ytpmeagchkcffoaa
namespace Mm
/-- several things as one -/
def tall (us : List Thing) : Thing := ⟨us.flatMap (·.fp), fun w => ∀ u, u ∈ us → u.holds w, fun hh k u hu => u.keep (hh u hu) fun b hb => k b (List.mem_flatMap.2 ⟨u, hu, hb⟩), fun hh b hb => by
  obtain ⟨u, hu, hb⟩ := List.mem_flatMap.1 hb
  exact u.lt (hh u hu) b hb⟩
theorem SepF.callSome {F : List Nat} {w0 wr W : World} {us rest vs : List Thing} (h : SepF F w0 wr (us ++ rest)) (hS : SepF (us.flatMap (·.fp)) wr W vs) : SepF F w0 W (vs ++ rest) := by
  have h1 : SepF F w0 wr (tall us :: rest) := h.conv (by simp [tall]) (List.forall_mem_cons.2 ⟨fun u hu => h.hold u (List.mem_append_left _ hu), fun u hu => h.hold u (List.mem_append_right _ hu)⟩)
  have h2 := h1.callAll (t := tall us) 0 rfl hS
  refine h2.conv ?_ (fun u hu => h2.hold u ?_)
  · simp only [List.set_cons_zero, List.flatMap_append, List.cons_append, List.flatMap_cons, tnil, List.nil_append]
    exact List.perm_append_comm
  · rcases List.mem_append.1 hu with hu | hu
    · exact List.mem_append_right _ hu
    · exact List.mem_append_left _ (List.mem_cons_of_mem _ hu)
/-- the same things, seen from where they are -/
theorem SepF.self {F : List Nat} {w0 wr : World} {us : List Thing} (h : SepF F w0 wr us) : SepF (us.flatMap (·.fp)) wr wr us :=
  ⟨Chg.refl _ _, h.nd, fun b hb => .inl hb, h.hold⟩
end Mm
end Go.Proofs.Ytpmeagchkcffoaa

/-
  Contract: a new bank, the program's (newBank). No conditions beyond those named.
-/
namespace Go.Proofs.Ytpmeagchkcffoaa
open Go.RowKit
attribute [local go_sem] und_cell cha_cell World.cell?_alloc_some
def Pl.newBank (l : List Int) : Bank := ⟨l, List.replicate (l.length * l.length) [], List.replicate l.length (-1), List.replicate l.length (List.replicate l.length false), List.replicate l.length (List.replicate l.length 0)⟩
theorem fm_repB {α β : Type} (f : α → List β) (a : α) (b : β) (n : Nat) (h : f a = [b]) : (List.replicate n a).flatMap f = List.replicate n b := by
  induction n with
  | zero => rfl
  | succ n ih => rw [List.replicate_succ, List.flatMap_cons, ih, h]; rfl
theorem make_waysB (n : Nat) (h5 : n = 1 ∨ n = 2 ∨ n = 3 ∨ n = 4 ∨ n = 5) (W : World) : (Instr.makeSlice 25 (.int .i64 ((n * n : Nat) : Int)) (.int .i64 ((n * n : Nat) : Int))).run Try.prog W = .ok (.slice (some ⟨W.heap.size, 0, none⟩) (n * n) (n * n)) (W.alloc (.cells (Array.replicate (n * n) (.slice none 0 0)) 22)) := by
  rcases h5 with rfl | rfl | rfl | rfl | rfl
  all_goals kernel_rfl
theorem ways0_own {X : World} {n : Nat} (h : n ≤ 25) : Mm.SlOwn Mm.way 22 (X.alloc (.cells (Array.replicate n (.slice none 0 0)) 22)) (List.replicate n []) (.slice (some ⟨X.heap.size, 0, none⟩) n n) [X.heap.size] :=
  Mm.SlOwn.of_blk (fun _ => [.slice none 0 0]) (by rw [show ((List.replicate n ([] : List Int)).flatMap (fun _ => [Value.slice none 0 0])) = List.replicate n (.slice none 0 0) from fm_repB _ _ _ n rfl]; have := Mm.Blk.new X 22 (List.replicate n (.slice none 0 0)); simpa using this) (fun x hx => by rw [(List.mem_replicate.1 hx).2]; exact ⟨_, rfl, .inl ⟨rfl, rfl, rfl⟩⟩) (by simp) (by unfold maxLen; omega)
theorem rep_own {W : World} {g n : Nat} {x : Int} (hx : Mm.I64 x) (hn : n ≤ 5) (h : Mm.Blk W g 3 (List.replicate n (.int .i64 x))) : Mm.SlOwn Mm.int 3 W (List.replicate n x) (.slice (some ⟨g, 0, none⟩) n n) [g] :=
  Mm.SlOwn.of_blk (fun s => [.int .i64 s]) (by rw [show ((List.replicate n x).flatMap (fun s => [Value.int .i64 s])) = List.replicate n (.int .i64 x) from fm_repB _ _ _ n rfl]; exact h) (fun y hy => by rw [(List.mem_replicate.1 hy).2]; exact ⟨rfl, hx, rfl⟩) (by simp) (by unfold maxLen; omega)
theorem make_boolsB (n : Nat) (h5 : n = 1 ∨ n = 2 ∨ n = 3 ∨ n = 4 ∨ n = 5) (W : World) : (Instr.makeSlice 29 (.int .i64 n) (.int .i64 n)).run Try.prog W = .ok (.slice (some ⟨W.heap.size, 0, none⟩) n n) (W.alloc (.cells (Array.replicate n (.bool false)) 4)) := by
  rcases h5 with rfl | rfl | rfl | rfl | rfl
  all_goals kernel_rfl
theorem bools0_own {X : World} {n : Nat} (h : n ≤ 5) : Mm.SlOwn Mm.bool 4 (X.alloc (.cells (Array.replicate n (.bool false)) 4)) (List.replicate n false) (.slice (some ⟨X.heap.size, 0, none⟩) n n) [X.heap.size] :=
  Mm.SlOwn.of_blk (fun s => [.bool s]) (by rw [show ((List.replicate n false).flatMap (fun s => [Value.bool s])) = List.replicate n (.bool false) from fm_repB _ _ _ n rfl]; have := Mm.Blk.new X 4 (List.replicate n (.bool false)); simpa using this) (fun x hx => by rw [(List.mem_replicate.1 hx).2]; exact ⟨rfl, trivial, rfl⟩) (by simp) (by unfold maxLen; omega)
theorem ints0_own {X : World} {n : Nat} (h : n ≤ 5) : Mm.SlOwn Mm.int 3 (X.alloc (.cells (Array.replicate n (.int .i64 0)) 3)) (List.replicate n 0) (.slice (some ⟨X.heap.size, 0, none⟩) n n) [X.heap.size] :=
  rep_own (by unfold Mm.I64; omega) h (by have := Mm.Blk.new X 3 (List.replicate n (.int .i64 0)); simpa using this)
theorem Try.infoIntsB : (Try.prog.info? 22).map (fun i => (i.zero, i.size, i.bytes)) = some (some (.slice none 0 0), 1, 24) := by kernel_rfl
theorem Try.infoBoolsB : (Try.prog.info? 29).map (fun i => (i.zero, i.size, i.bytes)) = some (some (.slice none 0 0), 1, 24) := by kernel_rfl
def NewBankAns (l : List Int) (n : Nat) (w : World) (e : Ending) (w' : World) : Prop :=
  ∃ A0 A1 A2 A3 A4 c0 c1 c2 c3 c4 f0 f1 f2 f3 f4, e = .returned (.agg #[.slice A0 n c0, .slice A1 (n * n) c1, .slice A2 n c2, .slice A3 n c3, .slice A4 n c4]) ∧ Mm.SepF [] w w' [Mm.tsl Mm.int 3 l (.slice A0 n c0) f0, Mm.tsl Mm.way 22 (Pl.newBank l).Ways (.slice A1 (n * n) c1) f1, Mm.tsl Mm.int 3 (Pl.newBank l).Kept (.slice A2 n c2) f2, Mm.tsl bools 29 (Pl.newBank l).Heard (.slice A3 n c3) f3, Mm.tsl ints 22 (Pl.newBank l).Found (.slice A4 n c4) f4]
set_option maxRecDepth 100000 in
set_option maxHeartbeats 4000000 in
theorem newBank_c (l : List Int) (A : Option Addr) (n c : Nat) (w : World) (B : Nat) (hl : Mm.SlAt Mm.int w B l A n c) (hB : B ≤ w.heap.size) (h5 : n = 1 ∨ n = 2 ∨ n = 3 ∨ n = 4 ∨ n = 5) :
    Calls Try.prog 33 #[.slice A n c] w (NewBankAns l n w) := by
  have HL := Lib.hid hl
  have HLN : Hid (l.length = n) := hl.1
  have HBW := Lib.hid hB
  have H5 := Lib.hid h5
  have hn5 : n ≤ 5 := by omega
  have hn25 := sq_le hn5
  obtain ⟨n2, hn2⟩ : ∃ n2, n * n = n2 := ⟨_, rfl⟩
  have HN2 := Lib.hid hn2
  have hmk := make_waysB n h5
  rw [hn2] at hmk hn25
  have m1 : IntKind.i64.wrap ((n : Int) * (n : Nat)) = (n2 : Nat) := by
    rw [show (n : Int) * (n : Nat) = ((n * n : Nat) : Int) by push_cast; rfl, hn2]
    exact IntWalk.i64_in _ (by omega)
  have KS0 := Lib.hid ((Mm.SepF.start w).alloc' rfl 28 [.slice none 0 0, .slice none 0 0, .slice none 0 0, .slice none 0 0, .slice none 0 0])
  clear hl hB h5 hn2
  go_enter Try.func33, Try.ntmps33
  go_upto_region 2 with fail
  obtain ⟨W1, hW1⟩ : ∃ W1, W1 = w.alloc (.cells #[.slice none 0 0, .slice none 0 0, .slice none 0 0, .slice none 0 0, .slice none 0 0] 28) := ⟨_, rfl⟩
  rw [show [Value.slice none 0 0, .slice none 0 0, .slice none 0 0, .slice none 0 0, .slice none 0 0].toArray = #[.slice none 0 0, .slice none 0 0, .slice none 0 0, .slice none 0 0, .slice none 0 0] from rfl, ← hW1] at KS0
  rw [← hW1]
  clear hW1
  have hsz1 := KS0.out.bel0.size
  refine Mm.wp_region_give 11 (fun i => match i with | 1 => some (Mm.gSl Mm.int 3 l) | 5 => some (Mm.gSl Mm.way 22 (List.replicate n2 [])) | 6 => some (Mm.gBs 3 [.int .i64 (-1)]) | 8 => some (Mm.gSl Mm.int 3 (List.replicate n (-1))) | 10 => some (Mm.gPtr 28 [.slice none 0 0, .slice none 0 0, .slice none 0 0, .slice none 0 0, .slice none 0 0]) | _ => none) (fun i => match i with | 8 => [6] | _ => []) (fun _ => []) (F := []) (D := fun w' => ∃ x : Und W1, w' = und W1 x) (fun X us h => Mm.sep_und h) (by kernel_rfl) (by kernel_rfl) (by kernel_rfl) (Mm.SepF.startDrew _) ?_
  repeat (refine Mm.give_det (by rfl) (by rfl) (by rfl) (fun K hK => ?_); go_big_quiet_op; refine hK _ ?_; clear hK K)
  refine Mm.give_op0 8 (by rfl) rfl (by rfl) (by rfl) (by rfl) (by rfl) Mm.gSl_in (fun others X hX => ?_) ?_
  · go_wp2_with (go_at_call 59; refine (clInt_c l A n c X B (HL.out.keep fun b hb => (hX.bel0.block b (by have := HBW.out; omega)).trans (KS0.out.bel0.block b (by have := HBW.out; omega))) (by omega)).mono ?_; rintro e w5 ⟨A, n, c, fp, rfl, k1, k2, k3, k4⟩)
    exact Mm.gvq_sl hX k4 k1 k2 k3 rfl rfl
  rintro v ds ⟨A0, n0', c0, f0, rfl, rfl, hn0⟩
  simp only [Act.put, List.setIfInBounds_toArray, List.set_cons_succ, List.set_cons_zero]
  repeat (refine Mm.give_det (by rfl) (by rfl) (by rfl) (fun K hK => ?_); go_big_quiet_op; refine hK _ ?_; clear hK K)
  refine Mm.give_op0 12 (by rfl) rfl (by rfl) (by rfl) (by rfl) (by rfl) Mm.gSl_in (fun others X hX => ?_) ?_
  · go_wp2
    exact Mm.gvq_sl hX (below_new (Below.refl _ _) _) (ways0_own hn25) (by simp) (by simp) rfl rfl
  rintro v ds ⟨A1, n1', c1, f1, rfl, rfl, hn1⟩
  simp only [Act.put, List.setIfInBounds_toArray, List.set_cons_succ, List.set_cons_zero]
  repeat (refine Mm.give_det (by rfl) (by rfl) (by rfl) (fun K hK => ?_); go_big_quiet_op; refine hK _ ?_; clear hK K)
  refine Mm.give_op0 13 (by rfl) rfl (by rfl) (by rfl) (by rfl) (by rfl) Mm.gBs_in (fun others X6 hX6 => ?_) ?_
  · go_wp2
    exact Mm.gvq_bs hX6 rfl rfl rfl
  rintro v ds ⟨gm, rfl, rfl⟩
  simp only [Act.put, List.setIfInBounds_toArray, List.set_cons_succ, List.set_cons_zero]
  repeat (refine Mm.give_det (by rfl) (by rfl) (by rfl) (fun K hK => ?_); go_big_quiet_op; refine hK _ ?_; clear hK K)
  refine Mm.give_op1 15 6 (by rfl) rfl (by rfl) (by rfl) (by rfl) rfl (by rfl) _ rfl Mm.gSl_in (fun others X hX => ?_) ?_
  · go_wp2_with (go_at_call 60; refine (repeat_c gm n (-1) X (hX.at_ 0 rfl) H5.out).mono ?_; rintro e w5 ⟨g, rfl, k1, k2, k3⟩)
    exact Mm.gvq_sl hX.tail k1 (rep_own (by unfold Mm.I64; omega) hn5 k3) (by simp) (by simpa using k2) rfl rfl
  rintro v ds ⟨A2, n2', c2, f2, rfl, rfl, hn2⟩
  simp only [Act.put, List.setIfInBounds_toArray, List.set_cons_succ, List.set_cons_zero]
  repeat (refine Mm.give_det (by rfl) (by rfl) (by rfl) (fun K hK => ?_); go_big_quiet_op; refine hK _ ?_; clear hK K)
  refine Mm.give_op0 4 (by rfl) rfl (by rfl) (by rfl) (by rfl) (by rfl) Mm.gPtr_in (fun others X hX => ?_) ?_
  · go_wp2
    exact Mm.gvq_ptr hX rfl rfl rfl
  rintro v ds ⟨g6, rfl, rfl⟩
  simp only [Act.put, List.setIfInBounds_toArray, List.set_cons_succ, List.set_cons_zero]
  refine Mm.give_nil ?_
  rintro X hX
  have HX := Lib.hid (KS0.out.join (us := [Mm.tsl Mm.int 3 l (.slice A0 n0' c0) f0, Mm.tsl Mm.way 22 (List.replicate n2 []) (.slice A1 n1' c1) f1, Mm.tsl Mm.int 3 (List.replicate n (-1)) (.slice A2 n2' c2) f2, Mm.tblk g6 28 [.slice none 0 0, .slice none 0 0, .slice none 0 0, .slice none 0 0, .slice none 0 0]]) hX)
  clear hX
  obtain rfl : n0' = n := by have := hn0.out; have := HLN.out; omega
  obtain rfl : n1' = n2 := by have := hn1.out; simpa using this
  obtain rfl : n0' = n2' := by have := hn2.out; simp at this; omega
  have p0 := HX.out.frz (k := 0) 3 rfl
  have p1 := HX.out.frz (k := 1) 3 rfl
  have p2 := HX.out.frz (k := 2) 3 rfl
  have p3 := HX.out.frz (k := 3) 3 rfl
  have p4 := HX.out.frz (k := 4) 3 rfl
  have s0 := HX.out.cell (k := 0) 3 rfl rfl
  have s1 := HX.out.cell (k := 1) 3 rfl rfl
  have s2 := HX.out.cell (k := 2) 3 rfl rfl
  have s3 := HX.out.cell (k := 3) 3 rfl rfl
  have s4 := HX.out.cell (k := 4) 3 rfl rfl
  have HX2 := Lib.hid ((((((((HX.out.setBlk (k := 0) 3 rfl (.slice A0 n0' c0)).setBlk (k := 1) 3 rfl (.slice A1 n1' c1)).setBlk (k := 2) 3 rfl (.slice A2 n0' c2)).setBlk (k := 3) 3 rfl (.slice none 0 0)).setBlk (k := 4) 3 rfl (.slice none 0 0)).sel [3, 0, 1, 2, 4] (by decide) rfl).add (Below.refl _ _) (t := Mm.tsl ints 22 [] (.slice none 0 0) []) Mm.SlOwn.nil List.nodup_nil (fun b hb => by cases hb)).add (Below.refl _ _) (t := Mm.tsl bools 29 [] (.slice none 0 0) []) Mm.SlOwn.nil List.nodup_nil (fun b hb => by cases hb))
  have hm1 := make_intsB n0' H5.out
  have hm2 := make_boolsB n0' H5.out
  go_wp2
  clear p0 p1 p2 p3 p4 s0 s1 s2 s3 s4 KS0 hmk HX
  go_loopg [18] n0' (fun g i wx => ∃ (k : Nat) (A3 : Option Addr) (c3 : Nat) (f3 : List Nat) (A4 : Option Addr) (c4 : Nat) (f4 : List Nat), n0' - k ≤ g ∧ k ≤ n0' ∧ i = .int .i64 k ∧ Hid (Mm.SepF [] w wx [Mm.tsl bools 29 (List.replicate k (List.replicate n0' false)) (.slice A3 k c3) f3, Mm.tsl ints 22 (List.replicate k (List.replicate n0' 0)) (.slice A4 k c4) f4, Mm.tblk g6 28 [.slice A0 n0' c0, .slice A1 n1' c1, .slice A2 n0' c2, .slice A3 k c3, .slice A4 k c4], Mm.tsl Mm.int 3 l (.slice A0 n0' c0) f0, Mm.tsl Mm.way 22 (List.replicate n1' []) (.slice A1 n1' c1) f1, Mm.tsl Mm.int 3 (List.replicate n0' (-1)) (.slice A2 n0' c2) f2, Mm.tblk w.heap.size 28 [.slice none 0 0, .slice none 0 0, .slice none 0 0, .slice none 0 0, .slice none 0 0]]))
  case atStart => exact ⟨0, none, 0, [], none, 0, [], Nat.le_refl _, Nat.zero_le _, rfl, HX2.out⟩
  case round =>
    clear HX2
    obtain ⟨k, A3, c3, f3, A4, c4, f4, hgk, hk, rfl, HS⟩ := hrel
    obtain ⟨W, rfl⟩ : ∃ W : World, W = wr := ⟨_, rfl⟩
    by_cases hlt : k < n0'
    · as_aux_lemma =>
      have hlt' : (k : Int) < (n0' : Nat) := by omega
      obtain ⟨iA, hiA, hA0, hA1, hA2⟩ := info_parts Try.infoBoolsB
      obtain ⟨iB, hiB, hB0, hB1, hB2⟩ := info_parts Try.infoIntsB
      have d3 := HS.out.cell (k := 3) 2 rfl rfl
      have d4 := HS.out.cell (k := 4) 2 rfl rfl
      have h2 := HS.out.sel [1, 0] (by decide) rfl
      obtain ⟨FF, hFF⟩ : ∃ FF, f4 ++ (f3 ++ []) = FF := ⟨_, rfl⟩
      have hst : Mm.SepF FF W W.drew [Mm.tsl ints 22 (List.replicate k (List.replicate n0' 0)) (.slice A4 k c4) f4, Mm.tsl bools 29 (List.replicate k (List.replicate n0' false)) (.slice A3 k c3) f3] := ⟨Mm.Chg.of_below (Below.refl _ _).drew, h2.nd, fun b hb => .inl (hFF ▸ hb), fun u hu => u.keep (h2.hold u hu) (fun _ _ => rfl)⟩
      have n6 : g6 ∉ FF := fun hh => by
        rw [← hFF, List.append_nil] at hh
        rcases List.mem_append.1 hh with hh | hh
        · exact HS.out.apart (i := 2) (j := 1) rfl rfl (by decide) g6 (by simp [Mm.tblk]) hh
        · exact HS.out.apart (i := 2) (j := 0) rfl rfl (by decide) g6 (by simp [Mm.tblk]) hh
      have HFF := Lib.hid hFF
      clear h2 hFF
      go_upto_region 5 with fail
      refine Mm.wp_region_give 13 (fun i => match i with | 3 => some (Mm.gSl Mm.bool 4 (List.replicate n0' false)) | 4 => some (Mm.gRow Mm.bool 29 4 (List.replicate n0' false)) | 5 => some (Mm.gSl bools 29 (List.replicate k (List.replicate n0' false) ++ [List.replicate n0' false])) | 9 => some (Mm.gSl Mm.int 3 (List.replicate n0' 0)) | 10 => some (Mm.gRow Mm.int 22 3 (List.replicate n0' 0)) | 11 => some (Mm.gSl ints 22 (List.replicate k (List.replicate n0' 0) ++ [List.replicate n0' 0])) | _ => none) (fun i => match i with | 4 => [3] | 5 => [4, 16] | 10 => [9] | 11 => [10, 7] | _ => []) (fun i => match i with | 16 => [Mm.tsl bools 29 (List.replicate k (List.replicate n0' false)) (.slice A3 k c3) f3] | 7 => [Mm.tsl ints 22 (List.replicate k (List.replicate n0' 0)) (.slice A4 k c4) f4] | _ => []) (F := FF) (D := fun w' => ∃ z : Cha FF W, w' = cha FF W z) (fun X us h => Mm.sep_cha h) (by kernel_rfl) (by kernel_rfl) (by kernel_rfl) (Mm.sep_eq hst rfl) ?_
      repeat (refine Mm.give_det (by rfl) (by rfl) (by rfl) (fun K hK => ?_); go_big_quiet_op; refine hK _ ?_; clear hK K)
      refine Mm.give_op0 23 (by rfl) rfl (by rfl) (by rfl) (by rfl) (by rfl) Mm.gSl_in (fun others X hX => ?_) ?_
      · go_wp2
        exact Mm.gvq_sl hX (below_new (Below.refl _ _) _) (bools0_own hn5) (by simp) (by simp) rfl rfl
      rintro v ds ⟨Aa, na, ca, fa, rfl, rfl, hna⟩
      simp only [Act.put, List.setIfInBounds_toArray, List.set_cons_succ, List.set_cons_zero]
      repeat (refine Mm.give_det (by rfl) (by rfl) (by rfl) (fun K hK => ?_); go_big_quiet_op; refine hK _ ?_; clear hK K)
      refine Mm.give_op1 24 3 (by rfl) rfl (by rfl) (by rfl) (by rfl) rfl (by rfl) _ rfl Mm.gRow_in (fun others X hX => ?_) ?_
      · go_wp2
        exact Mm.gvq_row hX rfl rfl rfl
      rintro v ds ⟨ga, Ab, nb, cb, fb, rfl, rfl⟩
      simp only [Act.put, List.setIfInBounds_toArray, List.set_cons_succ, List.set_cons_zero]
      repeat (refine Mm.give_det (by rfl) (by rfl) (by rfl) (fun K hK => ?_); go_big_quiet_op; refine hK _ ?_; clear hK K)
      refine Mm.give_op2 25 4 16 (by rfl) rfl (by rfl) (by rfl) (by rfl) rfl (by rfl) (by rfl) (by rfl) _ _ rfl rfl Mm.gSl_in (fun others X6 hX6 => Mm.app_gvr rfl (.tmp 21) (.tmp 24) 26 rfl 25 rfl (by rfl) iA _ 24 Try.underlying26 hiA hA0 hA1 hA2 rfl rfl rfl (by simp; unfold maxLen; omega) (by simp; omega) hX6) ?_
      rintro v ds ⟨Ac, nc, cc, fc, rfl, rfl, hnc⟩
      simp only [Act.put, List.setIfInBounds_toArray, List.set_cons_succ, List.set_cons_zero]
      repeat (refine Mm.give_det (by rfl) (by rfl) (by rfl) (fun K hK => ?_); go_big_quiet_op; refine hK _ ?_; clear hK K)
      refine Mm.give_op0 29 (by rfl) rfl (by rfl) (by rfl) (by rfl) (by rfl) Mm.gSl_in (fun others X hX => ?_) ?_
      · go_wp2
        exact Mm.gvq_sl hX (below_new (Below.refl _ _) _) (ints0_own hn5) (by simp) (by simp) rfl rfl
      rintro v ds ⟨Ad, nd, cd, fd, rfl, rfl, hnd⟩
      simp only [Act.put, List.setIfInBounds_toArray, List.set_cons_succ, List.set_cons_zero]
      repeat (refine Mm.give_det (by rfl) (by rfl) (by rfl) (fun K hK => ?_); go_big_quiet_op; refine hK _ ?_; clear hK K)
      refine Mm.give_op1 30 9 (by rfl) rfl (by rfl) (by rfl) (by rfl) rfl (by rfl) _ rfl Mm.gRow_in (fun others X hX => ?_) ?_
      · go_wp2
        exact Mm.gvq_row hX rfl rfl rfl
      rintro v ds ⟨ge, Ae, ne, ce, fe, rfl, rfl⟩
      simp only [Act.put, List.setIfInBounds_toArray, List.set_cons_succ, List.set_cons_zero]
      repeat (refine Mm.give_det (by rfl) (by rfl) (by rfl) (fun K hK => ?_); go_big_quiet_op; refine hK _ ?_; clear hK K)
      refine Mm.give_op2 31 10 7 (by rfl) rfl (by rfl) (by rfl) (by rfl) rfl (by rfl) (by rfl) (by rfl) _ _ rfl rfl Mm.gSl_in (fun others X6 hX6 => Mm.app_gvr rfl (.tmp 27) (.tmp 30) 25 rfl 31 rfl (by rfl) iB _ 24 Try.underlying25 hiB hB0 hB1 hB2 rfl rfl rfl (by simp; unfold maxLen; omega) (by simp; omega) hX6) ?_
      rintro v ds ⟨Af, nf, cf, ff, rfl, rfl, hnf⟩
      simp only [Act.put, List.setIfInBounds_toArray, List.set_cons_succ, List.set_cons_zero]
      repeat (refine Mm.give_det (by rfl) (by rfl) (by rfl) (fun K hK => ?_); go_big_quiet_op; refine hK _ ?_; clear hK K)
      refine Mm.give_nil ?_
      rintro X7 hX7
      have hx7 : Mm.SepF FF W X7 [Mm.tsl bools 29 (List.replicate k (List.replicate n0' false) ++ [List.replicate n0' false]) (.slice Ac nc cc) fc, Mm.tsl ints 22 (List.replicate k (List.replicate n0' 0) ++ [List.replicate n0' 0]) (.slice Af nf cf) ff] := Mm.sep_eq hX7 rfl
      have HS7 := Lib.hid ((HS.out.sel [1, 0, 2, 3, 4, 5, 6] (by decide) rfl).callSome (us := [Mm.tsl ints 22 (List.replicate k (List.replicate n0' 0)) (.slice A4 k c4) f4, Mm.tsl bools 29 (List.replicate k (List.replicate n0' false)) (.slice A3 k c3) f3]) (rest := _) (HFF.out ▸ hx7))
      clear hX7 hx7 d3 d4 n6
      obtain rfl : nc = k + 1 := by have := hnc.out; simpa using this
      obtain rfl : nf = k + 1 := by have := hnf.out; simpa using this
      have e3 := HS7.out.cell (k := 3) 2 rfl rfl
      have e4 := HS7.out.cell (k := 4) 2 rfl rfl
      have y3 := HS7.out.frz (k := 3) 2 rfl
      have y4 := HS7.out.frz (k := 4) 2 rfl
      have HS8 := Lib.hid ((HS7.out.setBlk (k := 3) 2 rfl (.slice Ac (k + 1) cc)).setBlk (k := 4) 2 rfl (.slice Af (k + 1) cf))
      go_wp2
      go_roundg (n0' - (k + 1))
      case measure => omega
      case rel => exact ⟨k + 1, Ac, cc, fc, Af, cf, ff, Nat.le_refl _, by omega, by go_num, by rw [List.replicate_succ' (n := k), List.replicate_succ' (n := k)]; exact HS8.out⟩
    · as_aux_lemma =>
      obtain rfl : k = n0' := by omega
      have hlt' : ¬ ((k : Nat) : Int) < (k : Nat) := by omega
      have b0 := HS.out.cell (k := 0) 2 rfl rfl
      have b1 := HS.out.cell (k := 1) 2 rfl rfl
      have b2 := HS.out.cell (k := 2) 2 rfl rfl
      have b3 := HS.out.cell (k := 3) 2 rfl rfl
      have b4 := HS.out.cell (k := 4) 2 rfl rfl
      have r0 := HS.out.cell (k := 0) 6 rfl rfl
      have r1 := HS.out.cell (k := 1) 6 rfl rfl
      have r2 := HS.out.cell (k := 2) 6 rfl rfl
      have r3 := HS.out.cell (k := 3) 6 rfl rfl
      have r4 := HS.out.cell (k := 4) 6 rfl rfl
      have y0 := HS.out.frz (k := 0) 6 rfl
      have y1 := HS.out.frz (k := 1) 6 rfl
      have y2 := HS.out.frz (k := 2) 6 rfl
      have y3 := HS.out.frz (k := 3) 6 rfl
      have y4 := HS.out.frz (k := 4) 6 rfl
      have HSF := Lib.hid (((((HS.out.setBlk (k := 0) 6 rfl (.slice A0 k c0)).setBlk (k := 1) 6 rfl (.slice A1 n1' c1)).setBlk (k := 2) 6 rfl (.slice A2 k c2)).setBlk (k := 3) 6 rfl (.slice A3 k c3)).setBlk (k := 4) 6 rfl (.slice A4 k c4))
      have u0 := HSF.out.cell (k := 0) 6 rfl rfl
      have u1 := HSF.out.cell (k := 1) 6 rfl rfl
      have u2 := HSF.out.cell (k := 2) 6 rfl rfl
      have u3 := HSF.out.cell (k := 3) 6 rfl rfl
      have u4 := HSF.out.cell (k := 4) 6 rfl rfl
      go_wp2
      exact bodyPost_ret (v := .agg #[.slice A0 k c0, .slice A1 n1' c1, .slice A2 k c2, .slice A3 k c3, .slice A4 k c4]) (by simp [results, Try.results33, go_sem, u0, u1, u2, u3, u4]) rfl ⟨A0, A1, A2, A3, A4, c0, c1, c2, c3, c4, f0, f1, f2, f3, f4, by rw [HN2.out], by
        unfold Pl.newBank
        rw [HLN.out, HN2.out]
        exact HSF.out.sel [3, 4, 5, 0, 1] (by decide) rfl⟩
end Go.Proofs.Ytpmeagchkcffoaa
