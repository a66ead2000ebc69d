/-
  Joined texts, in build order: LwFnPictures, LawFnPictures. Each part says what it proves; no conditions beyond those that a part names.
-/
import Derived.Test.YtpmeagchkcffoaaZ06
import Derived.Test.YtpmeagchkcffoaaZ09
import Derived.Deep.DeepCutAuto
import Derived.Test.YtpmeagchkcffoaaRows
import Derived.WalkKit
import Derived.ProofKit
import Derived.OpenShut
import Derived.ShutString
import Derived.ChangeOld
import Derived.Below
/-
  The walk of the law on pictures (chapter 12). No conditions.
-/
namespace Go.Proofs.Ytpmeagchkcffoaa
open Go.RowKit
attribute [local go_sem] und_cell cha_cell World.cell?_alloc_some
theorem Pl.playBank_true {coins : List Int} {l : List SnapStep} {p : Bank} {bs : List Bool} (h : Pl.playBank coins l = (p, bs, true)) : Pl.coinsOk coins = true ∧ Pl.JB coins.length (Pl.lsum coins) p := by
  unfold Pl.playBank at h
  split at h
  · rename_i hh
    injection h with h1 h2
    subst h1
    exact ⟨hh.1, Pl.JB.run l (Pl.newBank coins, []) (Pl.JB.new hh.1)⟩
  · injection h with _ h
    injection h with _ h
    cases h
theorem Pl.coins_n {coins : List Int} (h : Pl.coinsOk coins = true) : 1 ≤ coins.length ∧ coins.length ≤ 5 := by
  unfold Pl.coinsOk at h
  rw [Bool.and_eq_true] at h
  have := Pl.isIn_iff.1 h.1
  omega
theorem Pl.coins_bnd {coins : List Int} (h : Pl.coinsOk coins = true) : ∀ x, x ∈ coins → 0 ≤ x ∧ x ≤ 1000 := fun x hx => by
  have := (Pl.BI.new h).cb x hx
  omega
/-- a node begins, where none has -/
theorem Pl.begin_ok {n : Nat} {all : Int} {b : Bank} (h : Pl.JB n all b) (hn : 1 ≤ n) (hk : Pl.keptAt b 0 < 0) : Pl.bstep b ⟨3, 0, 0, 0⟩ = (Pl.brec b 0, true) ∧ 0 ≤ Pl.keptAt (Pl.brec b 0) 0 := by
  obtain ⟨q, hI⟩ := h.bi
  have hl := h.len
  constructor
  · unfold Pl.bstep
    dsimp only
    rw [if_neg (by omega), if_neg (by decide), if_neg (by decide), if_pos rfl]
    exact if_pos ⟨hk, rfl, rfl⟩
  · rw [Pl.keptAt_rec (by rw [hI.ke]; omega), if_pos rfl]
    exact h.jv.cn 0 (by omega)
/-- an item is taken: out of an empty way none -/
theorem Pl.take_none {n : Nat} {all : Int} {b : Bank} {f t : Nat} (h : Pl.JB n all b) (hf : f < n) (ht : t < n) (hw : Pl.wayAt b (f * n + t) = []) : Pl.bstep b ⟨2, (f : Nat), (t : Nat), 0⟩ = (b, false) := by
  have hl := h.len
  unfold Pl.bstep
  dsimp only
  rw [if_neg (by omega), if_neg (by decide), if_pos rfl]
  simp only [Int.toNat_natCast]
  rw [hl, hw]
theorem Pl.take_some {n : Nat} {all : Int} {b : Bank} {f t : Nat} {x : Int} {r : List Int} (h : Pl.JB n all b) (hf : f < n) (ht : t < n) (hw : Pl.wayAt b (f * n + t) = x :: r) : Pl.bstep b ⟨2, (f : Nat), (t : Nat), 0⟩ = (Pl.btake (Pl.setWay b (f * n + t) r) f t x, true) := by
  have hl := h.len
  unfold Pl.bstep
  dsimp only
  rw [if_neg (by omega), if_neg (by decide), if_pos rfl]
  simp only [Int.toNat_natCast]
  rw [hl, hw]
  rfl
/-- so far: a node that has recorded has been seen, or none among the first j has -/
def Pl.Seen (n j : Nat) (b : Bank) (sb : Bool) : Prop := (sb = true → ∃ k, k < n ∧ 0 ≤ Pl.keptAt b k) ∧ (sb = false → ∀ q, q < j → Pl.keptAt b q < 0)
def Pl.Some (n : Nat) (b : Bank) : Prop := ∃ k, k < n ∧ 0 ≤ Pl.keptAt b k
/-- within a pass over all ways: something has been taken, and less is left; or nothing has, and the ways so far are empty -/
def Pl.PassI (n : Nat) (c0 c : Bank) (ab : Bool) (f t : Nat) : Prop :=
  (ab = true → Pl.Mv n (Pl.viewN n c) < Pl.Mv n (Pl.viewN n c0)) ∧ (ab = false → Pl.Mv n (Pl.viewN n c) ≤ Pl.Mv n (Pl.viewN n c0) ∧ ∀ a d, (a < f ∧ d < n) ∨ (a = f ∧ d < t) → Pl.wayAt c (a * n + d) = [])
theorem Pl.PassI.start {n : Nat} {c : Bank} : Pl.PassI n c c false 0 0 := ⟨fun h => (by cases h), fun _ => ⟨Int.le_refl _, fun a d h => by omega⟩⟩
theorem Pl.PassI.none {n f t : Nat} {c0 c : Bank} {ab : Bool} (h : Pl.PassI n c0 c ab f t) (hw : Pl.wayAt c (f * n + t) = []) : Pl.PassI n c0 c ab f (t + 1) :=
  ⟨h.1, fun hb => ⟨(h.2 hb).1, fun a d hh => by
    by_cases he : a = f ∧ d = t
    · rw [he.1, he.2]; exact hw
    · exact (h.2 hb).2 a d (by omega)⟩⟩
theorem Pl.PassI.some {n f t : Nat} {c0 c c' : Bank} {ab : Bool} (h : Pl.PassI n c0 c ab f t) (hm : Pl.Mv n (Pl.viewN n c') ≤ Pl.Mv n (Pl.viewN n c) - 1) (u : Nat) : Pl.PassI n c0 c' true f u :=
  ⟨fun _ => by
    cases ab with
    | true => have := h.1 rfl; omega
    | false => have := (h.2 rfl).1; omega, fun hb => by cases hb⟩
theorem Pl.PassI.row {n f : Nat} {c0 c : Bank} {ab : Bool} (h : Pl.PassI n c0 c ab f n) : Pl.PassI n c0 c ab (f + 1) 0 :=
  ⟨h.1, fun hb => ⟨(h.2 hb).1, fun a d hh => (h.2 hb).2 a d (by omega)⟩⟩
/-- the state of the law's loops: the box of the bank, the bank -/
def PicS (w1 W : World) (g5 n : Nat) (all : Int) (b : Bank) : Prop :=
  ∃ A0 n0 c0 A1 n1 c1 A2 n2 c2 A3 n3 c3 A4 n4 c4 fp, Mm.SepF [] w1 W [Mm.tblk g5 28 [.slice A0 n0 c0, .slice A1 n1 c1, .slice A2 n2 c2, .slice A3 n3 c3, .slice A4 n4 c4], Mm.tow rBankW b [.slice A0 n0 c0, .slice A1 n1 c1, .slice A2 n2 c2, .slice A3 n3 c3, .slice A4 n4 c4] fp] ∧ Pl.JB n all b ∧ Pl.Some n b
set_option maxRecDepth 100000 in
set_option maxHeartbeats 8000000 in
theorem walk_FnPictures (A : Option Addr) (n c : Nat) (code : List Int) (w : World) (hc : Mm.SlAt Mm.u8 w w.heap.size code A n c) :
    Calls Try.prog 4 #[.slice A n c] w fun e w' => e = .returned (.bool true) ∧ Below w.heap.size w w' := by
  have HC := Lib.hid hc
  have hlc : n ≤ maxLen := Nat.le_trans hc.2.1 hc.2.2.1
  unfold maxLen at hlc
  clear hc
  by_cases hbig : (1048576 : Int) < (n : Nat)
  · go_enter Try.func4, Try.ntmps4
    go_wp2
    go_ret
    exact ⟨rfl, Below.refl _ _⟩
  · go_enter Try.func4, Try.ntmps4
    go_upto_region 4 with (go_at_call 20; refine (DrawPlayBank_c code _ _ _ _ w.heap.size HC.out (Nat.le_refl _)).mono ?_; rintro e w1 ⟨coins, l, A0, n0, c0, A1, n1, c1, rfl, hl5, hl121, hsa, hsl, hb1⟩; (have HCO := Lib.hid hsa); (have HLO := Lib.hid hsl); (have HBW := Lib.hid hb1); clear hsa hsl hb1)
    clear hbig
    obtain ⟨p, bs, ok, hr⟩ : ∃ p bs ok, Pl.playBank coins l = (p, bs, ok) := ⟨_, _, _, rfl⟩
    have HR := Lib.hid hr
    have HCL : Hid (coins.length = n0) := Lib.hid HCO.out.1
    clear hr
    have CP := implPlayBank_c coins l A0 n0 c0 A1 n1 c1 w1 _ HCO.out HLO.out (Nat.le_refl _)
    rw [HR.out] at CP
    go_upto_region 5 with (go_at_call 9; (with_reducible refine CP.mono ?_); clear CP; rintro e w2 ⟨cs, A2, n2, c2, fp0, fp1, rfl, hs2⟩; obtain ⟨a0, p0, k0, a1, p1, k1, a2, p2, k2, a3, p3, k3, a4, p4, k4, _, _, _, _, _, rfl, -⟩ := rBankW_own (show rBankW.own _ _ _ _ from hs2.at_ 0 rfl); (have HS2 := Lib.hid hs2); clear hs2)
    obtain ⟨g5, hg5⟩ : ∃ g, w2.heap.size = g := ⟨_, rfl⟩
    obtain ⟨W2, hW2⟩ : ∃ W2, w2.alloc (.cells #[.slice a0 p0 k0, .slice a1 p1 k1, .slice a2 p2 k2, .slice a3 p3 k3, .slice a4 p4 k4] 28) = W2 := ⟨_, rfl⟩
    have HS3 := Lib.hid ((HS2.out.alloc' hg5 28 [.slice a0 p0 k0, .slice a1 p1 k1, .slice a2 p2 k2, .slice a3 p3 k3, .slice a4 p4 k4]).atW hW2)
    rw [hW2, hg5]
    clear hW2 hg5 HS2
    have CQ := specPlayBank_c coins l A0 n0 c0 A1 n1 c1 W2 _ (HCO.out.keep fun b hb => HS3.out.bel0.block b hb) (HLO.out.keep fun b hb => HS3.out.bel0.block b hb) HS3.out.chg.size
    rw [HR.out] at CQ
    go_upto_region 6 with (go_at_call 6; (with_reducible refine CQ.mono ?_); clear CQ; rintro e w3 ⟨cs, A3, n3, c3, fp2, fp3, rfl, hs3⟩; obtain ⟨e0, q0, j0, e1, q1, j1, e2, q2, j2, e3, q3, j3, e4, q4, j4, _, _, _, _, _, rfl, -⟩ := rBankW_own (show rBankW.own _ _ _ _ from hs3.at_ 0 rfl); (have HS4 := Lib.hid (HS3.out.join hs3)); clear hs3)
    obtain ⟨g8, hg8⟩ : ∃ g, w3.heap.size = g := ⟨_, rfl⟩
    obtain ⟨W3, hW3⟩ : ∃ W3, w3.alloc (.cells #[.slice e0 q0 j0, .slice e1 q1 j1, .slice e2 q2 j2, .slice e3 q3 j3, .slice e4 q4 j4] 28) = W3 := ⟨_, rfl⟩
    have HS := Lib.hid ((HS4.out.alloc' hg8 28 [.slice e0 q0 j0, .slice e1 q1 j1, .slice e2 q2 j2, .slice e3 q3 j3, .slice e4 q4 j4]).atW hW3)
    rw [hW3, hg8]
    clear hW3 hg8 HS3 HS4
    obtain rfl : n2 = n3 := by
      obtain ⟨_, _, _, hv, h1, _⟩ := (HS.out.sl 5 rfl).form
      obtain ⟨_, _, _, hv', h1', _⟩ := (HS.out.sl 2 rfl).form
      injection hv with _ e1 _
      injection hv' with _ e2 _
      omega
    have CB := sameBools_c bs A2 A3 n2 c2 c3 W3 _ ((HS.out.sl 5 rfl).weak (HS.out.sl 5 rfl).olt) ((HS.out.sl 2 rfl).weak (HS.out.sl 2 rfl).olt) (Nat.le_refl _)
    cases ok with
    | false =>
      as_aux_lemma =>
      go_wp2_with first
        | (go_at_call 21; (with_reducible refine CB.mono ?_); clear CB; rintro e w4 ⟨rfl, hb4⟩; (replace HS := Lib.hid (HS.out.step hb4)); clear hb4; (have b0 := HS.out.cell (k := 0) 3 rfl rfl); (have b1 := HS.out.cell (k := 1) 3 rfl rfl); (have b2 := HS.out.cell (k := 2) 3 rfl rfl); (have b3 := HS.out.cell (k := 3) 3 rfl rfl); (have b4 := HS.out.cell (k := 4) 3 rfl rfl); (have d0 := HS.out.cell (k := 0) 0 rfl rfl); (have d1 := HS.out.cell (k := 1) 0 rfl rfl); (have d2 := HS.out.cell (k := 2) 0 rfl rfl); (have d3 := HS.out.cell (k := 3) 0 rfl rfl); (have d4 := HS.out.cell (k := 4) 0 rfl rfl))
        | (go_at_call 22; (with_reducible refine (sameBanks_c p _ _ w4 w4.heap.size (HS.out.rd 4 rfl) (HS.out.rd 1 rfl) (Nat.le_refl _)).mono ?_); rintro e w5 ⟨rfl, hb5⟩; (replace HS := Lib.hid (HS.out.step hb5)); clear hb5; (clear b0 b1 b2 b3 b4); (clear d0 d1 d2 d3 d4))
      go_ret
      exact ⟨rfl, below_step HBW.out HS.out.bel0⟩
    | true =>
    have hpt := Pl.playBank_true HR.out
    rw [HCL.out] at hpt
    have hcn := Pl.coins_n hpt.1
    rw [HCL.out] at hcn
    have hls := Pl.lsum_coins hpt.1
    have HBD := Lib.hid (lsum_bnd (Pl.coins_bnd hpt.1))
    obtain ⟨all, hall⟩ : ∃ a, Pl.lsum coins = a := ⟨_, rfl⟩
    rw [hall] at hpt hls
    have HALL := Lib.hid hall
    have HJ := Lib.hid hpt.2
    clear hpt hall
    go_upto_region 9 with first
      | (go_at_call 21; (with_reducible refine CB.mono ?_); clear CB; rintro e w4 ⟨rfl, hb4⟩; (replace HS := Lib.hid (HS.out.step hb4)); clear hb4; (have b0 := HS.out.cell (k := 0) 3 rfl rfl); (have b1 := HS.out.cell (k := 1) 3 rfl rfl); (have b2 := HS.out.cell (k := 2) 3 rfl rfl); (have b3 := HS.out.cell (k := 3) 3 rfl rfl); (have b4 := HS.out.cell (k := 4) 3 rfl rfl); (have d0 := HS.out.cell (k := 0) 0 rfl rfl); (have d1 := HS.out.cell (k := 1) 0 rfl rfl); (have d2 := HS.out.cell (k := 2) 0 rfl rfl); (have d3 := HS.out.cell (k := 3) 0 rfl rfl); (have d4 := HS.out.cell (k := 4) 0 rfl rfl))
      | (go_at_call 22; (with_reducible refine (sameBanks_c p _ _ w4 w4.heap.size (HS.out.rd 4 rfl) (HS.out.rd 1 rfl) (Nat.le_refl _)).mono ?_); rintro e w5 ⟨rfl, hb5⟩; (replace HS := Lib.hid ((HS.out.step hb5).sel [3, 4] (by decide) rfl)); clear hb5; (clear b0 b1 b2 b3 b4); (clear d0 d1 d2 d3 d4))
    go_wp2
    go_loopg [11, 71] n0 (fun gg s i wr => ∃ (k : Nat) (sv : Int), n0 - k ≤ gg ∧ k ≤ n0 ∧ s = .int .i64 sv ∧ i = .int .i64 k ∧ Hid (sv = Pl.lsum (coins.take k)) ∧ w5 = wr)
    case atStart => exact ⟨0, 0, Nat.le_refl _, Nat.zero_le _, rfl, rfl, Lib.hid (by simp [Pl.lsum]), rfl⟩
    case round =>
      obtain ⟨k, sv, hgk, hk, rfl, rfl, HSV, rfl⟩ := hrel
      have hbnd := HBD.out k (by rw [HCL.out]; exact hk)
      rw [← HSV.out] at hbnd
      by_cases hlt : k < n0
      · as_aux_lemma =>
        have hlt' : (k : Int) < (n0 : Nat) := by omega
        obtain ⟨x, bx, off, hx, rfl, hb, hxi, ex⟩ := int_get (HCO.out.keep (w' := w5) fun b hb => HS.out.bel0.block b hb) hlt
        have hb2 := HBD.out (k + 1) (by rw [HCL.out]; exact hlt)
        rw [lsum_next hx, ← HSV.out] at hb2
        obtain ⟨sw, hsw⟩ : ∃ sw, sv + x = sw := ⟨_, rfl⟩
        have m1 : IntKind.i64.wrap (sv + x) = sw := by rw [IntWalk.i64_in _ (by omega)]; exact hsw
        have HS2 : Hid (sw = Pl.lsum (coins.take (k + 1))) := Lib.hid (by rw [lsum_next hx, ← HSV.out, hsw])
        clear hx hxi hsw hbnd hb2
        go_wp2
        go_roundg (n0 - (k + 1))
        case measure => omega
        case rel => exact ⟨k + 1, sw, Nat.le_refl _, by omega, rfl, by go_num, HS2, rfl⟩
      · obtain rfl : k = n0 := by omega
        have hlt' : ¬ ((k : Nat) : Int) < (k : Nat) := by omega
        obtain rfl : sv = all := by
          rw [HSV.out, List.take_of_length_le (by rw [HCL.out]; exact Nat.le_refl _)]
          exact HALL.out
        clear hbnd hlt
        have b0 := HS.out.cell (k := 0) 0 rfl rfl
        have b1 := HS.out.cell (k := 1) 0 rfl rfl
        have b2 := HS.out.cell (k := 2) 0 rfl rfl
        have b3 := HS.out.cell (k := 3) 0 rfl rfl
        have b4 := HS.out.cell (k := 4) 0 rfl rfl
        have hal : sv ≤ 250 := hls.2
        have hne : (sv != sv) = false := by simp
        go_upto_region 18 with first
          | (go_at_call 23; (with_reducible refine (totalIn_yes p k sv _ _ w5.heap.size (HS.out.rd 1 rfl) (Nat.le_refl _) HJ.out hal).mono ?_); rintro e w6 ⟨rfl, hb6⟩; (have HS6 := Lib.hid (HS.out.step hb6)); clear hb6 HS; (have HS := HS6); (clear b0 b1 b2 b3 b4); (have b0 := HS.out.cell (k := 0) 0 rfl rfl); (have b1 := HS.out.cell (k := 1) 0 rfl rfl); (have b2 := HS.out.cell (k := 2) 0 rfl rfl); (have b3 := HS.out.cell (k := 3) 0 rfl rfl); (have b4 := HS.out.cell (k := 4) 0 rfl rfl))
          | (go_at_call 24; (with_reducible refine (goodBank_yes p k sv _ w6 w6.heap.size (HS.out.rd 1 rfl) (Nat.le_refl _) HJ.out hal).mono ?_); rintro e w7 ⟨rfl, hb7⟩; (have HS7 := Lib.hid (HS.out.step hb7)); clear hb7 HS6 HS; (have HS := HS7); (clear b0 b1 b2 b3 b4); (have b0 := HS.out.cell (k := 0) 0 rfl rfl); (have b1 := HS.out.cell (k := 1) 0 rfl rfl); (have b2 := HS.out.cell (k := 2) 0 rfl rfl); (have b3 := HS.out.cell (k := 3) 0 rfl rfl); (have b4 := HS.out.cell (k := 4) 0 rfl rfl))
        have hrdK : Mm.SlAt Mm.int w7 w7.heap.size p.Kept a2 p2 k2 := by
          obtain ⟨B0, m0, d0, B1, m1, d1, B2, m2, d2, B3, m3, d3, B4, m4, d4, hcs, r0, r1, r2, r3, r4⟩ := rBankW_at (HS.out.rd 1 rfl)
          simp only [List.cons.injEq, Value.slice.injEq, and_true] at hcs
          obtain ⟨⟨rfl, rfl, rfl⟩, ⟨rfl, rfl, rfl⟩, ⟨rfl, rfl, rfl⟩, ⟨rfl, rfl, rfl⟩, rfl, rfl, rfl⟩ := hcs
          exact r2
        obtain rfl : p2 = k := by
          obtain ⟨q, hI⟩ := HJ.out.bi
          have h1 := hrdK.1
          rw [hI.ke, HJ.out.len] at h1
          exact h1.symm
        have HKD := Lib.hid hrdK
        clear hrdK HS7
        go_wp2
        clear b0 b1 b2 b3 b4
        have hn15 := hcn
        go_loopg [17, 101] p2 (fun gg s i wr => ∃ (j : Nat) (sb : Bool), p2 - j ≤ gg ∧ j ≤ p2 ∧ s = .bool sb ∧ i = .int .i64 j ∧ Hid (Pl.Seen p2 j p sb) ∧ w7 = wr)
        case atStart => exact ⟨0, false, Nat.le_refl _, Nat.zero_le _, rfl, rfl, Lib.hid ⟨fun h => (by cases h), fun _ q hq => absurd hq (Nat.not_lt_zero _)⟩, rfl⟩
        case round =>
          obtain ⟨j, sb, hgj, hj, rfl, rfl, HSE, rfl⟩ := hrel
          by_cases hlt2 : j < p2
          · have hlt2' : (j : Int) < (p2 : Nat) := by omega
            obtain ⟨x, bx, off, hx, rfl, hb, hxi, ex⟩ := int_get HKD.out hlt2
            have HKX := Lib.hid (Pl.keptAt_of hx)
            clear hx hxi
            cases sb with
            | true =>
              as_aux_lemma =>
              go_wp2
              go_roundg (p2 - (j + 1))
              case measure => omega
              case rel => exact ⟨j + 1, true, Nat.le_refl _, by omega, rfl, by go_num, Lib.hid ⟨fun _ => HSE.out.1 rfl, fun h => by cases h⟩, rfl⟩
            | false =>
              by_cases hx0 : 0 ≤ x
              · as_aux_lemma =>
                have HSM : Hid (Pl.Some p2 p) := Lib.hid ⟨j, hlt2, by rw [HKX.out]; exact hx0⟩
                go_wp2
                go_roundg (p2 - (j + 1))
                case measure => omega
                case rel => exact ⟨j + 1, true, Nat.le_refl _, by omega, rfl, by go_num, Lib.hid ⟨fun _ => HSM.out, fun h => by cases h⟩, rfl⟩
              · as_aux_lemma =>
                go_wp2
                go_roundg (p2 - (j + 1))
                case measure => omega
                case rel => exact ⟨j + 1, false, Nat.le_refl _, by omega, rfl, by go_num, Lib.hid ⟨fun h => (by cases h), fun _ q hq => (by
                  by_cases hqj : q < j
                  · exact HSE.out.2 rfl q hqj
                  · obtain rfl : q = j := by omega
                    rw [HKX.out]; omega)⟩, rfl⟩
          · obtain rfl : j = p2 := by omega
            have hlt2' : ¬ ((j : Nat) : Int) < (j : Nat) := by omega
            clear hlt2
            go_upto_if 112 with fail
            go_cut [] (fun wx => Hid (∃ b, PicS w1 wx g5 j sv b))
            case first =>
              cases sb with
              | true =>
                as_aux_lemma =>
                go_wp2_with fail
                go_meet
                exact Lib.hid ⟨p, _, _, _, _, _, _, _, _, _, _, _, _, _, _, _, _, HS.out, HJ.out, HSE.out.1 rfl⟩
              | false =>
                as_aux_lemma =>
                have hbg := Pl.begin_ok HJ.out hn15.1 (HSE.out.2 rfl 0 (by omega))
                have HBG := Lib.hid hbg
                have CS := stepBank_c p ⟨3, 0, 0, 0⟩ j sv _ w7 w7.heap.size (HS.out.rd 1 rfl) (Nat.le_refl _) HJ.out hal (by unfold Mm.I64; dsimp only; omega)
                clear hbg
                have b0 := HS.out.cell (k := 0) 0 rfl rfl
                have b1 := HS.out.cell (k := 1) 0 rfl rfl
                have b2 := HS.out.cell (k := 2) 0 rfl rfl
                have b3 := HS.out.cell (k := 3) 0 rfl rfl
                have b4 := HS.out.cell (k := 4) 0 rfl rfl
                go_upto_region 27 with (go_at_call 25; (with_reducible refine CS.mono ?_); clear CS; rintro e w8 ⟨E0, u0, v0, E1, u1, v1, E2, u2, v2, E3, u3, v3, E4, u4, v4, rfl, hb8, hok⟩; rw [HBG.out.1] at hok ⊢; obtain ⟨fp8, hs8⟩ := hok rfl; (have HS8 := Lib.hid (HS.out.join hs8)); clear hok hb8 hs8; (clear b0 b1 b2 b3 b4))
                obtain ⟨g9, hg9⟩ : ∃ g, w8.heap.size = g := ⟨_, rfl⟩
                obtain ⟨W9, hW9⟩ : ∃ W, w8.alloc (.cells #[.slice E0 u0 v0, .slice E1 u1 v1, .slice E2 u2 v2, .slice E3 u3 v3, .slice E4 u4 v4] 28) = W := ⟨_, rfl⟩
                have HS9 := Lib.hid ((HS8.out.alloc' hg9 28 [.slice E0 u0 v0, .slice E1 u1 v1, .slice E2 u2 v2, .slice E3 u3 v3, .slice E4 u4 v4]).atW hW9)
                rw [hW9, hg9]
                clear hW9 hg9 HS8
                have HSS := HS9
                clear HS
                have HS := HSS
                clear HSS HS9
                have b0 := HS.out.cell (k := 0) 0 rfl rfl
                have b1 := HS.out.cell (k := 1) 0 rfl rfl
                have b2 := HS.out.cell (k := 2) 0 rfl rfl
                have b3 := HS.out.cell (k := 3) 0 rfl rfl
                have b4 := HS.out.cell (k := 4) 0 rfl rfl
                have z0 := HS.out.frz (k := 0) 2 rfl
                have z1 := HS.out.frz (k := 1) 2 rfl
                have z2 := HS.out.frz (k := 2) 2 rfl
                have z3 := HS.out.frz (k := 3) 2 rfl
                have z4 := HS.out.frz (k := 4) 2 rfl
                have r0 := HS.out.cell (k := 0) 2 rfl rfl
                have r1 := HS.out.cell (k := 1) 2 rfl rfl
                have r2 := HS.out.cell (k := 2) 2 rfl rfl
                have r3 := HS.out.cell (k := 3) 2 rfl rfl
                have r4 := HS.out.cell (k := 4) 2 rfl rfl
                obtain ⟨WF, hWF⟩ : ∃ WQ : World, (((((W9.setCell ⟨g5, 0, none⟩ (.slice E0 u0 v0)).setCell ⟨g5, 1, none⟩ (.slice E1 u1 v1)).setCell ⟨g5, 2, none⟩ (.slice E2 u2 v2)).setCell ⟨g5, 3, none⟩ (.slice E3 u3 v3)).setCell ⟨g5, 4, none⟩ (.slice E4 u4 v4)) = WQ := ⟨_, rfl⟩
                have HSF := Lib.hid ((((((HS.out.setBlk (k := 0) 2 rfl (.slice E0 u0 v0)).setBlk (k := 1) 2 rfl (.slice E1 u1 v1)).setBlk (k := 2) 2 rfl (.slice E2 u2 v2)).setBlk (k := 3) 2 rfl (.slice E3 u3 v3)).setBlk (k := 4) 2 rfl (.slice E4 u4 v4)).atW hWF)
                go_wp2_with fail
                go_meet
                exact Lib.hid ⟨Pl.brec p 0, _, _, _, _, _, _, _, _, _, _, _, _, _, _, _, _, HSF.out.sel [2, 1] (by decide) rfl, by have := HJ.out.step ⟨3, 0, 0, 0⟩; rwa [HBG.out.1] at this, ⟨0, by omega, HBG.out.2⟩⟩
            case rest =>
              clear HS HJ HSE HKD HBD HALL HR
              obtain ⟨b, hps⟩ := hcut.out
              obtain ⟨A0', n0', c0', A1', n1', c1', A2', n2', c2', A3', n3', c3', A4', n4', c4', fpb, hs0, hj0, hsm0⟩ := hps
              have HP0 : Hid (PicS w1 wc g5 j sv b) := Lib.hid ⟨_, _, _, _, _, _, _, _, _, _, _, _, _, _, _, _, hs0, hj0, hsm0⟩
              clear hcut hs0 hj0 hsm0
              go_wp2
              go_loopg [22] ((Pl.Mv j (Pl.viewN j b)).toNat + 1) (fun gg ag wr => ∃ (ab : Bool) (cur : Bank), (if ab = true then (Pl.Mv j (Pl.viewN j cur)).toNat + 1 else 0) ≤ gg ∧ ag = .bool ab ∧ Hid (PicS w1 wr g5 j sv cur) ∧ Hid (ab = false → ∀ f t, f < j → t < j → Pl.wayAt cur (f * j + t) = []))
              case atStart => exact ⟨true, b, by rw [if_pos rfl]; exact Nat.le_refl _, rfl, HP0, Lib.hid (fun h => by cases h)⟩
              case round =>
                clear HP0
                obtain ⟨ab, cur, hgk, rfl, HP, HE⟩ := hrel
                obtain ⟨wo, rfl⟩ : ∃ wo : World, wo = wr := ⟨_, rfl⟩
                cases ab with
                | true =>
                  rw [if_pos rfl] at hgk
                  clear HE
                  go_wp2
                  obtain ⟨go, rfl⟩ : ∃ go : Nat, go = gk := ⟨_, rfl⟩
                  go_loopg [22, 23] j (fun gg ag fr wr => ∃ (f : Nat) (ab : Bool) (cu : Bank), j - f ≤ gg ∧ f ≤ j ∧ ag = .bool ab ∧ fr = .int .i64 f ∧ Hid (PicS w1 wr g5 j sv cu) ∧ Hid (Pl.PassI j cur cu ab f 0))
                  case atStart => exact ⟨0, false, cur, Nat.le_refl _, Nat.zero_le _, rfl, rfl, HP, Lib.hid Pl.PassI.start⟩
                  case round =>
                    clear HP
                    obtain ⟨f, ab, cu, hgf, hf, rfl, rfl, HP, HI⟩ := hrel
                    obtain ⟨wp, rfl⟩ : ∃ wp : World, wp = wr := ⟨_, rfl⟩
                    by_cases hlf : f < j
                    · have hlf' : (f : Int) < (j : Nat) := by omega
                      go_wp2
                      obtain ⟨gp, rfl⟩ : ∃ gp : Nat, gp = gk := ⟨_, rfl⟩
                      go_loopg [22, 24] j (fun gg ag tq wr => ∃ (t : Nat) (ab : Bool) (cu : Bank), j - t ≤ gg ∧ t ≤ j ∧ ag = .bool ab ∧ tq = .int .i64 t ∧ Hid (PicS w1 wr g5 j sv cu) ∧ Hid (Pl.PassI j cur cu ab f t))
                      case atStart => exact ⟨0, ab, cu, Nat.le_refl _, Nat.zero_le _, rfl, rfl, HP, HI⟩
                      case round =>
                        clear HP HI
                        obtain ⟨t, ab, cu, hgt, ht, rfl, rfl, HP, HI⟩ := hrel
                        obtain ⟨wq, rfl⟩ : ∃ wq : World, wq = wr := ⟨_, rfl⟩
                        by_cases hlt3 : t < j
                        · have hlt3' : (t : Int) < (j : Nat) := by omega
                          obtain ⟨A0', n0', c0', A1', n1', c1', A2', n2', c2', A3', n3', c3', A4', n4', c4', fpb, hs0, hj0, hsm0⟩ := HP.out
                          have HS := Lib.hid hs0
                          have HJ := Lib.hid hj0
                          have HSM := Lib.hid hsm0
                          have CS := stepBank_c cu ⟨2, (f : Nat), (t : Nat), 0⟩ j sv _ wq wq.heap.size (HS.out.rd 1 rfl) (Nat.le_refl _) HJ.out hal (by unfold Mm.I64; dsimp only; omega)
                          clear hs0 hj0 hsm0 HP
                          have b0 := HS.out.cell (k := 0) 0 rfl rfl
                          have b1 := HS.out.cell (k := 1) 0 rfl rfl
                          have b2 := HS.out.cell (k := 2) 0 rfl rfl
                          have b3 := HS.out.cell (k := 3) 0 rfl rfl
                          have b4 := HS.out.cell (k := 4) 0 rfl rfl
                          cases hw : Pl.wayAt cu (f * j + t) with
                          | nil =>
                            as_aux_lemma =>
                            have HBG := Lib.hid (Pl.take_none HJ.out hlf hlt3 hw)
                            have HW := Lib.hid hw
                            clear hw
                            go_upto_region 40 with (go_at_call 25; (with_reducible refine CS.mono ?_); clear CS; rintro e w8 ⟨E0, u0, v0, E1, u1, v1, E2, u2, v2, E3, u3, v3, E4, u4, v4, rfl, hb8, -⟩; rw [HBG.out]; (have HS8 := Lib.hid (HS.out.step hb8)); clear hb8; (clear b0 b1 b2 b3 b4))
                            have HS9 := Lib.hid (HS8.out.step (below_new (Below.refl _ _) (.cells #[.slice E0 u0 v0, .slice E1 u1 v1, .slice E2 u2 v2, .slice E3 u3 v3, .slice E4 u4 v4] 28)))
                            go_wp2
                            go_roundg (j - (t + 1))
                            case measure => omega
                            case rel => exact ⟨t + 1, ab, cu, Nat.le_refl _, by omega, rfl, by go_num, Lib.hid ⟨_, _, _, _, _, _, _, _, _, _, _, _, _, _, _, _, HS9.out, HJ.out, HSM.out⟩, Lib.hid (HI.out.none HW.out)⟩
                          | cons x r =>
                            as_aux_lemma =>
                            have HBG := Lib.hid (Pl.take_some HJ.out hlf hlt3 hw)
                            have htk : Pl.Mv j (Pl.viewN j (Pl.btake (Pl.setWay cu (f * j + t) r) f t x)) ≤ Pl.Mv j (Pl.viewN j cu) - 1 ∧ ∀ k, k < j → 0 ≤ Pl.keptAt cu k → 0 ≤ Pl.keptAt (Pl.btake (Pl.setWay cu (f * j + t) r) f t x) k := by
                              obtain ⟨q, hI⟩ := HJ.out.bi
                              exact (Pl.take_ok hI HJ.out.len HJ.out.jv hlf hlt3 hw).2
                            have hjn : Pl.JB j sv (Pl.btake (Pl.setWay cu (f * j + t) r) f t x) := by have := HJ.out.step ⟨2, (f : Nat), (t : Nat), 0⟩; rwa [HBG.out] at this
                            have HTK := Lib.hid htk
                            have HJN := Lib.hid hjn
                            obtain ⟨nx, hnx⟩ : ∃ nx, Pl.btake (Pl.setWay cu (f * j + t) r) f t x = nx := ⟨_, rfl⟩
                            rw [hnx] at HBG HTK HJN
                            clear hw htk hjn hnx
                            go_upto_region 40 with (go_at_call 25; (with_reducible refine CS.mono ?_); clear CS; rintro e w8 ⟨E0, u0, v0, E1, u1, v1, E2, u2, v2, E3, u3, v3, E4, u4, v4, rfl, hb8, hok⟩; rw [HBG.out] at hok ⊢; obtain ⟨fp8, hs8⟩ := hok rfl; (have HS8 := Lib.hid (HS.out.join hs8)); clear hok hb8 hs8; (clear b0 b1 b2 b3 b4))
                            obtain ⟨g9, hg9⟩ : ∃ g, w8.heap.size = g := ⟨_, rfl⟩
                            obtain ⟨W9, hW9⟩ : ∃ W, w8.alloc (.cells #[.slice E0 u0 v0, .slice E1 u1 v1, .slice E2 u2 v2, .slice E3 u3 v3, .slice E4 u4 v4] 28) = W := ⟨_, rfl⟩
                            have HS9 := Lib.hid ((HS8.out.alloc' hg9 28 [.slice E0 u0 v0, .slice E1 u1 v1, .slice E2 u2 v2, .slice E3 u3 v3, .slice E4 u4 v4]).atW hW9)
                            rw [hW9, hg9]
                            clear hW9 hg9 HS8
                            have HSS := HS9
                            clear HS
                            have HS := HSS
                            clear HSS HS9
                            have b0 := HS.out.cell (k := 0) 0 rfl rfl
                            have b1 := HS.out.cell (k := 1) 0 rfl rfl
                            have b2 := HS.out.cell (k := 2) 0 rfl rfl
                            have b3 := HS.out.cell (k := 3) 0 rfl rfl
                            have b4 := HS.out.cell (k := 4) 0 rfl rfl
                            have z0 := HS.out.frz (k := 0) 2 rfl
                            have z1 := HS.out.frz (k := 1) 2 rfl
                            have z2 := HS.out.frz (k := 2) 2 rfl
                            have z3 := HS.out.frz (k := 3) 2 rfl
                            have z4 := HS.out.frz (k := 4) 2 rfl
                            have r0 := HS.out.cell (k := 0) 2 rfl rfl
                            have r1 := HS.out.cell (k := 1) 2 rfl rfl
                            have r2 := HS.out.cell (k := 2) 2 rfl rfl
                            have r3 := HS.out.cell (k := 3) 2 rfl rfl
                            have r4 := HS.out.cell (k := 4) 2 rfl rfl
                            obtain ⟨WF, hWF⟩ : ∃ WQ : World, (((((W9.setCell ⟨g5, 0, none⟩ (.slice E0 u0 v0)).setCell ⟨g5, 1, none⟩ (.slice E1 u1 v1)).setCell ⟨g5, 2, none⟩ (.slice E2 u2 v2)).setCell ⟨g5, 3, none⟩ (.slice E3 u3 v3)).setCell ⟨g5, 4, none⟩ (.slice E4 u4 v4)) = WQ := ⟨_, rfl⟩
                            have HSF := Lib.hid ((((((HS.out.setBlk (k := 0) 2 rfl (.slice E0 u0 v0)).setBlk (k := 1) 2 rfl (.slice E1 u1 v1)).setBlk (k := 2) 2 rfl (.slice E2 u2 v2)).setBlk (k := 3) 2 rfl (.slice E3 u3 v3)).setBlk (k := 4) 2 rfl (.slice E4 u4 v4)).atW hWF)
                            go_wp2
                            go_roundg (j - (t + 1))
                            case measure => omega
                            case rel => exact ⟨t + 1, true, nx, Nat.le_refl _, by omega, rfl, by go_num, Lib.hid ⟨_, _, _, _, _, _, _, _, _, _, _, _, _, _, _, _, HSF.out.sel [2, 1] (by decide) rfl, HJN.out, by obtain ⟨k, hk1, hk2⟩ := HSM.out; exact ⟨k, hk1, HTK.out.2 k hk1 hk2⟩⟩, Lib.hid (HI.out.some HTK.out.1 _)⟩
                        · as_aux_lemma =>
                          obtain rfl : t = j := by omega
                          have hlt3' : ¬ ((t : Nat) : Int) < (t : Nat) := by omega
                          go_wp2
                          go_roundg (t - (f + 1))
                          case measure => omega
                          case rel => exact ⟨f + 1, ab, cu, Nat.le_refl _, by omega, rfl, by go_num, HP, Lib.hid HI.out.row⟩
                    · as_aux_lemma =>
                      obtain rfl : f = j := by omega
                      have hlf' : ¬ ((f : Nat) : Int) < (f : Nat) := by omega
                      go_wp2
                      cases ab with
                      | true =>
                        have hd := HI.out.1 rfl
                        have hn0 := Pl.Mv_nn (n := f) (v := Pl.viewN f cu)
                        have HD := Lib.hid hd
                        clear hd
                        go_roundg ((Pl.Mv f (Pl.viewN f cu)).toNat + 1)
                        case measure => have := HD.out; omega
                        case rel => exact ⟨true, cu, by rw [if_pos rfl]; exact Nat.le_refl _, rfl, HP, Lib.hid (fun h => by cases h)⟩
                      | false =>
                        have hd := (HI.out.2 rfl).2
                        have HD := Lib.hid hd
                        clear hd
                        go_roundg 0
                        case measure => omega
                        case rel => exact ⟨false, cu, by rw [if_neg (by simp)]; exact Nat.le_refl _, rfl, HP, Lib.hid (fun _ a d ha hd => HD.out a d (.inl ⟨ha, hd⟩))⟩
                | false =>
                  as_aux_lemma =>
                  have HEE := Lib.hid (HE.out rfl)
                  obtain ⟨A0', n0', c0', A1', n1', c1', A2', n2', c2', A3', n3', c3', A4', n4', c4', fpb, hs0, hj0, hsm0⟩ := HP.out
                  have HS := Lib.hid hs0
                  have HJ := Lib.hid hj0
                  have hfin : Pl.Taken j cur ∧ Pl.S j (Pl.viewN j cur).K + Pl.S2 j (Pl.viewN j cur).F = sv := by
                    obtain ⟨k, hk1, hk2⟩ := hsm0
                    have h1 := hj0.jv.fin HEE.out hk1 hk2
                    exact ⟨⟨h1.1, h1.2.1⟩, h1.2.2⟩
                  have HFN := Lib.hid hfin
                  have hqq : (sv == sv) = true := by simp
                  clear hs0 hj0 hsm0 HP HE hfin
                  have b0 := HS.out.cell (k := 0) 0 rfl rfl
                  have b1 := HS.out.cell (k := 1) 0 rfl rfl
                  have b2 := HS.out.cell (k := 2) 0 rfl rfl
                  have b3 := HS.out.cell (k := 3) 0 rfl rfl
                  have b4 := HS.out.cell (k := 4) 0 rfl rfl
                  go_wp2_with first
                    | (go_at_call 26; (with_reducible refine (isTakenF_yes cur j sv _ _ wo.heap.size (HS.out.rd 1 rfl) (Nat.le_refl _) HJ.out hal HFN.out.1).mono ?_); rintro e w6 ⟨rfl, hb6⟩; (have HS6 := Lib.hid (HS.out.step hb6)); clear hb6 HS; (have HS := HS6); (clear b0 b1 b2 b3 b4); (have b0 := HS.out.cell (k := 0) 0 rfl rfl); (have b1 := HS.out.cell (k := 1) 0 rfl rfl); (have b2 := HS.out.cell (k := 2) 0 rfl rfl); (have b3 := HS.out.cell (k := 3) 0 rfl rfl); (have b4 := HS.out.cell (k := 4) 0 rfl rfl))
                    | (go_at_call 27; (with_reducible refine (pictureOf_yes cur j sv _ w6 w6.heap.size (HS.out.rd 1 rfl) (Nat.le_refl _) HJ.out hal HFN.out.1 HFN.out.2).mono ?_); rintro e w7 ⟨rfl, hb7⟩; (have HS7 := Lib.hid (HS.out.step hb7)); clear hb7)
                  go_ret
                  exact ⟨rfl, below_step HBW.out HS7.out.bel0⟩
end Go.Proofs.Ytpmeagchkcffoaa

/-
  The statement of FnPictures: for every input the law returns true, and every argument reads afterwards as it read before. No conditions.
-/
namespace Go.Proofs.Ytpmeagchkcffoaa.fnPictures
open Go.ChangeShapes Go.WideShapes Go.ChangeAt Go.RowKit
open Go.ChangeMaps (open_string shut_string)
set_option linter.unusedVariables false

theorem own : ownKnob Try.prog.godebug = none := by kernel_rfl
theorem laidOut : laidOutB Try.prog = true := by kernel_rfl

set_option maxRecDepth 100000 in
theorem lifted (os : Os) (started : os.Started) (H : Type) (enc : TypeId × Value → H) :
    ReturnsInHanded {} Try.checked os 4 .any (Rows.fnPicturesSpec.pre6 enc Try.prog Try.f4 Rows.fnPicturesRow.domain false) (Rows.fnPicturesSpec.post enc Try.prog Try.f4 false true false false) := by
  refine returnsInHanded_of_change (C := Try.checked) own started (by kernel_rfl) Try.func4
    (ChangeSpec.witness6 (enc := enc) (C := Try.checked) false ⟨#[], #[.slice none 0 0], []⟩ 8 (by kernel_rfl) (by kernel_rfl) (by kernel_rfl) (by kernel_rfl)) ?_
  intro W base args ds gs before hval0 hW hcnd _
  have hval : ∀ (j : Nat) t v, Try.f4.params[j]? = some t → args[j]? = some v → Value.okWide Try.prog W .any base t v := hval0
  have hW' := hW
  obtain ⟨p, q, hA0, hV, rfl, hfz, hnd⟩ := hW
  have hA : DataW.TrodAll enc Try.prog W 0 (fun _ => true) true Try.f4.params.toList args.toList ds p := hA0
  rw [Try.params4] at hA hval
  obtain ⟨v0, vs0, d0, ds0, p0, q0, hargs, rfl, rfl, h0, r0⟩ := trodAll_cons hA
  obtain ⟨rfl, rfl, rfl⟩ := trodAll_nil r0
  obtain rfl : args = #[v0] := by cases args; simp_all
  obtain ⟨rfl, rfl⟩ := trodVars_none hV
  have k0 := h0
  have lt0 : ∀ x ∈ p0, x.block < W.heap.size := by obtain ⟨m, hm⟩ := k0; exact DataW.trod_lt m _ _ _ hm
  obtain ⟨A0, n0, c0, a0, rfl, w0⟩ := Mm.open_sl opens_u8S Try.underlying44 (hval 0 44 v0 rfl rfl) h0
  clear hA0 hval0
  refine (walk_FnPictures A0 n0 c0 a0 W w0).mono fun e W' ⟨he, bel⟩ => ?_
  subst he
  exact ⟨_, rfl, _, _, _, [], _, [], hW', trodAll_mk1 (shut_bool Try.underlying4 _), (trodAll_cons_mk (Below.trod laidOut (by kernel_rfl) (of_decide_eq_true (by kernel_rfl)) k0 bel lt0) trodAll_mk0), rfl, bel.frame _, fun h => by cases h⟩

theorem over : Rows.fnPicturesRow.holds Try.pinned (OpenSpec.ofChange Rows.fnPicturesSpec) :=
  OpenClaim.holds_of_wide 4 Try.f4 rfl rfl rfl rfl rfl rfl rfl ⟨rfl, rfl, rfl, rfl, rfl⟩ rfl rfl rfl rfl rfl (by kernel_rfl) Try.func4 (by kernel_rfl)
    (of_decide_eq_true (by kernel_rfl)) (by unfold Func.isWrapper; first | (rw [if_pos (by decide +kernel)]; kernel_rfl) | (rw [if_neg (by decide +kernel)]; exact ⟨rfl, rfl⟩))
    (fun os started H enc _ => lifted os started H enc)

theorem proved : Rows.FnPicturesSaid := over
#print axioms proved
end Go.Proofs.Ytpmeagchkcffoaa.fnPictures
