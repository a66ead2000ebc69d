/-
  Joined texts, in build order: S6, S7, Wz, In, Er, Sc, Am, S8, S9. Each part says what it proves; no conditions beyond those that a part names.
-/
import Derived.Test.YtnppcdiicnofpaaZ01
import Derived.Test.YtnppcdiicnofpaaZ02
import Derived.Test.YtnppcdiicnofpaaZ03
import Derived.Shelf.Spec.SlicesInsertGrow
import Derived.Lib.AppendZerosOnto
import Derived.Deep.RegionLaw
/-
  Contract: two ordered pieces merged in place (slices.symMergeCmpFunc) at ints, by value: all cases. No conditions beyond those named.
-/
namespace Go.Proofs.Ytnppcdiicnofpaa
open Go.RowKit
attribute [local go_sem] und_cell World.cell?_alloc_some
theorem Pl.Srt.out {v : Int → Int} {d d' : List Int} {a b lo hi : Nat} (h : Pl.Srt v d lo hi) (hm : Pl.Mv a b d d') (hb : b ≤ lo) : Pl.Srt v d' lo hi := fun i j x y h1 h2 h3 hx hy => by
  rw [hm.out i (.inr (by omega))] at hx
  rw [hm.out j (.inr (by omega))] at hy
  exact h i j x y h1 h2 h3 hx hy
theorem Pl.Lft.out {d d' : List Int} {a b lo mi hi : Nat} (h : Pl.Lft d lo mi hi) (hm : Pl.Mv a b d d') (hb : b ≤ lo) (h1 : lo ≤ mi) : Pl.Lft d' lo mi hi := fun i j x y p1 p2 p3 p4 hx hy => by
  rw [hm.out i (.inr (by omega))] at hx
  rw [hm.out j (.inr (by omega))] at hy
  exact h i j x y p1 p2 p3 p4 hx hy
/-- what a merge of pieces needs of the world, and what it leaves -/
def SymAt (vs : List Int) (A' : Option Addr) (n' c' gn B : Nat) (A : Option Addr) (n c : Nat) (fp : List Nat) (q : Nat) : Prop :=
  ∀ (d : List Int) (a m b : Nat) (w : World), b - a ≤ q → CapV vs A' n' c' gn B w → Mm.SlOwn Mm.int 3 w d (.slice A n c) fp → Pl.MIn (Pl.valAt vs) d a m b n' →
    Calls Try.prog 103 #[.slice A n c, .int .i64 a, .int .i64 m, .int .i64 b, .func (Fn.func 57) #[] #[.pointer (some ⟨gn, 0, none⟩)]] w fun e w' => e = .returned (.tuple #[]) ∧ ∃ d', Pl.MOut (Pl.valAt vs) d d' a b ∧ Mm.SepF fp w w' [Mm.tsl Mm.int 3 d' (.slice A n c) fp]
set_option maxRecDepth 100000 in
set_option maxHeartbeats 4000000 in
theorem symC1_c (vs : List Int) (A' : Option Addr) (n' c' gn B : Nat) (A : Option Addr) (n c : Nat) (fp : List Nat) (hnd : fp.Nodup) (g1 : gn ∉ fp) (g2 : ∀ b, b ∈ fp → B ≤ b) (hn : n ≤ 1000) (q : Nat) (IH : SymAt vs A' n' c' gn B A n c fp q) (d : List Int) (a m b : Nat) (w : World) (hq : b - a ≤ q + 1) (h : CapV vs A' n' c' gn B w) (hs : Mm.SlOwn Mm.int 3 w d (.slice A n c) fp) (hp : Pl.MIn (Pl.valAt vs) d a m b n')
    (hA : a + 1 < m) (hB : m + 1 < b) (mid : Nat) (hmid : (a + b) / 2 = mid) (hmm : (mid < m)) :
    Calls Try.prog 103 #[.slice A n c, .int .i64 a, .int .i64 m, .int .i64 b, .func (Fn.func 57) #[] #[.pointer (some ⟨gn, 0, none⟩)]] w fun e w' => e = .returned (.tuple #[]) ∧ ∃ d', Pl.MOut (Pl.valAt vs) d d' a b ∧ Mm.SepF fp w w' [Mm.tsl Mm.int 3 d' (.slice A n c) fp] := by
  have HS0 : Hid (Mm.SepF fp w w [Mm.tsl Mm.int 3 d (.slice A n c) fp]) := Mm.SepF.one (Mm.tsl Mm.int 3 d (.slice A n c) fp) w hs hnd
  have HLN : Hid (d.length = n) := by obtain ⟨_, _, _, hv, q1, _⟩ := hs.form; injection hv with _ q2 _; exact (q2.trans q1).symm
  have hbn : b ≤ n := by have := hp.pre.len; have := HLN.out; omega
  have HC := Lib.hid h
  have HQ := Lib.hid (And.intro g1 g2)
  have HP := Lib.hid hp
  have HND := Lib.hid hnd
  have f0 : ((m : Int) - (a : Int) == 1) = false := by rw [beq_eq_false_iff_ne]; omega
  have f1 : ((b : Int) - (m : Int) == 1) = false := by rw [beq_eq_false_iff_ne]; omega
  have hma : a < mid := by omega
  have hmb2 : mid < b := by omega
  have l1 : ((a : Int) + (b : Int)) / 2 = (mid : Int) := by omega
  have HMI : Hid (mid = (a + b) / 2) := hmid.symm
  obtain ⟨n1, hn1⟩ : ∃ n1, mid + m = n1 := ⟨_, rfl⟩
  obtain ⟨n1p, hn1p⟩ : ∃ n1p, n1 - 1 = n1p := ⟨_, rfl⟩
  have l2 : IntKind.i64.wrap ((mid : Int) + (m : Int)) = (n1 : Int) := by rw [IntWalk.i64_in _ (by omega)]; omega
  have l3 : IntKind.i64.wrap ((n1 : Int) - 1) = (n1p : Int) := by rw [IntWalk.i64_in _ (by omega)]; omega
  clear h hs hp
  obtain ⟨lo, hlo⟩ : ∃ lo, mid + m - b = lo := ⟨_, rfl⟩
  obtain ⟨hi, hhi⟩ : ∃ hi, mid = hi := ⟨_, rfl⟩
  have l4 : IntKind.i64.wrap ((n1 : Int) - (b : Int)) = (lo : Int) := by rw [IntWalk.i64_in _ (by omega)]; omega
  have l5 : (mid : Int) < (m : Int) := by omega
  have HLO : Hid (lo = if mid < m then mid + m - b else a) := Lib.hid (by rw [if_pos hmm]; exact hlo.symm)
  have HHI : Hid (hi = if mid < m then mid else m) := Lib.hid (by rw [if_pos hmm]; exact hhi.symm)
  have HLH : Hid (∀ c, lo ≤ c → c < hi → m ≤ mid + m - 1 - c ∧ mid + m - 1 - c < b ∧ c < mid + m) := Lib.hid (fun c h1 h2 => by omega)
  have hal : a ≤ lo := by omega
  have hhm : hi ≤ m := by omega
  have hlh : lo ≤ hi := by omega
  have hK : mid + m ≤ b + lo ∧ hi ≤ mid := by omega
  subst hhi
  clear hlo hmid
  go_enter Try.func103, Try.ntmps103
  skip
  go_wp2
  go_loopg [20, 21] (mid - lo) (fun gg s10 s11 wr => ∃ (s r : Nat), r - s ≤ gg ∧ lo ≤ s ∧ s ≤ r ∧ r ≤ mid ∧ s10 = .int .i64 s ∧ s11 = .int .i64 r ∧ Hid (Pl.Ms (Pl.valAt vs) d (mid + m) lo mid s r) ∧ Hid (Mm.SepF fp w wr [Mm.tsl Mm.int 3 d (.slice A n c) fp]))
  case atStart => exact ⟨lo, mid, by omega, by omega, by omega, by omega, rfl, rfl, Pl.Ms.start, HS0.out⟩
  case round =>
    clear f0 f1 l1 l2 l3 l5
    obtain ⟨s, r, hgg, hmi, hij, hjb, rfl, rfl, HB, HS⟩ := hrel
    obtain ⟨W, rfl⟩ : ∃ W : World, W = wr := ⟨_, rfl⟩
    obtain ⟨g, rfl, -, -⟩ := Mm.sl_addr (HS.out.sl 0 rfl) (by have := HLN.out; omega)
    by_cases hlt : s < r
    · as_aux_lemma =>
      obtain ⟨p, hp⟩ : ∃ p : Nat, ((s : Int) + (r : Int)) / 2 = p := ⟨(s + r) / 2, by omega⟩
      have hpi : s ≤ p := by omega
      have hpj : p < r := by omega
      have hcc := HLH.out p (by omega) (by omega)
      obtain ⟨t, ht⟩ : ∃ t, mid + m - 1 - p = t := ⟨_, rfl⟩
      rw [ht] at hcc
      obtain ⟨x, hx⟩ : ∃ x, d[p]? = some x := ⟨_, List.getElem?_eq_getElem (by have := HLN.out; omega)⟩
      obtain ⟨y, hy⟩ : ∃ y, d[t]? = some y := ⟨_, List.getElem?_eq_getElem (by have := HLN.out; omega)⟩
      have hxy : x < y := HP.out.pre.lf p t x y (by omega) (by omega) hcc.1 hcc.2.1 hx hy
      have u0 := int_ocell (HS.out.sl 0 rfl) (HS.out.ndat (i := 0) rfl) hx
      have v0 := int_ocell (HS.out.sl 0 rfl) (HS.out.ndat (i := 0) rfl) hy
      have CK := fun q : Und W => und_call q (closV_c vs A' n' c' gn B y x (und W q) ((HC.out.chg HS.out.chg HQ.out.1 HQ.out.2).bel q.h) (HP.out.num _ _ hy) (HP.out.num _ _ hx))
      have HX := Lib.hid hx
      have HY : Hid (d[mid + m - 1 - p]? = some y) := by rw [ht]; exact hy
      obtain ⟨cv, hcv⟩ : ∃ cv, Pl.valAt vs x - Pl.valAt vs y = cv := ⟨_, rfl⟩
      rw [hcv] at CK
      have f2 : (0 : Int) ≤ (p : Nat) := by omega
      have f3 : ((p : Nat) : Int).toNat = p := by omega
      have f4 : (0 : Int) ≤ (t : Nat) := by omega
      have f5 : ((t : Nat) : Int).toNat = t := by omega
      have f6 : (p : Int) < n := by omega
      have f7 : (t : Int) < n := by omega
      have f8 : IntKind.i64.wrap ((n1p : Int) - (p : Int)) = (t : Int) := by rw [IntWalk.i64_in _ (by omega)]; omega
      have fa : (s : Int) < (r : Int) := by omega
      clear hx hy ht hcc
      by_cases hneg : cv < 0
      · have hn4 : (!decide (cv < 0)) = false := by simp; omega
        have HN := Lib.hid (HB.out.down HP.out.pre hal hhm HLH.out (by omega) (by omega) HX.out HY.out ((Pl.Bef.lt hxy).2 (by omega)))
        clear hcv
        go_wp2
        refine wp_region_und (by kernel_rfl) (by kernel_rfl) ?_
        repeat (go_big_quiet_step ((first | (go_at_call 57; with_reducible exact CK _))))
        refine wpQuiet_nil ?_
        intro X hX
        clear CK u0 v0
        have HS1 := Lib.hid (HS.out.step hX)
        clear hX
        go_wp2
        go_roundg (p - s)
        case measure => omega
        case rel => exact ⟨s, p, Nat.le_refl _, by omega, by omega, by omega, rfl, rfl, HN.out, HS1.out⟩
      · have hn4 : (!decide (cv < 0)) = true := by simp; omega
        have HN := Lib.hid (HB.out.up HP.out.pre hal hhm HLH.out (by omega) (by omega) HX.out HY.out ((Pl.Bef.lt' hxy).2 (by omega)))
        clear hcv
        go_wp2
        refine wp_region_und (by kernel_rfl) (by kernel_rfl) ?_
        repeat (go_big_quiet_step ((first | (go_at_call 57; with_reducible exact CK _))))
        refine wpQuiet_nil ?_
        intro X hX
        clear CK u0 v0
        have HS1 := Lib.hid (HS.out.step hX)
        clear hX
        go_wp2
        go_roundg (r - (p + 1))
        case measure => omega
        case rel => exact ⟨p + 1, r, Nat.le_refl _, by omega, by omega, by omega, by go_num, rfl, HN.out, HS1.out⟩
    · have hij2 : r = s := by omega
      subst hij2
      have fa : ¬ (r : Int) < (r : Int) := by omega
      obtain ⟨e, he⟩ : ∃ e, mid + m - r = e := ⟨_, rfl⟩
      have f2 : IntKind.i64.wrap ((n1 : Int) - (r : Int)) = (e : Int) := by rw [IntWalk.i64_in _ (by omega)]; omega
      have HAL : Hid (∀ d1 : List Int, (∀ t, d1[t]? = Pl.rotF d r m e t) → a ≤ r ∧ r ≤ m ∧ r ≤ mid ∧ m ≤ e ∧ mid ≤ e ∧ e ≤ b ∧ Pl.Halves (Pl.valAt vs) d1 a r mid e b) := Lib.hid (fun d1 hr => by
        rw [← he] at hr ⊢
        exact Pl.halves HP.out.pre HMI.out HLO.out HHI.out hmi hjb HB.out hr)
      have hord : r ≤ m ∧ m ≤ e := by rw [← he]; omega
      have hab2 : a ≤ r ∧ e ≤ b := by rw [← he]; constructor <;> omega
      have hrm : r ≤ mid ∧ mid ≤ e := by rw [← he]; constructor <;> omega
      have HEE := Lib.hid he
      clear he HB HLO HHI HLH
      go_upto_region 39 with fail
      go_cut [185] (fun t wx => ∃ bv, t = .bool bv ∧ Hid (bv = decide (r < m ∧ m < e)) ∧ wx = W)
      case first =>
        as_aux_lemma =>
        by_cases k1 : r < m
        · have q1 : (r : Int) < (m : Int) := by omega
          by_cases k2 : m < e
          · have q2 : (m : Int) < (e : Int) := by omega
            go_wp2
            go_meet
            exact ⟨true, rfl, (decide_eq_true ⟨k1, k2⟩).symm, rfl⟩
          · have q2 : ¬ (m : Int) < (e : Int) := by omega
            go_wp2
            go_meet
            exact ⟨false, rfl, (decide_eq_false (fun h => k2 h.2)).symm, rfl⟩
        · have q1 : ¬ (r : Int) < (m : Int) := by omega
          go_wp2
          go_meet
          exact ⟨false, rfl, (decide_eq_false (fun h => k1 h.1)).symm, rfl⟩
      case rest =>
      as_aux_lemma =>
      obtain ⟨bv, rfl, HBV, rfl⟩ := hcut
      go_upto_if 185 with fail
      go_cut [] (fun wx => ∃ d1, Hid (Pl.Mv a b d d1) ∧ Hid (∀ t, d1[t]? = Pl.rotF d r m e t) ∧ Hid (Mm.SepF fp w wx [Mm.tsl Mm.int 3 d1 (.slice (some ⟨g, 0, none⟩) n c) fp]))
      case first =>
        as_aux_lemma =>
        cases bv with
        | true =>
          obtain ⟨k1, k2⟩ := of_decide_eq_true HBV.out.symm
          have CS := rotI_c d (some ⟨g, 0, none⟩) n c fp r m e (.func (Fn.func 57) #[] #[.pointer (some ⟨gn, 0, none⟩)]) wc (HS.out.sl 0 rfl) HND.out hn k1 k2 (by omega)
          go_wp2_with (go_at_call 115; (with_reducible refine CS.mono ?_); clear CS; rintro ex w1 ⟨rfl, zs, HZ, hz⟩; (have HS1 := Lib.hid (HS.out.call 0 rfl hz.left)); (have HZ1 := Lib.hid HZ); clear hz HZ)
          go_meet
          exact ⟨zs, HZ1.out.1.mono hab2.1 hab2.2, HZ1.out.2, HS1.out⟩
        | false =>
          have k := of_decide_eq_false HBV.out.symm
          go_wp2
          go_meet
          exact ⟨d, Pl.Mv.refl _ _ _, Pl.rotF_self (by omega) hord.1 hord.2, HS.out⟩
      case rest =>
        as_aux_lemma =>
        clear HS
        obtain ⟨d1, HM1, HR1, HS⟩ := hcut
        have HH := Lib.hid (HAL.out d1 HR1.out).2.2.2.2.2.2
        have HNU := Lib.hid (HP.out.num.mv HM1.out)
        clear HAL HR1 hord
        go_upto_region 41 with fail
        go_cut [199] (fun t wx => ∃ bv, t = .bool bv ∧ Hid (bv = decide (a < r ∧ r < mid)) ∧ wx = wc)
        case first =>
          as_aux_lemma =>
          by_cases k1 : a < r
          · have q1 : (a : Int) < (r : Int) := by omega
            by_cases k2 : r < mid
            · have q2 : (r : Int) < (mid : Int) := by omega
              go_wp2
              go_meet
              exact ⟨true, rfl, (decide_eq_true ⟨k1, k2⟩).symm, rfl⟩
            · have q2 : ¬ (r : Int) < (mid : Int) := by omega
              go_wp2
              go_meet
              exact ⟨false, rfl, (decide_eq_false (fun h => k2 h.2)).symm, rfl⟩
          · have q1 : ¬ (a : Int) < (r : Int) := by omega
            go_wp2
            go_meet
            exact ⟨false, rfl, (decide_eq_false (fun h => k1 h.1)).symm, rfl⟩
        case rest =>
        as_aux_lemma =>
        obtain ⟨bv, rfl, HBV, rfl⟩ := hcut
        go_upto_if 199 with fail
        go_cut [] (fun wx => ∃ d2, Hid (Pl.Mv a mid d1 d2) ∧ Hid (Pl.Srt (Pl.valAt vs) d2 a mid) ∧ Hid (Mm.SepF fp w wx [Mm.tsl Mm.int 3 d2 (.slice (some ⟨g, 0, none⟩) n c) fp]))
        case first =>
          as_aux_lemma =>
          cases bv with
          | true =>
            obtain ⟨k1, k2⟩ := of_decide_eq_true HBV.out.symm
            have CS := IH d1 a r mid wc (by omega) (HC.out.chg HS.out.chg HQ.out.1 HQ.out.2) (HS.out.sl 0 rfl) ⟨⟨k1, k2, by have := HM1.out.len; have := HLN.out; omega, HH.out.l1, HH.out.l2, HH.out.l3⟩, HNU.out⟩
            go_wp2_with (go_at_call 103; (with_reducible refine CS.mono ?_); clear CS; rintro ex w1 ⟨rfl, zs, HZ, hz⟩; (have HS1 := Lib.hid (HS.out.call 0 rfl hz.left)); (have HZ1 := Lib.hid HZ); clear hz HZ)
            go_meet
            exact ⟨zs, HZ1.out.1, HZ1.out.2, HS1.out⟩
          | false =>
            have k := of_decide_eq_false HBV.out.symm
            have k3 : Pl.Srt (Pl.valAt vs) d1 a mid := by
              by_cases k1 : a < r
              · exact HH.out.l1.sub (Nat.le_refl _) (by omega)
              · exact HH.out.l2.sub (by omega) (Nat.le_refl _)
            have HK3 := Lib.hid k3
            clear k3
            go_wp2
            go_meet
            exact ⟨d1, Pl.Mv.refl _ _ _, HK3.out, HS.out⟩
        case rest =>
          as_aux_lemma =>
          clear HS
          obtain ⟨d2, HM2, HR2, HS⟩ := hcut
          go_upto_region 43 with fail
          go_cut [213] (fun t wx => ∃ bv, t = .bool bv ∧ Hid (bv = decide (mid < e ∧ e < b)) ∧ wx = wc)
          case first =>
            as_aux_lemma =>
            by_cases k1 : mid < e
            · have q1 : (mid : Int) < (e : Int) := by omega
              by_cases k2 : e < b
              · have q2 : (e : Int) < (b : Int) := by omega
                go_wp2
                go_meet
                exact ⟨true, rfl, (decide_eq_true ⟨k1, k2⟩).symm, rfl⟩
              · have q2 : ¬ (e : Int) < (b : Int) := by omega
                go_wp2
                go_meet
                exact ⟨false, rfl, (decide_eq_false (fun h => k2 h.2)).symm, rfl⟩
            · have q1 : ¬ (mid : Int) < (e : Int) := by omega
              go_wp2
              go_meet
              exact ⟨false, rfl, (decide_eq_false (fun h => k1 h.1)).symm, rfl⟩
          case rest =>
          as_aux_lemma =>
          obtain ⟨bv, rfl, HBV, rfl⟩ := hcut
          cases bv with
          | true =>
            obtain ⟨k1, k2⟩ := of_decide_eq_true HBV.out.symm
            have CS := IH d2 mid e b wc (by omega) (HC.out.chg HS.out.chg HQ.out.1 HQ.out.2) (HS.out.sl 0 rfl) ⟨⟨k1, k2, by have := HM1.out.len; have := HM2.out.len; have := HLN.out; omega, HH.out.r1.out HM2.out (Nat.le_refl _), HH.out.r2.out HM2.out (by omega), HH.out.r3.out HM2.out (Nat.le_refl _) (by omega)⟩, HNU.out.mv HM2.out⟩
            go_wp2_with (go_at_call 103; (with_reducible refine CS.mono ?_); clear CS; rintro ex w1 ⟨rfl, zs, HZ, hz⟩; (have HS1 := Lib.hid (HS.out.call 0 rfl hz.left)); (have HZ1 := Lib.hid HZ); clear hz HZ)
            go_end0
            have HE := Pl.halves_end HH.out HM2.out HR2.out HZ1.out.1 HZ1.out.2 (by omega) (by omega)
            exact ⟨rfl, zs, ⟨HM1.out.trans HE.1, HE.2⟩, HS1.out⟩
          | false =>
            have k := of_decide_eq_false HBV.out.symm
            have k3 : Pl.Srt (Pl.valAt vs) d1 mid b := by
              by_cases k1 : mid < e
              · exact HH.out.r1.sub (Nat.le_refl _) (by omega)
              · exact HH.out.r2.sub (by omega) (Nat.le_refl _)
            have HE := Lib.hid (Pl.halves_end HH.out HM2.out HR2.out (Pl.Mv.refl _ _ _) (k3.out HM2.out (Nat.le_refl _)) (by omega) (by omega))
            clear k3
            go_wp2
            go_end0
            exact ⟨rfl, d2, ⟨HM1.out.trans HE.out.1, HE.out.2⟩, HS.out⟩
set_option maxRecDepth 100000 in
set_option maxHeartbeats 4000000 in
theorem symC2_c (vs : List Int) (A' : Option Addr) (n' c' gn B : Nat) (A : Option Addr) (n c : Nat) (fp : List Nat) (hnd : fp.Nodup) (g1 : gn ∉ fp) (g2 : ∀ b, b ∈ fp → B ≤ b) (hn : n ≤ 1000) (q : Nat) (IH : SymAt vs A' n' c' gn B A n c fp q) (d : List Int) (a m b : Nat) (w : World) (hq : b - a ≤ q + 1) (h : CapV vs A' n' c' gn B w) (hs : Mm.SlOwn Mm.int 3 w d (.slice A n c) fp) (hp : Pl.MIn (Pl.valAt vs) d a m b n')
    (hA : a + 1 < m) (hB : m + 1 < b) (mid : Nat) (hmid : (a + b) / 2 = mid) (hmm : (¬ mid < m)) :
    Calls Try.prog 103 #[.slice A n c, .int .i64 a, .int .i64 m, .int .i64 b, .func (Fn.func 57) #[] #[.pointer (some ⟨gn, 0, none⟩)]] w fun e w' => e = .returned (.tuple #[]) ∧ ∃ d', Pl.MOut (Pl.valAt vs) d d' a b ∧ Mm.SepF fp w w' [Mm.tsl Mm.int 3 d' (.slice A n c) fp] := by
  have HS0 : Hid (Mm.SepF fp w w [Mm.tsl Mm.int 3 d (.slice A n c) fp]) := Mm.SepF.one (Mm.tsl Mm.int 3 d (.slice A n c) fp) w hs hnd
  have HLN : Hid (d.length = n) := by obtain ⟨_, _, _, hv, q1, _⟩ := hs.form; injection hv with _ q2 _; exact (q2.trans q1).symm
  have hbn : b ≤ n := by have := hp.pre.len; have := HLN.out; omega
  have HC := Lib.hid h
  have HQ := Lib.hid (And.intro g1 g2)
  have HP := Lib.hid hp
  have HND := Lib.hid hnd
  have f0 : ((m : Int) - (a : Int) == 1) = false := by rw [beq_eq_false_iff_ne]; omega
  have f1 : ((b : Int) - (m : Int) == 1) = false := by rw [beq_eq_false_iff_ne]; omega
  have hma : a < mid := by omega
  have hmb2 : mid < b := by omega
  have l1 : ((a : Int) + (b : Int)) / 2 = (mid : Int) := by omega
  have HMI : Hid (mid = (a + b) / 2) := hmid.symm
  obtain ⟨n1, hn1⟩ : ∃ n1, mid + m = n1 := ⟨_, rfl⟩
  obtain ⟨n1p, hn1p⟩ : ∃ n1p, n1 - 1 = n1p := ⟨_, rfl⟩
  have l2 : IntKind.i64.wrap ((mid : Int) + (m : Int)) = (n1 : Int) := by rw [IntWalk.i64_in _ (by omega)]; omega
  have l3 : IntKind.i64.wrap ((n1 : Int) - 1) = (n1p : Int) := by rw [IntWalk.i64_in _ (by omega)]; omega
  clear h hs hp
  obtain ⟨lo, hlo⟩ : ∃ lo, a = lo := ⟨_, rfl⟩
  obtain ⟨hi, hhi⟩ : ∃ hi, m = hi := ⟨_, rfl⟩
  have l5 : ¬ (mid : Int) < (m : Int) := by omega
  have HLO : Hid (lo = if mid < m then mid + m - b else a) := Lib.hid (by rw [if_neg hmm]; exact hlo.symm)
  have HHI : Hid (hi = if mid < m then mid else m) := Lib.hid (by rw [if_neg hmm]; exact hhi.symm)
  have HLH : Hid (∀ c, lo ≤ c → c < hi → m ≤ mid + m - 1 - c ∧ mid + m - 1 - c < b ∧ c < mid + m) := Lib.hid (fun c h1 h2 => by omega)
  have hal : a ≤ lo := by omega
  have hhm : hi ≤ m := by omega
  have hlh : lo ≤ hi := by omega
  have hK : mid + m ≤ b + lo ∧ hi ≤ mid := by omega
  subst hlo hhi
  clear hmid
  go_enter Try.func103, Try.ntmps103
  skip
  go_wp2
  go_loopg [20, 21] (m - a) (fun gg s10 s11 wr => ∃ (s r : Nat), r - s ≤ gg ∧ a ≤ s ∧ s ≤ r ∧ r ≤ m ∧ s10 = .int .i64 s ∧ s11 = .int .i64 r ∧ Hid (Pl.Ms (Pl.valAt vs) d (mid + m) a m s r) ∧ Hid (Mm.SepF fp w wr [Mm.tsl Mm.int 3 d (.slice A n c) fp]))
  case atStart => exact ⟨a, m, by omega, by omega, by omega, by omega, rfl, rfl, Pl.Ms.start, HS0.out⟩
  case round =>
    clear f0 f1 l1 l2 l3 l5
    obtain ⟨s, r, hgg, hmi, hij, hjb, rfl, rfl, HB, HS⟩ := hrel
    obtain ⟨W, rfl⟩ : ∃ W : World, W = wr := ⟨_, rfl⟩
    obtain ⟨g, rfl, -, -⟩ := Mm.sl_addr (HS.out.sl 0 rfl) (by have := HLN.out; omega)
    by_cases hlt : s < r
    · as_aux_lemma =>
      obtain ⟨p, hp⟩ : ∃ p : Nat, ((s : Int) + (r : Int)) / 2 = p := ⟨(s + r) / 2, by omega⟩
      have hpi : s ≤ p := by omega
      have hpj : p < r := by omega
      have hcc := HLH.out p (by omega) (by omega)
      obtain ⟨t, ht⟩ : ∃ t, mid + m - 1 - p = t := ⟨_, rfl⟩
      rw [ht] at hcc
      obtain ⟨x, hx⟩ : ∃ x, d[p]? = some x := ⟨_, List.getElem?_eq_getElem (by have := HLN.out; omega)⟩
      obtain ⟨y, hy⟩ : ∃ y, d[t]? = some y := ⟨_, List.getElem?_eq_getElem (by have := HLN.out; omega)⟩
      have hxy : x < y := HP.out.pre.lf p t x y (by omega) (by omega) hcc.1 hcc.2.1 hx hy
      have u0 := int_ocell (HS.out.sl 0 rfl) (HS.out.ndat (i := 0) rfl) hx
      have v0 := int_ocell (HS.out.sl 0 rfl) (HS.out.ndat (i := 0) rfl) hy
      have CK := fun q : Und W => und_call q (closV_c vs A' n' c' gn B y x (und W q) ((HC.out.chg HS.out.chg HQ.out.1 HQ.out.2).bel q.h) (HP.out.num _ _ hy) (HP.out.num _ _ hx))
      have HX := Lib.hid hx
      have HY : Hid (d[mid + m - 1 - p]? = some y) := by rw [ht]; exact hy
      obtain ⟨cv, hcv⟩ : ∃ cv, Pl.valAt vs x - Pl.valAt vs y = cv := ⟨_, rfl⟩
      rw [hcv] at CK
      have f2 : (0 : Int) ≤ (p : Nat) := by omega
      have f3 : ((p : Nat) : Int).toNat = p := by omega
      have f4 : (0 : Int) ≤ (t : Nat) := by omega
      have f5 : ((t : Nat) : Int).toNat = t := by omega
      have f6 : (p : Int) < n := by omega
      have f7 : (t : Int) < n := by omega
      have f8 : IntKind.i64.wrap ((n1p : Int) - (p : Int)) = (t : Int) := by rw [IntWalk.i64_in _ (by omega)]; omega
      have fa : (s : Int) < (r : Int) := by omega
      clear hx hy ht hcc
      by_cases hneg : cv < 0
      · have hn4 : (!decide (cv < 0)) = false := by simp; omega
        have HN := Lib.hid (HB.out.down HP.out.pre hal hhm HLH.out (by omega) (by omega) HX.out HY.out ((Pl.Bef.lt hxy).2 (by omega)))
        clear hcv
        go_wp2
        refine wp_region_und (by kernel_rfl) (by kernel_rfl) ?_
        repeat (go_big_quiet_step ((first | (go_at_call 57; with_reducible exact CK _))))
        refine wpQuiet_nil ?_
        intro X hX
        clear CK u0 v0
        have HS1 := Lib.hid (HS.out.step hX)
        clear hX
        go_wp2
        go_roundg (p - s)
        case measure => omega
        case rel => exact ⟨s, p, Nat.le_refl _, by omega, by omega, by omega, rfl, rfl, HN.out, HS1.out⟩
      · have hn4 : (!decide (cv < 0)) = true := by simp; omega
        have HN := Lib.hid (HB.out.up HP.out.pre hal hhm HLH.out (by omega) (by omega) HX.out HY.out ((Pl.Bef.lt' hxy).2 (by omega)))
        clear hcv
        go_wp2
        refine wp_region_und (by kernel_rfl) (by kernel_rfl) ?_
        repeat (go_big_quiet_step ((first | (go_at_call 57; with_reducible exact CK _))))
        refine wpQuiet_nil ?_
        intro X hX
        clear CK u0 v0
        have HS1 := Lib.hid (HS.out.step hX)
        clear hX
        go_wp2
        go_roundg (r - (p + 1))
        case measure => omega
        case rel => exact ⟨p + 1, r, Nat.le_refl _, by omega, by omega, by omega, by go_num, rfl, HN.out, HS1.out⟩
    · have hij2 : r = s := by omega
      subst hij2
      have fa : ¬ (r : Int) < (r : Int) := by omega
      obtain ⟨e, he⟩ : ∃ e, mid + m - r = e := ⟨_, rfl⟩
      have f2 : IntKind.i64.wrap ((n1 : Int) - (r : Int)) = (e : Int) := by rw [IntWalk.i64_in _ (by omega)]; omega
      have HAL : Hid (∀ d1 : List Int, (∀ t, d1[t]? = Pl.rotF d r m e t) → a ≤ r ∧ r ≤ m ∧ r ≤ mid ∧ m ≤ e ∧ mid ≤ e ∧ e ≤ b ∧ Pl.Halves (Pl.valAt vs) d1 a r mid e b) := Lib.hid (fun d1 hr => by
        rw [← he] at hr ⊢
        exact Pl.halves HP.out.pre HMI.out HLO.out HHI.out hmi hjb HB.out hr)
      have hord : r ≤ m ∧ m ≤ e := by rw [← he]; omega
      have hab2 : a ≤ r ∧ e ≤ b := by rw [← he]; constructor <;> omega
      have hrm : r ≤ mid ∧ mid ≤ e := by rw [← he]; constructor <;> omega
      have HEE := Lib.hid he
      clear he HB HLO HHI HLH
      go_upto_region 39 with fail
      go_cut [185] (fun t wx => ∃ bv, t = .bool bv ∧ Hid (bv = decide (r < m ∧ m < e)) ∧ wx = W)
      case first =>
        as_aux_lemma =>
        by_cases k1 : r < m
        · have q1 : (r : Int) < (m : Int) := by omega
          by_cases k2 : m < e
          · have q2 : (m : Int) < (e : Int) := by omega
            go_wp2
            go_meet
            exact ⟨true, rfl, (decide_eq_true ⟨k1, k2⟩).symm, rfl⟩
          · have q2 : ¬ (m : Int) < (e : Int) := by omega
            go_wp2
            go_meet
            exact ⟨false, rfl, (decide_eq_false (fun h => k2 h.2)).symm, rfl⟩
        · have q1 : ¬ (r : Int) < (m : Int) := by omega
          go_wp2
          go_meet
          exact ⟨false, rfl, (decide_eq_false (fun h => k1 h.1)).symm, rfl⟩
      case rest =>
      as_aux_lemma =>
      obtain ⟨bv, rfl, HBV, rfl⟩ := hcut
      go_upto_if 185 with fail
      go_cut [] (fun wx => ∃ d1, Hid (Pl.Mv a b d d1) ∧ Hid (∀ t, d1[t]? = Pl.rotF d r m e t) ∧ Hid (Mm.SepF fp w wx [Mm.tsl Mm.int 3 d1 (.slice (some ⟨g, 0, none⟩) n c) fp]))
      case first =>
        as_aux_lemma =>
        cases bv with
        | true =>
          obtain ⟨k1, k2⟩ := of_decide_eq_true HBV.out.symm
          have CS := rotI_c d (some ⟨g, 0, none⟩) n c fp r m e (.func (Fn.func 57) #[] #[.pointer (some ⟨gn, 0, none⟩)]) wc (HS.out.sl 0 rfl) HND.out hn k1 k2 (by omega)
          go_wp2_with (go_at_call 115; (with_reducible refine CS.mono ?_); clear CS; rintro ex w1 ⟨rfl, zs, HZ, hz⟩; (have HS1 := Lib.hid (HS.out.call 0 rfl hz.left)); (have HZ1 := Lib.hid HZ); clear hz HZ)
          go_meet
          exact ⟨zs, HZ1.out.1.mono hab2.1 hab2.2, HZ1.out.2, HS1.out⟩
        | false =>
          have k := of_decide_eq_false HBV.out.symm
          go_wp2
          go_meet
          exact ⟨d, Pl.Mv.refl _ _ _, Pl.rotF_self (by omega) hord.1 hord.2, HS.out⟩
      case rest =>
        as_aux_lemma =>
        clear HS
        obtain ⟨d1, HM1, HR1, HS⟩ := hcut
        have HH := Lib.hid (HAL.out d1 HR1.out).2.2.2.2.2.2
        have HNU := Lib.hid (HP.out.num.mv HM1.out)
        clear HAL HR1 hord
        go_upto_region 41 with fail
        go_cut [199] (fun t wx => ∃ bv, t = .bool bv ∧ Hid (bv = decide (a < r ∧ r < mid)) ∧ wx = wc)
        case first =>
          as_aux_lemma =>
          by_cases k1 : a < r
          · have q1 : (a : Int) < (r : Int) := by omega
            by_cases k2 : r < mid
            · have q2 : (r : Int) < (mid : Int) := by omega
              go_wp2
              go_meet
              exact ⟨true, rfl, (decide_eq_true ⟨k1, k2⟩).symm, rfl⟩
            · have q2 : ¬ (r : Int) < (mid : Int) := by omega
              go_wp2
              go_meet
              exact ⟨false, rfl, (decide_eq_false (fun h => k2 h.2)).symm, rfl⟩
          · have q1 : ¬ (a : Int) < (r : Int) := by omega
            go_wp2
            go_meet
            exact ⟨false, rfl, (decide_eq_false (fun h => k1 h.1)).symm, rfl⟩
        case rest =>
        as_aux_lemma =>
        obtain ⟨bv, rfl, HBV, rfl⟩ := hcut
        go_upto_if 199 with fail
        go_cut [] (fun wx => ∃ d2, Hid (Pl.Mv a mid d1 d2) ∧ Hid (Pl.Srt (Pl.valAt vs) d2 a mid) ∧ Hid (Mm.SepF fp w wx [Mm.tsl Mm.int 3 d2 (.slice (some ⟨g, 0, none⟩) n c) fp]))
        case first =>
          as_aux_lemma =>
          cases bv with
          | true =>
            obtain ⟨k1, k2⟩ := of_decide_eq_true HBV.out.symm
            have CS := IH d1 a r mid wc (by omega) (HC.out.chg HS.out.chg HQ.out.1 HQ.out.2) (HS.out.sl 0 rfl) ⟨⟨k1, k2, by have := HM1.out.len; have := HLN.out; omega, HH.out.l1, HH.out.l2, HH.out.l3⟩, HNU.out⟩
            go_wp2_with (go_at_call 103; (with_reducible refine CS.mono ?_); clear CS; rintro ex w1 ⟨rfl, zs, HZ, hz⟩; (have HS1 := Lib.hid (HS.out.call 0 rfl hz.left)); (have HZ1 := Lib.hid HZ); clear hz HZ)
            go_meet
            exact ⟨zs, HZ1.out.1, HZ1.out.2, HS1.out⟩
          | false =>
            have k := of_decide_eq_false HBV.out.symm
            have k3 : Pl.Srt (Pl.valAt vs) d1 a mid := by
              by_cases k1 : a < r
              · exact HH.out.l1.sub (Nat.le_refl _) (by omega)
              · exact HH.out.l2.sub (by omega) (Nat.le_refl _)
            have HK3 := Lib.hid k3
            clear k3
            go_wp2
            go_meet
            exact ⟨d1, Pl.Mv.refl _ _ _, HK3.out, HS.out⟩
        case rest =>
          as_aux_lemma =>
          clear HS
          obtain ⟨d2, HM2, HR2, HS⟩ := hcut
          go_upto_region 43 with fail
          go_cut [213] (fun t wx => ∃ bv, t = .bool bv ∧ Hid (bv = decide (mid < e ∧ e < b)) ∧ wx = wc)
          case first =>
            as_aux_lemma =>
            by_cases k1 : mid < e
            · have q1 : (mid : Int) < (e : Int) := by omega
              by_cases k2 : e < b
              · have q2 : (e : Int) < (b : Int) := by omega
                go_wp2
                go_meet
                exact ⟨true, rfl, (decide_eq_true ⟨k1, k2⟩).symm, rfl⟩
              · have q2 : ¬ (e : Int) < (b : Int) := by omega
                go_wp2
                go_meet
                exact ⟨false, rfl, (decide_eq_false (fun h => k2 h.2)).symm, rfl⟩
            · have q1 : ¬ (mid : Int) < (e : Int) := by omega
              go_wp2
              go_meet
              exact ⟨false, rfl, (decide_eq_false (fun h => k1 h.1)).symm, rfl⟩
          case rest =>
          as_aux_lemma =>
          obtain ⟨bv, rfl, HBV, rfl⟩ := hcut
          cases bv with
          | true =>
            obtain ⟨k1, k2⟩ := of_decide_eq_true HBV.out.symm
            have CS := IH d2 mid e b wc (by omega) (HC.out.chg HS.out.chg HQ.out.1 HQ.out.2) (HS.out.sl 0 rfl) ⟨⟨k1, k2, by have := HM1.out.len; have := HM2.out.len; have := HLN.out; omega, HH.out.r1.out HM2.out (Nat.le_refl _), HH.out.r2.out HM2.out (by omega), HH.out.r3.out HM2.out (Nat.le_refl _) (by omega)⟩, HNU.out.mv HM2.out⟩
            go_wp2_with (go_at_call 103; (with_reducible refine CS.mono ?_); clear CS; rintro ex w1 ⟨rfl, zs, HZ, hz⟩; (have HS1 := Lib.hid (HS.out.call 0 rfl hz.left)); (have HZ1 := Lib.hid HZ); clear hz HZ)
            go_end0
            have HE := Pl.halves_end HH.out HM2.out HR2.out HZ1.out.1 HZ1.out.2 (by omega) (by omega)
            exact ⟨rfl, zs, ⟨HM1.out.trans HE.1, HE.2⟩, HS1.out⟩
          | false =>
            have k := of_decide_eq_false HBV.out.symm
            have k3 : Pl.Srt (Pl.valAt vs) d1 mid b := by
              by_cases k1 : mid < e
              · exact HH.out.r1.sub (Nat.le_refl _) (by omega)
              · exact HH.out.r2.sub (by omega) (Nat.le_refl _)
            have HE := Lib.hid (Pl.halves_end HH.out HM2.out HR2.out (Pl.Mv.refl _ _ _) (k3.out HM2.out (Nat.le_refl _)) (by omega) (by omega))
            clear k3
            go_wp2
            go_end0
            exact ⟨rfl, d2, ⟨HM1.out.trans HE.out.1, HE.out.2⟩, HS.out⟩
theorem symM_c (vs : List Int) (A' : Option Addr) (n' c' gn B : Nat) (A : Option Addr) (n c : Nat) (fp : List Nat) (hnd : fp.Nodup) (g1 : gn ∉ fp) (g2 : ∀ b, b ∈ fp → B ≤ b) (hn : n ≤ 1000) : ∀ q, SymAt vs A' n' c' gn B A n c fp q := by
  intro q
  induction q with
  | zero =>
    intro d a m b w hq h hs hp
    have := hp.pre.am
    have := hp.pre.mb
    omega
  | succ q IH =>
    intro d a m b w hq h hs hp
    have ham := hp.pre.am
    have hmb := hp.pre.mb
    by_cases hA : m = a + 1
    · exact symA_c vs A' n' c' gn B d A n c fp a m b w h hs hnd g1 g2 hn hp hA
    · by_cases hB : b = m + 1
      · exact symB_c vs A' n' c' gn B d A n c fp a m b w h hs hnd g1 g2 hn hp (by omega) hB
      · by_cases hmm : (a + b) / 2 < m
        · exact symC1_c vs A' n' c' gn B A n c fp hnd g1 g2 hn q IH d a m b w hq h hs hp (by omega) (by omega) _ rfl hmm
        · exact symC2_c vs A' n' c' gn B A n c fp hnd g1 g2 hn q IH d a m b w hq h hs hp (by omega) (by omega) _ rfl hmm
end Go.Proofs.Ytnppcdiicnofpaa

/-
  Contract: slices.SortStableFunc at up to forty numbers, by value. No conditions beyond those named.
-/
namespace Go.Proofs.Ytnppcdiicnofpaa
open Go.RowKit
attribute [local go_sem] und_cell World.cell?_alloc_some
namespace Pl
theorem Srt.outl {v : Int → Int} {d d' : List Int} {a b lo hi : Nat} (h : Srt v d lo hi) (hm : Mv a b d d') (hb : hi ≤ a) : Srt v d' lo hi := fun i j x y h1 h2 h3 hx hy => by
  rw [hm.out i (.inl (by omega))] at hx
  rw [hm.out j (.inl (by omega))] at hy
  exact h i j x y h1 h2 h3 hx hy
theorem Asc.sub {d : List Int} {a b a' b' : Nat} (h : Asc d a b) (ha : a ≤ a') (hb : b' ≤ b) : Asc d a' b' := fun i j x y h1 h2 h3 hx hy => h i j x y (by omega) h2 (by omega) hx hy
/-- blocks of twenty sorted so far -/
def St (v : Int → Int) (d ys : List Int) (n a : Nat) : Prop :=
  (a = 0 ∧ ys = d) ∨ (a = 20 ∧ 20 ≤ n ∧ Mv 0 20 d ys ∧ Srt v ys 0 20) ∨ (a = 40 ∧ n = 40 ∧ ∃ y1, Mv 0 20 d y1 ∧ Srt v y1 0 20 ∧ Mv 20 40 y1 ys ∧ Srt v ys 20 40)
structure Fin (v : Int → Int) (d zs : List Int) (n : Nat) : Prop where
  mv : Mv 0 n d zs
  s1 : Srt v zs 0 (min 20 n)
  s2 : Srt v zs 20 n
  lf : Lft zs 0 20 n
theorem St.le {v : Int → Int} {d ys : List Int} {n a : Nat} (h : St v d ys n a) : a ≤ n ∧ Mv 0 n d ys := by
  rcases h with ⟨rfl, rfl⟩ | ⟨rfl, h, h1, _⟩ | ⟨rfl, h, y1, h1, _, h2, _⟩
  · exact ⟨Nat.zero_le _, Mv.refl _ _ _⟩
  · exact ⟨h, h1.mono (Nat.le_refl _) h⟩
  · exact ⟨by omega, (h1.mono (Nat.le_refl _) (by omega)).trans (h2.mono (by omega) (by omega))⟩
theorem St.asc {v : Int → Int} {d ys : List Int} {n a b : Nat} (h : St v d ys n a) (hd : Asc d 0 n) (hb : b ≤ n) : Asc ys a b := by
  rcases h with ⟨rfl, rfl⟩ | ⟨rfl, h, h1, _⟩ | ⟨rfl, h, _⟩
  · exact hd.sub (Nat.le_refl _) hb
  · intro i j x y p1 p2 p3 hx hy
    rw [h1.out i (.inr p1)] at hx
    rw [h1.out j (.inr (by omega))] at hy
    exact hd i j x y (by omega) p2 (by omega) hx hy
  · intro i j x y p1 p2 p3
    omega
theorem St.step {v : Int → Int} {d ys zs : List Int} {n a b : Nat} (h : St v d ys n a) (hb : a + 20 = b) (hbn : b ≤ n) (hn : n ≤ 40) (hm : Mv a b ys zs) (hs : Srt v zs a b) : St v d zs n b := by
  subst hb
  rcases h with ⟨rfl, rfl⟩ | ⟨rfl, h, h1, h2⟩ | ⟨rfl, h, _⟩
  · exact .inr (.inl ⟨rfl, by omega, hm, hs⟩)
  · exact .inr (.inr ⟨rfl, by omega, ys, h1, h2, hm, hs⟩)
  · omega
theorem lft_of {d e f : List Int} {n : Nat} (hd : Asc d 0 n) (h1 : Mv 0 20 d e) (h2 : Mv 20 n e f) : Lft f 0 20 n := fun i j x y p1 p2 p3 p4 hx hy => by
  rw [h2.out i (.inl p2)] at hx
  obtain ⟨i', q1, q2, q3⟩ := h1.inn i p1 p2
  obtain ⟨j', r1, r2, r3⟩ := h2.inn j p3 p4
  rw [q3] at hx
  rw [r3, h1.out j' (.inr r1)] at hy
  exact hd i' j' x y (Nat.zero_le _) (by omega) r2 hx hy
theorem St.fin {v : Int → Int} {d ys zs : List Int} {n a : Nat} (h : St v d ys n a) (hb : n < a + 20) (hn : n ≤ 40) (hd : Asc d 0 n) (hm : Mv a n ys zs) (hs : Srt v zs a n) : Fin v d zs n := by
  rcases h with ⟨rfl, rfl⟩ | ⟨rfl, h, h1, h2⟩ | ⟨rfl, rfl, y1, h1, h2, h3, h4⟩
  · exact ⟨hm, hs.sub (Nat.le_refl _) (by omega), fun i j x y p1 p2 p3 => by omega, fun i j x y p1 p2 p3 p4 => by omega⟩
  · exact ⟨(h1.mono (Nat.le_refl _) h).trans (hm.mono (by omega) (Nat.le_refl _)), by rw [Nat.min_eq_left h]; exact h2.outl hm (Nat.le_refl _), hs, lft_of hd h1 hm⟩
  · have he : zs = ys := List.ext_getElem? fun i => hm.out i (by omega)
    subst he
    exact ⟨(h1.mono (Nat.le_refl _) (by omega)).trans (h3.mono (by omega) (Nat.le_refl _)), h2.outl h3 (by omega), h4, lft_of hd h1 h3⟩
theorem Fin.pre {v : Int → Int} {d zs : List Int} {n : Nat} (h : Fin v d zs n) (hn : 20 < n) (hl : d.length = n) : MPre v zs 0 20 n :=
  ⟨by omega, hn, by rw [h.mv.len, hl]; exact Nat.le_refl _, by have := h.s1; rwa [Nat.min_eq_left (by omega)] at this, h.s2, h.lf⟩
theorem Fin.done {v : Int → Int} {d zs : List Int} {n : Nat} (h : Fin v d zs n) (hn : n ≤ 20) : MOut v d zs 0 n := ⟨h.mv, by have := h.s1; rwa [Nat.min_eq_right hn] at this⟩
theorem Fin.more {v : Int → Int} {d zs us : List Int} {n : Nat} (h : Fin v d zs n) (k : MOut v zs us 0 n) : MOut v d us 0 n := ⟨h.mv.trans k.1, k.2⟩
end Pl
set_option maxRecDepth 100000 in
set_option maxHeartbeats 4000000 in
theorem stable_c (vs : List Int) (A' : Option Addr) (n' c' gn B : Nat) (d : List Int) (A : Option Addr) (n c : Nat) (fp : List Nat) (w : World) (h : CapV vs A' n' c' gn B w) (hs : Mm.SlOwn Mm.int 3 w d (.slice A n c) fp) (hnd : fp.Nodup) (g1 : gn ∉ fp) (g2 : ∀ b, b ∈ fp → B ≤ b) (hn : n ≤ 40) (hnum : Pl.NumIn d n') (hasc : Pl.Asc d 0 n) :
    Calls Try.prog 80 #[.slice A n c, .int .i64 n, .func (Fn.func 57) #[] #[.pointer (some ⟨gn, 0, none⟩)]] w fun e w' => e = .returned (.tuple #[]) ∧ ∃ d', Pl.MOut (Pl.valAt vs) d d' 0 n ∧ Mm.SepF fp w w' [Mm.tsl Mm.int 3 d' (.slice A n c) fp] := by
  have HS0 : Hid (Mm.SepF fp w w [Mm.tsl Mm.int 3 d (.slice A n c) fp]) := Mm.SepF.one (Mm.tsl Mm.int 3 d (.slice A n c) fp) w hs hnd
  have HLN : Hid (d.length = n) := by obtain ⟨_, _, _, hv, q1, _⟩ := hs.form; injection hv with _ q2 _; exact (q2.trans q1).symm
  have HC := Lib.hid h
  have HQ := Lib.hid (And.intro g1 g2)
  have HND := Lib.hid hnd
  have HNU := Lib.hid hnum
  have HAS := Lib.hid hasc
  have HIN := fun (ys : List Int) (a b : Nat) (W : World) (hS : Mm.SepF fp w W [Mm.tsl Mm.int 3 ys (.slice A n c) fp]) (h1 : a ≤ b) (h2 : b ≤ n) (h3 : Pl.St (Pl.valAt vs) d ys n a) => insS_c vs A' n' c' gn B ys A n c fp a b W (h.chg hS.chg g1 g2) (hS.sl 0 rfl) hnd g1 g2 (by omega) h1 h2 (hnum.mv h3.le.2) (h3.asc hasc h2)
  have HSY := fun (ys : List Int) (W : World) (hS : Mm.SepF fp w W [Mm.tsl Mm.int 3 ys (.slice A n c) fp]) (h3 : Pl.Fin (Pl.valAt vs) d ys n) (h4 : 20 < n) => symM_c vs A' n' c' gn B A n c fp hnd g1 g2 (by omega) n ys 0 20 n W (by omega) (h.chg hS.chg g1 g2) (hS.sl 0 rfl) ⟨h3.pre h4 HLN.out, hnum.mv h3.mv⟩
  have KIN := Lib.hid HIN
  have KSY := Lib.hid HSY
  clear h hs hnd g1 g2 hnum hasc HIN HSY
  go_enter Try.func80, Try.ntmps80
  go_wp2
  go_loopg [7, 8] n (fun gg s7 s8 wr => ∃ (a b : Nat) (ys : List Int), n - a ≤ gg ∧ a + 20 = b ∧ b ≤ 1000 ∧ s7 = .int .i64 a ∧ s8 = .int .i64 b ∧ Hid (Pl.St (Pl.valAt vs) d ys n a) ∧ Hid (Mm.SepF fp w wr [Mm.tsl Mm.int 3 ys (.slice A n c) fp]))
  case atStart => exact ⟨0, 20, d, Nat.le_refl _, rfl, by omega, rfl, rfl, .inl ⟨rfl, rfl⟩, HS0.out⟩
  case round =>
    clear HS0
    obtain ⟨a, b, ys, hgg, hab, hb1, rfl, rfl, HT, HS⟩ := hrel
    obtain ⟨W, rfl⟩ : ∃ W : World, W = wr := ⟨_, rfl⟩
    by_cases hlt : b ≤ n
    · as_aux_lemma =>
      have CI := KIN.out ys a b W HS.out (by omega) hlt HT.out
      have f1 : (b : Int) ≤ (n : Int) := by omega
      go_wp2_with (go_at_call 102; (with_reducible refine CI.mono ?_); clear CI; rintro ex w1 ⟨rfl, zs, HZ, hz⟩; (have HS1 := Lib.hid (HS.out.call 0 rfl hz.left)); (have HZ1 := Lib.hid HZ); clear hz HZ)
      go_roundg (n - b)
      case measure => omega
      case rel => exact ⟨b, b + 20, zs, Nat.le_refl _, rfl, by omega, rfl, by go_num, HT.out.step hab hlt hn HZ1.out.1 HZ1.out.2, HS1.out⟩
    · as_aux_lemma =>
      have han := HT.out.le.1
      have CI := KIN.out ys a n W HS.out han (Nat.le_refl _) HT.out
      have f1 : ¬ (b : Int) ≤ (n : Int) := by omega
      go_upto_region 7 with (go_at_call 102; (with_reducible refine CI.mono ?_); clear CI; rintro ex w1 ⟨rfl, zs, HZ, hz⟩; (have HS1 := Lib.hid (HS.out.call 0 rfl hz.left)); (have HZ1 := Lib.hid HZ); clear hz HZ)
      have HF := Lib.hid (HT.out.fin (by omega) hn HAS.out HZ1.out.1 HZ1.out.2)
      clear HS HT HZ1 hgg han hlt f1 hb1 hab
      go_loopg [6] 1 (fun gg s6 wr => ∃ (z : Nat) (us : List Int), s6 = .int .i64 z ∧ ((z = 20 ∧ gg = 1 ∧ Hid (Pl.Fin (Pl.valAt vs) d us n)) ∨ (z = 40 ∧ Hid (Pl.MOut (Pl.valAt vs) d us 0 n))) ∧ Hid (Mm.SepF fp w wr [Mm.tsl Mm.int 3 us (.slice A n c) fp]))
      case atStart => exact ⟨20, zs, rfl, .inl ⟨rfl, rfl, HF.out⟩, HS1.out⟩
      case round =>
        clear HF HS1
        obtain ⟨z, us, rfl, hor, HS⟩ := hrel
        obtain ⟨W, rfl⟩ : ∃ W : World, W = wr := ⟨_, rfl⟩
        rcases hor with ⟨rfl, hg1, HF⟩ | ⟨rfl, HF⟩
        · by_cases h20 : 20 < n
          · have f1 : ((20 : Nat) : Int) < (n : Int) := by omega
            have CS := KSY.out us W HS.out HF.out h20
            by_cases h40 : n = 40
            · subst h40
              go_wp2
              go_loopg [7, 8] 1 (fun gi s7 s8 wr => ∃ (xs : List Int), ((s7 = .int .i64 0 ∧ s8 = .int .i64 40 ∧ gi = 1 ∧ wr = W ∧ xs = us) ∨ (s7 = .int .i64 40 ∧ s8 = .int .i64 80 ∧ Hid (Pl.MOut (Pl.valAt vs) us xs 0 40))) ∧ Hid (Mm.SepF fp w wr [Mm.tsl Mm.int 3 xs (.slice A 40 c) fp]))
              case atStart => exact ⟨us, .inl ⟨rfl, rfl, rfl, rfl, rfl⟩, HS.out⟩
              case round =>
                obtain ⟨xs, hor, HS2⟩ := hrel
                rcases hor with ⟨rfl, rfl, hgi, rfl, rfl⟩ | ⟨rfl, rfl, HO⟩
                · go_wp2_with (go_at_call 103; (refine CS.mono ?_); clear CS; rintro ex w2 ⟨rfl, ts, HZ, hz⟩; (have HS3 := Lib.hid (HS2.out.call 0 rfl hz.left)); (have HZ1 := Lib.hid HZ); clear hz HZ)
                  go_roundg 0
                  case measure => omega
                  case rel => exact ⟨ts, .inr ⟨rfl, by go_num, HZ1.out⟩, HS3.out⟩
                · go_wp2
                  go_roundg 0
                  case measure => omega
                  case rel => exact ⟨40, xs, by go_num, .inr ⟨rfl, HF.out.more HO.out⟩, HS2.out⟩
            · have f2 : ¬ ((40 : Int) ≤ (n : Int)) := by omega
              have f3 : ((20 : Int) < (n : Int)) := by omega
              have CS : Calls Try.prog 103 #[.slice A n c, .int .i64 0, .int .i64 20, .int .i64 n, .func (Fn.func 57) #[] #[.pointer (some ⟨gn, 0, none⟩)]] W _ := CS
              go_wp2
              go_loopg [7, 8] 0 (fun gi s7 s8 wr => s7 = .int .i64 0 ∧ s8 = .int .i64 40 ∧ wr = W)
              case atStart => exact ⟨rfl, rfl, rfl⟩
              case round =>
                obtain ⟨rfl, rfl, rfl⟩ := hrel
                go_wp2_with (go_at_call 103; (with_reducible refine CS.mono ?_); clear CS; rintro ex w2 ⟨rfl, ts, HZ, hz⟩; (have HS3 := Lib.hid (HS.out.call 0 rfl hz.left)); (have HZ1 := Lib.hid HZ); clear hz HZ)
                go_roundg 0
                case measure => omega
                case rel => exact ⟨40, ts, by go_num, .inr ⟨rfl, HF.out.more HZ1.out⟩, HS3.out⟩
          · have f1 : ¬ ((20 : Nat) : Int) < (n : Int) := by omega
            have HO := Lib.hid (HF.out.done (by omega))
            go_wp2
            go_end0
            exact ⟨rfl, us, HO.out, HS.out⟩
        · have f1 : ¬ ((40 : Nat) : Int) < (n : Int) := by omega
          go_wp2
          go_end0
          exact ⟨rfl, us, HF.out, HS.out⟩
set_option maxRecDepth 100000 in
theorem sortS_c (vs : List Int) (A' : Option Addr) (n' c' gn B : Nat) (d : List Int) (A : Option Addr) (n c : Nat) (fp : List Nat) (w : World) (h : CapV vs A' n' c' gn B w) (hs : Mm.SlOwn Mm.int 3 w d (.slice A n c) fp) (hnd : fp.Nodup) (g1 : gn ∉ fp) (g2 : ∀ b, b ∈ fp → B ≤ b) (hn : n ≤ 40) (hnum : Pl.NumIn d n') (hasc : Pl.Asc d 0 n) :
    Calls Try.prog 56 #[.slice A n c, .func (Fn.func 57) #[] #[.pointer (some ⟨gn, 0, none⟩)]] w fun e w' => e = .returned (.tuple #[]) ∧ ∃ d', Pl.MOut (Pl.valAt vs) d d' 0 n ∧ Mm.SepF fp w w' [Mm.tsl Mm.int 3 d' (.slice A n c) fp] := by
  have C := stable_c vs A' n' c' gn B d A n c fp w h hs hnd g1 g2 hn hnum hasc
  clear h hs hnd g1 g2 hnum hasc
  go_enter Try.func56, Try.ntmps56
  go_wp2_with (go_at_call 80; (with_reducible refine C.mono ?_); clear C; rintro ex w1 ⟨rfl, zs, HZ, hz⟩; (have HS1 := Lib.hid hz); (have HZ1 := Lib.hid HZ); clear hz HZ)
  go_end0
  exact ⟨rfl, zs, HZ1.out, HS1.out⟩
end Go.Proofs.Ytnppcdiicnofpaa

/-
  Contracts: the values of totals. No conditions.
-/
namespace Go.Proofs.Ytnppcdiicnofpaa
open Go.RowKit
attribute [local go_sem] und_cell World.cell?_alloc_some
theorem Try.infoVi : (Try.prog.info? 3).map (fun i => (i.zero, i.size, i.bytes)) = some (some (.int .i64 0), 1, 8) := by kernel_rfl
theorem Mm.Acc.ret1 {α : Type} {E : Mm.Rep α} {t : TypeId} {w wr : World} {xs : List α} {A : Option Addr} {n c : Nat} (h : Mm.Acc E t w xs (.slice A n c) wr) : Mm.NewSl E t w xs (.returned (.slice A n c)) wr := by
  obtain ⟨fp, h1, h2, h3, h4⟩ := h
  exact ⟨A, n, c, fp, rfl, h1, h2, h3, h4⟩
set_option maxRecDepth 100000 in
set_option maxHeartbeats 2000000 in
theorem totalValues_c (l : List Total) (op : Int) (A : Option Addr) (n c : Nat) (w : World) (B : Nat) (hl : Mm.SlAt rTotal w B l A n c) (hB : B ≤ w.heap.size) (hop : 1 ≤ op ∧ op ≤ 4) (hn : n ≤ 40) :
    Calls Try.prog 53 #[.slice A n c, .int .i64 op] w (Mm.NewSl Mm.int 3 w (Pl.totalValues l op)) := by
  have hlen : Hid (l.length = n) := hl.1
  have HL := Lib.hid hl
  have hop' : op = 1 ∨ op = 2 ∨ op = 3 ∨ op = 4 := by omega
  have HOP := Lib.hid hop'
  clear hl hop hop'
  obtain ⟨i0, hi, hz0, hz1, hz2⟩ := info_parts Try.infoVi
  go_enter Try.func53, Try.ntmps53
  go_wp2
  go_loopg [5, 10] n (fun g o i wr => ∃ k : Nat, n - k ≤ g ∧ k ≤ n ∧ i = .int .i64 k ∧ Mm.Acc Mm.int 3 w (Pl.totalValues (l.take k) op) o wr)
  case atStart => exact ⟨0, Nat.le_refl _, Nat.zero_le _, rfl, Mm.Acc.nil (Below.refl _ _)⟩
  case round =>
    obtain ⟨k, hgk, hk, rfl, hacc⟩ := hrel
    obtain ⟨W, rfl⟩ : ∃ W : World, W = wr := ⟨_, rfl⟩
    have hbel := hacc.bel
    have hsw := hbel.size
    obtain ⟨A', n', c', rfl, hn', -, -, -⟩ := hacc.form
    have hnk : n' = k := by rw [hn']; unfold Pl.totalValues; rw [List.length_map, List.length_take]; have := hlen.out; omega
    subst hnk
    have HA := Lib.hid hacc
    have HLw := Lib.hid (HL.out.keep fun b hb' => hbel.block b (Nat.lt_of_lt_of_le hb' hB))
    have HNL : Hid (n' = (Pl.totalValues (l.take n') op).length) := hn'
    clear hacc hbel hn'
    by_cases hlt : n' < n
    · obtain ⟨x, b0, off, A1, n1, c1, hx, rfl, hbb, hlx, g1, g2, g3, g4, d0, d1, d2, d3, d4⟩ := rTotal_get HLw.out hlt
      have hlt' : (n' : Int) < (n : Nat) := by omega
      have hlt2 : (0 : Int) ≤ (n' : Nat) := by omega
      have HN : Hid (Pl.totalValues (l.take (n' + 1)) op = Pl.totalValues (l.take n') op ++ [Pl.totVal x op]) := by
        obtain ⟨hk', hg⟩ := List.getElem?_eq_some_iff.1 hx
        show _ = _
        unfold Pl.totalValues
        rw [List.take_succ_eq_append_getElem hk', hg, List.map_append]; rfl
      obtain ⟨xL, xS, xC, xA, xM⟩ := x
      dsimp only at g1 g2 g3 g4 d0 d1 d2 d3 d4
      clear hx hlx
      rcases HOP.out with rfl | rfl | rfl | rfl
      · have HV : Hid (Pl.totVal ⟨xL, xS, xC, xA, xM⟩ 1 = xS) := rfl
        rw [HV.out] at HN
        obtain ⟨l0, ho, hnext⟩ := HA.out.push (W2 := (W.alloc (.cells #[.slice A1 n1 c1, .int .i64 xS, .int .i64 xC, .int .i64 xA, .int .i64 xM] 50)).alloc (.cells #[.int .i64 xS] 3)) (below_new (below_new (Below.refl _ _) _) _) (x := xS) (cx := [.int .i64 xS]) (fx := []) ⟨rfl, g1, rfl⟩ List.nodup_nil (fun b hb => by cases hb)
        rw [← HNL.out] at ho hnext
        have HNX := Lib.hid hnext
        have HO := Lib.hid ho
        clear ho hnext HV
        have hix : ∀ W' : World, (Instr.index 107 (.agg #[.int .i64 xS, .int .i64 xC, .int .i64 xA, .int .i64 xM]) (.int .i64 0)).run Try.prog W' = .ok (.int .i64 xS) W' := fun W' => by kernel_rfl
        go_wp2_with (at_builtin; refine wpList_append_lies _ (by rfl) _ _ _ (by rfl) 0 3 i0 _ 1 8 Try.underlying24 hi hz0 hz1 hz2 rfl (by omega) _ n' l0 (by rfl) HO.out ⟨W.heap.size + 1, 0, none⟩ 1 1 [.int .i64 xS] (by rfl) (by rfl) (World.news_of_block (B := W.heap.size + 1) (cs := #[.int .i64 xS]) (t := 3) (fr := (0, 0)) (Mm.heap_new _ (Mm.sz1 _ _) _)) (by simp [Value.oneCell']) (by omega) (by unfold maxLen; omega) (by omega) (Nat.zero_le _) _ rfl ?_; intro gg cap w2 hown1 hgrow hat hlt9; have HAC := Lib.hid (HNX.out gg cap w2 hown1 hgrow hat); clear hown1 hgrow hat hlt9)
        go_roundg (n - (n' + 1))
        case measure => omega
        case rel => exact ⟨n' + 1, Nat.le_refl _, by omega, by go_num, by rw [HN.out]; exact HAC.out⟩
      · have HV : Hid (Pl.totVal ⟨xL, xS, xC, xA, xM⟩ 2 = xC) := rfl
        rw [HV.out] at HN
        obtain ⟨l0, ho, hnext⟩ := HA.out.push (W2 := (W.alloc (.cells #[.slice A1 n1 c1, .int .i64 xS, .int .i64 xC, .int .i64 xA, .int .i64 xM] 50)).alloc (.cells #[.int .i64 xC] 3)) (below_new (below_new (Below.refl _ _) _) _) (x := xC) (cx := [.int .i64 xC]) (fx := []) ⟨rfl, g2, rfl⟩ List.nodup_nil (fun b hb => by cases hb)
        rw [← HNL.out] at ho hnext
        have HNX := Lib.hid hnext
        have HO := Lib.hid ho
        clear ho hnext HV
        have hix : ∀ W' : World, (Instr.index 107 (.agg #[.int .i64 xS, .int .i64 xC, .int .i64 xA, .int .i64 xM]) (.int .i64 1)).run Try.prog W' = .ok (.int .i64 xC) W' := fun W' => by kernel_rfl
        go_wp2_with (at_builtin; refine wpList_append_lies _ (by rfl) _ _ _ (by rfl) 0 3 i0 _ 1 8 Try.underlying24 hi hz0 hz1 hz2 rfl (by omega) _ n' l0 (by rfl) HO.out ⟨W.heap.size + 1, 0, none⟩ 1 1 [.int .i64 xC] (by rfl) (by rfl) (World.news_of_block (B := W.heap.size + 1) (cs := #[.int .i64 xC]) (t := 3) (fr := (0, 0)) (Mm.heap_new _ (Mm.sz1 _ _) _)) (by simp [Value.oneCell']) (by omega) (by unfold maxLen; omega) (by omega) (Nat.zero_le _) _ rfl ?_; intro gg cap w2 hown1 hgrow hat hlt9; have HAC := Lib.hid (HNX.out gg cap w2 hown1 hgrow hat); clear hown1 hgrow hat hlt9)
        go_roundg (n - (n' + 1))
        case measure => omega
        case rel => exact ⟨n' + 1, Nat.le_refl _, by omega, by go_num, by rw [HN.out]; exact HAC.out⟩
      · have HV : Hid (Pl.totVal ⟨xL, xS, xC, xA, xM⟩ 3 = xA) := rfl
        rw [HV.out] at HN
        obtain ⟨l0, ho, hnext⟩ := HA.out.push (W2 := (W.alloc (.cells #[.slice A1 n1 c1, .int .i64 xS, .int .i64 xC, .int .i64 xA, .int .i64 xM] 50)).alloc (.cells #[.int .i64 xA] 3)) (below_new (below_new (Below.refl _ _) _) _) (x := xA) (cx := [.int .i64 xA]) (fx := []) ⟨rfl, g3, rfl⟩ List.nodup_nil (fun b hb => by cases hb)
        rw [← HNL.out] at ho hnext
        have HNX := Lib.hid hnext
        have HO := Lib.hid ho
        clear ho hnext HV
        have hix : ∀ W' : World, (Instr.index 107 (.agg #[.int .i64 xS, .int .i64 xC, .int .i64 xA, .int .i64 xM]) (.int .i64 2)).run Try.prog W' = .ok (.int .i64 xA) W' := fun W' => by kernel_rfl
        go_wp2_with (at_builtin; refine wpList_append_lies _ (by rfl) _ _ _ (by rfl) 0 3 i0 _ 1 8 Try.underlying24 hi hz0 hz1 hz2 rfl (by omega) _ n' l0 (by rfl) HO.out ⟨W.heap.size + 1, 0, none⟩ 1 1 [.int .i64 xA] (by rfl) (by rfl) (World.news_of_block (B := W.heap.size + 1) (cs := #[.int .i64 xA]) (t := 3) (fr := (0, 0)) (Mm.heap_new _ (Mm.sz1 _ _) _)) (by simp [Value.oneCell']) (by omega) (by unfold maxLen; omega) (by omega) (Nat.zero_le _) _ rfl ?_; intro gg cap w2 hown1 hgrow hat hlt9; have HAC := Lib.hid (HNX.out gg cap w2 hown1 hgrow hat); clear hown1 hgrow hat hlt9)
        go_roundg (n - (n' + 1))
        case measure => omega
        case rel => exact ⟨n' + 1, Nat.le_refl _, by omega, by go_num, by rw [HN.out]; exact HAC.out⟩
      · have HV : Hid (Pl.totVal ⟨xL, xS, xC, xA, xM⟩ 4 = xM) := rfl
        rw [HV.out] at HN
        obtain ⟨l0, ho, hnext⟩ := HA.out.push (W2 := (W.alloc (.cells #[.slice A1 n1 c1, .int .i64 xS, .int .i64 xC, .int .i64 xA, .int .i64 xM] 50)).alloc (.cells #[.int .i64 xM] 3)) (below_new (below_new (Below.refl _ _) _) _) (x := xM) (cx := [.int .i64 xM]) (fx := []) ⟨rfl, g4, rfl⟩ List.nodup_nil (fun b hb => by cases hb)
        rw [← HNL.out] at ho hnext
        have HNX := Lib.hid hnext
        have HO := Lib.hid ho
        clear ho hnext HV
        have hix : ∀ W' : World, (Instr.index 107 (.agg #[.int .i64 xS, .int .i64 xC, .int .i64 xA, .int .i64 xM]) (.int .i64 3)).run Try.prog W' = .ok (.int .i64 xM) W' := fun W' => by kernel_rfl
        go_wp2_with (at_builtin; refine wpList_append_lies _ (by rfl) _ _ _ (by rfl) 0 3 i0 _ 1 8 Try.underlying24 hi hz0 hz1 hz2 rfl (by omega) _ n' l0 (by rfl) HO.out ⟨W.heap.size + 1, 0, none⟩ 1 1 [.int .i64 xM] (by rfl) (by rfl) (World.news_of_block (B := W.heap.size + 1) (cs := #[.int .i64 xM]) (t := 3) (fr := (0, 0)) (Mm.heap_new _ (Mm.sz1 _ _) _)) (by simp [Value.oneCell']) (by omega) (by unfold maxLen; omega) (by omega) (Nat.zero_le _) _ rfl ?_; intro gg cap w2 hown1 hgrow hat hlt9; have HAC := Lib.hid (HNX.out gg cap w2 hown1 hgrow hat); clear hown1 hgrow hat hlt9)
        go_roundg (n - (n' + 1))
        case measure => omega
        case rel => exact ⟨n' + 1, Nat.le_refl _, by omega, by go_num, by rw [HN.out]; exact HAC.out⟩
    · obtain rfl : n' = n := by omega
      have HT : Hid (l.take n' = l) := List.take_of_length_le (by rw [hlen.out]; exact Nat.le_refl _)
      have hlt' : ¬ (n' : Int) < (n' : Nat) := by omega
      have HR := Lib.hid HA.out.ret1
      rw [HT.out] at HR
      go_wp2
      go_ret
      exact HR.out
set_option maxRecDepth 100000 in
set_option maxHeartbeats 2000000 in
theorem l14Values_c (l : List Total) (op : Int) (A : Option Addr) (n c : Nat) (w : World) (B : Nat) (hl : Mm.SlAt rTotal w B l A n c) (hB : B ≤ w.heap.size) (hop : 1 ≤ op ∧ op ≤ 4) (hn : n ≤ 40) :
    Calls Try.prog 49 #[.slice A n c, .int .i64 op] w (Mm.NewSl Mm.int 3 w (Pl.totalValues l op)) := by
  have hlen : Hid (l.length = n) := hl.1
  have HL := Lib.hid hl
  have hop' : op = 1 ∨ op = 2 ∨ op = 3 ∨ op = 4 := by omega
  have HOP := Lib.hid hop'
  clear hl hop hop'
  obtain ⟨i0, hi, hz0, hz1, hz2⟩ := info_parts Try.infoVi
  go_enter Try.func49, Try.ntmps49
  go_wp2
  go_loopg [5, 11] n (fun g o i wr => ∃ k : Nat, n - k ≤ g ∧ k ≤ n ∧ i = .int .i64 k ∧ Mm.Acc Mm.int 3 w (Pl.totalValues (l.take k) op) o wr)
  case atStart => exact ⟨0, Nat.le_refl _, Nat.zero_le _, rfl, Mm.Acc.nil (Below.refl _ _)⟩
  case round =>
    obtain ⟨k, hgk, hk, rfl, hacc⟩ := hrel
    obtain ⟨W, rfl⟩ : ∃ W : World, W = wr := ⟨_, rfl⟩
    have hbel := hacc.bel
    have hsw := hbel.size
    obtain ⟨A', n', c', rfl, hn', -, -, -⟩ := hacc.form
    have hnk : n' = k := by rw [hn']; unfold Pl.totalValues; rw [List.length_map, List.length_take]; have := hlen.out; omega
    subst hnk
    have HA := Lib.hid hacc
    have HLw := Lib.hid (HL.out.keep fun b hb' => hbel.block b (Nat.lt_of_lt_of_le hb' hB))
    have HNL : Hid (n' = (Pl.totalValues (l.take n') op).length) := hn'
    clear hacc hbel hn'
    by_cases hlt : n' < n
    · obtain ⟨x, b0, off, A1, n1, c1, hx, rfl, hbb, hlx, g1, g2, g3, g4, d0, d1, d2, d3, d4⟩ := rTotal_get HLw.out hlt
      have hlt' : (n' : Int) < (n : Nat) := by omega
      have hlt2 : (0 : Int) ≤ (n' : Nat) := by omega
      have HN : Hid (Pl.totalValues (l.take (n' + 1)) op = Pl.totalValues (l.take n') op ++ [Pl.totVal x op]) := by
        obtain ⟨hk', hg⟩ := List.getElem?_eq_some_iff.1 hx
        show _ = _
        unfold Pl.totalValues
        rw [List.take_succ_eq_append_getElem hk', hg, List.map_append]; rfl
      obtain ⟨xL, xS, xC, xA, xM⟩ := x
      dsimp only at g1 g2 g3 g4 d0 d1 d2 d3 d4
      clear hx hlx
      rcases HOP.out with rfl | rfl | rfl | rfl
      · have HV : Hid (Pl.totVal ⟨xL, xS, xC, xA, xM⟩ 1 = xS) := rfl
        rw [HV.out] at HN
        obtain ⟨l0, ho, hnext⟩ := HA.out.push (W2 := (W.alloc (.cells #[.slice A1 n1 c1, .int .i64 xS, .int .i64 xC, .int .i64 xA, .int .i64 xM] 50)).alloc (.cells #[.int .i64 xS] 3)) (below_new (below_new (Below.refl _ _) _) _) (x := xS) (cx := [.int .i64 xS]) (fx := []) ⟨rfl, g1, rfl⟩ List.nodup_nil (fun b hb => by cases hb)
        rw [← HNL.out] at ho hnext
        have HNX := Lib.hid hnext
        have HO := Lib.hid ho
        clear ho hnext HV
        have hix : ∀ W' : World, (Instr.index 107 (.agg #[.int .i64 xS, .int .i64 xC, .int .i64 xA, .int .i64 xM]) (.int .i64 0)).run Try.prog W' = .ok (.int .i64 xS) W' := fun W' => by kernel_rfl
        go_wp2_with (at_builtin; refine wpList_append_lies _ (by rfl) _ _ _ (by rfl) 0 3 i0 _ 1 8 Try.underlying24 hi hz0 hz1 hz2 rfl (by omega) _ n' l0 (by rfl) HO.out ⟨W.heap.size + 1, 0, none⟩ 1 1 [.int .i64 xS] (by rfl) (by rfl) (World.news_of_block (B := W.heap.size + 1) (cs := #[.int .i64 xS]) (t := 3) (fr := (0, 0)) (Mm.heap_new _ (Mm.sz1 _ _) _)) (by simp [Value.oneCell']) (by omega) (by unfold maxLen; omega) (by omega) (Nat.zero_le _) _ rfl ?_; intro gg cap w2 hown1 hgrow hat hlt9; have HAC := Lib.hid (HNX.out gg cap w2 hown1 hgrow hat); clear hown1 hgrow hat hlt9)
        go_roundg (n - (n' + 1))
        case measure => omega
        case rel => exact ⟨n' + 1, Nat.le_refl _, by omega, by go_num, by rw [HN.out]; exact HAC.out⟩
      · have HV : Hid (Pl.totVal ⟨xL, xS, xC, xA, xM⟩ 2 = xC) := rfl
        rw [HV.out] at HN
        obtain ⟨l0, ho, hnext⟩ := HA.out.push (W2 := (W.alloc (.cells #[.slice A1 n1 c1, .int .i64 xS, .int .i64 xC, .int .i64 xA, .int .i64 xM] 50)).alloc (.cells #[.int .i64 xC] 3)) (below_new (below_new (Below.refl _ _) _) _) (x := xC) (cx := [.int .i64 xC]) (fx := []) ⟨rfl, g2, rfl⟩ List.nodup_nil (fun b hb => by cases hb)
        rw [← HNL.out] at ho hnext
        have HNX := Lib.hid hnext
        have HO := Lib.hid ho
        clear ho hnext HV
        have hix : ∀ W' : World, (Instr.index 107 (.agg #[.int .i64 xS, .int .i64 xC, .int .i64 xA, .int .i64 xM]) (.int .i64 1)).run Try.prog W' = .ok (.int .i64 xC) W' := fun W' => by kernel_rfl
        go_wp2_with (at_builtin; refine wpList_append_lies _ (by rfl) _ _ _ (by rfl) 0 3 i0 _ 1 8 Try.underlying24 hi hz0 hz1 hz2 rfl (by omega) _ n' l0 (by rfl) HO.out ⟨W.heap.size + 1, 0, none⟩ 1 1 [.int .i64 xC] (by rfl) (by rfl) (World.news_of_block (B := W.heap.size + 1) (cs := #[.int .i64 xC]) (t := 3) (fr := (0, 0)) (Mm.heap_new _ (Mm.sz1 _ _) _)) (by simp [Value.oneCell']) (by omega) (by unfold maxLen; omega) (by omega) (Nat.zero_le _) _ rfl ?_; intro gg cap w2 hown1 hgrow hat hlt9; have HAC := Lib.hid (HNX.out gg cap w2 hown1 hgrow hat); clear hown1 hgrow hat hlt9)
        go_roundg (n - (n' + 1))
        case measure => omega
        case rel => exact ⟨n' + 1, Nat.le_refl _, by omega, by go_num, by rw [HN.out]; exact HAC.out⟩
      · have HV : Hid (Pl.totVal ⟨xL, xS, xC, xA, xM⟩ 3 = xA) := rfl
        rw [HV.out] at HN
        obtain ⟨l0, ho, hnext⟩ := HA.out.push (W2 := (W.alloc (.cells #[.slice A1 n1 c1, .int .i64 xS, .int .i64 xC, .int .i64 xA, .int .i64 xM] 50)).alloc (.cells #[.int .i64 xA] 3)) (below_new (below_new (Below.refl _ _) _) _) (x := xA) (cx := [.int .i64 xA]) (fx := []) ⟨rfl, g3, rfl⟩ List.nodup_nil (fun b hb => by cases hb)
        rw [← HNL.out] at ho hnext
        have HNX := Lib.hid hnext
        have HO := Lib.hid ho
        clear ho hnext HV
        have hix : ∀ W' : World, (Instr.index 107 (.agg #[.int .i64 xS, .int .i64 xC, .int .i64 xA, .int .i64 xM]) (.int .i64 2)).run Try.prog W' = .ok (.int .i64 xA) W' := fun W' => by kernel_rfl
        go_wp2_with (at_builtin; refine wpList_append_lies _ (by rfl) _ _ _ (by rfl) 0 3 i0 _ 1 8 Try.underlying24 hi hz0 hz1 hz2 rfl (by omega) _ n' l0 (by rfl) HO.out ⟨W.heap.size + 1, 0, none⟩ 1 1 [.int .i64 xA] (by rfl) (by rfl) (World.news_of_block (B := W.heap.size + 1) (cs := #[.int .i64 xA]) (t := 3) (fr := (0, 0)) (Mm.heap_new _ (Mm.sz1 _ _) _)) (by simp [Value.oneCell']) (by omega) (by unfold maxLen; omega) (by omega) (Nat.zero_le _) _ rfl ?_; intro gg cap w2 hown1 hgrow hat hlt9; have HAC := Lib.hid (HNX.out gg cap w2 hown1 hgrow hat); clear hown1 hgrow hat hlt9)
        go_roundg (n - (n' + 1))
        case measure => omega
        case rel => exact ⟨n' + 1, Nat.le_refl _, by omega, by go_num, by rw [HN.out]; exact HAC.out⟩
      · have HV : Hid (Pl.totVal ⟨xL, xS, xC, xA, xM⟩ 4 = xM) := rfl
        rw [HV.out] at HN
        obtain ⟨l0, ho, hnext⟩ := HA.out.push (W2 := (W.alloc (.cells #[.slice A1 n1 c1, .int .i64 xS, .int .i64 xC, .int .i64 xA, .int .i64 xM] 50)).alloc (.cells #[.int .i64 xM] 3)) (below_new (below_new (Below.refl _ _) _) _) (x := xM) (cx := [.int .i64 xM]) (fx := []) ⟨rfl, g4, rfl⟩ List.nodup_nil (fun b hb => by cases hb)
        rw [← HNL.out] at ho hnext
        have HNX := Lib.hid hnext
        have HO := Lib.hid ho
        clear ho hnext HV
        have hix : ∀ W' : World, (Instr.index 107 (.agg #[.int .i64 xS, .int .i64 xC, .int .i64 xA, .int .i64 xM]) (.int .i64 3)).run Try.prog W' = .ok (.int .i64 xM) W' := fun W' => by kernel_rfl
        go_wp2_with (at_builtin; refine wpList_append_lies _ (by rfl) _ _ _ (by rfl) 0 3 i0 _ 1 8 Try.underlying24 hi hz0 hz1 hz2 rfl (by omega) _ n' l0 (by rfl) HO.out ⟨W.heap.size + 1, 0, none⟩ 1 1 [.int .i64 xM] (by rfl) (by rfl) (World.news_of_block (B := W.heap.size + 1) (cs := #[.int .i64 xM]) (t := 3) (fr := (0, 0)) (Mm.heap_new _ (Mm.sz1 _ _) _)) (by simp [Value.oneCell']) (by omega) (by unfold maxLen; omega) (by omega) (Nat.zero_le _) _ rfl ?_; intro gg cap w2 hown1 hgrow hat hlt9; have HAC := Lib.hid (HNX.out gg cap w2 hown1 hgrow hat); clear hown1 hgrow hat hlt9)
        go_roundg (n - (n' + 1))
        case measure => omega
        case rel => exact ⟨n' + 1, Nat.le_refl _, by omega, by go_num, by rw [HN.out]; exact HAC.out⟩
    · obtain rfl : n' = n := by omega
      have HT : Hid (l.take n' = l) := List.take_of_length_le (by rw [hlen.out]; exact Nat.le_refl _)
      have hlt' : ¬ (n' : Int) < (n' : Nat) := by omega
      have HR := Lib.hid HA.out.ret1
      rw [HT.out] at HR
      go_wp2
      go_ret
      exact HR.out
set_option maxRecDepth 100000 in
theorem implValuesOf_c (l : List Total) (A : Option Addr) (n c : Nat) (op : Int) (w : World) (B : Nat) (hl : Mm.SlAt rTotal w B l A n c) (hB : B ≤ w.heap.size) :
    Calls Try.prog 12 #[.slice A n c, .int .i64 op] w (Mm.RetS2 Mm.int 3 w (Pl.valuesOf l op).1 (Pl.valuesOf l op).2) := by
  have hlen : Hid (l.length = n) := hl.1
  have HL := Lib.hid hl
  clear hl
  cases hc : Pl.totalsOk l
  · have HF : Hid (Pl.valuesOf l op = ([], false)) := if_neg (by rw [hc]; simp)
    go_enter Try.func12, Try.ntmps12
    go_wp2_with (go_at_call 51; refine (areTotals_c l _ _ _ _ B HL.out hB).mono ?_; rintro e w1 ⟨rfl, hb1⟩)
    rw [HF.out]
    go_ret2
    exact (Mm.Acc.nil hb1).ret
  cases hp : Pl.isIn op 1 4
  · have HF : Hid (Pl.valuesOf l op = ([], false)) := if_neg (by rw [hp]; simp)
    go_enter Try.func12, Try.ntmps12
    go_wp2_with first
      | (go_at_call 51; refine (areTotals_c l _ _ _ _ B HL.out hB).mono ?_; rintro e w1 ⟨rfl, hb1⟩)
      | (go_at_call 52; refine (within_c _ _ _ _).mono ?_; rintro e w2 ⟨rfl, rfl⟩)
    rw [HF.out]
    go_ret2
    exact (Mm.Acc.nil hb1).ret
  have HF : Hid (Pl.valuesOf l op = (Pl.totalValues l op, true)) := if_pos (by rw [hc, hp]; rfl)
  have hpb := Pl.isIn_iff.1 hp
  have hn : n ≤ 40 := by have := Pl.totalsOk_len hc; have := hlen.out; omega
  rw [HF.out]
  go_enter Try.func12, Try.ntmps12
  go_wp2_with first
    | (go_at_call 51; refine (areTotals_c l _ _ _ _ B HL.out hB).mono ?_; rintro e w1 ⟨rfl, hb1⟩)
    | (go_at_call 52; refine (within_c _ _ _ _).mono ?_; rintro e w2 ⟨rfl, rfl⟩)
    | (go_at_call 53; refine (totalValues_c l op _ _ _ _ B (HL.out.keep fun b hb' => hb1.block b (Nat.lt_of_lt_of_le hb' hB)) (Nat.le_trans hB hb1.size) hpb hn).mono ?_; rintro e w3 ⟨A3, n3, c3, f3, rfl, k1, k2, k3, k4⟩)
  go_ret2
  exact ⟨A3, n3, c3, f3, rfl, k1, k2, fun b hb => Nat.le_trans hb1.size (k3 b hb), below_step hb1 k4⟩
set_option maxRecDepth 100000 in
theorem specValuesOf_c (l : List Total) (A : Option Addr) (n c : Nat) (op : Int) (w : World) (B : Nat) (hl : Mm.SlAt rTotal w B l A n c) (hB : B ≤ w.heap.size) :
    Calls Try.prog 10 #[.slice A n c, .int .i64 op] w (Mm.RetS2 Mm.int 3 w (Pl.valuesOf l op).1 (Pl.valuesOf l op).2) := by
  have hlen : Hid (l.length = n) := hl.1
  have HL := Lib.hid hl
  clear hl
  cases hc : Pl.totalsOk l
  · have HF : Hid (Pl.valuesOf l op = ([], false)) := if_neg (by rw [hc]; simp)
    go_enter Try.func10, Try.ntmps10
    go_wp2_with (go_at_call 47; refine (GoodTotals_c l _ _ _ _ B HL.out hB).mono ?_; rintro e w1 ⟨rfl, hb1⟩)
    rw [HF.out]
    go_ret2
    exact (Mm.Acc.nil hb1).ret
  cases hp : Pl.isIn op 1 4
  · have HF : Hid (Pl.valuesOf l op = ([], false)) := if_neg (by rw [hp]; simp)
    go_enter Try.func10, Try.ntmps10
    go_wp2_with first
      | (go_at_call 47; refine (GoodTotals_c l _ _ _ _ B HL.out hB).mono ?_; rintro e w1 ⟨rfl, hb1⟩)
      | (go_at_call 48; refine (l1In_c _ _ _ _).mono ?_; rintro e w2 ⟨rfl, rfl⟩)
    rw [HF.out]
    go_ret2
    exact (Mm.Acc.nil hb1).ret
  have HF : Hid (Pl.valuesOf l op = (Pl.totalValues l op, true)) := if_pos (by rw [hc, hp]; rfl)
  have hpb := Pl.isIn_iff.1 hp
  have hn : n ≤ 40 := by have := Pl.totalsOk_len hc; have := hlen.out; omega
  rw [HF.out]
  go_enter Try.func10, Try.ntmps10
  go_wp2_with first
    | (go_at_call 47; refine (GoodTotals_c l _ _ _ _ B HL.out hB).mono ?_; rintro e w1 ⟨rfl, hb1⟩)
    | (go_at_call 48; refine (l1In_c _ _ _ _).mono ?_; rintro e w2 ⟨rfl, rfl⟩)
    | (go_at_call 49; refine (l14Values_c l op _ _ _ _ B (HL.out.keep fun b hb' => hb1.block b (Nat.lt_of_lt_of_le hb' hB)) (Nat.le_trans hB hb1.size) hpb hn).mono ?_; rintro e w3 ⟨A3, n3, c3, f3, rfl, k1, k2, k3, k4⟩)
  go_ret2
  exact ⟨A3, n3, c3, f3, rfl, k1, k2, fun b hb => Nat.le_trans hb1.size (k3 b hb), below_step hb1 k4⟩
end Go.Proofs.Ytnppcdiicnofpaa

/-
  slices.Insert with one element, and append of zero values, on slices that the call owns and whose elements are one cell each and lead nowhere. No program in sight. No conditions.
-/
namespace Go.Proofs.Ytnppcdiicnofpaa
open Go.RowKit
namespace Mm
theorem flat_sub {β γ : Type} (f : β → List γ) {us ts : List β} (h : us.Sublist ts) : (us.flatMap f).Sublist (ts.flatMap f) := by
  induction h with
  | slnil => exact List.Sublist.refl _
  | cons a _ ih => rw [List.flatMap_cons]; exact ih.trans (List.sublist_append_right _ _)
  | cons_cons a _ ih => rw [List.flatMap_cons, List.flatMap_cons]; exact (List.Sublist.refl _).append ih
/-- fewer things -/
theorem SepF.sub {F : List Nat} {w0 wr : World} {ts us : List Thing} (h : SepF F w0 wr ts) (hs : us.Sublist ts) : SepF F w0 wr us :=
  ⟨h.chg, h.nd.sublist (flat_sub (·.fp) hs), fun b hb => h.new b ((flat_sub (·.fp) hs).subset hb), fun u hu => h.hold u (hs.subset hu)⟩
/-- elements of one cell that lead nowhere -/
structure Flat1 {α : Type} (E : Rep α) (val : α → Value) : Prop where
  size : E.size = 1
  one : ∀ x, (val x).oneCell' = true
  inv : ∀ {w x cs fx}, E.own w x cs fx → cs = [val x] ∧ fx = [] ∧ ∀ w', E.own w' x [val x] []
theorem flat1_int : Flat1 int (fun x => .int .i64 x) := ⟨rfl, fun _ => rfl, fun h => ⟨h.1, h.2.2, fun _ => ⟨rfl, h.2.1, rfl⟩⟩⟩
theorem flat1_str : Flat1 str (fun x => .string x) := ⟨rfl, fun _ => rfl, fun h => ⟨h.1, h.2.2, fun _ => ⟨rfl, h.2.1, rfl⟩⟩⟩
theorem fm_val {α : Type} (val : α → Value) : ∀ xs : List α, xs.flatMap (fun x => [val x]) = xs.map val
  | [] => rfl
  | a :: t => by rw [List.flatMap_cons, fm_val val t]; rfl
theorem shape_blk {w : World} {g : Nat} {t : TypeId} {cs : List Value} (h : Blk w g t cs) : w.shape? g = some (t, cs.length) := by
  unfold Blk at h
  unfold World.shape?
  rw [h]
  simp
section
variable {α : Type} {E : Rep α} {val : α → Value} {e : TypeId} {w w' : World} {xs : List α} {v : Value} {fp : List Nat} {g n c : Nat}
theorem Flat1.owns (hF : Flat1 E val) (h : SlOwn E e w xs v fp) : w.ownsRow 0 e 1 v xs.length (xs.map val) ∧ fp = v.ownBlock.toList ∧ ∀ x, x ∈ xs → ∀ w', E.own w' x [val x] [] := by
  obtain ⟨es, he, ho, rfl⟩ := h
  have h1 : es = xs.map fun x => ([val x], ([] : List Nat)) := by
    apply List.ext_getElem?
    intro i
    rw [List.getElem?_map]
    rcases Nat.lt_or_ge i xs.length with hi | hi
    · have hx := List.getElem?_eq_getElem hi
      have hy := List.getElem?_eq_getElem (show i < es.length by rw [he.1]; exact hi)
      have h2 := hF.inv (he.2 i _ _ hx hy)
      rw [hx, hy]
      exact congrArg some (Prod.ext h2.1 h2.2.1)
    · rw [List.getElem?_eq_none hi, List.getElem?_eq_none (by rw [he.1]; exact hi)]
      rfl
  have h3 : (xs.map fun x => ([val x], ([] : List Nat))).flatMap (·.1) = xs.map val := by rw [List.flatMap_map]; exact fm_val val xs
  have h4 : (xs.map fun x => ([val x], ([] : List Nat))).flatMap (·.2) = [] := by simp [List.flatMap_map]
  refine ⟨?_, by rw [h1, h4]; simp, fun x hx w' => ?_⟩
  · rw [h1, h3, hF.size] at ho
    exact ho
  · obtain ⟨i, hi, rfl⟩ := List.mem_iff_getElem.1 hx
    exact (hF.inv (he.2 i _ _ (List.getElem?_eq_getElem hi) (List.getElem?_eq_getElem (show i < es.length by rw [he.1]; exact hi)))).2.2 w'
theorem Flat1.row (hF : Flat1 E val) (ho : w.ownsRow 0 e 1 v xs.length (xs.map val)) (hE : ∀ x, x ∈ xs → E.own w x [val x] []) : SlOwn E e w xs v v.ownBlock.toList :=
  SlOwn.of_row (enc := fun x => [val x]) (by
    rw [hF.size, show xs.flatMap (fun x => [val x]) = xs.map val from fm_val val xs]
    exact ho) hE rfl
theorem Flat1.blk (hF : Flat1 E val) (h : SlOwn E e w xs (.slice (some ⟨g, 0, none⟩) n c) fp) : ∃ cur, Blk w g e cur ∧ cur.length = c ∧ cur.take n = xs.map val ∧ n = xs.length ∧ n ≤ c ∧ c ≤ maxLen ∧ fp = [g] := by
  obtain ⟨h1, h2, _⟩ := hF.owns h
  rcases h1.2 with ⟨h3, _⟩ | ⟨g', cap, cur, h3, _, hg, hnc, hcm, hcs, htake⟩
  · simp at h3
  · simp only [Value.slice.injEq, Option.some.injEq, Addr.mk.injEq, and_true] at h3
    obtain ⟨rfl, rfl, rfl⟩ := h3
    refine ⟨cur.toList, by unfold Blk; rw [Array.toArray_toList]; exact hg, by simpa using hcs, by simpa using htake, rfl, hnc, hcm, by rw [h2]; simp [Value.ownBlock]⟩
theorem Flat1.of_blk (hF : Flat1 E val) {cur : List Value} (h : Blk w g e cur) (hl : cur.length = c) (ht : cur.take n = xs.map val) (hn : xs.length = n) (hnc : n ≤ c) (hc : c ≤ maxLen) (hE : ∀ x, x ∈ xs → E.own w x [val x] []) : SlOwn E e w xs (.slice (some ⟨g, 0, none⟩) n c) [g] := by
  subst hn
  exact hF.row ⟨by simp, .inr ⟨g, c, cur.toArray, rfl, Nat.zero_le _, h, hnc, hc, by simpa using hl, by simpa using ht⟩⟩ hE
theorem Flat1.cell (hF : Flat1 E val) (h : SlOwn E e w xs (.slice (some ⟨g, 0, none⟩) n c) fp) {k : Nat} {x : α} (hk : xs[k]? = some x) : w.cell? ⟨g, k, none⟩ = some (val x) := by
  obtain ⟨cur, hb, hcl, ht, hn, hnc, _⟩ := hF.blk h
  have hkn := (List.getElem?_eq_some_iff.1 hk).1
  refine hb.cell ?_
  have h1 : (cur.take n)[k]? = some (val x) := by rw [ht, List.getElem?_map, hk]; rfl
  rw [List.getElem?_take, if_pos (by omega)] at h1
  exact h1
theorem setCells_blk : ∀ (vs : List Value) (w : World) (o : Nat) (cs : List Value), Blk w g e cs → Blk (w.setCells g o vs) g e (setList cs o vs)
  | [], _, _, _, h => h
  | v :: r, _, o, _, h => setCells_blk r _ (o + 1) _ (h.set_ o v)
theorem setCells_chg (g : Nat) : ∀ (vs : List Value) (w : World) (o : Nat), Chg [g] w (w.setCells g o vs)
  | [], w, _ => Chg.refl _ _
  | v :: r, w, o => ((Chg.refl [g] w).setCell (p := ⟨g, o, none⟩) (by simp) v).trans (setCells_chg g r _ (o + 1))
theorem ins_cells {cur ys : List Value} {u : Value} {i : Nat} (ht : cur.take n = ys) (hn : ys.length = n) (hi : i < n) (hroom : n + 1 ≤ cur.length) :
    (setList (setList cur (i + 1) (ys.drop i)) i [u]).take n = Pl.insAt ys i u := by
  apply List.ext_getElem?
  intro j
  rw [Pl.insAt_get _ _ _ (by omega), List.getElem?_take, hn]
  by_cases hj : n ≤ j
  · rw [if_neg (by omega), if_pos hj]
  · rw [if_pos (by omega), if_neg hj, setList_get _ _ _ _ (by rw [setList_len]; simp; omega)]
    by_cases h1 : j < i
    · rw [if_pos h1, if_neg (by omega), setList_get _ _ _ _ (by rw [List.length_drop]; omega), if_neg (by omega), ← ht, List.getElem?_take, if_pos (by omega)]
    · rw [if_neg h1]
      by_cases h2 : j = i
      · subst h2
        rw [if_pos rfl, if_pos (by simp), Nat.sub_self]; rfl
      · rw [if_neg h2, if_neg (by simp; omega), setList_get _ _ _ _ (by rw [List.length_drop]; omega), if_pos (by rw [List.length_drop]; omega), List.getElem?_drop]
        congr 1; omega
theorem ins_cells' {rest ys : List Value} {z u : Value} {i k : Nat} (hn : ys.length = n) (hi : i < n) (hk : (ys.take i ++ List.replicate (n + 1 - i) z ++ rest).length = k) :
    (setList (setList (ys.take i ++ List.replicate (n + 1 - i) z ++ rest) i [u]) (i + 1) (ys.drop i)).take n = Pl.insAt ys i u := by
  have hl : n + 1 ≤ (ys.take i ++ List.replicate (n + 1 - i) z ++ rest).length := by
    rw [List.length_append, List.length_append, List.length_take, List.length_replicate]; omega
  apply List.ext_getElem?
  intro j
  rw [Pl.insAt_get _ _ _ (by omega), List.getElem?_take, hn]
  by_cases hj : n ≤ j
  · rw [if_neg (by omega), if_pos hj]
  · rw [if_pos (by omega), if_neg hj, setList_get _ _ _ _ (by rw [setList_len, List.length_drop]; omega)]
    by_cases h1 : j < i
    · rw [if_pos h1, if_neg (by omega), setList_get _ _ _ _ (by simp only [List.length_singleton]; omega), if_neg (by omega), List.getElem?_append_left (by rw [List.length_append, List.length_take, List.length_replicate]; omega), List.getElem?_append_left (by rw [List.length_take]; omega), List.getElem?_take, if_pos h1]
    · rw [if_neg h1]
      by_cases h2 : j = i
      · subst h2
        rw [if_pos rfl, if_neg (by omega), setList_get _ _ _ _ (by simp only [List.length_singleton]; omega), if_pos (by simp), Nat.sub_self]; rfl
      · rw [if_neg h2, if_pos (by rw [List.length_drop]; omega), List.getElem?_drop]
        congr 1; omega
/-- behind slices.Insert of one element, where there was room: the slice cut back to its old length -/
theorem ins_shift {F : List Nat} {w0 wr : World} {ts : List Thing} {i k : Nat} {x : α} (hF : Flat1 E val) (h : SepF F w0 wr ts) (hi : ts[i]? = some (tsl E e xs (.slice (some ⟨g, 0, none⟩) n c) fp)) (hk : k < n) (hroom : n + 1 ≤ c) (hx : ∀ w, E.own w x [val x] []) {off1 off2 : Nat} (h1 : k + 1 = off1) (h2 : k = off2) :
    SepF F w0 ((wr.drew.setCells g off1 ((xs.map val).drop k)).setCells g off2 [val x]) (ts.set i (tsl E e (Pl.insAt xs k x) (.slice (some ⟨g, 0, none⟩) n c) fp)) := by
  subst h1; subst h2
  have hs : SlOwn E e wr xs (.slice (some ⟨g, 0, none⟩) n c) fp := h.at_ i hi
  obtain ⟨cur, hb, hcl, ht, hn, hnc, hcm, rfl⟩ := hF.blk hs
  have hxs := (hF.owns hs).2.2
  have hd : Blk wr.drew g e cur := hb
  have hb2 := setCells_blk [val x] _ k _ (setCells_blk ((xs.map val).drop k) _ (k + 1) _ hd)
  refine h.upd hi (((Chg.of_below (Below.refl wr.heap.size wr).drew).trans (setCells_chg g _ _ _)).trans (setCells_chg g _ _ _)) (t' := tsl E e (Pl.insAt xs k x) (.slice (some ⟨g, 0, none⟩) n c) [g]) ?_ (by simp [tsl]) (fun b hb => .inl hb)
  refine hF.of_blk hb2 (by rw [setList_len, setList_len, hcl]) ?_ (by rw [Pl.insAt_len _ _ _ (by omega)]; omega) hnc hcm (fun y hy => ?_)
  · rw [ins_cells ht (by rw [List.length_map]; omega) hk (by omega), Pl.insAt_map]
  · rcases Pl.insAt_mem hy with hy | rfl
    · exact hxs y hy _
    · exact hx _
/-- the same, where it has moved -/
theorem ins_grow {F : List Nat} {w0 wr : World} {ts : List Thing} {i k : Nat} {x : α} {z : Value} {ROW : Array Value} {G : Nat} (hF : Flat1 E val) (h : SepF F w0 wr ts) (hi : ts[i]? = some (tsl E e xs (.slice (some ⟨g, 0, none⟩) n c) fp)) (hk : k < n) (hx : ∀ w, E.own w x [val x] []) {off1 off2 : Nat} (h1 : k = off1) (h2 : k + 1 = off2) (hG : n + 1 ≤ G) (hGm : G ≤ maxLen)
    (hR : ROW = ((xs.map val).take k).toArray ++ Builtin.zeroCells #[z] (n + 1 - k) ++ Builtin.zeroCells #[z] (G - (n + 1))) :
    SepF F w0 ((((wr.alloc (.cells ROW e)).drew.setCells wr.heap.size off1 [val x]).drew).setCells wr.heap.size off2 ((xs.map val).drop k)) (ts.set i (tsl E e (Pl.insAt xs k x) (.slice (some ⟨wr.heap.size, 0, none⟩) n G) [wr.heap.size])) := by
  subst h1; subst h2
  have hs : SlOwn E e wr xs (.slice (some ⟨g, 0, none⟩) n c) fp := h.at_ i hi
  obtain ⟨cur, hb, hcl, ht, hn, hnc, hcm, rfl⟩ := hF.blk hs
  have hxs := (hF.owns hs).2.2
  have hz : ∀ m, (Builtin.zeroCells #[z] m).toList = List.replicate m z := fun m => by
    apply List.ext_getElem?
    intro j
    by_cases hj : j < m <;> simp [Builtin.zeroCells, hj, Nat.mod_one]
  have hRl : ROW.toList = (xs.map val).take k ++ List.replicate (n + 1 - k) z ++ List.replicate (G - (n + 1)) z := by
    rw [hR]; simp [hz]
  have hRs : ROW.toList.length = G := by
    rw [hRl]; simp; omega
  have hd : Blk (wr.alloc (.cells ROW e)).drew wr.heap.size e ROW.toList := by
    have := Blk.new wr e ROW.toList
    rw [Array.toArray_toList] at this
    exact this
  have hb1 : Blk (((wr.alloc (.cells ROW e)).drew.setCells wr.heap.size k [val x]).drew) wr.heap.size e (setList ROW.toList k [val x]) := setCells_blk [val x] _ k _ hd
  have hb2 := setCells_blk ((xs.map val).drop k) _ (k + 1) _ hb1
  have hch : Below wr.heap.size wr ((((wr.alloc (.cells ROW e)).drew.setCells wr.heap.size k [val x]).drew).setCells wr.heap.size (k + 1) ((xs.map val).drop k)) := by
    have q1 : Below wr.heap.size wr (wr.alloc (.cells ROW e)).drew := (below_new (Below.refl _ _) _).drew
    have q2 := Below.chg q1 (setCells_chg wr.heap.size [val x] _ k) q1.size (fun b hb => by rw [List.mem_singleton.1 hb]; exact Nat.le_refl _)
    have q3 := Below.chg q2.drew (setCells_chg wr.heap.size ((xs.map val).drop k) _ (k + 1)) q2.drew.size (fun b hb => by rw [List.mem_singleton.1 hb]; exact Nat.le_refl _)
    exact q3
  refine h.upd hi (Chg.of_below hch) (t' := tsl E e (Pl.insAt xs k x) (.slice (some ⟨wr.heap.size, 0, none⟩) n G) [wr.heap.size]) ?_ (by simp [tsl]) (fun b hb => .inr (by simp [tsl] at hb; omega))
  refine hF.of_blk hb2 (by rw [setList_len, setList_len, hRs]) ?_ (by rw [Pl.insAt_len _ _ _ (by omega)]; omega) (by omega) hGm (fun y hy => ?_)
  · rw [hRl, ins_cells' (by rw [List.length_map]; omega) hk rfl, Pl.insAt_map]
  · rcases Pl.insAt_mem hy with hy | rfl
    · exact hxs y hy _
    · exact hx _
end
section
variable {P : Program} (w : World)
/-- append(s, make([]T, k)...) on a slice that the call owns -/
theorem run_append_own_zeros (t tn ty e : TypeId) (i : TypeInfo) (z : Value) (bytes : Nat) (ht : P.underlying t = some (.slice e)) (htn : P.underlying tn = some (.int .i64)) (hi : P.info? e = some i) (hz : i.zero = some z) (hsize : i.size = 1) (hby : i.bytes = bytes) (hzs : z.cells = #[z]) (hz1 : z.oneCell' = true)
    (v : Value) (n : Nat) (xs : List Value) (hown : w.ownsRow 0 e 1 v n xs) (k : Nat) (hnk : n + k ≤ maxLen) (hbytes : (n + k) * bytes ≤ 140737488355328) :
    ∃ v' w', (Builtin.append_ #[t, tn] ty #[v, .int .i64 k]).run P w = .ok v' w' ∧ w'.ownsRow 0 e 1 v' (n + k) (xs ++ List.replicate k z) ∧ w.grownBy w' v.ownBlock ∧ (v'.ownBlock = v.ownBlock ∨ v'.ownBlock = some w.heap.size) := by
  subst hby
  have hzc : ∀ m, (Builtin.zeroCells z.cells m).toList = List.replicate m z := fun m => by
    rw [hzs]
    apply List.ext_getElem?
    intro j
    by_cases hj : j < m <;> simp [Builtin.zeroCells, hj, Nat.mod_one]
  have hlen : (xs ++ List.replicate k z).length = n + k := by rw [List.length_append, hown.1, List.length_replicate]; omega
  have hm63 : n + k ≤ 9223372036854775807 := by unfold maxLen at hnk; omega
  have hkb : k * i.bytes ≤ 281474976710656 := by
    have := Nat.mul_le_mul_right i.bytes (show k ≤ n + k by omega)
    omega
  have grown : ∀ (old : Nat) (row : Option Nat),
      (w.drew.alloc (.cells (xs.toArray ++ Builtin.zeroCells z.cells k ++ Builtin.zeroCells z.cells (grownCap w (n + k) old e - (n + k))) e)).ownsRow 0 e 1
        (.slice (some ⟨w.heap.size, 0, none⟩) (n + k) (grownCap w (n + k) old e)) (n + k) (xs ++ List.replicate k z) ∧
      w.grownBy (w.drew.alloc (.cells (xs.toArray ++ Builtin.zeroCells z.cells k ++ Builtin.zeroCells z.cells (grownCap w (n + k) old e - (n + k))) e)) row := by
    intro old row
    have hge := grownCap_ge w (n + k) old e
    have hcm : grownCap w (n + k) old e ≤ maxLen := grownCap_le_maxLen w (n + k) old e hnk
    refine ⟨⟨by rw [hlen]; omega, .inr ⟨w.heap.size, _, _, rfl, Nat.zero_le _, heap_alloc_new w.drew _, hge, hcm, ?_, ?_⟩⟩, ⟨rfl, rfl, rfl, by simp, fun k hk _ => heap_alloc_old w.drew _ hk⟩⟩
    · have := hown.1
      simp only [Array.size_append, List.size_toArray, size_zeroCells, hzs, Nat.mul_one, List.size_toArray]
      simp
      omega
    · simp only [Array.toList_append, hzc]
      rw [Nat.mul_one, ← hlen]
      exact List.take_left
  rcases hown.2 with ⟨rfl, rfl⟩ | ⟨g, cap, cur, rfl, hbg, hg, hnc, hcm, hcs, htake⟩
  · have hx : xs = [] := List.eq_nil_of_length_eq_zero (by simpa using hown.1)
    subst hx
    rcases Nat.eq_zero_or_pos k with rfl | hk
    · refine ⟨_, w, ?_, by simpa using World.ownsRow_nil w 0 e 1, ⟨rfl, rfl, rfl, Nat.le_refl _, fun _ _ _ => rfl⟩, .inl rfl⟩
      have hw : IntKind.i64.wrap 0 = 0 := by decide
      simp [Builtin.append_, run_underlying ht, run_underlying htn, sizeOf, typeInfo, hi, asInt, asIntOf, hw]
    · have hr := Lib.run_append_nil_zeros (P := P) w t tn ty e i z .i64 .i64 ht htn hi hz k hk (by omega) (by omega) hkb
      obtain ⟨g1, g2⟩ := grown 0 none
      simp only [Nat.zero_add] at g1 g2
      refine ⟨_, _, hr, ?_, ?_, .inr rfl⟩
      · have : (([] : List Value).toArray ++ Builtin.zeroCells z.cells k) = Builtin.zeroCells z.cells k := by simp
        rw [this] at g1
        rw [Nat.zero_add]
        exact g1
      · have : (([] : List Value).toArray ++ Builtin.zeroCells z.cells k) = Builtin.zeroCells z.cells k := by simp
        rw [this] at g2
        exact g2
  · have hw : IntKind.i64.wrap (k : Int) = k := by rw [IntKind.wrap_i64]; omega
    have hcl : cur.toList.length = cap := by rw [Array.length_toList, hcs, Nat.mul_one]
    have hxl : xs.length = n := by rw [hown.1, Nat.mul_one]
    rcases Nat.lt_or_ge cap (n + k) with hlt | hroom
    · have hold : (Builtin.firstCells i.size n (.slice (some ⟨g, 0, none⟩) n cap)).run P w.drew = .ok xs.toArray w.drew := by
        rw [hsize]
        exact run_firstCells_some w.drew 1 n ⟨g, 0, none⟩ n cap xs (by rw [hxl]; omega) (fun j v hj => by
          have := hown.cells (g := g) rfl j v hj
          exact this)
      have hr := Lib.run_append_grow_zeros (P := P) w t tn ty e i z .i64 .i64 ht htn hi hz (some ⟨g, 0, none⟩) n cap xs hold k (by omega) (by omega) hlt (by omega) hkb (growslice_fits hlt hbytes)
      obtain ⟨g1, g2⟩ := grown cap (some g)
      exact ⟨_, _, hr, g1, g2, .inr rfl⟩
    · rcases Nat.eq_zero_or_pos k with rfl | hk
      · refine ⟨.slice (some ⟨g, 0, none⟩) (n + 0) cap, w, ?_, by simpa using hown, ⟨rfl, rfl, rfl, Nat.le_refl _, fun _ _ _ => rfl⟩, .inl rfl⟩
        have hw0 : IntKind.i64.wrap 0 = 0 := by decide
        simp [Builtin.append_, run_underlying ht, run_underlying htn, sizeOf, typeInfo, hi, asInt, asIntOf, hw0, hnc, storeCells]
      · have hst := run_storeCells_at P g n e (List.replicate k z) 0 cur w hg (by rw [List.length_replicate]; have := hcs; omega) (fun v hv => by rw [(List.mem_replicate.1 hv).2]; exact hz1)
        simp only [Nat.add_zero, List.length_replicate] at hst
        have hks : ¬ (k = 0) := by omega
        have hneg : ¬ ((k : Int) < 0) := by omega
        have h48i : ¬ (281474976710656 < (k : Int) * (i.bytes : Int)) := by
          rw [← Int.natCast_mul]
          omega
        have hr : (Builtin.append_ #[t, tn] ty #[.slice (some ⟨g, 0, none⟩) n cap, .int .i64 k]).run P w = .ok (.slice (some ⟨g, 0, none⟩) (n + k) cap) (w.setRow g (cur.toList.take n ++ List.replicate k z ++ cur.toList.drop (n + k)).toArray) := by
          simp [Builtin.append_, run_underlying ht, run_underlying htn, sizeOf, typeInfo, zeroValue, hi, hz, asInt, asIntOf, hw, hneg, h48i, hsize, hks, hroom, Addr.add_lit, hzc, hst]
        refine ⟨_, _, hr, ⟨by rw [hlen]; omega, .inr ⟨g, cap, _, rfl, hbg, setRow_heap w g cur _ e _ hg, hroom, hcm, ?_, ?_⟩⟩, ⟨rfl, rfl, rfl, by simp, fun k hk hn => setRow_other w g k _ (fun e => hn (by simp [e, Value.ownBlock]))⟩, .inl rfl⟩
        · simp only [List.size_toArray, List.length_append, List.length_take, List.length_drop, List.length_replicate, hcl]
          omega
        · rw [Nat.mul_one] at htake ⊢
          show ((cur.toList.take n ++ List.replicate k z) ++ cur.toList.drop (n + k)).take (n + k) = _
          rw [htake, ← hlen]
          exact List.take_left
end
theorem SepF.perm {F : List Nat} {w0 wr : World} {ts us : List Thing} (h : SepF F w0 wr ts) (hp : us.Perm ts) : SepF F w0 wr us :=
  h.conv (List.Perm.flatMap_right _ hp) fun u hu => h.hold u (hp.mem_iff.1 hu)
/-- the third thing in front -/
theorem SepF.front3 {F : List Nat} {w0 wr : World} {ts : List Thing} {a b c : Thing} (h : SepF F w0 wr (a :: b :: c :: ts)) : SepF F w0 wr (c :: a :: b :: ts) :=
  h.perm (List.perm_middle (l₁ := [a, b])).symm
/-- append of zero values, on one of the things -/
theorem SepF.zeros {P : Program} {α : Type} {E : Rep α} {val : α → Value} {F : List Nat} {w0 w : World} {ts : List Thing} {i : Nat} {xs : List α} {v : Value} {fp : List Nat} {z0 : α} (hF : Flat1 E val) (h : SepF F w0 w ts) (t tn ty e : TypeId) (ii : TypeInfo) (z : Value) (bytes : Nat) (hi : ts[i]? = some (tsl E e xs v fp)) (ht : P.underlying t = some (.slice e)) (htn : P.underlying tn = some (.int .i64)) (hin : P.info? e = some ii) (hz : ii.zero = some z) (hsize : ii.size = 1) (hby : ii.bytes = bytes) (hzs : z.cells = #[z]) (hz1 : z.oneCell' = true)
    (hv : val z0 = z) (hz0 : ∀ w, E.own w z0 [z] []) (k : Nat) (hnk : xs.length + k ≤ maxLen) (hbytes : (xs.length + k) * bytes ≤ 140737488355328) :
    ∃ v' w' fp', (Builtin.append_ #[t, tn] ty #[v, .int .i64 k]).run P w = .ok v' w' ∧ SepF F w0 w' (ts.set i (tsl E e (xs ++ List.replicate k z0) v' fp')) := by
  have hs : SlOwn E e w xs v fp := h.at_ i hi
  obtain ⟨ho, hfp, hx⟩ := hF.owns hs
  obtain ⟨v', w', h1, h2, h3, h4⟩ := run_append_own_zeros (P := P) w (ty := ty) t tn e ii z bytes ht htn hin hz hsize hby hzs hz1 v _ _ ho k hnk hbytes
  refine ⟨v', w', v'.ownBlock.toList, h1, h.upd hi ⟨h3.os, h3.tape, h3.output, h3.size, fun b hb hn => h3.block b hb (fun e => hn (by rw [hfp]; show b ∈ v.ownBlock.toList; rw [← e]; simp))⟩ (t' := tsl E e (xs ++ List.replicate k z0) v' v'.ownBlock.toList) ?_ (by simp only [tsl]; cases v'.ownBlock <;> simp) (fun b hb => ?_)⟩
  · refine hF.row ?_ (fun x hm => ?_)
    · rw [List.length_append, List.length_replicate, List.map_append, List.map_replicate, hv]
      exact h2
    · rcases List.mem_append.1 hm with hm | hm
      · exact hx x hm _
      · rw [(List.mem_replicate.1 hm).2, hv]; exact hz0 _
  · simp only [tsl] at hb ⊢
    rw [hfp]
    rcases h4 with h4 | h4
    · rw [h4] at hb; exact .inl hb
    · rw [h4] at hb; simp at hb; exact .inr (by omega)
end Mm
end Go.Proofs.Ytnppcdiicnofpaa

/-
  slices.Delete of one element, on slices whose elements lead nowhere. No program in sight. No conditions.
-/
namespace Go.Proofs.Ytnppcdiicnofpaa
open Go.RowKit
namespace Mm
/-- elements of several cells that lead nowhere -/
structure FlatN {α : Type} (E : Rep α) (enc : α → List Value) : Prop where
  pos : 0 < E.size
  inv : ∀ {w x cs fx}, E.own w x cs fx → cs = enc x ∧ fx = [] ∧ ∀ w', E.own w' x (enc x) []
theorem flatMap_len {α : Type} {s : Nat} {enc : α → List Value} : ∀ {xs : List α}, (∀ x, x ∈ xs → (enc x).length = s) → (xs.flatMap enc).length = xs.length * s
  | [], _ => by simp
  | a :: t, h => by
    rw [List.flatMap_cons, List.length_append, h a (by simp), flatMap_len (fun x hx => h x (List.mem_cons_of_mem _ hx)), List.length_cons, Nat.succ_mul]; omega
theorem flatMap_drop {α : Type} {s : Nat} {enc : α → List Value} : ∀ {xs : List α} (k : Nat), (∀ x, x ∈ xs → (enc x).length = s) → (xs.drop k).flatMap enc = (xs.flatMap enc).drop (k * s)
  | xs, 0, _ => by simp
  | [], k + 1, _ => by simp
  | a :: t, k + 1, h => by
    rw [List.drop_succ_cons, List.flatMap_cons, flatMap_drop k (fun x hx => h x (List.mem_cons_of_mem _ hx)), List.drop_append, h a (by simp), List.drop_eq_nil_of_le (show (enc a).length ≤ (k + 1) * s by rw [h a (by simp), Nat.succ_mul]; omega), List.nil_append]
    congr 1
    rw [Nat.succ_mul]; omega
theorem flatMap_take {α : Type} {s : Nat} {enc : α → List Value} : ∀ {xs : List α} (k : Nat), (∀ x, x ∈ xs → (enc x).length = s) → (xs.take k).flatMap enc = (xs.flatMap enc).take (k * s)
  | xs, 0, _ => by simp
  | [], k + 1, _ => by simp
  | a :: t, k + 1, h => by
    rw [List.take_succ_cons, List.flatMap_cons, List.flatMap_cons, flatMap_take k (fun x hx => h x (List.mem_cons_of_mem _ hx)), List.take_append, h a (by simp), List.take_of_length_le (show (enc a).length ≤ (k + 1) * s by rw [h a (by simp), Nat.succ_mul]; omega)]
    congr 2
    rw [Nat.succ_mul]; omega
section
variable {α : Type} {E : Rep α} {enc : α → List Value} {e : TypeId} {w w' : World} {xs : List α} {v : Value} {fp : List Nat} {g n c : Nat}
theorem FlatN.owns (hF : FlatN E enc) (h : SlOwn E e w xs v fp) : w.ownsRow 0 e E.size v xs.length (xs.flatMap enc) ∧ fp = v.ownBlock.toList ∧ (∀ x, x ∈ xs → ∀ w', E.own w' x (enc x) []) ∧ ∀ x, x ∈ xs → (enc x).length = E.size := by
  obtain ⟨es, he, ho, rfl⟩ := h
  have h1 : es = xs.map fun x => (enc x, ([] : List Nat)) := by
    apply List.ext_getElem?
    intro i
    rw [List.getElem?_map]
    rcases Nat.lt_or_ge i xs.length with hi | hi
    · have hx := List.getElem?_eq_getElem hi
      have hy := List.getElem?_eq_getElem (show i < es.length by rw [he.1]; exact hi)
      have h2 := hF.inv (he.2 i _ _ hx hy)
      rw [hx, hy]
      exact congrArg some (Prod.ext h2.1 h2.2.1)
    · rw [List.getElem?_eq_none hi, List.getElem?_eq_none (by rw [he.1]; exact hi)]
      rfl
  have h3 : (xs.map fun x => (enc x, ([] : List Nat))).flatMap (·.1) = xs.flatMap enc := by rw [List.flatMap_map]
  have h4 : (xs.map fun x => (enc x, ([] : List Nat))).flatMap (·.2) = [] := by simp [List.flatMap_map]
  have h5 : ∀ x, x ∈ xs → ∀ w', E.own w' x (enc x) [] := fun x hx w' => by
    obtain ⟨i, hi, rfl⟩ := List.mem_iff_getElem.1 hx
    exact (hF.inv (he.2 i _ _ (List.getElem?_eq_getElem hi) (List.getElem?_eq_getElem (show i < es.length by rw [he.1]; exact hi)))).2.2 w'
  refine ⟨?_, by rw [h1, h4]; simp, h5, fun x hx => E.olen (h5 x hx w)⟩
  rw [h1, h3] at ho
  exact ho
theorem FlatN.blk (hF : FlatN E enc) (h : SlOwn E e w xs (.slice (some ⟨g, 0, none⟩) n c) fp) : ∃ cur, Blk w g e cur ∧ cur.length = c * E.size ∧ cur.take (n * E.size) = xs.flatMap enc ∧ n = xs.length ∧ n ≤ c ∧ c ≤ maxLen ∧ fp = [g] := by
  obtain ⟨h1, h2, _⟩ := hF.owns h
  rcases h1.2 with ⟨h3, _⟩ | ⟨g', cap, cur, h3, _, hg, hnc, hcm, hcs, htake⟩
  · simp at h3
  · simp only [Value.slice.injEq, Option.some.injEq, Addr.mk.injEq, and_true] at h3
    obtain ⟨rfl, rfl, rfl⟩ := h3
    refine ⟨cur.toList, by unfold Blk; rw [Array.toArray_toList]; exact hg, by simpa using hcs, by simpa using htake, rfl, hnc, hcm, by rw [h2]; simp [Value.ownBlock]⟩
theorem FlatN.of_blk (_hF : FlatN E enc) {cur : List Value} (h : Blk w g e cur) (hl : cur.length = c * E.size) (ht : cur.take (n * E.size) = xs.flatMap enc) (hn : xs.length = n) (hnc : n ≤ c) (hc : c ≤ maxLen) (hE : ∀ x, x ∈ xs → E.own w x (enc x) []) : SlOwn E e w xs (.slice (some ⟨g, 0, none⟩) n c) [g] := by
  subst hn
  refine SlOwn.of_row (enc := enc) ⟨by simp [flatMap_len fun x hx => E.olen (hE x hx)], .inr ⟨g, c, cur.toArray, rfl, Nat.zero_le _, h, hnc, hc, by simpa using hl, by simpa using ht⟩⟩ hE ?_
  simp
/-- behind slices.Delete of element k: what follows has moved up, the last place is cleared -/
theorem FlatN.erase (hF : FlatN E enc) (h : SlOwn E e w xs (.slice (some ⟨g, 0, none⟩) n c) fp) {k : Nat} (hk : k < n) {z : List Value} (hz : z.length = E.size) {o1 o2 : Nat} (h1 : k * E.size = o1) (h2 : (n - 1) * E.size = o2) :
    Chg fp w ((w.drew.setCells g o1 ((xs.drop (k + 1)).flatMap enc)).setCells g o2 z) ∧ SlOwn E e ((w.drew.setCells g o1 ((xs.drop (k + 1)).flatMap enc)).setCells g o2 z) (xs.eraseIdx k) (.slice (some ⟨g, 0, none⟩) (n - 1) c) fp := by
  subst h1; subst h2
  obtain ⟨_, _, hown, hlen⟩ := hF.owns h
  obtain ⟨cur, hb, hcl, ht, rfl, hnc, hcm, rfl⟩ := hF.blk h
  have hb0 : Blk w.drew g e cur := hb
  have hb2 := setCells_blk z _ ((xs.length - 1) * E.size) _ (setCells_blk ((xs.drop (k + 1)).flatMap enc) _ (k * E.size) _ hb0)
  refine ⟨((Chg.of_below (Below.refl w.heap.size w).drew).trans (setCells_chg g _ _ _)).trans (setCells_chg g _ _ _), ?_⟩
  have hsub : ∀ x, x ∈ xs.eraseIdx k → x ∈ xs := fun x hx => List.mem_of_mem_eraseIdx hx
  have hdl : ((xs.drop (k + 1)).flatMap enc).length = (xs.length - 1 - k) * E.size := by
    rw [flatMap_len (s := E.size) (fun x hx => hlen x (List.mem_of_mem_drop hx)), List.length_drop]; congr 1; omega
  have e1 : k * E.size + (xs.length - 1 - k) * E.size = (xs.length - 1) * E.size := by rw [← Nat.add_mul]; congr 1; omega
  have e2 : (xs.length - 1) * E.size + E.size = xs.length * E.size := by rw [← Nat.succ_mul]; congr 1; omega
  have e3 : xs.length * E.size ≤ cur.length := by rw [hcl]; exact Nat.mul_le_mul_right _ hnc
  have e4 : k * E.size + E.size = (k + 1) * E.size := (Nat.succ_mul _ _).symm
  refine hF.of_blk hb2 (by rw [setList_len, setList_len, hcl]) ?_ (List.length_eraseIdx_of_lt hk) (by omega) hcm (fun x hx => hown x (hsub x hx) _)
  have hE : (xs.eraseIdx k).flatMap enc = (xs.flatMap enc).take (k * E.size) ++ (xs.flatMap enc).drop ((k + 1) * E.size) := by
    rw [List.eraseIdx_eq_take_drop_succ, List.flatMap_append, flatMap_take k hlen, flatMap_drop (k + 1) hlen]
  have hfl : (xs.flatMap enc).length = xs.length * E.size := flatMap_len hlen
  apply List.ext_getElem?
  intro j
  rw [hE, List.getElem?_take]
  by_cases hj : j < (xs.length - 1) * E.size
  · rw [if_pos hj, setList_get _ _ _ _ (by rw [setList_len]; omega), if_neg (by omega), setList_get _ _ _ _ (by rw [hdl]; omega), hdl]
    by_cases hjk : j < k * E.size
    · rw [if_neg (by omega), List.getElem?_append_left (by rw [List.length_take, hfl]; omega), List.getElem?_take, if_pos hjk, ← ht, List.getElem?_take, if_pos (by omega)]
    · rw [if_pos (by omega), List.getElem?_append_right (by rw [List.length_take]; omega), flatMap_drop (k + 1) hlen, List.length_take, hfl, Nat.min_eq_left (by omega)]
  · rw [if_neg hj, List.getElem?_append_right (by rw [List.length_take]; omega), List.getElem?_drop, List.length_take, hfl, Nat.min_eq_left (by omega), List.getElem?_eq_none (by rw [hfl]; omega)]
/-- the cells behind element k -/
theorem FlatN.cells (hF : FlatN E enc) (h : SlOwn E e w xs (.slice (some ⟨g, 0, none⟩) n c) fp) {j : Nat} {u : Value} (hj : (xs.flatMap enc)[j]? = some u) : w.cell? ⟨g, j, none⟩ = some u := by
  obtain ⟨cur, hb, hcl, ht, rfl, hnc, hcm, rfl⟩ := hF.blk h
  refine hb.cell ?_
  rw [← ht, List.getElem?_take] at hj
  split at hj
  · exact hj
  · cases hj
end
theorem run_clear_one {P : Program} (w : World) (t e ty : TypeId) (z : Value) (ht : P.underlying t = some (.slice e)) (hv : ∀ w, (zeroValue e).run P w = .ok z w) (h1 : ∀ u ∈ z.cells, u.oneCell' = true) (b o c : Nat)
    (hc : ∀ j, j < z.cells.size → (w.cell? ⟨b, o + j, none⟩).isSome = true) (hf : ∀ j, j < z.cells.size → w.frozen? ⟨b, o + j, none⟩ = false) :
    (Builtin.clear_ #[t] ty #[.slice (some ⟨b, o, none⟩) 1 c]).run P w = .ok (.tuple #[]) (w.setCells b o z.cells.toList) := by
  have hzc : (Builtin.zeroCells z.cells 1).toList = z.cells.toList := by
    apply List.ext_getElem?
    intro j
    by_cases hj : j < z.cells.size
    · simp [Builtin.zeroCells, hj, Nat.mod_eq_of_lt hj]
    · simp [Builtin.zeroCells, hj]
  have hst := run_storeCells_cells (P := P) b o z.cells.toList 0 w (by simpa using hc) (by simpa using hf) (by intro u hu; exact h1 u (by simpa using hu))
  simp only [Nat.add_zero] at hst
  simp [Builtin.clear_, run_underlying ht, hv, hzc, hst]
end Mm
end Go.Proofs.Ytnppcdiicnofpaa

/-
  'append([]T{}, l...)' inside a larger statement: the copy becomes one of the things that the call owns. No program in sight. No conditions.
-/
namespace Go.Proofs.Ytnppcdiicnofpaa
open Go.RowKit
namespace Mm
/-- elements that lead nowhere: what they are written as -/
structure Flat {α : Type} (E : Rep α) (enc : α → List Value) : Prop where
  at_ : ∀ {w B x cs}, E.at_ w B x cs → cs = enc x
  own : ∀ {w B x cs}, E.at_ w B x cs → ∀ w', E.own w' x (enc x) []
theorem flat_int : Flat int (fun x => [.int .i64 x]) := ⟨fun h => h.1, fun h _ => ⟨rfl, h.2, rfl⟩⟩
theorem flat_str : Flat str (fun x => [.string x]) := ⟨fun h => h.1, fun h _ => ⟨rfl, h.2, rfl⟩⟩
theorem flat_bool : Flat bool (fun x => [.bool x]) := ⟨fun h => h.1, fun h _ => ⟨rfl, h.2, rfl⟩⟩
section
variable {P : Program} {α : Type} {E : Rep α} {enc : α → List Value} {w0 wr W : World} {ts : List Thing} {xs : List α} {A : Option Addr} {n c g B : Nat} {e : TypeId}
theorem run_clone (hF : Flat E enc) (t ty : TypeId) (i : TypeInfo) (z : Value) (bytes : Nat) (ht : P.underlying t = some (.slice e)) (hi : P.info? e = some i) (hz : i.zero = some z) (hsize : i.size = E.size) (hby : i.bytes = bytes) (hzs : z.cells.size = E.size) (hsz : 0 < E.size)
    (h : Sep w0 wr ts) (hb : Below wr.heap.size wr W) (hg : W.heap[g]? = some (.cells #[] e (0, 0))) (hgn : wr.heap.size ≤ g) (hl : SlAt E W B xs A n c) (hn : n ≤ maxLen) (hbytes : n * bytes ≤ 140737488355328) :
    ∃ A2 c2 fp w1, (Builtin.append_ #[t, t] ty #[.slice (some ⟨g, 0, none⟩) 0 0, .slice A n c]).run P W = .ok (.slice A2 n c2) w1 ∧ Sep w0 w1 (tsl E e xs (.slice A2 n c2) fp :: ts) ∧ Below wr.heap.size wr w1 := by
  have hown : W.ownsRow g e E.size (.slice (some ⟨g, 0, none⟩) 0 0) 0 [] := ⟨by simp, .inr ⟨g, 0, #[], rfl, Nat.le_refl _, hg, Nat.le_refl _, Nat.zero_le _, by simp, by simp⟩⟩
  have hlt : g < W.heap.size := by
    rcases Nat.lt_or_ge g W.heap.size with h1 | h1
    · exact h1
    · rw [Array.getElem?_eq_none h1] at hg; cases hg
  have hE : ∀ w1 x, x ∈ xs → E.own w1 x (enc x) [] := fun w1 x hx => by
    obtain ⟨k, hk, rfl⟩ := List.mem_iff_getElem.1 hx
    obtain ⟨y, b, off, cs, hy, _, _, ha, _⟩ := hl.get (k := k) (by rw [← hl.1]; exact hk)
    rw [List.getElem?_eq_getElem hk] at hy
    injection hy with hy
    subst hy
    exact hF.own ha w1
  have main : ∀ v w1, w1.ownsRow g e E.size v n (xs.flatMap enc) → W.grownBy w1 (some g) → ∃ A2 c2 fp, v = .slice A2 n c2 ∧ Sep w0 w1 (tsl E e xs (.slice A2 n c2) fp :: ts) ∧ Below wr.heap.size wr w1 := fun v w1 k1 k2 => by
    have h0 : w1.ownsRow 0 e E.size v n (xs.flatMap enc) := ⟨k1.1, k1.2.imp id fun ⟨g', cap, cur, h1, _, h3⟩ => ⟨g', cap, cur, h1, Nat.zero_le _, h3⟩⟩
    have hs := SlOwn.of_row h0 (fun x hx => hE w1 x hx) hl.1
    obtain ⟨A2, n2, c2, hv, hn2, _⟩ := hs.form
    have hbl : Below wr.heap.size wr w1 := hb.grown k2 (by have := hb.size; omega) (fun k hk => by injection hk with hk; omega)
    subst hv
    have hn3 : n2 = n := hn2.trans hl.1
    subst hn3
    exact ⟨A2, c2, _, rfl, h.add hbl (t := tsl E e xs (.slice A2 n2 c2) _) hs (by simp only [tsl]; cases (Value.slice A2 n2 c2).ownBlock <;> simp) (fun b hb => by
      simp only [tsl, Option.mem_toList] at hb
      have := (k1.lt b hb).1; omega), hbl⟩
  cases A with
  | none =>
    have hc0 : c = 0 := hl.2.2.2.1 rfl
    have hn0 : n = 0 := by have := hl.2.1; omega
    subst hc0; subst hn0
    have hx0 : xs = [] := List.length_eq_zero_iff.1 hl.1
    have hr := run_append_owned_none (P := P) W g t ty e i E.size ht hi _ _ _ hown
    obtain ⟨A2, c2, fp, hv, hS, hB⟩ := main _ W (by rw [hx0]; exact hown) ⟨rfl, rfl, rfl, Nat.le_refl _, fun _ _ _ => rfl⟩
    exact ⟨A2, c2, fp, W, by rw [hr, hv], hS, hB⟩
  | some a =>
    obtain ⟨v', w1, hr, h2, h3, _, h5⟩ := run_append_own_at (P := P) W g t ty e i z E.size bytes ht hi hz hsize hby hzs hsz _ 0 [] hown a n c (xs.flatMap enc) (flat_len (fun x cs h => hF.at_ h) hl) (flat_cells' (fun x cs h => hF.at_ h) hl) (fun u hu => by
      obtain ⟨x, hx, hu⟩ := List.mem_flatMap.1 hu
      exact E.one (hE W x hx) u hu) (by omega) (by rw [Nat.zero_add]; exact hbytes) (by omega)
    rw [Nat.zero_add, List.nil_append] at h2
    obtain ⟨A2, c2, fp, hv, hS, hB⟩ := main v' w1 h2 h3
    exact ⟨A2, c2, fp, w1, by rw [hr, hv], hS, hB⟩

theorem wp_clone {o : Oper} {a : Act} {K : Act → World → Prop} {Q : Exit → Act → World → Prop} (s x : Operand) (t : TypeId)
    (ho : o.op = .call { callee := .builtin .append, args := #[s, x], argTypes := #[t, t] })
    (hF : Flat E enc) (i : TypeInfo) (z : Value) (bytes : Nat) (ht : P.underlying t = some (.slice e)) (hi : P.info? e = some i) (hz : i.zero = some z) (hsize : i.size = E.size) (hby : i.bytes = bytes) (hzs : z.cells.size = E.size) (hsz : 0 < E.size)
    (h : Sep w0 wr ts) (hb : Below wr.heap.size wr W) (hg : W.heap[g]? = some (.cells #[] e (0, 0))) (hgn : wr.heap.size ≤ g) (hl : SlAt E W B xs A n c) (hn : n ≤ maxLen) (hbytes : n * bytes ≤ 140737488355328)
    (hs : a.eval s = .slice (some ⟨g, 0, none⟩) 0 0) (hx : a.eval x = .slice A n c)
    (hk : ∀ A2 c2 fp w1, Sep w0 w1 (tsl E e xs (.slice A2 n c2) fp :: ts) → Below wr.heap.size wr w1 → K (a.put o.dst (.slice A2 n c2)) w1) : o.wp P a W K Q := by
  obtain ⟨A2, c2, fp, w1, hr, h2, h3⟩ := run_clone (P := P) hF t o.type i z bytes ht hi hz hsize hby hzs hsz h hb hg hgn hl hn hbytes
  unfold Oper.wp execOp
  simp only [ho, resolve, invoke, builtin, Sem.run_bind, Sem.run_pure, Result.andThen_ok, List.map_toArray, List.map_cons, List.map_nil, hs, hx, hr]
  exact hk A2 c2 fp w1 h2 h3
theorem step_clone {ops : Array Oper} {o : Oper} {a : Act} {K : Act → World → Prop} {Q : Exit → Act → World → Prop} {X : Prop} (hgd : o.guard = none) (s x : Operand) (t : TypeId)
    (ho : o.op = .call { callee := .builtin .append, args := #[s, x], argTypes := #[t, t] })
    (hF : Flat E enc) (i : TypeInfo) (z : Value) (bytes : Nat) (ht : P.underlying t = some (.slice e)) (hi : P.info? e = some i) (hz : i.zero = some z) (hsize : i.size = E.size) (hby : i.bytes = bytes) (hzs : z.cells.size = E.size) (hsz : 0 < E.size)
    (h : Sep w0 wr ts) (hb : Below wr.heap.size wr W) (hg : W.heap[g]? = some (.cells #[] e (0, 0))) (hgn : wr.heap.size ≤ g) (hl : SlAt E W B xs A n c) (hn : n ≤ maxLen) (hbytes : n * bytes ≤ 140737488355328)
    (hs : a.eval s = .slice (some ⟨g, 0, none⟩) 0 0) (hx : a.eval x = .slice A n c)
    (hk : ∀ A2 c2 fp w1, Sep w0 w1 (tsl E e xs (.slice A2 n c2) fp :: ts) → Below wr.heap.size wr w1 → K (a.put o.dst (.slice A2 n c2)) w1) :
    if Region.wanted o (yielded ops a.tmps) = true then Oper.wp P o a W K Q else X := by
  have hw : Region.wanted o (yielded ops a.tmps) = true := by simp [Region.wanted, hgd]
  rw [if_pos hw]
  exact wp_clone s x t ho hF i z bytes ht hi hz hsize hby hzs hsz h hb hg hgn hl hn hbytes hs hx hk
theorem wpList_clone {ops : Array Oper} {rest : List Oper} {o : Oper} {a : Act} {Q : Exit → Act → World → Prop} (hgd : o.guard = none) (s x : Operand) (t : TypeId)
    (ho : o.op = .call { callee := .builtin .append, args := #[s, x], argTypes := #[t, t] })
    (hF : Flat E enc) (i : TypeInfo) (z : Value) (bytes : Nat) (ht : P.underlying t = some (.slice e)) (hi : P.info? e = some i) (hz : i.zero = some z) (hsize : i.size = E.size) (hby : i.bytes = bytes) (hzs : z.cells.size = E.size) (hsz : 0 < E.size)
    (h : Sep w0 wr ts) (hb : Below wr.heap.size wr W) (hg : W.heap[g]? = some (.cells #[] e (0, 0))) (hgn : wr.heap.size ≤ g) (hl : SlAt E W B xs A n c) (hn : n ≤ maxLen) (hbytes : n * bytes ≤ 140737488355328)
    (hs : a.eval s = .slice (some ⟨g, 0, none⟩) 0 0) (hx : a.eval x = .slice A n c)
    (hk : ∀ A2 c2 fp w1, Sep w0 w1 (tsl E e xs (.slice A2 n c2) fp :: ts) → Below wr.heap.size wr w1 → wpList P ops Q rest (a.put o.dst (.slice A2 n c2)) w1) : wpList P ops Q (o :: rest) a W :=
  wpList_plain hgd fun _ hK => wp_clone s x t ho hF i z bytes ht hi hz hsize hby hzs hsz h hb hg hgn hl hn hbytes hs hx (fun A2 c2 fp w1 h1 h2 => hK _ _ (hk A2 c2 fp w1 h1 h2))
end
end Mm
end Go.Proofs.Ytnppcdiicnofpaa

/-
  append of a whole slice of flat elements to a slice that the call owns; slices cut from the right and from the left. No program in sight. No conditions.
-/
namespace Go.Proofs.Ytnppcdiicnofpaa
open Go.RowKit
namespace Mm
section
variable {P : Program} {α : Type} {E : Rep α} {enc : α → List Value} {F : List Nat} {w0 wr : World} {ts : List Thing} {xs ys : List α} {A : Option Addr} {n c B : Nat} {e : TypeId} {v : Value} {fp : List Nat}
theorem SepF.appMany (hF : Flat E enc) (hN : FlatN E enc) (t ty : TypeId) (i : TypeInfo) (z : Value) (bytes : Nat) (ht : P.underlying t = some (.slice e)) (hi : P.info? e = some i) (hz : i.zero = some z) (hsize : i.size = E.size) (hby : i.bytes = bytes) (hzs : z.cells.size = E.size)
    (h : SepF F w0 wr ts) (k : Nat) (hk : ts[k]? = some (tsl E e ys v fp)) (hl : SlAt E wr B xs A n c) (hn : ys.length + n ≤ maxLen) (hbytes : (ys.length + n) * bytes ≤ 140737488355328) :
    ∃ A2 c2 fp' w1, (Builtin.append_ #[t, t] ty #[v, .slice A n c]).run P wr = .ok (.slice A2 (ys.length + n) c2) w1 ∧ SepF F w0 w1 (ts.set k (tsl E e (ys ++ xs) (.slice A2 (ys.length + n) c2) fp')) := by
  have hs : SlOwn E e wr ys v fp := h.at_ k hk
  obtain ⟨hown, hfp, hys, hlen⟩ := hN.owns hs
  have hE : ∀ w1 x, x ∈ xs → E.own w1 x (enc x) [] := fun w1 x hx => by
    obtain ⟨k, hk, rfl⟩ := List.mem_iff_getElem.1 hx
    obtain ⟨y, b, off, cs, hy, _, _, ha, _⟩ := hl.get (k := k) (by rw [← hl.1]; exact hk)
    rw [List.getElem?_eq_getElem hk] at hy
    injection hy with hy
    subst hy
    exact hF.own ha w1
  have main : ∀ v' w1, w1.ownsRow 0 e E.size v' (ys.length + n) (ys.flatMap enc ++ xs.flatMap enc) → wr.grownBy w1 v.ownBlock → (v'.ownBlock = v.ownBlock ∨ v'.ownBlock = some wr.heap.size) → ∃ A2 c2 fp', v' = .slice A2 (ys.length + n) c2 ∧ SepF F w0 w1 (ts.set k (tsl E e (ys ++ xs) (.slice A2 (ys.length + n) c2) fp')) := fun v' w1 k1 k2 k3 => by
    rw [← List.flatMap_append] at k1
    have hs1 : SlOwn E e w1 (ys ++ xs) v' v'.ownBlock.toList := SlOwn.of_row (enc := enc) (by rw [List.length_append, hl.1]; exact k1) (fun x hx => by
      rcases List.mem_append.1 hx with hx | hx
      · exact hys x hx w1
      · exact hE w1 x hx) rfl
    obtain ⟨A2, n2, c2, hv, hn2, _⟩ := hs1.form
    subst hv
    rw [List.length_append, hl.1] at hn2
    subst hn2
    refine ⟨A2, c2, _, rfl, h.upd hk (Chg.mk k2.os k2.tape k2.output k2.size fun b hb hn => k2.block b hb (fun hh => hn (row_in hs hh.symm))) (t' := tsl E e (ys ++ xs) (.slice A2 (ys.length + n) c2) _) hs1 (by simp only [tsl]; cases (Value.slice A2 (ys.length + n) c2).ownBlock <;> simp) (fun b hb => ?_)⟩
    simp only [tsl, Option.mem_toList] at hb
    rcases k3 with h3 | h3
    · rw [h3] at hb; exact .inl (row_in hs (by rw [Option.mem_def.1 hb]))
    · rw [h3] at hb; injection hb with hb; exact .inr (by omega)
  cases A with
  | none =>
    have hc0 : c = 0 := hl.2.2.2.1 rfl
    have hn0 : n = 0 := by have := hl.2.1; omega
    subst hc0; subst hn0
    have hx0 : xs = [] := List.length_eq_zero_iff.1 hl.1
    have hr := run_append_owned_none (P := P) wr 0 t ty e i E.size ht hi _ _ _ hown
    obtain ⟨A2, c2, fp', hv, hS⟩ := main _ wr (by rw [hx0]; simpa using hown) ⟨rfl, rfl, rfl, Nat.le_refl _, fun _ _ _ => rfl⟩ (.inl rfl)
    exact ⟨A2, c2, fp', wr, by rw [hr, hv], hS⟩
  | some a =>
    obtain ⟨v', w1, hr, h2, h3, _, h5⟩ := run_append_own_at (P := P) wr 0 t ty e i z E.size bytes ht hi hz hsize hby hzs hN.pos _ _ _ hown a n c (xs.flatMap enc) (flat_len (fun x cs h => hF.at_ h) hl) (flat_cells' (fun x cs h => hF.at_ h) hl) (fun u hu => by
      obtain ⟨x, hx, hu⟩ := List.mem_flatMap.1 hu
      exact E.one (hE wr x hx) u hu) hn hbytes (Nat.zero_le _)
    obtain ⟨A2, c2, fp', hv, hS⟩ := main v' w1 h2 h3 h5
    exact ⟨A2, c2, fp', w1, by rw [hr, hv], hS⟩
theorem wpList_appMany {ops : Array Oper} {rest : List Oper} {o : Oper} {a : Act} {Q : Exit → Act → World → Prop} {m : Nat} (hgd : o.guard = none) (s x : Operand) (t : TypeId)
    (ho : o.op = .call { callee := .builtin .append, args := #[s, x], argTypes := #[t, t] })
    (hF : Flat E enc) (hN : FlatN E enc) (i : TypeInfo) (z : Value) (bytes : Nat) (ht : P.underlying t = some (.slice e)) (hi : P.info? e = some i) (hz : i.zero = some z) (hsize : i.size = E.size) (hby : i.bytes = bytes) (hzs : z.cells.size = E.size)
    (h : SepF F w0 wr ts) (k : Nat) (hk : ts[k]? = some (tsl E e ys v fp)) (hl : SlAt E wr B xs A n c) (hm : ys.length + n = m) (hn : m ≤ maxLen) (hbytes : m * bytes ≤ 140737488355328) (hs : a.eval s = v) (hx : a.eval x = .slice A n c)
    (hnext : ∀ A2 c2 fp' w1, SepF F w0 w1 (ts.set k (tsl E e (ys ++ xs) (.slice A2 m c2) fp')) → wpList P ops Q rest (a.put o.dst (.slice A2 m c2)) w1) : wpList P ops Q (o :: rest) a wr := by
  subst hm
  refine wpList_plain hgd fun K hK => ?_
  obtain ⟨A2, c2, fp', w1, hr, h2⟩ := h.appMany (P := P) hF hN t o.type i z bytes ht hi hz hsize hby hzs k hk hl hn hbytes
  unfold Oper.wp execOp
  simp only [ho, resolve, invoke, builtin, Sem.run_bind, Sem.run_pure, Result.andThen_ok, List.map_toArray, List.map_cons, List.map_nil, hs, hx, hr]
  exact hK _ _ (hnext A2 c2 fp' w1 h2)
/-- a slice that is owned, read -/
theorem SepF.rdSl (h : SepF F w0 wr ts) (k : Nat) (hk : ts[k]? = some (tsl E e ys (.slice A n c) fp)) : SlAt E wr wr.heap.size ys A n c := (h.sl k hk).weak fun b hb => (h.sl k hk).olt b hb
/-- cut from the left, as Go lays it -/
theorem SlAt.cut {w : World} {g j : Nat} (h : SlAt E w B xs (some ⟨g, 0, none⟩) n c) (hj : j ≤ n) {s : Nat} (hs : E.size = s) : ∃ A', (if c = j then (some ⟨g, 0, none⟩ : Option Addr) else some ⟨g, j * s, none⟩) = A' ∧ SlAt E w B (xs.drop j) A' (n - j) (c - j) := by
  subst hs
  by_cases hc : c = j
  · rw [if_pos hc]
    have hn : n = j := by have := h.2.1; omega
    subst hn
    have hx : xs.drop n = [] := List.drop_eq_nil_of_le (by rw [h.1]; exact Nat.le_refl _)
    rw [hx, Nat.sub_self]
    exact ⟨_, rfl, SlAt.nil (by have := h.2.2.1; omega) (fun hh => by cases hh)⟩
  · rw [if_neg hc]
    have := h.drop hj
    rw [Nat.zero_add] at this
    exact ⟨_, rfl, this⟩
/-- 's[j:]', the bound an int, as one equation -/
theorem run_cut {P : Program} {t : TypeId} {s : Nat} (ht : P.underlying t = some (.slice (P.elem t))) (hs : ∀ W, (sizeOf (P.elem t)).run P W = .ok s W) {g n c : Nat} {j : Nat} {i : Int} (hi : i = j) (hj : j ≤ n) (W : World) :
    (Instr.slice t (.slice (some ⟨g, 0, none⟩) n c) (some (.int .i64 i)) none none).run P W = .ok (.slice (if c = j then (some ⟨g, 0, none⟩ : Option Addr) else some ⟨g, j * s, none⟩) (n - j) (c - j)) W := by
  subst hi
  rw [run_slice_l W t _ n c ht .i64 (j : Int) (by omega) (by omega), hs]
  simp only [Result.andThen_ok, sliced, Int.toNat_natCast]
  congr 1
  by_cases h : c = j
  · simp [h]
  · simp only [h, if_false, Option.map_some, Addr.add]
    by_cases h0 : j * s = 0
    · simp [h0]
    · simp [h0]
/-- an empty slice, just laid -/
theorem SepF.fresh {g : Nat} (h : SepF F w0 wr ts) (hg : wr.heap.size = g) (E : Rep α) (e : TypeId) : SepF F w0 (wr.alloc (.cells #[] e)) (tsl E e [] (.slice (some ⟨g, 0, none⟩) 0 0) [g] :: ts) := by
  have h1 := h.alloc' hg e []
  refine h1.conv (by simp [tblk, tsl]) (List.forall_mem_cons.2 ⟨?_, fun u hu => h1.hold u (List.mem_cons_of_mem _ hu)⟩)
  have hb : Blk (wr.alloc (.cells #[] e)) g e [] := h1.at_ 0 rfl
  exact ⟨[], ⟨rfl, fun i x y h => by simp at h⟩, ⟨by simp, .inr ⟨g, 0, #[], rfl, Nat.zero_le _, hb, Nat.le_refl _, Nat.zero_le _, by simp, by simp⟩⟩, by simp [Value.ownBlock]⟩
end
end Mm
end Go.Proofs.Ytnppcdiicnofpaa

/-
  Contracts: TopOf of the program; the plain order by value. No conditions beyond those named.
-/
namespace Go.Proofs.Ytnppcdiicnofpaa
open Go.RowKit
attribute [local go_sem] und_cell World.cell?_alloc_some
namespace Pl
/-- put among those of greater or equal value -/
def topIns (v : Int → Int) (x : Int) : List Int → List Int
  | [] => [x]
  | y :: t => if v x ≤ v y then y :: topIns v x t else x :: y :: t
def topTo (v : Int → Int) : Nat → List Int
  | 0 => []
  | i + 1 => topIns v i (topTo v i)
def iota (n : Nat) : List Int := (List.range n).map fun i : Nat => (i : Int)
theorem iota_len (n : Nat) : (iota n).length = n := by unfold iota; simp
theorem iota_succ (n : Nat) : iota (n + 1) = iota n ++ [(n : Int)] := by unfold iota; rw [List.range_succ, List.map_append]; rfl
theorem iota_get {n i : Nat} {x : Int} (h : (iota n)[i]? = some x) : i < n ∧ x = i := by
  unfold iota at h
  rw [List.getElem?_map] at h
  by_cases hi : i < n
  · rw [List.getElem?_range hi] at h
    simp at h
    exact ⟨hi, h.symm⟩
  · rw [List.getElem?_eq_none (by simpa using hi)] at h
    cases h
theorem iota_asc (n b : Nat) : Asc (iota n) 0 b := fun i j x y _ hij _ hx hy => by
  have := iota_get hx
  have := iota_get hy
  omega
theorem iota_num (n : Nat) : NumIn (iota n) n := fun i x h => by have := iota_get h; omega
theorem topIns_perm (v : Int → Int) (x : Int) (o : List Int) : (topIns v x o).Perm (x :: o) := by
  induction o with
  | nil => exact List.Perm.refl _
  | cons y t ih =>
    rw [topIns]
    split
    · exact (List.Perm.cons y ih).trans (List.Perm.swap x y t)
    · exact List.Perm.refl _
theorem topIns_pw (v : Int → Int) (x : Int) (o : List Int) (h : o.Pairwise (Bef v)) (hl : ∀ y, y ∈ o → y < x) : (topIns v x o).Pairwise (Bef v) := by
  induction o with
  | nil => exact List.pairwise_singleton _ _
  | cons y t ih =>
    obtain ⟨h1, h2⟩ := List.pairwise_cons.1 h
    rw [topIns]
    split
    · rename_i hc
      refine List.pairwise_cons.2 ⟨fun z hz => ?_, ih h2 fun z hz => hl z (List.mem_cons_of_mem _ hz)⟩
      rcases List.mem_cons.1 ((topIns_perm v x t).mem_iff.1 hz) with rfl | hz
      · have := hl y List.mem_cons_self
        unfold Bef; omega
      · exact h1 z hz
    · rename_i hc
      have hb : Bef v x y := by unfold Bef; omega
      refine List.pairwise_cons.2 ⟨fun z hz => ?_, h⟩
      rcases List.mem_cons.1 hz with rfl | hz
      · exact hb
      · exact hb.trans (h1 z hz)
theorem topTo_perm (v : Int → Int) (n : Nat) : (topTo v n).Perm (iota n) := by
  induction n with
  | zero => exact List.Perm.refl _
  | succ n ih =>
    rw [topTo, iota_succ]
    exact (topIns_perm v n _).trans ((List.Perm.cons _ ih).trans (List.perm_append_singleton _ _).symm)
theorem topTo_len (v : Int → Int) (n : Nat) : (topTo v n).length = n := (topTo_perm v n).length_eq.trans (iota_len n)
theorem topTo_mem {v : Int → Int} {n : Nat} {y : Int} (h : y ∈ topTo v n) : 0 ≤ y ∧ y < n := by
  obtain ⟨i, hi⟩ := List.mem_iff_getElem?.1 ((topTo_perm v n).mem_iff.1 h)
  exact iota_num n i y hi
theorem topTo_pw (v : Int → Int) (n : Nat) : (topTo v n).Pairwise (Bef v) := by
  induction n with
  | zero => exact List.Pairwise.nil
  | succ n ih => exact topIns_pw v n _ ih fun y hy => (topTo_mem hy).2
theorem topTo_srt (v : Int → Int) (n : Nat) : Srt v (topTo v n) 0 (topTo v n).length := fun i j x y _ hij _ hx hy => by
  obtain ⟨h1, e1⟩ := List.getElem?_eq_some_iff.1 hx
  obtain ⟨h2, e2⟩ := List.getElem?_eq_some_iff.1 hy
  have := List.pairwise_iff_getElem.1 (topTo_pw v n) i j h1 h2 hij
  rwa [e1, e2] at this
theorem topTo_of {v : Int → Int} {n : Nat} {d : List Int} (h : MOut v (iota n) d 0 n) : d = topTo v n := by
  have hl : d.length = n := h.1.len.trans (iota_len n)
  exact srt_unique (h.1.perm.trans (topTo_perm v n).symm) (by rw [hl]; exact h.2) (topTo_srt v n)
def topOk (l : List Total) (op many : Int) : Bool := totalsOk l && isIn op 1 4 && isIn many 0 40
def topOf (l : List Total) (op many : Int) : List Int × Bool := if topOk l op many = true then ((topTo (valAt (totalValues l op)) l.length).take many.toNat, true) else ([], false)
theorem totVal_bd {x : Total} (h : totOk x = true) (op : Int) : -1000000000 ≤ totVal x op ∧ totVal x op ≤ 1000000000 := by
  unfold totOk at h
  simp only [Bool.and_eq_true, isIn_iff, decide_eq_true_eq] at h
  obtain ⟨⟨⟨⟨-, h1⟩, h2⟩, h3⟩, h4⟩ := h
  unfold totVal
  repeat' split
  all_goals omega
end Pl
/-- the front of an owned list of numbers -/
theorem Mm.SlOwn.takeI {w : World} {e : TypeId} {xs : List Int} {A : Option Addr} {n c m : Nat} {fp : List Nat} (h : Mm.SlOwn Mm.int e w xs (.slice A n c) fp) (hm : m ≤ n) : Mm.SlOwn Mm.int e w (xs.take m) (.slice A m c) fp := by
  obtain ⟨ho, hfp, hown⟩ := Mm.flat1_int.owns h
  obtain ⟨A', n', c', hv, hn, hc⟩ := h.form
  injection hv with e1 e2 e3
  subst e1 e2 e3
  have h2 : w.ownsRow 0 e 1 (.slice A m c) (xs.take m).length ((xs.take m).map fun x => Value.int .i64 x) := by
    have hl : (xs.take m).length = m := by rw [List.length_take]; omega
    rw [hl]
    obtain ⟨k1, k2⟩ := ho
    refine ⟨by rw [List.length_map, hl]; omega, ?_⟩
    rcases k2 with ⟨h3, h4⟩ | ⟨g, cap, cur, h3, h4, h5, h6, h7, h8, h9⟩
    · injection h3 with a1 a2 a3
      subst a1 a2 a3
      exact .inl ⟨by rw [show m = 0 by omega], by omega⟩
    · injection h3 with a1 a2 a3
      subst a1 a3
      refine .inr ⟨g, c, cur, rfl, h4, h5, by omega, h7, h8, ?_⟩
      rw [List.map_take, ← h9, List.take_take]
      congr 1
      omega
  have h3 := Mm.flat1_int.row h2 (fun x hx => hown x (List.mem_of_mem_take hx) w)
  rw [hfp, show (Value.slice A n c).ownBlock = (Value.slice A m c).ownBlock by cases A <;> rfl]
  exact h3
set_option maxRecDepth 100000 in
set_option maxHeartbeats 2000000 in
theorem implTopOf_c (l : List Total) (A : Option Addr) (n c : Nat) (op many : Int) (w : World) (B : Nat) (hl : Mm.SlAt rTotal w B l A n c) (hB : B ≤ w.heap.size) :
    Calls Try.prog 19 #[.slice A n c, .int .i64 op, .int .i64 many] w (Mm.RetS2 Mm.int 3 w (Pl.topOf l op many).1 (Pl.topOf l op many).2) := by
  have hlen : Hid (l.length = n) := hl.1
  have HL := Lib.hid hl
  clear hl
  cases hc : Pl.totalsOk l
  · have HF : Hid (Pl.topOf l op many = ([], false)) := if_neg (by unfold Pl.topOk; rw [hc]; simp)
    go_enter Try.func19, Try.ntmps19
    go_wp2_with (go_at_call 51; refine (areTotals_c l _ _ _ _ B HL.out hB).mono ?_; rintro e w1 ⟨rfl, hb1⟩)
    rw [HF.out]
    go_ret2
    exact (Mm.Acc.nil hb1).ret
  cases hp : Pl.isIn op 1 4
  · have HF : Hid (Pl.topOf l op many = ([], false)) := if_neg (by unfold Pl.topOk; rw [hp]; simp)
    go_enter Try.func19, Try.ntmps19
    go_wp2_with first
      | (go_at_call 51; refine (areTotals_c l _ _ _ _ B HL.out hB).mono ?_; rintro e w1 ⟨rfl, hb1⟩)
      | (go_at_call 52; refine (within_c _ _ _ _).mono ?_; rintro e w2 ⟨rfl, rfl⟩)
    rw [HF.out]
    go_ret2
    exact (Mm.Acc.nil hb1).ret
  cases hq : Pl.isIn many 0 40
  · have HF : Hid (Pl.topOf l op many = ([], false)) := if_neg (by unfold Pl.topOk; rw [hq]; simp)
    go_enter Try.func19, Try.ntmps19
    go_wp2_with first
      | (go_at_call 51; refine (areTotals_c l _ _ _ _ B HL.out hB).mono ?_; rintro e w1 ⟨rfl, hb1⟩)
      | (go_at_call 52; refine (within_c _ _ _ _).mono ?_; rintro e w2 ⟨rfl, rfl⟩)
    rw [HF.out]
    go_ret2
    exact (Mm.Acc.nil hb1).ret
  obtain ⟨mn, rfl⟩ : ∃ mn : Nat, many = mn := ⟨many.toNat, by have := Pl.isIn_iff.1 hq; omega⟩
  have hmn : mn ≤ 40 := by have := Pl.isIn_iff.1 hq; omega
  have HF : Hid (Pl.topOf l op mn = ((Pl.topTo (Pl.valAt (Pl.totalValues l op)) l.length).take mn, true)) := if_pos (by unfold Pl.topOk; rw [hc, hp, hq]; rfl)
  have hpb := Pl.isIn_iff.1 hp
  have hn : n ≤ 40 := by have := Pl.totalsOk_len hc; have := hlen.out; omega
  have HVB : Hid (∀ (j : Nat) (u : Int), (Pl.totalValues l op)[j]? = some u → -1000000000 ≤ u ∧ u ≤ 1000000000) := Lib.hid (fun j u hu => by
    unfold Pl.totalValues at hu
    rw [List.getElem?_map] at hu
    cases hx : l[j]? with
    | none => rw [hx] at hu; cases hu
    | some x => rw [hx] at hu; injection hu with hu; rw [← hu]; exact Pl.totVal_bd (Pl.totalsOk_at hc hx) op)
  have HVL : Hid ((Pl.totalValues l op).length = n) := by show _ = _; unfold Pl.totalValues; rw [List.length_map]; exact hlen.out
  rw [HF.out]
  obtain ⟨vs, hvs⟩ : ∃ vs, Pl.totalValues l op = vs := ⟨_, rfl⟩
  have CV := fun (W : World) (h : Below w.heap.size w W) => totalValues_c l op A n c W B (HL.out.keep fun b hb' => h.block b (Nat.lt_of_lt_of_le hb' hB)) (Nat.le_trans hB h.size) hpb hn
  rw [hvs] at HVB HVL CV ⊢
  clear hvs HF
  have HCV := Lib.hid CV
  clear CV
  obtain ⟨i0, hi, hz0, hz1, hz2⟩ := info_parts Try.infoVi
  go_enter Try.func19, Try.ntmps19
  go_upto_region 4 with first
    | (go_at_call 51; refine (areTotals_c l _ _ _ _ B HL.out hB).mono ?_; rintro e w1 ⟨rfl, hb1⟩)
    | (go_at_call 52; refine (within_c _ _ _ _).mono ?_; rintro e w2 ⟨rfl, rfl⟩)
    | (go_at_call 53; refine (HCV.out _ hb1).mono ?_; rintro e w3 ⟨A3, n3, c3, f3, rfl, k1, k2, k3, k4⟩; (have HO3 := Lib.hid (And.intro k1 (And.intro k2 (And.intro (fun b hb => Nat.le_trans hb1.size (k3 b hb)) (below_step hb1 k4))))); clear k1 k2 k3 k4 hb1)
  have hn3 : n3 = n := by obtain ⟨_, _, _, hv, q1, _⟩ := HO3.out.1.form; injection hv with _ q2 _; have := HVL.out; omega
  subst hn3
  obtain ⟨gv, hgv⟩ : ∃ gv, w3.heap.size = gv := ⟨_, rfl⟩
  obtain ⟨W4, hW4⟩ : ∃ W4, w3.alloc (.cells #[.slice A3 n3 c3] 24) = W4 := ⟨_, rfl⟩
  have HCP : Hid (CapV vs A3 n3 c3 gv W4.heap.size W4) := Lib.hid (by
    have hb : Below w3.heap.size w3 W4 := by rw [← hW4]; exact below_new (Below.refl _ _) _
    have hk : Mm.Blk W4 gv 24 [.slice A3 n3 c3] := by rw [← hW4, ← hgv]; exact Mm.Blk.new w3 _ _
    exact ⟨hk.cell rfl, ((HO3.out.1.weak HO3.out.1.olt).keep fun b hb' => hb.block b hb').more hb.size, hk.lt, Nat.le_refl _, HVB.out⟩)
  have HB4 : Hid (Below w.heap.size w W4) := Lib.hid (by rw [← hW4]; exact below_step HO3.out.2.2.2 (below_new (Below.refl _ _) _))
  have HS0 := Lib.hid ((Mm.SepF.start W4).add (Below.refl _ _) (t := Mm.tsl Mm.int 3 [] (.slice none 0 0) []) Mm.SlOwn.nil List.nodup_nil (fun b hb => by cases hb))
  rw [hW4, hgv]
  clear hW4 hgv HO3 hc hp hq hpb
  have b0 := HCP.out.cell
  go_wp2
  clear b0
  go_loopg [9, 29] n3 (fun gg s9 s29 wr => ∃ (k : Nat) (A5 : Option Addr) (c5 : Nat) (f5 : List Nat), n3 - k ≤ gg ∧ k ≤ n3 ∧ s9 = .slice A5 k c5 ∧ s29 = .int .i64 k ∧ Hid (Mm.SepF [] W4 wr [Mm.tsl Mm.int 3 (Pl.iota k) (.slice A5 k c5) f5]))
  case atStart => exact ⟨0, none, 0, [], Nat.le_refl _, Nat.zero_le _, rfl, rfl, by rw [show Pl.iota 0 = [] from rfl]; exact HS0.out⟩
  case round =>
    clear HS0
    obtain ⟨k, A5, c5, f5, hgk, hk, rfl, rfl, HS⟩ := hrel
    obtain ⟨W, rfl⟩ : ∃ W : World, W = wr := ⟨_, rfl⟩
    by_cases hlt : k < n3
    · have f1 : (k : Int) < (n3 : Nat) := by omega
      have hI : Mm.I64 (k : Int) := by unfold Mm.I64; omega
      have HI := Lib.hid hI
      have HIL : Hid ((Pl.iota k).length = k) := Pl.iota_len k
      clear hI
      go_wp2_with (at_builtin; refine Mm.app_list (x := (k : Int)) HS.out 0 rfl rfl (.tmp 32) (.tmp 34) 24 rfl i0 _ 8 Try.underlying24 hi hz0 hz1 hz2 rfl (by decide) rfl rfl (fun W => ⟨rfl, HI.out, rfl⟩) HIL.out (by unfold maxLen; omega) (by omega) ?_; intro g cap w' fp' hs; (have HS3 := Lib.hid hs); clear hs)
      go_roundg (n3 - (k + 1))
      case measure => omega
      case rel => exact ⟨k + 1, _, cap, fp', Nat.le_refl _, by omega, rfl, by go_num, by rw [Pl.iota_succ]; exact HS3.out⟩
    · obtain rfl : k = n3 := by omega
      have f1 : ¬ (k : Int) < (k : Nat) := by omega
      obtain ⟨m, hm⟩ : ∃ m : Nat, (if (mn : Int) < (k : Int) then (mn : Int) else (k : Int)) = m := ⟨if mn < k then mn else k, by split <;> split <;> omega⟩
      have hmk : m ≤ k ∧ m ≤ mn ∧ (m = mn ∨ m = k) := by split at hm <;> omega
      have hmin : min (mn : Int) (k : Int) = (m : Int) := by omega
      have HCP2 := Lib.hid (HCP.out.bel HS.out.bel0)
      have hcap : k ≤ c5 ∧ c5 ≤ maxLen ∧ (A5 = none → c5 = 0) := (HS.out.rdSl 0 rfl).2.imp id (fun h => ⟨h.1, h.2.1⟩)
      have CS := sortS_c vs A3 k c3 gv W4.heap.size (Pl.iota k) A5 k c5 f5 W HCP2.out (HS.out.sl 0 rfl) (HS.out.ndat (i := 0) rfl) (fun h => by have := (HS.out.new gv (Mm.SepF.mem (i := 0) rfl h)).resolve_left (fun h => by cases h); have := HCP.out.lt; omega) (fun b hb => (HS.out.new b (Mm.SepF.mem (i := 0) rfl hb)).resolve_left (fun h => by cases h)) hn (Pl.iota_num k) (Pl.iota_asc k k)
      have f3 : (0 : Int) ≤ (m : Nat) := by omega
      have f4 : ((m : Nat) : Int).toNat = m := by omega
      have f5' : (m : Int) ≤ (k : Nat) := by omega
      have f6 : (m : Int) ≤ (c5 : Nat) := by have := hcap.1; omega
      have hcm : c5 ≤ 9223372036854775807 := by have := hcap.2.1; unfold maxLen at this; omega
      have HM := Lib.hid hmk
      clear hcap hm
      go_wp2_with (go_at_call 56; (with_reducible refine CS.mono ?_); clear CS; rintro ex w5 ⟨rfl, d', HZ, hz⟩; (have HS1 := Lib.hid (HS.out.call 0 rfl hz.left)); (have HZ1 := Lib.hid (Pl.topTo_of HZ)); clear hz HZ)
      go_ret2
      refine ⟨A5, m, c5, f5, rfl, ?_, HS1.out.ndat (i := 0) rfl, fun b hb => ?_, below_step HB4.out HS1.out.bel0⟩
      · have h1 := (HS1.out.sl 0 rfl).takeI HM.out.1
        rw [HZ1.out] at h1
        have hl : l.length = k := hlen.out
        show Mm.SlOwn Mm.int 3 w5 ((Pl.topTo (Pl.valAt vs) l.length).take mn) _ _
        rw [hl]
        rcases HM.out.2.2 with h | h
        · rw [← h]; exact h1
        · have h2 : (Pl.topTo (Pl.valAt vs) k).length = k := Pl.topTo_len _ _
          rw [List.take_of_length_le (by rw [h2]; have := HM.out.2.1; omega)]
          rwa [List.take_of_length_le (by rw [h2]; omega)] at h1
      · have := (HS1.out.new b (Mm.SepF.mem (i := 0) rfl hb)).resolve_left (fun h => by cases h)
        have := HB4.out.size
        omega
end Go.Proofs.Ytnppcdiicnofpaa

/-
  Contracts: TopOf of the reference. No conditions beyond those named.
-/
namespace Go.Proofs.Ytnppcdiicnofpaa
open Go.RowKit
attribute [local go_sem] und_cell World.cell?_alloc_some
namespace Pl
def topPos (v : Int → Int) (u : Int) : List Int → Nat
  | [] => 0
  | y :: t => if u ≤ v y then topPos v u t + 1 else 0
theorem topIns_eq (v : Int → Int) (x : Int) (o : List Int) : topIns v x o = o.take (topPos v (v x) o) ++ [x] ++ o.drop (topPos v (v x) o) := by
  induction o with
  | nil => rfl
  | cons y t ih =>
    rw [topIns, topPos]
    split
    · rw [ih]; rfl
    · rfl
theorem topPos_of {v : Int → Int} {u : Int} {o : List Int} {k : Nat} (h : ∀ (j : Nat) y, j < k → o[j]? = some y → u ≤ v y) (hk : k ≤ o.length) (he : ∀ y, o[k]? = some y → v y < u) : topPos v u o = k := by
  induction o generalizing k with
  | nil => simp at hk; rw [hk]; rfl
  | cons y t ih =>
    rw [topPos]
    cases k with
    | zero => rw [if_neg (by have := he y rfl; omega)]
    | succ k =>
      rw [if_pos (h 0 y (by omega) rfl), ih (fun j z hj hz => h (j + 1) z (by omega) hz) (by simp at hk; exact hk) (fun z hz => he z hz)]
end Pl
theorem Mm.flatN_intS : Mm.FlatN Mm.int (fun x : Int => [Value.int .i64 x]) := ⟨by decide, fun h => by
  obtain ⟨rfl, h1, rfl⟩ := h
  exact ⟨rfl, rfl, fun w' => ⟨rfl, h1, rfl⟩⟩⟩
set_option maxRecDepth 100000 in
set_option maxHeartbeats 4000000 in
theorem specTopOf_c (l : List Total) (A : Option Addr) (n c : Nat) (op many : Int) (w : World) (B : Nat) (hl : Mm.SlAt rTotal w B l A n c) (hB : B ≤ w.heap.size) :
    Calls Try.prog 18 #[.slice A n c, .int .i64 op, .int .i64 many] w (Mm.RetS2 Mm.int 3 w (Pl.topOf l op many).1 (Pl.topOf l op many).2) := by
  have hlen : Hid (l.length = n) := hl.1
  have HL := Lib.hid hl
  clear hl
  cases hc : Pl.totalsOk l
  · have HF : Hid (Pl.topOf l op many = ([], false)) := if_neg (by unfold Pl.topOk; rw [hc]; simp)
    go_enter Try.func18, Try.ntmps18
    go_wp2_with (go_at_call 47; refine (GoodTotals_c l _ _ _ _ B HL.out hB).mono ?_; rintro e w1 ⟨rfl, hb1⟩)
    rw [HF.out]
    go_ret2
    exact (Mm.Acc.nil hb1).ret
  cases hp : Pl.isIn op 1 4
  · have HF : Hid (Pl.topOf l op many = ([], false)) := if_neg (by unfold Pl.topOk; rw [hp]; simp)
    go_enter Try.func18, Try.ntmps18
    go_wp2_with first
      | (go_at_call 47; refine (GoodTotals_c l _ _ _ _ B HL.out hB).mono ?_; rintro e w1 ⟨rfl, hb1⟩)
      | (go_at_call 48; refine (l1In_c _ _ _ _).mono ?_; rintro e w2 ⟨rfl, rfl⟩)
    rw [HF.out]
    go_ret2
    exact (Mm.Acc.nil hb1).ret
  cases hq : Pl.isIn many 0 40
  · have HF : Hid (Pl.topOf l op many = ([], false)) := if_neg (by unfold Pl.topOk; rw [hq]; simp)
    go_enter Try.func18, Try.ntmps18
    go_wp2_with first
      | (go_at_call 47; refine (GoodTotals_c l _ _ _ _ B HL.out hB).mono ?_; rintro e w1 ⟨rfl, hb1⟩)
      | (go_at_call 48; refine (l1In_c _ _ _ _).mono ?_; rintro e w2 ⟨rfl, rfl⟩)
    rw [HF.out]
    go_ret2
    exact (Mm.Acc.nil hb1).ret
  obtain ⟨mn, rfl⟩ : ∃ mn : Nat, many = mn := ⟨many.toNat, by have := Pl.isIn_iff.1 hq; omega⟩
  have hmn : mn ≤ 40 := by have := Pl.isIn_iff.1 hq; omega
  have HF : Hid (Pl.topOf l op mn = ((Pl.topTo (Pl.valAt (Pl.totalValues l op)) l.length).take mn, true)) := if_pos (by unfold Pl.topOk; rw [hc, hp, hq]; rfl)
  have hpb := Pl.isIn_iff.1 hp
  have hn : n ≤ 40 := by have := Pl.totalsOk_len hc; have := hlen.out; omega
  have HVL : Hid ((Pl.totalValues l op).length = n) := by show _ = _; unfold Pl.totalValues; rw [List.length_map]; exact hlen.out
  rw [HF.out]
  obtain ⟨vs, hvs⟩ : ∃ vs, Pl.totalValues l op = vs := ⟨_, rfl⟩
  have CV := fun (W : World) (h : Below w.heap.size w W) => l14Values_c l op A n c W B (HL.out.keep fun b hb' => h.block b (Nat.lt_of_lt_of_le hb' hB)) (Nat.le_trans hB h.size) hpb hn
  rw [hvs] at HVL CV ⊢
  clear hvs HF
  have HCV := Lib.hid CV
  clear CV
  obtain ⟨i0, hi, hz0, hz1, hz2⟩ := info_parts Try.infoVi
  go_enter Try.func18, Try.ntmps18
  go_upto_region 4 with first
    | (go_at_call 47; refine (GoodTotals_c l _ _ _ _ B HL.out hB).mono ?_; rintro e w1 ⟨rfl, hb1⟩)
    | (go_at_call 48; refine (l1In_c _ _ _ _).mono ?_; rintro e w2 ⟨rfl, rfl⟩)
    | (go_at_call 49; refine (HCV.out _ hb1).mono ?_; rintro e w3 ⟨A3, n3, c3, f3, rfl, k1, k2, k3, k4⟩; (have HO3 := Lib.hid (And.intro (k1.weak k1.olt) (below_step hb1 k4))); (have hn3 : n3 = n := by obtain ⟨_, _, _, hv, q1, _⟩ := k1.form; injection hv with _ q2 _; have := HVL.out; omega); clear k1 k2 k3 k4 hb1)
  subst hn3
  have HS0 := Lib.hid ((Mm.SepF.start w3).add (Below.refl _ _) (t := Mm.tsl Mm.int 3 [] (.slice none 0 0) []) Mm.SlOwn.nil List.nodup_nil (fun b hb => by cases hb))
  clear hc hp hq hpb
  go_wp2
  go_loopg [9, 32] n3 (fun gg s9 s32 wr => ∃ (i : Nat) (A5 : Option Addr) (c5 : Nat) (f5 : List Nat), n3 - i ≤ gg ∧ i ≤ n3 ∧ s9 = .slice A5 i c5 ∧ s32 = .int .i64 i ∧ Hid (Mm.SepF [] w3 wr [Mm.tsl Mm.int 3 (Pl.topTo (Pl.valAt vs) i) (.slice A5 i c5) f5]))
  case atStart => exact ⟨0, none, 0, [], Nat.le_refl _, Nat.zero_le _, rfl, rfl, HS0.out⟩
  case round =>
    clear HS0
    obtain ⟨i, A5, c5, f5, hgi, hin, rfl, rfl, HS⟩ := hrel
    obtain ⟨W, rfl⟩ : ∃ W : World, W = wr := ⟨_, rfl⟩
    have HVS := Lib.hid (HO3.out.1.keep (w' := W) fun b hb => HS.out.bel0.block b hb)
    have hsz : w3.heap.size ≤ W.heap.size := HS.out.bel0.size
    by_cases hlt : i < n3
    · obtain ⟨u, b, off, hu, rfl, hb, iu, e0⟩ := int_get HVS.out hlt
      have HU : Hid (Pl.valAt vs i = u) := Lib.hid (Pl.valAt_of (by rw [Int.toNat_natCast]; exact hu))
      have f1 : (i : Int) < (n3 : Nat) := by omega
      have f2 : (0 : Int) ≤ (i : Nat) := by omega
      have f3' : ((i : Nat) : Int).toNat = i := by omega
      have HO := Lib.hid (HS.out.rdSl 0 rfl)
      have HOL : Hid ((Pl.topTo (Pl.valAt vs) i).length = i) := Pl.topTo_len _ _
      have hcap : i ≤ c5 ∧ c5 ≤ maxLen ∧ (A5 = none → c5 = 0) := HO.out.2.imp id (fun h => ⟨h.1, h.2.1⟩)
      have hI : Mm.I64 (i : Int) := by unfold Mm.I64; omega
      have HI := Lib.hid hI
      clear hu iu hI
      go_upto_region 8 with fail
      clear e0
      go_wp2
      go_loopg [12] i (fun gi s12 wr => ∃ k : Nat, i - k ≤ gi ∧ k ≤ i ∧ s12 = .int .i64 k ∧ Hid (∀ (j : Nat) y, j < k → (Pl.topTo (Pl.valAt vs) i)[j]? = some y → u ≤ Pl.valAt vs y) ∧ wr = W)
      case atStart => exact ⟨0, by omega, by omega, rfl, fun j y hj => absurd hj (Nat.not_lt_zero _), rfl⟩
      case round =>
        obtain ⟨k, hgk, hki, rfl, HK, rfl⟩ := hrel
        obtain ⟨V, rfl⟩ : ∃ V : World, V = wr := ⟨_, rfl⟩
        have HEQ0 := fun (h : Pl.topPos (Pl.valAt vs) u (Pl.topTo (Pl.valAt vs) i) = k) => (show (Pl.topTo (Pl.valAt vs) i).take k ++ [(i : Int)] ++ (Pl.topTo (Pl.valAt vs) i).drop k = Pl.topTo (Pl.valAt vs) (i + 1) by rw [Pl.topTo, Pl.topIns_eq, HU.out, h])
        have KEQ := Lib.hid HEQ0
        clear HEQ0
        have HS3 := Lib.hid (HS.out.fresh (g := V.heap.size) rfl Mm.int 3)
        have HL1 : Hid (([] ++ (Pl.topTo (Pl.valAt vs) i).take k).length = k) := by show _ = _; rw [List.nil_append, List.length_take, HOL.out]; omega
        have HL2 : Hid ((([] ++ (Pl.topTo (Pl.valAt vs) i).take k) ++ [(i : Int)]).length + (i - k) = i + 1) := by show _ = _; rw [List.length_append, HL1.out]; simp; omega
        have g1' : (0 : Int) ≤ (k : Nat) := by omega
        have g2' : ((k : Nat) : Int).toNat = k := by omega
        have g3' : (k : Int) ≤ (i : Nat) := by omega
        have g4' : (k : Int) ≤ (c5 : Nat) := by omega
        have hcm : c5 ≤ 9223372036854775807 := by have := hcap.2.1; unfold maxLen at this; omega
        by_cases hkl : k < i
        · as_aux_lemma =>
          obtain ⟨g, rfl, -, -⟩ := Mm.sl_addr (HS.out.sl 0 rfl) (by rw [HOL.out]; omega)
          obtain ⟨y, hy, hb2, iy, -⟩ := int_get' HO.out hkl
          have e0 := int_ocell (HS.out.sl 0 rfl) (HS.out.ndat (i := 0) rfl) hy
          have hym := Pl.topTo_mem (List.mem_of_getElem? hy)
          obtain ⟨z, hz, _, iz, e1⟩ := int_get' HVS.out (show y.toNat < n3 by omega)
          have hval : Pl.valAt vs y = z := Pl.valAt_of hz
          have hyn : y < (n3 : Nat) := by omega
          have hy0 : 0 ≤ y := hym.1
          have g1 : (k : Int) < (i : Nat) := by omega
          have HY := Lib.hid (And.intro hy hval)
          have HYI := Lib.hid iy
          clear hy hz hval iy iz hym
          by_cases hge : u ≤ z
          · have g4 : decide (z ≥ u) = true := decide_eq_true hge
            have HN : Hid (∀ (j : Nat) y, j < k + 1 → (Pl.topTo (Pl.valAt vs) i)[j]? = some y → u ≤ Pl.valAt vs y) := Lib.hid (fun j x hj hx => by
              rcases Nat.lt_succ_iff_lt_or_eq.1 hj with h1 | rfl
              · exact HK.out j x h1 hx
              · rw [HY.out.1] at hx; injection hx with hx; rw [← hx, HY.out.2]; exact hge)
            go_wp2
            go_roundg (i - (k + 1))
            case measure => omega
            case rel => exact ⟨k + 1, Nat.le_refl _, by omega, by go_num, HN.out, rfl⟩
          · have g4 : decide (z ≥ u) = false := decide_eq_false hge
            have HEQ1 := KEQ.out (Pl.topPos_of HK.out (by rw [HOL.out]; omega) (fun x hx => by rw [HY.out.1] at hx; injection hx with hx; rw [← hx, HY.out.2]; omega))
            have HEQ : Hid ([] ++ (Pl.topTo (Pl.valAt vs) i).take k ++ [(i : Int)] ++ (Pl.topTo (Pl.valAt vs) i).drop k = Pl.topTo (Pl.valAt vs) (i + 1)) := Lib.hid (by rw [List.nil_append]; exact HEQ1)
            clear HEQ1
            have hcut := Mm.run_cut (P := Try.prog) (t := 24) (s := 1) (by kernel_rfl) (fun W => by kernel_rfl) (g := g) (n := i) (c := c5) (j := k) (i := (k : Int)) (by omega) (by omega)
            obtain ⟨AC, hAC⟩ : ∃ AC, (if c5 = k then (some ⟨g, 0, none⟩ : Option Addr) else some ⟨g, k * 1, none⟩) = AC := ⟨_, rfl⟩
            rw [hAC] at hcut
            have HAC := Lib.hid hAC
            clear hAC
            have HRD : ∀ W, Hid (Mm.SlAt Mm.int W W.heap.size (Pl.topTo (Pl.valAt vs) i) (some ⟨g, 0, none⟩) i c5 → Mm.SlAt Mm.int W W.heap.size ((Pl.topTo (Pl.valAt vs) i).drop k) AC (i - k) (c5 - k)) := fun W => Lib.hid (fun h => by
              obtain ⟨A', h1, h2⟩ := h.cut (j := k) (by omega) (s := 1) rfl
              rw [HAC.out] at h1
              subst h1
              exact h2)
            go_upto_region 11 with fail
            clear e0 e1
            go_upto_region 12 with (at_builtin; refine Mm.wpList_appMany rfl (.tmp 54) (.tmp 57) 24 rfl Mm.flat_int Mm.flatN_intS i0 _ 8 Try.underlying24 hi hz0 hz1 hz2 rfl HS3.out 0 rfl (Mm.SlAt.take (HS3.out.rdSl 1 rfl) (show k ≤ i by omega)) (m := k) (by simp) (by unfold maxLen; omega) (by omega) rfl rfl ?_; intro A2 c2 fp2 w1 hs1; (have HS5 := Lib.hid hs1); clear hs1)
            go_upto_region 13 with (at_builtin; refine Mm.app_list (x := (i : Int)) HS5.out 0 rfl rfl (.tmp 59) (.tmp 61) 24 rfl i0 _ 8 Try.underlying24 hi hz0 hz1 hz2 rfl (by decide) rfl rfl (fun W => ⟨rfl, HI.out, rfl⟩) HL1.out (by unfold maxLen; omega) (by omega) ?_; intro g2 cap w' fp' hs; (have HS6 := Lib.hid hs); clear hs)
            go_wp2_with (at_builtin; refine Mm.wpList_appMany rfl (.tmp 63) (.tmp 66) 24 rfl Mm.flat_int Mm.flatN_intS i0 _ 8 Try.underlying24 hi hz0 hz1 hz2 rfl HS6.out 0 rfl ((HRD _).out (HS6.out.rdSl 1 rfl)) (m := i + 1) HL2.out (by unfold maxLen; omega) (by omega) rfl rfl ?_; intro A4 c4 fp4 w4 hs4; rw [HEQ.out] at hs4; (have HS7 := Lib.hid hs4); clear hs4)
            go_roundg (n3 - (i + 1))
            case measure => omega
            case rel => exact ⟨i + 1, A4, c4, fp4, Nat.le_refl _, by omega, rfl, by go_num, HS7.out.sel [0] (by decide) rfl⟩
        · as_aux_lemma =>
          obtain rfl : k = i := by omega
          have HEQ1 := KEQ.out (Pl.topPos_of HK.out (by rw [HOL.out]; exact Nat.le_refl _) (fun x hx => by have := (List.getElem?_eq_some_iff.1 hx).1; rw [HOL.out] at this; omega))
          have HEQ : Hid ([] ++ (Pl.topTo (Pl.valAt vs) k).take k ++ [(k : Int)] ++ (Pl.topTo (Pl.valAt vs) k).drop k = Pl.topTo (Pl.valAt vs) (k + 1)) := Lib.hid (by rw [List.nil_append]; exact HEQ1)
          have g1 : ¬ (k : Int) < (k : Nat) := by omega
          clear HEQ1
          rcases (Mm.flat1_int.owns (HS.out.sl 0 rfl)).1.2 with ⟨hA, hk0⟩ | ⟨g, cp, cur, hA, -⟩
          · injection hA with a1 a2 a3
            subst a1 a2 a3
            have HRD : ∀ W, Hid (Mm.SlAt Mm.int W W.heap.size (Pl.topTo (Pl.valAt vs) 0) none 0 0 → Mm.SlAt Mm.int W W.heap.size ((Pl.topTo (Pl.valAt vs) 0).drop 0) none (0 - 0) (0 - 0)) := fun W => Lib.hid (fun h => h)
            have HEQ : Hid ([] ++ (Pl.topTo (Pl.valAt vs) 0).take 0 ++ [(0 : Int)] ++ (Pl.topTo (Pl.valAt vs) 0).drop 0 = Pl.topTo (Pl.valAt vs) (0 + 1)) := HEQ
            have HL2 : Hid ((([] ++ (Pl.topTo (Pl.valAt vs) 0).take 0) ++ [(0 : Int)]).length + (0 - 0) = 0 + 1) := HL2
            have HI : Hid (Mm.I64 (0 : Int)) := HI
            clear hk0
            go_upto_region 11 with fail
            go_upto_region 12 with (at_builtin; refine Mm.wpList_appMany rfl (.tmp 54) (.tmp 57) 24 rfl Mm.flat_int Mm.flatN_intS i0 _ 8 Try.underlying24 hi hz0 hz1 hz2 rfl HS3.out 0 rfl (Mm.SlAt.take (HS3.out.rdSl 1 rfl) (show 0 ≤ 0 by omega)) (m := 0) (by simp) (by unfold maxLen; omega) (by omega) rfl rfl ?_; intro A2 c2 fp2 w1 hs1; (have HS5 := Lib.hid hs1); clear hs1)
            go_upto_region 13 with (at_builtin; refine Mm.app_list (x := (0 : Int)) HS5.out 0 rfl rfl (.tmp 59) (.tmp 61) 24 rfl i0 _ 8 Try.underlying24 hi hz0 hz1 hz2 rfl (by decide) rfl rfl (fun W => ⟨rfl, HI.out, rfl⟩) HL1.out (by unfold maxLen; omega) (by omega) ?_; intro g2 cap w' fp' hs; (have HS6 := Lib.hid hs); clear hs)
            go_wp2_with (at_builtin; refine Mm.wpList_appMany rfl (.tmp 63) (.tmp 66) 24 rfl Mm.flat_int Mm.flatN_intS i0 _ 8 Try.underlying24 hi hz0 hz1 hz2 rfl HS6.out 0 rfl ((HRD _).out (HS6.out.rdSl 1 rfl)) (m := 0 + 1) HL2.out (by unfold maxLen; omega) (by omega) rfl rfl ?_; intro A4 c4 fp4 w4 hs4; rw [HEQ.out] at hs4; (have HS7 := Lib.hid hs4); clear hs4)
            go_roundg (n3 - (0 + 1))
            case measure => omega
            case rel => exact ⟨0 + 1, A4, c4, fp4, Nat.le_refl _, by omega, rfl, by go_num, HS7.out.sel [0] (by decide) rfl⟩
          · injection hA with a1 a2 a3
            subst a1
            clear a2 a3
            have hcut := Mm.run_cut (P := Try.prog) (t := 24) (s := 1) (by kernel_rfl) (fun W => by kernel_rfl) (g := g) (n := k) (c := c5) (j := k) (i := (k : Int)) (by omega) (by omega)
            obtain ⟨AC, hAC⟩ : ∃ AC, (if c5 = k then (some ⟨g, 0, none⟩ : Option Addr) else some ⟨g, k * 1, none⟩) = AC := ⟨_, rfl⟩
            rw [hAC] at hcut
            have HAC := Lib.hid hAC
            clear hAC
            have HRD : ∀ W, Hid (Mm.SlAt Mm.int W W.heap.size (Pl.topTo (Pl.valAt vs) k) (some ⟨g, 0, none⟩) k c5 → Mm.SlAt Mm.int W W.heap.size ((Pl.topTo (Pl.valAt vs) k).drop k) AC 0 (c5 - k)) := fun W => Lib.hid (fun h => by
              obtain ⟨A', h1, h2⟩ := h.cut (j := k) (by omega) (s := 1) rfl
              rw [HAC.out] at h1
              subst h1
              rw [Nat.sub_self] at h2
              exact h2)
            rw [Nat.sub_self] at HL2 hcut
            go_upto_region 11 with fail
            go_upto_region 12 with (at_builtin; refine Mm.wpList_appMany rfl (.tmp 54) (.tmp 57) 24 rfl Mm.flat_int Mm.flatN_intS i0 _ 8 Try.underlying24 hi hz0 hz1 hz2 rfl HS3.out 0 rfl (Mm.SlAt.take (HS3.out.rdSl 1 rfl) (show k ≤ k by omega)) (m := k) (by simp) (by unfold maxLen; omega) (by omega) rfl rfl ?_; intro A2 c2 fp2 w1 hs1; (have HS5 := Lib.hid hs1); clear hs1)
            go_upto_region 13 with (at_builtin; refine Mm.app_list (x := (k : Int)) HS5.out 0 rfl rfl (.tmp 59) (.tmp 61) 24 rfl i0 _ 8 Try.underlying24 hi hz0 hz1 hz2 rfl (by decide) rfl rfl (fun W => ⟨rfl, HI.out, rfl⟩) HL1.out (by unfold maxLen; omega) (by omega) ?_; intro g2 cap w' fp' hs; (have HS6 := Lib.hid hs); clear hs)
            go_wp2_with (at_builtin; refine Mm.wpList_appMany rfl (.tmp 63) (.tmp 66) 24 rfl Mm.flat_int Mm.flatN_intS i0 _ 8 Try.underlying24 hi hz0 hz1 hz2 rfl HS6.out 0 rfl ((HRD _).out (HS6.out.rdSl 1 rfl)) (m := k + 1) HL2.out (by unfold maxLen; omega) (by omega) rfl rfl ?_; intro A4 c4 fp4 w4 hs4; rw [HEQ.out] at hs4; (have HS7 := Lib.hid hs4); clear hs4)
            go_roundg (n3 - (k + 1))
            case measure => omega
            case rel => exact ⟨k + 1, A4, c4, fp4, Nat.le_refl _, by omega, rfl, by go_num, HS7.out.sel [0] (by decide) rfl⟩
    · obtain rfl : i = n3 := by omega
      have f1 : ¬ (i : Int) < (i : Nat) := by omega
      have HOL : Hid ((Pl.topTo (Pl.valAt vs) i).length = i) := Pl.topTo_len _ _
      have HLE : Hid (l.length = i) := hlen
      have hcap : i ≤ c5 ∧ c5 ≤ maxLen ∧ (A5 = none → c5 = 0) := (HS.out.rdSl 0 rfl).2.imp id (fun h => ⟨h.1, h.2.1⟩)
      have hcm : c5 ≤ 9223372036854775807 := by have := hcap.2.1; unfold maxLen at this; omega
      by_cases hmi : mn < i
      · as_aux_lemma =>
        have HS3 := Lib.hid (HS.out.fresh (g := W.heap.size) rfl Mm.int 3)
        have f2 : (mn : Int) < (i : Nat) := by omega
        have g1' : (0 : Int) ≤ (mn : Nat) := by omega
        have g2' : ((mn : Nat) : Int).toNat = mn := by omega
        have g3' : (mn : Int) ≤ (i : Nat) := by omega
        have g4' : (mn : Int) ≤ (c5 : Nat) := by omega
        obtain ⟨g, rfl, -, -⟩ := Mm.sl_addr (HS.out.sl 0 rfl) (by rw [HOL.out]; omega)
        go_wp2_with (at_builtin; refine Mm.wpList_appMany rfl (.tmp 73) (.tmp 76) 24 rfl Mm.flat_int Mm.flatN_intS i0 _ 8 Try.underlying24 hi hz0 hz1 hz2 rfl HS3.out 0 rfl ((HS3.out.rdSl 1 rfl).take (k := mn) (by omega)) (m := mn) (by simp) (by unfold maxLen; omega) (by omega) rfl rfl ?_; intro A6 c6 fp6 w6 hs6; (have HS6 := Lib.hid hs6); clear hs6)
        go_ret2
        refine ⟨A6, mn, c6, fp6, rfl, ?_, HS6.out.ndat (i := 0) rfl, fun b hb => ?_, below_step HO3.out.2 HS6.out.bel0⟩
        · have h1 := HS6.out.sl 0 rfl
          rw [List.nil_append] at h1
          rw [HLE.out]
          exact h1
        · have := (HS6.out.new b (Mm.SepF.mem (i := 0) rfl hb)).resolve_left (fun h => by cases h)
          have := HO3.out.2.size
          omega
      · as_aux_lemma =>
        have f2 : ¬ (mn : Int) < (i : Nat) := by omega
        go_wp2
        go_ret2
        refine ⟨A5, i, c5, f5, rfl, ?_, HS.out.ndat (i := 0) rfl, fun b hb => ?_, below_step HO3.out.2 HS.out.bel0⟩
        · have h1 := HS.out.sl 0 rfl
          rw [HLE.out, List.take_of_length_le (by rw [HOL.out]; omega)]
          exact h1
        · have := (HS.out.new b (Mm.SepF.mem (i := 0) rfl hb)).resolve_left (fun h => by cases h)
          have := HO3.out.2.size
          omega
end Go.Proofs.Ytnppcdiicnofpaa
