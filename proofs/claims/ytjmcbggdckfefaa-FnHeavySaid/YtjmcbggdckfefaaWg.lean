/-
  Contracts on sketches: the functions that only read. No conditions.
-/
import Derived.Test.YtjmcbggdckfefaaWa
import Derived.Test.YtjmcbggdckfefaaQu
import Derived.Test.YtjmcbggdckfefaaTy
import Derived.Test.YtjmcbggdckfefaaPk
import Derived.Lib.Hide
import Derived.Deep.LoopGhost
import Derived.Deep.DeepFit
namespace Go.Proofs.Ytjmcbggdckfefaa
open Go.RowKit
attribute [local go_sem] und_cell World.cell?_alloc_some
theorem l1All_c (l : List Int) (A : Option Addr) (n c : Nat) (a b : Int) (w : World) (B : Nat) (hl : Mm.SlAt Mm.int w B l A n c) :
    Calls Try.prog 89 #[.slice A n c, .int .i64 a, .int .i64 b] w fun e w' => e = .returned (.bool (Pl.allIn a b l)) ∧ w = w' := by
  have hlen : Hid (l.length = n) := hl.1
  have hn : n ≤ 9223372036854775807 := by have := hl.2.1; have := hl.2.2.1; unfold maxLen at this; omega
  have HL : Hid (Mm.SlAt Mm.int w B l A n c) := hl
  clear hl
  go_enter Try.func89, Try.ntmps89
  go_wp2
  go_loop [8, 11] (fun _ i => ∃ k : Nat, k ≤ n ∧ i = .int .i64 k ∧ Hid (Pl.upTo (fun x => Pl.isIn x a b) l k)) (fun _ i => n - (intOf i).toNat)
  case atStart => exact ⟨0, Nat.zero_le _, rfl, Pl.upTo0⟩
  case round =>
    obtain ⟨k, hk, rfl, HU⟩ := hrel
    by_cases hlt : k < n
    · obtain ⟨x, b0, off, hx, rfl, hb, b1, c1⟩ := int_get HL.out hlt
      have HX := Lib.hid hx
      clear hx
      cases hs : Pl.isIn x a b
      · go_wp2_with (go_at_call 87; refine (l1In_c _ _ _ _).mono ?_; rintro e w' ⟨rfl, rfl⟩)
        go_ret
        exact ⟨ret_bool (Pl.upToB HX.out hs).symm, rfl⟩
      · go_wp2_with (go_at_call 87; refine (l1In_c _ _ _ _).mono ?_; rintro e w' ⟨rfl, rfl⟩)
        go_round
        case rel => exact ⟨k + 1, by omega, by go_num, Pl.upTo1 HU.out HX.out hs⟩
        case measure => simp [intOf]; omega
    · go_wp2
      go_ret
      exact ⟨ret_bool (Pl.upToE HU.out (by rw [hlen.out]; omega)).symm, rfl⟩
theorem l12Sum_c (l : List Int) (A : Option Addr) (n c : Nat) (w : World) (B : Nat) (hl : Mm.SlAt Mm.int w B l A n c) (hn' : n ≤ 1048576) (hin : Pl.allIn (-1000000) 1000000 l = true) :
    Calls Try.prog 90 #[.slice A n c] w fun e w' => e = .returned (.int .i64 (Pl.sum l)) ∧ w = w' := by
  have hlen : Hid (l.length = n) := hl.1
  have hn : n ≤ 9223372036854775807 := by have := hl.2.1; have := hl.2.2.1; unfold maxLen at this; omega
  have HL : Hid (Mm.SlAt Mm.int w B l A n c) := hl
  clear hl
  have HI := Lib.hid hin
  clear hin
  go_enter Try.func90, Try.ntmps90
  go_wp2
  go_loop [3, 5, 8] (fun s _ i => ∃ k : Nat, k ≤ n ∧ i = .int .i64 k ∧ s = .int .i64 (Pl.sumTo l k)) (fun _ _ i => n - (intOf i).toNat)
  case atStart => exact ⟨0, Nat.zero_le _, rfl, rfl⟩
  case round =>
    obtain ⟨k, hk, rfl, rfl⟩ := hrel
    have hbd := Pl.sumTo_bd HI.out (by omega) (by omega) k
    by_cases hlt : k < n
    · obtain ⟨x, b0, off, hx, rfl, hb, b1, c1⟩ := int_get HL.out hlt
      have hxb := Pl.allIn_at HI.out hx
      have HN := Lib.hid (Pl.sumTo_next hx)
      clear hx
      go_wp2
      go_round
      case rel => exact ⟨k + 1, by omega, by go_num, by rw [HN.out]⟩
      case measure => simp [intOf]; omega
    · have HE : Hid (Pl.sumTo l k = Pl.sum l) := by show _ = _; unfold Pl.sum; rw [hlen.out, show k = n by omega]
      go_wp2
      go_ret
      exact ⟨ret_int HE.out, rfl⟩
set_option maxRecDepth 100000 in
set_option maxHeartbeats 1000000 in
theorem isHeavy_c (h : Heavy) (cs : List Value) (w : World) (B : Nat) (hh : rHeavy.at_ w B h cs) (hB : B ≤ w.heap.size) :
    Calls Try.prog 70 #[.agg cs.toArray] w fun e w' => e = .returned (.bool (Pl.heavyOk h)) ∧ Below w.heap.size w w' := by
  obtain ⟨A0, n0, c0, A1, n1, c1, rfl, h0, h1, g0, g1⟩ := rHeavy_at hh
  have hl0 := Lib.hid h0.1
  have hl1 := Lib.hid h1.1
  have HL0 := Lib.hid h0
  have HL1 := Lib.hid h1
  clear h0 h1 hh
  have HF : Hid (Pl.heavyOk h = (Pl.isIn (n0 : Int) 1 6 && decide (n1 = n0) && Pl.isIn h.Gone 0 100000 && Pl.isIn h.Total 0 1000000 && Pl.allB n0 (Pl.slotOk h) && decide (Pl.sum h.Counts + h.Gone * ((n0 : Int) + 1) = h.Total))) := by
    show _ = _
    unfold Pl.heavyOk
    rw [hl0.out, hl1.out]
  cases k1 : Pl.isIn (n0 : Int) 1 6
  · go_enter Try.func70, Try.ntmps70
    go_wp2_with (go_at_call 78; refine (within_c _ _ _ _).mono ?_; rintro e w' ⟨rfl, rfl⟩)
    go_ret
    exact ⟨ret_bool (by rw [HF.out, k1]; simp), (Below.refl _ _).alloc (Nat.le_refl _) _⟩
  by_cases hn1 : n1 = n0
  rotate_left
  · have hn2 : ((n1 : Int) != (n0 : Int)) = true := by simp; omega
    have hn3 : (n1 != n0) = true := by simpa using hn1
    go_enter Try.func70, Try.ntmps70
    go_wp2_with (go_at_call 78; refine (within_c _ _ _ _).mono ?_; rintro e w' ⟨rfl, rfl⟩)
    go_ret
    exact ⟨ret_bool (by rw [HF.out]; simp [hn1]), (Below.refl _ _).alloc (Nat.le_refl _) _⟩
  obtain rfl : n0 = n1 := hn1.symm
  clear hn1
  cases k2 : Pl.isIn h.Gone 0 100000
  · go_enter Try.func70, Try.ntmps70
    go_wp2_with (go_at_call 78; refine (within_c _ _ _ _).mono ?_; rintro e w' ⟨rfl, rfl⟩)
    go_ret
    exact ⟨ret_bool (by rw [HF.out, k2]; simp), (Below.refl _ _).alloc (Nat.le_refl _) _⟩
  cases k3 : Pl.isIn h.Total 0 1000000
  · go_enter Try.func70, Try.ntmps70
    go_wp2_with (go_at_call 78; refine (within_c _ _ _ _).mono ?_; rintro e w' ⟨rfl, rfl⟩)
    go_ret
    exact ⟨ret_bool (by rw [HF.out, k3]; simp), (Below.refl _ _).alloc (Nat.le_refl _) _⟩
  have hb1 := Pl.isIn_iff.1 k1
  have hb2 := Pl.isIn_iff.1 k2
  have HG : Hid (Pl.heavyOk h = (Pl.allB n0 (Pl.slotOk h) && decide (Pl.sum h.Counts + h.Gone * ((n0 : Int) + 1) = h.Total))) := by
    show _ = _
    rw [HF.out, k1, k2, k3]
    simp
  have hm1 : 0 ≤ h.Gone * ((n0 : Int) + 1) := Int.mul_nonneg (by omega) (by omega)
  have hm2 : h.Gone * ((n0 : Int) + 1) ≤ 100000 * 7 := Int.le_trans (Int.mul_le_mul_of_nonneg_right (c := (n0 : Int) + 1) hb2.2 (by omega)) (by omega)
  go_enter Try.func70, Try.ntmps70
  go_wp2_with (go_at_call 78; refine (within_c _ _ _ _).mono ?_; rintro e w' ⟨rfl, rfl⟩)
  go_loopg [4, 41] n0 (fun g s i wr => wr = w.alloc (.cells #[.slice A0 n0 c0, .slice A1 n0 c1, .int .i64 h.Gone, .int .i64 h.Total] 38) ∧ ∃ k : Nat, n0 - k ≤ g ∧ k ≤ n0 ∧ i = .int .i64 k ∧ s = .int .i64 (Pl.sumTo h.Counts k + h.Gone * ((n0 : Int) + 1)) ∧ Hid (∀ j, j < k → Pl.slotOk h j = true))
  case atStart => exact ⟨rfl, 0, Nat.le_refl _, Nat.zero_le _, rfl, by simp [Pl.sumTo], fun j hj => absurd hj (Nat.not_lt_zero j)⟩
  case round =>
    obtain ⟨rfl, k, hgk, hk, rfl, rfl, HU⟩ := hrel
    have hbd := Pl.sumTo_slot HU.out
    by_cases hlt : k < n0
    · obtain ⟨x, b0, off, hx, rfl, hb, b1, d1⟩ := str_get HL0.out hlt
      obtain ⟨y, b2, off2, hy, rfl, hb2', b3, d2⟩ := int_get HL1.out hlt
      obtain ⟨x2, hx2, _, b4, d3⟩ := str_get' HL0.out (show k - 1 < n0 by omega)
      have HS := Lib.hid (Pl.slotOk_of hx hy hx2)
      have HN := Lib.hid (Pl.sumTo_next hy)
      have HB : Hid (Pl.slotP k x y x2 = true → 0 ≤ y ∧ y ≤ 100000) := Pl.slotP_bd
      clear hx hy hx2
      have NO : Hid (Pl.slotP k x y x2 = false → Pl.heavyOk h = false) := fun hv => by
        rw [HG.out, Pl.allB_no hlt (by rw [HS.out, hv])]; rfl
      by_cases hxe : x.toList = []
      · have hsp : Hid (Pl.slotP k x y x2 = decide (y = 0)) := if_pos hxe
        by_cases hy0 : y = 0
        · have HV : Hid (Pl.slotP k x y x2 = true) := by show _ = _; rw [hsp.out]; simpa using hy0
          subst hy0
          obtain rfl := Pl.ba_nil hxe
          clear hxe
          go_wp2_with first
            | (go_at_call 78; refine (within_c _ _ _ _).mono ?_; rintro e w' ⟨rfl, rfl⟩)
            | (go_at_call 71; refine (isWord_c _ _ _ b1).mono ?_; rintro e w' ⟨rfl, rfl⟩)
          go_roundg (n0 - (k + 1))
          case measure => omega
          case rel => exact ⟨rfl, k + 1, Nat.le_refl _, by omega, by go_num, by rw [HN.out]; go_num, Pl.snocB HU.out (by rw [HS.out, HV.out])⟩
        · have hy1 : (y != 0) = true := by simpa using hy0
          have HV := Lib.hid (NO.out (by rw [hsp.out]; simpa using hy0))
          clear hy0 hsp NO HS HB
          obtain rfl := Pl.ba_nil hxe
          clear hxe
          go_wp2_with first
            | (go_at_call 78; refine (within_c _ _ _ _).mono ?_; rintro e w' ⟨rfl, rfl⟩)
            | (go_at_call 71; refine (isWord_c _ _ _ b1).mono ?_; rintro e w' ⟨rfl, rfl⟩)
          go_ret
          exact ⟨ret_bool HV.out.symm, (Below.refl _ _).alloc (Nat.le_refl _) _⟩
      have hxi : x.toList.isEmpty = false := by simpa using hxe
      have hsp : Hid (Pl.slotP k x y x2 = (Pl.word false x.data.toList && Pl.isIn y 1 100000 && (decide (k = 0) || (Op.bytesLess x2.toList x.toList && !x2.toList.isEmpty)))) := if_neg hxe
      cases hw1 : Pl.word false x.data.toList
      · skip
        have HV := Lib.hid (NO.out (by rw [hsp.out, hw1]; rfl))
        go_wp2_with first
          | (go_at_call 78; refine (within_c _ _ _ _).mono ?_; rintro e w' ⟨rfl, rfl⟩)
          | (go_at_call 71; refine (isWord_c _ _ _ b1).mono ?_; rintro e w' ⟨rfl, rfl⟩)
        go_ret
        exact ⟨ret_bool HV.out.symm, (Below.refl _ _).alloc (Nat.le_refl _) _⟩
      cases hw2 : Pl.isIn y 1 100000
      · skip
        have HV := Lib.hid (NO.out (by rw [hsp.out, hw2]; simp))
        go_wp2_with first
          | (go_at_call 78; refine (within_c _ _ _ _).mono ?_; rintro e w' ⟨rfl, rfl⟩)
          | (go_at_call 71; refine (isWord_c _ _ _ b1).mono ?_; rintro e w' ⟨rfl, rfl⟩)
        go_ret
        exact ⟨ret_bool HV.out.symm, (Below.refl _ _).alloc (Nat.le_refl _) _⟩
      have hyb := Pl.isIn_iff.1 hw2
      by_cases hk0 : k = 0
      · have HV : Hid (Pl.slotP k x y x2 = true) := by show _ = _; rw [hsp.out, hw1, hw2]; simp [hk0]
        have hk1 : decide (0 < k) = false := by simpa using hk0
        clear hk0
        go_wp2_with first
          | (go_at_call 78; refine (within_c _ _ _ _).mono ?_; rintro e w' ⟨rfl, rfl⟩)
          | (go_at_call 71; refine (isWord_c _ _ _ b1).mono ?_; rintro e w' ⟨rfl, rfl⟩)
        go_roundg (n0 - (k + 1))
        case measure => omega
        case rel => exact ⟨rfl, k + 1, Nat.le_refl _, by omega, by go_num, by rw [HN.out]; go_num, Pl.snocB HU.out (by rw [HS.out, HV.out])⟩
      have hk1 : decide (0 < k) = true := by simp; omega
      cases hw3 : Op.bytesLess x2.toList x.toList
      · skip
        have HV := Lib.hid (NO.out (by rw [hsp.out, hw3]; simp [hk0]))
        go_wp2_with first
          | (go_at_call 78; refine (within_c _ _ _ _).mono ?_; rintro e w' ⟨rfl, rfl⟩)
          | (go_at_call 71; refine (isWord_c _ _ _ b1).mono ?_; rintro e w' ⟨rfl, rfl⟩)
        go_ret
        exact ⟨ret_bool HV.out.symm, (Below.refl _ _).alloc (Nat.le_refl _) _⟩
      cases hw4 : x2.toList.isEmpty
      · have HV : Hid (Pl.slotP k x y x2 = true) := by show _ = _; rw [hsp.out, hw1, hw2, hw3, hw4]; simp
        go_wp2_with first
          | (go_at_call 78; refine (within_c _ _ _ _).mono ?_; rintro e w' ⟨rfl, rfl⟩)
          | (go_at_call 71; refine (isWord_c _ _ _ b1).mono ?_; rintro e w' ⟨rfl, rfl⟩)
        go_roundg (n0 - (k + 1))
        case measure => omega
        case rel => exact ⟨rfl, k + 1, Nat.le_refl _, by omega, by go_num, by rw [HN.out]; go_num, Pl.snocB HU.out (by rw [HS.out, HV.out])⟩
      · skip
        have HV := Lib.hid (NO.out (by rw [hsp.out, hw4]; simp [hk0]))
        go_wp2_with first
          | (go_at_call 78; refine (within_c _ _ _ _).mono ?_; rintro e w' ⟨rfl, rfl⟩)
          | (go_at_call 71; refine (isWord_c _ _ _ b1).mono ?_; rintro e w' ⟨rfl, rfl⟩)
        go_ret
        exact ⟨ret_bool HV.out.symm, (Below.refl _ _).alloc (Nat.le_refl _) _⟩
    · go_wp2
      go_ret
      exact ⟨ret_bool (by rw [HG.out, Pl.allB_yes (fun i hi => HU.out i (by omega))]; unfold Pl.sum; rw [hl1.out, show k = n0 by omega, Pl.beq_dec]; simp), (Below.refl _ _).alloc (Nat.le_refl _) _⟩
set_option maxRecDepth 100000 in
set_option maxHeartbeats 1000000 in
theorem specGoodHeavy_c (h : Heavy) (cs : List Value) (w : World) (B : Nat) (hh : rHeavy.at_ w B h cs) (hB : B ≤ w.heap.size) :
    Calls Try.prog 55 #[.agg cs.toArray] w fun e w' => e = .returned (.bool (Pl.heavyOk h)) ∧ Below w.heap.size w w' := by
  obtain ⟨A0, n0, c0, A1, n1, c1, rfl, h0, h1, g0, g1⟩ := rHeavy_at hh
  have hl0 := Lib.hid h0.1
  have hl1 := Lib.hid h1.1
  have HL0 := Lib.hid h0
  have HL1 := Lib.hid h1
  clear h0 h1 hh
  have HF : Hid (Pl.heavyOk h = (Pl.isIn (n0 : Int) 1 6 && decide (n1 = n0) && Pl.isIn h.Gone 0 100000 && Pl.isIn h.Total 0 1000000 && Pl.allB n0 (Pl.slotOk h) && decide (Pl.sum h.Counts + h.Gone * ((n0 : Int) + 1) = h.Total))) := by
    show _ = _
    unfold Pl.heavyOk
    rw [hl0.out, hl1.out]
  cases k1 : Pl.isIn (n0 : Int) 1 6
  · go_enter Try.func55, Try.ntmps55
    go_wp2_with (go_at_call 87; refine (l1In_c _ _ _ _).mono ?_; rintro e w' ⟨rfl, rfl⟩)
    go_ret
    exact ⟨ret_bool (by rw [HF.out, k1]; simp), (Below.refl _ _).alloc (Nat.le_refl _) _⟩
  by_cases hn1 : n1 = n0
  rotate_left
  · have hn2 : ((n1 : Int) != (n0 : Int)) = true := by simp; omega
    have hn3 : (n1 != n0) = true := by simpa using hn1
    go_enter Try.func55, Try.ntmps55
    go_wp2_with (go_at_call 87; refine (l1In_c _ _ _ _).mono ?_; rintro e w' ⟨rfl, rfl⟩)
    go_ret
    exact ⟨ret_bool (by rw [HF.out]; simp [hn1]), (Below.refl _ _).alloc (Nat.le_refl _) _⟩
  obtain rfl : n0 = n1 := hn1.symm
  clear hn1
  cases k2 : Pl.isIn h.Gone 0 100000
  · go_enter Try.func55, Try.ntmps55
    go_wp2_with (go_at_call 87; refine (l1In_c _ _ _ _).mono ?_; rintro e w' ⟨rfl, rfl⟩)
    go_ret
    exact ⟨ret_bool (by rw [HF.out, k2]; simp), (Below.refl _ _).alloc (Nat.le_refl _) _⟩
  cases k3 : Pl.isIn h.Total 0 1000000
  · go_enter Try.func55, Try.ntmps55
    go_wp2_with (go_at_call 87; refine (l1In_c _ _ _ _).mono ?_; rintro e w' ⟨rfl, rfl⟩)
    go_ret
    exact ⟨ret_bool (by rw [HF.out, k3]; simp), (Below.refl _ _).alloc (Nat.le_refl _) _⟩
  have hb1 := Pl.isIn_iff.1 k1
  have hb2 := Pl.isIn_iff.1 k2
  have HG : Hid (Pl.heavyOk h = (Pl.allB n0 (Pl.slotOk h) && decide (Pl.sum h.Counts + h.Gone * ((n0 : Int) + 1) = h.Total))) := by
    show _ = _
    rw [HF.out, k1, k2, k3]
    simp
  have hm1 : 0 ≤ h.Gone * ((n0 : Int) + 1) := Int.mul_nonneg (by omega) (by omega)
  have hm2 : h.Gone * ((n0 : Int) + 1) ≤ 100000 * 7 := Int.le_trans (Int.mul_le_mul_of_nonneg_right (c := (n0 : Int) + 1) hb2.2 (by omega)) (by omega)
  go_enter Try.func55, Try.ntmps55
  go_wp2_with (go_at_call 87; refine (l1In_c _ _ _ _).mono ?_; rintro e w' ⟨rfl, rfl⟩)
  go_loopg [34] n0 (fun g i wr => wr = w.alloc (.cells #[.slice A0 n0 c0, .slice A1 n0 c1, .int .i64 h.Gone, .int .i64 h.Total] 38) ∧ ∃ k : Nat, n0 - k ≤ g ∧ k ≤ n0 ∧ i = .int .i64 k ∧ Hid (∀ j, j < k → Pl.slotOk h j = true))
  case atStart => exact ⟨rfl, 0, Nat.le_refl _, Nat.zero_le _, rfl, fun j hj => absurd hj (Nat.not_lt_zero j)⟩
  case round =>
    obtain ⟨rfl, k, hgk, hk, rfl, HU⟩ := hrel
    by_cases hlt : k < n0
    · obtain ⟨x, b0, off, hx, rfl, hb, b1, d1⟩ := str_get HL0.out hlt
      obtain ⟨y, b2, off2, hy, rfl, hb2', b3, d2⟩ := int_get HL1.out hlt
      obtain ⟨x2, hx2, _, b4, d3⟩ := str_get' HL0.out (show k - 1 < n0 by omega)
      have HS := Lib.hid (Pl.slotOk_of hx hy hx2)
      clear hx hy hx2
      have NO : Hid (Pl.slotP k x y x2 = false → Pl.heavyOk h = false) := fun hv => by
        rw [HG.out, Pl.allB_no hlt (by rw [HS.out, hv])]; rfl
      by_cases hxe : x.toList = []
      · have hsp : Hid (Pl.slotP k x y x2 = decide (y = 0)) := if_pos hxe
        by_cases hy0 : y = 0
        · have HV : Hid (Pl.slotP k x y x2 = true) := by show _ = _; rw [hsp.out]; simpa using hy0
          subst hy0
          obtain rfl := Pl.ba_nil hxe
          clear hxe
          go_wp2_with first
            | (go_at_call 87; refine (l1In_c _ _ _ _).mono ?_; rintro e w' ⟨rfl, rfl⟩)
            | (go_at_call 66; refine (l3Name_c _ _ _ b1).mono ?_; rintro e w' ⟨rfl, rfl⟩)
          go_roundg (n0 - (k + 1))
          case measure => omega
          case rel => exact ⟨rfl, k + 1, Nat.le_refl _, by omega, by go_num, Pl.snocB HU.out (by rw [HS.out, HV.out])⟩
        · have hy1 : (y != 0) = true := by simpa using hy0
          have HV := Lib.hid (NO.out (by rw [hsp.out]; simpa using hy0))
          clear hy0 hsp NO HS
          obtain rfl := Pl.ba_nil hxe
          clear hxe
          go_wp2_with first
            | (go_at_call 87; refine (l1In_c _ _ _ _).mono ?_; rintro e w' ⟨rfl, rfl⟩)
            | (go_at_call 66; refine (l3Name_c _ _ _ b1).mono ?_; rintro e w' ⟨rfl, rfl⟩)
          go_ret
          exact ⟨ret_bool HV.out.symm, (Below.refl _ _).alloc (Nat.le_refl _) _⟩
      have hxi : x.toList.isEmpty = false := by simpa using hxe
      have hsp : Hid (Pl.slotP k x y x2 = (Pl.word false x.data.toList && Pl.isIn y 1 100000 && (decide (k = 0) || (Op.bytesLess x2.toList x.toList && !x2.toList.isEmpty)))) := if_neg hxe
      cases hw1 : Pl.word false x.data.toList
      · skip
        have HV := Lib.hid (NO.out (by rw [hsp.out, hw1]; rfl))
        go_wp2_with first
          | (go_at_call 87; refine (l1In_c _ _ _ _).mono ?_; rintro e w' ⟨rfl, rfl⟩)
          | (go_at_call 66; refine (l3Name_c _ _ _ b1).mono ?_; rintro e w' ⟨rfl, rfl⟩)
        go_ret
        exact ⟨ret_bool HV.out.symm, (Below.refl _ _).alloc (Nat.le_refl _) _⟩
      cases hw2 : Pl.isIn y 1 100000
      · skip
        have HV := Lib.hid (NO.out (by rw [hsp.out, hw2]; simp))
        go_wp2_with first
          | (go_at_call 87; refine (l1In_c _ _ _ _).mono ?_; rintro e w' ⟨rfl, rfl⟩)
          | (go_at_call 66; refine (l3Name_c _ _ _ b1).mono ?_; rintro e w' ⟨rfl, rfl⟩)
        go_ret
        exact ⟨ret_bool HV.out.symm, (Below.refl _ _).alloc (Nat.le_refl _) _⟩
      have hyb := Pl.isIn_iff.1 hw2
      by_cases hk0 : k = 0
      · have HV : Hid (Pl.slotP k x y x2 = true) := by show _ = _; rw [hsp.out, hw1, hw2]; simp [hk0]
        have hk1 : decide (0 < k) = false := by simpa using hk0
        clear hk0
        go_wp2_with first
          | (go_at_call 87; refine (l1In_c _ _ _ _).mono ?_; rintro e w' ⟨rfl, rfl⟩)
          | (go_at_call 66; refine (l3Name_c _ _ _ b1).mono ?_; rintro e w' ⟨rfl, rfl⟩)
        go_roundg (n0 - (k + 1))
        case measure => omega
        case rel => exact ⟨rfl, k + 1, Nat.le_refl _, by omega, by go_num, Pl.snocB HU.out (by rw [HS.out, HV.out])⟩
      have hk1 : decide (0 < k) = true := by simp; omega
      by_cases hxz : x2.toList = []
      · have HV := Lib.hid (NO.out (by rw [hsp.out, hxz]; simp [hk0]))
        clear hsp NO HS
        obtain rfl := Pl.ba_nil hxz
        have hkp : 0 < k := by omega
        clear hxz hk0
        go_wp2_with first
          | (go_at_call 87; refine (l1In_c _ _ _ _).mono ?_; rintro e w' ⟨rfl, rfl⟩)
          | (go_at_call 66; refine (l3Name_c _ _ _ b1).mono ?_; rintro e w' ⟨rfl, rfl⟩)
        go_ret
        exact ⟨ret_bool HV.out.symm, (Below.refl _ _).alloc (Nat.le_refl _) _⟩
      have hw4 : x2.toList.isEmpty = false := by simpa using hxz
      cases hw3 : Op.bytesLess x2.toList x.toList
      · skip
        have HV := Lib.hid (NO.out (by rw [hsp.out, hw3]; simp [hk0]))
        go_wp2_with first
          | (go_at_call 87; refine (l1In_c _ _ _ _).mono ?_; rintro e w' ⟨rfl, rfl⟩)
          | (go_at_call 66; refine (l3Name_c _ _ _ b1).mono ?_; rintro e w' ⟨rfl, rfl⟩)
        go_ret
        exact ⟨ret_bool HV.out.symm, (Below.refl _ _).alloc (Nat.le_refl _) _⟩
      · have HV : Hid (Pl.slotP k x y x2 = true) := by show _ = _; rw [hsp.out, hw1, hw2, hw3, hw4]; simp
        go_wp2_with first
          | (go_at_call 87; refine (l1In_c _ _ _ _).mono ?_; rintro e w' ⟨rfl, rfl⟩)
          | (go_at_call 66; refine (l3Name_c _ _ _ b1).mono ?_; rintro e w' ⟨rfl, rfl⟩)
        go_roundg (n0 - (k + 1))
        case measure => omega
        case rel => exact ⟨rfl, k + 1, Nat.le_refl _, by omega, by go_num, Pl.snocB HU.out (by rw [HS.out, HV.out])⟩
    · have HA := Lib.hid (Pl.slots_in (h := h) (by rw [hl0.out, hl1.out]) (fun i hi => HU.out i (by rw [hl0.out] at hi; omega)))
      have hs0 := Pl.sum_bd HA.out (by omega) (by omega)
      rw [hl1.out] at hs0
      have HK := Lib.hid (HL1.out.keep (w' := w.alloc (.cells #[.slice A0 n0 c0, .slice A1 n0 c1, .int .i64 h.Gone, .int .i64 h.Total] 38)) fun b hb => Below.heap_alloc w _ b (by omega))
      have hB1 : B ≤ (w.alloc (.cells #[.slice A0 n0 c0, .slice A1 n0 c1, .int .i64 h.Gone, .int .i64 h.Total] 38)).heap.size := by rw [Mm.sz1]; omega
      go_wp2
      refine wp_region_und (by kernel_rfl) (by kernel_rfl) ?_
      repeat (go_big_quiet_step ((first | (go_at_call 90; exact und_same _ (l12Sum_c h.Counts _ _ _ _ B (HK.out.und hB1 _) (by omega) HA.out)))))
      refine wpQuiet_nil ?_
      intro X hX
      go_wp2
      go_ret
      exact ⟨ret_bool (by rw [HG.out, Pl.allB_yes (fun i hi => HU.out i (by omega)), Pl.beq_dec, Bool.true_and]; exact decide_eq_decide.2 eq_comm), below_step (below_new (Below.refl _ _) _) hX⟩
end Go.Proofs.Ytjmcbggdckfefaa
