/-
  Joined texts, in build order: LwTotalsBy, LawTotalsBy. Each part says what it proves; no conditions beyond those that a part names.
-/
import Derived.Test.YtnppcdiicnofpaaZ01
import Derived.Test.YtnppcdiicnofpaaZ02
import Derived.Test.YtnppcdiicnofpaaZ03
import Derived.Test.YtnppcdiicnofpaaZ04
import Derived.Test.YtnppcdiicnofpaaZ05
import Derived.Test.YtnppcdiicnofpaaZ06
import Derived.Test.YtnppcdiicnofpaaZ07
import Derived.Test.YtnppcdiicnofpaaZ08
import Derived.Test.YtnppcdiicnofpaaRows
import Derived.WalkKit
import Derived.ProofKit
import Derived.OpenShut
import Derived.ShutString
import Derived.ChangeOld
import Derived.Below
/-
  The walk of the law on TotalsBy. No conditions.
-/
namespace Go.Proofs.Ytnppcdiicnofpaa
open Go.RowKit
theorem cntL_leT {α : Type} {f : α → Int} {c : Int} : ∀ l : List α, (∀ x, x ∈ l → f x ≤ c) → Mm.cntL f l ≤ c * (l.length : Int)
  | [], _ => by simp [Mm.cntL]
  | x :: t, h => by
    have h1 := cntL_leT t (fun y hy => h y (List.mem_cons_of_mem _ hy))
    have h2 := h x (List.mem_cons_self)
    rw [Mm.cntL_cons, List.length_cons]
    have : c * ((t.length + 1 : Nat) : Int) = c * (t.length : Int) + c := by push_cast; rw [Int.mul_add, Int.mul_one]
    omega
theorem totals_cnt {l : List Total} (h : Pl.totalsOk l = true) : Mm.cntL Pl.cntTotal l ≤ 50000000 := by
  have hl := Pl.totalsOk_len h
  have h1 := cntL_leT (f := Pl.cntTotal) (c := 100) l (fun x hx => by
    obtain ⟨i, hi, rfl⟩ := List.mem_iff_getElem.1 hx
    have h6 := Pl.labelsOk_len (Pl.totOk_lab (Pl.totalsOk_at h (List.getElem?_eq_getElem hi)))
    have h2 := cntL_leT (f := Pl.cntLabel) (c := 2) l[i].Labels (fun y _ => by unfold Pl.cntLabel; omega)
    unfold Pl.cntTotal
    omega)
  omega
theorem tgood_cnt (l : List Total) : Mm.cntL Pl.cntTotal (Pl.tgood l).1 ≤ 50000000 := by
  unfold Pl.tgood
  split
  · exact totals_cnt (by assumption)
  · simp [Mm.cntL]
theorem tby_cnt (l : List Item) (names : List ByteArray) : Mm.cntL Pl.cntTotal (Pl.tby l names).1 ≤ 50000000 := by
  unfold Pl.tby
  split
  · rename_i h
    rw [Bool.and_eq_true] at h
    exact totals_cnt (Pl.tby_good names h.1)
  · simp [Mm.cntL]
set_option maxRecDepth 100000 in
set_option maxHeartbeats 4000000 in
theorem walk_FnExactTotalsBy (A_l : Option Addr) (n_l c_l : Nat) (l : (List Item)) (A_names : Option Addr) (n_names c_names : Nat) (names : (List ByteArray)) (w : World) (r_l : Mm.SlAt rItem w w.heap.size l A_l n_l c_l) (r_names : Mm.SlAt Mm.str w w.heap.size names A_names n_names c_names) :
    Calls Try.prog 8 #[.slice A_l n_l c_l, .slice A_names n_names c_names] w fun e w' => e = .returned (.bool true) ∧ Below w.heap.size w w' := by
  have hn_l : n_l ≤ maxLen := Nat.le_trans r_l.2.1 r_l.2.2.1
  have zn_l := Pl.szl_nn (f := Pl.szItem) (Pl.szItem_nn) l
  have hn_names : n_names ≤ maxLen := Nat.le_trans r_names.2.1 r_names.2.2.1
  have zn_names := Pl.szl_nn (f := Pl.szStr) (Pl.szStr_nn) names
  have HT0 := Lib.hid (show Below w.heap.size w w from (Below.refl w.heap.size w))
  have HR_l := Lib.hid (r_l.below HT0.out)
  have HB_l := Lib.hid HT0.out.size
  have HR_names := Lib.hid (r_names.below HT0.out)
  have HB_names := Lib.hid HT0.out.size
  clear r_l r_names
  by_cases t_l : (1048576 - (Pl.szl Pl.szItem) l : Int) < 0
  · skip
    go_enter Try.func8, Try.ntmps8
    go_wp2_with fail
    refine (szItemS_c l _ _ _ _ _ w.heap.size HR_l.out HB_l.out (by omega) (by omega)).mono ?_
    rintro e y1 ⟨rfl, hbz⟩
    rw [Pl.szRet_lt (by omega)]
    have HR_l := Lib.hid (HR_l.out.keep fun b hb' => hbz.block b (Nat.lt_of_lt_of_le hb' HB_l.out))
    have HB_l := Lib.hid (Nat.le_trans HB_l.out hbz.size)
    have HR_names := Lib.hid (HR_names.out.keep fun b hb' => hbz.block b (Nat.lt_of_lt_of_le hb' HB_names.out))
    have HB_names := Lib.hid (Nat.le_trans HB_names.out hbz.size)
    have HT2 := Lib.hid (below_step HT0.out hbz)
    clear hbz
    go_wp2
    go_ret
    exact ⟨rfl, HT2.out⟩
  · skip
    by_cases t_names : (1048576 - (Pl.szl Pl.szItem) l - (Pl.szl Pl.szStr) names : Int) < 0
    · skip
      go_enter Try.func8, Try.ntmps8
      go_wp2_with fail
      refine (szItemS_c l _ _ _ _ _ w.heap.size HR_l.out HB_l.out (by omega) (by omega)).mono ?_
      rintro e y3 ⟨rfl, hbz⟩
      rw [Pl.szRet_ge (by omega)]
      have HR_l := Lib.hid (HR_l.out.keep fun b hb' => hbz.block b (Nat.lt_of_lt_of_le hb' HB_l.out))
      have HB_l := Lib.hid (Nat.le_trans HB_l.out hbz.size)
      have HR_names := Lib.hid (HR_names.out.keep fun b hb' => hbz.block b (Nat.lt_of_lt_of_le hb' HB_names.out))
      have HB_names := Lib.hid (Nat.le_trans HB_names.out hbz.size)
      have HT4 := Lib.hid (below_step HT0.out hbz)
      clear hbz
      go_wp2_with fail
      refine (szStringS_c names _ _ _ _ _ w.heap.size HR_names.out HB_names.out (by omega) (by omega)).mono ?_
      rintro e y5 ⟨rfl, hbz⟩
      rw [Pl.szRet_lt (by omega)]
      have HR_l := Lib.hid (HR_l.out.keep fun b hb' => hbz.block b (Nat.lt_of_lt_of_le hb' HB_l.out))
      have HB_l := Lib.hid (Nat.le_trans HB_l.out hbz.size)
      have HR_names := Lib.hid (HR_names.out.keep fun b hb' => hbz.block b (Nat.lt_of_lt_of_le hb' HB_names.out))
      have HB_names := Lib.hid (Nat.le_trans HB_names.out hbz.size)
      have HT6 := Lib.hid (below_step HT4.out hbz)
      clear hbz
      go_wp2
      go_ret
      exact ⟨rfl, HT6.out⟩
    · skip
      go_enter Try.func8, Try.ntmps8
      go_wp2_with fail
      refine (szItemS_c l _ _ _ _ _ w.heap.size HR_l.out HB_l.out (by omega) (by omega)).mono ?_
      rintro e y7 ⟨rfl, hbz⟩
      rw [Pl.szRet_ge (by omega)]
      have HR_l := Lib.hid (HR_l.out.keep fun b hb' => hbz.block b (Nat.lt_of_lt_of_le hb' HB_l.out))
      have HB_l := Lib.hid (Nat.le_trans HB_l.out hbz.size)
      have HR_names := Lib.hid (HR_names.out.keep fun b hb' => hbz.block b (Nat.lt_of_lt_of_le hb' HB_names.out))
      have HB_names := Lib.hid (Nat.le_trans HB_names.out hbz.size)
      have HT8 := Lib.hid (below_step HT0.out hbz)
      clear hbz
      go_wp2_with fail
      refine (szStringS_c names _ _ _ _ _ w.heap.size HR_names.out HB_names.out (by omega) (by omega)).mono ?_
      rintro e y9 ⟨rfl, hbz⟩
      rw [Pl.szRet_ge (by omega)]
      have HR_l := Lib.hid (HR_l.out.keep fun b hb' => hbz.block b (Nat.lt_of_lt_of_le hb' HB_l.out))
      have HB_l := Lib.hid (Nat.le_trans HB_l.out hbz.size)
      have HR_names := Lib.hid (HR_names.out.keep fun b hb' => hbz.block b (Nat.lt_of_lt_of_le hb' HB_names.out))
      have HB_names := Lib.hid (Nat.le_trans HB_names.out hbz.size)
      have HT10 := Lib.hid (below_step HT8.out hbz)
      clear hbz
      go_wp2_with fail
      refine (toItemS_c l _ _ _ _ w.heap.size HR_l.out HB_l.out (by omega)).mono ?_
      rintro e v11 ⟨A11, n11, c11, fp11, rfl, ho11, hnd11, hf11, hbz⟩
      have HR_l := Lib.hid (HR_l.out.keep fun b hb' => hbz.block b (Nat.lt_of_lt_of_le hb' HB_l.out))
      have HB_l := Lib.hid (Nat.le_trans HB_l.out hbz.size)
      have HR_names := Lib.hid (HR_names.out.keep fun b hb' => hbz.block b (Nat.lt_of_lt_of_le hb' HB_names.out))
      have HB_names := Lib.hid (Nat.le_trans HB_names.out hbz.size)
      have HT12 := Lib.hid (below_step HT10.out hbz)
      have HXs_l := Lib.hid (ho11.weak (B := v11.heap.size) ho11.olt)
      have HXs_l_s := Lib.hid (Nat.le_refl v11.heap.size)
      clear ho11 hnd11 hf11
      clear hbz
      go_wp2_with fail
      refine (toStringS_c names _ _ _ _ w.heap.size HR_names.out HB_names.out (by omega)).mono ?_
      rintro e v13 ⟨A13, n13, c13, fp13, rfl, ho13, hnd13, hf13, hbz⟩
      have HR_l := Lib.hid (HR_l.out.keep fun b hb' => hbz.block b (Nat.lt_of_lt_of_le hb' HB_l.out))
      have HB_l := Lib.hid (Nat.le_trans HB_l.out hbz.size)
      have HR_names := Lib.hid (HR_names.out.keep fun b hb' => hbz.block b (Nat.lt_of_lt_of_le hb' HB_names.out))
      have HB_names := Lib.hid (Nat.le_trans HB_names.out hbz.size)
      have HXs_l := Lib.hid (HXs_l.out.keep fun b hb' => hbz.block b (Nat.lt_of_lt_of_le hb' HXs_l_s.out))
      have HXs_l_s := Lib.hid (Nat.le_trans HXs_l_s.out hbz.size)
      have HT14 := Lib.hid (below_step HT12.out hbz)
      have HXs_names := Lib.hid (ho13.weak (B := v13.heap.size) ho13.olt)
      have HXs_names_s := Lib.hid (Nat.le_refl v13.heap.size)
      clear ho13 hnd13 hf13
      clear hbz
      go_wp2_with fail
      refine (specTotalsBy_c l _ _ _ names _ _ _ _ _ (HXs_l.out.more HXs_l_s.out) (HXs_names.out.more HXs_names_s.out) (Nat.le_refl _)).mono ?_
      rintro e v15 ⟨A15, n15, c15, fp15, rfl, ho15, hnd15, hf15, hbz⟩
      have HR_l := Lib.hid (HR_l.out.keep fun b hb' => hbz.block b (Nat.lt_of_lt_of_le hb' HB_l.out))
      have HB_l := Lib.hid (Nat.le_trans HB_l.out hbz.size)
      have HR_names := Lib.hid (HR_names.out.keep fun b hb' => hbz.block b (Nat.lt_of_lt_of_le hb' HB_names.out))
      have HB_names := Lib.hid (Nat.le_trans HB_names.out hbz.size)
      have HXs_l := Lib.hid (HXs_l.out.keep fun b hb' => hbz.block b (Nat.lt_of_lt_of_le hb' HXs_l_s.out))
      have HXs_l_s := Lib.hid (Nat.le_trans HXs_l_s.out hbz.size)
      have HXs_names := Lib.hid (HXs_names.out.keep fun b hb' => hbz.block b (Nat.lt_of_lt_of_le hb' HXs_names_s.out))
      have HXs_names_s := Lib.hid (Nat.le_trans HXs_names_s.out hbz.size)
      have HT16 := Lib.hid (below_step HT14.out hbz)
      have HW0 := Lib.hid (ho15.weak (B := v15.heap.size) ho15.olt)
      have HW0_s := Lib.hid (Nat.le_refl v15.heap.size)
      clear ho15 hnd15 hf15
      clear hbz
      go_wp2_with fail
      refine (toItemS_c l _ _ _ _ w.heap.size HR_l.out HB_l.out (by omega)).mono ?_
      rintro e v17 ⟨A17, n17, c17, fp17, rfl, ho17, hnd17, hf17, hbz⟩
      have AP17_HR_l := Lib.hid (show ∀ b, b ∈ fp17 → w.heap.size ≤ b from fun b hb' => Nat.le_trans HB_l.out (hf17 b hb'))
      have AP17_HR_names := Lib.hid (show ∀ b, b ∈ fp17 → w.heap.size ≤ b from fun b hb' => Nat.le_trans HB_names.out (hf17 b hb'))
      have AP17_HW0 := Lib.hid (show ∀ b, b ∈ fp17 → v15.heap.size ≤ b from fun b hb' => Nat.le_trans HW0_s.out (hf17 b hb'))
      have FR17 := Lib.hid (show ∀ b, b ∈ fp17 → w.heap.size ≤ b from fun b hb' => Nat.le_trans HT16.out.size (hf17 b hb'))
      have ND17 := Lib.hid hnd17
      have LT17 := Lib.hid (show ∀ b, b ∈ fp17 → b < v17.heap.size from ho17.olt)
      have HR_l := Lib.hid (HR_l.out.keep fun b hb' => hbz.block b (Nat.lt_of_lt_of_le hb' HB_l.out))
      have HB_l := Lib.hid (Nat.le_trans HB_l.out hbz.size)
      have HR_names := Lib.hid (HR_names.out.keep fun b hb' => hbz.block b (Nat.lt_of_lt_of_le hb' HB_names.out))
      have HB_names := Lib.hid (Nat.le_trans HB_names.out hbz.size)
      have HW0 := Lib.hid (HW0.out.keep fun b hb' => hbz.block b (Nat.lt_of_lt_of_le hb' HW0_s.out))
      have HW0_s := Lib.hid (Nat.le_trans HW0_s.out hbz.size)
      have HT18 := Lib.hid (below_step HT16.out hbz)
      have HXx_l := Lib.hid (ho17.weak (B := v17.heap.size) ho17.olt)
      have HXx_l_s := Lib.hid (Nat.le_refl v17.heap.size)
      have OX_l := Lib.hid ho17
      clear ho17 hnd17 hf17
      clear hbz
      go_wp2_with fail
      refine (toStringS_c names _ _ _ _ w.heap.size HR_names.out HB_names.out (by omega)).mono ?_
      rintro e v19 ⟨A19, n19, c19, fp19, rfl, ho19, hnd19, hf19, hbz⟩
      have AP19_HR_l := Lib.hid (show ∀ b, b ∈ fp19 → w.heap.size ≤ b from fun b hb' => Nat.le_trans HB_l.out (hf19 b hb'))
      have AP19_HR_names := Lib.hid (show ∀ b, b ∈ fp19 → w.heap.size ≤ b from fun b hb' => Nat.le_trans HB_names.out (hf19 b hb'))
      have AP19_HW0 := Lib.hid (show ∀ b, b ∈ fp19 → v15.heap.size ≤ b from fun b hb' => Nat.le_trans HW0_s.out (hf19 b hb'))
      have AP19_HXx_l := Lib.hid (show ∀ b, b ∈ fp19 → v17.heap.size ≤ b from fun b hb' => Nat.le_trans HXx_l_s.out (hf19 b hb'))
      have DP19_OX_l := Lib.hid (show ∀ b, b ∈ fp19 → b ∉ fp17 from fun b hb' hm => by have := OX_l.out.olt b hm; have := hf19 b hb'; omega)
      have FR19 := Lib.hid (show ∀ b, b ∈ fp19 → w.heap.size ≤ b from fun b hb' => Nat.le_trans HT18.out.size (hf19 b hb'))
      have ND19 := Lib.hid hnd19
      have LT19 := Lib.hid (show ∀ b, b ∈ fp19 → b < v19.heap.size from ho19.olt)
      have HR_l := Lib.hid (HR_l.out.keep fun b hb' => hbz.block b (Nat.lt_of_lt_of_le hb' HB_l.out))
      have HB_l := Lib.hid (Nat.le_trans HB_l.out hbz.size)
      have HR_names := Lib.hid (HR_names.out.keep fun b hb' => hbz.block b (Nat.lt_of_lt_of_le hb' HB_names.out))
      have HB_names := Lib.hid (Nat.le_trans HB_names.out hbz.size)
      have HW0 := Lib.hid (HW0.out.keep fun b hb' => hbz.block b (Nat.lt_of_lt_of_le hb' HW0_s.out))
      have HW0_s := Lib.hid (Nat.le_trans HW0_s.out hbz.size)
      have HXx_l := Lib.hid (HXx_l.out.keep fun b hb' => hbz.block b (Nat.lt_of_lt_of_le hb' HXx_l_s.out))
      have HXx_l_s := Lib.hid (Nat.le_trans HXx_l_s.out hbz.size)
      have OX_l := Lib.hid (OX_l.out.okeep fun b hb' => hbz.block b (OX_l.out.olt b hb'))
      have HT20 := Lib.hid (below_step HT18.out hbz)
      have HXx_names := Lib.hid (ho19.weak (B := v19.heap.size) ho19.olt)
      have HXx_names_s := Lib.hid (Nat.le_refl v19.heap.size)
      have OX_names := Lib.hid ho19
      clear ho19 hnd19 hf19
      clear hbz
      go_wp2_with fail
      refine (implTotalsBy_c l _ _ _ names _ _ _ _ _ (HXx_l.out.more HXx_l_s.out) (HXx_names.out.more HXx_names_s.out) (Nat.le_refl _)).mono ?_
      rintro e v21 ⟨A21, n21, c21, fp21, rfl, ho21, hnd21, hf21, hbz⟩
      have AP21_HR_l := Lib.hid (show ∀ b, b ∈ fp21 → w.heap.size ≤ b from fun b hb' => Nat.le_trans HB_l.out (hf21 b hb'))
      have AP21_HR_names := Lib.hid (show ∀ b, b ∈ fp21 → w.heap.size ≤ b from fun b hb' => Nat.le_trans HB_names.out (hf21 b hb'))
      have AP21_HW0 := Lib.hid (show ∀ b, b ∈ fp21 → v15.heap.size ≤ b from fun b hb' => Nat.le_trans HW0_s.out (hf21 b hb'))
      have AP21_HXx_l := Lib.hid (show ∀ b, b ∈ fp21 → v17.heap.size ≤ b from fun b hb' => Nat.le_trans HXx_l_s.out (hf21 b hb'))
      have AP21_HXx_names := Lib.hid (show ∀ b, b ∈ fp21 → v19.heap.size ≤ b from fun b hb' => Nat.le_trans HXx_names_s.out (hf21 b hb'))
      have DP21_OX_l := Lib.hid (show ∀ b, b ∈ fp21 → b ∉ fp17 from fun b hb' hm => by have := OX_l.out.olt b hm; have := hf21 b hb'; omega)
      have DP21_OX_names := Lib.hid (show ∀ b, b ∈ fp21 → b ∉ fp19 from fun b hb' hm => by have := OX_names.out.olt b hm; have := hf21 b hb'; omega)
      have FR21 := Lib.hid (show ∀ b, b ∈ fp21 → w.heap.size ≤ b from fun b hb' => Nat.le_trans HT20.out.size (hf21 b hb'))
      have ND21 := Lib.hid hnd21
      have LT21 := Lib.hid (show ∀ b, b ∈ fp21 → b < v21.heap.size from ho21.olt)
      have HR_l := Lib.hid (HR_l.out.keep fun b hb' => hbz.block b (Nat.lt_of_lt_of_le hb' HB_l.out))
      have HB_l := Lib.hid (Nat.le_trans HB_l.out hbz.size)
      have HR_names := Lib.hid (HR_names.out.keep fun b hb' => hbz.block b (Nat.lt_of_lt_of_le hb' HB_names.out))
      have HB_names := Lib.hid (Nat.le_trans HB_names.out hbz.size)
      have HW0 := Lib.hid (HW0.out.keep fun b hb' => hbz.block b (Nat.lt_of_lt_of_le hb' HW0_s.out))
      have HW0_s := Lib.hid (Nat.le_trans HW0_s.out hbz.size)
      have HXx_l := Lib.hid (HXx_l.out.keep fun b hb' => hbz.block b (Nat.lt_of_lt_of_le hb' HXx_l_s.out))
      have HXx_l_s := Lib.hid (Nat.le_trans HXx_l_s.out hbz.size)
      have HXx_names := Lib.hid (HXx_names.out.keep fun b hb' => hbz.block b (Nat.lt_of_lt_of_le hb' HXx_names_s.out))
      have HXx_names_s := Lib.hid (Nat.le_trans HXx_names_s.out hbz.size)
      have OX_l := Lib.hid (OX_l.out.okeep fun b hb' => hbz.block b (OX_l.out.olt b hb'))
      have OX_names := Lib.hid (OX_names.out.okeep fun b hb' => hbz.block b (OX_names.out.olt b hb'))
      have HT22 := Lib.hid (below_step HT20.out hbz)
      have OG := Lib.hid ho21
      clear ho21 hnd21 hf21
      clear hbz
      go_wp2_with fail
      refine (eqTotalS_c (Pl.tby l names).1 _ _ _ _ _ _ _ _ (OG.out.weak (B := _) OG.out.olt) (HW0.out.more HW0_s.out) (Nat.le_refl _)).mono ?_
      rintro e v23 ⟨rfl, hbz⟩
      have HR_l := Lib.hid (HR_l.out.keep fun b hb' => hbz.block b (Nat.lt_of_lt_of_le hb' HB_l.out))
      have HB_l := Lib.hid (Nat.le_trans HB_l.out hbz.size)
      have HR_names := Lib.hid (HR_names.out.keep fun b hb' => hbz.block b (Nat.lt_of_lt_of_le hb' HB_names.out))
      have HB_names := Lib.hid (Nat.le_trans HB_names.out hbz.size)
      have HW0 := Lib.hid (HW0.out.keep fun b hb' => hbz.block b (Nat.lt_of_lt_of_le hb' HW0_s.out))
      have HW0_s := Lib.hid (Nat.le_trans HW0_s.out hbz.size)
      have HXx_l := Lib.hid (HXx_l.out.keep fun b hb' => hbz.block b (Nat.lt_of_lt_of_le hb' HXx_l_s.out))
      have HXx_l_s := Lib.hid (Nat.le_trans HXx_l_s.out hbz.size)
      have HXx_names := Lib.hid (HXx_names.out.keep fun b hb' => hbz.block b (Nat.lt_of_lt_of_le hb' HXx_names_s.out))
      have HXx_names_s := Lib.hid (Nat.le_trans HXx_names_s.out hbz.size)
      have OX_l := Lib.hid (OX_l.out.okeep fun b hb' => hbz.block b (OX_l.out.olt b hb'))
      have OX_names := Lib.hid (OX_names.out.okeep fun b hb' => hbz.block b (OX_names.out.olt b hb'))
      have OG := Lib.hid (OG.out.okeep fun b hb' => hbz.block b (OG.out.olt b hb'))
      have HT24 := Lib.hid (below_step HT22.out hbz)
      clear hbz
      go_wp2_with fail
      refine (toItemS_c l _ _ _ _ w.heap.size HR_l.out HB_l.out (by omega)).mono ?_
      rintro e v25 ⟨A25, n25, c25, fp25, rfl, ho25, hnd25, hf25, hbz⟩
      have HR_l := Lib.hid (HR_l.out.keep fun b hb' => hbz.block b (Nat.lt_of_lt_of_le hb' HB_l.out))
      have HB_l := Lib.hid (Nat.le_trans HB_l.out hbz.size)
      have HR_names := Lib.hid (HR_names.out.keep fun b hb' => hbz.block b (Nat.lt_of_lt_of_le hb' HB_names.out))
      have HB_names := Lib.hid (Nat.le_trans HB_names.out hbz.size)
      have HW0 := Lib.hid (HW0.out.keep fun b hb' => hbz.block b (Nat.lt_of_lt_of_le hb' HW0_s.out))
      have HW0_s := Lib.hid (Nat.le_trans HW0_s.out hbz.size)
      have HXx_l := Lib.hid (HXx_l.out.keep fun b hb' => hbz.block b (Nat.lt_of_lt_of_le hb' HXx_l_s.out))
      have HXx_l_s := Lib.hid (Nat.le_trans HXx_l_s.out hbz.size)
      have HXx_names := Lib.hid (HXx_names.out.keep fun b hb' => hbz.block b (Nat.lt_of_lt_of_le hb' HXx_names_s.out))
      have HXx_names_s := Lib.hid (Nat.le_trans HXx_names_s.out hbz.size)
      have OX_l := Lib.hid (OX_l.out.okeep fun b hb' => hbz.block b (OX_l.out.olt b hb'))
      have OX_names := Lib.hid (OX_names.out.okeep fun b hb' => hbz.block b (OX_names.out.olt b hb'))
      have OG := Lib.hid (OG.out.okeep fun b hb' => hbz.block b (OG.out.olt b hb'))
      have HT26 := Lib.hid (below_step HT24.out hbz)
      have HXz_l := Lib.hid (ho25.weak (B := v25.heap.size) ho25.olt)
      have HXz_l_s := Lib.hid (Nat.le_refl v25.heap.size)
      clear ho25 hnd25 hf25
      clear hbz
      go_wp2_with fail
      refine (eqItemS_c l _ _ _ _ _ _ _ v25.heap.size (HXx_l.out.more HXx_l_s.out) HXz_l.out (Nat.le_refl _)).mono ?_
      rintro e v27 ⟨rfl, hbz⟩
      have HR_l := Lib.hid (HR_l.out.keep fun b hb' => hbz.block b (Nat.lt_of_lt_of_le hb' HB_l.out))
      have HB_l := Lib.hid (Nat.le_trans HB_l.out hbz.size)
      have HR_names := Lib.hid (HR_names.out.keep fun b hb' => hbz.block b (Nat.lt_of_lt_of_le hb' HB_names.out))
      have HB_names := Lib.hid (Nat.le_trans HB_names.out hbz.size)
      have HW0 := Lib.hid (HW0.out.keep fun b hb' => hbz.block b (Nat.lt_of_lt_of_le hb' HW0_s.out))
      have HW0_s := Lib.hid (Nat.le_trans HW0_s.out hbz.size)
      have HXx_l := Lib.hid (HXx_l.out.keep fun b hb' => hbz.block b (Nat.lt_of_lt_of_le hb' HXx_l_s.out))
      have HXx_l_s := Lib.hid (Nat.le_trans HXx_l_s.out hbz.size)
      have HXx_names := Lib.hid (HXx_names.out.keep fun b hb' => hbz.block b (Nat.lt_of_lt_of_le hb' HXx_names_s.out))
      have HXx_names_s := Lib.hid (Nat.le_trans HXx_names_s.out hbz.size)
      have HXz_l := Lib.hid (HXz_l.out.keep fun b hb' => hbz.block b (Nat.lt_of_lt_of_le hb' HXz_l_s.out))
      have HXz_l_s := Lib.hid (Nat.le_trans HXz_l_s.out hbz.size)
      have OX_l := Lib.hid (OX_l.out.okeep fun b hb' => hbz.block b (OX_l.out.olt b hb'))
      have OX_names := Lib.hid (OX_names.out.okeep fun b hb' => hbz.block b (OX_names.out.olt b hb'))
      have OG := Lib.hid (OG.out.okeep fun b hb' => hbz.block b (OG.out.olt b hb'))
      have HT28 := Lib.hid (below_step HT26.out hbz)
      clear hbz
      go_wp2_with fail
      refine (toStringS_c names _ _ _ _ w.heap.size HR_names.out HB_names.out (by omega)).mono ?_
      rintro e v29 ⟨A29, n29, c29, fp29, rfl, ho29, hnd29, hf29, hbz⟩
      have HR_l := Lib.hid (HR_l.out.keep fun b hb' => hbz.block b (Nat.lt_of_lt_of_le hb' HB_l.out))
      have HB_l := Lib.hid (Nat.le_trans HB_l.out hbz.size)
      have HR_names := Lib.hid (HR_names.out.keep fun b hb' => hbz.block b (Nat.lt_of_lt_of_le hb' HB_names.out))
      have HB_names := Lib.hid (Nat.le_trans HB_names.out hbz.size)
      have HW0 := Lib.hid (HW0.out.keep fun b hb' => hbz.block b (Nat.lt_of_lt_of_le hb' HW0_s.out))
      have HW0_s := Lib.hid (Nat.le_trans HW0_s.out hbz.size)
      have HXx_l := Lib.hid (HXx_l.out.keep fun b hb' => hbz.block b (Nat.lt_of_lt_of_le hb' HXx_l_s.out))
      have HXx_l_s := Lib.hid (Nat.le_trans HXx_l_s.out hbz.size)
      have HXx_names := Lib.hid (HXx_names.out.keep fun b hb' => hbz.block b (Nat.lt_of_lt_of_le hb' HXx_names_s.out))
      have HXx_names_s := Lib.hid (Nat.le_trans HXx_names_s.out hbz.size)
      have OX_l := Lib.hid (OX_l.out.okeep fun b hb' => hbz.block b (OX_l.out.olt b hb'))
      have OX_names := Lib.hid (OX_names.out.okeep fun b hb' => hbz.block b (OX_names.out.olt b hb'))
      have OG := Lib.hid (OG.out.okeep fun b hb' => hbz.block b (OG.out.olt b hb'))
      have HT30 := Lib.hid (below_step HT28.out hbz)
      have HXz_names := Lib.hid (ho29.weak (B := v29.heap.size) ho29.olt)
      have HXz_names_s := Lib.hid (Nat.le_refl v29.heap.size)
      clear ho29 hnd29 hf29
      clear hbz
      go_wp2_with fail
      refine (eqStringS_c names _ _ _ _ _ _ _ v29.heap.size (HXx_names.out.more HXx_names_s.out) HXz_names.out (Nat.le_refl _)).mono ?_
      rintro e v31 ⟨rfl, hbz⟩
      have HR_l := Lib.hid (HR_l.out.keep fun b hb' => hbz.block b (Nat.lt_of_lt_of_le hb' HB_l.out))
      have HB_l := Lib.hid (Nat.le_trans HB_l.out hbz.size)
      have HR_names := Lib.hid (HR_names.out.keep fun b hb' => hbz.block b (Nat.lt_of_lt_of_le hb' HB_names.out))
      have HB_names := Lib.hid (Nat.le_trans HB_names.out hbz.size)
      have HW0 := Lib.hid (HW0.out.keep fun b hb' => hbz.block b (Nat.lt_of_lt_of_le hb' HW0_s.out))
      have HW0_s := Lib.hid (Nat.le_trans HW0_s.out hbz.size)
      have HXx_l := Lib.hid (HXx_l.out.keep fun b hb' => hbz.block b (Nat.lt_of_lt_of_le hb' HXx_l_s.out))
      have HXx_l_s := Lib.hid (Nat.le_trans HXx_l_s.out hbz.size)
      have HXx_names := Lib.hid (HXx_names.out.keep fun b hb' => hbz.block b (Nat.lt_of_lt_of_le hb' HXx_names_s.out))
      have HXx_names_s := Lib.hid (Nat.le_trans HXx_names_s.out hbz.size)
      have HXz_names := Lib.hid (HXz_names.out.keep fun b hb' => hbz.block b (Nat.lt_of_lt_of_le hb' HXz_names_s.out))
      have HXz_names_s := Lib.hid (Nat.le_trans HXz_names_s.out hbz.size)
      have OX_l := Lib.hid (OX_l.out.okeep fun b hb' => hbz.block b (OX_l.out.olt b hb'))
      have OX_names := Lib.hid (OX_names.out.okeep fun b hb' => hbz.block b (OX_names.out.olt b hb'))
      have OG := Lib.hid (OG.out.okeep fun b hb' => hbz.block b (OG.out.olt b hb'))
      have HT32 := Lib.hid (below_step HT30.out hbz)
      clear hbz
      have hcn_l := Mm.cntL_nn (cnt := Pl.cntItem) (Pl.cntItem_nn) l
      have hcb_l : (Mm.cntL Pl.cntItem) l ≤ 50000000 := by have := Pl.cntLb (cnt := Pl.cntItem) (f := Pl.szItem) (Pl.cntbItem) l; omega
      have hcn_names := Mm.cntL_nn (cnt := Pl.cnt1) (Pl.cnt1_nn) names
      have hcb_names : (Mm.cntL Pl.cnt1) names ≤ 50000000 := by have := Pl.cntLb (cnt := Pl.cnt1) (f := Pl.szStr) (fun x => by have := Pl.szStr_nn x; unfold Pl.cnt1; omega) names; omega
      go_wp2_with fail
      refine (markItemS_c l _ _ _ _ _ _ OX_l.out ND17.out (by omega) (by omega)).mono ?_
      rintro e v33 ⟨rfl, hch, -⟩
      have HR_l := Lib.hid (HR_l.out.keep fun b hb' => hch.block b (Nat.lt_of_lt_of_le hb' HB_l.out) (fun hm => by have := AP17_HR_l.out b hm; omega))
      have HB_l := Lib.hid (Nat.le_trans HB_l.out hch.size)
      have HR_names := Lib.hid (HR_names.out.keep fun b hb' => hch.block b (Nat.lt_of_lt_of_le hb' HB_names.out) (fun hm => by have := AP17_HR_names.out b hm; omega))
      have HB_names := Lib.hid (Nat.le_trans HB_names.out hch.size)
      have HW0 := Lib.hid (HW0.out.keep fun b hb' => hch.block b (Nat.lt_of_lt_of_le hb' HW0_s.out) (fun hm => by have := AP17_HW0.out b hm; omega))
      have HW0_s := Lib.hid (Nat.le_trans HW0_s.out hch.size)
      have OX_names := Lib.hid (OX_names.out.okeep fun b hb' => hch.block b (OX_names.out.olt b hb') (fun hm => DP19_OX_l.out b hb' hm))
      have OG := Lib.hid (OG.out.okeep fun b hb' => hch.block b (OG.out.olt b hb') (fun hm => DP21_OX_l.out b hb' hm))
      have HT34 := Lib.hid (Mm.Below.chg HT32.out hch HT32.out.size FR17.out)
      clear hch
      go_wp2_with fail
      refine (markStringS_c names _ _ _ _ _ _ OX_names.out ND19.out (by omega) (by omega)).mono ?_
      rintro e v35 ⟨rfl, hch, -⟩
      have HR_l := Lib.hid (HR_l.out.keep fun b hb' => hch.block b (Nat.lt_of_lt_of_le hb' HB_l.out) (fun hm => by have := AP19_HR_l.out b hm; omega))
      have HB_l := Lib.hid (Nat.le_trans HB_l.out hch.size)
      have HR_names := Lib.hid (HR_names.out.keep fun b hb' => hch.block b (Nat.lt_of_lt_of_le hb' HB_names.out) (fun hm => by have := AP19_HR_names.out b hm; omega))
      have HB_names := Lib.hid (Nat.le_trans HB_names.out hch.size)
      have HW0 := Lib.hid (HW0.out.keep fun b hb' => hch.block b (Nat.lt_of_lt_of_le hb' HW0_s.out) (fun hm => by have := AP19_HW0.out b hm; omega))
      have HW0_s := Lib.hid (Nat.le_trans HW0_s.out hch.size)
      have OG := Lib.hid (OG.out.okeep fun b hb' => hch.block b (OG.out.olt b hb') (fun hm => DP21_OX_names.out b hb' hm))
      have HT36 := Lib.hid (Mm.Below.chg HT34.out hch HT34.out.size FR19.out)
      clear hch
      go_wp2_with fail
      refine (eqTotalS_c (Pl.tby l names).1 _ _ _ _ _ _ _ _ (OG.out.weak (B := _) OG.out.olt) (HW0.out.more HW0_s.out) (Nat.le_refl _)).mono ?_
      rintro e v37 ⟨rfl, hbz⟩
      have HR_l := Lib.hid (HR_l.out.keep fun b hb' => hbz.block b (Nat.lt_of_lt_of_le hb' HB_l.out))
      have HB_l := Lib.hid (Nat.le_trans HB_l.out hbz.size)
      have HR_names := Lib.hid (HR_names.out.keep fun b hb' => hbz.block b (Nat.lt_of_lt_of_le hb' HB_names.out))
      have HB_names := Lib.hid (Nat.le_trans HB_names.out hbz.size)
      have HW0 := Lib.hid (HW0.out.keep fun b hb' => hbz.block b (Nat.lt_of_lt_of_le hb' HW0_s.out))
      have HW0_s := Lib.hid (Nat.le_trans HW0_s.out hbz.size)
      have OG := Lib.hid (OG.out.okeep fun b hb' => hbz.block b (OG.out.olt b hb'))
      have HT38 := Lib.hid (below_step HT36.out hbz)
      clear hbz
      have hcg : 0 ≤ (Mm.cntL Pl.cntTotal) (Pl.tby l names).1 := Mm.cntL_nn (cnt := Pl.cntTotal) (Pl.cntTotal_nn) (Pl.tby l names).1
      have hcgb : (Mm.cntL Pl.cntTotal) (Pl.tby l names).1 ≤ 50000000 := (tby_cnt l names)
      obtain ⟨cg, hcge⟩ : ∃ z, (Mm.cntL Pl.cntTotal) (Pl.tby l names).1 = z := ⟨_, rfl⟩
      rw [hcge] at hcg hcgb
      have HCG := Lib.hid hcge
      clear hcge
      go_wp2_with fail
      refine (markTotalS_c (Pl.tby l names).1 _ _ _ _ _ _ OG.out ND21.out (by omega) (by rw [HCG.out]; omega)).mono ?_
      rintro e v39 ⟨rfl, hch, fpm, hom, hndm, hsubm⟩
      rw [HCG.out]
      have HR_l := Lib.hid (HR_l.out.keep fun b hb' => hch.block b (Nat.lt_of_lt_of_le hb' HB_l.out) (fun hm => by have := AP21_HR_l.out b hm; omega))
      have HB_l := Lib.hid (Nat.le_trans HB_l.out hch.size)
      have HR_names := Lib.hid (HR_names.out.keep fun b hb' => hch.block b (Nat.lt_of_lt_of_le hb' HB_names.out) (fun hm => by have := AP21_HR_names.out b hm; omega))
      have HB_names := Lib.hid (Nat.le_trans HB_names.out hch.size)
      have HW0 := Lib.hid (HW0.out.keep fun b hb' => hch.block b (Nat.lt_of_lt_of_le hb' HW0_s.out) (fun hm => by have := AP21_HW0.out b hm; omega))
      have HW0_s := Lib.hid (Nat.le_trans HW0_s.out hch.size)
      have HT40 := Lib.hid (Mm.Below.chg HT38.out hch HT38.out.size FR21.out)
      clear hch
      have OM := Lib.hid hom
      clear hom hndm hsubm
      go_wp2_with fail
      refine (heldTotalS_c (Pl.tby l names).1 _ _ _ _ _ _ (OM.out.weak (B := _) OM.out.olt) (Nat.le_refl _) (by omega) (by rw [HCG.out]; omega)).mono ?_
      rintro e v41 ⟨rfl, hbz⟩
      rw [HCG.out]
      have HR_l := Lib.hid (HR_l.out.keep fun b hb' => hbz.block b (Nat.lt_of_lt_of_le hb' HB_l.out))
      have HB_l := Lib.hid (Nat.le_trans HB_l.out hbz.size)
      have HR_names := Lib.hid (HR_names.out.keep fun b hb' => hbz.block b (Nat.lt_of_lt_of_le hb' HB_names.out))
      have HB_names := Lib.hid (Nat.le_trans HB_names.out hbz.size)
      have HW0 := Lib.hid (HW0.out.keep fun b hb' => hbz.block b (Nat.lt_of_lt_of_le hb' HW0_s.out))
      have HW0_s := Lib.hid (Nat.le_trans HW0_s.out hbz.size)
      have OM := Lib.hid (OM.out.okeep fun b hb' => hbz.block b (OM.out.olt b hb'))
      have HT42 := Lib.hid (below_step HT40.out hbz)
      clear hbz
      go_wp2_with fail
      refine (toItemS_c l _ _ _ _ w.heap.size HR_l.out HB_l.out (by omega)).mono ?_
      rintro e v43 ⟨A43, n43, c43, fp43, rfl, ho43, hnd43, hf43, hbz⟩
      have HR_l := Lib.hid (HR_l.out.keep fun b hb' => hbz.block b (Nat.lt_of_lt_of_le hb' HB_l.out))
      have HB_l := Lib.hid (Nat.le_trans HB_l.out hbz.size)
      have HR_names := Lib.hid (HR_names.out.keep fun b hb' => hbz.block b (Nat.lt_of_lt_of_le hb' HB_names.out))
      have HB_names := Lib.hid (Nat.le_trans HB_names.out hbz.size)
      have HW0 := Lib.hid (HW0.out.keep fun b hb' => hbz.block b (Nat.lt_of_lt_of_le hb' HW0_s.out))
      have HW0_s := Lib.hid (Nat.le_trans HW0_s.out hbz.size)
      have OM := Lib.hid (OM.out.okeep fun b hb' => hbz.block b (OM.out.olt b hb'))
      have HT44 := Lib.hid (below_step HT42.out hbz)
      have HXh_l := Lib.hid (ho43.weak (B := v43.heap.size) ho43.olt)
      have HXh_l_s := Lib.hid (Nat.le_refl v43.heap.size)
      clear ho43 hnd43 hf43
      clear hbz
      go_wp2_with fail
      refine (toStringS_c names _ _ _ _ w.heap.size HR_names.out HB_names.out (by omega)).mono ?_
      rintro e v45 ⟨A45, n45, c45, fp45, rfl, ho45, hnd45, hf45, hbz⟩
      have HR_l := Lib.hid (HR_l.out.keep fun b hb' => hbz.block b (Nat.lt_of_lt_of_le hb' HB_l.out))
      have HB_l := Lib.hid (Nat.le_trans HB_l.out hbz.size)
      have HR_names := Lib.hid (HR_names.out.keep fun b hb' => hbz.block b (Nat.lt_of_lt_of_le hb' HB_names.out))
      have HB_names := Lib.hid (Nat.le_trans HB_names.out hbz.size)
      have HW0 := Lib.hid (HW0.out.keep fun b hb' => hbz.block b (Nat.lt_of_lt_of_le hb' HW0_s.out))
      have HW0_s := Lib.hid (Nat.le_trans HW0_s.out hbz.size)
      have HXh_l := Lib.hid (HXh_l.out.keep fun b hb' => hbz.block b (Nat.lt_of_lt_of_le hb' HXh_l_s.out))
      have HXh_l_s := Lib.hid (Nat.le_trans HXh_l_s.out hbz.size)
      have OM := Lib.hid (OM.out.okeep fun b hb' => hbz.block b (OM.out.olt b hb'))
      have HT46 := Lib.hid (below_step HT44.out hbz)
      have HXh_names := Lib.hid (ho45.weak (B := v45.heap.size) ho45.olt)
      have HXh_names_s := Lib.hid (Nat.le_refl v45.heap.size)
      clear ho45 hnd45 hf45
      clear hbz
      go_wp2_with fail
      refine (implTotalsBy_c l _ _ _ names _ _ _ _ _ (HXh_l.out.more HXh_l_s.out) (HXh_names.out.more HXh_names_s.out) (Nat.le_refl _)).mono ?_
      rintro e v47 ⟨A47, n47, c47, fp47, rfl, ho47, hnd47, hf47, hbz⟩
      have HR_l := Lib.hid (HR_l.out.keep fun b hb' => hbz.block b (Nat.lt_of_lt_of_le hb' HB_l.out))
      have HB_l := Lib.hid (Nat.le_trans HB_l.out hbz.size)
      have HR_names := Lib.hid (HR_names.out.keep fun b hb' => hbz.block b (Nat.lt_of_lt_of_le hb' HB_names.out))
      have HB_names := Lib.hid (Nat.le_trans HB_names.out hbz.size)
      have HW0 := Lib.hid (HW0.out.keep fun b hb' => hbz.block b (Nat.lt_of_lt_of_le hb' HW0_s.out))
      have HW0_s := Lib.hid (Nat.le_trans HW0_s.out hbz.size)
      have HXh_l := Lib.hid (HXh_l.out.keep fun b hb' => hbz.block b (Nat.lt_of_lt_of_le hb' HXh_l_s.out))
      have HXh_l_s := Lib.hid (Nat.le_trans HXh_l_s.out hbz.size)
      have HXh_names := Lib.hid (HXh_names.out.keep fun b hb' => hbz.block b (Nat.lt_of_lt_of_le hb' HXh_names_s.out))
      have HXh_names_s := Lib.hid (Nat.le_trans HXh_names_s.out hbz.size)
      have OM := Lib.hid (OM.out.okeep fun b hb' => hbz.block b (OM.out.olt b hb'))
      have HT48 := Lib.hid (below_step HT46.out hbz)
      have HH := Lib.hid (ho47.weak (B := v47.heap.size) ho47.olt)
      have HH_s := Lib.hid (Nat.le_refl v47.heap.size)
      clear ho47 hnd47 hf47
      clear hbz
      go_wp2_with fail
      refine (eqTotalS_c (Pl.tby l names).1 _ _ _ _ _ _ _ _ (HH.out.more HH_s.out) (HW0.out.more HW0_s.out) (Nat.le_refl _)).mono ?_
      rintro e v49 ⟨rfl, hbz⟩
      have HR_l := Lib.hid (HR_l.out.keep fun b hb' => hbz.block b (Nat.lt_of_lt_of_le hb' HB_l.out))
      have HB_l := Lib.hid (Nat.le_trans HB_l.out hbz.size)
      have HR_names := Lib.hid (HR_names.out.keep fun b hb' => hbz.block b (Nat.lt_of_lt_of_le hb' HB_names.out))
      have HB_names := Lib.hid (Nat.le_trans HB_names.out hbz.size)
      have HW0 := Lib.hid (HW0.out.keep fun b hb' => hbz.block b (Nat.lt_of_lt_of_le hb' HW0_s.out))
      have HW0_s := Lib.hid (Nat.le_trans HW0_s.out hbz.size)
      have HH := Lib.hid (HH.out.keep fun b hb' => hbz.block b (Nat.lt_of_lt_of_le hb' HH_s.out))
      have HH_s := Lib.hid (Nat.le_trans HH_s.out hbz.size)
      have OM := Lib.hid (OM.out.okeep fun b hb' => hbz.block b (OM.out.olt b hb'))
      have HT50 := Lib.hid (below_step HT48.out hbz)
      clear hbz
      go_wp2_with fail
      refine (heldTotalS_c (Pl.tby l names).1 _ _ _ _ _ _ (OM.out.weak (B := _) OM.out.olt) (Nat.le_refl _) (by omega) (by rw [HCG.out]; omega)).mono ?_
      rintro e v51 ⟨rfl, hbz⟩
      rw [HCG.out]
      have HR_l := Lib.hid (HR_l.out.keep fun b hb' => hbz.block b (Nat.lt_of_lt_of_le hb' HB_l.out))
      have HB_l := Lib.hid (Nat.le_trans HB_l.out hbz.size)
      have HR_names := Lib.hid (HR_names.out.keep fun b hb' => hbz.block b (Nat.lt_of_lt_of_le hb' HB_names.out))
      have HB_names := Lib.hid (Nat.le_trans HB_names.out hbz.size)
      have HW0 := Lib.hid (HW0.out.keep fun b hb' => hbz.block b (Nat.lt_of_lt_of_le hb' HW0_s.out))
      have HW0_s := Lib.hid (Nat.le_trans HW0_s.out hbz.size)
      have HH := Lib.hid (HH.out.keep fun b hb' => hbz.block b (Nat.lt_of_lt_of_le hb' HH_s.out))
      have HH_s := Lib.hid (Nat.le_trans HH_s.out hbz.size)
      have OM := Lib.hid (OM.out.okeep fun b hb' => hbz.block b (OM.out.olt b hb'))
      have HT52 := Lib.hid (below_step HT50.out hbz)
      clear hbz
      go_wp2
      go_ret
      exact ⟨rfl, HT52.out⟩
end Go.Proofs.Ytnppcdiicnofpaa

/-
  The statement of FnExactTotalsBy: for every input the law returns true, and every argument reads afterwards as it read before. No conditions.
-/
namespace Go.Proofs.Ytnppcdiicnofpaa.fnExactTotalsBy
open Go.ChangeShapes Go.WideShapes Go.ChangeAt Go.RowKit
open Go.ChangeMaps (open_string shut_string)
set_option linter.unusedVariables false

theorem own : ownKnob Try.prog.godebug = none := by kernel_rfl
theorem laidOut : laidOutB Try.prog = true := by kernel_rfl

set_option maxRecDepth 100000 in
theorem lifted (os : Os) (started : os.Started) (H : Type) (enc : TypeId × Value → H) :
    ReturnsInHanded {} Try.checked os 8 .any (Rows.fnExactTotalsBySpec.pre6 enc Try.prog Try.f8 Rows.fnExactTotalsByRow.domain false) (Rows.fnExactTotalsBySpec.post enc Try.prog Try.f8 false true false false) := by
  refine returnsInHanded_of_change (C := Try.checked) own started (by kernel_rfl) Try.func8
    (ChangeSpec.witness6 (enc := enc) (C := Try.checked) false ⟨#[], #[.slice none 0 0, .slice none 0 0], []⟩ 8 (by kernel_rfl) (by kernel_rfl) (by kernel_rfl) (by kernel_rfl)) ?_
  intro W base args ds gs before hval0 hW hcnd _
  have hval : ∀ (j : Nat) t v, Try.f8.params[j]? = some t → args[j]? = some v → Value.okWide Try.prog W .any base t v := hval0
  have hW' := hW
  obtain ⟨p, q, hA0, hV, rfl, hfz, hnd⟩ := hW
  have hA : DataW.TrodAll enc Try.prog W 0 (fun _ => true) true Try.f8.params.toList args.toList ds p := hA0
  rw [Try.params8] at hA hval
  obtain ⟨v0, vs0, d0, ds0, p0, q0, hargs, rfl, rfl, h0, r0⟩ := trodAll_cons hA
  obtain ⟨v1, vs1, d1, ds1, p1, q1, rfl, rfl, rfl, h1, r1⟩ := trodAll_cons r0
  obtain ⟨rfl, rfl, rfl⟩ := trodAll_nil r1
  obtain rfl : args = #[v0, v1] := by cases args; simp_all
  obtain ⟨rfl, rfl⟩ := trodVars_none hV
  have k0 := h0
  have lt0 : ∀ x ∈ p0, x.block < W.heap.size := by obtain ⟨m, hm⟩ := k0; exact DataW.trod_lt m _ _ _ hm
  have k1 := h1
  have lt1 : ∀ x ∈ p1, x.block < W.heap.size := by obtain ⟨m, hm⟩ := k1; exact DataW.trod_lt m _ _ _ hm
  obtain ⟨A0, n0, c0, a0, rfl, w0⟩ := Mm.open_sl opens_ItemS Try.underlying64 (hval 0 64 v0 rfl rfl) h0
  obtain ⟨A1, n1, c1, a1, rfl, w1⟩ := Mm.open_sl opens_StringS Try.underlying41 (hval 1 41 v1 rfl rfl) h1
  clear hA0 hval0
  refine (walk_FnExactTotalsBy A0 n0 c0 a0 A1 n1 c1 a1 W w0 w1).mono fun e W' ⟨he, bel⟩ => ?_
  subst he
  exact ⟨_, rfl, _, _, _, [], _, [], hW', trodAll_mk1 (shut_bool Try.underlying4 _), (trodAll_cons_mk (Below.trod laidOut (by kernel_rfl) (of_decide_eq_true (by kernel_rfl)) k0 bel lt0) (trodAll_cons_mk (Below.trod laidOut (by kernel_rfl) (of_decide_eq_true (by kernel_rfl)) k1 bel lt1) trodAll_mk0)), rfl, bel.frame _, fun h => by cases h⟩

theorem over : Rows.fnExactTotalsByRow.holds Try.pinned (OpenSpec.ofChange Rows.fnExactTotalsBySpec) :=
  OpenClaim.holds_of_wide 8 Try.f8 rfl rfl rfl rfl rfl rfl rfl ⟨rfl, rfl, rfl, rfl, rfl⟩ rfl rfl rfl rfl rfl (by kernel_rfl) Try.func8 (by kernel_rfl)
    (of_decide_eq_true (by kernel_rfl)) (by unfold Func.isWrapper; first | (rw [if_pos (by decide +kernel)]; kernel_rfl) | (rw [if_neg (by decide +kernel)]; exact ⟨rfl, rfl⟩))
    (fun os started H enc _ => lifted os started H enc)

theorem proved : Rows.FnExactTotalsBySaid := over
#print axioms proved
end Go.Proofs.Ytnppcdiicnofpaa.fnExactTotalsBy
