/-
  Joined texts, in build order: LwMergeTotals, LawMergeTotals. Each part says what it proves; no conditions beyond those that a part names.
-/
import Derived.Test.YtnppcdiicnofpaaZ01
import Derived.Test.YtnppcdiicnofpaaZ02
import Derived.Test.YtnppcdiicnofpaaZ03
import Derived.Test.YtnppcdiicnofpaaZ04
import Derived.Test.YtnppcdiicnofpaaZ05
import Derived.Test.YtnppcdiicnofpaaZ06
import Derived.Test.YtnppcdiicnofpaaRows
import Derived.WalkKit
import Derived.ProofKit
import Derived.OpenShut
import Derived.ShutString
import Derived.ChangeOld
import Derived.Below
/-
  The walk of the law on MergeTotals. No conditions.
-/
namespace Go.Proofs.Ytnppcdiicnofpaa
open Go.RowKit
theorem cntL_leT {α : Type} {f : α → Int} {c : Int} : ∀ l : List α, (∀ x, x ∈ l → f x ≤ c) → Mm.cntL f l ≤ c * (l.length : Int)
  | [], _ => by simp [Mm.cntL]
  | x :: t, h => by
    have h1 := cntL_leT t (fun y hy => h y (List.mem_cons_of_mem _ hy))
    have h2 := h x (List.mem_cons_self)
    rw [Mm.cntL_cons, List.length_cons]
    have : c * ((t.length + 1 : Nat) : Int) = c * (t.length : Int) + c := by push_cast; rw [Int.mul_add, Int.mul_one]
    omega
theorem totals_cnt {l : List Total} (h : Pl.totalsOk l = true) : Mm.cntL Pl.cntTotal l ≤ 50000000 := by
  have hl := Pl.totalsOk_len h
  have h1 := cntL_leT (f := Pl.cntTotal) (c := 100) l (fun x hx => by
    obtain ⟨i, hi, rfl⟩ := List.mem_iff_getElem.1 hx
    have h6 := Pl.labelsOk_len (Pl.totOk_lab (Pl.totalsOk_at h (List.getElem?_eq_getElem hi)))
    have h2 := cntL_leT (f := Pl.cntLabel) (c := 2) l[i].Labels (fun y _ => by unfold Pl.cntLabel; omega)
    unfold Pl.cntTotal
    omega)
  omega
theorem tgood_cnt (l : List Total) : Mm.cntL Pl.cntTotal (Pl.tgood l).1 ≤ 50000000 := by
  unfold Pl.tgood
  split
  · exact totals_cnt (by assumption)
  · simp [Mm.cntL]
theorem tmerge_cnt (a b : List Total) : Mm.cntL Pl.cntTotal (Pl.tmerge a b).1 ≤ 50000000 := by
  unfold Pl.tmerge
  split
  · exact tgood_cnt _
  · simp [Mm.cntL]
set_option maxRecDepth 100000 in
set_option maxHeartbeats 4000000 in
theorem walk_FnExactMergeTotals (A_la : Option Addr) (n_la c_la : Nat) (la : (List Total)) (A_lb : Option Addr) (n_lb c_lb : Nat) (lb : (List Total)) (w : World) (r_la : Mm.SlAt rTotal w w.heap.size la A_la n_la c_la) (r_lb : Mm.SlAt rTotal w w.heap.size lb A_lb n_lb c_lb) :
    Calls Try.prog 5 #[.slice A_la n_la c_la, .slice A_lb n_lb c_lb] w fun e w' => e = .returned (.bool true) ∧ Below w.heap.size w w' := by
  have hn_la : n_la ≤ maxLen := Nat.le_trans r_la.2.1 r_la.2.2.1
  have zn_la := Pl.szl_nn (f := Pl.szTotal) (Pl.szTotal_nn) la
  have hn_lb : n_lb ≤ maxLen := Nat.le_trans r_lb.2.1 r_lb.2.2.1
  have zn_lb := Pl.szl_nn (f := Pl.szTotal) (Pl.szTotal_nn) lb
  have HT0 := Lib.hid (show Below w.heap.size w w from (Below.refl w.heap.size w))
  have HR_la := Lib.hid (r_la.below HT0.out)
  have HB_la := Lib.hid HT0.out.size
  have HR_lb := Lib.hid (r_lb.below HT0.out)
  have HB_lb := Lib.hid HT0.out.size
  clear r_la r_lb
  by_cases t_la : (1048576 - (Pl.szl Pl.szTotal) la : Int) < 0
  · skip
    go_enter Try.func5, Try.ntmps5
    go_wp2_with fail
    refine (szTotalS_c la _ _ _ _ _ w.heap.size HR_la.out HB_la.out (by omega) (by omega)).mono ?_
    rintro e y1 ⟨rfl, hbz⟩
    rw [Pl.szRet_lt (by omega)]
    have HR_la := Lib.hid (HR_la.out.keep fun b hb' => hbz.block b (Nat.lt_of_lt_of_le hb' HB_la.out))
    have HB_la := Lib.hid (Nat.le_trans HB_la.out hbz.size)
    have HR_lb := Lib.hid (HR_lb.out.keep fun b hb' => hbz.block b (Nat.lt_of_lt_of_le hb' HB_lb.out))
    have HB_lb := Lib.hid (Nat.le_trans HB_lb.out hbz.size)
    have HT2 := Lib.hid (below_step HT0.out hbz)
    clear hbz
    go_wp2
    go_ret
    exact ⟨rfl, HT2.out⟩
  · skip
    by_cases t_lb : (1048576 - (Pl.szl Pl.szTotal) la - (Pl.szl Pl.szTotal) lb : Int) < 0
    · skip
      go_enter Try.func5, Try.ntmps5
      go_wp2_with fail
      refine (szTotalS_c la _ _ _ _ _ w.heap.size HR_la.out HB_la.out (by omega) (by omega)).mono ?_
      rintro e y3 ⟨rfl, hbz⟩
      rw [Pl.szRet_ge (by omega)]
      have HR_la := Lib.hid (HR_la.out.keep fun b hb' => hbz.block b (Nat.lt_of_lt_of_le hb' HB_la.out))
      have HB_la := Lib.hid (Nat.le_trans HB_la.out hbz.size)
      have HR_lb := Lib.hid (HR_lb.out.keep fun b hb' => hbz.block b (Nat.lt_of_lt_of_le hb' HB_lb.out))
      have HB_lb := Lib.hid (Nat.le_trans HB_lb.out hbz.size)
      have HT4 := Lib.hid (below_step HT0.out hbz)
      clear hbz
      go_wp2_with fail
      refine (szTotalS_c lb _ _ _ _ _ w.heap.size HR_lb.out HB_lb.out (by omega) (by omega)).mono ?_
      rintro e y5 ⟨rfl, hbz⟩
      rw [Pl.szRet_lt (by omega)]
      have HR_la := Lib.hid (HR_la.out.keep fun b hb' => hbz.block b (Nat.lt_of_lt_of_le hb' HB_la.out))
      have HB_la := Lib.hid (Nat.le_trans HB_la.out hbz.size)
      have HR_lb := Lib.hid (HR_lb.out.keep fun b hb' => hbz.block b (Nat.lt_of_lt_of_le hb' HB_lb.out))
      have HB_lb := Lib.hid (Nat.le_trans HB_lb.out hbz.size)
      have HT6 := Lib.hid (below_step HT4.out hbz)
      clear hbz
      go_wp2
      go_ret
      exact ⟨rfl, HT6.out⟩
    · skip
      go_enter Try.func5, Try.ntmps5
      go_wp2_with fail
      refine (szTotalS_c la _ _ _ _ _ w.heap.size HR_la.out HB_la.out (by omega) (by omega)).mono ?_
      rintro e y7 ⟨rfl, hbz⟩
      rw [Pl.szRet_ge (by omega)]
      have HR_la := Lib.hid (HR_la.out.keep fun b hb' => hbz.block b (Nat.lt_of_lt_of_le hb' HB_la.out))
      have HB_la := Lib.hid (Nat.le_trans HB_la.out hbz.size)
      have HR_lb := Lib.hid (HR_lb.out.keep fun b hb' => hbz.block b (Nat.lt_of_lt_of_le hb' HB_lb.out))
      have HB_lb := Lib.hid (Nat.le_trans HB_lb.out hbz.size)
      have HT8 := Lib.hid (below_step HT0.out hbz)
      clear hbz
      go_wp2_with fail
      refine (szTotalS_c lb _ _ _ _ _ w.heap.size HR_lb.out HB_lb.out (by omega) (by omega)).mono ?_
      rintro e y9 ⟨rfl, hbz⟩
      rw [Pl.szRet_ge (by omega)]
      have HR_la := Lib.hid (HR_la.out.keep fun b hb' => hbz.block b (Nat.lt_of_lt_of_le hb' HB_la.out))
      have HB_la := Lib.hid (Nat.le_trans HB_la.out hbz.size)
      have HR_lb := Lib.hid (HR_lb.out.keep fun b hb' => hbz.block b (Nat.lt_of_lt_of_le hb' HB_lb.out))
      have HB_lb := Lib.hid (Nat.le_trans HB_lb.out hbz.size)
      have HT10 := Lib.hid (below_step HT8.out hbz)
      clear hbz
      go_wp2_with fail
      refine (toTotalS_c la _ _ _ _ w.heap.size HR_la.out HB_la.out (by omega)).mono ?_
      rintro e v11 ⟨A11, n11, c11, fp11, rfl, ho11, hnd11, hf11, hbz⟩
      have HR_la := Lib.hid (HR_la.out.keep fun b hb' => hbz.block b (Nat.lt_of_lt_of_le hb' HB_la.out))
      have HB_la := Lib.hid (Nat.le_trans HB_la.out hbz.size)
      have HR_lb := Lib.hid (HR_lb.out.keep fun b hb' => hbz.block b (Nat.lt_of_lt_of_le hb' HB_lb.out))
      have HB_lb := Lib.hid (Nat.le_trans HB_lb.out hbz.size)
      have HT12 := Lib.hid (below_step HT10.out hbz)
      have HXs_la := Lib.hid (ho11.weak (B := v11.heap.size) ho11.olt)
      have HXs_la_s := Lib.hid (Nat.le_refl v11.heap.size)
      clear ho11 hnd11 hf11
      clear hbz
      go_wp2_with fail
      refine (toTotalS_c lb _ _ _ _ w.heap.size HR_lb.out HB_lb.out (by omega)).mono ?_
      rintro e v13 ⟨A13, n13, c13, fp13, rfl, ho13, hnd13, hf13, hbz⟩
      have HR_la := Lib.hid (HR_la.out.keep fun b hb' => hbz.block b (Nat.lt_of_lt_of_le hb' HB_la.out))
      have HB_la := Lib.hid (Nat.le_trans HB_la.out hbz.size)
      have HR_lb := Lib.hid (HR_lb.out.keep fun b hb' => hbz.block b (Nat.lt_of_lt_of_le hb' HB_lb.out))
      have HB_lb := Lib.hid (Nat.le_trans HB_lb.out hbz.size)
      have HXs_la := Lib.hid (HXs_la.out.keep fun b hb' => hbz.block b (Nat.lt_of_lt_of_le hb' HXs_la_s.out))
      have HXs_la_s := Lib.hid (Nat.le_trans HXs_la_s.out hbz.size)
      have HT14 := Lib.hid (below_step HT12.out hbz)
      have HXs_lb := Lib.hid (ho13.weak (B := v13.heap.size) ho13.olt)
      have HXs_lb_s := Lib.hid (Nat.le_refl v13.heap.size)
      clear ho13 hnd13 hf13
      clear hbz
      go_wp2_with fail
      refine (specMergeTotals_c la _ _ _ lb _ _ _ _ _ (HXs_la.out.more HXs_la_s.out) (HXs_lb.out.more HXs_lb_s.out) (Nat.le_refl _)).mono ?_
      rintro e v15 ⟨A15, n15, c15, fp15, rfl, ho15, hnd15, hf15, hbz⟩
      have HR_la := Lib.hid (HR_la.out.keep fun b hb' => hbz.block b (Nat.lt_of_lt_of_le hb' HB_la.out))
      have HB_la := Lib.hid (Nat.le_trans HB_la.out hbz.size)
      have HR_lb := Lib.hid (HR_lb.out.keep fun b hb' => hbz.block b (Nat.lt_of_lt_of_le hb' HB_lb.out))
      have HB_lb := Lib.hid (Nat.le_trans HB_lb.out hbz.size)
      have HXs_la := Lib.hid (HXs_la.out.keep fun b hb' => hbz.block b (Nat.lt_of_lt_of_le hb' HXs_la_s.out))
      have HXs_la_s := Lib.hid (Nat.le_trans HXs_la_s.out hbz.size)
      have HXs_lb := Lib.hid (HXs_lb.out.keep fun b hb' => hbz.block b (Nat.lt_of_lt_of_le hb' HXs_lb_s.out))
      have HXs_lb_s := Lib.hid (Nat.le_trans HXs_lb_s.out hbz.size)
      have HT16 := Lib.hid (below_step HT14.out hbz)
      have HW0 := Lib.hid (ho15.weak (B := v15.heap.size) ho15.olt)
      have HW0_s := Lib.hid (Nat.le_refl v15.heap.size)
      clear ho15 hnd15 hf15
      clear hbz
      go_wp2_with fail
      refine (toTotalS_c la _ _ _ _ w.heap.size HR_la.out HB_la.out (by omega)).mono ?_
      rintro e v17 ⟨A17, n17, c17, fp17, rfl, ho17, hnd17, hf17, hbz⟩
      have AP17_HR_la := Lib.hid (show ∀ b, b ∈ fp17 → w.heap.size ≤ b from fun b hb' => Nat.le_trans HB_la.out (hf17 b hb'))
      have AP17_HR_lb := Lib.hid (show ∀ b, b ∈ fp17 → w.heap.size ≤ b from fun b hb' => Nat.le_trans HB_lb.out (hf17 b hb'))
      have AP17_HW0 := Lib.hid (show ∀ b, b ∈ fp17 → v15.heap.size ≤ b from fun b hb' => Nat.le_trans HW0_s.out (hf17 b hb'))
      have FR17 := Lib.hid (show ∀ b, b ∈ fp17 → w.heap.size ≤ b from fun b hb' => Nat.le_trans HT16.out.size (hf17 b hb'))
      have ND17 := Lib.hid hnd17
      have LT17 := Lib.hid (show ∀ b, b ∈ fp17 → b < v17.heap.size from ho17.olt)
      have HR_la := Lib.hid (HR_la.out.keep fun b hb' => hbz.block b (Nat.lt_of_lt_of_le hb' HB_la.out))
      have HB_la := Lib.hid (Nat.le_trans HB_la.out hbz.size)
      have HR_lb := Lib.hid (HR_lb.out.keep fun b hb' => hbz.block b (Nat.lt_of_lt_of_le hb' HB_lb.out))
      have HB_lb := Lib.hid (Nat.le_trans HB_lb.out hbz.size)
      have HW0 := Lib.hid (HW0.out.keep fun b hb' => hbz.block b (Nat.lt_of_lt_of_le hb' HW0_s.out))
      have HW0_s := Lib.hid (Nat.le_trans HW0_s.out hbz.size)
      have HT18 := Lib.hid (below_step HT16.out hbz)
      have HXx_la := Lib.hid (ho17.weak (B := v17.heap.size) ho17.olt)
      have HXx_la_s := Lib.hid (Nat.le_refl v17.heap.size)
      have OX_la := Lib.hid ho17
      clear ho17 hnd17 hf17
      clear hbz
      go_wp2_with fail
      refine (toTotalS_c lb _ _ _ _ w.heap.size HR_lb.out HB_lb.out (by omega)).mono ?_
      rintro e v19 ⟨A19, n19, c19, fp19, rfl, ho19, hnd19, hf19, hbz⟩
      have AP19_HR_la := Lib.hid (show ∀ b, b ∈ fp19 → w.heap.size ≤ b from fun b hb' => Nat.le_trans HB_la.out (hf19 b hb'))
      have AP19_HR_lb := Lib.hid (show ∀ b, b ∈ fp19 → w.heap.size ≤ b from fun b hb' => Nat.le_trans HB_lb.out (hf19 b hb'))
      have AP19_HW0 := Lib.hid (show ∀ b, b ∈ fp19 → v15.heap.size ≤ b from fun b hb' => Nat.le_trans HW0_s.out (hf19 b hb'))
      have AP19_HXx_la := Lib.hid (show ∀ b, b ∈ fp19 → v17.heap.size ≤ b from fun b hb' => Nat.le_trans HXx_la_s.out (hf19 b hb'))
      have DP19_OX_la := Lib.hid (show ∀ b, b ∈ fp19 → b ∉ fp17 from fun b hb' hm => by have := OX_la.out.olt b hm; have := hf19 b hb'; omega)
      have FR19 := Lib.hid (show ∀ b, b ∈ fp19 → w.heap.size ≤ b from fun b hb' => Nat.le_trans HT18.out.size (hf19 b hb'))
      have ND19 := Lib.hid hnd19
      have LT19 := Lib.hid (show ∀ b, b ∈ fp19 → b < v19.heap.size from ho19.olt)
      have HR_la := Lib.hid (HR_la.out.keep fun b hb' => hbz.block b (Nat.lt_of_lt_of_le hb' HB_la.out))
      have HB_la := Lib.hid (Nat.le_trans HB_la.out hbz.size)
      have HR_lb := Lib.hid (HR_lb.out.keep fun b hb' => hbz.block b (Nat.lt_of_lt_of_le hb' HB_lb.out))
      have HB_lb := Lib.hid (Nat.le_trans HB_lb.out hbz.size)
      have HW0 := Lib.hid (HW0.out.keep fun b hb' => hbz.block b (Nat.lt_of_lt_of_le hb' HW0_s.out))
      have HW0_s := Lib.hid (Nat.le_trans HW0_s.out hbz.size)
      have HXx_la := Lib.hid (HXx_la.out.keep fun b hb' => hbz.block b (Nat.lt_of_lt_of_le hb' HXx_la_s.out))
      have HXx_la_s := Lib.hid (Nat.le_trans HXx_la_s.out hbz.size)
      have OX_la := Lib.hid (OX_la.out.okeep fun b hb' => hbz.block b (OX_la.out.olt b hb'))
      have HT20 := Lib.hid (below_step HT18.out hbz)
      have HXx_lb := Lib.hid (ho19.weak (B := v19.heap.size) ho19.olt)
      have HXx_lb_s := Lib.hid (Nat.le_refl v19.heap.size)
      have OX_lb := Lib.hid ho19
      clear ho19 hnd19 hf19
      clear hbz
      go_wp2_with fail
      refine (implMergeTotals_c la _ _ _ lb _ _ _ _ _ (HXx_la.out.more HXx_la_s.out) (HXx_lb.out.more HXx_lb_s.out) (Nat.le_refl _)).mono ?_
      rintro e v21 ⟨A21, n21, c21, fp21, rfl, ho21, hnd21, hf21, hbz⟩
      have AP21_HR_la := Lib.hid (show ∀ b, b ∈ fp21 → w.heap.size ≤ b from fun b hb' => Nat.le_trans HB_la.out (hf21 b hb'))
      have AP21_HR_lb := Lib.hid (show ∀ b, b ∈ fp21 → w.heap.size ≤ b from fun b hb' => Nat.le_trans HB_lb.out (hf21 b hb'))
      have AP21_HW0 := Lib.hid (show ∀ b, b ∈ fp21 → v15.heap.size ≤ b from fun b hb' => Nat.le_trans HW0_s.out (hf21 b hb'))
      have AP21_HXx_la := Lib.hid (show ∀ b, b ∈ fp21 → v17.heap.size ≤ b from fun b hb' => Nat.le_trans HXx_la_s.out (hf21 b hb'))
      have AP21_HXx_lb := Lib.hid (show ∀ b, b ∈ fp21 → v19.heap.size ≤ b from fun b hb' => Nat.le_trans HXx_lb_s.out (hf21 b hb'))
      have DP21_OX_la := Lib.hid (show ∀ b, b ∈ fp21 → b ∉ fp17 from fun b hb' hm => by have := OX_la.out.olt b hm; have := hf21 b hb'; omega)
      have DP21_OX_lb := Lib.hid (show ∀ b, b ∈ fp21 → b ∉ fp19 from fun b hb' hm => by have := OX_lb.out.olt b hm; have := hf21 b hb'; omega)
      have FR21 := Lib.hid (show ∀ b, b ∈ fp21 → w.heap.size ≤ b from fun b hb' => Nat.le_trans HT20.out.size (hf21 b hb'))
      have ND21 := Lib.hid hnd21
      have LT21 := Lib.hid (show ∀ b, b ∈ fp21 → b < v21.heap.size from ho21.olt)
      have HR_la := Lib.hid (HR_la.out.keep fun b hb' => hbz.block b (Nat.lt_of_lt_of_le hb' HB_la.out))
      have HB_la := Lib.hid (Nat.le_trans HB_la.out hbz.size)
      have HR_lb := Lib.hid (HR_lb.out.keep fun b hb' => hbz.block b (Nat.lt_of_lt_of_le hb' HB_lb.out))
      have HB_lb := Lib.hid (Nat.le_trans HB_lb.out hbz.size)
      have HW0 := Lib.hid (HW0.out.keep fun b hb' => hbz.block b (Nat.lt_of_lt_of_le hb' HW0_s.out))
      have HW0_s := Lib.hid (Nat.le_trans HW0_s.out hbz.size)
      have HXx_la := Lib.hid (HXx_la.out.keep fun b hb' => hbz.block b (Nat.lt_of_lt_of_le hb' HXx_la_s.out))
      have HXx_la_s := Lib.hid (Nat.le_trans HXx_la_s.out hbz.size)
      have HXx_lb := Lib.hid (HXx_lb.out.keep fun b hb' => hbz.block b (Nat.lt_of_lt_of_le hb' HXx_lb_s.out))
      have HXx_lb_s := Lib.hid (Nat.le_trans HXx_lb_s.out hbz.size)
      have OX_la := Lib.hid (OX_la.out.okeep fun b hb' => hbz.block b (OX_la.out.olt b hb'))
      have OX_lb := Lib.hid (OX_lb.out.okeep fun b hb' => hbz.block b (OX_lb.out.olt b hb'))
      have HT22 := Lib.hid (below_step HT20.out hbz)
      have OG := Lib.hid ho21
      clear ho21 hnd21 hf21
      clear hbz
      go_wp2_with fail
      refine (eqTotalS_c (Pl.tmerge la lb).1 _ _ _ _ _ _ _ _ (OG.out.weak (B := _) OG.out.olt) (HW0.out.more HW0_s.out) (Nat.le_refl _)).mono ?_
      rintro e v23 ⟨rfl, hbz⟩
      have HR_la := Lib.hid (HR_la.out.keep fun b hb' => hbz.block b (Nat.lt_of_lt_of_le hb' HB_la.out))
      have HB_la := Lib.hid (Nat.le_trans HB_la.out hbz.size)
      have HR_lb := Lib.hid (HR_lb.out.keep fun b hb' => hbz.block b (Nat.lt_of_lt_of_le hb' HB_lb.out))
      have HB_lb := Lib.hid (Nat.le_trans HB_lb.out hbz.size)
      have HW0 := Lib.hid (HW0.out.keep fun b hb' => hbz.block b (Nat.lt_of_lt_of_le hb' HW0_s.out))
      have HW0_s := Lib.hid (Nat.le_trans HW0_s.out hbz.size)
      have HXx_la := Lib.hid (HXx_la.out.keep fun b hb' => hbz.block b (Nat.lt_of_lt_of_le hb' HXx_la_s.out))
      have HXx_la_s := Lib.hid (Nat.le_trans HXx_la_s.out hbz.size)
      have HXx_lb := Lib.hid (HXx_lb.out.keep fun b hb' => hbz.block b (Nat.lt_of_lt_of_le hb' HXx_lb_s.out))
      have HXx_lb_s := Lib.hid (Nat.le_trans HXx_lb_s.out hbz.size)
      have OX_la := Lib.hid (OX_la.out.okeep fun b hb' => hbz.block b (OX_la.out.olt b hb'))
      have OX_lb := Lib.hid (OX_lb.out.okeep fun b hb' => hbz.block b (OX_lb.out.olt b hb'))
      have OG := Lib.hid (OG.out.okeep fun b hb' => hbz.block b (OG.out.olt b hb'))
      have HT24 := Lib.hid (below_step HT22.out hbz)
      clear hbz
      go_wp2_with fail
      refine (toTotalS_c la _ _ _ _ w.heap.size HR_la.out HB_la.out (by omega)).mono ?_
      rintro e v25 ⟨A25, n25, c25, fp25, rfl, ho25, hnd25, hf25, hbz⟩
      have HR_la := Lib.hid (HR_la.out.keep fun b hb' => hbz.block b (Nat.lt_of_lt_of_le hb' HB_la.out))
      have HB_la := Lib.hid (Nat.le_trans HB_la.out hbz.size)
      have HR_lb := Lib.hid (HR_lb.out.keep fun b hb' => hbz.block b (Nat.lt_of_lt_of_le hb' HB_lb.out))
      have HB_lb := Lib.hid (Nat.le_trans HB_lb.out hbz.size)
      have HW0 := Lib.hid (HW0.out.keep fun b hb' => hbz.block b (Nat.lt_of_lt_of_le hb' HW0_s.out))
      have HW0_s := Lib.hid (Nat.le_trans HW0_s.out hbz.size)
      have HXx_la := Lib.hid (HXx_la.out.keep fun b hb' => hbz.block b (Nat.lt_of_lt_of_le hb' HXx_la_s.out))
      have HXx_la_s := Lib.hid (Nat.le_trans HXx_la_s.out hbz.size)
      have HXx_lb := Lib.hid (HXx_lb.out.keep fun b hb' => hbz.block b (Nat.lt_of_lt_of_le hb' HXx_lb_s.out))
      have HXx_lb_s := Lib.hid (Nat.le_trans HXx_lb_s.out hbz.size)
      have OX_la := Lib.hid (OX_la.out.okeep fun b hb' => hbz.block b (OX_la.out.olt b hb'))
      have OX_lb := Lib.hid (OX_lb.out.okeep fun b hb' => hbz.block b (OX_lb.out.olt b hb'))
      have OG := Lib.hid (OG.out.okeep fun b hb' => hbz.block b (OG.out.olt b hb'))
      have HT26 := Lib.hid (below_step HT24.out hbz)
      have HXz_la := Lib.hid (ho25.weak (B := v25.heap.size) ho25.olt)
      have HXz_la_s := Lib.hid (Nat.le_refl v25.heap.size)
      clear ho25 hnd25 hf25
      clear hbz
      go_wp2_with fail
      refine (eqTotalS_c la _ _ _ _ _ _ _ v25.heap.size (HXx_la.out.more HXx_la_s.out) HXz_la.out (Nat.le_refl _)).mono ?_
      rintro e v27 ⟨rfl, hbz⟩
      have HR_la := Lib.hid (HR_la.out.keep fun b hb' => hbz.block b (Nat.lt_of_lt_of_le hb' HB_la.out))
      have HB_la := Lib.hid (Nat.le_trans HB_la.out hbz.size)
      have HR_lb := Lib.hid (HR_lb.out.keep fun b hb' => hbz.block b (Nat.lt_of_lt_of_le hb' HB_lb.out))
      have HB_lb := Lib.hid (Nat.le_trans HB_lb.out hbz.size)
      have HW0 := Lib.hid (HW0.out.keep fun b hb' => hbz.block b (Nat.lt_of_lt_of_le hb' HW0_s.out))
      have HW0_s := Lib.hid (Nat.le_trans HW0_s.out hbz.size)
      have HXx_la := Lib.hid (HXx_la.out.keep fun b hb' => hbz.block b (Nat.lt_of_lt_of_le hb' HXx_la_s.out))
      have HXx_la_s := Lib.hid (Nat.le_trans HXx_la_s.out hbz.size)
      have HXx_lb := Lib.hid (HXx_lb.out.keep fun b hb' => hbz.block b (Nat.lt_of_lt_of_le hb' HXx_lb_s.out))
      have HXx_lb_s := Lib.hid (Nat.le_trans HXx_lb_s.out hbz.size)
      have HXz_la := Lib.hid (HXz_la.out.keep fun b hb' => hbz.block b (Nat.lt_of_lt_of_le hb' HXz_la_s.out))
      have HXz_la_s := Lib.hid (Nat.le_trans HXz_la_s.out hbz.size)
      have OX_la := Lib.hid (OX_la.out.okeep fun b hb' => hbz.block b (OX_la.out.olt b hb'))
      have OX_lb := Lib.hid (OX_lb.out.okeep fun b hb' => hbz.block b (OX_lb.out.olt b hb'))
      have OG := Lib.hid (OG.out.okeep fun b hb' => hbz.block b (OG.out.olt b hb'))
      have HT28 := Lib.hid (below_step HT26.out hbz)
      clear hbz
      go_wp2_with fail
      refine (toTotalS_c lb _ _ _ _ w.heap.size HR_lb.out HB_lb.out (by omega)).mono ?_
      rintro e v29 ⟨A29, n29, c29, fp29, rfl, ho29, hnd29, hf29, hbz⟩
      have HR_la := Lib.hid (HR_la.out.keep fun b hb' => hbz.block b (Nat.lt_of_lt_of_le hb' HB_la.out))
      have HB_la := Lib.hid (Nat.le_trans HB_la.out hbz.size)
      have HR_lb := Lib.hid (HR_lb.out.keep fun b hb' => hbz.block b (Nat.lt_of_lt_of_le hb' HB_lb.out))
      have HB_lb := Lib.hid (Nat.le_trans HB_lb.out hbz.size)
      have HW0 := Lib.hid (HW0.out.keep fun b hb' => hbz.block b (Nat.lt_of_lt_of_le hb' HW0_s.out))
      have HW0_s := Lib.hid (Nat.le_trans HW0_s.out hbz.size)
      have HXx_la := Lib.hid (HXx_la.out.keep fun b hb' => hbz.block b (Nat.lt_of_lt_of_le hb' HXx_la_s.out))
      have HXx_la_s := Lib.hid (Nat.le_trans HXx_la_s.out hbz.size)
      have HXx_lb := Lib.hid (HXx_lb.out.keep fun b hb' => hbz.block b (Nat.lt_of_lt_of_le hb' HXx_lb_s.out))
      have HXx_lb_s := Lib.hid (Nat.le_trans HXx_lb_s.out hbz.size)
      have OX_la := Lib.hid (OX_la.out.okeep fun b hb' => hbz.block b (OX_la.out.olt b hb'))
      have OX_lb := Lib.hid (OX_lb.out.okeep fun b hb' => hbz.block b (OX_lb.out.olt b hb'))
      have OG := Lib.hid (OG.out.okeep fun b hb' => hbz.block b (OG.out.olt b hb'))
      have HT30 := Lib.hid (below_step HT28.out hbz)
      have HXz_lb := Lib.hid (ho29.weak (B := v29.heap.size) ho29.olt)
      have HXz_lb_s := Lib.hid (Nat.le_refl v29.heap.size)
      clear ho29 hnd29 hf29
      clear hbz
      go_wp2_with fail
      refine (eqTotalS_c lb _ _ _ _ _ _ _ v29.heap.size (HXx_lb.out.more HXx_lb_s.out) HXz_lb.out (Nat.le_refl _)).mono ?_
      rintro e v31 ⟨rfl, hbz⟩
      have HR_la := Lib.hid (HR_la.out.keep fun b hb' => hbz.block b (Nat.lt_of_lt_of_le hb' HB_la.out))
      have HB_la := Lib.hid (Nat.le_trans HB_la.out hbz.size)
      have HR_lb := Lib.hid (HR_lb.out.keep fun b hb' => hbz.block b (Nat.lt_of_lt_of_le hb' HB_lb.out))
      have HB_lb := Lib.hid (Nat.le_trans HB_lb.out hbz.size)
      have HW0 := Lib.hid (HW0.out.keep fun b hb' => hbz.block b (Nat.lt_of_lt_of_le hb' HW0_s.out))
      have HW0_s := Lib.hid (Nat.le_trans HW0_s.out hbz.size)
      have HXx_la := Lib.hid (HXx_la.out.keep fun b hb' => hbz.block b (Nat.lt_of_lt_of_le hb' HXx_la_s.out))
      have HXx_la_s := Lib.hid (Nat.le_trans HXx_la_s.out hbz.size)
      have HXx_lb := Lib.hid (HXx_lb.out.keep fun b hb' => hbz.block b (Nat.lt_of_lt_of_le hb' HXx_lb_s.out))
      have HXx_lb_s := Lib.hid (Nat.le_trans HXx_lb_s.out hbz.size)
      have HXz_lb := Lib.hid (HXz_lb.out.keep fun b hb' => hbz.block b (Nat.lt_of_lt_of_le hb' HXz_lb_s.out))
      have HXz_lb_s := Lib.hid (Nat.le_trans HXz_lb_s.out hbz.size)
      have OX_la := Lib.hid (OX_la.out.okeep fun b hb' => hbz.block b (OX_la.out.olt b hb'))
      have OX_lb := Lib.hid (OX_lb.out.okeep fun b hb' => hbz.block b (OX_lb.out.olt b hb'))
      have OG := Lib.hid (OG.out.okeep fun b hb' => hbz.block b (OG.out.olt b hb'))
      have HT32 := Lib.hid (below_step HT30.out hbz)
      clear hbz
      have hcn_la := Mm.cntL_nn (cnt := Pl.cntTotal) (Pl.cntTotal_nn) la
      have hcb_la : (Mm.cntL Pl.cntTotal) la ≤ 50000000 := by have := Pl.cntLb (cnt := Pl.cntTotal) (f := Pl.szTotal) (Pl.cntbTotal) la; omega
      have hcn_lb := Mm.cntL_nn (cnt := Pl.cntTotal) (Pl.cntTotal_nn) lb
      have hcb_lb : (Mm.cntL Pl.cntTotal) lb ≤ 50000000 := by have := Pl.cntLb (cnt := Pl.cntTotal) (f := Pl.szTotal) (Pl.cntbTotal) lb; omega
      go_wp2_with fail
      refine (markTotalS_c la _ _ _ _ _ _ OX_la.out ND17.out (by omega) (by omega)).mono ?_
      rintro e v33 ⟨rfl, hch, -⟩
      have HR_la := Lib.hid (HR_la.out.keep fun b hb' => hch.block b (Nat.lt_of_lt_of_le hb' HB_la.out) (fun hm => by have := AP17_HR_la.out b hm; omega))
      have HB_la := Lib.hid (Nat.le_trans HB_la.out hch.size)
      have HR_lb := Lib.hid (HR_lb.out.keep fun b hb' => hch.block b (Nat.lt_of_lt_of_le hb' HB_lb.out) (fun hm => by have := AP17_HR_lb.out b hm; omega))
      have HB_lb := Lib.hid (Nat.le_trans HB_lb.out hch.size)
      have HW0 := Lib.hid (HW0.out.keep fun b hb' => hch.block b (Nat.lt_of_lt_of_le hb' HW0_s.out) (fun hm => by have := AP17_HW0.out b hm; omega))
      have HW0_s := Lib.hid (Nat.le_trans HW0_s.out hch.size)
      have OX_lb := Lib.hid (OX_lb.out.okeep fun b hb' => hch.block b (OX_lb.out.olt b hb') (fun hm => DP19_OX_la.out b hb' hm))
      have OG := Lib.hid (OG.out.okeep fun b hb' => hch.block b (OG.out.olt b hb') (fun hm => DP21_OX_la.out b hb' hm))
      have HT34 := Lib.hid (Mm.Below.chg HT32.out hch HT32.out.size FR17.out)
      clear hch
      go_wp2_with fail
      refine (markTotalS_c lb _ _ _ _ _ _ OX_lb.out ND19.out (by omega) (by omega)).mono ?_
      rintro e v35 ⟨rfl, hch, -⟩
      have HR_la := Lib.hid (HR_la.out.keep fun b hb' => hch.block b (Nat.lt_of_lt_of_le hb' HB_la.out) (fun hm => by have := AP19_HR_la.out b hm; omega))
      have HB_la := Lib.hid (Nat.le_trans HB_la.out hch.size)
      have HR_lb := Lib.hid (HR_lb.out.keep fun b hb' => hch.block b (Nat.lt_of_lt_of_le hb' HB_lb.out) (fun hm => by have := AP19_HR_lb.out b hm; omega))
      have HB_lb := Lib.hid (Nat.le_trans HB_lb.out hch.size)
      have HW0 := Lib.hid (HW0.out.keep fun b hb' => hch.block b (Nat.lt_of_lt_of_le hb' HW0_s.out) (fun hm => by have := AP19_HW0.out b hm; omega))
      have HW0_s := Lib.hid (Nat.le_trans HW0_s.out hch.size)
      have OG := Lib.hid (OG.out.okeep fun b hb' => hch.block b (OG.out.olt b hb') (fun hm => DP21_OX_lb.out b hb' hm))
      have HT36 := Lib.hid (Mm.Below.chg HT34.out hch HT34.out.size FR19.out)
      clear hch
      go_wp2_with fail
      refine (eqTotalS_c (Pl.tmerge la lb).1 _ _ _ _ _ _ _ _ (OG.out.weak (B := _) OG.out.olt) (HW0.out.more HW0_s.out) (Nat.le_refl _)).mono ?_
      rintro e v37 ⟨rfl, hbz⟩
      have HR_la := Lib.hid (HR_la.out.keep fun b hb' => hbz.block b (Nat.lt_of_lt_of_le hb' HB_la.out))
      have HB_la := Lib.hid (Nat.le_trans HB_la.out hbz.size)
      have HR_lb := Lib.hid (HR_lb.out.keep fun b hb' => hbz.block b (Nat.lt_of_lt_of_le hb' HB_lb.out))
      have HB_lb := Lib.hid (Nat.le_trans HB_lb.out hbz.size)
      have HW0 := Lib.hid (HW0.out.keep fun b hb' => hbz.block b (Nat.lt_of_lt_of_le hb' HW0_s.out))
      have HW0_s := Lib.hid (Nat.le_trans HW0_s.out hbz.size)
      have OG := Lib.hid (OG.out.okeep fun b hb' => hbz.block b (OG.out.olt b hb'))
      have HT38 := Lib.hid (below_step HT36.out hbz)
      clear hbz
      have hcg : 0 ≤ (Mm.cntL Pl.cntTotal) (Pl.tmerge la lb).1 := Mm.cntL_nn (cnt := Pl.cntTotal) (Pl.cntTotal_nn) (Pl.tmerge la lb).1
      have hcgb : (Mm.cntL Pl.cntTotal) (Pl.tmerge la lb).1 ≤ 50000000 := (tmerge_cnt la lb)
      obtain ⟨cg, hcge⟩ : ∃ z, (Mm.cntL Pl.cntTotal) (Pl.tmerge la lb).1 = z := ⟨_, rfl⟩
      rw [hcge] at hcg hcgb
      have HCG := Lib.hid hcge
      clear hcge
      go_wp2_with fail
      refine (markTotalS_c (Pl.tmerge la lb).1 _ _ _ _ _ _ OG.out ND21.out (by omega) (by rw [HCG.out]; omega)).mono ?_
      rintro e v39 ⟨rfl, hch, fpm, hom, hndm, hsubm⟩
      rw [HCG.out]
      have HR_la := Lib.hid (HR_la.out.keep fun b hb' => hch.block b (Nat.lt_of_lt_of_le hb' HB_la.out) (fun hm => by have := AP21_HR_la.out b hm; omega))
      have HB_la := Lib.hid (Nat.le_trans HB_la.out hch.size)
      have HR_lb := Lib.hid (HR_lb.out.keep fun b hb' => hch.block b (Nat.lt_of_lt_of_le hb' HB_lb.out) (fun hm => by have := AP21_HR_lb.out b hm; omega))
      have HB_lb := Lib.hid (Nat.le_trans HB_lb.out hch.size)
      have HW0 := Lib.hid (HW0.out.keep fun b hb' => hch.block b (Nat.lt_of_lt_of_le hb' HW0_s.out) (fun hm => by have := AP21_HW0.out b hm; omega))
      have HW0_s := Lib.hid (Nat.le_trans HW0_s.out hch.size)
      have HT40 := Lib.hid (Mm.Below.chg HT38.out hch HT38.out.size FR21.out)
      clear hch
      have OM := Lib.hid hom
      clear hom hndm hsubm
      go_wp2_with fail
      refine (heldTotalS_c (Pl.tmerge la lb).1 _ _ _ _ _ _ (OM.out.weak (B := _) OM.out.olt) (Nat.le_refl _) (by omega) (by rw [HCG.out]; omega)).mono ?_
      rintro e v41 ⟨rfl, hbz⟩
      rw [HCG.out]
      have HR_la := Lib.hid (HR_la.out.keep fun b hb' => hbz.block b (Nat.lt_of_lt_of_le hb' HB_la.out))
      have HB_la := Lib.hid (Nat.le_trans HB_la.out hbz.size)
      have HR_lb := Lib.hid (HR_lb.out.keep fun b hb' => hbz.block b (Nat.lt_of_lt_of_le hb' HB_lb.out))
      have HB_lb := Lib.hid (Nat.le_trans HB_lb.out hbz.size)
      have HW0 := Lib.hid (HW0.out.keep fun b hb' => hbz.block b (Nat.lt_of_lt_of_le hb' HW0_s.out))
      have HW0_s := Lib.hid (Nat.le_trans HW0_s.out hbz.size)
      have OM := Lib.hid (OM.out.okeep fun b hb' => hbz.block b (OM.out.olt b hb'))
      have HT42 := Lib.hid (below_step HT40.out hbz)
      clear hbz
      go_wp2_with fail
      refine (toTotalS_c la _ _ _ _ w.heap.size HR_la.out HB_la.out (by omega)).mono ?_
      rintro e v43 ⟨A43, n43, c43, fp43, rfl, ho43, hnd43, hf43, hbz⟩
      have HR_la := Lib.hid (HR_la.out.keep fun b hb' => hbz.block b (Nat.lt_of_lt_of_le hb' HB_la.out))
      have HB_la := Lib.hid (Nat.le_trans HB_la.out hbz.size)
      have HR_lb := Lib.hid (HR_lb.out.keep fun b hb' => hbz.block b (Nat.lt_of_lt_of_le hb' HB_lb.out))
      have HB_lb := Lib.hid (Nat.le_trans HB_lb.out hbz.size)
      have HW0 := Lib.hid (HW0.out.keep fun b hb' => hbz.block b (Nat.lt_of_lt_of_le hb' HW0_s.out))
      have HW0_s := Lib.hid (Nat.le_trans HW0_s.out hbz.size)
      have OM := Lib.hid (OM.out.okeep fun b hb' => hbz.block b (OM.out.olt b hb'))
      have HT44 := Lib.hid (below_step HT42.out hbz)
      have HXh_la := Lib.hid (ho43.weak (B := v43.heap.size) ho43.olt)
      have HXh_la_s := Lib.hid (Nat.le_refl v43.heap.size)
      clear ho43 hnd43 hf43
      clear hbz
      go_wp2_with fail
      refine (toTotalS_c lb _ _ _ _ w.heap.size HR_lb.out HB_lb.out (by omega)).mono ?_
      rintro e v45 ⟨A45, n45, c45, fp45, rfl, ho45, hnd45, hf45, hbz⟩
      have HR_la := Lib.hid (HR_la.out.keep fun b hb' => hbz.block b (Nat.lt_of_lt_of_le hb' HB_la.out))
      have HB_la := Lib.hid (Nat.le_trans HB_la.out hbz.size)
      have HR_lb := Lib.hid (HR_lb.out.keep fun b hb' => hbz.block b (Nat.lt_of_lt_of_le hb' HB_lb.out))
      have HB_lb := Lib.hid (Nat.le_trans HB_lb.out hbz.size)
      have HW0 := Lib.hid (HW0.out.keep fun b hb' => hbz.block b (Nat.lt_of_lt_of_le hb' HW0_s.out))
      have HW0_s := Lib.hid (Nat.le_trans HW0_s.out hbz.size)
      have HXh_la := Lib.hid (HXh_la.out.keep fun b hb' => hbz.block b (Nat.lt_of_lt_of_le hb' HXh_la_s.out))
      have HXh_la_s := Lib.hid (Nat.le_trans HXh_la_s.out hbz.size)
      have OM := Lib.hid (OM.out.okeep fun b hb' => hbz.block b (OM.out.olt b hb'))
      have HT46 := Lib.hid (below_step HT44.out hbz)
      have HXh_lb := Lib.hid (ho45.weak (B := v45.heap.size) ho45.olt)
      have HXh_lb_s := Lib.hid (Nat.le_refl v45.heap.size)
      clear ho45 hnd45 hf45
      clear hbz
      go_wp2_with fail
      refine (implMergeTotals_c la _ _ _ lb _ _ _ _ _ (HXh_la.out.more HXh_la_s.out) (HXh_lb.out.more HXh_lb_s.out) (Nat.le_refl _)).mono ?_
      rintro e v47 ⟨A47, n47, c47, fp47, rfl, ho47, hnd47, hf47, hbz⟩
      have HR_la := Lib.hid (HR_la.out.keep fun b hb' => hbz.block b (Nat.lt_of_lt_of_le hb' HB_la.out))
      have HB_la := Lib.hid (Nat.le_trans HB_la.out hbz.size)
      have HR_lb := Lib.hid (HR_lb.out.keep fun b hb' => hbz.block b (Nat.lt_of_lt_of_le hb' HB_lb.out))
      have HB_lb := Lib.hid (Nat.le_trans HB_lb.out hbz.size)
      have HW0 := Lib.hid (HW0.out.keep fun b hb' => hbz.block b (Nat.lt_of_lt_of_le hb' HW0_s.out))
      have HW0_s := Lib.hid (Nat.le_trans HW0_s.out hbz.size)
      have HXh_la := Lib.hid (HXh_la.out.keep fun b hb' => hbz.block b (Nat.lt_of_lt_of_le hb' HXh_la_s.out))
      have HXh_la_s := Lib.hid (Nat.le_trans HXh_la_s.out hbz.size)
      have HXh_lb := Lib.hid (HXh_lb.out.keep fun b hb' => hbz.block b (Nat.lt_of_lt_of_le hb' HXh_lb_s.out))
      have HXh_lb_s := Lib.hid (Nat.le_trans HXh_lb_s.out hbz.size)
      have OM := Lib.hid (OM.out.okeep fun b hb' => hbz.block b (OM.out.olt b hb'))
      have HT48 := Lib.hid (below_step HT46.out hbz)
      have HH := Lib.hid (ho47.weak (B := v47.heap.size) ho47.olt)
      have HH_s := Lib.hid (Nat.le_refl v47.heap.size)
      clear ho47 hnd47 hf47
      clear hbz
      go_wp2_with fail
      refine (eqTotalS_c (Pl.tmerge la lb).1 _ _ _ _ _ _ _ _ (HH.out.more HH_s.out) (HW0.out.more HW0_s.out) (Nat.le_refl _)).mono ?_
      rintro e v49 ⟨rfl, hbz⟩
      have HR_la := Lib.hid (HR_la.out.keep fun b hb' => hbz.block b (Nat.lt_of_lt_of_le hb' HB_la.out))
      have HB_la := Lib.hid (Nat.le_trans HB_la.out hbz.size)
      have HR_lb := Lib.hid (HR_lb.out.keep fun b hb' => hbz.block b (Nat.lt_of_lt_of_le hb' HB_lb.out))
      have HB_lb := Lib.hid (Nat.le_trans HB_lb.out hbz.size)
      have HW0 := Lib.hid (HW0.out.keep fun b hb' => hbz.block b (Nat.lt_of_lt_of_le hb' HW0_s.out))
      have HW0_s := Lib.hid (Nat.le_trans HW0_s.out hbz.size)
      have HH := Lib.hid (HH.out.keep fun b hb' => hbz.block b (Nat.lt_of_lt_of_le hb' HH_s.out))
      have HH_s := Lib.hid (Nat.le_trans HH_s.out hbz.size)
      have OM := Lib.hid (OM.out.okeep fun b hb' => hbz.block b (OM.out.olt b hb'))
      have HT50 := Lib.hid (below_step HT48.out hbz)
      clear hbz
      go_wp2_with fail
      refine (heldTotalS_c (Pl.tmerge la lb).1 _ _ _ _ _ _ (OM.out.weak (B := _) OM.out.olt) (Nat.le_refl _) (by omega) (by rw [HCG.out]; omega)).mono ?_
      rintro e v51 ⟨rfl, hbz⟩
      rw [HCG.out]
      have HR_la := Lib.hid (HR_la.out.keep fun b hb' => hbz.block b (Nat.lt_of_lt_of_le hb' HB_la.out))
      have HB_la := Lib.hid (Nat.le_trans HB_la.out hbz.size)
      have HR_lb := Lib.hid (HR_lb.out.keep fun b hb' => hbz.block b (Nat.lt_of_lt_of_le hb' HB_lb.out))
      have HB_lb := Lib.hid (Nat.le_trans HB_lb.out hbz.size)
      have HW0 := Lib.hid (HW0.out.keep fun b hb' => hbz.block b (Nat.lt_of_lt_of_le hb' HW0_s.out))
      have HW0_s := Lib.hid (Nat.le_trans HW0_s.out hbz.size)
      have HH := Lib.hid (HH.out.keep fun b hb' => hbz.block b (Nat.lt_of_lt_of_le hb' HH_s.out))
      have HH_s := Lib.hid (Nat.le_trans HH_s.out hbz.size)
      have OM := Lib.hid (OM.out.okeep fun b hb' => hbz.block b (OM.out.olt b hb'))
      have HT52 := Lib.hid (below_step HT50.out hbz)
      clear hbz
      go_wp2
      go_ret
      exact ⟨rfl, HT52.out⟩
end Go.Proofs.Ytnppcdiicnofpaa

/-
  The statement of FnExactMergeTotals: for every input the law returns true, and every argument reads afterwards as it read before. No conditions.
-/
namespace Go.Proofs.Ytnppcdiicnofpaa.fnExactMergeTotals
open Go.ChangeShapes Go.WideShapes Go.ChangeAt Go.RowKit
open Go.ChangeMaps (open_string shut_string)
set_option linter.unusedVariables false

theorem own : ownKnob Try.prog.godebug = none := by kernel_rfl
theorem laidOut : laidOutB Try.prog = true := by kernel_rfl

set_option maxRecDepth 100000 in
theorem lifted (os : Os) (started : os.Started) (H : Type) (enc : TypeId × Value → H) :
    ReturnsInHanded {} Try.checked os 5 .any (Rows.fnExactMergeTotalsSpec.pre6 enc Try.prog Try.f5 Rows.fnExactMergeTotalsRow.domain false) (Rows.fnExactMergeTotalsSpec.post enc Try.prog Try.f5 false true false false) := by
  refine returnsInHanded_of_change (C := Try.checked) own started (by kernel_rfl) Try.func5
    (ChangeSpec.witness6 (enc := enc) (C := Try.checked) false ⟨#[], #[.slice none 0 0, .slice none 0 0], []⟩ 8 (by kernel_rfl) (by kernel_rfl) (by kernel_rfl) (by kernel_rfl)) ?_
  intro W base args ds gs before hval0 hW hcnd _
  have hval : ∀ (j : Nat) t v, Try.f5.params[j]? = some t → args[j]? = some v → Value.okWide Try.prog W .any base t v := hval0
  have hW' := hW
  obtain ⟨p, q, hA0, hV, rfl, hfz, hnd⟩ := hW
  have hA : DataW.TrodAll enc Try.prog W 0 (fun _ => true) true Try.f5.params.toList args.toList ds p := hA0
  rw [Try.params5] at hA hval
  obtain ⟨v0, vs0, d0, ds0, p0, q0, hargs, rfl, rfl, h0, r0⟩ := trodAll_cons hA
  obtain ⟨v1, vs1, d1, ds1, p1, q1, rfl, rfl, rfl, h1, r1⟩ := trodAll_cons r0
  obtain ⟨rfl, rfl, rfl⟩ := trodAll_nil r1
  obtain rfl : args = #[v0, v1] := by cases args; simp_all
  obtain ⟨rfl, rfl⟩ := trodVars_none hV
  have k0 := h0
  have lt0 : ∀ x ∈ p0, x.block < W.heap.size := by obtain ⟨m, hm⟩ := k0; exact DataW.trod_lt m _ _ _ hm
  have k1 := h1
  have lt1 : ∀ x ∈ p1, x.block < W.heap.size := by obtain ⟨m, hm⟩ := k1; exact DataW.trod_lt m _ _ _ hm
  obtain ⟨A0, n0, c0, a0, rfl, w0⟩ := Mm.open_sl opens_TotalS Try.underlying22 (hval 0 22 v0 rfl rfl) h0
  obtain ⟨A1, n1, c1, a1, rfl, w1⟩ := Mm.open_sl opens_TotalS Try.underlying22 (hval 1 22 v1 rfl rfl) h1
  clear hA0 hval0
  refine (walk_FnExactMergeTotals A0 n0 c0 a0 A1 n1 c1 a1 W w0 w1).mono fun e W' ⟨he, bel⟩ => ?_
  subst he
  exact ⟨_, rfl, _, _, _, [], _, [], hW', trodAll_mk1 (shut_bool Try.underlying4 _), (trodAll_cons_mk (Below.trod laidOut (by kernel_rfl) (of_decide_eq_true (by kernel_rfl)) k0 bel lt0) (trodAll_cons_mk (Below.trod laidOut (by kernel_rfl) (of_decide_eq_true (by kernel_rfl)) k1 bel lt1) trodAll_mk0)), rfl, bel.frame _, fun h => by cases h⟩

theorem over : Rows.fnExactMergeTotalsRow.holds Try.pinned (OpenSpec.ofChange Rows.fnExactMergeTotalsSpec) :=
  OpenClaim.holds_of_wide 5 Try.f5 rfl rfl rfl rfl rfl rfl rfl ⟨rfl, rfl, rfl, rfl, rfl⟩ rfl rfl rfl rfl rfl (by kernel_rfl) Try.func5 (by kernel_rfl)
    (of_decide_eq_true (by kernel_rfl)) (by unfold Func.isWrapper; first | (rw [if_pos (by decide +kernel)]; kernel_rfl) | (rw [if_neg (by decide +kernel)]; exact ⟨rfl, rfl⟩))
    (fun os started H enc _ => lifted os started H enc)

theorem proved : Rows.FnExactMergeTotalsSaid := over
#print axioms proved
end Go.Proofs.Ytnppcdiicnofpaa.fnExactMergeTotals
