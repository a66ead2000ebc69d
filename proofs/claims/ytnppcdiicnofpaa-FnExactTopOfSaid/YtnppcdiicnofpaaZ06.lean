/-
  Joined texts, in build order: LwTopOf, LawTopOf. Each part says what it proves; no conditions beyond those that a part names.
-/
import Derived.Test.YtnppcdiicnofpaaZ04
import Derived.Test.YtnppcdiicnofpaaZ05
import Derived.Test.YtnppcdiicnofpaaRows
import Derived.WalkKit
import Derived.ProofKit
import Derived.OpenShut
import Derived.ShutString
import Derived.ChangeOld
import Derived.Below
/-
  The walk of the law on TopOf. No conditions.
-/
namespace Go.Proofs.Ytnppcdiicnofpaa
open Go.RowKit
theorem topOf_cnt (l : List Total) (op many : Int) : Mm.cntL Pl.cnt1 (Pl.topOf l op many).1 ≤ 50000000 := by
  have h2 : ∀ m : List Int, Mm.cntL Pl.cnt1 m = m.length := by
    intro m
    induction m with
    | nil => rfl
    | cons x t ih => rw [Mm.cntL_cons, ih, List.length_cons]; unfold Pl.cnt1; omega
  rw [h2]
  unfold Pl.topOf
  split
  · rename_i hc
    unfold Pl.topOk at hc
    rw [Bool.and_eq_true, Bool.and_eq_true] at hc
    have := Pl.totalsOk_len hc.1.1
    show ((((Pl.topTo (Pl.valAt (Pl.totalValues l op)) l.length).take many.toNat).length : Nat) : Int) ≤ _
    rw [List.length_take, Pl.topTo_len]; omega
  · simp
set_option maxRecDepth 100000 in
set_option maxHeartbeats 4000000 in
theorem walk_FnExactTopOf (A_l : Option Addr) (n_l c_l : Nat) (l : (List Total)) (op : Int) (_wop : (Lit.int .i64 op).wf = true) (many : Int) (_wmany : (Lit.int .i64 many).wf = true) (w : World) (r_l : Mm.SlAt rTotal w w.heap.size l A_l n_l c_l) :
    Calls Try.prog 4 #[.slice A_l n_l c_l, .int .i64 op, .int .i64 many] w fun e w' => e = .returned (.bool true) ∧ Below w.heap.size w w' := by
  have hn_l : n_l ≤ maxLen := Nat.le_trans r_l.2.1 r_l.2.2.1
  have zn_l := Pl.szl_nn (f := Pl.szTotal) (Pl.szTotal_nn) l
  have HT0 := Lib.hid (show Below w.heap.size w w from (Below.refl w.heap.size w))
  have HR_l := Lib.hid (r_l.below HT0.out)
  have HB_l := Lib.hid HT0.out.size
  clear r_l
  by_cases t_l : (1048576 - (Pl.szl Pl.szTotal) l : Int) < 0
  · skip
    go_enter Try.func4, Try.ntmps4
    go_wp2_with fail
    refine (szTotalS_c l _ _ _ _ _ w.heap.size HR_l.out HB_l.out (by omega) (by omega)).mono ?_
    rintro e y1 ⟨rfl, hbz⟩
    rw [Pl.szRet_lt (by omega)]
    have HR_l := Lib.hid (HR_l.out.keep fun b hb' => hbz.block b (Nat.lt_of_lt_of_le hb' HB_l.out))
    have HB_l := Lib.hid (Nat.le_trans HB_l.out hbz.size)
    have HT2 := Lib.hid (below_step HT0.out hbz)
    clear hbz
    go_wp2
    go_ret
    exact ⟨rfl, HT2.out⟩
  · skip
    go_enter Try.func4, Try.ntmps4
    go_wp2_with fail
    refine (szTotalS_c l _ _ _ _ _ w.heap.size HR_l.out HB_l.out (by omega) (by omega)).mono ?_
    rintro e y3 ⟨rfl, hbz⟩
    rw [Pl.szRet_ge (by omega)]
    have HR_l := Lib.hid (HR_l.out.keep fun b hb' => hbz.block b (Nat.lt_of_lt_of_le hb' HB_l.out))
    have HB_l := Lib.hid (Nat.le_trans HB_l.out hbz.size)
    have HT4 := Lib.hid (below_step HT0.out hbz)
    clear hbz
    go_wp2_with fail
    refine (toTotalS_c l _ _ _ _ w.heap.size HR_l.out HB_l.out (by omega)).mono ?_
    rintro e v5 ⟨A5, n5, c5, fp5, rfl, ho5, hnd5, hf5, hbz⟩
    have HR_l := Lib.hid (HR_l.out.keep fun b hb' => hbz.block b (Nat.lt_of_lt_of_le hb' HB_l.out))
    have HB_l := Lib.hid (Nat.le_trans HB_l.out hbz.size)
    have HT6 := Lib.hid (below_step HT4.out hbz)
    have HXs_l := Lib.hid (ho5.weak (B := v5.heap.size) ho5.olt)
    have HXs_l_s := Lib.hid (Nat.le_refl v5.heap.size)
    clear ho5 hnd5 hf5
    clear hbz
    go_wp2_with fail
    refine (specTopOf_c l _ _ _ op many _ _ (HXs_l.out.more HXs_l_s.out) (Nat.le_refl _)).mono ?_
    rintro e v7 ⟨A7, n7, c7, fp7, rfl, ho7, hnd7, hf7, hbz⟩
    have HR_l := Lib.hid (HR_l.out.keep fun b hb' => hbz.block b (Nat.lt_of_lt_of_le hb' HB_l.out))
    have HB_l := Lib.hid (Nat.le_trans HB_l.out hbz.size)
    have HXs_l := Lib.hid (HXs_l.out.keep fun b hb' => hbz.block b (Nat.lt_of_lt_of_le hb' HXs_l_s.out))
    have HXs_l_s := Lib.hid (Nat.le_trans HXs_l_s.out hbz.size)
    have HT8 := Lib.hid (below_step HT6.out hbz)
    have HW0 := Lib.hid (ho7.weak (B := v7.heap.size) ho7.olt)
    have HW0_s := Lib.hid (Nat.le_refl v7.heap.size)
    clear ho7 hnd7 hf7
    clear hbz
    go_wp2_with fail
    refine (toTotalS_c l _ _ _ _ w.heap.size HR_l.out HB_l.out (by omega)).mono ?_
    rintro e v9 ⟨A9, n9, c9, fp9, rfl, ho9, hnd9, hf9, hbz⟩
    have AP9_HR_l := Lib.hid (show ∀ b, b ∈ fp9 → w.heap.size ≤ b from fun b hb' => Nat.le_trans HB_l.out (hf9 b hb'))
    have AP9_HW0 := Lib.hid (show ∀ b, b ∈ fp9 → v7.heap.size ≤ b from fun b hb' => Nat.le_trans HW0_s.out (hf9 b hb'))
    have FR9 := Lib.hid (show ∀ b, b ∈ fp9 → w.heap.size ≤ b from fun b hb' => Nat.le_trans HT8.out.size (hf9 b hb'))
    have ND9 := Lib.hid hnd9
    have LT9 := Lib.hid (show ∀ b, b ∈ fp9 → b < v9.heap.size from ho9.olt)
    have HR_l := Lib.hid (HR_l.out.keep fun b hb' => hbz.block b (Nat.lt_of_lt_of_le hb' HB_l.out))
    have HB_l := Lib.hid (Nat.le_trans HB_l.out hbz.size)
    have HW0 := Lib.hid (HW0.out.keep fun b hb' => hbz.block b (Nat.lt_of_lt_of_le hb' HW0_s.out))
    have HW0_s := Lib.hid (Nat.le_trans HW0_s.out hbz.size)
    have HT10 := Lib.hid (below_step HT8.out hbz)
    have HXx_l := Lib.hid (ho9.weak (B := v9.heap.size) ho9.olt)
    have HXx_l_s := Lib.hid (Nat.le_refl v9.heap.size)
    have OX_l := Lib.hid ho9
    clear ho9 hnd9 hf9
    clear hbz
    go_wp2_with fail
    refine (implTopOf_c l _ _ _ op many _ _ (HXx_l.out.more HXx_l_s.out) (Nat.le_refl _)).mono ?_
    rintro e v11 ⟨A11, n11, c11, fp11, rfl, ho11, hnd11, hf11, hbz⟩
    have AP11_HR_l := Lib.hid (show ∀ b, b ∈ fp11 → w.heap.size ≤ b from fun b hb' => Nat.le_trans HB_l.out (hf11 b hb'))
    have AP11_HW0 := Lib.hid (show ∀ b, b ∈ fp11 → v7.heap.size ≤ b from fun b hb' => Nat.le_trans HW0_s.out (hf11 b hb'))
    have AP11_HXx_l := Lib.hid (show ∀ b, b ∈ fp11 → v9.heap.size ≤ b from fun b hb' => Nat.le_trans HXx_l_s.out (hf11 b hb'))
    have DP11_OX_l := Lib.hid (show ∀ b, b ∈ fp11 → b ∉ fp9 from fun b hb' hm => by have := OX_l.out.olt b hm; have := hf11 b hb'; omega)
    have FR11 := Lib.hid (show ∀ b, b ∈ fp11 → w.heap.size ≤ b from fun b hb' => Nat.le_trans HT10.out.size (hf11 b hb'))
    have ND11 := Lib.hid hnd11
    have LT11 := Lib.hid (show ∀ b, b ∈ fp11 → b < v11.heap.size from ho11.olt)
    have HR_l := Lib.hid (HR_l.out.keep fun b hb' => hbz.block b (Nat.lt_of_lt_of_le hb' HB_l.out))
    have HB_l := Lib.hid (Nat.le_trans HB_l.out hbz.size)
    have HW0 := Lib.hid (HW0.out.keep fun b hb' => hbz.block b (Nat.lt_of_lt_of_le hb' HW0_s.out))
    have HW0_s := Lib.hid (Nat.le_trans HW0_s.out hbz.size)
    have HXx_l := Lib.hid (HXx_l.out.keep fun b hb' => hbz.block b (Nat.lt_of_lt_of_le hb' HXx_l_s.out))
    have HXx_l_s := Lib.hid (Nat.le_trans HXx_l_s.out hbz.size)
    have OX_l := Lib.hid (OX_l.out.okeep fun b hb' => hbz.block b (OX_l.out.olt b hb'))
    have HT12 := Lib.hid (below_step HT10.out hbz)
    have OG := Lib.hid ho11
    clear ho11 hnd11 hf11
    clear hbz
    go_wp2_with fail
    refine (eqIntS_c (Pl.topOf l op many).1 _ _ _ _ _ _ _ _ (OG.out.weak (B := _) OG.out.olt) (HW0.out.more HW0_s.out) (Nat.le_refl _)).mono ?_
    rintro e v13 ⟨rfl, hbz⟩
    have HR_l := Lib.hid (HR_l.out.keep fun b hb' => hbz.block b (Nat.lt_of_lt_of_le hb' HB_l.out))
    have HB_l := Lib.hid (Nat.le_trans HB_l.out hbz.size)
    have HW0 := Lib.hid (HW0.out.keep fun b hb' => hbz.block b (Nat.lt_of_lt_of_le hb' HW0_s.out))
    have HW0_s := Lib.hid (Nat.le_trans HW0_s.out hbz.size)
    have HXx_l := Lib.hid (HXx_l.out.keep fun b hb' => hbz.block b (Nat.lt_of_lt_of_le hb' HXx_l_s.out))
    have HXx_l_s := Lib.hid (Nat.le_trans HXx_l_s.out hbz.size)
    have OX_l := Lib.hid (OX_l.out.okeep fun b hb' => hbz.block b (OX_l.out.olt b hb'))
    have OG := Lib.hid (OG.out.okeep fun b hb' => hbz.block b (OG.out.olt b hb'))
    have HT14 := Lib.hid (below_step HT12.out hbz)
    clear hbz
    go_wp2_with fail
    refine (toTotalS_c l _ _ _ _ w.heap.size HR_l.out HB_l.out (by omega)).mono ?_
    rintro e v15 ⟨A15, n15, c15, fp15, rfl, ho15, hnd15, hf15, hbz⟩
    have HR_l := Lib.hid (HR_l.out.keep fun b hb' => hbz.block b (Nat.lt_of_lt_of_le hb' HB_l.out))
    have HB_l := Lib.hid (Nat.le_trans HB_l.out hbz.size)
    have HW0 := Lib.hid (HW0.out.keep fun b hb' => hbz.block b (Nat.lt_of_lt_of_le hb' HW0_s.out))
    have HW0_s := Lib.hid (Nat.le_trans HW0_s.out hbz.size)
    have HXx_l := Lib.hid (HXx_l.out.keep fun b hb' => hbz.block b (Nat.lt_of_lt_of_le hb' HXx_l_s.out))
    have HXx_l_s := Lib.hid (Nat.le_trans HXx_l_s.out hbz.size)
    have OX_l := Lib.hid (OX_l.out.okeep fun b hb' => hbz.block b (OX_l.out.olt b hb'))
    have OG := Lib.hid (OG.out.okeep fun b hb' => hbz.block b (OG.out.olt b hb'))
    have HT16 := Lib.hid (below_step HT14.out hbz)
    have HXz_l := Lib.hid (ho15.weak (B := v15.heap.size) ho15.olt)
    have HXz_l_s := Lib.hid (Nat.le_refl v15.heap.size)
    clear ho15 hnd15 hf15
    clear hbz
    go_wp2_with fail
    refine (eqTotalS_c l _ _ _ _ _ _ _ v15.heap.size (HXx_l.out.more HXx_l_s.out) HXz_l.out (Nat.le_refl _)).mono ?_
    rintro e v17 ⟨rfl, hbz⟩
    have HR_l := Lib.hid (HR_l.out.keep fun b hb' => hbz.block b (Nat.lt_of_lt_of_le hb' HB_l.out))
    have HB_l := Lib.hid (Nat.le_trans HB_l.out hbz.size)
    have HW0 := Lib.hid (HW0.out.keep fun b hb' => hbz.block b (Nat.lt_of_lt_of_le hb' HW0_s.out))
    have HW0_s := Lib.hid (Nat.le_trans HW0_s.out hbz.size)
    have HXx_l := Lib.hid (HXx_l.out.keep fun b hb' => hbz.block b (Nat.lt_of_lt_of_le hb' HXx_l_s.out))
    have HXx_l_s := Lib.hid (Nat.le_trans HXx_l_s.out hbz.size)
    have HXz_l := Lib.hid (HXz_l.out.keep fun b hb' => hbz.block b (Nat.lt_of_lt_of_le hb' HXz_l_s.out))
    have HXz_l_s := Lib.hid (Nat.le_trans HXz_l_s.out hbz.size)
    have OX_l := Lib.hid (OX_l.out.okeep fun b hb' => hbz.block b (OX_l.out.olt b hb'))
    have OG := Lib.hid (OG.out.okeep fun b hb' => hbz.block b (OG.out.olt b hb'))
    have HT18 := Lib.hid (below_step HT16.out hbz)
    clear hbz
    have hcn_l := Mm.cntL_nn (cnt := Pl.cntTotal) (Pl.cntTotal_nn) l
    have hcb_l : (Mm.cntL Pl.cntTotal) l ≤ 50000000 := by have := Pl.cntLb (cnt := Pl.cntTotal) (f := Pl.szTotal) (Pl.cntbTotal) l; omega
    go_wp2_with fail
    refine (markTotalS_c l _ _ _ _ _ _ OX_l.out ND9.out (by omega) (by omega)).mono ?_
    rintro e v19 ⟨rfl, hch, -⟩
    have HR_l := Lib.hid (HR_l.out.keep fun b hb' => hch.block b (Nat.lt_of_lt_of_le hb' HB_l.out) (fun hm => by have := AP9_HR_l.out b hm; omega))
    have HB_l := Lib.hid (Nat.le_trans HB_l.out hch.size)
    have HW0 := Lib.hid (HW0.out.keep fun b hb' => hch.block b (Nat.lt_of_lt_of_le hb' HW0_s.out) (fun hm => by have := AP9_HW0.out b hm; omega))
    have HW0_s := Lib.hid (Nat.le_trans HW0_s.out hch.size)
    have OG := Lib.hid (OG.out.okeep fun b hb' => hch.block b (OG.out.olt b hb') (fun hm => DP11_OX_l.out b hb' hm))
    have HT20 := Lib.hid (Mm.Below.chg HT18.out hch HT18.out.size FR9.out)
    clear hch
    go_wp2_with fail
    refine (eqIntS_c (Pl.topOf l op many).1 _ _ _ _ _ _ _ _ (OG.out.weak (B := _) OG.out.olt) (HW0.out.more HW0_s.out) (Nat.le_refl _)).mono ?_
    rintro e v21 ⟨rfl, hbz⟩
    have HR_l := Lib.hid (HR_l.out.keep fun b hb' => hbz.block b (Nat.lt_of_lt_of_le hb' HB_l.out))
    have HB_l := Lib.hid (Nat.le_trans HB_l.out hbz.size)
    have HW0 := Lib.hid (HW0.out.keep fun b hb' => hbz.block b (Nat.lt_of_lt_of_le hb' HW0_s.out))
    have HW0_s := Lib.hid (Nat.le_trans HW0_s.out hbz.size)
    have OG := Lib.hid (OG.out.okeep fun b hb' => hbz.block b (OG.out.olt b hb'))
    have HT22 := Lib.hid (below_step HT20.out hbz)
    clear hbz
    have hcg : 0 ≤ (Mm.cntL Pl.cnt1) (Pl.topOf l op many).1 := Mm.cntL_nn (cnt := Pl.cnt1) (Pl.cnt1_nn) (Pl.topOf l op many).1
    have hcgb : (Mm.cntL Pl.cnt1) (Pl.topOf l op many).1 ≤ 50000000 := (topOf_cnt l op many)
    obtain ⟨cg, hcge⟩ : ∃ z, (Mm.cntL Pl.cnt1) (Pl.topOf l op many).1 = z := ⟨_, rfl⟩
    rw [hcge] at hcg hcgb
    have HCG := Lib.hid hcge
    clear hcge
    go_wp2_with fail
    refine (markIntS_c (Pl.topOf l op many).1 _ _ _ _ _ _ OG.out ND11.out (by omega) (by rw [HCG.out]; omega)).mono ?_
    rintro e v23 ⟨rfl, hch, fpm, hom, hndm, hsubm⟩
    rw [HCG.out]
    have HR_l := Lib.hid (HR_l.out.keep fun b hb' => hch.block b (Nat.lt_of_lt_of_le hb' HB_l.out) (fun hm => by have := AP11_HR_l.out b hm; omega))
    have HB_l := Lib.hid (Nat.le_trans HB_l.out hch.size)
    have HW0 := Lib.hid (HW0.out.keep fun b hb' => hch.block b (Nat.lt_of_lt_of_le hb' HW0_s.out) (fun hm => by have := AP11_HW0.out b hm; omega))
    have HW0_s := Lib.hid (Nat.le_trans HW0_s.out hch.size)
    have HT24 := Lib.hid (Mm.Below.chg HT22.out hch HT22.out.size FR11.out)
    clear hch
    have OM := Lib.hid hom
    clear hom hndm hsubm
    go_wp2_with fail
    refine (heldIntS_c (Pl.topOf l op many).1 _ _ _ _ _ _ (OM.out.weak (B := _) OM.out.olt) (Nat.le_refl _) (by omega) (by rw [HCG.out]; omega)).mono ?_
    rintro e v25 ⟨rfl, hbz⟩
    rw [HCG.out]
    have HR_l := Lib.hid (HR_l.out.keep fun b hb' => hbz.block b (Nat.lt_of_lt_of_le hb' HB_l.out))
    have HB_l := Lib.hid (Nat.le_trans HB_l.out hbz.size)
    have HW0 := Lib.hid (HW0.out.keep fun b hb' => hbz.block b (Nat.lt_of_lt_of_le hb' HW0_s.out))
    have HW0_s := Lib.hid (Nat.le_trans HW0_s.out hbz.size)
    have OM := Lib.hid (OM.out.okeep fun b hb' => hbz.block b (OM.out.olt b hb'))
    have HT26 := Lib.hid (below_step HT24.out hbz)
    clear hbz
    go_wp2_with fail
    refine (toTotalS_c l _ _ _ _ w.heap.size HR_l.out HB_l.out (by omega)).mono ?_
    rintro e v27 ⟨A27, n27, c27, fp27, rfl, ho27, hnd27, hf27, hbz⟩
    have HR_l := Lib.hid (HR_l.out.keep fun b hb' => hbz.block b (Nat.lt_of_lt_of_le hb' HB_l.out))
    have HB_l := Lib.hid (Nat.le_trans HB_l.out hbz.size)
    have HW0 := Lib.hid (HW0.out.keep fun b hb' => hbz.block b (Nat.lt_of_lt_of_le hb' HW0_s.out))
    have HW0_s := Lib.hid (Nat.le_trans HW0_s.out hbz.size)
    have OM := Lib.hid (OM.out.okeep fun b hb' => hbz.block b (OM.out.olt b hb'))
    have HT28 := Lib.hid (below_step HT26.out hbz)
    have HXh_l := Lib.hid (ho27.weak (B := v27.heap.size) ho27.olt)
    have HXh_l_s := Lib.hid (Nat.le_refl v27.heap.size)
    clear ho27 hnd27 hf27
    clear hbz
    go_wp2_with fail
    refine (implTopOf_c l _ _ _ op many _ _ (HXh_l.out.more HXh_l_s.out) (Nat.le_refl _)).mono ?_
    rintro e v29 ⟨A29, n29, c29, fp29, rfl, ho29, hnd29, hf29, hbz⟩
    have HR_l := Lib.hid (HR_l.out.keep fun b hb' => hbz.block b (Nat.lt_of_lt_of_le hb' HB_l.out))
    have HB_l := Lib.hid (Nat.le_trans HB_l.out hbz.size)
    have HW0 := Lib.hid (HW0.out.keep fun b hb' => hbz.block b (Nat.lt_of_lt_of_le hb' HW0_s.out))
    have HW0_s := Lib.hid (Nat.le_trans HW0_s.out hbz.size)
    have HXh_l := Lib.hid (HXh_l.out.keep fun b hb' => hbz.block b (Nat.lt_of_lt_of_le hb' HXh_l_s.out))
    have HXh_l_s := Lib.hid (Nat.le_trans HXh_l_s.out hbz.size)
    have OM := Lib.hid (OM.out.okeep fun b hb' => hbz.block b (OM.out.olt b hb'))
    have HT30 := Lib.hid (below_step HT28.out hbz)
    have HH := Lib.hid (ho29.weak (B := v29.heap.size) ho29.olt)
    have HH_s := Lib.hid (Nat.le_refl v29.heap.size)
    clear ho29 hnd29 hf29
    clear hbz
    go_wp2_with fail
    refine (eqIntS_c (Pl.topOf l op many).1 _ _ _ _ _ _ _ _ (HH.out.more HH_s.out) (HW0.out.more HW0_s.out) (Nat.le_refl _)).mono ?_
    rintro e v31 ⟨rfl, hbz⟩
    have HR_l := Lib.hid (HR_l.out.keep fun b hb' => hbz.block b (Nat.lt_of_lt_of_le hb' HB_l.out))
    have HB_l := Lib.hid (Nat.le_trans HB_l.out hbz.size)
    have HW0 := Lib.hid (HW0.out.keep fun b hb' => hbz.block b (Nat.lt_of_lt_of_le hb' HW0_s.out))
    have HW0_s := Lib.hid (Nat.le_trans HW0_s.out hbz.size)
    have HH := Lib.hid (HH.out.keep fun b hb' => hbz.block b (Nat.lt_of_lt_of_le hb' HH_s.out))
    have HH_s := Lib.hid (Nat.le_trans HH_s.out hbz.size)
    have OM := Lib.hid (OM.out.okeep fun b hb' => hbz.block b (OM.out.olt b hb'))
    have HT32 := Lib.hid (below_step HT30.out hbz)
    clear hbz
    go_wp2_with fail
    refine (heldIntS_c (Pl.topOf l op many).1 _ _ _ _ _ _ (OM.out.weak (B := _) OM.out.olt) (Nat.le_refl _) (by omega) (by rw [HCG.out]; omega)).mono ?_
    rintro e v33 ⟨rfl, hbz⟩
    rw [HCG.out]
    have HR_l := Lib.hid (HR_l.out.keep fun b hb' => hbz.block b (Nat.lt_of_lt_of_le hb' HB_l.out))
    have HB_l := Lib.hid (Nat.le_trans HB_l.out hbz.size)
    have HW0 := Lib.hid (HW0.out.keep fun b hb' => hbz.block b (Nat.lt_of_lt_of_le hb' HW0_s.out))
    have HW0_s := Lib.hid (Nat.le_trans HW0_s.out hbz.size)
    have HH := Lib.hid (HH.out.keep fun b hb' => hbz.block b (Nat.lt_of_lt_of_le hb' HH_s.out))
    have HH_s := Lib.hid (Nat.le_trans HH_s.out hbz.size)
    have OM := Lib.hid (OM.out.okeep fun b hb' => hbz.block b (OM.out.olt b hb'))
    have HT34 := Lib.hid (below_step HT32.out hbz)
    clear hbz
    go_wp2
    go_ret
    exact ⟨rfl, HT34.out⟩
end Go.Proofs.Ytnppcdiicnofpaa

/-
  The statement of FnExactTopOf: for every input the law returns true, and every argument reads afterwards as it read before. No conditions.
-/
namespace Go.Proofs.Ytnppcdiicnofpaa.fnExactTopOf
open Go.ChangeShapes Go.WideShapes Go.ChangeAt Go.RowKit
open Go.ChangeMaps (open_string shut_string)
set_option linter.unusedVariables false

theorem own : ownKnob Try.prog.godebug = none := by kernel_rfl
theorem laidOut : laidOutB Try.prog = true := by kernel_rfl

set_option maxRecDepth 100000 in
theorem lifted (os : Os) (started : os.Started) (H : Type) (enc : TypeId × Value → H) :
    ReturnsInHanded {} Try.checked os 4 .any (Rows.fnExactTopOfSpec.pre6 enc Try.prog Try.f4 Rows.fnExactTopOfRow.domain false) (Rows.fnExactTopOfSpec.post enc Try.prog Try.f4 false true false false) := by
  refine returnsInHanded_of_change (C := Try.checked) own started (by kernel_rfl) Try.func4
    (ChangeSpec.witness6 (enc := enc) (C := Try.checked) false ⟨#[], #[.slice none 0 0, .int .i64 0, .int .i64 0], []⟩ 8 (by kernel_rfl) (by kernel_rfl) (by kernel_rfl) (by kernel_rfl)) ?_
  intro W base args ds gs before hval0 hW hcnd _
  have hval : ∀ (j : Nat) t v, Try.f4.params[j]? = some t → args[j]? = some v → Value.okWide Try.prog W .any base t v := hval0
  have hW' := hW
  obtain ⟨p, q, hA0, hV, rfl, hfz, hnd⟩ := hW
  have hA : DataW.TrodAll enc Try.prog W 0 (fun _ => true) true Try.f4.params.toList args.toList ds p := hA0
  rw [Try.params4] at hA hval
  obtain ⟨v0, vs0, d0, ds0, p0, q0, hargs, rfl, rfl, h0, r0⟩ := trodAll_cons hA
  obtain ⟨v1, vs1, d1, ds1, p1, q1, rfl, rfl, rfl, h1, r1⟩ := trodAll_cons r0
  obtain ⟨v2, vs2, d2, ds2, p2, q2, rfl, rfl, rfl, h2, r2⟩ := trodAll_cons r1
  obtain ⟨rfl, rfl, rfl⟩ := trodAll_nil r2
  obtain rfl : args = #[v0, v1, v2] := by cases args; simp_all
  obtain ⟨rfl, rfl⟩ := trodVars_none hV
  have k0 := h0
  have lt0 : ∀ x ∈ p0, x.block < W.heap.size := by obtain ⟨m, hm⟩ := k0; exact DataW.trod_lt m _ _ _ hm
  have k1 := h1
  have lt1 : ∀ x ∈ p1, x.block < W.heap.size := by obtain ⟨m, hm⟩ := k1; exact DataW.trod_lt m _ _ _ hm
  have k2 := h2
  have lt2 : ∀ x ∈ p2, x.block < W.heap.size := by obtain ⟨m, hm⟩ := k2; exact DataW.trod_lt m _ _ _ hm
  obtain ⟨A0, n0, c0, a0, rfl, w0⟩ := Mm.open_sl opens_TotalS Try.underlying22 (hval 0 22 v0 rfl rfl) h0
  obtain ⟨a1, rfl, _, _, w1⟩ := open_int Try.underlying3 (hval 1 3 v1 rfl rfl) h1
  obtain ⟨a2, rfl, _, _, w2⟩ := open_int Try.underlying3 (hval 2 3 v2 rfl rfl) h2
  clear hA0 hval0
  refine (walk_FnExactTopOf A0 n0 c0 a0 a1 w1 a2 w2 W w0).mono fun e W' ⟨he, bel⟩ => ?_
  subst he
  exact ⟨_, rfl, _, _, _, [], _, [], hW', trodAll_mk1 (shut_bool Try.underlying4 _), (trodAll_cons_mk (Below.trod laidOut (by kernel_rfl) (of_decide_eq_true (by kernel_rfl)) k0 bel lt0) (trodAll_cons_mk (Below.trod laidOut (by kernel_rfl) (of_decide_eq_true (by kernel_rfl)) k1 bel lt1) (trodAll_cons_mk (Below.trod laidOut (by kernel_rfl) (of_decide_eq_true (by kernel_rfl)) k2 bel lt2) trodAll_mk0))), rfl, bel.frame _, fun h => by cases h⟩

theorem over : Rows.fnExactTopOfRow.holds Try.pinned (OpenSpec.ofChange Rows.fnExactTopOfSpec) :=
  OpenClaim.holds_of_wide 4 Try.f4 rfl rfl rfl rfl rfl rfl rfl ⟨rfl, rfl, rfl, rfl, rfl⟩ rfl rfl rfl rfl rfl (by kernel_rfl) Try.func4 (by kernel_rfl)
    (of_decide_eq_true (by kernel_rfl)) (by unfold Func.isWrapper; first | (rw [if_pos (by decide +kernel)]; kernel_rfl) | (rw [if_neg (by decide +kernel)]; exact ⟨rfl, rfl⟩))
    (fun os started H enc _ => lifted os started H enc)

theorem proved : Rows.FnExactTopOfSaid := over
#print axioms proved
end Go.Proofs.Ytnppcdiicnofpaa.fnExactTopOf
