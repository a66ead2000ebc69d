/-
  Joined texts, in build order: LwPlayPlain, LawPlayPlain. Each part says what it proves; no conditions beyond those that a part names.
-/
import Derived.Test.YtkodfflnpalbbaaZ05
import Derived.Test.YtkodfflnpalbbaaZ06
import Derived.Test.YtkodfflnpalbbaaRows
import Derived.WalkKit
import Derived.ProofKit
import Derived.OpenShut
import Derived.ShutString
import Derived.ChangeOld
import Derived.Below
/-
  The walk of the law on PlayPlain. No conditions.
-/
namespace Go.Proofs.Ytkodfflnpalbbaa
open Go.RowKit
theorem cntL_le' {α : Type} {f : α → Int} {c : Int} : ∀ l : List α, (∀ x, x ∈ l → f x ≤ c) → Mm.cntL f l ≤ c * (l.length : Int)
  | [], _ => by simp [Mm.cntL]
  | x :: t, h => by
    have h1 := cntL_le' t (fun y hy => h y (List.mem_cons_of_mem _ hy))
    have h2 := h x List.mem_cons_self
    rw [Mm.cntL_cons, List.length_cons]
    have : c * ((t.length + 1 : Nat) : Int) = c * (t.length : Int) + c := by push_cast; rw [Int.mul_add, Int.mul_one]
    omega
theorem Pl.HW.cnt {h : Head} (k : Pl.HW h) : Pl.ctopHead h ≤ 50000000 := by
  have h0 : Mm.cntL Pl.cntRow h.Rows ≤ 100 * (h.Rows.length : Int) := cntL_le' _ (fun x hx => by
    have h1 := cntL_le' (f := Pl.cntSample) (c := 2) x.Samples (fun y _ => by unfold Pl.cntSample; omega)
    have h2 := (k.ne x hx).2
    unfold Pl.cntRow
    omega)
  have := k.len
  unfold Pl.ctopHead
  omega
theorem playPlain_cnt (l : List HouseStep) : Pl.ctopHead (Pl.playPlain l).1 ≤ 50000000 := by
  unfold Pl.playPlain
  split
  · exact (Pl.HW.zero.fold _).cnt
  · exact Pl.HW.zero.cnt
set_option maxRecDepth 100000 in
set_option maxHeartbeats 4000000 in
theorem walk_FnExactPlayPlain (A_l : Option Addr) (n_l c_l : Nat) (l : (List HouseStep)) (w : World) (r_l : Mm.SlAt rHouseStep w w.heap.size l A_l n_l c_l) :
    Calls Try.prog 4 #[.slice A_l n_l c_l] w fun e w' => e = .returned (.bool true) ∧ Below w.heap.size w w' := by
  have hn_l : n_l ≤ maxLen := Nat.le_trans r_l.2.1 r_l.2.2.1
  have zn_l := Pl.szl_nn (f := Pl.szHouseStep) (Pl.szHouseStep_nn) l
  have HT0 := Lib.hid (show Below w.heap.size w w from (Below.refl w.heap.size w))
  have HR_l := Lib.hid (r_l.below HT0.out)
  have HB_l := Lib.hid HT0.out.size
  clear r_l
  by_cases t_l : (1048576 - (Pl.szl Pl.szHouseStep) l : Int) < 0
  · skip
    go_enter Try.func4, Try.ntmps4
    go_wp2_with fail
    refine (szHouseStepS_c l _ _ _ _ _ w.heap.size HR_l.out HB_l.out (by omega) (by omega)).mono ?_
    rintro e y1 ⟨rfl, hbz⟩
    rw [Pl.szRet_lt (by omega)]
    have HR_l := Lib.hid (HR_l.out.keep fun b hb' => hbz.block b (Nat.lt_of_lt_of_le hb' HB_l.out))
    have HB_l := Lib.hid (Nat.le_trans HB_l.out hbz.size)
    have HT2 := Lib.hid (below_step HT0.out hbz)
    clear hbz
    go_wp2
    go_ret
    exact ⟨rfl, HT2.out⟩
  · skip
    go_enter Try.func4, Try.ntmps4
    go_wp2_with fail
    refine (szHouseStepS_c l _ _ _ _ _ w.heap.size HR_l.out HB_l.out (by omega) (by omega)).mono ?_
    rintro e y3 ⟨rfl, hbz⟩
    rw [Pl.szRet_ge (by omega)]
    have HR_l := Lib.hid (HR_l.out.keep fun b hb' => hbz.block b (Nat.lt_of_lt_of_le hb' HB_l.out))
    have HB_l := Lib.hid (Nat.le_trans HB_l.out hbz.size)
    have HT4 := Lib.hid (below_step HT0.out hbz)
    clear hbz
    go_wp2_with fail
    refine (toHouseStepS_c l _ _ _ _ w.heap.size HR_l.out HB_l.out (by omega)).mono ?_
    rintro e v5 ⟨A5, n5, c5, fp5, rfl, ho5, hnd5, hf5, hbz⟩
    have HR_l := Lib.hid (HR_l.out.keep fun b hb' => hbz.block b (Nat.lt_of_lt_of_le hb' HB_l.out))
    have HB_l := Lib.hid (Nat.le_trans HB_l.out hbz.size)
    have HT6 := Lib.hid (below_step HT4.out hbz)
    have HXs_l := Lib.hid (ho5.weak (B := v5.heap.size) ho5.olt)
    have HXs_l_s := Lib.hid (Nat.le_refl v5.heap.size)
    clear ho5 hnd5 hf5
    clear hbz
    go_wp2_with fail
    refine (specPlayPlain_c l _ _ _ _ _ (HXs_l.out.more HXs_l_s.out) (Nat.le_refl _)).mono ?_
    rintro e v7 ⟨cs7, fp7, rfl, ho7, hnd7, hf7, hbz⟩
    obtain ⟨A_7, n_7, c_7, _, rfl, -⟩ := rHead_own ho7
    have HR_l := Lib.hid (HR_l.out.keep fun b hb' => hbz.block b (Nat.lt_of_lt_of_le hb' HB_l.out))
    have HB_l := Lib.hid (Nat.le_trans HB_l.out hbz.size)
    have HXs_l := Lib.hid (HXs_l.out.keep fun b hb' => hbz.block b (Nat.lt_of_lt_of_le hb' HXs_l_s.out))
    have HXs_l_s := Lib.hid (Nat.le_trans HXs_l_s.out hbz.size)
    have HT8 := Lib.hid (below_step HT6.out hbz)
    have HW0 := Lib.hid (rHead.weak ho7 (B := v7.heap.size) (rHead.olt ho7))
    have HW0_s := Lib.hid (Nat.le_refl v7.heap.size)
    clear ho7 hnd7 hf7
    clear hbz
    have hbx : Below v7.heap.size v7 (v7.alloc (.cells #[.slice A_7 n_7 c_7, .int .i64 (Pl.playPlain l).1.Offset] 35)) := below_new (Below.refl _ _) _
    have HR_l := Lib.hid (HR_l.out.keep fun b hb' => hbx.block b (Nat.lt_of_lt_of_le hb' HB_l.out))
    have HB_l := Lib.hid (Nat.le_trans HB_l.out hbx.size)
    have HW0 := Lib.hid (rHead.keep HW0.out fun b hb' => hbx.block b (Nat.lt_of_lt_of_le hb' HW0_s.out))
    have HW0_s := Lib.hid (Nat.le_trans HW0_s.out hbx.size)
    have HT9 := Lib.hid (below_step HT8.out hbx)
    clear hbx
    have KW := Lib.hid (Mm.Blk.new v7 35 [.slice A_7 n_7 c_7, .int .i64 (Pl.playPlain l).1.Offset])
    go_wp2_with fail
    refine (toHouseStepS_c l _ _ _ _ w.heap.size HR_l.out HB_l.out (by omega)).mono ?_
    rintro e v10 ⟨A10, n10, c10, fp10, rfl, ho10, hnd10, hf10, hbz⟩
    have AP10_HR_l := Lib.hid (show ∀ b, b ∈ fp10 → w.heap.size ≤ b from fun b hb' => Nat.le_trans HB_l.out (hf10 b hb'))
    have AP10_HW0 := Lib.hid (show ∀ b, b ∈ fp10 → v7.heap.size ≤ b from fun b hb' => Nat.le_trans HW0_s.out (hf10 b hb'))
    have NB10_KW := Lib.hid (show ¬ v7.heap.size ∈ fp10 from fun hm => by have := KW.out.lt; have := hf10 _ hm; omega)
    have FR10 := Lib.hid (show ∀ b, b ∈ fp10 → w.heap.size ≤ b from fun b hb' => Nat.le_trans HT9.out.size (hf10 b hb'))
    have ND10 := Lib.hid hnd10
    have LT10 := Lib.hid (show ∀ b, b ∈ fp10 → b < v10.heap.size from ho10.olt)
    have HR_l := Lib.hid (HR_l.out.keep fun b hb' => hbz.block b (Nat.lt_of_lt_of_le hb' HB_l.out))
    have HB_l := Lib.hid (Nat.le_trans HB_l.out hbz.size)
    have HW0 := Lib.hid (rHead.keep HW0.out fun b hb' => hbz.block b (Nat.lt_of_lt_of_le hb' HW0_s.out))
    have HW0_s := Lib.hid (Nat.le_trans HW0_s.out hbz.size)
    have KW := Lib.hid (KW.out.bel hbz)
    have HT11 := Lib.hid (below_step HT9.out hbz)
    have HXx_l := Lib.hid (ho10.weak (B := v10.heap.size) ho10.olt)
    have HXx_l_s := Lib.hid (Nat.le_refl v10.heap.size)
    have OX_l := Lib.hid ho10
    clear ho10 hnd10 hf10
    clear hbz
    go_wp2_with fail
    refine (implPlayPlain_c l _ _ _ _ _ (HXx_l.out.more HXx_l_s.out) (Nat.le_refl _)).mono ?_
    rintro e v12 ⟨cs12, fp12, rfl, ho12, hnd12, hf12, hbz⟩
    obtain ⟨A_12, n_12, c_12, _, rfl, -⟩ := rHead_own ho12
    have AP12_HR_l := Lib.hid (show ∀ b, b ∈ fp12 → w.heap.size ≤ b from fun b hb' => Nat.le_trans HB_l.out (hf12 b hb'))
    have AP12_HW0 := Lib.hid (show ∀ b, b ∈ fp12 → v7.heap.size ≤ b from fun b hb' => Nat.le_trans HW0_s.out (hf12 b hb'))
    have AP12_HXx_l := Lib.hid (show ∀ b, b ∈ fp12 → v10.heap.size ≤ b from fun b hb' => Nat.le_trans HXx_l_s.out (hf12 b hb'))
    have DP12_OX_l := Lib.hid (show ∀ b, b ∈ fp12 → b ∉ fp10 from fun b hb' hm => by have := OX_l.out.olt b hm; have := hf12 b hb'; omega)
    have NB12_KW := Lib.hid (show ¬ v7.heap.size ∈ fp12 from fun hm => by have := KW.out.lt; have := hf12 _ hm; omega)
    have FR12 := Lib.hid (show ∀ b, b ∈ fp12 → w.heap.size ≤ b from fun b hb' => Nat.le_trans HT11.out.size (hf12 b hb'))
    have ND12 := Lib.hid hnd12
    have LT12 := Lib.hid (show ∀ b, b ∈ fp12 → b < v12.heap.size from rHead.olt ho12)
    have HR_l := Lib.hid (HR_l.out.keep fun b hb' => hbz.block b (Nat.lt_of_lt_of_le hb' HB_l.out))
    have HB_l := Lib.hid (Nat.le_trans HB_l.out hbz.size)
    have HW0 := Lib.hid (rHead.keep HW0.out fun b hb' => hbz.block b (Nat.lt_of_lt_of_le hb' HW0_s.out))
    have HW0_s := Lib.hid (Nat.le_trans HW0_s.out hbz.size)
    have HXx_l := Lib.hid (HXx_l.out.keep fun b hb' => hbz.block b (Nat.lt_of_lt_of_le hb' HXx_l_s.out))
    have HXx_l_s := Lib.hid (Nat.le_trans HXx_l_s.out hbz.size)
    have OX_l := Lib.hid (OX_l.out.okeep fun b hb' => hbz.block b (OX_l.out.olt b hb'))
    have KW := Lib.hid (KW.out.bel hbz)
    have HT13 := Lib.hid (below_step HT11.out hbz)
    have OG := Lib.hid ho12
    clear ho12 hnd12 hf12
    clear hbz
    have NIKG_fp10 := Lib.hid (show ¬ v12.heap.size ∈ fp10 from fun hm => Nat.lt_irrefl _ (OX_l.out.olt _ hm))
    have NIKG_fp12 := Lib.hid (show ¬ v12.heap.size ∈ fp12 from fun hm => Nat.lt_irrefl _ (rHead.olt OG.out _ hm))
    have hbx : Below v12.heap.size v12 (v12.alloc (.cells #[.slice A_12 n_12 c_12, .int .i64 (Pl.playPlain l).1.Offset] 35)) := below_new (Below.refl _ _) _
    have HR_l := Lib.hid (HR_l.out.keep fun b hb' => hbx.block b (Nat.lt_of_lt_of_le hb' HB_l.out))
    have HB_l := Lib.hid (Nat.le_trans HB_l.out hbx.size)
    have HW0 := Lib.hid (rHead.keep HW0.out fun b hb' => hbx.block b (Nat.lt_of_lt_of_le hb' HW0_s.out))
    have HW0_s := Lib.hid (Nat.le_trans HW0_s.out hbx.size)
    have HXx_l := Lib.hid (HXx_l.out.keep fun b hb' => hbx.block b (Nat.lt_of_lt_of_le hb' HXx_l_s.out))
    have HXx_l_s := Lib.hid (Nat.le_trans HXx_l_s.out hbx.size)
    have OX_l := Lib.hid (OX_l.out.okeep fun b hb' => hbx.block b (OX_l.out.olt b hb'))
    have OG := Lib.hid (rHead.okeep OG.out fun b hb' => hbx.block b (rHead.olt OG.out b hb'))
    have KW := Lib.hid (KW.out.bel hbx)
    have HT14 := Lib.hid (below_step HT13.out hbx)
    clear hbx
    have KG := Lib.hid (Mm.Blk.new v12 35 [.slice A_12 n_12 c_12, .int .i64 (Pl.playPlain l).1.Offset])
    have c15_KW_0 := KW.out.cell (i := 0) rfl
    have c15_KW_1 := KW.out.cell (i := 1) rfl
    have c15_KG_0 := KG.out.cell (i := 0) rfl
    have c15_KG_1 := KG.out.cell (i := 1) rfl
    go_wp2_with fail
    refine (eqHead_at (Pl.playPlain l).1 _ _ _ _ (rHead.weak OG.out (B := _) (rHead.olt OG.out)) (rHead.more HW0.out HW0_s.out) (Nat.le_refl _)).mono ?_
    rintro e v16 ⟨rfl, hbz⟩
    have HR_l := Lib.hid (HR_l.out.keep fun b hb' => hbz.block b (Nat.lt_of_lt_of_le hb' HB_l.out))
    have HB_l := Lib.hid (Nat.le_trans HB_l.out hbz.size)
    have HW0 := Lib.hid (rHead.keep HW0.out fun b hb' => hbz.block b (Nat.lt_of_lt_of_le hb' HW0_s.out))
    have HW0_s := Lib.hid (Nat.le_trans HW0_s.out hbz.size)
    have HXx_l := Lib.hid (HXx_l.out.keep fun b hb' => hbz.block b (Nat.lt_of_lt_of_le hb' HXx_l_s.out))
    have HXx_l_s := Lib.hid (Nat.le_trans HXx_l_s.out hbz.size)
    have OX_l := Lib.hid (OX_l.out.okeep fun b hb' => hbz.block b (OX_l.out.olt b hb'))
    have OG := Lib.hid (rHead.okeep OG.out fun b hb' => hbz.block b (rHead.olt OG.out b hb'))
    have KW := Lib.hid (KW.out.bel hbz)
    have KG := Lib.hid (KG.out.bel hbz)
    have HT17 := Lib.hid (below_step HT14.out hbz)
    clear hbz
    go_wp2_with fail
    refine (toHouseStepS_c l _ _ _ _ w.heap.size HR_l.out HB_l.out (by omega)).mono ?_
    rintro e v18 ⟨A18, n18, c18, fp18, rfl, ho18, hnd18, hf18, hbz⟩
    have HR_l := Lib.hid (HR_l.out.keep fun b hb' => hbz.block b (Nat.lt_of_lt_of_le hb' HB_l.out))
    have HB_l := Lib.hid (Nat.le_trans HB_l.out hbz.size)
    have HW0 := Lib.hid (rHead.keep HW0.out fun b hb' => hbz.block b (Nat.lt_of_lt_of_le hb' HW0_s.out))
    have HW0_s := Lib.hid (Nat.le_trans HW0_s.out hbz.size)
    have HXx_l := Lib.hid (HXx_l.out.keep fun b hb' => hbz.block b (Nat.lt_of_lt_of_le hb' HXx_l_s.out))
    have HXx_l_s := Lib.hid (Nat.le_trans HXx_l_s.out hbz.size)
    have OX_l := Lib.hid (OX_l.out.okeep fun b hb' => hbz.block b (OX_l.out.olt b hb'))
    have OG := Lib.hid (rHead.okeep OG.out fun b hb' => hbz.block b (rHead.olt OG.out b hb'))
    have KW := Lib.hid (KW.out.bel hbz)
    have KG := Lib.hid (KG.out.bel hbz)
    have HT19 := Lib.hid (below_step HT17.out hbz)
    have HXz_l := Lib.hid (ho18.weak (B := v18.heap.size) ho18.olt)
    have HXz_l_s := Lib.hid (Nat.le_refl v18.heap.size)
    clear ho18 hnd18 hf18
    clear hbz
    go_wp2_with fail
    refine (eqHouseStepS_c l _ _ _ _ _ _ _ v18.heap.size (HXx_l.out.more HXx_l_s.out) HXz_l.out (Nat.le_refl _)).mono ?_
    rintro e v20 ⟨rfl, hbz⟩
    have HR_l := Lib.hid (HR_l.out.keep fun b hb' => hbz.block b (Nat.lt_of_lt_of_le hb' HB_l.out))
    have HB_l := Lib.hid (Nat.le_trans HB_l.out hbz.size)
    have HW0 := Lib.hid (rHead.keep HW0.out fun b hb' => hbz.block b (Nat.lt_of_lt_of_le hb' HW0_s.out))
    have HW0_s := Lib.hid (Nat.le_trans HW0_s.out hbz.size)
    have HXx_l := Lib.hid (HXx_l.out.keep fun b hb' => hbz.block b (Nat.lt_of_lt_of_le hb' HXx_l_s.out))
    have HXx_l_s := Lib.hid (Nat.le_trans HXx_l_s.out hbz.size)
    have HXz_l := Lib.hid (HXz_l.out.keep fun b hb' => hbz.block b (Nat.lt_of_lt_of_le hb' HXz_l_s.out))
    have HXz_l_s := Lib.hid (Nat.le_trans HXz_l_s.out hbz.size)
    have OX_l := Lib.hid (OX_l.out.okeep fun b hb' => hbz.block b (OX_l.out.olt b hb'))
    have OG := Lib.hid (rHead.okeep OG.out fun b hb' => hbz.block b (rHead.olt OG.out b hb'))
    have KW := Lib.hid (KW.out.bel hbz)
    have KG := Lib.hid (KG.out.bel hbz)
    have HT21 := Lib.hid (below_step HT19.out hbz)
    clear hbz
    have hcn_l := Mm.cntL_nn (cnt := Pl.cntHouseStep) (Pl.cntHouseStep_nn) l
    have hcb_l : (Mm.cntL Pl.cntHouseStep) l ≤ 50000000 := by have := Pl.cntLb (cnt := Pl.cntHouseStep) (f := Pl.szHouseStep) (Pl.cntbHouseStep) l; omega
    go_wp2_with fail
    refine (markHouseStepS_c l _ _ _ _ _ _ OX_l.out ND10.out (by omega) (by omega)).mono ?_
    rintro e v22 ⟨rfl, hch, -⟩
    have HR_l := Lib.hid (HR_l.out.keep fun b hb' => hch.block b (Nat.lt_of_lt_of_le hb' HB_l.out) (fun hm => by have := AP10_HR_l.out b hm; omega))
    have HB_l := Lib.hid (Nat.le_trans HB_l.out hch.size)
    have HW0 := Lib.hid (rHead.keep HW0.out fun b hb' => hch.block b (Nat.lt_of_lt_of_le hb' HW0_s.out) (fun hm => by have := AP10_HW0.out b hm; omega))
    have HW0_s := Lib.hid (Nat.le_trans HW0_s.out hch.size)
    have OG := Lib.hid (rHead.okeep OG.out fun b hb' => hch.block b (rHead.olt OG.out b hb') (fun hm => DP12_OX_l.out b hb' hm))
    have KW := Lib.hid (KW.out.keep (hch.block _ KW.out.lt (NB10_KW.out)))
    have KG := Lib.hid (KG.out.keep (hch.block _ KG.out.lt (NIKG_fp10.out)))
    have HT23 := Lib.hid (Mm.Below.chg HT21.out hch HT21.out.size FR10.out)
    clear hch
    have c24_KW_0 := KW.out.cell (i := 0) rfl
    have c24_KW_1 := KW.out.cell (i := 1) rfl
    have c24_KG_0 := KG.out.cell (i := 0) rfl
    have c24_KG_1 := KG.out.cell (i := 1) rfl
    go_wp2_with fail
    refine (eqHead_at (Pl.playPlain l).1 _ _ _ _ (rHead.weak OG.out (B := _) (rHead.olt OG.out)) (rHead.more HW0.out HW0_s.out) (Nat.le_refl _)).mono ?_
    rintro e v25 ⟨rfl, hbz⟩
    have HR_l := Lib.hid (HR_l.out.keep fun b hb' => hbz.block b (Nat.lt_of_lt_of_le hb' HB_l.out))
    have HB_l := Lib.hid (Nat.le_trans HB_l.out hbz.size)
    have HW0 := Lib.hid (rHead.keep HW0.out fun b hb' => hbz.block b (Nat.lt_of_lt_of_le hb' HW0_s.out))
    have HW0_s := Lib.hid (Nat.le_trans HW0_s.out hbz.size)
    have OG := Lib.hid (rHead.okeep OG.out fun b hb' => hbz.block b (rHead.olt OG.out b hb'))
    have KW := Lib.hid (KW.out.bel hbz)
    have KG := Lib.hid (KG.out.bel hbz)
    have HT26 := Lib.hid (below_step HT23.out hbz)
    clear hbz
    have hcg : 0 ≤ Pl.ctopHead (Pl.playPlain l).1 := Pl.ctopHead_nn (Pl.playPlain l).1
    have hcgb : Pl.ctopHead (Pl.playPlain l).1 ≤ 50000000 := (playPlain_cnt l)
    obtain ⟨cg, hcge⟩ : ∃ z, Pl.ctopHead (Pl.playPlain l).1 = z := ⟨_, rfl⟩
    rw [hcge] at hcg hcgb
    have HCG := Lib.hid hcge
    clear hcge
    have c27_KG_0 := KG.out.cell (i := 0) rfl
    have c27_KG_1 := KG.out.cell (i := 1) rfl
    go_wp2_with fail
    refine (markHead_c (Pl.playPlain l).1 _ _ _ _ OG.out ND12.out (by omega) (by rw [HCG.out]; omega)).mono ?_
    rintro e v28 ⟨rfl, hch, fpm, hom, hndm, hsubm⟩
    rw [HCG.out]
    have HR_l := Lib.hid (HR_l.out.keep fun b hb' => hch.block b (Nat.lt_of_lt_of_le hb' HB_l.out) (fun hm => by have := AP12_HR_l.out b hm; omega))
    have HB_l := Lib.hid (Nat.le_trans HB_l.out hch.size)
    have HW0 := Lib.hid (rHead.keep HW0.out fun b hb' => hch.block b (Nat.lt_of_lt_of_le hb' HW0_s.out) (fun hm => by have := AP12_HW0.out b hm; omega))
    have HW0_s := Lib.hid (Nat.le_trans HW0_s.out hch.size)
    have KW := Lib.hid (KW.out.keep (hch.block _ KW.out.lt (NB12_KW.out)))
    have KG := Lib.hid (KG.out.keep (hch.block _ KG.out.lt (NIKG_fp12.out)))
    have HT29 := Lib.hid (Mm.Below.chg HT26.out hch HT26.out.size FR12.out)
    clear hch
    have OM := Lib.hid hom
    clear hom hndm hsubm
    have c30_KG_0 := KG.out.cell (i := 0) rfl
    have c30_KG_1 := KG.out.cell (i := 1) rfl
    go_wp2_with fail
    refine (heldHead_c (Pl.playPlain l).1 _ _ _ _ (rHead.weak OM.out (B := _) (rHead.olt OM.out)) (Nat.le_refl _) (by omega) (by rw [HCG.out]; omega)).mono ?_
    rintro e v31 ⟨rfl, hbz⟩
    rw [HCG.out]
    have HR_l := Lib.hid (HR_l.out.keep fun b hb' => hbz.block b (Nat.lt_of_lt_of_le hb' HB_l.out))
    have HB_l := Lib.hid (Nat.le_trans HB_l.out hbz.size)
    have HW0 := Lib.hid (rHead.keep HW0.out fun b hb' => hbz.block b (Nat.lt_of_lt_of_le hb' HW0_s.out))
    have HW0_s := Lib.hid (Nat.le_trans HW0_s.out hbz.size)
    have OM := Lib.hid (rHead.okeep OM.out fun b hb' => hbz.block b (rHead.olt OM.out b hb'))
    have KW := Lib.hid (KW.out.bel hbz)
    have KG := Lib.hid (KG.out.bel hbz)
    have HT32 := Lib.hid (below_step HT29.out hbz)
    clear hbz
    go_wp2_with fail
    refine (toHouseStepS_c l _ _ _ _ w.heap.size HR_l.out HB_l.out (by omega)).mono ?_
    rintro e v33 ⟨A33, n33, c33, fp33, rfl, ho33, hnd33, hf33, hbz⟩
    have HR_l := Lib.hid (HR_l.out.keep fun b hb' => hbz.block b (Nat.lt_of_lt_of_le hb' HB_l.out))
    have HB_l := Lib.hid (Nat.le_trans HB_l.out hbz.size)
    have HW0 := Lib.hid (rHead.keep HW0.out fun b hb' => hbz.block b (Nat.lt_of_lt_of_le hb' HW0_s.out))
    have HW0_s := Lib.hid (Nat.le_trans HW0_s.out hbz.size)
    have OM := Lib.hid (rHead.okeep OM.out fun b hb' => hbz.block b (rHead.olt OM.out b hb'))
    have KW := Lib.hid (KW.out.bel hbz)
    have KG := Lib.hid (KG.out.bel hbz)
    have HT34 := Lib.hid (below_step HT32.out hbz)
    have HXh_l := Lib.hid (ho33.weak (B := v33.heap.size) ho33.olt)
    have HXh_l_s := Lib.hid (Nat.le_refl v33.heap.size)
    clear ho33 hnd33 hf33
    clear hbz
    go_wp2_with fail
    refine (implPlayPlain_c l _ _ _ _ _ (HXh_l.out.more HXh_l_s.out) (Nat.le_refl _)).mono ?_
    rintro e v35 ⟨cs35, fp35, rfl, ho35, hnd35, hf35, hbz⟩
    obtain ⟨A_35, n_35, c_35, _, rfl, -⟩ := rHead_own ho35
    have HR_l := Lib.hid (HR_l.out.keep fun b hb' => hbz.block b (Nat.lt_of_lt_of_le hb' HB_l.out))
    have HB_l := Lib.hid (Nat.le_trans HB_l.out hbz.size)
    have HW0 := Lib.hid (rHead.keep HW0.out fun b hb' => hbz.block b (Nat.lt_of_lt_of_le hb' HW0_s.out))
    have HW0_s := Lib.hid (Nat.le_trans HW0_s.out hbz.size)
    have HXh_l := Lib.hid (HXh_l.out.keep fun b hb' => hbz.block b (Nat.lt_of_lt_of_le hb' HXh_l_s.out))
    have HXh_l_s := Lib.hid (Nat.le_trans HXh_l_s.out hbz.size)
    have OM := Lib.hid (rHead.okeep OM.out fun b hb' => hbz.block b (rHead.olt OM.out b hb'))
    have KW := Lib.hid (KW.out.bel hbz)
    have KG := Lib.hid (KG.out.bel hbz)
    have HT36 := Lib.hid (below_step HT34.out hbz)
    have HH := Lib.hid (rHead.weak ho35 (B := v35.heap.size) (rHead.olt ho35))
    have HH_s := Lib.hid (Nat.le_refl v35.heap.size)
    clear ho35 hnd35 hf35
    clear hbz
    have hbx : Below v35.heap.size v35 (v35.alloc (.cells #[.slice A_35 n_35 c_35, .int .i64 (Pl.playPlain l).1.Offset] 35)) := below_new (Below.refl _ _) _
    have HR_l := Lib.hid (HR_l.out.keep fun b hb' => hbx.block b (Nat.lt_of_lt_of_le hb' HB_l.out))
    have HB_l := Lib.hid (Nat.le_trans HB_l.out hbx.size)
    have HW0 := Lib.hid (rHead.keep HW0.out fun b hb' => hbx.block b (Nat.lt_of_lt_of_le hb' HW0_s.out))
    have HW0_s := Lib.hid (Nat.le_trans HW0_s.out hbx.size)
    have HH := Lib.hid (rHead.keep HH.out fun b hb' => hbx.block b (Nat.lt_of_lt_of_le hb' HH_s.out))
    have HH_s := Lib.hid (Nat.le_trans HH_s.out hbx.size)
    have OM := Lib.hid (rHead.okeep OM.out fun b hb' => hbx.block b (rHead.olt OM.out b hb'))
    have KW := Lib.hid (KW.out.bel hbx)
    have KG := Lib.hid (KG.out.bel hbx)
    have HT37 := Lib.hid (below_step HT36.out hbx)
    clear hbx
    have KH := Lib.hid (Mm.Blk.new v35 35 [.slice A_35 n_35 c_35, .int .i64 (Pl.playPlain l).1.Offset])
    have c38_KW_0 := KW.out.cell (i := 0) rfl
    have c38_KW_1 := KW.out.cell (i := 1) rfl
    have c38_KH_0 := KH.out.cell (i := 0) rfl
    have c38_KH_1 := KH.out.cell (i := 1) rfl
    go_wp2_with fail
    refine (eqHead_at (Pl.playPlain l).1 _ _ _ _ (rHead.more HH.out HH_s.out) (rHead.more HW0.out HW0_s.out) (Nat.le_refl _)).mono ?_
    rintro e v39 ⟨rfl, hbz⟩
    have HR_l := Lib.hid (HR_l.out.keep fun b hb' => hbz.block b (Nat.lt_of_lt_of_le hb' HB_l.out))
    have HB_l := Lib.hid (Nat.le_trans HB_l.out hbz.size)
    have HW0 := Lib.hid (rHead.keep HW0.out fun b hb' => hbz.block b (Nat.lt_of_lt_of_le hb' HW0_s.out))
    have HW0_s := Lib.hid (Nat.le_trans HW0_s.out hbz.size)
    have HH := Lib.hid (rHead.keep HH.out fun b hb' => hbz.block b (Nat.lt_of_lt_of_le hb' HH_s.out))
    have HH_s := Lib.hid (Nat.le_trans HH_s.out hbz.size)
    have OM := Lib.hid (rHead.okeep OM.out fun b hb' => hbz.block b (rHead.olt OM.out b hb'))
    have KW := Lib.hid (KW.out.bel hbz)
    have KG := Lib.hid (KG.out.bel hbz)
    have KH := Lib.hid (KH.out.bel hbz)
    have HT40 := Lib.hid (below_step HT37.out hbz)
    clear hbz
    have c41_KG_0 := KG.out.cell (i := 0) rfl
    have c41_KG_1 := KG.out.cell (i := 1) rfl
    go_wp2_with fail
    refine (heldHead_c (Pl.playPlain l).1 _ _ _ _ (rHead.weak OM.out (B := _) (rHead.olt OM.out)) (Nat.le_refl _) (by omega) (by rw [HCG.out]; omega)).mono ?_
    rintro e v42 ⟨rfl, hbz⟩
    rw [HCG.out]
    have HR_l := Lib.hid (HR_l.out.keep fun b hb' => hbz.block b (Nat.lt_of_lt_of_le hb' HB_l.out))
    have HB_l := Lib.hid (Nat.le_trans HB_l.out hbz.size)
    have HW0 := Lib.hid (rHead.keep HW0.out fun b hb' => hbz.block b (Nat.lt_of_lt_of_le hb' HW0_s.out))
    have HW0_s := Lib.hid (Nat.le_trans HW0_s.out hbz.size)
    have HH := Lib.hid (rHead.keep HH.out fun b hb' => hbz.block b (Nat.lt_of_lt_of_le hb' HH_s.out))
    have HH_s := Lib.hid (Nat.le_trans HH_s.out hbz.size)
    have OM := Lib.hid (rHead.okeep OM.out fun b hb' => hbz.block b (rHead.olt OM.out b hb'))
    have KW := Lib.hid (KW.out.bel hbz)
    have KG := Lib.hid (KG.out.bel hbz)
    have KH := Lib.hid (KH.out.bel hbz)
    have HT43 := Lib.hid (below_step HT40.out hbz)
    clear hbz
    go_wp2
    go_ret
    exact ⟨rfl, HT43.out⟩
end Go.Proofs.Ytkodfflnpalbbaa

/-
  The statement of FnExactPlayPlain: for every input the law returns true, and every argument reads afterwards as it read before. No conditions.
-/
namespace Go.Proofs.Ytkodfflnpalbbaa.fnExactPlayPlain
open Go.ChangeShapes Go.WideShapes Go.ChangeAt Go.RowKit
open Go.ChangeMaps (open_string shut_string)
set_option linter.unusedVariables false

theorem own : ownKnob Try.prog.godebug = none := by kernel_rfl
theorem laidOut : laidOutB Try.prog = true := by kernel_rfl

set_option maxRecDepth 100000 in
theorem lifted (os : Os) (started : os.Started) (H : Type) (enc : TypeId × Value → H) :
    ReturnsInHanded {} Try.checked os 4 .any (Rows.fnExactPlayPlainSpec.pre6 enc Try.prog Try.f4 Rows.fnExactPlayPlainRow.domain false) (Rows.fnExactPlayPlainSpec.post enc Try.prog Try.f4 false true false false) := by
  refine returnsInHanded_of_change (C := Try.checked) own started (by kernel_rfl) Try.func4
    (ChangeSpec.witness6 (enc := enc) (C := Try.checked) false ⟨#[], #[.slice none 0 0], []⟩ 8 (by kernel_rfl) (by kernel_rfl) (by kernel_rfl) (by kernel_rfl)) ?_
  intro W base args ds gs before hval0 hW hcnd _
  have hval : ∀ (j : Nat) t v, Try.f4.params[j]? = some t → args[j]? = some v → Value.okWide Try.prog W .any base t v := hval0
  have hW' := hW
  obtain ⟨p, q, hA0, hV, rfl, hfz, hnd⟩ := hW
  have hA : DataW.TrodAll enc Try.prog W 0 (fun _ => true) true Try.f4.params.toList args.toList ds p := hA0
  rw [Try.params4] at hA hval
  obtain ⟨v0, vs0, d0, ds0, p0, q0, hargs, rfl, rfl, h0, r0⟩ := trodAll_cons hA
  obtain ⟨rfl, rfl, rfl⟩ := trodAll_nil r0
  obtain rfl : args = #[v0] := by cases args; simp_all
  obtain ⟨rfl, rfl⟩ := trodVars_none hV
  have k0 := h0
  have lt0 : ∀ x ∈ p0, x.block < W.heap.size := by obtain ⟨m, hm⟩ := k0; exact DataW.trod_lt m _ _ _ hm
  obtain ⟨A0, n0, c0, a0, rfl, w0⟩ := Mm.open_sl opens_HouseStepS Try.underlying31 (hval 0 31 v0 rfl rfl) h0
  clear hA0 hval0
  refine (walk_FnExactPlayPlain A0 n0 c0 a0 W w0).mono fun e W' ⟨he, bel⟩ => ?_
  subst he
  exact ⟨_, rfl, _, _, _, [], _, [], hW', trodAll_mk1 (shut_bool Try.underlying4 _), (trodAll_cons_mk (Below.trod laidOut (by kernel_rfl) (of_decide_eq_true (by kernel_rfl)) k0 bel lt0) trodAll_mk0), rfl, bel.frame _, fun h => by cases h⟩

theorem over : Rows.fnExactPlayPlainRow.holds Try.pinned (OpenSpec.ofChange Rows.fnExactPlayPlainSpec) :=
  OpenClaim.holds_of_wide 4 Try.f4 rfl rfl rfl rfl rfl rfl rfl ⟨rfl, rfl, rfl, rfl, rfl⟩ rfl rfl rfl rfl rfl (by kernel_rfl) Try.func4 (by kernel_rfl)
    (of_decide_eq_true (by kernel_rfl)) (by unfold Func.isWrapper; first | (rw [if_pos (by decide +kernel)]; kernel_rfl) | (rw [if_neg (by decide +kernel)]; exact ⟨rfl, rfl⟩))
    (fun os started H enc _ => lifted os started H enc)

theorem proved : Rows.FnExactPlayPlainSaid := over
#print axioms proved
end Go.Proofs.Ytkodfflnpalbbaa.fnExactPlayPlain
