/-
  Joined texts, in build order: LwPlayHouse. Each part says what it proves; no conditions beyond those that a part names.
-/
import Derived.Test.YtbhmdnjammnlnaaGreatDoorZ07
import Derived.Test.YtbhmdnjammnlnaaGreatDoorZ08
set_option linter.unusedVariables false
set_option linter.unusedSimpArgs false
/-
  The walk of the law on PlayHouse. No conditions.
-/
namespace Go.Proofs.YtbhmdnjammnlnaaGreatDoor
open Go.RowKit
set_option maxRecDepth 100000 in
set_option maxHeartbeats 4000000 in
theorem walk_FnExactPlayHouse (parts : Int) (_wparts : (Lit.int .i64 parts).wf = true) (A_l : Option Addr) (n_l c_l : Nat) (l : (List HouseStep)) (w : World) (tb : Tabs w) (r_l : Mm.SlAt rHouseStep w w.heap.size l A_l n_l c_l) :
    Calls Tryz.prog 3 #[.int .i64 parts, .slice A_l n_l c_l] w fun e w' => e = .returned (.bool true) ∧ Below w.heap.size w w' := by
  have HTB : Hid (Tab w.heap.size w) := Tab.of tb
  clear tb
  have hn_l : n_l ≤ maxLen := Nat.le_trans r_l.2.1 r_l.2.2.1
  have zn_l := Pl.szl_nn (f := Pl.szHouseStep) (Pl.szHouseStep_nn) l
  have HT0 := Lib.hid (show Below w.heap.size w w from (Below.refl w.heap.size w))
  have HR_l := Lib.hid (r_l.below HT0.out)
  have HB_l := Lib.hid HT0.out.size
  clear r_l
  by_cases t_l : (1048576 - (Pl.szl Pl.szHouseStep) l : Int) < 0
  · skip
    go_enter Tryz.func3, Tryz.ntmps3
    go_wp2_with fail
    refine (szHouseStepS_c l _ _ _ _ _ w.heap.size HR_l.out HB_l.out (by omega) (by omega)).mono ?_
    rintro e y1 ⟨rfl, hbz⟩
    rw [Pl.szRet_lt (by omega)]
    have HR_l := Lib.hid (HR_l.out.keep fun b hb' => hbz.block b (Nat.lt_of_lt_of_le hb' HB_l.out))
    have HB_l := Lib.hid (Nat.le_trans HB_l.out hbz.size)
    have HT2 := Lib.hid (below_step HT0.out hbz)
    clear hbz
    go_wp2
    go_ret
    exact ⟨rfl, HT2.out⟩
  · skip
    go_enter Tryz.func3, Tryz.ntmps3
    go_wp2_with fail
    refine (szHouseStepS_c l _ _ _ _ _ w.heap.size HR_l.out HB_l.out (by omega) (by omega)).mono ?_
    rintro e y3 ⟨rfl, hbz⟩
    rw [Pl.szRet_ge (by omega)]
    have HR_l := Lib.hid (HR_l.out.keep fun b hb' => hbz.block b (Nat.lt_of_lt_of_le hb' HB_l.out))
    have HB_l := Lib.hid (Nat.le_trans HB_l.out hbz.size)
    have HT4 := Lib.hid (below_step HT0.out hbz)
    clear hbz
    go_wp2_with fail
    refine (toHouseStepS_c l _ _ _ _ w.heap.size HR_l.out HB_l.out (by omega)).mono ?_
    rintro e v5 ⟨A5, n5, c5, fp5, rfl, ho5, hnd5, hf5, hbz⟩
    have HR_l := Lib.hid (HR_l.out.keep fun b hb' => hbz.block b (Nat.lt_of_lt_of_le hb' HB_l.out))
    have HB_l := Lib.hid (Nat.le_trans HB_l.out hbz.size)
    have HT6 := Lib.hid (below_step HT4.out hbz)
    have HXs_l := Lib.hid (ho5.weak (B := v5.heap.size) ho5.olt)
    have HXs_l_s := Lib.hid (Nat.le_refl v5.heap.size)
    clear ho5 hnd5 hf5
    clear hbz
    go_wp2_with fail
    refine (specPlayHouse_c parts l _ _ _ _ _ (HXs_l.out.more HXs_l_s.out) (Nat.le_refl _)).mono ?_
    rintro e v7 ⟨cs7_0, A7_1, n7_1, c7_1, fp7_0, fp7_1, rfl, hS7⟩
    have hbz := hS7.bel0
    have ho7_0 : rHouse.own v7 ((Pl.playHo parts l).1) cs7_0 fp7_0 := hS7.at_ 0 rfl
    have hnd7_0 := hS7.ndat (i := 0) rfl
    have hf7_0 : ∀ b, b ∈ fp7_0 → _ ≤ b := fun b hb' => (hS7.new b (Mm.SepF.mem (i := 0) rfl hb')).resolve_left (fun hh => by cases hh)
    have ho7_1 : Mm.SlOwn Mm.bool 4 v7 ((Pl.playHo parts l).2.1) (.slice A7_1 n7_1 c7_1) fp7_1 := hS7.at_ 1 rfl
    have hnd7_1 := hS7.ndat (i := 1) rfl
    have hf7_1 : ∀ b, b ∈ fp7_1 → _ ≤ b := fun b hb' => (hS7.new b (Mm.SepF.mem (i := 1) rfl hb')).resolve_left (fun hh => by cases hh)
    have DP7_0_1 := Lib.hid (show ∀ b, b ∈ fp7_0 → b ∉ fp7_1 from hS7.apart (i := 0) (j := 1) rfl rfl (by decide))
    have DP7_1_0 := Lib.hid (show ∀ b, b ∈ fp7_1 → b ∉ fp7_0 from hS7.apart (i := 1) (j := 0) rfl rfl (by decide))
    obtain ⟨A0_7_0, n0_7_0, c0_7_0, A1_7_0, n1_7_0, c1_7_0, A2_7_0, n2_7_0, c2_7_0, _, _, _, rfl, -⟩ := rHouse_own ho7_0
    clear hS7
    have HR_l := Lib.hid (HR_l.out.keep fun b hb' => hbz.block b (Nat.lt_of_lt_of_le hb' HB_l.out))
    have HB_l := Lib.hid (Nat.le_trans HB_l.out hbz.size)
    have HXs_l := Lib.hid (HXs_l.out.keep fun b hb' => hbz.block b (Nat.lt_of_lt_of_le hb' HXs_l_s.out))
    have HXs_l_s := Lib.hid (Nat.le_trans HXs_l_s.out hbz.size)
    have HT8 := Lib.hid (below_step HT6.out hbz)
    have HW0_0 := Lib.hid (rHouse.weak ho7_0 (B := v7.heap.size) (rHouse.olt ho7_0))
    have HW0_0_s := Lib.hid (Nat.le_refl v7.heap.size)
    clear ho7_0 hnd7_0 hf7_0
    have HW0_1 := Lib.hid (ho7_1.weak (B := v7.heap.size) ho7_1.olt)
    have HW0_1_s := Lib.hid (Nat.le_refl v7.heap.size)
    clear ho7_1 hnd7_1 hf7_1
    clear hbz
    have hbx : Below v7.heap.size v7 (v7.alloc (.cells #[.slice A0_7_0 n0_7_0 c0_7_0, .slice A1_7_0 n1_7_0 c1_7_0, .slice A2_7_0 n2_7_0 c2_7_0] 27)) := below_new (Below.refl _ _) _
    have HR_l := Lib.hid (HR_l.out.keep fun b hb' => hbx.block b (Nat.lt_of_lt_of_le hb' HB_l.out))
    have HB_l := Lib.hid (Nat.le_trans HB_l.out hbx.size)
    have HW0_0 := Lib.hid (rHouse.keep HW0_0.out fun b hb' => hbx.block b (Nat.lt_of_lt_of_le hb' HW0_0_s.out))
    have HW0_0_s := Lib.hid (Nat.le_trans HW0_0_s.out hbx.size)
    have HW0_1 := Lib.hid (HW0_1.out.keep fun b hb' => hbx.block b (Nat.lt_of_lt_of_le hb' HW0_1_s.out))
    have HW0_1_s := Lib.hid (Nat.le_trans HW0_1_s.out hbx.size)
    have HT9 := Lib.hid (below_step HT8.out hbx)
    clear hbx
    have KW_0 := Lib.hid (Mm.Blk.new v7 27 [.slice A0_7_0 n0_7_0 c0_7_0, .slice A1_7_0 n1_7_0 c1_7_0, .slice A2_7_0 n2_7_0 c2_7_0])
    go_wp2_with fail
    refine (toHouseStepS_c l _ _ _ _ w.heap.size HR_l.out HB_l.out (by omega)).mono ?_
    rintro e v10 ⟨A10, n10, c10, fp10, rfl, ho10, hnd10, hf10, hbz⟩
    have AP10_HR_l := Lib.hid (show ∀ b, b ∈ fp10 → w.heap.size ≤ b from fun b hb' => Nat.le_trans HB_l.out (hf10 b hb'))
    have AP10_HW0_0 := Lib.hid (show ∀ b, b ∈ fp10 → v7.heap.size ≤ b from fun b hb' => Nat.le_trans HW0_0_s.out (hf10 b hb'))
    have AP10_HW0_1 := Lib.hid (show ∀ b, b ∈ fp10 → v7.heap.size ≤ b from fun b hb' => Nat.le_trans HW0_1_s.out (hf10 b hb'))
    have NB10_KW_0 := Lib.hid (show ¬ v7.heap.size ∈ fp10 from fun hm => by have := KW_0.out.lt; have := hf10 _ hm; omega)
    have FR10 := Lib.hid (show ∀ b, b ∈ fp10 → w.heap.size ≤ b from fun b hb' => Nat.le_trans HT9.out.size (hf10 b hb'))
    have ND10 := Lib.hid hnd10
    have LT10 := Lib.hid (show ∀ b, b ∈ fp10 → b < v10.heap.size from ho10.olt)
    have HR_l := Lib.hid (HR_l.out.keep fun b hb' => hbz.block b (Nat.lt_of_lt_of_le hb' HB_l.out))
    have HB_l := Lib.hid (Nat.le_trans HB_l.out hbz.size)
    have HW0_0 := Lib.hid (rHouse.keep HW0_0.out fun b hb' => hbz.block b (Nat.lt_of_lt_of_le hb' HW0_0_s.out))
    have HW0_0_s := Lib.hid (Nat.le_trans HW0_0_s.out hbz.size)
    have HW0_1 := Lib.hid (HW0_1.out.keep fun b hb' => hbz.block b (Nat.lt_of_lt_of_le hb' HW0_1_s.out))
    have HW0_1_s := Lib.hid (Nat.le_trans HW0_1_s.out hbz.size)
    have KW_0 := Lib.hid (KW_0.out.bel hbz)
    have HT11 := Lib.hid (below_step HT9.out hbz)
    have HXx_l := Lib.hid (ho10.weak (B := v10.heap.size) ho10.olt)
    have HXx_l_s := Lib.hid (Nat.le_refl v10.heap.size)
    have OX_l := Lib.hid ho10
    clear ho10 hnd10 hf10
    clear hbz
    go_wp2_with fail
    refine (implPlayHouse_c parts l _ _ _ _ _ (HXx_l.out.more HXx_l_s.out) (Nat.le_refl _) (HTB.out.on HT11.out)).mono ?_
    rintro e v12 ⟨cs12_0, A12_1, n12_1, c12_1, fp12_0, fp12_1, rfl, hS12⟩
    have hbz := hS12.bel0
    have ho12_0 : rHouse.own v12 ((Pl.playHo parts l).1) cs12_0 fp12_0 := hS12.at_ 0 rfl
    have hnd12_0 := hS12.ndat (i := 0) rfl
    have hf12_0 : ∀ b, b ∈ fp12_0 → _ ≤ b := fun b hb' => (hS12.new b (Mm.SepF.mem (i := 0) rfl hb')).resolve_left (fun hh => by cases hh)
    have ho12_1 : Mm.SlOwn Mm.bool 4 v12 ((Pl.playHo parts l).2.1) (.slice A12_1 n12_1 c12_1) fp12_1 := hS12.at_ 1 rfl
    have hnd12_1 := hS12.ndat (i := 1) rfl
    have hf12_1 : ∀ b, b ∈ fp12_1 → _ ≤ b := fun b hb' => (hS12.new b (Mm.SepF.mem (i := 1) rfl hb')).resolve_left (fun hh => by cases hh)
    have DP12_0_1 := Lib.hid (show ∀ b, b ∈ fp12_0 → b ∉ fp12_1 from hS12.apart (i := 0) (j := 1) rfl rfl (by decide))
    have DP12_1_0 := Lib.hid (show ∀ b, b ∈ fp12_1 → b ∉ fp12_0 from hS12.apart (i := 1) (j := 0) rfl rfl (by decide))
    obtain ⟨A0_12_0, n0_12_0, c0_12_0, A1_12_0, n1_12_0, c1_12_0, A2_12_0, n2_12_0, c2_12_0, _, _, _, rfl, -⟩ := rHouse_own ho12_0
    clear hS12
    have AP12_0_HR_l := Lib.hid (show ∀ b, b ∈ fp12_0 → w.heap.size ≤ b from fun b hb' => Nat.le_trans HB_l.out (hf12_0 b hb'))
    have AP12_0_HW0_0 := Lib.hid (show ∀ b, b ∈ fp12_0 → v7.heap.size ≤ b from fun b hb' => Nat.le_trans HW0_0_s.out (hf12_0 b hb'))
    have AP12_0_HW0_1 := Lib.hid (show ∀ b, b ∈ fp12_0 → v7.heap.size ≤ b from fun b hb' => Nat.le_trans HW0_1_s.out (hf12_0 b hb'))
    have AP12_0_HXx_l := Lib.hid (show ∀ b, b ∈ fp12_0 → v10.heap.size ≤ b from fun b hb' => Nat.le_trans HXx_l_s.out (hf12_0 b hb'))
    have DP12_0_OX_l := Lib.hid (show ∀ b, b ∈ fp12_0 → b ∉ fp10 from fun b hb' hm => by have := OX_l.out.olt b hm; have := hf12_0 b hb'; omega)
    have NB12_0_KW_0 := Lib.hid (show ¬ v7.heap.size ∈ fp12_0 from fun hm => by have := KW_0.out.lt; have := hf12_0 _ hm; omega)
    have FR12_0 := Lib.hid (show ∀ b, b ∈ fp12_0 → w.heap.size ≤ b from fun b hb' => Nat.le_trans HT11.out.size (hf12_0 b hb'))
    have ND12_0 := Lib.hid hnd12_0
    have LT12_0 := Lib.hid (show ∀ b, b ∈ fp12_0 → b < v12.heap.size from rHouse.olt ho12_0)
    have AP12_1_HR_l := Lib.hid (show ∀ b, b ∈ fp12_1 → w.heap.size ≤ b from fun b hb' => Nat.le_trans HB_l.out (hf12_1 b hb'))
    have AP12_1_HW0_0 := Lib.hid (show ∀ b, b ∈ fp12_1 → v7.heap.size ≤ b from fun b hb' => Nat.le_trans HW0_0_s.out (hf12_1 b hb'))
    have AP12_1_HW0_1 := Lib.hid (show ∀ b, b ∈ fp12_1 → v7.heap.size ≤ b from fun b hb' => Nat.le_trans HW0_1_s.out (hf12_1 b hb'))
    have AP12_1_HXx_l := Lib.hid (show ∀ b, b ∈ fp12_1 → v10.heap.size ≤ b from fun b hb' => Nat.le_trans HXx_l_s.out (hf12_1 b hb'))
    have DP12_1_OX_l := Lib.hid (show ∀ b, b ∈ fp12_1 → b ∉ fp10 from fun b hb' hm => by have := OX_l.out.olt b hm; have := hf12_1 b hb'; omega)
    have NB12_1_KW_0 := Lib.hid (show ¬ v7.heap.size ∈ fp12_1 from fun hm => by have := KW_0.out.lt; have := hf12_1 _ hm; omega)
    have FR12_1 := Lib.hid (show ∀ b, b ∈ fp12_1 → w.heap.size ≤ b from fun b hb' => Nat.le_trans HT11.out.size (hf12_1 b hb'))
    have ND12_1 := Lib.hid hnd12_1
    have LT12_1 := Lib.hid (show ∀ b, b ∈ fp12_1 → b < v12.heap.size from ho12_1.olt)
    have HR_l := Lib.hid (HR_l.out.keep fun b hb' => hbz.block b (Nat.lt_of_lt_of_le hb' HB_l.out))
    have HB_l := Lib.hid (Nat.le_trans HB_l.out hbz.size)
    have HW0_0 := Lib.hid (rHouse.keep HW0_0.out fun b hb' => hbz.block b (Nat.lt_of_lt_of_le hb' HW0_0_s.out))
    have HW0_0_s := Lib.hid (Nat.le_trans HW0_0_s.out hbz.size)
    have HW0_1 := Lib.hid (HW0_1.out.keep fun b hb' => hbz.block b (Nat.lt_of_lt_of_le hb' HW0_1_s.out))
    have HW0_1_s := Lib.hid (Nat.le_trans HW0_1_s.out hbz.size)
    have HXx_l := Lib.hid (HXx_l.out.keep fun b hb' => hbz.block b (Nat.lt_of_lt_of_le hb' HXx_l_s.out))
    have HXx_l_s := Lib.hid (Nat.le_trans HXx_l_s.out hbz.size)
    have OX_l := Lib.hid (OX_l.out.okeep fun b hb' => hbz.block b (OX_l.out.olt b hb'))
    have KW_0 := Lib.hid (KW_0.out.bel hbz)
    have HT13 := Lib.hid (below_step HT11.out hbz)
    have OG_0 := Lib.hid ho12_0
    clear ho12_0 hnd12_0 hf12_0
    have OG_1 := Lib.hid ho12_1
    clear ho12_1 hnd12_1 hf12_1
    clear hbz
    have NIKG_0_fp10 := Lib.hid (show ¬ v12.heap.size ∈ fp10 from fun hm => Nat.lt_irrefl _ (OX_l.out.olt _ hm))
    have NIKG_0_fp12_0 := Lib.hid (show ¬ v12.heap.size ∈ fp12_0 from fun hm => Nat.lt_irrefl _ (rHouse.olt OG_0.out _ hm))
    have NIKG_0_fp12_1 := Lib.hid (show ¬ v12.heap.size ∈ fp12_1 from fun hm => Nat.lt_irrefl _ (OG_1.out.olt _ hm))
    have hbx : Below v12.heap.size v12 (v12.alloc (.cells #[.slice A0_12_0 n0_12_0 c0_12_0, .slice A1_12_0 n1_12_0 c1_12_0, .slice A2_12_0 n2_12_0 c2_12_0] 27)) := below_new (Below.refl _ _) _
    have HR_l := Lib.hid (HR_l.out.keep fun b hb' => hbx.block b (Nat.lt_of_lt_of_le hb' HB_l.out))
    have HB_l := Lib.hid (Nat.le_trans HB_l.out hbx.size)
    have HW0_0 := Lib.hid (rHouse.keep HW0_0.out fun b hb' => hbx.block b (Nat.lt_of_lt_of_le hb' HW0_0_s.out))
    have HW0_0_s := Lib.hid (Nat.le_trans HW0_0_s.out hbx.size)
    have HW0_1 := Lib.hid (HW0_1.out.keep fun b hb' => hbx.block b (Nat.lt_of_lt_of_le hb' HW0_1_s.out))
    have HW0_1_s := Lib.hid (Nat.le_trans HW0_1_s.out hbx.size)
    have HXx_l := Lib.hid (HXx_l.out.keep fun b hb' => hbx.block b (Nat.lt_of_lt_of_le hb' HXx_l_s.out))
    have HXx_l_s := Lib.hid (Nat.le_trans HXx_l_s.out hbx.size)
    have OX_l := Lib.hid (OX_l.out.okeep fun b hb' => hbx.block b (OX_l.out.olt b hb'))
    have OG_0 := Lib.hid (rHouse.okeep OG_0.out fun b hb' => hbx.block b (rHouse.olt OG_0.out b hb'))
    have OG_1 := Lib.hid (OG_1.out.okeep fun b hb' => hbx.block b (OG_1.out.olt b hb'))
    have KW_0 := Lib.hid (KW_0.out.bel hbx)
    have HT14 := Lib.hid (below_step HT13.out hbx)
    clear hbx
    have KG_0 := Lib.hid (Mm.Blk.new v12 27 [.slice A0_12_0 n0_12_0 c0_12_0, .slice A1_12_0 n1_12_0 c1_12_0, .slice A2_12_0 n2_12_0 c2_12_0])
    have c15_KW_0_0 := KW_0.out.cell (i := 0) rfl
    have c15_KW_0_1 := KW_0.out.cell (i := 1) rfl
    have c15_KW_0_2 := KW_0.out.cell (i := 2) rfl
    have c15_KG_0_0 := KG_0.out.cell (i := 0) rfl
    have c15_KG_0_1 := KG_0.out.cell (i := 1) rfl
    have c15_KG_0_2 := KG_0.out.cell (i := 2) rfl
    go_wp2_with fail
    refine (eqHouse_at ((Pl.playHo parts l).1) _ _ _ _ (rHouse.weak OG_0.out (B := _) (rHouse.olt OG_0.out)) (rHouse.more HW0_0.out HW0_0_s.out) (Nat.le_refl _)).mono ?_
    rintro e v16 ⟨rfl, hbz⟩
    have HR_l := Lib.hid (HR_l.out.keep fun b hb' => hbz.block b (Nat.lt_of_lt_of_le hb' HB_l.out))
    have HB_l := Lib.hid (Nat.le_trans HB_l.out hbz.size)
    have HW0_0 := Lib.hid (rHouse.keep HW0_0.out fun b hb' => hbz.block b (Nat.lt_of_lt_of_le hb' HW0_0_s.out))
    have HW0_0_s := Lib.hid (Nat.le_trans HW0_0_s.out hbz.size)
    have HW0_1 := Lib.hid (HW0_1.out.keep fun b hb' => hbz.block b (Nat.lt_of_lt_of_le hb' HW0_1_s.out))
    have HW0_1_s := Lib.hid (Nat.le_trans HW0_1_s.out hbz.size)
    have HXx_l := Lib.hid (HXx_l.out.keep fun b hb' => hbz.block b (Nat.lt_of_lt_of_le hb' HXx_l_s.out))
    have HXx_l_s := Lib.hid (Nat.le_trans HXx_l_s.out hbz.size)
    have OX_l := Lib.hid (OX_l.out.okeep fun b hb' => hbz.block b (OX_l.out.olt b hb'))
    have OG_0 := Lib.hid (rHouse.okeep OG_0.out fun b hb' => hbz.block b (rHouse.olt OG_0.out b hb'))
    have OG_1 := Lib.hid (OG_1.out.okeep fun b hb' => hbz.block b (OG_1.out.olt b hb'))
    have KW_0 := Lib.hid (KW_0.out.bel hbz)
    have KG_0 := Lib.hid (KG_0.out.bel hbz)
    have HT17 := Lib.hid (below_step HT14.out hbz)
    clear hbz
    go_wp2_with fail
    refine (eqBoolS_c ((Pl.playHo parts l).2.1) _ _ _ _ _ _ _ _ (OG_1.out.weak (B := _) OG_1.out.olt) (HW0_1.out.more HW0_1_s.out) (Nat.le_refl _)).mono ?_
    rintro e v18 ⟨rfl, hbz⟩
    have HR_l := Lib.hid (HR_l.out.keep fun b hb' => hbz.block b (Nat.lt_of_lt_of_le hb' HB_l.out))
    have HB_l := Lib.hid (Nat.le_trans HB_l.out hbz.size)
    have HW0_0 := Lib.hid (rHouse.keep HW0_0.out fun b hb' => hbz.block b (Nat.lt_of_lt_of_le hb' HW0_0_s.out))
    have HW0_0_s := Lib.hid (Nat.le_trans HW0_0_s.out hbz.size)
    have HW0_1 := Lib.hid (HW0_1.out.keep fun b hb' => hbz.block b (Nat.lt_of_lt_of_le hb' HW0_1_s.out))
    have HW0_1_s := Lib.hid (Nat.le_trans HW0_1_s.out hbz.size)
    have HXx_l := Lib.hid (HXx_l.out.keep fun b hb' => hbz.block b (Nat.lt_of_lt_of_le hb' HXx_l_s.out))
    have HXx_l_s := Lib.hid (Nat.le_trans HXx_l_s.out hbz.size)
    have OX_l := Lib.hid (OX_l.out.okeep fun b hb' => hbz.block b (OX_l.out.olt b hb'))
    have OG_0 := Lib.hid (rHouse.okeep OG_0.out fun b hb' => hbz.block b (rHouse.olt OG_0.out b hb'))
    have OG_1 := Lib.hid (OG_1.out.okeep fun b hb' => hbz.block b (OG_1.out.olt b hb'))
    have KW_0 := Lib.hid (KW_0.out.bel hbz)
    have KG_0 := Lib.hid (KG_0.out.bel hbz)
    have HT19 := Lib.hid (below_step HT17.out hbz)
    clear hbz
    go_wp2_with fail
    refine (toHouseStepS_c l _ _ _ _ w.heap.size HR_l.out HB_l.out (by omega)).mono ?_
    rintro e v20 ⟨A20, n20, c20, fp20, rfl, ho20, hnd20, hf20, hbz⟩
    have HR_l := Lib.hid (HR_l.out.keep fun b hb' => hbz.block b (Nat.lt_of_lt_of_le hb' HB_l.out))
    have HB_l := Lib.hid (Nat.le_trans HB_l.out hbz.size)
    have HW0_0 := Lib.hid (rHouse.keep HW0_0.out fun b hb' => hbz.block b (Nat.lt_of_lt_of_le hb' HW0_0_s.out))
    have HW0_0_s := Lib.hid (Nat.le_trans HW0_0_s.out hbz.size)
    have HW0_1 := Lib.hid (HW0_1.out.keep fun b hb' => hbz.block b (Nat.lt_of_lt_of_le hb' HW0_1_s.out))
    have HW0_1_s := Lib.hid (Nat.le_trans HW0_1_s.out hbz.size)
    have HXx_l := Lib.hid (HXx_l.out.keep fun b hb' => hbz.block b (Nat.lt_of_lt_of_le hb' HXx_l_s.out))
    have HXx_l_s := Lib.hid (Nat.le_trans HXx_l_s.out hbz.size)
    have OX_l := Lib.hid (OX_l.out.okeep fun b hb' => hbz.block b (OX_l.out.olt b hb'))
    have OG_0 := Lib.hid (rHouse.okeep OG_0.out fun b hb' => hbz.block b (rHouse.olt OG_0.out b hb'))
    have OG_1 := Lib.hid (OG_1.out.okeep fun b hb' => hbz.block b (OG_1.out.olt b hb'))
    have KW_0 := Lib.hid (KW_0.out.bel hbz)
    have KG_0 := Lib.hid (KG_0.out.bel hbz)
    have HT21 := Lib.hid (below_step HT19.out hbz)
    have HXz_l := Lib.hid (ho20.weak (B := v20.heap.size) ho20.olt)
    have HXz_l_s := Lib.hid (Nat.le_refl v20.heap.size)
    clear ho20 hnd20 hf20
    clear hbz
    go_wp2_with fail
    refine (eqHouseStepS_c l _ _ _ _ _ _ _ v20.heap.size (HXx_l.out.more HXx_l_s.out) HXz_l.out (Nat.le_refl _)).mono ?_
    rintro e v22 ⟨rfl, hbz⟩
    have HR_l := Lib.hid (HR_l.out.keep fun b hb' => hbz.block b (Nat.lt_of_lt_of_le hb' HB_l.out))
    have HB_l := Lib.hid (Nat.le_trans HB_l.out hbz.size)
    have HW0_0 := Lib.hid (rHouse.keep HW0_0.out fun b hb' => hbz.block b (Nat.lt_of_lt_of_le hb' HW0_0_s.out))
    have HW0_0_s := Lib.hid (Nat.le_trans HW0_0_s.out hbz.size)
    have HW0_1 := Lib.hid (HW0_1.out.keep fun b hb' => hbz.block b (Nat.lt_of_lt_of_le hb' HW0_1_s.out))
    have HW0_1_s := Lib.hid (Nat.le_trans HW0_1_s.out hbz.size)
    have HXx_l := Lib.hid (HXx_l.out.keep fun b hb' => hbz.block b (Nat.lt_of_lt_of_le hb' HXx_l_s.out))
    have HXx_l_s := Lib.hid (Nat.le_trans HXx_l_s.out hbz.size)
    have HXz_l := Lib.hid (HXz_l.out.keep fun b hb' => hbz.block b (Nat.lt_of_lt_of_le hb' HXz_l_s.out))
    have HXz_l_s := Lib.hid (Nat.le_trans HXz_l_s.out hbz.size)
    have OX_l := Lib.hid (OX_l.out.okeep fun b hb' => hbz.block b (OX_l.out.olt b hb'))
    have OG_0 := Lib.hid (rHouse.okeep OG_0.out fun b hb' => hbz.block b (rHouse.olt OG_0.out b hb'))
    have OG_1 := Lib.hid (OG_1.out.okeep fun b hb' => hbz.block b (OG_1.out.olt b hb'))
    have KW_0 := Lib.hid (KW_0.out.bel hbz)
    have KG_0 := Lib.hid (KG_0.out.bel hbz)
    have HT23 := Lib.hid (below_step HT21.out hbz)
    clear hbz
    have hcn_l := Mm.cntL_nn (cnt := Pl.cntHouseStep) (Pl.cntHouseStep_nn) l
    have hcb_l : (Mm.cntL Pl.cntHouseStep) l ≤ 50000000 := by have := Pl.cntLb (cnt := Pl.cntHouseStep) (f := Pl.szHouseStep) (Pl.cntbHouseStep) l; omega
    go_wp2_with fail
    refine (markHouseStepS_c l _ _ _ _ _ _ OX_l.out ND10.out (by omega) (by omega)).mono ?_
    rintro e v24 ⟨rfl, hch, -⟩
    have HR_l := Lib.hid (HR_l.out.keep fun b hb' => hch.block b (Nat.lt_of_lt_of_le hb' HB_l.out) (fun hm => by have := AP10_HR_l.out b hm; omega))
    have HB_l := Lib.hid (Nat.le_trans HB_l.out hch.size)
    have HW0_0 := Lib.hid (rHouse.keep HW0_0.out fun b hb' => hch.block b (Nat.lt_of_lt_of_le hb' HW0_0_s.out) (fun hm => by have := AP10_HW0_0.out b hm; omega))
    have HW0_0_s := Lib.hid (Nat.le_trans HW0_0_s.out hch.size)
    have HW0_1 := Lib.hid (HW0_1.out.keep fun b hb' => hch.block b (Nat.lt_of_lt_of_le hb' HW0_1_s.out) (fun hm => by have := AP10_HW0_1.out b hm; omega))
    have HW0_1_s := Lib.hid (Nat.le_trans HW0_1_s.out hch.size)
    have OG_0 := Lib.hid (rHouse.okeep OG_0.out fun b hb' => hch.block b (rHouse.olt OG_0.out b hb') (fun hm => DP12_0_OX_l.out b hb' hm))
    have OG_1 := Lib.hid (OG_1.out.okeep fun b hb' => hch.block b (OG_1.out.olt b hb') (fun hm => DP12_1_OX_l.out b hb' hm))
    have KW_0 := Lib.hid (KW_0.out.keep (hch.block _ KW_0.out.lt (NB10_KW_0.out)))
    have KG_0 := Lib.hid (KG_0.out.keep (hch.block _ KG_0.out.lt (NIKG_0_fp10.out)))
    have HT25 := Lib.hid (Mm.Below.chg HT23.out hch HT23.out.size FR10.out)
    clear hch
    have c26_KW_0_0 := KW_0.out.cell (i := 0) rfl
    have c26_KW_0_1 := KW_0.out.cell (i := 1) rfl
    have c26_KW_0_2 := KW_0.out.cell (i := 2) rfl
    have c26_KG_0_0 := KG_0.out.cell (i := 0) rfl
    have c26_KG_0_1 := KG_0.out.cell (i := 1) rfl
    have c26_KG_0_2 := KG_0.out.cell (i := 2) rfl
    go_wp2_with fail
    refine (eqHouse_at ((Pl.playHo parts l).1) _ _ _ _ (rHouse.weak OG_0.out (B := _) (rHouse.olt OG_0.out)) (rHouse.more HW0_0.out HW0_0_s.out) (Nat.le_refl _)).mono ?_
    rintro e v27 ⟨rfl, hbz⟩
    have HR_l := Lib.hid (HR_l.out.keep fun b hb' => hbz.block b (Nat.lt_of_lt_of_le hb' HB_l.out))
    have HB_l := Lib.hid (Nat.le_trans HB_l.out hbz.size)
    have HW0_0 := Lib.hid (rHouse.keep HW0_0.out fun b hb' => hbz.block b (Nat.lt_of_lt_of_le hb' HW0_0_s.out))
    have HW0_0_s := Lib.hid (Nat.le_trans HW0_0_s.out hbz.size)
    have HW0_1 := Lib.hid (HW0_1.out.keep fun b hb' => hbz.block b (Nat.lt_of_lt_of_le hb' HW0_1_s.out))
    have HW0_1_s := Lib.hid (Nat.le_trans HW0_1_s.out hbz.size)
    have OG_0 := Lib.hid (rHouse.okeep OG_0.out fun b hb' => hbz.block b (rHouse.olt OG_0.out b hb'))
    have OG_1 := Lib.hid (OG_1.out.okeep fun b hb' => hbz.block b (OG_1.out.olt b hb'))
    have KW_0 := Lib.hid (KW_0.out.bel hbz)
    have KG_0 := Lib.hid (KG_0.out.bel hbz)
    have HT28 := Lib.hid (below_step HT25.out hbz)
    clear hbz
    go_wp2_with fail
    refine (eqBoolS_c ((Pl.playHo parts l).2.1) _ _ _ _ _ _ _ _ (OG_1.out.weak (B := _) OG_1.out.olt) (HW0_1.out.more HW0_1_s.out) (Nat.le_refl _)).mono ?_
    rintro e v29 ⟨rfl, hbz⟩
    have HR_l := Lib.hid (HR_l.out.keep fun b hb' => hbz.block b (Nat.lt_of_lt_of_le hb' HB_l.out))
    have HB_l := Lib.hid (Nat.le_trans HB_l.out hbz.size)
    have HW0_0 := Lib.hid (rHouse.keep HW0_0.out fun b hb' => hbz.block b (Nat.lt_of_lt_of_le hb' HW0_0_s.out))
    have HW0_0_s := Lib.hid (Nat.le_trans HW0_0_s.out hbz.size)
    have HW0_1 := Lib.hid (HW0_1.out.keep fun b hb' => hbz.block b (Nat.lt_of_lt_of_le hb' HW0_1_s.out))
    have HW0_1_s := Lib.hid (Nat.le_trans HW0_1_s.out hbz.size)
    have OG_0 := Lib.hid (rHouse.okeep OG_0.out fun b hb' => hbz.block b (rHouse.olt OG_0.out b hb'))
    have OG_1 := Lib.hid (OG_1.out.okeep fun b hb' => hbz.block b (OG_1.out.olt b hb'))
    have KW_0 := Lib.hid (KW_0.out.bel hbz)
    have KG_0 := Lib.hid (KG_0.out.bel hbz)
    have HT30 := Lib.hid (below_step HT28.out hbz)
    clear hbz
    have hcg0 : 0 ≤ Pl.ctopHouse ((Pl.playHo parts l).1) := Pl.ctopHouse_nn ((Pl.playHo parts l).1)
    have hcgb0 : Pl.ctopHouse ((Pl.playHo parts l).1) ≤ 50000000 := (Pl.playHo_cnt parts l)
    obtain ⟨cg0, hcge0⟩ : ∃ z, Pl.ctopHouse ((Pl.playHo parts l).1) = z := ⟨_, rfl⟩
    rw [hcge0] at hcg0 hcgb0
    have HCG0 := Lib.hid hcge0
    clear hcge0
    have hcg1 : 0 ≤ (Mm.cntL Pl.cnt1) ((Pl.playHo parts l).2.1) := Mm.cntL_nn (cnt := Pl.cnt1) (Pl.cnt1_nn) ((Pl.playHo parts l).2.1)
    have hcgb1 : (Mm.cntL Pl.cnt1) ((Pl.playHo parts l).2.1) ≤ 50000000 := (Pl.playHo_cnt1 parts l)
    obtain ⟨cg1, hcge1⟩ : ∃ z, (Mm.cntL Pl.cnt1) ((Pl.playHo parts l).2.1) = z := ⟨_, rfl⟩
    rw [hcge1] at hcg1 hcgb1
    have HCG1 := Lib.hid hcge1
    clear hcge1
    have c31_KG_0_0 := KG_0.out.cell (i := 0) rfl
    have c31_KG_0_1 := KG_0.out.cell (i := 1) rfl
    have c31_KG_0_2 := KG_0.out.cell (i := 2) rfl
    go_wp2_with fail
    refine (markHouse_c ((Pl.playHo parts l).1) _ _ _ _ OG_0.out ND12_0.out (by omega) (by rw [HCG0.out]; omega)).mono ?_
    rintro e v32 ⟨rfl, hch, fpm0, hom, hndm, hsubm⟩
    rw [HCG0.out]
    have HR_l := Lib.hid (HR_l.out.keep fun b hb' => hch.block b (Nat.lt_of_lt_of_le hb' HB_l.out) (fun hm => by have := AP12_0_HR_l.out b hm; omega))
    have HB_l := Lib.hid (Nat.le_trans HB_l.out hch.size)
    have HW0_0 := Lib.hid (rHouse.keep HW0_0.out fun b hb' => hch.block b (Nat.lt_of_lt_of_le hb' HW0_0_s.out) (fun hm => by have := AP12_0_HW0_0.out b hm; omega))
    have HW0_0_s := Lib.hid (Nat.le_trans HW0_0_s.out hch.size)
    have HW0_1 := Lib.hid (HW0_1.out.keep fun b hb' => hch.block b (Nat.lt_of_lt_of_le hb' HW0_1_s.out) (fun hm => by have := AP12_0_HW0_1.out b hm; omega))
    have HW0_1_s := Lib.hid (Nat.le_trans HW0_1_s.out hch.size)
    have OG_1 := Lib.hid (OG_1.out.okeep fun b hb' => hch.block b (OG_1.out.olt b hb') (fun hm => DP12_1_0.out b hb' hm))
    have KW_0 := Lib.hid (KW_0.out.keep (hch.block _ KW_0.out.lt (NB12_0_KW_0.out)))
    have KG_0 := Lib.hid (KG_0.out.keep (hch.block _ KG_0.out.lt (NIKG_0_fp12_0.out)))
    have HT33 := Lib.hid (Mm.Below.chg HT30.out hch HT30.out.size FR12_0.out)
    clear hch
    have OM_0 := Lib.hid hom
    have DM0_1 := Lib.hid (show ∀ b, b ∈ fpm0 → b ∉ fp12_1 from fun b hb' hm => (fun b hb' hm => DP12_0_1.out b hb' hm) b (hsubm b hb') hm)
    clear hom hndm hsubm
    go_wp2_with fail
    refine (markBoolS_c ((Pl.playHo parts l).2.1) _ _ _ _ _ _ OG_1.out ND12_1.out (by omega) (by rw [HCG1.out]; omega)).mono ?_
    rintro e v34 ⟨rfl, hch, fpm1, hom, hndm, hsubm⟩
    rw [HCG1.out]
    have HR_l := Lib.hid (HR_l.out.keep fun b hb' => hch.block b (Nat.lt_of_lt_of_le hb' HB_l.out) (fun hm => by have := AP12_1_HR_l.out b hm; omega))
    have HB_l := Lib.hid (Nat.le_trans HB_l.out hch.size)
    have HW0_0 := Lib.hid (rHouse.keep HW0_0.out fun b hb' => hch.block b (Nat.lt_of_lt_of_le hb' HW0_0_s.out) (fun hm => by have := AP12_1_HW0_0.out b hm; omega))
    have HW0_0_s := Lib.hid (Nat.le_trans HW0_0_s.out hch.size)
    have HW0_1 := Lib.hid (HW0_1.out.keep fun b hb' => hch.block b (Nat.lt_of_lt_of_le hb' HW0_1_s.out) (fun hm => by have := AP12_1_HW0_1.out b hm; omega))
    have HW0_1_s := Lib.hid (Nat.le_trans HW0_1_s.out hch.size)
    have OM_0 := Lib.hid (rHouse.okeep OM_0.out fun b hb' => hch.block b (rHouse.olt OM_0.out b hb') (fun hm => DM0_1.out b hb' hm))
    have KW_0 := Lib.hid (KW_0.out.keep (hch.block _ KW_0.out.lt (NB12_1_KW_0.out)))
    have KG_0 := Lib.hid (KG_0.out.keep (hch.block _ KG_0.out.lt (NIKG_0_fp12_1.out)))
    have HT35 := Lib.hid (Mm.Below.chg HT33.out hch HT33.out.size FR12_1.out)
    clear hch
    have OM_1 := Lib.hid hom
    clear hom hndm hsubm
    have c36_KG_0_0 := KG_0.out.cell (i := 0) rfl
    have c36_KG_0_1 := KG_0.out.cell (i := 1) rfl
    have c36_KG_0_2 := KG_0.out.cell (i := 2) rfl
    go_wp2_with fail
    refine (heldHouse_c ((Pl.playHo parts l).1) _ _ _ _ (rHouse.weak OM_0.out (B := _) (rHouse.olt OM_0.out)) (Nat.le_refl _) (by omega) (by rw [HCG0.out]; omega)).mono ?_
    rintro e v37 ⟨rfl, hbz⟩
    rw [HCG0.out]
    have HR_l := Lib.hid (HR_l.out.keep fun b hb' => hbz.block b (Nat.lt_of_lt_of_le hb' HB_l.out))
    have HB_l := Lib.hid (Nat.le_trans HB_l.out hbz.size)
    have HW0_0 := Lib.hid (rHouse.keep HW0_0.out fun b hb' => hbz.block b (Nat.lt_of_lt_of_le hb' HW0_0_s.out))
    have HW0_0_s := Lib.hid (Nat.le_trans HW0_0_s.out hbz.size)
    have HW0_1 := Lib.hid (HW0_1.out.keep fun b hb' => hbz.block b (Nat.lt_of_lt_of_le hb' HW0_1_s.out))
    have HW0_1_s := Lib.hid (Nat.le_trans HW0_1_s.out hbz.size)
    have OM_0 := Lib.hid (rHouse.okeep OM_0.out fun b hb' => hbz.block b (rHouse.olt OM_0.out b hb'))
    have OM_1 := Lib.hid (OM_1.out.okeep fun b hb' => hbz.block b (OM_1.out.olt b hb'))
    have KW_0 := Lib.hid (KW_0.out.bel hbz)
    have KG_0 := Lib.hid (KG_0.out.bel hbz)
    have HT38 := Lib.hid (below_step HT35.out hbz)
    clear hbz
    go_wp2_with fail
    refine (heldBoolS_c ((Pl.playHo parts l).2.1) _ _ _ _ _ _ (OM_1.out.weak (B := _) OM_1.out.olt) (Nat.le_refl _) (by omega) (by rw [HCG1.out]; omega)).mono ?_
    rintro e v39 ⟨rfl, hbz⟩
    rw [HCG1.out]
    have HR_l := Lib.hid (HR_l.out.keep fun b hb' => hbz.block b (Nat.lt_of_lt_of_le hb' HB_l.out))
    have HB_l := Lib.hid (Nat.le_trans HB_l.out hbz.size)
    have HW0_0 := Lib.hid (rHouse.keep HW0_0.out fun b hb' => hbz.block b (Nat.lt_of_lt_of_le hb' HW0_0_s.out))
    have HW0_0_s := Lib.hid (Nat.le_trans HW0_0_s.out hbz.size)
    have HW0_1 := Lib.hid (HW0_1.out.keep fun b hb' => hbz.block b (Nat.lt_of_lt_of_le hb' HW0_1_s.out))
    have HW0_1_s := Lib.hid (Nat.le_trans HW0_1_s.out hbz.size)
    have OM_0 := Lib.hid (rHouse.okeep OM_0.out fun b hb' => hbz.block b (rHouse.olt OM_0.out b hb'))
    have OM_1 := Lib.hid (OM_1.out.okeep fun b hb' => hbz.block b (OM_1.out.olt b hb'))
    have KW_0 := Lib.hid (KW_0.out.bel hbz)
    have KG_0 := Lib.hid (KG_0.out.bel hbz)
    have HT40 := Lib.hid (below_step HT38.out hbz)
    clear hbz
    go_wp2_with fail
    refine (toHouseStepS_c l _ _ _ _ w.heap.size HR_l.out HB_l.out (by omega)).mono ?_
    rintro e v41 ⟨A41, n41, c41, fp41, rfl, ho41, hnd41, hf41, hbz⟩
    have HR_l := Lib.hid (HR_l.out.keep fun b hb' => hbz.block b (Nat.lt_of_lt_of_le hb' HB_l.out))
    have HB_l := Lib.hid (Nat.le_trans HB_l.out hbz.size)
    have HW0_0 := Lib.hid (rHouse.keep HW0_0.out fun b hb' => hbz.block b (Nat.lt_of_lt_of_le hb' HW0_0_s.out))
    have HW0_0_s := Lib.hid (Nat.le_trans HW0_0_s.out hbz.size)
    have HW0_1 := Lib.hid (HW0_1.out.keep fun b hb' => hbz.block b (Nat.lt_of_lt_of_le hb' HW0_1_s.out))
    have HW0_1_s := Lib.hid (Nat.le_trans HW0_1_s.out hbz.size)
    have OM_0 := Lib.hid (rHouse.okeep OM_0.out fun b hb' => hbz.block b (rHouse.olt OM_0.out b hb'))
    have OM_1 := Lib.hid (OM_1.out.okeep fun b hb' => hbz.block b (OM_1.out.olt b hb'))
    have KW_0 := Lib.hid (KW_0.out.bel hbz)
    have KG_0 := Lib.hid (KG_0.out.bel hbz)
    have HT42 := Lib.hid (below_step HT40.out hbz)
    have HXh_l := Lib.hid (ho41.weak (B := v41.heap.size) ho41.olt)
    have HXh_l_s := Lib.hid (Nat.le_refl v41.heap.size)
    clear ho41 hnd41 hf41
    clear hbz
    go_wp2_with fail
    refine (implPlayHouse_c parts l _ _ _ _ _ (HXh_l.out.more HXh_l_s.out) (Nat.le_refl _) (HTB.out.on HT42.out)).mono ?_
    rintro e v43 ⟨cs43_0, A43_1, n43_1, c43_1, fp43_0, fp43_1, rfl, hS43⟩
    have hbz := hS43.bel0
    have ho43_0 : rHouse.own v43 ((Pl.playHo parts l).1) cs43_0 fp43_0 := hS43.at_ 0 rfl
    have hnd43_0 := hS43.ndat (i := 0) rfl
    have hf43_0 : ∀ b, b ∈ fp43_0 → _ ≤ b := fun b hb' => (hS43.new b (Mm.SepF.mem (i := 0) rfl hb')).resolve_left (fun hh => by cases hh)
    have ho43_1 : Mm.SlOwn Mm.bool 4 v43 ((Pl.playHo parts l).2.1) (.slice A43_1 n43_1 c43_1) fp43_1 := hS43.at_ 1 rfl
    have hnd43_1 := hS43.ndat (i := 1) rfl
    have hf43_1 : ∀ b, b ∈ fp43_1 → _ ≤ b := fun b hb' => (hS43.new b (Mm.SepF.mem (i := 1) rfl hb')).resolve_left (fun hh => by cases hh)
    have DP43_0_1 := Lib.hid (show ∀ b, b ∈ fp43_0 → b ∉ fp43_1 from hS43.apart (i := 0) (j := 1) rfl rfl (by decide))
    have DP43_1_0 := Lib.hid (show ∀ b, b ∈ fp43_1 → b ∉ fp43_0 from hS43.apart (i := 1) (j := 0) rfl rfl (by decide))
    obtain ⟨A0_43_0, n0_43_0, c0_43_0, A1_43_0, n1_43_0, c1_43_0, A2_43_0, n2_43_0, c2_43_0, _, _, _, rfl, -⟩ := rHouse_own ho43_0
    clear hS43
    have HR_l := Lib.hid (HR_l.out.keep fun b hb' => hbz.block b (Nat.lt_of_lt_of_le hb' HB_l.out))
    have HB_l := Lib.hid (Nat.le_trans HB_l.out hbz.size)
    have HW0_0 := Lib.hid (rHouse.keep HW0_0.out fun b hb' => hbz.block b (Nat.lt_of_lt_of_le hb' HW0_0_s.out))
    have HW0_0_s := Lib.hid (Nat.le_trans HW0_0_s.out hbz.size)
    have HW0_1 := Lib.hid (HW0_1.out.keep fun b hb' => hbz.block b (Nat.lt_of_lt_of_le hb' HW0_1_s.out))
    have HW0_1_s := Lib.hid (Nat.le_trans HW0_1_s.out hbz.size)
    have HXh_l := Lib.hid (HXh_l.out.keep fun b hb' => hbz.block b (Nat.lt_of_lt_of_le hb' HXh_l_s.out))
    have HXh_l_s := Lib.hid (Nat.le_trans HXh_l_s.out hbz.size)
    have OM_0 := Lib.hid (rHouse.okeep OM_0.out fun b hb' => hbz.block b (rHouse.olt OM_0.out b hb'))
    have OM_1 := Lib.hid (OM_1.out.okeep fun b hb' => hbz.block b (OM_1.out.olt b hb'))
    have KW_0 := Lib.hid (KW_0.out.bel hbz)
    have KG_0 := Lib.hid (KG_0.out.bel hbz)
    have HT44 := Lib.hid (below_step HT42.out hbz)
    have HH_0 := Lib.hid (rHouse.weak ho43_0 (B := v43.heap.size) (rHouse.olt ho43_0))
    have HH_0_s := Lib.hid (Nat.le_refl v43.heap.size)
    clear ho43_0 hnd43_0 hf43_0
    have HH_1 := Lib.hid (ho43_1.weak (B := v43.heap.size) ho43_1.olt)
    have HH_1_s := Lib.hid (Nat.le_refl v43.heap.size)
    clear ho43_1 hnd43_1 hf43_1
    clear hbz
    have NIKH_0_fpm0 := Lib.hid (show ¬ v43.heap.size ∈ fpm0 from fun hm => Nat.lt_irrefl _ (rHouse.olt OM_0.out _ hm))
    have NIKH_0_fpm1 := Lib.hid (show ¬ v43.heap.size ∈ fpm1 from fun hm => Nat.lt_irrefl _ (OM_1.out.olt _ hm))
    have hbx : Below v43.heap.size v43 (v43.alloc (.cells #[.slice A0_43_0 n0_43_0 c0_43_0, .slice A1_43_0 n1_43_0 c1_43_0, .slice A2_43_0 n2_43_0 c2_43_0] 27)) := below_new (Below.refl _ _) _
    have HR_l := Lib.hid (HR_l.out.keep fun b hb' => hbx.block b (Nat.lt_of_lt_of_le hb' HB_l.out))
    have HB_l := Lib.hid (Nat.le_trans HB_l.out hbx.size)
    have HW0_0 := Lib.hid (rHouse.keep HW0_0.out fun b hb' => hbx.block b (Nat.lt_of_lt_of_le hb' HW0_0_s.out))
    have HW0_0_s := Lib.hid (Nat.le_trans HW0_0_s.out hbx.size)
    have HW0_1 := Lib.hid (HW0_1.out.keep fun b hb' => hbx.block b (Nat.lt_of_lt_of_le hb' HW0_1_s.out))
    have HW0_1_s := Lib.hid (Nat.le_trans HW0_1_s.out hbx.size)
    have HH_0 := Lib.hid (rHouse.keep HH_0.out fun b hb' => hbx.block b (Nat.lt_of_lt_of_le hb' HH_0_s.out))
    have HH_0_s := Lib.hid (Nat.le_trans HH_0_s.out hbx.size)
    have HH_1 := Lib.hid (HH_1.out.keep fun b hb' => hbx.block b (Nat.lt_of_lt_of_le hb' HH_1_s.out))
    have HH_1_s := Lib.hid (Nat.le_trans HH_1_s.out hbx.size)
    have OM_0 := Lib.hid (rHouse.okeep OM_0.out fun b hb' => hbx.block b (rHouse.olt OM_0.out b hb'))
    have OM_1 := Lib.hid (OM_1.out.okeep fun b hb' => hbx.block b (OM_1.out.olt b hb'))
    have KW_0 := Lib.hid (KW_0.out.bel hbx)
    have KG_0 := Lib.hid (KG_0.out.bel hbx)
    have HT45 := Lib.hid (below_step HT44.out hbx)
    clear hbx
    have KH_0 := Lib.hid (Mm.Blk.new v43 27 [.slice A0_43_0 n0_43_0 c0_43_0, .slice A1_43_0 n1_43_0 c1_43_0, .slice A2_43_0 n2_43_0 c2_43_0])
    have c46_KW_0_0 := KW_0.out.cell (i := 0) rfl
    have c46_KW_0_1 := KW_0.out.cell (i := 1) rfl
    have c46_KW_0_2 := KW_0.out.cell (i := 2) rfl
    have c46_KG_0_0 := KG_0.out.cell (i := 0) rfl
    have c46_KG_0_1 := KG_0.out.cell (i := 1) rfl
    have c46_KG_0_2 := KG_0.out.cell (i := 2) rfl
    have c46_KH_0_0 := KH_0.out.cell (i := 0) rfl
    have c46_KH_0_1 := KH_0.out.cell (i := 1) rfl
    have c46_KH_0_2 := KH_0.out.cell (i := 2) rfl
    have c47_KW_0_0 := KW_0.out.cell (i := 0) rfl
    have c47_KW_0_1 := KW_0.out.cell (i := 1) rfl
    have c47_KW_0_2 := KW_0.out.cell (i := 2) rfl
    have c47_KG_0_0 := KG_0.out.cell (i := 0) rfl
    have c47_KG_0_1 := KG_0.out.cell (i := 1) rfl
    have c47_KG_0_2 := KG_0.out.cell (i := 2) rfl
    have c47_KH_0_0 := KH_0.out.cell (i := 0) rfl
    have c47_KH_0_1 := KH_0.out.cell (i := 1) rfl
    have c47_KH_0_2 := KH_0.out.cell (i := 2) rfl
    go_wp2_with fail
    refine (eqHouse_at ((Pl.playHo parts l).1) _ _ _ _ (rHouse.more HH_0.out HH_0_s.out) (rHouse.more HW0_0.out HW0_0_s.out) (Nat.le_refl _)).mono ?_
    rintro e v48 ⟨rfl, hbz⟩
    have HR_l := Lib.hid (HR_l.out.keep fun b hb' => hbz.block b (Nat.lt_of_lt_of_le hb' HB_l.out))
    have HB_l := Lib.hid (Nat.le_trans HB_l.out hbz.size)
    have HW0_0 := Lib.hid (rHouse.keep HW0_0.out fun b hb' => hbz.block b (Nat.lt_of_lt_of_le hb' HW0_0_s.out))
    have HW0_0_s := Lib.hid (Nat.le_trans HW0_0_s.out hbz.size)
    have HW0_1 := Lib.hid (HW0_1.out.keep fun b hb' => hbz.block b (Nat.lt_of_lt_of_le hb' HW0_1_s.out))
    have HW0_1_s := Lib.hid (Nat.le_trans HW0_1_s.out hbz.size)
    have HH_0 := Lib.hid (rHouse.keep HH_0.out fun b hb' => hbz.block b (Nat.lt_of_lt_of_le hb' HH_0_s.out))
    have HH_0_s := Lib.hid (Nat.le_trans HH_0_s.out hbz.size)
    have HH_1 := Lib.hid (HH_1.out.keep fun b hb' => hbz.block b (Nat.lt_of_lt_of_le hb' HH_1_s.out))
    have HH_1_s := Lib.hid (Nat.le_trans HH_1_s.out hbz.size)
    have OM_0 := Lib.hid (rHouse.okeep OM_0.out fun b hb' => hbz.block b (rHouse.olt OM_0.out b hb'))
    have OM_1 := Lib.hid (OM_1.out.okeep fun b hb' => hbz.block b (OM_1.out.olt b hb'))
    have KW_0 := Lib.hid (KW_0.out.bel hbz)
    have KG_0 := Lib.hid (KG_0.out.bel hbz)
    have KH_0 := Lib.hid (KH_0.out.bel hbz)
    have HT49 := Lib.hid (below_step HT45.out hbz)
    clear hbz
    go_wp2_with fail
    refine (eqBoolS_c ((Pl.playHo parts l).2.1) _ _ _ _ _ _ _ _ (HH_1.out.more HH_1_s.out) (HW0_1.out.more HW0_1_s.out) (Nat.le_refl _)).mono ?_
    rintro e v50 ⟨rfl, hbz⟩
    have HR_l := Lib.hid (HR_l.out.keep fun b hb' => hbz.block b (Nat.lt_of_lt_of_le hb' HB_l.out))
    have HB_l := Lib.hid (Nat.le_trans HB_l.out hbz.size)
    have HW0_0 := Lib.hid (rHouse.keep HW0_0.out fun b hb' => hbz.block b (Nat.lt_of_lt_of_le hb' HW0_0_s.out))
    have HW0_0_s := Lib.hid (Nat.le_trans HW0_0_s.out hbz.size)
    have HW0_1 := Lib.hid (HW0_1.out.keep fun b hb' => hbz.block b (Nat.lt_of_lt_of_le hb' HW0_1_s.out))
    have HW0_1_s := Lib.hid (Nat.le_trans HW0_1_s.out hbz.size)
    have HH_0 := Lib.hid (rHouse.keep HH_0.out fun b hb' => hbz.block b (Nat.lt_of_lt_of_le hb' HH_0_s.out))
    have HH_0_s := Lib.hid (Nat.le_trans HH_0_s.out hbz.size)
    have HH_1 := Lib.hid (HH_1.out.keep fun b hb' => hbz.block b (Nat.lt_of_lt_of_le hb' HH_1_s.out))
    have HH_1_s := Lib.hid (Nat.le_trans HH_1_s.out hbz.size)
    have OM_0 := Lib.hid (rHouse.okeep OM_0.out fun b hb' => hbz.block b (rHouse.olt OM_0.out b hb'))
    have OM_1 := Lib.hid (OM_1.out.okeep fun b hb' => hbz.block b (OM_1.out.olt b hb'))
    have KW_0 := Lib.hid (KW_0.out.bel hbz)
    have KG_0 := Lib.hid (KG_0.out.bel hbz)
    have KH_0 := Lib.hid (KH_0.out.bel hbz)
    have HT51 := Lib.hid (below_step HT49.out hbz)
    clear hbz
    have c52_KG_0_0 := KG_0.out.cell (i := 0) rfl
    have c52_KG_0_1 := KG_0.out.cell (i := 1) rfl
    have c52_KG_0_2 := KG_0.out.cell (i := 2) rfl
    go_wp2_with fail
    refine (heldHouse_c ((Pl.playHo parts l).1) _ _ _ _ (rHouse.weak OM_0.out (B := _) (rHouse.olt OM_0.out)) (Nat.le_refl _) (by omega) (by rw [HCG0.out]; omega)).mono ?_
    rintro e v53 ⟨rfl, hbz⟩
    rw [HCG0.out]
    have HR_l := Lib.hid (HR_l.out.keep fun b hb' => hbz.block b (Nat.lt_of_lt_of_le hb' HB_l.out))
    have HB_l := Lib.hid (Nat.le_trans HB_l.out hbz.size)
    have HW0_0 := Lib.hid (rHouse.keep HW0_0.out fun b hb' => hbz.block b (Nat.lt_of_lt_of_le hb' HW0_0_s.out))
    have HW0_0_s := Lib.hid (Nat.le_trans HW0_0_s.out hbz.size)
    have HW0_1 := Lib.hid (HW0_1.out.keep fun b hb' => hbz.block b (Nat.lt_of_lt_of_le hb' HW0_1_s.out))
    have HW0_1_s := Lib.hid (Nat.le_trans HW0_1_s.out hbz.size)
    have HH_0 := Lib.hid (rHouse.keep HH_0.out fun b hb' => hbz.block b (Nat.lt_of_lt_of_le hb' HH_0_s.out))
    have HH_0_s := Lib.hid (Nat.le_trans HH_0_s.out hbz.size)
    have HH_1 := Lib.hid (HH_1.out.keep fun b hb' => hbz.block b (Nat.lt_of_lt_of_le hb' HH_1_s.out))
    have HH_1_s := Lib.hid (Nat.le_trans HH_1_s.out hbz.size)
    have OM_0 := Lib.hid (rHouse.okeep OM_0.out fun b hb' => hbz.block b (rHouse.olt OM_0.out b hb'))
    have OM_1 := Lib.hid (OM_1.out.okeep fun b hb' => hbz.block b (OM_1.out.olt b hb'))
    have KW_0 := Lib.hid (KW_0.out.bel hbz)
    have KG_0 := Lib.hid (KG_0.out.bel hbz)
    have KH_0 := Lib.hid (KH_0.out.bel hbz)
    have HT54 := Lib.hid (below_step HT51.out hbz)
    clear hbz
    go_wp2_with fail
    refine (heldBoolS_c ((Pl.playHo parts l).2.1) _ _ _ _ _ _ (OM_1.out.weak (B := _) OM_1.out.olt) (Nat.le_refl _) (by omega) (by rw [HCG1.out]; omega)).mono ?_
    rintro e v55 ⟨rfl, hbz⟩
    rw [HCG1.out]
    have HR_l := Lib.hid (HR_l.out.keep fun b hb' => hbz.block b (Nat.lt_of_lt_of_le hb' HB_l.out))
    have HB_l := Lib.hid (Nat.le_trans HB_l.out hbz.size)
    have HW0_0 := Lib.hid (rHouse.keep HW0_0.out fun b hb' => hbz.block b (Nat.lt_of_lt_of_le hb' HW0_0_s.out))
    have HW0_0_s := Lib.hid (Nat.le_trans HW0_0_s.out hbz.size)
    have HW0_1 := Lib.hid (HW0_1.out.keep fun b hb' => hbz.block b (Nat.lt_of_lt_of_le hb' HW0_1_s.out))
    have HW0_1_s := Lib.hid (Nat.le_trans HW0_1_s.out hbz.size)
    have HH_0 := Lib.hid (rHouse.keep HH_0.out fun b hb' => hbz.block b (Nat.lt_of_lt_of_le hb' HH_0_s.out))
    have HH_0_s := Lib.hid (Nat.le_trans HH_0_s.out hbz.size)
    have HH_1 := Lib.hid (HH_1.out.keep fun b hb' => hbz.block b (Nat.lt_of_lt_of_le hb' HH_1_s.out))
    have HH_1_s := Lib.hid (Nat.le_trans HH_1_s.out hbz.size)
    have OM_0 := Lib.hid (rHouse.okeep OM_0.out fun b hb' => hbz.block b (rHouse.olt OM_0.out b hb'))
    have OM_1 := Lib.hid (OM_1.out.okeep fun b hb' => hbz.block b (OM_1.out.olt b hb'))
    have KW_0 := Lib.hid (KW_0.out.bel hbz)
    have KG_0 := Lib.hid (KG_0.out.bel hbz)
    have KH_0 := Lib.hid (KH_0.out.bel hbz)
    have HT56 := Lib.hid (below_step HT54.out hbz)
    clear hbz
    go_wp2
    go_ret
    exact ⟨rfl, HT56.out⟩
end Go.Proofs.YtbhmdnjammnlnaaGreatDoor

