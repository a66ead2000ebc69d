/-
  The walk of the law on NewHeavy. No conditions.
-/
import Derived.Test.YtffjepjblokjmaaWh
import Derived.Test.YtffjepjblokjmaaHe
import Derived.Test.YtffjepjblokjmaaHn
import Derived.Test.YtffjepjblokjmaaHh
namespace Go.Proofs.Ytffjepjblokjmaa
open Go.RowKit
theorem cntL_one {α : Type} : ∀ l : List α, Mm.cntL Pl.cnt1 l = (l.length : Int)
  | [] => rfl
  | x :: t => by rw [Mm.cntL_cons, cntL_one t]; show (1 : Int) + _ = _; simp; omega
theorem newHeavy_cnt (n : Int) : Pl.ctopHeavy (Pl.newHeavy n).1 ≤ 50000000 := by
  unfold Pl.ctopHeavy Pl.newHeavy
  split
  · rename_i h
    have hb : 1 ≤ n ∧ n ≤ 6 := by unfold Pl.isIn at h; simpa using h
    simp only [Pl.newHv, cntL_one, List.length_replicate]
    omega
  · simp [cntL_one]
set_option maxRecDepth 100000 in
set_option maxHeartbeats 4000000 in
theorem walk_FnExactNewHeavy (places : Int) (_wplaces : (Lit.int .i64 places).wf = true) (w : World)  :
    Calls Try.prog 8 #[.int .i64 places] w fun e w' => e = .returned (.bool true) ∧ Below w.heap.size w w' := by
  have HT0 := Lib.hid (show Below w.heap.size w w from (Below.refl w.heap.size w))
  go_enter Try.func8, Try.ntmps8
  go_wp2_with fail
  refine (specNewHeavy_c places _).mono ?_
  rintro e v1 ⟨cs1, fp1, rfl, ho1, hnd1, hf1, hbz⟩
  obtain ⟨A0_1, n0_1, c0_1, A1_1, n1_1, c1_1, _, _, rfl, -⟩ := rHeavy_own ho1
  have HT2 := Lib.hid (below_step HT0.out hbz)
  have HW0 := Lib.hid (rHeavy.weak ho1 (B := v1.heap.size) (rHeavy.olt ho1))
  have HW0_s := Lib.hid (Nat.le_refl v1.heap.size)
  clear ho1 hnd1 hf1
  clear hbz
  have hbx : Below v1.heap.size v1 (v1.alloc (.cells #[.slice A0_1 n0_1 c0_1, .slice A1_1 n1_1 c1_1, .int .i64 (Pl.newHeavy places).1.Gone, .int .i64 (Pl.newHeavy places).1.Total] 44)) := below_new (Below.refl _ _) _
  have HW0 := Lib.hid (rHeavy.keep HW0.out fun b hb' => hbx.block b (Nat.lt_of_lt_of_le hb' HW0_s.out))
  have HW0_s := Lib.hid (Nat.le_trans HW0_s.out hbx.size)
  have HT3 := Lib.hid (below_step HT2.out hbx)
  clear hbx
  have KW := Lib.hid (Mm.Blk.new v1 44 [.slice A0_1 n0_1 c0_1, .slice A1_1 n1_1 c1_1, .int .i64 (Pl.newHeavy places).1.Gone, .int .i64 (Pl.newHeavy places).1.Total])
  go_wp2_with fail
  refine (implNewHeavy_c places _).mono ?_
  rintro e v4 ⟨cs4, fp4, rfl, ho4, hnd4, hf4, hbz⟩
  obtain ⟨A0_4, n0_4, c0_4, A1_4, n1_4, c1_4, _, _, rfl, -⟩ := rHeavy_own ho4
  have AP4_HW0 := Lib.hid (show ∀ b, b ∈ fp4 → v1.heap.size ≤ b from fun b hb' => Nat.le_trans HW0_s.out (hf4 b hb'))
  have NB4_KW := Lib.hid (show ¬ v1.heap.size ∈ fp4 from fun hm => by have := KW.out.lt; have := hf4 _ hm; omega)
  have FR4 := Lib.hid (show ∀ b, b ∈ fp4 → w.heap.size ≤ b from fun b hb' => Nat.le_trans HT3.out.size (hf4 b hb'))
  have ND4 := Lib.hid hnd4
  have LT4 := Lib.hid (show ∀ b, b ∈ fp4 → b < v4.heap.size from rHeavy.olt ho4)
  have HW0 := Lib.hid (rHeavy.keep HW0.out fun b hb' => hbz.block b (Nat.lt_of_lt_of_le hb' HW0_s.out))
  have HW0_s := Lib.hid (Nat.le_trans HW0_s.out hbz.size)
  have KW := Lib.hid (KW.out.bel hbz)
  have HT5 := Lib.hid (below_step HT3.out hbz)
  have OG := Lib.hid ho4
  clear ho4 hnd4 hf4
  clear hbz
  have NIKG_fp4 := Lib.hid (show ¬ v4.heap.size ∈ fp4 from fun hm => Nat.lt_irrefl _ (rHeavy.olt OG.out _ hm))
  have hbx : Below v4.heap.size v4 (v4.alloc (.cells #[.slice A0_4 n0_4 c0_4, .slice A1_4 n1_4 c1_4, .int .i64 (Pl.newHeavy places).1.Gone, .int .i64 (Pl.newHeavy places).1.Total] 44)) := below_new (Below.refl _ _) _
  have HW0 := Lib.hid (rHeavy.keep HW0.out fun b hb' => hbx.block b (Nat.lt_of_lt_of_le hb' HW0_s.out))
  have HW0_s := Lib.hid (Nat.le_trans HW0_s.out hbx.size)
  have OG := Lib.hid (rHeavy.okeep OG.out fun b hb' => hbx.block b (rHeavy.olt OG.out b hb'))
  have KW := Lib.hid (KW.out.bel hbx)
  have HT6 := Lib.hid (below_step HT5.out hbx)
  clear hbx
  have KG := Lib.hid (Mm.Blk.new v4 44 [.slice A0_4 n0_4 c0_4, .slice A1_4 n1_4 c1_4, .int .i64 (Pl.newHeavy places).1.Gone, .int .i64 (Pl.newHeavy places).1.Total])
  have c7_KW_0 := KW.out.cell (i := 0) rfl
  have c7_KW_1 := KW.out.cell (i := 1) rfl
  have c7_KW_2 := KW.out.cell (i := 2) rfl
  have c7_KW_3 := KW.out.cell (i := 3) rfl
  have c7_KG_0 := KG.out.cell (i := 0) rfl
  have c7_KG_1 := KG.out.cell (i := 1) rfl
  have c7_KG_2 := KG.out.cell (i := 2) rfl
  have c7_KG_3 := KG.out.cell (i := 3) rfl
  go_wp2_with fail
  refine (eqHeavy_at (Pl.newHeavy places).1 _ _ _ _ (rHeavy.weak OG.out (B := _) (rHeavy.olt OG.out)) (rHeavy.more HW0.out HW0_s.out) (Nat.le_refl _)).mono ?_
  rintro e v8 ⟨rfl, hbz⟩
  have HW0 := Lib.hid (rHeavy.keep HW0.out fun b hb' => hbz.block b (Nat.lt_of_lt_of_le hb' HW0_s.out))
  have HW0_s := Lib.hid (Nat.le_trans HW0_s.out hbz.size)
  have OG := Lib.hid (rHeavy.okeep OG.out fun b hb' => hbz.block b (rHeavy.olt OG.out b hb'))
  have KW := Lib.hid (KW.out.bel hbz)
  have KG := Lib.hid (KG.out.bel hbz)
  have HT9 := Lib.hid (below_step HT6.out hbz)
  clear hbz
  have hcg : 0 ≤ Pl.ctopHeavy (Pl.newHeavy places).1 := Pl.ctopHeavy_nn (Pl.newHeavy places).1
  have hcgb : Pl.ctopHeavy (Pl.newHeavy places).1 ≤ 50000000 := newHeavy_cnt places
  obtain ⟨cg, hcge⟩ : ∃ z, Pl.ctopHeavy (Pl.newHeavy places).1 = z := ⟨_, rfl⟩
  rw [hcge] at hcg hcgb
  have HCG := Lib.hid hcge
  clear hcge
  have c10_KG_0 := KG.out.cell (i := 0) rfl
  have c10_KG_1 := KG.out.cell (i := 1) rfl
  have c10_KG_2 := KG.out.cell (i := 2) rfl
  have c10_KG_3 := KG.out.cell (i := 3) rfl
  go_wp2_with fail
  refine (markHeavy_c (Pl.newHeavy places).1 _ _ _ _ OG.out ND4.out (by omega) (by rw [HCG.out]; omega)).mono ?_
  rintro e v11 ⟨rfl, hch, fpm, hom, hndm, hsubm⟩
  rw [HCG.out]
  have HW0 := Lib.hid (rHeavy.keep HW0.out fun b hb' => hch.block b (Nat.lt_of_lt_of_le hb' HW0_s.out) (fun hm => by have := AP4_HW0.out b hm; omega))
  have HW0_s := Lib.hid (Nat.le_trans HW0_s.out hch.size)
  have KW := Lib.hid (KW.out.keep (hch.block _ KW.out.lt (NB4_KW.out)))
  have KG := Lib.hid (KG.out.keep (hch.block _ KG.out.lt (NIKG_fp4.out)))
  have HT12 := Lib.hid (Mm.Below.chg HT9.out hch HT9.out.size FR4.out)
  clear hch
  have OM := Lib.hid hom
  clear hom hndm hsubm
  have c13_KG_0 := KG.out.cell (i := 0) rfl
  have c13_KG_1 := KG.out.cell (i := 1) rfl
  have c13_KG_2 := KG.out.cell (i := 2) rfl
  have c13_KG_3 := KG.out.cell (i := 3) rfl
  go_wp2_with fail
  refine (heldHeavy_c (Pl.newHeavy places).1 _ _ _ _ (rHeavy.weak OM.out (B := _) (rHeavy.olt OM.out)) (Nat.le_refl _) (by omega) (by rw [HCG.out]; omega)).mono ?_
  rintro e v14 ⟨rfl, hbz⟩
  rw [HCG.out]
  have HW0 := Lib.hid (rHeavy.keep HW0.out fun b hb' => hbz.block b (Nat.lt_of_lt_of_le hb' HW0_s.out))
  have HW0_s := Lib.hid (Nat.le_trans HW0_s.out hbz.size)
  have OM := Lib.hid (rHeavy.okeep OM.out fun b hb' => hbz.block b (rHeavy.olt OM.out b hb'))
  have KW := Lib.hid (KW.out.bel hbz)
  have KG := Lib.hid (KG.out.bel hbz)
  have HT15 := Lib.hid (below_step HT12.out hbz)
  clear hbz
  go_wp2_with fail
  refine (implNewHeavy_c places _).mono ?_
  rintro e v16 ⟨cs16, fp16, rfl, ho16, hnd16, hf16, hbz⟩
  obtain ⟨A0_16, n0_16, c0_16, A1_16, n1_16, c1_16, _, _, rfl, -⟩ := rHeavy_own ho16
  have HW0 := Lib.hid (rHeavy.keep HW0.out fun b hb' => hbz.block b (Nat.lt_of_lt_of_le hb' HW0_s.out))
  have HW0_s := Lib.hid (Nat.le_trans HW0_s.out hbz.size)
  have OM := Lib.hid (rHeavy.okeep OM.out fun b hb' => hbz.block b (rHeavy.olt OM.out b hb'))
  have KW := Lib.hid (KW.out.bel hbz)
  have KG := Lib.hid (KG.out.bel hbz)
  have HT17 := Lib.hid (below_step HT15.out hbz)
  have HH := Lib.hid (rHeavy.weak ho16 (B := v16.heap.size) (rHeavy.olt ho16))
  have HH_s := Lib.hid (Nat.le_refl v16.heap.size)
  clear ho16 hnd16 hf16
  clear hbz
  have hbx : Below v16.heap.size v16 (v16.alloc (.cells #[.slice A0_16 n0_16 c0_16, .slice A1_16 n1_16 c1_16, .int .i64 (Pl.newHeavy places).1.Gone, .int .i64 (Pl.newHeavy places).1.Total] 44)) := below_new (Below.refl _ _) _
  have HW0 := Lib.hid (rHeavy.keep HW0.out fun b hb' => hbx.block b (Nat.lt_of_lt_of_le hb' HW0_s.out))
  have HW0_s := Lib.hid (Nat.le_trans HW0_s.out hbx.size)
  have HH := Lib.hid (rHeavy.keep HH.out fun b hb' => hbx.block b (Nat.lt_of_lt_of_le hb' HH_s.out))
  have HH_s := Lib.hid (Nat.le_trans HH_s.out hbx.size)
  have OM := Lib.hid (rHeavy.okeep OM.out fun b hb' => hbx.block b (rHeavy.olt OM.out b hb'))
  have KW := Lib.hid (KW.out.bel hbx)
  have KG := Lib.hid (KG.out.bel hbx)
  have HT18 := Lib.hid (below_step HT17.out hbx)
  clear hbx
  have KH := Lib.hid (Mm.Blk.new v16 44 [.slice A0_16 n0_16 c0_16, .slice A1_16 n1_16 c1_16, .int .i64 (Pl.newHeavy places).1.Gone, .int .i64 (Pl.newHeavy places).1.Total])
  have c19_KW_0 := KW.out.cell (i := 0) rfl
  have c19_KW_1 := KW.out.cell (i := 1) rfl
  have c19_KW_2 := KW.out.cell (i := 2) rfl
  have c19_KW_3 := KW.out.cell (i := 3) rfl
  have c19_KH_0 := KH.out.cell (i := 0) rfl
  have c19_KH_1 := KH.out.cell (i := 1) rfl
  have c19_KH_2 := KH.out.cell (i := 2) rfl
  have c19_KH_3 := KH.out.cell (i := 3) rfl
  go_wp2_with fail
  refine (eqHeavy_at (Pl.newHeavy places).1 _ _ _ _ (rHeavy.more HH.out HH_s.out) (rHeavy.more HW0.out HW0_s.out) (Nat.le_refl _)).mono ?_
  rintro e v20 ⟨rfl, hbz⟩
  have HW0 := Lib.hid (rHeavy.keep HW0.out fun b hb' => hbz.block b (Nat.lt_of_lt_of_le hb' HW0_s.out))
  have HW0_s := Lib.hid (Nat.le_trans HW0_s.out hbz.size)
  have HH := Lib.hid (rHeavy.keep HH.out fun b hb' => hbz.block b (Nat.lt_of_lt_of_le hb' HH_s.out))
  have HH_s := Lib.hid (Nat.le_trans HH_s.out hbz.size)
  have OM := Lib.hid (rHeavy.okeep OM.out fun b hb' => hbz.block b (rHeavy.olt OM.out b hb'))
  have KW := Lib.hid (KW.out.bel hbz)
  have KG := Lib.hid (KG.out.bel hbz)
  have KH := Lib.hid (KH.out.bel hbz)
  have HT21 := Lib.hid (below_step HT18.out hbz)
  clear hbz
  have c22_KG_0 := KG.out.cell (i := 0) rfl
  have c22_KG_1 := KG.out.cell (i := 1) rfl
  have c22_KG_2 := KG.out.cell (i := 2) rfl
  have c22_KG_3 := KG.out.cell (i := 3) rfl
  go_wp2_with fail
  refine (heldHeavy_c (Pl.newHeavy places).1 _ _ _ _ (rHeavy.weak OM.out (B := _) (rHeavy.olt OM.out)) (Nat.le_refl _) (by omega) (by rw [HCG.out]; omega)).mono ?_
  rintro e v23 ⟨rfl, hbz⟩
  rw [HCG.out]
  have HW0 := Lib.hid (rHeavy.keep HW0.out fun b hb' => hbz.block b (Nat.lt_of_lt_of_le hb' HW0_s.out))
  have HW0_s := Lib.hid (Nat.le_trans HW0_s.out hbz.size)
  have HH := Lib.hid (rHeavy.keep HH.out fun b hb' => hbz.block b (Nat.lt_of_lt_of_le hb' HH_s.out))
  have HH_s := Lib.hid (Nat.le_trans HH_s.out hbz.size)
  have OM := Lib.hid (rHeavy.okeep OM.out fun b hb' => hbz.block b (rHeavy.olt OM.out b hb'))
  have KW := Lib.hid (KW.out.bel hbz)
  have KG := Lib.hid (KG.out.bel hbz)
  have KH := Lib.hid (KH.out.bel hbz)
  have HT24 := Lib.hid (below_step HT21.out hbz)
  clear hbz
  go_wp2
  go_ret
  exact ⟨rfl, HT24.out⟩
end Go.Proofs.Ytffjepjblokjmaa
