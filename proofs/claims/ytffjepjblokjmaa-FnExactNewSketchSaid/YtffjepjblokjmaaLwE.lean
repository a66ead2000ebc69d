/-
  The walk of the law on NewSketch. No conditions.
-/
import Derived.Test.YtffjepjblokjmaaWk
import Derived.Test.YtffjepjblokjmaaHe
import Derived.Test.YtffjepjblokjmaaHn
import Derived.Test.YtffjepjblokjmaaHh
namespace Go.Proofs.Ytffjepjblokjmaa
open Go.RowKit
theorem newSk_cnt : ∀ m : Nat, Mm.cntL (Mm.cntL Pl.cnt1) (List.replicate m zrow) = 11 * (m : Int)
  | 0 => rfl
  | m + 1 => by
    have h : Mm.cntL Pl.cnt1 zrow = 11 := by decide
    rw [List.replicate_succ, Mm.cntL_cons, newSk_cnt m, h]
    omega
theorem newSketch_cnt (n : Int) : Pl.ctopSketch (Pl.newSketch n).1 ≤ 50000000 := by
  unfold Pl.ctopSketch Pl.newSketch
  split
  · rename_i h
    have hb : 1 ≤ n ∧ n ≤ 3 := by unfold Pl.isIn at h; simpa using h
    show Mm.cntL (Mm.cntL Pl.cnt1) (List.replicate n.toNat zrow) ≤ _
    rw [newSk_cnt]
    omega
  · show Mm.cntL (Mm.cntL Pl.cnt1) [] ≤ _
    simp [Mm.cntL]
set_option maxRecDepth 100000 in
set_option maxHeartbeats 4000000 in
theorem walk_FnExactNewSketch (rows : Int) (_wrows : (Lit.int .i64 rows).wf = true) (w : World)  :
    Calls Try.prog 6 #[.int .i64 rows] w fun e w' => e = .returned (.bool true) ∧ Below w.heap.size w w' := by
  have HT0 := Lib.hid (show Below w.heap.size w w from (Below.refl w.heap.size w))
  go_enter Try.func6, Try.ntmps6
  go_wp2_with fail
  refine (specNewSketch_c rows _).mono ?_
  rintro e v1 ⟨cs1, fp1, rfl, ho1, hnd1, hf1, hbz⟩
  obtain ⟨A_1, n_1, c_1, _, rfl, -⟩ := sk_own ho1
  have HT2 := Lib.hid (below_step HT0.out hbz)
  have HW0 := Lib.hid (sk.weak ho1 (B := v1.heap.size) (sk.olt ho1))
  have HW0_s := Lib.hid (Nat.le_refl v1.heap.size)
  clear ho1 hnd1 hf1
  clear hbz
  have hbx : Below v1.heap.size v1 (v1.alloc (.cells #[.slice A_1 n_1 c_1, .int .i64 (Pl.newSketch rows).1.Total] 34)) := below_new (Below.refl _ _) _
  have HW0 := Lib.hid (sk.keep HW0.out fun b hb' => hbx.block b (Nat.lt_of_lt_of_le hb' HW0_s.out))
  have HW0_s := Lib.hid (Nat.le_trans HW0_s.out hbx.size)
  have HT3 := Lib.hid (below_step HT2.out hbx)
  clear hbx
  have KW := Lib.hid (Mm.Blk.new v1 34 [.slice A_1 n_1 c_1, .int .i64 (Pl.newSketch rows).1.Total])
  go_wp2_with fail
  refine (implNewSketch_c rows _).mono ?_
  rintro e v4 ⟨cs4, fp4, rfl, ho4, hnd4, hf4, hbz⟩
  obtain ⟨A_4, n_4, c_4, _, rfl, -⟩ := sk_own ho4
  have AP4_HW0 := Lib.hid (show ∀ b, b ∈ fp4 → v1.heap.size ≤ b from fun b hb' => Nat.le_trans HW0_s.out (hf4 b hb'))
  have NB4_KW := Lib.hid (show ¬ v1.heap.size ∈ fp4 from fun hm => by have := KW.out.lt; have := hf4 _ hm; omega)
  have FR4 := Lib.hid (show ∀ b, b ∈ fp4 → w.heap.size ≤ b from fun b hb' => Nat.le_trans HT3.out.size (hf4 b hb'))
  have ND4 := Lib.hid hnd4
  have LT4 := Lib.hid (show ∀ b, b ∈ fp4 → b < v4.heap.size from sk.olt ho4)
  have HW0 := Lib.hid (sk.keep HW0.out fun b hb' => hbz.block b (Nat.lt_of_lt_of_le hb' HW0_s.out))
  have HW0_s := Lib.hid (Nat.le_trans HW0_s.out hbz.size)
  have KW := Lib.hid (KW.out.bel hbz)
  have HT5 := Lib.hid (below_step HT3.out hbz)
  have OG := Lib.hid ho4
  clear ho4 hnd4 hf4
  clear hbz
  have NIKG_fp4 := Lib.hid (show ¬ v4.heap.size ∈ fp4 from fun hm => Nat.lt_irrefl _ (sk.olt OG.out _ hm))
  have hbx : Below v4.heap.size v4 (v4.alloc (.cells #[.slice A_4 n_4 c_4, .int .i64 (Pl.newSketch rows).1.Total] 34)) := below_new (Below.refl _ _) _
  have HW0 := Lib.hid (sk.keep HW0.out fun b hb' => hbx.block b (Nat.lt_of_lt_of_le hb' HW0_s.out))
  have HW0_s := Lib.hid (Nat.le_trans HW0_s.out hbx.size)
  have OG := Lib.hid (sk.okeep OG.out fun b hb' => hbx.block b (sk.olt OG.out b hb'))
  have KW := Lib.hid (KW.out.bel hbx)
  have HT6 := Lib.hid (below_step HT5.out hbx)
  clear hbx
  have KG := Lib.hid (Mm.Blk.new v4 34 [.slice A_4 n_4 c_4, .int .i64 (Pl.newSketch rows).1.Total])
  have c7_KW_0 := KW.out.cell (i := 0) rfl
  have c7_KW_1 := KW.out.cell (i := 1) rfl
  have c7_KG_0 := KG.out.cell (i := 0) rfl
  have c7_KG_1 := KG.out.cell (i := 1) rfl
  go_wp2_with fail
  refine (eqSketch_at (Pl.newSketch rows).1 _ _ _ _ (sk.weak OG.out (B := _) (sk.olt OG.out)) (sk.more HW0.out HW0_s.out) (Nat.le_refl _)).mono ?_
  rintro e v8 ⟨rfl, hbz⟩
  have HW0 := Lib.hid (sk.keep HW0.out fun b hb' => hbz.block b (Nat.lt_of_lt_of_le hb' HW0_s.out))
  have HW0_s := Lib.hid (Nat.le_trans HW0_s.out hbz.size)
  have OG := Lib.hid (sk.okeep OG.out fun b hb' => hbz.block b (sk.olt OG.out b hb'))
  have KW := Lib.hid (KW.out.bel hbz)
  have KG := Lib.hid (KG.out.bel hbz)
  have HT9 := Lib.hid (below_step HT6.out hbz)
  clear hbz
  have hcg : 0 ≤ Pl.ctopSketch (Pl.newSketch rows).1 := Pl.ctopSketch_nn (Pl.newSketch rows).1
  have hcgb : Pl.ctopSketch (Pl.newSketch rows).1 ≤ 50000000 := newSketch_cnt rows
  obtain ⟨cg, hcge⟩ : ∃ z, Pl.ctopSketch (Pl.newSketch rows).1 = z := ⟨_, rfl⟩
  rw [hcge] at hcg hcgb
  have HCG := Lib.hid hcge
  clear hcge
  have c10_KG_0 := KG.out.cell (i := 0) rfl
  have c10_KG_1 := KG.out.cell (i := 1) rfl
  go_wp2_with fail
  refine (markSketch_c (Pl.newSketch rows).1 _ _ _ _ OG.out ND4.out (by omega) (by rw [HCG.out]; omega)).mono ?_
  rintro e v11 ⟨rfl, hch, fpm, hom, hndm, hsubm⟩
  rw [HCG.out]
  have HW0 := Lib.hid (sk.keep HW0.out fun b hb' => hch.block b (Nat.lt_of_lt_of_le hb' HW0_s.out) (fun hm => by have := AP4_HW0.out b hm; omega))
  have HW0_s := Lib.hid (Nat.le_trans HW0_s.out hch.size)
  have KW := Lib.hid (KW.out.keep (hch.block _ KW.out.lt (NB4_KW.out)))
  have KG := Lib.hid (KG.out.keep (hch.block _ KG.out.lt (NIKG_fp4.out)))
  have HT12 := Lib.hid (Mm.Below.chg HT9.out hch HT9.out.size FR4.out)
  clear hch
  have OM := Lib.hid hom
  clear hom hndm hsubm
  have c13_KG_0 := KG.out.cell (i := 0) rfl
  have c13_KG_1 := KG.out.cell (i := 1) rfl
  go_wp2_with fail
  refine (heldSketch_c (Pl.newSketch rows).1 _ _ _ _ (sk.weak OM.out (B := _) (sk.olt OM.out)) (Nat.le_refl _) (by omega) (by rw [HCG.out]; omega)).mono ?_
  rintro e v14 ⟨rfl, hbz⟩
  rw [HCG.out]
  have HW0 := Lib.hid (sk.keep HW0.out fun b hb' => hbz.block b (Nat.lt_of_lt_of_le hb' HW0_s.out))
  have HW0_s := Lib.hid (Nat.le_trans HW0_s.out hbz.size)
  have OM := Lib.hid (sk.okeep OM.out fun b hb' => hbz.block b (sk.olt OM.out b hb'))
  have KW := Lib.hid (KW.out.bel hbz)
  have KG := Lib.hid (KG.out.bel hbz)
  have HT15 := Lib.hid (below_step HT12.out hbz)
  clear hbz
  go_wp2_with fail
  refine (implNewSketch_c rows _).mono ?_
  rintro e v16 ⟨cs16, fp16, rfl, ho16, hnd16, hf16, hbz⟩
  obtain ⟨A_16, n_16, c_16, _, rfl, -⟩ := sk_own ho16
  have HW0 := Lib.hid (sk.keep HW0.out fun b hb' => hbz.block b (Nat.lt_of_lt_of_le hb' HW0_s.out))
  have HW0_s := Lib.hid (Nat.le_trans HW0_s.out hbz.size)
  have OM := Lib.hid (sk.okeep OM.out fun b hb' => hbz.block b (sk.olt OM.out b hb'))
  have KW := Lib.hid (KW.out.bel hbz)
  have KG := Lib.hid (KG.out.bel hbz)
  have HT17 := Lib.hid (below_step HT15.out hbz)
  have HH := Lib.hid (sk.weak ho16 (B := v16.heap.size) (sk.olt ho16))
  have HH_s := Lib.hid (Nat.le_refl v16.heap.size)
  clear ho16 hnd16 hf16
  clear hbz
  have hbx : Below v16.heap.size v16 (v16.alloc (.cells #[.slice A_16 n_16 c_16, .int .i64 (Pl.newSketch rows).1.Total] 34)) := below_new (Below.refl _ _) _
  have HW0 := Lib.hid (sk.keep HW0.out fun b hb' => hbx.block b (Nat.lt_of_lt_of_le hb' HW0_s.out))
  have HW0_s := Lib.hid (Nat.le_trans HW0_s.out hbx.size)
  have HH := Lib.hid (sk.keep HH.out fun b hb' => hbx.block b (Nat.lt_of_lt_of_le hb' HH_s.out))
  have HH_s := Lib.hid (Nat.le_trans HH_s.out hbx.size)
  have OM := Lib.hid (sk.okeep OM.out fun b hb' => hbx.block b (sk.olt OM.out b hb'))
  have KW := Lib.hid (KW.out.bel hbx)
  have KG := Lib.hid (KG.out.bel hbx)
  have HT18 := Lib.hid (below_step HT17.out hbx)
  clear hbx
  have KH := Lib.hid (Mm.Blk.new v16 34 [.slice A_16 n_16 c_16, .int .i64 (Pl.newSketch rows).1.Total])
  have c19_KW_0 := KW.out.cell (i := 0) rfl
  have c19_KW_1 := KW.out.cell (i := 1) rfl
  have c19_KH_0 := KH.out.cell (i := 0) rfl
  have c19_KH_1 := KH.out.cell (i := 1) rfl
  go_wp2_with fail
  refine (eqSketch_at (Pl.newSketch rows).1 _ _ _ _ (sk.more HH.out HH_s.out) (sk.more HW0.out HW0_s.out) (Nat.le_refl _)).mono ?_
  rintro e v20 ⟨rfl, hbz⟩
  have HW0 := Lib.hid (sk.keep HW0.out fun b hb' => hbz.block b (Nat.lt_of_lt_of_le hb' HW0_s.out))
  have HW0_s := Lib.hid (Nat.le_trans HW0_s.out hbz.size)
  have HH := Lib.hid (sk.keep HH.out fun b hb' => hbz.block b (Nat.lt_of_lt_of_le hb' HH_s.out))
  have HH_s := Lib.hid (Nat.le_trans HH_s.out hbz.size)
  have OM := Lib.hid (sk.okeep OM.out fun b hb' => hbz.block b (sk.olt OM.out b hb'))
  have KW := Lib.hid (KW.out.bel hbz)
  have KG := Lib.hid (KG.out.bel hbz)
  have KH := Lib.hid (KH.out.bel hbz)
  have HT21 := Lib.hid (below_step HT18.out hbz)
  clear hbz
  have c22_KG_0 := KG.out.cell (i := 0) rfl
  have c22_KG_1 := KG.out.cell (i := 1) rfl
  go_wp2_with fail
  refine (heldSketch_c (Pl.newSketch rows).1 _ _ _ _ (sk.weak OM.out (B := _) (sk.olt OM.out)) (Nat.le_refl _) (by omega) (by rw [HCG.out]; omega)).mono ?_
  rintro e v23 ⟨rfl, hbz⟩
  rw [HCG.out]
  have HW0 := Lib.hid (sk.keep HW0.out fun b hb' => hbz.block b (Nat.lt_of_lt_of_le hb' HW0_s.out))
  have HW0_s := Lib.hid (Nat.le_trans HW0_s.out hbz.size)
  have HH := Lib.hid (sk.keep HH.out fun b hb' => hbz.block b (Nat.lt_of_lt_of_le hb' HH_s.out))
  have HH_s := Lib.hid (Nat.le_trans HH_s.out hbz.size)
  have OM := Lib.hid (sk.okeep OM.out fun b hb' => hbz.block b (sk.olt OM.out b hb'))
  have KW := Lib.hid (KW.out.bel hbz)
  have KG := Lib.hid (KG.out.bel hbz)
  have KH := Lib.hid (KH.out.bel hbz)
  have HT24 := Lib.hid (below_step HT21.out hbz)
  clear hbz
  go_wp2
  go_ret
  exact ⟨rfl, HT24.out⟩
end Go.Proofs.Ytffjepjblokjmaa
