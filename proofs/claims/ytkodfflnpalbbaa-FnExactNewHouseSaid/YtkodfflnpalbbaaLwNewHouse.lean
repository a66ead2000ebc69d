/-
  The walk of the law on NewHouse. No conditions.
-/
import Derived.Test.YtkodfflnpalbbaaUh
import Derived.Test.YtkodfflnpalbbaaHe
import Derived.Test.YtkodfflnpalbbaaHs
import Derived.Test.YtkodfflnpalbbaaHt
import Derived.Test.YtkodfflnpalbbaaHm
import Derived.Test.YtkodfflnpalbbaaHn
import Derived.Test.YtkodfflnpalbbaaHh
namespace Go.Proofs.Ytkodfflnpalbbaa
open Go.RowKit
theorem newHouse_cnt (n : Int) : Pl.ctopHouse (Pl.newHouse n).1 ≤ 50000000 := by
  unfold Pl.newHouse
  split
  · rename_i h
    have hb : 1 ≤ n ∧ n ≤ 3 := by unfold Pl.isIn at h; simpa using h
    refine upto3 (p := fun m => Pl.ctopHouse (Pl.newHo m) ≤ 50000000) (by decide) (by decide) (by decide) n.toNat (by omega) (by omega)
  · decide
set_option maxRecDepth 100000 in
set_option maxHeartbeats 4000000 in
theorem walk_FnExactNewHouse (n : Int) (_wn : (Lit.int .i64 n).wf = true) (w : World)  :
    Calls Try.prog 3 #[.int .i64 n] w fun e w' => e = .returned (.bool true) ∧ Below w.heap.size w w' := by
  have HT0 := Lib.hid (show Below w.heap.size w w from (Below.refl w.heap.size w))
  go_enter Try.func3, Try.ntmps3
  go_wp2_with fail
  refine (specNewHouse_c n _).mono ?_
  rintro e v1 ⟨cs1, fp1, rfl, ho1, hnd1, hf1, hbz⟩
  obtain ⟨A0_1, n0_1, c0_1, A1_1, n1_1, c1_1, A2_1, n2_1, c2_1, _, _, _, rfl, -⟩ := rHouse_own ho1
  have HT2 := Lib.hid (below_step HT0.out hbz)
  have HW0 := Lib.hid (rHouse.weak ho1 (B := v1.heap.size) (rHouse.olt ho1))
  have HW0_s := Lib.hid (Nat.le_refl v1.heap.size)
  clear ho1 hnd1 hf1
  clear hbz
  have hbx : Below v1.heap.size v1 (v1.alloc (.cells #[.slice A0_1 n0_1 c0_1, .slice A1_1 n1_1 c1_1, .slice A2_1 n2_1 c2_1] 25)) := below_new (Below.refl _ _) _
  have HW0 := Lib.hid (rHouse.keep HW0.out fun b hb' => hbx.block b (Nat.lt_of_lt_of_le hb' HW0_s.out))
  have HW0_s := Lib.hid (Nat.le_trans HW0_s.out hbx.size)
  have HT3 := Lib.hid (below_step HT2.out hbx)
  clear hbx
  have KW := Lib.hid (Mm.Blk.new v1 25 [.slice A0_1 n0_1 c0_1, .slice A1_1 n1_1 c1_1, .slice A2_1 n2_1 c2_1])
  go_wp2_with fail
  refine (implNewHouse_c n _).mono ?_
  rintro e v4 ⟨cs4, fp4, rfl, ho4, hnd4, hf4, hbz⟩
  obtain ⟨A0_4, n0_4, c0_4, A1_4, n1_4, c1_4, A2_4, n2_4, c2_4, _, _, _, rfl, -⟩ := rHouse_own ho4
  have AP4_HW0 := Lib.hid (show ∀ b, b ∈ fp4 → v1.heap.size ≤ b from fun b hb' => Nat.le_trans HW0_s.out (hf4 b hb'))
  have NB4_KW := Lib.hid (show ¬ v1.heap.size ∈ fp4 from fun hm => by have := KW.out.lt; have := hf4 _ hm; omega)
  have FR4 := Lib.hid (show ∀ b, b ∈ fp4 → w.heap.size ≤ b from fun b hb' => Nat.le_trans HT3.out.size (hf4 b hb'))
  have ND4 := Lib.hid hnd4
  have LT4 := Lib.hid (show ∀ b, b ∈ fp4 → b < v4.heap.size from rHouse.olt ho4)
  have HW0 := Lib.hid (rHouse.keep HW0.out fun b hb' => hbz.block b (Nat.lt_of_lt_of_le hb' HW0_s.out))
  have HW0_s := Lib.hid (Nat.le_trans HW0_s.out hbz.size)
  have KW := Lib.hid (KW.out.bel hbz)
  have HT5 := Lib.hid (below_step HT3.out hbz)
  have OG := Lib.hid ho4
  clear ho4 hnd4 hf4
  clear hbz
  have NIKG_fp4 := Lib.hid (show ¬ v4.heap.size ∈ fp4 from fun hm => Nat.lt_irrefl _ (rHouse.olt OG.out _ hm))
  have hbx : Below v4.heap.size v4 (v4.alloc (.cells #[.slice A0_4 n0_4 c0_4, .slice A1_4 n1_4 c1_4, .slice A2_4 n2_4 c2_4] 25)) := below_new (Below.refl _ _) _
  have HW0 := Lib.hid (rHouse.keep HW0.out fun b hb' => hbx.block b (Nat.lt_of_lt_of_le hb' HW0_s.out))
  have HW0_s := Lib.hid (Nat.le_trans HW0_s.out hbx.size)
  have OG := Lib.hid (rHouse.okeep OG.out fun b hb' => hbx.block b (rHouse.olt OG.out b hb'))
  have KW := Lib.hid (KW.out.bel hbx)
  have HT6 := Lib.hid (below_step HT5.out hbx)
  clear hbx
  have KG := Lib.hid (Mm.Blk.new v4 25 [.slice A0_4 n0_4 c0_4, .slice A1_4 n1_4 c1_4, .slice A2_4 n2_4 c2_4])
  have c7_KW_0 := KW.out.cell (i := 0) rfl
  have c7_KW_1 := KW.out.cell (i := 1) rfl
  have c7_KW_2 := KW.out.cell (i := 2) rfl
  have c7_KG_0 := KG.out.cell (i := 0) rfl
  have c7_KG_1 := KG.out.cell (i := 1) rfl
  have c7_KG_2 := KG.out.cell (i := 2) rfl
  go_wp2_with fail
  refine (eqHouse_at (Pl.newHouse n).1 _ _ _ _ (rHouse.weak OG.out (B := _) (rHouse.olt OG.out)) (rHouse.more HW0.out HW0_s.out) (Nat.le_refl _)).mono ?_
  rintro e v8 ⟨rfl, hbz⟩
  have HW0 := Lib.hid (rHouse.keep HW0.out fun b hb' => hbz.block b (Nat.lt_of_lt_of_le hb' HW0_s.out))
  have HW0_s := Lib.hid (Nat.le_trans HW0_s.out hbz.size)
  have OG := Lib.hid (rHouse.okeep OG.out fun b hb' => hbz.block b (rHouse.olt OG.out b hb'))
  have KW := Lib.hid (KW.out.bel hbz)
  have KG := Lib.hid (KG.out.bel hbz)
  have HT9 := Lib.hid (below_step HT6.out hbz)
  clear hbz
  have hcg : 0 ≤ Pl.ctopHouse (Pl.newHouse n).1 := Pl.ctopHouse_nn (Pl.newHouse n).1
  have hcgb : Pl.ctopHouse (Pl.newHouse n).1 ≤ 50000000 := (newHouse_cnt n)
  obtain ⟨cg, hcge⟩ : ∃ z, Pl.ctopHouse (Pl.newHouse n).1 = z := ⟨_, rfl⟩
  rw [hcge] at hcg hcgb
  have HCG := Lib.hid hcge
  clear hcge
  have c10_KG_0 := KG.out.cell (i := 0) rfl
  have c10_KG_1 := KG.out.cell (i := 1) rfl
  have c10_KG_2 := KG.out.cell (i := 2) rfl
  go_wp2_with fail
  refine (markHouse_c (Pl.newHouse n).1 _ _ _ _ OG.out ND4.out (by omega) (by rw [HCG.out]; omega)).mono ?_
  rintro e v11 ⟨rfl, hch, fpm, hom, hndm, hsubm⟩
  rw [HCG.out]
  have HW0 := Lib.hid (rHouse.keep HW0.out fun b hb' => hch.block b (Nat.lt_of_lt_of_le hb' HW0_s.out) (fun hm => by have := AP4_HW0.out b hm; omega))
  have HW0_s := Lib.hid (Nat.le_trans HW0_s.out hch.size)
  have KW := Lib.hid (KW.out.keep (hch.block _ KW.out.lt (NB4_KW.out)))
  have KG := Lib.hid (KG.out.keep (hch.block _ KG.out.lt (NIKG_fp4.out)))
  have HT12 := Lib.hid (Mm.Below.chg HT9.out hch HT9.out.size FR4.out)
  clear hch
  have OM := Lib.hid hom
  clear hom hndm hsubm
  have c13_KG_0 := KG.out.cell (i := 0) rfl
  have c13_KG_1 := KG.out.cell (i := 1) rfl
  have c13_KG_2 := KG.out.cell (i := 2) rfl
  go_wp2_with fail
  refine (heldHouse_c (Pl.newHouse n).1 _ _ _ _ (rHouse.weak OM.out (B := _) (rHouse.olt OM.out)) (Nat.le_refl _) (by omega) (by rw [HCG.out]; omega)).mono ?_
  rintro e v14 ⟨rfl, hbz⟩
  rw [HCG.out]
  have HW0 := Lib.hid (rHouse.keep HW0.out fun b hb' => hbz.block b (Nat.lt_of_lt_of_le hb' HW0_s.out))
  have HW0_s := Lib.hid (Nat.le_trans HW0_s.out hbz.size)
  have OM := Lib.hid (rHouse.okeep OM.out fun b hb' => hbz.block b (rHouse.olt OM.out b hb'))
  have KW := Lib.hid (KW.out.bel hbz)
  have KG := Lib.hid (KG.out.bel hbz)
  have HT15 := Lib.hid (below_step HT12.out hbz)
  clear hbz
  go_wp2_with fail
  refine (implNewHouse_c n _).mono ?_
  rintro e v16 ⟨cs16, fp16, rfl, ho16, hnd16, hf16, hbz⟩
  obtain ⟨A0_16, n0_16, c0_16, A1_16, n1_16, c1_16, A2_16, n2_16, c2_16, _, _, _, rfl, -⟩ := rHouse_own ho16
  have HW0 := Lib.hid (rHouse.keep HW0.out fun b hb' => hbz.block b (Nat.lt_of_lt_of_le hb' HW0_s.out))
  have HW0_s := Lib.hid (Nat.le_trans HW0_s.out hbz.size)
  have OM := Lib.hid (rHouse.okeep OM.out fun b hb' => hbz.block b (rHouse.olt OM.out b hb'))
  have KW := Lib.hid (KW.out.bel hbz)
  have KG := Lib.hid (KG.out.bel hbz)
  have HT17 := Lib.hid (below_step HT15.out hbz)
  have HH := Lib.hid (rHouse.weak ho16 (B := v16.heap.size) (rHouse.olt ho16))
  have HH_s := Lib.hid (Nat.le_refl v16.heap.size)
  clear ho16 hnd16 hf16
  clear hbz
  have hbx : Below v16.heap.size v16 (v16.alloc (.cells #[.slice A0_16 n0_16 c0_16, .slice A1_16 n1_16 c1_16, .slice A2_16 n2_16 c2_16] 25)) := below_new (Below.refl _ _) _
  have HW0 := Lib.hid (rHouse.keep HW0.out fun b hb' => hbx.block b (Nat.lt_of_lt_of_le hb' HW0_s.out))
  have HW0_s := Lib.hid (Nat.le_trans HW0_s.out hbx.size)
  have HH := Lib.hid (rHouse.keep HH.out fun b hb' => hbx.block b (Nat.lt_of_lt_of_le hb' HH_s.out))
  have HH_s := Lib.hid (Nat.le_trans HH_s.out hbx.size)
  have OM := Lib.hid (rHouse.okeep OM.out fun b hb' => hbx.block b (rHouse.olt OM.out b hb'))
  have KW := Lib.hid (KW.out.bel hbx)
  have KG := Lib.hid (KG.out.bel hbx)
  have HT18 := Lib.hid (below_step HT17.out hbx)
  clear hbx
  have KH := Lib.hid (Mm.Blk.new v16 25 [.slice A0_16 n0_16 c0_16, .slice A1_16 n1_16 c1_16, .slice A2_16 n2_16 c2_16])
  have c19_KW_0 := KW.out.cell (i := 0) rfl
  have c19_KW_1 := KW.out.cell (i := 1) rfl
  have c19_KW_2 := KW.out.cell (i := 2) rfl
  have c19_KH_0 := KH.out.cell (i := 0) rfl
  have c19_KH_1 := KH.out.cell (i := 1) rfl
  have c19_KH_2 := KH.out.cell (i := 2) rfl
  go_wp2_with fail
  refine (eqHouse_at (Pl.newHouse n).1 _ _ _ _ (rHouse.more HH.out HH_s.out) (rHouse.more HW0.out HW0_s.out) (Nat.le_refl _)).mono ?_
  rintro e v20 ⟨rfl, hbz⟩
  have HW0 := Lib.hid (rHouse.keep HW0.out fun b hb' => hbz.block b (Nat.lt_of_lt_of_le hb' HW0_s.out))
  have HW0_s := Lib.hid (Nat.le_trans HW0_s.out hbz.size)
  have HH := Lib.hid (rHouse.keep HH.out fun b hb' => hbz.block b (Nat.lt_of_lt_of_le hb' HH_s.out))
  have HH_s := Lib.hid (Nat.le_trans HH_s.out hbz.size)
  have OM := Lib.hid (rHouse.okeep OM.out fun b hb' => hbz.block b (rHouse.olt OM.out b hb'))
  have KW := Lib.hid (KW.out.bel hbz)
  have KG := Lib.hid (KG.out.bel hbz)
  have KH := Lib.hid (KH.out.bel hbz)
  have HT21 := Lib.hid (below_step HT18.out hbz)
  clear hbz
  have c22_KG_0 := KG.out.cell (i := 0) rfl
  have c22_KG_1 := KG.out.cell (i := 1) rfl
  have c22_KG_2 := KG.out.cell (i := 2) rfl
  go_wp2_with fail
  refine (heldHouse_c (Pl.newHouse n).1 _ _ _ _ (rHouse.weak OM.out (B := _) (rHouse.olt OM.out)) (Nat.le_refl _) (by omega) (by rw [HCG.out]; omega)).mono ?_
  rintro e v23 ⟨rfl, hbz⟩
  rw [HCG.out]
  have HW0 := Lib.hid (rHouse.keep HW0.out fun b hb' => hbz.block b (Nat.lt_of_lt_of_le hb' HW0_s.out))
  have HW0_s := Lib.hid (Nat.le_trans HW0_s.out hbz.size)
  have HH := Lib.hid (rHouse.keep HH.out fun b hb' => hbz.block b (Nat.lt_of_lt_of_le hb' HH_s.out))
  have HH_s := Lib.hid (Nat.le_trans HH_s.out hbz.size)
  have OM := Lib.hid (rHouse.okeep OM.out fun b hb' => hbz.block b (rHouse.olt OM.out b hb'))
  have KW := Lib.hid (KW.out.bel hbz)
  have KG := Lib.hid (KG.out.bel hbz)
  have KH := Lib.hid (KH.out.bel hbz)
  have HT24 := Lib.hid (below_step HT21.out hbz)
  clear hbz
  go_wp2
  go_ret
  exact ⟨rfl, HT24.out⟩
end Go.Proofs.Ytkodfflnpalbbaa
