/-
  Joined texts, in build order: LwCatchUp. Each part says what it proves; no conditions beyond those that a part names.
-/
import Derived.Test.YtbhmdnjammnlnaaGreatDoorZ08
import Derived.Test.YtbhmdnjammnlnaaGreatDoorZ09
set_option linter.unusedVariables false
set_option linter.unusedSimpArgs false
/-
  The walk of the law on CatchUp. No conditions.
-/
namespace Go.Proofs.YtbhmdnjammnlnaaGreatDoor
open Go.RowKit
set_option maxRecDepth 100000 in
set_option maxHeartbeats 4000000 in
theorem walk_FnExactCatchUp (cs_h : List Value) (h : House) (w : World) (tb : Tabs w) (r_h : rHouse.at_ w w.heap.size h cs_h) :
    Calls Tryz.prog 6 #[.agg cs_h.toArray] w fun e w' => e = .returned (.bool true) ∧ Below w.heap.size w w' := by
  have HTB : Hid (Tab w.heap.size w) := Tab.of tb
  clear tb
  obtain ⟨bo, hbo⟩ := exists_bool (Pl.HouseOk h)
  have HBO := Lib.hid hbo
  clear hbo
  have hopen_h := rHouse_at r_h
  obtain ⟨A0_h, n0_h, c0_h, A1_h, n1_h, c1_h, A2_h, n2_h, c2_h, rfl, -⟩ := hopen_h
  have zn_h := Pl.szHouse_nn h
  have HT0 := Lib.hid (show Below w.heap.size w (w.alloc (.cells #[.slice A0_h n0_h c0_h, .slice A1_h n1_h c1_h, .slice A2_h n2_h c2_h] 43)) from (below_new (Below.refl w.heap.size w) _))
  have KP_h := Lib.hid (show Mm.Blk (w.alloc (.cells #[.slice A0_h n0_h c0_h, .slice A1_h n1_h c1_h, .slice A2_h n2_h c2_h] 43)) w.heap.size 43 [.slice A0_h n0_h c0_h, .slice A1_h n1_h c1_h, .slice A2_h n2_h c2_h] from (Mm.Blk.new' w 43 [.slice A0_h n0_h c0_h, .slice A1_h n1_h c1_h, .slice A2_h n2_h c2_h] rfl))
  have HR_h := Lib.hid (rHouse.keep r_h fun b hb' => HT0.out.block b hb')
  have HB_h := Lib.hid HT0.out.size
  clear r_h
  by_cases t_h : (1048576 - Pl.szHouse h : Int) < 0
  · skip
    go_enter Tryz.func6, Tryz.ntmps6
    go_wp2_with fail
    refine (szHouse_at h _ _ _ w.heap.size HR_h.out HB_h.out (by omega) (by omega)).mono ?_
    rintro e y1 ⟨rfl, hbz⟩
    rw [Pl.szRet_lt (by omega)]
    have HR_h := Lib.hid (rHouse.keep HR_h.out fun b hb' => hbz.block b (Nat.lt_of_lt_of_le hb' HB_h.out))
    have HB_h := Lib.hid (Nat.le_trans HB_h.out hbz.size)
    have KP_h := Lib.hid (KP_h.out.bel hbz)
    have HT2 := Lib.hid (below_step HT0.out hbz)
    clear hbz
    go_wp2
    go_ret
    exact ⟨rfl, HT2.out⟩
  · skip
    go_enter Tryz.func6, Tryz.ntmps6
    go_wp2_with fail
    refine (szHouse_at h _ _ _ w.heap.size HR_h.out HB_h.out (by omega) (by omega)).mono ?_
    rintro e y3 ⟨rfl, hbz⟩
    rw [Pl.szRet_ge (by omega)]
    have HR_h := Lib.hid (rHouse.keep HR_h.out fun b hb' => hbz.block b (Nat.lt_of_lt_of_le hb' HB_h.out))
    have HB_h := Lib.hid (Nat.le_trans HB_h.out hbz.size)
    have KP_h := Lib.hid (KP_h.out.bel hbz)
    have HT4 := Lib.hid (below_step HT0.out hbz)
    clear hbz
    have c5_KP_h_0 := KP_h.out.cell (i := 0) rfl
    have c5_KP_h_1 := KP_h.out.cell (i := 1) rfl
    have c5_KP_h_2 := KP_h.out.cell (i := 2) rfl
    go_wp2_with fail
    refine (toHouse_at h _ _ w.heap.size HR_h.out HB_h.out (by omega)).mono ?_
    rintro e v6 ⟨cs6, fp6, rfl, ho6, hnd6, hf6, hbz⟩
    obtain ⟨A0_6, n0_6, c0_6, A1_6, n1_6, c1_6, A2_6, n2_6, c2_6, _, _, _, rfl, -⟩ := rHouse_own ho6
    have HR_h := Lib.hid (rHouse.keep HR_h.out fun b hb' => hbz.block b (Nat.lt_of_lt_of_le hb' HB_h.out))
    have HB_h := Lib.hid (Nat.le_trans HB_h.out hbz.size)
    have KP_h := Lib.hid (KP_h.out.bel hbz)
    have HT7 := Lib.hid (below_step HT4.out hbz)
    have HXs_h := Lib.hid (rHouse.weak ho6 (B := v6.heap.size) (rHouse.olt ho6))
    have HXs_h_s := Lib.hid (Nat.le_refl v6.heap.size)
    clear ho6 hnd6 hf6
    clear hbz
    go_wp2_with fail
    refine (specCatchUp_c h bo HBO.out (by omega) _ _ _ (rHouse.more HXs_h.out HXs_h_s.out) (Nat.le_refl _)).mono ?_
    rintro e v8 ⟨cs8_0, fp8_0, rfl, hS8⟩
    have hbz := hS8.bel0
    have ho8_0 : rHouse.own v8 ((Pl.catchOf bo h).1) cs8_0 fp8_0 := hS8.at_ 0 rfl
    have hnd8_0 := hS8.ndat (i := 0) rfl
    have hf8_0 : ∀ b, b ∈ fp8_0 → _ ≤ b := fun b hb' => (hS8.new b (Mm.SepF.mem (i := 0) rfl hb')).resolve_left (fun hh => by cases hh)
    obtain ⟨A0_8_0, n0_8_0, c0_8_0, A1_8_0, n1_8_0, c1_8_0, A2_8_0, n2_8_0, c2_8_0, _, _, _, rfl, -⟩ := rHouse_own ho8_0
    clear hS8
    have HR_h := Lib.hid (rHouse.keep HR_h.out fun b hb' => hbz.block b (Nat.lt_of_lt_of_le hb' HB_h.out))
    have HB_h := Lib.hid (Nat.le_trans HB_h.out hbz.size)
    have HXs_h := Lib.hid (rHouse.keep HXs_h.out fun b hb' => hbz.block b (Nat.lt_of_lt_of_le hb' HXs_h_s.out))
    have HXs_h_s := Lib.hid (Nat.le_trans HXs_h_s.out hbz.size)
    have KP_h := Lib.hid (KP_h.out.bel hbz)
    have HT9 := Lib.hid (below_step HT7.out hbz)
    have HW0_0 := Lib.hid (rHouse.weak ho8_0 (B := v8.heap.size) (rHouse.olt ho8_0))
    have HW0_0_s := Lib.hid (Nat.le_refl v8.heap.size)
    clear ho8_0 hnd8_0 hf8_0
    clear hbz
    have hbx : Below v8.heap.size v8 (v8.alloc (.cells #[.slice A0_8_0 n0_8_0 c0_8_0, .slice A1_8_0 n1_8_0 c1_8_0, .slice A2_8_0 n2_8_0 c2_8_0] 27)) := below_new (Below.refl _ _) _
    have HR_h := Lib.hid (rHouse.keep HR_h.out fun b hb' => hbx.block b (Nat.lt_of_lt_of_le hb' HB_h.out))
    have HB_h := Lib.hid (Nat.le_trans HB_h.out hbx.size)
    have HW0_0 := Lib.hid (rHouse.keep HW0_0.out fun b hb' => hbx.block b (Nat.lt_of_lt_of_le hb' HW0_0_s.out))
    have HW0_0_s := Lib.hid (Nat.le_trans HW0_0_s.out hbx.size)
    have KP_h := Lib.hid (KP_h.out.bel hbx)
    have HT10 := Lib.hid (below_step HT9.out hbx)
    clear hbx
    have KW_0 := Lib.hid (Mm.Blk.new v8 27 [.slice A0_8_0 n0_8_0 c0_8_0, .slice A1_8_0 n1_8_0 c1_8_0, .slice A2_8_0 n2_8_0 c2_8_0])
    have c11_KP_h_0 := KP_h.out.cell (i := 0) rfl
    have c11_KP_h_1 := KP_h.out.cell (i := 1) rfl
    have c11_KP_h_2 := KP_h.out.cell (i := 2) rfl
    go_wp2_with fail
    refine (toHouse_at h _ _ w.heap.size HR_h.out HB_h.out (by omega)).mono ?_
    rintro e v12 ⟨cs12, fp12, rfl, ho12, hnd12, hf12, hbz⟩
    obtain ⟨A0_12, n0_12, c0_12, A1_12, n1_12, c1_12, A2_12, n2_12, c2_12, _, _, _, rfl, -⟩ := rHouse_own ho12
    have AP12_HR_h := Lib.hid (show ∀ b, b ∈ fp12 → w.heap.size ≤ b from fun b hb' => Nat.le_trans HB_h.out (hf12 b hb'))
    have AP12_HW0_0 := Lib.hid (show ∀ b, b ∈ fp12 → v8.heap.size ≤ b from fun b hb' => Nat.le_trans HW0_0_s.out (hf12 b hb'))
    have NB12_KP_h := Lib.hid (show ¬ w.heap.size ∈ fp12 from fun hm => by have := KP_h.out.lt; have := hf12 _ hm; omega)
    have NB12_KW_0 := Lib.hid (show ¬ v8.heap.size ∈ fp12 from fun hm => by have := KW_0.out.lt; have := hf12 _ hm; omega)
    have FR12 := Lib.hid (show ∀ b, b ∈ fp12 → w.heap.size ≤ b from fun b hb' => Nat.le_trans HT10.out.size (hf12 b hb'))
    have ND12 := Lib.hid hnd12
    have LT12 := Lib.hid (show ∀ b, b ∈ fp12 → b < v12.heap.size from rHouse.olt ho12)
    have HR_h := Lib.hid (rHouse.keep HR_h.out fun b hb' => hbz.block b (Nat.lt_of_lt_of_le hb' HB_h.out))
    have HB_h := Lib.hid (Nat.le_trans HB_h.out hbz.size)
    have HW0_0 := Lib.hid (rHouse.keep HW0_0.out fun b hb' => hbz.block b (Nat.lt_of_lt_of_le hb' HW0_0_s.out))
    have HW0_0_s := Lib.hid (Nat.le_trans HW0_0_s.out hbz.size)
    have KP_h := Lib.hid (KP_h.out.bel hbz)
    have KW_0 := Lib.hid (KW_0.out.bel hbz)
    have HT13 := Lib.hid (below_step HT10.out hbz)
    have HXx_h := Lib.hid (rHouse.weak ho12 (B := v12.heap.size) (rHouse.olt ho12))
    have HXx_h_s := Lib.hid (Nat.le_refl v12.heap.size)
    have OX_h := Lib.hid ho12
    clear ho12 hnd12 hf12
    clear hbz
    have NIKX_h_fp12 := Lib.hid (show ¬ v12.heap.size ∈ fp12 from fun hm => Nat.lt_irrefl _ (rHouse.olt OX_h.out _ hm))
    have hbx : Below v12.heap.size v12 (v12.alloc (.cells #[.slice A0_12 n0_12 c0_12, .slice A1_12 n1_12 c1_12, .slice A2_12 n2_12 c2_12] 27)) := below_new (Below.refl _ _) _
    have HR_h := Lib.hid (rHouse.keep HR_h.out fun b hb' => hbx.block b (Nat.lt_of_lt_of_le hb' HB_h.out))
    have HB_h := Lib.hid (Nat.le_trans HB_h.out hbx.size)
    have HW0_0 := Lib.hid (rHouse.keep HW0_0.out fun b hb' => hbx.block b (Nat.lt_of_lt_of_le hb' HW0_0_s.out))
    have HW0_0_s := Lib.hid (Nat.le_trans HW0_0_s.out hbx.size)
    have HXx_h := Lib.hid (rHouse.keep HXx_h.out fun b hb' => hbx.block b (Nat.lt_of_lt_of_le hb' HXx_h_s.out))
    have HXx_h_s := Lib.hid (Nat.le_trans HXx_h_s.out hbx.size)
    have OX_h := Lib.hid (rHouse.okeep OX_h.out fun b hb' => hbx.block b (rHouse.olt OX_h.out b hb'))
    have KP_h := Lib.hid (KP_h.out.bel hbx)
    have KW_0 := Lib.hid (KW_0.out.bel hbx)
    have HT14 := Lib.hid (below_step HT13.out hbx)
    clear hbx
    have KX_h := Lib.hid (Mm.Blk.new v12 27 [.slice A0_12 n0_12 c0_12, .slice A1_12 n1_12 c1_12, .slice A2_12 n2_12 c2_12])
    have c15_KX_h_0 := KX_h.out.cell (i := 0) rfl
    have c15_KX_h_1 := KX_h.out.cell (i := 1) rfl
    have c15_KX_h_2 := KX_h.out.cell (i := 2) rfl
    go_wp2_with fail
    refine (implCatchUp_c h bo HBO.out w.heap.size _ _ _ (rHouse.more HXx_h.out HXx_h_s.out) (Nat.le_refl _) (HTB.out.on HT14.out)).mono ?_
    rintro e v16 ⟨cs16_0, fp16_0, rfl, hS16⟩
    have hbz := hS16.bel0
    have ho16_0 : rHouse.own v16 ((Pl.catchOf bo h).1) cs16_0 fp16_0 := hS16.at_ 0 rfl
    have hnd16_0 := hS16.ndat (i := 0) rfl
    have hf16_0 : ∀ b, b ∈ fp16_0 → _ ≤ b := fun b hb' => (hS16.new b (Mm.SepF.mem (i := 0) rfl hb')).resolve_left (fun hh => by cases hh)
    obtain ⟨A0_16_0, n0_16_0, c0_16_0, A1_16_0, n1_16_0, c1_16_0, A2_16_0, n2_16_0, c2_16_0, _, _, _, rfl, -⟩ := rHouse_own ho16_0
    clear hS16
    have AP16_0_HR_h := Lib.hid (show ∀ b, b ∈ fp16_0 → w.heap.size ≤ b from fun b hb' => Nat.le_trans HB_h.out (hf16_0 b hb'))
    have AP16_0_HW0_0 := Lib.hid (show ∀ b, b ∈ fp16_0 → v8.heap.size ≤ b from fun b hb' => Nat.le_trans HW0_0_s.out (hf16_0 b hb'))
    have AP16_0_HXx_h := Lib.hid (show ∀ b, b ∈ fp16_0 → v12.heap.size ≤ b from fun b hb' => Nat.le_trans HXx_h_s.out (hf16_0 b hb'))
    have DP16_0_OX_h := Lib.hid (show ∀ b, b ∈ fp16_0 → b ∉ fp12 from fun b hb' hm => by have := rHouse.olt OX_h.out b hm; have := hf16_0 b hb'; omega)
    have NB16_0_KP_h := Lib.hid (show ¬ w.heap.size ∈ fp16_0 from fun hm => by have := KP_h.out.lt; have := hf16_0 _ hm; omega)
    have NB16_0_KW_0 := Lib.hid (show ¬ v8.heap.size ∈ fp16_0 from fun hm => by have := KW_0.out.lt; have := hf16_0 _ hm; omega)
    have NB16_0_KX_h := Lib.hid (show ¬ v12.heap.size ∈ fp16_0 from fun hm => by have := KX_h.out.lt; have := hf16_0 _ hm; omega)
    have FR16_0 := Lib.hid (show ∀ b, b ∈ fp16_0 → w.heap.size ≤ b from fun b hb' => Nat.le_trans HT14.out.size (hf16_0 b hb'))
    have ND16_0 := Lib.hid hnd16_0
    have LT16_0 := Lib.hid (show ∀ b, b ∈ fp16_0 → b < v16.heap.size from rHouse.olt ho16_0)
    have HR_h := Lib.hid (rHouse.keep HR_h.out fun b hb' => hbz.block b (Nat.lt_of_lt_of_le hb' HB_h.out))
    have HB_h := Lib.hid (Nat.le_trans HB_h.out hbz.size)
    have HW0_0 := Lib.hid (rHouse.keep HW0_0.out fun b hb' => hbz.block b (Nat.lt_of_lt_of_le hb' HW0_0_s.out))
    have HW0_0_s := Lib.hid (Nat.le_trans HW0_0_s.out hbz.size)
    have HXx_h := Lib.hid (rHouse.keep HXx_h.out fun b hb' => hbz.block b (Nat.lt_of_lt_of_le hb' HXx_h_s.out))
    have HXx_h_s := Lib.hid (Nat.le_trans HXx_h_s.out hbz.size)
    have OX_h := Lib.hid (rHouse.okeep OX_h.out fun b hb' => hbz.block b (rHouse.olt OX_h.out b hb'))
    have KP_h := Lib.hid (KP_h.out.bel hbz)
    have KW_0 := Lib.hid (KW_0.out.bel hbz)
    have KX_h := Lib.hid (KX_h.out.bel hbz)
    have HT17 := Lib.hid (below_step HT14.out hbz)
    have OG_0 := Lib.hid ho16_0
    clear ho16_0 hnd16_0 hf16_0
    clear hbz
    have NIKG_0_fp12 := Lib.hid (show ¬ v16.heap.size ∈ fp12 from fun hm => Nat.lt_irrefl _ (rHouse.olt OX_h.out _ hm))
    have NIKG_0_fp16_0 := Lib.hid (show ¬ v16.heap.size ∈ fp16_0 from fun hm => Nat.lt_irrefl _ (rHouse.olt OG_0.out _ hm))
    have hbx : Below v16.heap.size v16 (v16.alloc (.cells #[.slice A0_16_0 n0_16_0 c0_16_0, .slice A1_16_0 n1_16_0 c1_16_0, .slice A2_16_0 n2_16_0 c2_16_0] 27)) := below_new (Below.refl _ _) _
    have HR_h := Lib.hid (rHouse.keep HR_h.out fun b hb' => hbx.block b (Nat.lt_of_lt_of_le hb' HB_h.out))
    have HB_h := Lib.hid (Nat.le_trans HB_h.out hbx.size)
    have HW0_0 := Lib.hid (rHouse.keep HW0_0.out fun b hb' => hbx.block b (Nat.lt_of_lt_of_le hb' HW0_0_s.out))
    have HW0_0_s := Lib.hid (Nat.le_trans HW0_0_s.out hbx.size)
    have HXx_h := Lib.hid (rHouse.keep HXx_h.out fun b hb' => hbx.block b (Nat.lt_of_lt_of_le hb' HXx_h_s.out))
    have HXx_h_s := Lib.hid (Nat.le_trans HXx_h_s.out hbx.size)
    have OX_h := Lib.hid (rHouse.okeep OX_h.out fun b hb' => hbx.block b (rHouse.olt OX_h.out b hb'))
    have OG_0 := Lib.hid (rHouse.okeep OG_0.out fun b hb' => hbx.block b (rHouse.olt OG_0.out b hb'))
    have KP_h := Lib.hid (KP_h.out.bel hbx)
    have KW_0 := Lib.hid (KW_0.out.bel hbx)
    have KX_h := Lib.hid (KX_h.out.bel hbx)
    have HT18 := Lib.hid (below_step HT17.out hbx)
    clear hbx
    have KG_0 := Lib.hid (Mm.Blk.new v16 27 [.slice A0_16_0 n0_16_0 c0_16_0, .slice A1_16_0 n1_16_0 c1_16_0, .slice A2_16_0 n2_16_0 c2_16_0])
    have c19_KP_h_0 := KP_h.out.cell (i := 0) rfl
    have c19_KP_h_1 := KP_h.out.cell (i := 1) rfl
    have c19_KP_h_2 := KP_h.out.cell (i := 2) rfl
    have c19_KW_0_0 := KW_0.out.cell (i := 0) rfl
    have c19_KW_0_1 := KW_0.out.cell (i := 1) rfl
    have c19_KW_0_2 := KW_0.out.cell (i := 2) rfl
    have c19_KX_h_0 := KX_h.out.cell (i := 0) rfl
    have c19_KX_h_1 := KX_h.out.cell (i := 1) rfl
    have c19_KX_h_2 := KX_h.out.cell (i := 2) rfl
    have c19_KG_0_0 := KG_0.out.cell (i := 0) rfl
    have c19_KG_0_1 := KG_0.out.cell (i := 1) rfl
    have c19_KG_0_2 := KG_0.out.cell (i := 2) rfl
    go_wp2_with fail
    refine (eqHouse_at ((Pl.catchOf bo h).1) _ _ _ _ (rHouse.weak OG_0.out (B := _) (rHouse.olt OG_0.out)) (rHouse.more HW0_0.out HW0_0_s.out) (Nat.le_refl _)).mono ?_
    rintro e v20 ⟨rfl, hbz⟩
    have HR_h := Lib.hid (rHouse.keep HR_h.out fun b hb' => hbz.block b (Nat.lt_of_lt_of_le hb' HB_h.out))
    have HB_h := Lib.hid (Nat.le_trans HB_h.out hbz.size)
    have HW0_0 := Lib.hid (rHouse.keep HW0_0.out fun b hb' => hbz.block b (Nat.lt_of_lt_of_le hb' HW0_0_s.out))
    have HW0_0_s := Lib.hid (Nat.le_trans HW0_0_s.out hbz.size)
    have HXx_h := Lib.hid (rHouse.keep HXx_h.out fun b hb' => hbz.block b (Nat.lt_of_lt_of_le hb' HXx_h_s.out))
    have HXx_h_s := Lib.hid (Nat.le_trans HXx_h_s.out hbz.size)
    have OX_h := Lib.hid (rHouse.okeep OX_h.out fun b hb' => hbz.block b (rHouse.olt OX_h.out b hb'))
    have OG_0 := Lib.hid (rHouse.okeep OG_0.out fun b hb' => hbz.block b (rHouse.olt OG_0.out b hb'))
    have KP_h := Lib.hid (KP_h.out.bel hbz)
    have KW_0 := Lib.hid (KW_0.out.bel hbz)
    have KX_h := Lib.hid (KX_h.out.bel hbz)
    have KG_0 := Lib.hid (KG_0.out.bel hbz)
    have HT21 := Lib.hid (below_step HT18.out hbz)
    clear hbz
    have c22_KP_h_0 := KP_h.out.cell (i := 0) rfl
    have c22_KP_h_1 := KP_h.out.cell (i := 1) rfl
    have c22_KP_h_2 := KP_h.out.cell (i := 2) rfl
    have c22_KX_h_0 := KX_h.out.cell (i := 0) rfl
    have c22_KX_h_1 := KX_h.out.cell (i := 1) rfl
    have c22_KX_h_2 := KX_h.out.cell (i := 2) rfl
    go_wp2_with fail
    have hdr := (Below.refl v20.heap.size v20).drew
    have HR_h := Lib.hid (rHouse.keep HR_h.out fun b hb' => hdr.block b (Nat.lt_of_lt_of_le hb' HB_h.out))
    have HB_h := Lib.hid (Nat.le_trans HB_h.out hdr.size)
    have HW0_0 := Lib.hid (rHouse.keep HW0_0.out fun b hb' => hdr.block b (Nat.lt_of_lt_of_le hb' HW0_0_s.out))
    have HW0_0_s := Lib.hid (Nat.le_trans HW0_0_s.out hdr.size)
    have HXx_h := Lib.hid (rHouse.keep HXx_h.out fun b hb' => hdr.block b (Nat.lt_of_lt_of_le hb' HXx_h_s.out))
    have HXx_h_s := Lib.hid (Nat.le_trans HXx_h_s.out hdr.size)
    have OX_h := Lib.hid (rHouse.okeep OX_h.out fun b hb' => hdr.block b (rHouse.olt OX_h.out b hb'))
    have OG_0 := Lib.hid (rHouse.okeep OG_0.out fun b hb' => hdr.block b (rHouse.olt OG_0.out b hb'))
    have KP_h := Lib.hid (KP_h.out.bel hdr)
    have KW_0 := Lib.hid (KW_0.out.bel hdr)
    have KX_h := Lib.hid (KX_h.out.bel hdr)
    have KG_0 := Lib.hid (KG_0.out.bel hdr)
    have HT23 := Lib.hid (below_step HT21.out hdr)
    clear hdr
    have c24_KP_h_0 := KP_h.out.cell (i := 0) rfl
    have c24_KP_h_1 := KP_h.out.cell (i := 1) rfl
    have c24_KP_h_2 := KP_h.out.cell (i := 2) rfl
    have c24_KX_h_0 := KX_h.out.cell (i := 0) rfl
    have c24_KX_h_1 := KX_h.out.cell (i := 1) rfl
    have c24_KX_h_2 := KX_h.out.cell (i := 2) rfl
    go_region_held3 (fun wx => wx.cell? ⟨w.heap.size, 0, none⟩ = some (.slice A0_h n0_h c0_h) ∧ wx.cell? ⟨w.heap.size, 1, none⟩ = some (.slice A1_h n1_h c1_h) ∧ wx.cell? ⟨w.heap.size, 2, none⟩ = some (.slice A2_h n2_h c2_h) ∧ wx.cell? ⟨v12.heap.size, 0, none⟩ = some (.slice A0_12 n0_12 c0_12) ∧ wx.cell? ⟨v12.heap.size, 1, none⟩ = some (.slice A1_12 n1_12 c1_12) ∧ wx.cell? ⟨v12.heap.size, 2, none⟩ = some (.slice A2_12 n2_12 c2_12))
      (first | (go_keep; done) | ((try dsimp only); go_split_ands; refine ⟨?_, ?_, ?_, ?_, ?_, ?_⟩ <;> first | (exact below_some hbz (by assumption)) | (exact (KP_h.out.alloc _).cell (i := 0) rfl) | (exact (KP_h.out.alloc _).cell (i := 1) rfl) | (exact (KP_h.out.alloc _).cell (i := 2) rfl) | (exact (KX_h.out.alloc _).cell (i := 0) rfl) | (exact (KX_h.out.alloc _).cell (i := 1) rfl) | (exact (KX_h.out.alloc _).cell (i := 2) rfl) | (go_keep; done) | (simp [World.cell?_alloc_some, World.cell?_setCell_far, *]; done)))
      (first
        | (go_at_call 24; (with_reducible refine (toHouse_at h _ _ w.heap.size HR_h.out HB_h.out (by omega)).mono ?_); rintro e v25 ⟨cs25, fp25, rfl, ho25, hnd25, hf25, hbz⟩; obtain ⟨A0_25, n0_25, c0_25, A1_25, n1_25, c1_25, A2_25, n2_25, c2_25, _, _, _, rfl, -⟩ := rHouse_own ho25; (have HR_h := Lib.hid (rHouse.keep HR_h.out fun b hb' => hbz.block b (Nat.lt_of_lt_of_le hb' HB_h.out))); (have HB_h := Lib.hid (Nat.le_trans HB_h.out hbz.size)); (have HW0_0 := Lib.hid (rHouse.keep HW0_0.out fun b hb' => hbz.block b (Nat.lt_of_lt_of_le hb' HW0_0_s.out))); (have HW0_0_s := Lib.hid (Nat.le_trans HW0_0_s.out hbz.size)); (have HXx_h := Lib.hid (rHouse.keep HXx_h.out fun b hb' => hbz.block b (Nat.lt_of_lt_of_le hb' HXx_h_s.out))); (have HXx_h_s := Lib.hid (Nat.le_trans HXx_h_s.out hbz.size)); (have OX_h := Lib.hid (rHouse.okeep OX_h.out fun b hb' => hbz.block b (rHouse.olt OX_h.out b hb'))); (have OG_0 := Lib.hid (rHouse.okeep OG_0.out fun b hb' => hbz.block b (rHouse.olt OG_0.out b hb'))); (have KP_h := Lib.hid (KP_h.out.bel hbz)); (have KW_0 := Lib.hid (KW_0.out.bel hbz)); (have KX_h := Lib.hid (KX_h.out.bel hbz)); (have KG_0 := Lib.hid (KG_0.out.bel hbz)); (have HT26 := Lib.hid (below_step HT23.out hbz)); (have HXz_h := Lib.hid (rHouse.weak ho25 (B := v25.heap.size) (rHouse.olt ho25))); (have HXz_h_s := Lib.hid (Nat.le_refl v25.heap.size)); clear ho25 hnd25 hf25)
        | (go_at_call 14; (with_reducible refine (eqHouse_at h _ _ _ v25.heap.size (rHouse.more HXx_h.out HXx_h_s.out) HXz_h.out (Nat.le_refl _)).mono ?_); rintro e v27 ⟨rfl, hbz⟩; (have HR_h := Lib.hid (rHouse.keep HR_h.out fun b hb' => hbz.block b (Nat.lt_of_lt_of_le hb' HB_h.out))); (have HB_h := Lib.hid (Nat.le_trans HB_h.out hbz.size)); (have HW0_0 := Lib.hid (rHouse.keep HW0_0.out fun b hb' => hbz.block b (Nat.lt_of_lt_of_le hb' HW0_0_s.out))); (have HW0_0_s := Lib.hid (Nat.le_trans HW0_0_s.out hbz.size)); (have HXx_h := Lib.hid (rHouse.keep HXx_h.out fun b hb' => hbz.block b (Nat.lt_of_lt_of_le hb' HXx_h_s.out))); (have HXx_h_s := Lib.hid (Nat.le_trans HXx_h_s.out hbz.size)); (have HXz_h := Lib.hid (rHouse.keep HXz_h.out fun b hb' => hbz.block b (Nat.lt_of_lt_of_le hb' HXz_h_s.out))); (have HXz_h_s := Lib.hid (Nat.le_trans HXz_h_s.out hbz.size)); (have OX_h := Lib.hid (rHouse.okeep OX_h.out fun b hb' => hbz.block b (rHouse.olt OX_h.out b hb'))); (have OG_0 := Lib.hid (rHouse.okeep OG_0.out fun b hb' => hbz.block b (rHouse.olt OG_0.out b hb'))); (have KP_h := Lib.hid (KP_h.out.bel hbz)); (have KW_0 := Lib.hid (KW_0.out.bel hbz)); (have KX_h := Lib.hid (KX_h.out.bel hbz)); (have KG_0 := Lib.hid (KG_0.out.bel hbz)); (have HT28 := Lib.hid (below_step HT26.out hbz))))
    clear hbz
    have hcn_h := Pl.ctopHouse_nn h
    have hcb_h : Pl.ctopHouse h ≤ 50000000 := by have := Pl.ctopbHouse h; omega
    have c30_KX_h_0 := KX_h.out.cell (i := 0) rfl
    have c30_KX_h_1 := KX_h.out.cell (i := 1) rfl
    have c30_KX_h_2 := KX_h.out.cell (i := 2) rfl
    go_wp2_with fail
    refine (markHouse_c h _ _ _ _ OX_h.out ND12.out (by omega) (by omega)).mono ?_
    rintro e v29 ⟨rfl, hch, -⟩
    have HR_h := Lib.hid (rHouse.keep HR_h.out fun b hb' => hch.block b (Nat.lt_of_lt_of_le hb' HB_h.out) (fun hm => by have := AP12_HR_h.out b hm; omega))
    have HB_h := Lib.hid (Nat.le_trans HB_h.out hch.size)
    have HW0_0 := Lib.hid (rHouse.keep HW0_0.out fun b hb' => hch.block b (Nat.lt_of_lt_of_le hb' HW0_0_s.out) (fun hm => by have := AP12_HW0_0.out b hm; omega))
    have HW0_0_s := Lib.hid (Nat.le_trans HW0_0_s.out hch.size)
    have OG_0 := Lib.hid (rHouse.okeep OG_0.out fun b hb' => hch.block b (rHouse.olt OG_0.out b hb') (fun hm => DP16_0_OX_h.out b hb' hm))
    have KP_h := Lib.hid (KP_h.out.keep (hch.block _ KP_h.out.lt (NB12_KP_h.out)))
    have KW_0 := Lib.hid (KW_0.out.keep (hch.block _ KW_0.out.lt (NB12_KW_0.out)))
    have KX_h := Lib.hid (KX_h.out.keep (hch.block _ KX_h.out.lt (NIKX_h_fp12.out)))
    have KG_0 := Lib.hid (KG_0.out.keep (hch.block _ KG_0.out.lt (NIKG_0_fp12.out)))
    have HT31 := Lib.hid (Mm.Below.chg HT28.out hch HT28.out.size FR12.out)
    clear hch
    have c32_KP_h_0 := KP_h.out.cell (i := 0) rfl
    have c32_KP_h_1 := KP_h.out.cell (i := 1) rfl
    have c32_KP_h_2 := KP_h.out.cell (i := 2) rfl
    have c32_KW_0_0 := KW_0.out.cell (i := 0) rfl
    have c32_KW_0_1 := KW_0.out.cell (i := 1) rfl
    have c32_KW_0_2 := KW_0.out.cell (i := 2) rfl
    have c32_KX_h_0 := KX_h.out.cell (i := 0) rfl
    have c32_KX_h_1 := KX_h.out.cell (i := 1) rfl
    have c32_KX_h_2 := KX_h.out.cell (i := 2) rfl
    have c32_KG_0_0 := KG_0.out.cell (i := 0) rfl
    have c32_KG_0_1 := KG_0.out.cell (i := 1) rfl
    have c32_KG_0_2 := KG_0.out.cell (i := 2) rfl
    go_wp2_with fail
    refine (eqHouse_at ((Pl.catchOf bo h).1) _ _ _ _ (rHouse.weak OG_0.out (B := _) (rHouse.olt OG_0.out)) (rHouse.more HW0_0.out HW0_0_s.out) (Nat.le_refl _)).mono ?_
    rintro e v33 ⟨rfl, hbz⟩
    have HR_h := Lib.hid (rHouse.keep HR_h.out fun b hb' => hbz.block b (Nat.lt_of_lt_of_le hb' HB_h.out))
    have HB_h := Lib.hid (Nat.le_trans HB_h.out hbz.size)
    have HW0_0 := Lib.hid (rHouse.keep HW0_0.out fun b hb' => hbz.block b (Nat.lt_of_lt_of_le hb' HW0_0_s.out))
    have HW0_0_s := Lib.hid (Nat.le_trans HW0_0_s.out hbz.size)
    have OG_0 := Lib.hid (rHouse.okeep OG_0.out fun b hb' => hbz.block b (rHouse.olt OG_0.out b hb'))
    have KP_h := Lib.hid (KP_h.out.bel hbz)
    have KW_0 := Lib.hid (KW_0.out.bel hbz)
    have KX_h := Lib.hid (KX_h.out.bel hbz)
    have KG_0 := Lib.hid (KG_0.out.bel hbz)
    have HT34 := Lib.hid (below_step HT31.out hbz)
    clear hbz
    have hcg0 : 0 ≤ Pl.ctopHouse ((Pl.catchOf bo h).1) := Pl.ctopHouse_nn ((Pl.catchOf bo h).1)
    have hcgb0 : Pl.ctopHouse ((Pl.catchOf bo h).1) ≤ 50000000 := (Pl.catch_cnt HBO.out)
    obtain ⟨cg0, hcge0⟩ : ∃ z, Pl.ctopHouse ((Pl.catchOf bo h).1) = z := ⟨_, rfl⟩
    rw [hcge0] at hcg0 hcgb0
    have HCG0 := Lib.hid hcge0
    clear hcge0
    have c35_KG_0_0 := KG_0.out.cell (i := 0) rfl
    have c35_KG_0_1 := KG_0.out.cell (i := 1) rfl
    have c35_KG_0_2 := KG_0.out.cell (i := 2) rfl
    go_wp2_with fail
    refine (markHouse_c ((Pl.catchOf bo h).1) _ _ _ _ OG_0.out ND16_0.out (by omega) (by rw [HCG0.out]; omega)).mono ?_
    rintro e v36 ⟨rfl, hch, fpm0, hom, hndm, hsubm⟩
    rw [HCG0.out]
    have HR_h := Lib.hid (rHouse.keep HR_h.out fun b hb' => hch.block b (Nat.lt_of_lt_of_le hb' HB_h.out) (fun hm => by have := AP16_0_HR_h.out b hm; omega))
    have HB_h := Lib.hid (Nat.le_trans HB_h.out hch.size)
    have HW0_0 := Lib.hid (rHouse.keep HW0_0.out fun b hb' => hch.block b (Nat.lt_of_lt_of_le hb' HW0_0_s.out) (fun hm => by have := AP16_0_HW0_0.out b hm; omega))
    have HW0_0_s := Lib.hid (Nat.le_trans HW0_0_s.out hch.size)
    have KP_h := Lib.hid (KP_h.out.keep (hch.block _ KP_h.out.lt (NB16_0_KP_h.out)))
    have KW_0 := Lib.hid (KW_0.out.keep (hch.block _ KW_0.out.lt (NB16_0_KW_0.out)))
    have KX_h := Lib.hid (KX_h.out.keep (hch.block _ KX_h.out.lt (NB16_0_KX_h.out)))
    have KG_0 := Lib.hid (KG_0.out.keep (hch.block _ KG_0.out.lt (NIKG_0_fp16_0.out)))
    have HT37 := Lib.hid (Mm.Below.chg HT34.out hch HT34.out.size FR16_0.out)
    clear hch
    have OM_0 := Lib.hid hom
    clear hom hndm hsubm
    have c38_KG_0_0 := KG_0.out.cell (i := 0) rfl
    have c38_KG_0_1 := KG_0.out.cell (i := 1) rfl
    have c38_KG_0_2 := KG_0.out.cell (i := 2) rfl
    go_wp2_with fail
    refine (heldHouse_c ((Pl.catchOf bo h).1) _ _ _ _ (rHouse.weak OM_0.out (B := _) (rHouse.olt OM_0.out)) (Nat.le_refl _) (by omega) (by rw [HCG0.out]; omega)).mono ?_
    rintro e v39 ⟨rfl, hbz⟩
    rw [HCG0.out]
    have HR_h := Lib.hid (rHouse.keep HR_h.out fun b hb' => hbz.block b (Nat.lt_of_lt_of_le hb' HB_h.out))
    have HB_h := Lib.hid (Nat.le_trans HB_h.out hbz.size)
    have HW0_0 := Lib.hid (rHouse.keep HW0_0.out fun b hb' => hbz.block b (Nat.lt_of_lt_of_le hb' HW0_0_s.out))
    have HW0_0_s := Lib.hid (Nat.le_trans HW0_0_s.out hbz.size)
    have OM_0 := Lib.hid (rHouse.okeep OM_0.out fun b hb' => hbz.block b (rHouse.olt OM_0.out b hb'))
    have KP_h := Lib.hid (KP_h.out.bel hbz)
    have KW_0 := Lib.hid (KW_0.out.bel hbz)
    have KX_h := Lib.hid (KX_h.out.bel hbz)
    have KG_0 := Lib.hid (KG_0.out.bel hbz)
    have HT40 := Lib.hid (below_step HT37.out hbz)
    clear hbz
    have c41_KP_h_0 := KP_h.out.cell (i := 0) rfl
    have c41_KP_h_1 := KP_h.out.cell (i := 1) rfl
    have c41_KP_h_2 := KP_h.out.cell (i := 2) rfl
    go_wp2_with fail
    refine (toHouse_at h _ _ w.heap.size HR_h.out HB_h.out (by omega)).mono ?_
    rintro e v42 ⟨cs42, fp42, rfl, ho42, hnd42, hf42, hbz⟩
    obtain ⟨A0_42, n0_42, c0_42, A1_42, n1_42, c1_42, A2_42, n2_42, c2_42, _, _, _, rfl, -⟩ := rHouse_own ho42
    have HR_h := Lib.hid (rHouse.keep HR_h.out fun b hb' => hbz.block b (Nat.lt_of_lt_of_le hb' HB_h.out))
    have HB_h := Lib.hid (Nat.le_trans HB_h.out hbz.size)
    have HW0_0 := Lib.hid (rHouse.keep HW0_0.out fun b hb' => hbz.block b (Nat.lt_of_lt_of_le hb' HW0_0_s.out))
    have HW0_0_s := Lib.hid (Nat.le_trans HW0_0_s.out hbz.size)
    have OM_0 := Lib.hid (rHouse.okeep OM_0.out fun b hb' => hbz.block b (rHouse.olt OM_0.out b hb'))
    have KP_h := Lib.hid (KP_h.out.bel hbz)
    have KW_0 := Lib.hid (KW_0.out.bel hbz)
    have KX_h := Lib.hid (KX_h.out.bel hbz)
    have KG_0 := Lib.hid (KG_0.out.bel hbz)
    have HT43 := Lib.hid (below_step HT40.out hbz)
    have HXh_h := Lib.hid (rHouse.weak ho42 (B := v42.heap.size) (rHouse.olt ho42))
    have HXh_h_s := Lib.hid (Nat.le_refl v42.heap.size)
    clear ho42 hnd42 hf42
    clear hbz
    go_wp2_with fail
    refine (implCatchUp_c h bo HBO.out w.heap.size _ _ _ (rHouse.more HXh_h.out HXh_h_s.out) (Nat.le_refl _) (HTB.out.on HT43.out)).mono ?_
    rintro e v44 ⟨cs44_0, fp44_0, rfl, hS44⟩
    have hbz := hS44.bel0
    have ho44_0 : rHouse.own v44 ((Pl.catchOf bo h).1) cs44_0 fp44_0 := hS44.at_ 0 rfl
    have hnd44_0 := hS44.ndat (i := 0) rfl
    have hf44_0 : ∀ b, b ∈ fp44_0 → _ ≤ b := fun b hb' => (hS44.new b (Mm.SepF.mem (i := 0) rfl hb')).resolve_left (fun hh => by cases hh)
    obtain ⟨A0_44_0, n0_44_0, c0_44_0, A1_44_0, n1_44_0, c1_44_0, A2_44_0, n2_44_0, c2_44_0, _, _, _, rfl, -⟩ := rHouse_own ho44_0
    clear hS44
    have HR_h := Lib.hid (rHouse.keep HR_h.out fun b hb' => hbz.block b (Nat.lt_of_lt_of_le hb' HB_h.out))
    have HB_h := Lib.hid (Nat.le_trans HB_h.out hbz.size)
    have HW0_0 := Lib.hid (rHouse.keep HW0_0.out fun b hb' => hbz.block b (Nat.lt_of_lt_of_le hb' HW0_0_s.out))
    have HW0_0_s := Lib.hid (Nat.le_trans HW0_0_s.out hbz.size)
    have HXh_h := Lib.hid (rHouse.keep HXh_h.out fun b hb' => hbz.block b (Nat.lt_of_lt_of_le hb' HXh_h_s.out))
    have HXh_h_s := Lib.hid (Nat.le_trans HXh_h_s.out hbz.size)
    have OM_0 := Lib.hid (rHouse.okeep OM_0.out fun b hb' => hbz.block b (rHouse.olt OM_0.out b hb'))
    have KP_h := Lib.hid (KP_h.out.bel hbz)
    have KW_0 := Lib.hid (KW_0.out.bel hbz)
    have KX_h := Lib.hid (KX_h.out.bel hbz)
    have KG_0 := Lib.hid (KG_0.out.bel hbz)
    have HT45 := Lib.hid (below_step HT43.out hbz)
    have HH_0 := Lib.hid (rHouse.weak ho44_0 (B := v44.heap.size) (rHouse.olt ho44_0))
    have HH_0_s := Lib.hid (Nat.le_refl v44.heap.size)
    clear ho44_0 hnd44_0 hf44_0
    clear hbz
    have NIKH_0_fpm0 := Lib.hid (show ¬ v44.heap.size ∈ fpm0 from fun hm => Nat.lt_irrefl _ (rHouse.olt OM_0.out _ hm))
    have hbx : Below v44.heap.size v44 (v44.alloc (.cells #[.slice A0_44_0 n0_44_0 c0_44_0, .slice A1_44_0 n1_44_0 c1_44_0, .slice A2_44_0 n2_44_0 c2_44_0] 27)) := below_new (Below.refl _ _) _
    have HR_h := Lib.hid (rHouse.keep HR_h.out fun b hb' => hbx.block b (Nat.lt_of_lt_of_le hb' HB_h.out))
    have HB_h := Lib.hid (Nat.le_trans HB_h.out hbx.size)
    have HW0_0 := Lib.hid (rHouse.keep HW0_0.out fun b hb' => hbx.block b (Nat.lt_of_lt_of_le hb' HW0_0_s.out))
    have HW0_0_s := Lib.hid (Nat.le_trans HW0_0_s.out hbx.size)
    have HH_0 := Lib.hid (rHouse.keep HH_0.out fun b hb' => hbx.block b (Nat.lt_of_lt_of_le hb' HH_0_s.out))
    have HH_0_s := Lib.hid (Nat.le_trans HH_0_s.out hbx.size)
    have OM_0 := Lib.hid (rHouse.okeep OM_0.out fun b hb' => hbx.block b (rHouse.olt OM_0.out b hb'))
    have KP_h := Lib.hid (KP_h.out.bel hbx)
    have KW_0 := Lib.hid (KW_0.out.bel hbx)
    have KX_h := Lib.hid (KX_h.out.bel hbx)
    have KG_0 := Lib.hid (KG_0.out.bel hbx)
    have HT46 := Lib.hid (below_step HT45.out hbx)
    clear hbx
    have KH_0 := Lib.hid (Mm.Blk.new v44 27 [.slice A0_44_0 n0_44_0 c0_44_0, .slice A1_44_0 n1_44_0 c1_44_0, .slice A2_44_0 n2_44_0 c2_44_0])
    have c47_KP_h_0 := KP_h.out.cell (i := 0) rfl
    have c47_KP_h_1 := KP_h.out.cell (i := 1) rfl
    have c47_KP_h_2 := KP_h.out.cell (i := 2) rfl
    have c47_KW_0_0 := KW_0.out.cell (i := 0) rfl
    have c47_KW_0_1 := KW_0.out.cell (i := 1) rfl
    have c47_KW_0_2 := KW_0.out.cell (i := 2) rfl
    have c47_KX_h_0 := KX_h.out.cell (i := 0) rfl
    have c47_KX_h_1 := KX_h.out.cell (i := 1) rfl
    have c47_KX_h_2 := KX_h.out.cell (i := 2) rfl
    have c47_KG_0_0 := KG_0.out.cell (i := 0) rfl
    have c47_KG_0_1 := KG_0.out.cell (i := 1) rfl
    have c47_KG_0_2 := KG_0.out.cell (i := 2) rfl
    have c47_KH_0_0 := KH_0.out.cell (i := 0) rfl
    have c47_KH_0_1 := KH_0.out.cell (i := 1) rfl
    have c47_KH_0_2 := KH_0.out.cell (i := 2) rfl
    have c48_KP_h_0 := KP_h.out.cell (i := 0) rfl
    have c48_KP_h_1 := KP_h.out.cell (i := 1) rfl
    have c48_KP_h_2 := KP_h.out.cell (i := 2) rfl
    have c48_KW_0_0 := KW_0.out.cell (i := 0) rfl
    have c48_KW_0_1 := KW_0.out.cell (i := 1) rfl
    have c48_KW_0_2 := KW_0.out.cell (i := 2) rfl
    have c48_KX_h_0 := KX_h.out.cell (i := 0) rfl
    have c48_KX_h_1 := KX_h.out.cell (i := 1) rfl
    have c48_KX_h_2 := KX_h.out.cell (i := 2) rfl
    have c48_KG_0_0 := KG_0.out.cell (i := 0) rfl
    have c48_KG_0_1 := KG_0.out.cell (i := 1) rfl
    have c48_KG_0_2 := KG_0.out.cell (i := 2) rfl
    have c48_KH_0_0 := KH_0.out.cell (i := 0) rfl
    have c48_KH_0_1 := KH_0.out.cell (i := 1) rfl
    have c48_KH_0_2 := KH_0.out.cell (i := 2) rfl
    go_wp2_with fail
    refine (eqHouse_at ((Pl.catchOf bo h).1) _ _ _ _ (rHouse.more HH_0.out HH_0_s.out) (rHouse.more HW0_0.out HW0_0_s.out) (Nat.le_refl _)).mono ?_
    rintro e v49 ⟨rfl, hbz⟩
    have HR_h := Lib.hid (rHouse.keep HR_h.out fun b hb' => hbz.block b (Nat.lt_of_lt_of_le hb' HB_h.out))
    have HB_h := Lib.hid (Nat.le_trans HB_h.out hbz.size)
    have HW0_0 := Lib.hid (rHouse.keep HW0_0.out fun b hb' => hbz.block b (Nat.lt_of_lt_of_le hb' HW0_0_s.out))
    have HW0_0_s := Lib.hid (Nat.le_trans HW0_0_s.out hbz.size)
    have HH_0 := Lib.hid (rHouse.keep HH_0.out fun b hb' => hbz.block b (Nat.lt_of_lt_of_le hb' HH_0_s.out))
    have HH_0_s := Lib.hid (Nat.le_trans HH_0_s.out hbz.size)
    have OM_0 := Lib.hid (rHouse.okeep OM_0.out fun b hb' => hbz.block b (rHouse.olt OM_0.out b hb'))
    have KP_h := Lib.hid (KP_h.out.bel hbz)
    have KW_0 := Lib.hid (KW_0.out.bel hbz)
    have KX_h := Lib.hid (KX_h.out.bel hbz)
    have KG_0 := Lib.hid (KG_0.out.bel hbz)
    have KH_0 := Lib.hid (KH_0.out.bel hbz)
    have HT50 := Lib.hid (below_step HT46.out hbz)
    clear hbz
    have c51_KG_0_0 := KG_0.out.cell (i := 0) rfl
    have c51_KG_0_1 := KG_0.out.cell (i := 1) rfl
    have c51_KG_0_2 := KG_0.out.cell (i := 2) rfl
    go_wp2_with fail
    refine (heldHouse_c ((Pl.catchOf bo h).1) _ _ _ _ (rHouse.weak OM_0.out (B := _) (rHouse.olt OM_0.out)) (Nat.le_refl _) (by omega) (by rw [HCG0.out]; omega)).mono ?_
    rintro e v52 ⟨rfl, hbz⟩
    rw [HCG0.out]
    have HR_h := Lib.hid (rHouse.keep HR_h.out fun b hb' => hbz.block b (Nat.lt_of_lt_of_le hb' HB_h.out))
    have HB_h := Lib.hid (Nat.le_trans HB_h.out hbz.size)
    have HW0_0 := Lib.hid (rHouse.keep HW0_0.out fun b hb' => hbz.block b (Nat.lt_of_lt_of_le hb' HW0_0_s.out))
    have HW0_0_s := Lib.hid (Nat.le_trans HW0_0_s.out hbz.size)
    have HH_0 := Lib.hid (rHouse.keep HH_0.out fun b hb' => hbz.block b (Nat.lt_of_lt_of_le hb' HH_0_s.out))
    have HH_0_s := Lib.hid (Nat.le_trans HH_0_s.out hbz.size)
    have OM_0 := Lib.hid (rHouse.okeep OM_0.out fun b hb' => hbz.block b (rHouse.olt OM_0.out b hb'))
    have KP_h := Lib.hid (KP_h.out.bel hbz)
    have KW_0 := Lib.hid (KW_0.out.bel hbz)
    have KX_h := Lib.hid (KX_h.out.bel hbz)
    have KG_0 := Lib.hid (KG_0.out.bel hbz)
    have KH_0 := Lib.hid (KH_0.out.bel hbz)
    have HT53 := Lib.hid (below_step HT50.out hbz)
    clear hbz
    go_wp2
    go_ret
    exact ⟨rfl, HT53.out⟩
end Go.Proofs.YtbhmdnjammnlnaaGreatDoor

