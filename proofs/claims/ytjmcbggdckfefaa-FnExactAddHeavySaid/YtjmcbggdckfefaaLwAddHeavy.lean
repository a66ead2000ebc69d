/-
  The walk of the law on AddHeavy. No conditions.
-/
import Derived.Test.YtjmcbggdckfefaaHi
import Derived.Test.YtjmcbggdckfefaaHe
import Derived.Test.YtjmcbggdckfefaaHs
import Derived.Test.YtjmcbggdckfefaaHt
import Derived.Test.YtjmcbggdckfefaaHm
import Derived.Test.YtjmcbggdckfefaaHn
import Derived.Test.YtjmcbggdckfefaaHh
namespace Go.Proofs.Ytjmcbggdckfefaa
open Go.RowKit
theorem cntL_leM {α : Type} {f : α → Int} {c : Int} : ∀ l : List α, (∀ x, x ∈ l → f x ≤ c) → Mm.cntL f l ≤ c * (l.length : Int)
  | [], _ => by simp [Mm.cntL]
  | x :: t, h => by
    have h1 := cntL_leM t fun y hy => h y (by simp [hy])
    have h2 := h x (by simp)
    rw [Mm.cntL_cons, List.length_cons]
    have : c * ((t.length + 1 : Nat) : Int) = c * (t.length : Int) + c := by push_cast; rw [Int.mul_add, Int.mul_one]
    omega
theorem hv_cnt {h : Heavy} (h1 : h.Names.length ≤ 6) (h2 : h.Counts.length ≤ 6) : Pl.ctopHeavy h ≤ 50000000 := by
  have h3 := cntL_leM (f := Pl.cnt1) (c := 1) h.Names (fun x _ => by unfold Pl.cnt1; omega)
  have h4 := cntL_leM (f := Pl.cnt1) (c := 1) h.Counts (fun x _ => by unfold Pl.cnt1; omega)
  have h6 : Pl.ctopHeavy h = (Mm.cntL Pl.cnt1) h.Names + (Mm.cntL Pl.cnt1) h.Counts := rfl
  omega
theorem hvz_cnt : Pl.ctopHeavy ⟨[], [], 0, 0⟩ ≤ 50000000 := hv_cnt (Nat.zero_le _) (Nat.zero_le _)
theorem hin_cnt {h : Heavy} {b : Int} (hi : Pl.HIn h b) : Pl.ctopHeavy h ≤ 50000000 := hv_cnt hi.pl.2 (by rw [hi.cl]; exact hi.pl.2)
theorem feedFrom_cnt : ∀ (l : List ByteArray) {h : Heavy} {b : Int}, Pl.HIn h b → Pl.ctopHeavy (Pl.feedFrom h l).1 ≤ 50000000
  | [], h, b, hi => hin_cnt hi
  | x :: l, h, b, hi => by
    rw [Pl.feedFrom]
    split
    · rename_i hw
      exact feedFrom_cnt l (Pl.hadd_in hi (word_ne hw))
    · exact hvz_cnt
theorem addHeavy_cnt (h : Heavy) (name : ByteArray) : Pl.ctopHeavy (Pl.addHeavy h name).1 ≤ 50000000 := by
  unfold Pl.addHeavy
  split
  · split
    · rename_i hk; exact hin_cnt (Pl.HIn.of_ok hk)
    · exact hvz_cnt
  · exact hvz_cnt
theorem feedHeavy_cnt (n : Int) (l : List ByteArray) : Pl.ctopHeavy (Pl.feedHeavy n l).1 ≤ 50000000 := by
  unfold Pl.feedHeavy
  split
  · rename_i hk
    have := Pl.isIn_iff.1 hk.1
    exact feedFrom_cnt l (Pl.hv0_in (n := n.toNat) (by omega) (by omega))
  · exact hvz_cnt
set_option maxRecDepth 100000 in
set_option maxHeartbeats 4000000 in
theorem walk_FnExactAddHeavy (cs_h : List Value) (h : Heavy) (name : ByteArray) (hsname : name.size ≤ maxLen) (w : World) (r_h : rHeavy.at_ w w.heap.size h cs_h) :
    Calls Try.prog 4 #[.agg cs_h.toArray, .string name] w fun e w' => e = .returned (.bool true) ∧ Below w.heap.size w w' := by
  have hsname' := hsname
  unfold maxLen at hsname'
  have hopen_h := rHeavy_at r_h
  obtain ⟨A0_h, n0_h, c0_h, A1_h, n1_h, c1_h, rfl, -⟩ := hopen_h
  have zn_h := Pl.szHeavy_nn h
  have HT0 := Lib.hid (show Below w.heap.size w (w.alloc (.cells #[.slice A0_h n0_h c0_h, .slice A1_h n1_h c1_h, .int .i64 h.Gone, .int .i64 h.Total] 36)) from (below_new (Below.refl w.heap.size w) _))
  have KP_h := Lib.hid (show Mm.Blk (w.alloc (.cells #[.slice A0_h n0_h c0_h, .slice A1_h n1_h c1_h, .int .i64 h.Gone, .int .i64 h.Total] 36)) w.heap.size 36 [.slice A0_h n0_h c0_h, .slice A1_h n1_h c1_h, .int .i64 h.Gone, .int .i64 h.Total] from (Mm.Blk.new' w 36 [.slice A0_h n0_h c0_h, .slice A1_h n1_h c1_h, .int .i64 h.Gone, .int .i64 h.Total] rfl))
  have HR_h := Lib.hid (rHeavy.keep r_h fun b hb' => HT0.out.block b hb')
  have HB_h := Lib.hid HT0.out.size
  clear r_h
  by_cases t_name : (1048576 : Int) < (name.size : Int)
  · skip
    go_enter Try.func4, Try.ntmps4
    go_wp2
    go_ret
    exact ⟨rfl, HT0.out⟩
  · skip
    by_cases t_h : (1048576 - Pl.szHeavy h : Int) < 0
    · skip
      go_enter Try.func4, Try.ntmps4
      go_wp2_with fail
      refine (szHeavy_at h _ _ _ w.heap.size HR_h.out HB_h.out (by omega) (by omega)).mono ?_
      rintro e y1 ⟨rfl, hbz⟩
      rw [Pl.szRet_lt (by omega)]
      have HR_h := Lib.hid (rHeavy.keep HR_h.out fun b hb' => hbz.block b (Nat.lt_of_lt_of_le hb' HB_h.out))
      have HB_h := Lib.hid (Nat.le_trans HB_h.out hbz.size)
      have KP_h := Lib.hid (KP_h.out.bel hbz)
      have HT2 := Lib.hid (below_step HT0.out hbz)
      clear hbz
      go_wp2
      go_ret
      exact ⟨rfl, HT2.out⟩
    · skip
      go_enter Try.func4, Try.ntmps4
      go_wp2_with fail
      refine (szHeavy_at h _ _ _ w.heap.size HR_h.out HB_h.out (by omega) (by omega)).mono ?_
      rintro e y3 ⟨rfl, hbz⟩
      rw [Pl.szRet_ge (by omega)]
      have HR_h := Lib.hid (rHeavy.keep HR_h.out fun b hb' => hbz.block b (Nat.lt_of_lt_of_le hb' HB_h.out))
      have HB_h := Lib.hid (Nat.le_trans HB_h.out hbz.size)
      have KP_h := Lib.hid (KP_h.out.bel hbz)
      have HT4 := Lib.hid (below_step HT0.out hbz)
      clear hbz
      have c5_KP_h_0 := KP_h.out.cell (i := 0) rfl
      have c5_KP_h_1 := KP_h.out.cell (i := 1) rfl
      have c5_KP_h_2 := KP_h.out.cell (i := 2) rfl
      have c5_KP_h_3 := KP_h.out.cell (i := 3) rfl
      go_wp2_with fail
      refine (toHeavy_at h _ _ w.heap.size HR_h.out HB_h.out (by omega)).mono ?_
      rintro e v6 ⟨cs6, fp6, rfl, ho6, hnd6, hf6, hbz⟩
      obtain ⟨A0_6, n0_6, c0_6, A1_6, n1_6, c1_6, _, _, rfl, -⟩ := rHeavy_own ho6
      have HR_h := Lib.hid (rHeavy.keep HR_h.out fun b hb' => hbz.block b (Nat.lt_of_lt_of_le hb' HB_h.out))
      have HB_h := Lib.hid (Nat.le_trans HB_h.out hbz.size)
      have KP_h := Lib.hid (KP_h.out.bel hbz)
      have HT7 := Lib.hid (below_step HT4.out hbz)
      have HXs_h := Lib.hid (rHeavy.weak ho6 (B := v6.heap.size) (rHeavy.olt ho6))
      have HXs_h_s := Lib.hid (Nat.le_refl v6.heap.size)
      clear ho6 hnd6 hf6
      clear hbz
      go_wp2_with fail
      refine (specAddHeavy_c h _ name _ _ (rHeavy.more HXs_h.out HXs_h_s.out) (Nat.le_refl _) hsname).mono ?_
      rintro e v8 ⟨cs8, fp8, rfl, ho8, hnd8, hf8, hbz⟩
      obtain ⟨A0_8, n0_8, c0_8, A1_8, n1_8, c1_8, _, _, rfl, -⟩ := rHeavy_own ho8
      have HR_h := Lib.hid (rHeavy.keep HR_h.out fun b hb' => hbz.block b (Nat.lt_of_lt_of_le hb' HB_h.out))
      have HB_h := Lib.hid (Nat.le_trans HB_h.out hbz.size)
      have HXs_h := Lib.hid (rHeavy.keep HXs_h.out fun b hb' => hbz.block b (Nat.lt_of_lt_of_le hb' HXs_h_s.out))
      have HXs_h_s := Lib.hid (Nat.le_trans HXs_h_s.out hbz.size)
      have KP_h := Lib.hid (KP_h.out.bel hbz)
      have HT9 := Lib.hid (below_step HT7.out hbz)
      have HW0 := Lib.hid (rHeavy.weak ho8 (B := v8.heap.size) (rHeavy.olt ho8))
      have HW0_s := Lib.hid (Nat.le_refl v8.heap.size)
      clear ho8 hnd8 hf8
      clear hbz
      have hbx : Below v8.heap.size v8 (v8.alloc (.cells #[.slice A0_8 n0_8 c0_8, .slice A1_8 n1_8 c1_8, .int .i64 (Pl.addHeavy h name).1.Gone, .int .i64 (Pl.addHeavy h name).1.Total] 38)) := below_new (Below.refl _ _) _
      have HR_h := Lib.hid (rHeavy.keep HR_h.out fun b hb' => hbx.block b (Nat.lt_of_lt_of_le hb' HB_h.out))
      have HB_h := Lib.hid (Nat.le_trans HB_h.out hbx.size)
      have HW0 := Lib.hid (rHeavy.keep HW0.out fun b hb' => hbx.block b (Nat.lt_of_lt_of_le hb' HW0_s.out))
      have HW0_s := Lib.hid (Nat.le_trans HW0_s.out hbx.size)
      have KP_h := Lib.hid (KP_h.out.bel hbx)
      have HT10 := Lib.hid (below_step HT9.out hbx)
      clear hbx
      have KW := Lib.hid (Mm.Blk.new v8 38 [.slice A0_8 n0_8 c0_8, .slice A1_8 n1_8 c1_8, .int .i64 (Pl.addHeavy h name).1.Gone, .int .i64 (Pl.addHeavy h name).1.Total])
      have c11_KP_h_0 := KP_h.out.cell (i := 0) rfl
      have c11_KP_h_1 := KP_h.out.cell (i := 1) rfl
      have c11_KP_h_2 := KP_h.out.cell (i := 2) rfl
      have c11_KP_h_3 := KP_h.out.cell (i := 3) rfl
      go_wp2_with fail
      refine (toHeavy_at h _ _ w.heap.size HR_h.out HB_h.out (by omega)).mono ?_
      rintro e v12 ⟨cs12, fp12, rfl, ho12, hnd12, hf12, hbz⟩
      obtain ⟨A0_12, n0_12, c0_12, A1_12, n1_12, c1_12, _, _, rfl, -⟩ := rHeavy_own ho12
      have AP12_HR_h := Lib.hid (show ∀ b, b ∈ fp12 → w.heap.size ≤ b from fun b hb' => Nat.le_trans HB_h.out (hf12 b hb'))
      have AP12_HW0 := Lib.hid (show ∀ b, b ∈ fp12 → v8.heap.size ≤ b from fun b hb' => Nat.le_trans HW0_s.out (hf12 b hb'))
      have NB12_KP_h := Lib.hid (show ¬ w.heap.size ∈ fp12 from fun hm => by have := KP_h.out.lt; have := hf12 _ hm; omega)
      have NB12_KW := Lib.hid (show ¬ v8.heap.size ∈ fp12 from fun hm => by have := KW.out.lt; have := hf12 _ hm; omega)
      have FR12 := Lib.hid (show ∀ b, b ∈ fp12 → w.heap.size ≤ b from fun b hb' => Nat.le_trans HT10.out.size (hf12 b hb'))
      have ND12 := Lib.hid hnd12
      have LT12 := Lib.hid (show ∀ b, b ∈ fp12 → b < v12.heap.size from rHeavy.olt ho12)
      have HR_h := Lib.hid (rHeavy.keep HR_h.out fun b hb' => hbz.block b (Nat.lt_of_lt_of_le hb' HB_h.out))
      have HB_h := Lib.hid (Nat.le_trans HB_h.out hbz.size)
      have HW0 := Lib.hid (rHeavy.keep HW0.out fun b hb' => hbz.block b (Nat.lt_of_lt_of_le hb' HW0_s.out))
      have HW0_s := Lib.hid (Nat.le_trans HW0_s.out hbz.size)
      have KP_h := Lib.hid (KP_h.out.bel hbz)
      have KW := Lib.hid (KW.out.bel hbz)
      have HT13 := Lib.hid (below_step HT10.out hbz)
      have HXx_h := Lib.hid (rHeavy.weak ho12 (B := v12.heap.size) (rHeavy.olt ho12))
      have HXx_h_s := Lib.hid (Nat.le_refl v12.heap.size)
      have OX_h := Lib.hid ho12
      clear ho12 hnd12 hf12
      clear hbz
      have NIKX_h_fp12 := Lib.hid (show ¬ v12.heap.size ∈ fp12 from fun hm => Nat.lt_irrefl _ (rHeavy.olt OX_h.out _ hm))
      have hbx : Below v12.heap.size v12 (v12.alloc (.cells #[.slice A0_12 n0_12 c0_12, .slice A1_12 n1_12 c1_12, .int .i64 h.Gone, .int .i64 h.Total] 38)) := below_new (Below.refl _ _) _
      have HR_h := Lib.hid (rHeavy.keep HR_h.out fun b hb' => hbx.block b (Nat.lt_of_lt_of_le hb' HB_h.out))
      have HB_h := Lib.hid (Nat.le_trans HB_h.out hbx.size)
      have HW0 := Lib.hid (rHeavy.keep HW0.out fun b hb' => hbx.block b (Nat.lt_of_lt_of_le hb' HW0_s.out))
      have HW0_s := Lib.hid (Nat.le_trans HW0_s.out hbx.size)
      have HXx_h := Lib.hid (rHeavy.keep HXx_h.out fun b hb' => hbx.block b (Nat.lt_of_lt_of_le hb' HXx_h_s.out))
      have HXx_h_s := Lib.hid (Nat.le_trans HXx_h_s.out hbx.size)
      have OX_h := Lib.hid (rHeavy.okeep OX_h.out fun b hb' => hbx.block b (rHeavy.olt OX_h.out b hb'))
      have KP_h := Lib.hid (KP_h.out.bel hbx)
      have KW := Lib.hid (KW.out.bel hbx)
      have HT14 := Lib.hid (below_step HT13.out hbx)
      clear hbx
      have KX_h := Lib.hid (Mm.Blk.new v12 38 [.slice A0_12 n0_12 c0_12, .slice A1_12 n1_12 c1_12, .int .i64 h.Gone, .int .i64 h.Total])
      have c15_KX_h_0 := KX_h.out.cell (i := 0) rfl
      have c15_KX_h_1 := KX_h.out.cell (i := 1) rfl
      have c15_KX_h_2 := KX_h.out.cell (i := 2) rfl
      have c15_KX_h_3 := KX_h.out.cell (i := 3) rfl
      go_wp2_with fail
      refine (implAddHeavy_c h _ name _ _ (rHeavy.more HXx_h.out HXx_h_s.out) (Nat.le_refl _) hsname).mono ?_
      rintro e v16 ⟨cs16, fp16, rfl, ho16, hnd16, hf16, hbz⟩
      obtain ⟨A0_16, n0_16, c0_16, A1_16, n1_16, c1_16, _, _, rfl, -⟩ := rHeavy_own ho16
      have AP16_HR_h := Lib.hid (show ∀ b, b ∈ fp16 → w.heap.size ≤ b from fun b hb' => Nat.le_trans HB_h.out (hf16 b hb'))
      have AP16_HW0 := Lib.hid (show ∀ b, b ∈ fp16 → v8.heap.size ≤ b from fun b hb' => Nat.le_trans HW0_s.out (hf16 b hb'))
      have AP16_HXx_h := Lib.hid (show ∀ b, b ∈ fp16 → v12.heap.size ≤ b from fun b hb' => Nat.le_trans HXx_h_s.out (hf16 b hb'))
      have DP16_OX_h := Lib.hid (show ∀ b, b ∈ fp16 → b ∉ fp12 from fun b hb' hm => by have := rHeavy.olt OX_h.out b hm; have := hf16 b hb'; omega)
      have NB16_KP_h := Lib.hid (show ¬ w.heap.size ∈ fp16 from fun hm => by have := KP_h.out.lt; have := hf16 _ hm; omega)
      have NB16_KW := Lib.hid (show ¬ v8.heap.size ∈ fp16 from fun hm => by have := KW.out.lt; have := hf16 _ hm; omega)
      have NB16_KX_h := Lib.hid (show ¬ v12.heap.size ∈ fp16 from fun hm => by have := KX_h.out.lt; have := hf16 _ hm; omega)
      have FR16 := Lib.hid (show ∀ b, b ∈ fp16 → w.heap.size ≤ b from fun b hb' => Nat.le_trans HT14.out.size (hf16 b hb'))
      have ND16 := Lib.hid hnd16
      have LT16 := Lib.hid (show ∀ b, b ∈ fp16 → b < v16.heap.size from rHeavy.olt ho16)
      have HR_h := Lib.hid (rHeavy.keep HR_h.out fun b hb' => hbz.block b (Nat.lt_of_lt_of_le hb' HB_h.out))
      have HB_h := Lib.hid (Nat.le_trans HB_h.out hbz.size)
      have HW0 := Lib.hid (rHeavy.keep HW0.out fun b hb' => hbz.block b (Nat.lt_of_lt_of_le hb' HW0_s.out))
      have HW0_s := Lib.hid (Nat.le_trans HW0_s.out hbz.size)
      have HXx_h := Lib.hid (rHeavy.keep HXx_h.out fun b hb' => hbz.block b (Nat.lt_of_lt_of_le hb' HXx_h_s.out))
      have HXx_h_s := Lib.hid (Nat.le_trans HXx_h_s.out hbz.size)
      have OX_h := Lib.hid (rHeavy.okeep OX_h.out fun b hb' => hbz.block b (rHeavy.olt OX_h.out b hb'))
      have KP_h := Lib.hid (KP_h.out.bel hbz)
      have KW := Lib.hid (KW.out.bel hbz)
      have KX_h := Lib.hid (KX_h.out.bel hbz)
      have HT17 := Lib.hid (below_step HT14.out hbz)
      have OG := Lib.hid ho16
      clear ho16 hnd16 hf16
      clear hbz
      have NIKG_fp12 := Lib.hid (show ¬ v16.heap.size ∈ fp12 from fun hm => Nat.lt_irrefl _ (rHeavy.olt OX_h.out _ hm))
      have NIKG_fp16 := Lib.hid (show ¬ v16.heap.size ∈ fp16 from fun hm => Nat.lt_irrefl _ (rHeavy.olt OG.out _ hm))
      have hbx : Below v16.heap.size v16 (v16.alloc (.cells #[.slice A0_16 n0_16 c0_16, .slice A1_16 n1_16 c1_16, .int .i64 (Pl.addHeavy h name).1.Gone, .int .i64 (Pl.addHeavy h name).1.Total] 38)) := below_new (Below.refl _ _) _
      have HR_h := Lib.hid (rHeavy.keep HR_h.out fun b hb' => hbx.block b (Nat.lt_of_lt_of_le hb' HB_h.out))
      have HB_h := Lib.hid (Nat.le_trans HB_h.out hbx.size)
      have HW0 := Lib.hid (rHeavy.keep HW0.out fun b hb' => hbx.block b (Nat.lt_of_lt_of_le hb' HW0_s.out))
      have HW0_s := Lib.hid (Nat.le_trans HW0_s.out hbx.size)
      have HXx_h := Lib.hid (rHeavy.keep HXx_h.out fun b hb' => hbx.block b (Nat.lt_of_lt_of_le hb' HXx_h_s.out))
      have HXx_h_s := Lib.hid (Nat.le_trans HXx_h_s.out hbx.size)
      have OX_h := Lib.hid (rHeavy.okeep OX_h.out fun b hb' => hbx.block b (rHeavy.olt OX_h.out b hb'))
      have OG := Lib.hid (rHeavy.okeep OG.out fun b hb' => hbx.block b (rHeavy.olt OG.out b hb'))
      have KP_h := Lib.hid (KP_h.out.bel hbx)
      have KW := Lib.hid (KW.out.bel hbx)
      have KX_h := Lib.hid (KX_h.out.bel hbx)
      have HT18 := Lib.hid (below_step HT17.out hbx)
      clear hbx
      have KG := Lib.hid (Mm.Blk.new v16 38 [.slice A0_16 n0_16 c0_16, .slice A1_16 n1_16 c1_16, .int .i64 (Pl.addHeavy h name).1.Gone, .int .i64 (Pl.addHeavy h name).1.Total])
      have c19_KP_h_0 := KP_h.out.cell (i := 0) rfl
      have c19_KP_h_1 := KP_h.out.cell (i := 1) rfl
      have c19_KP_h_2 := KP_h.out.cell (i := 2) rfl
      have c19_KP_h_3 := KP_h.out.cell (i := 3) rfl
      have c19_KW_0 := KW.out.cell (i := 0) rfl
      have c19_KW_1 := KW.out.cell (i := 1) rfl
      have c19_KW_2 := KW.out.cell (i := 2) rfl
      have c19_KW_3 := KW.out.cell (i := 3) rfl
      have c19_KX_h_0 := KX_h.out.cell (i := 0) rfl
      have c19_KX_h_1 := KX_h.out.cell (i := 1) rfl
      have c19_KX_h_2 := KX_h.out.cell (i := 2) rfl
      have c19_KX_h_3 := KX_h.out.cell (i := 3) rfl
      have c19_KG_0 := KG.out.cell (i := 0) rfl
      have c19_KG_1 := KG.out.cell (i := 1) rfl
      have c19_KG_2 := KG.out.cell (i := 2) rfl
      have c19_KG_3 := KG.out.cell (i := 3) rfl
      go_wp2_with fail
      refine (eqHeavy_at (Pl.addHeavy h name).1 _ _ _ _ (rHeavy.weak OG.out (B := _) (rHeavy.olt OG.out)) (rHeavy.more HW0.out HW0_s.out) (Nat.le_refl _)).mono ?_
      rintro e v20 ⟨rfl, hbz⟩
      have HR_h := Lib.hid (rHeavy.keep HR_h.out fun b hb' => hbz.block b (Nat.lt_of_lt_of_le hb' HB_h.out))
      have HB_h := Lib.hid (Nat.le_trans HB_h.out hbz.size)
      have HW0 := Lib.hid (rHeavy.keep HW0.out fun b hb' => hbz.block b (Nat.lt_of_lt_of_le hb' HW0_s.out))
      have HW0_s := Lib.hid (Nat.le_trans HW0_s.out hbz.size)
      have HXx_h := Lib.hid (rHeavy.keep HXx_h.out fun b hb' => hbz.block b (Nat.lt_of_lt_of_le hb' HXx_h_s.out))
      have HXx_h_s := Lib.hid (Nat.le_trans HXx_h_s.out hbz.size)
      have OX_h := Lib.hid (rHeavy.okeep OX_h.out fun b hb' => hbz.block b (rHeavy.olt OX_h.out b hb'))
      have OG := Lib.hid (rHeavy.okeep OG.out fun b hb' => hbz.block b (rHeavy.olt OG.out b hb'))
      have KP_h := Lib.hid (KP_h.out.bel hbz)
      have KW := Lib.hid (KW.out.bel hbz)
      have KX_h := Lib.hid (KX_h.out.bel hbz)
      have KG := Lib.hid (KG.out.bel hbz)
      have HT21 := Lib.hid (below_step HT18.out hbz)
      clear hbz
      have c22_KP_h_0 := KP_h.out.cell (i := 0) rfl
      have c22_KP_h_1 := KP_h.out.cell (i := 1) rfl
      have c22_KP_h_2 := KP_h.out.cell (i := 2) rfl
      have c22_KP_h_3 := KP_h.out.cell (i := 3) rfl
      have c22_KX_h_0 := KX_h.out.cell (i := 0) rfl
      have c22_KX_h_1 := KX_h.out.cell (i := 1) rfl
      have c22_KX_h_2 := KX_h.out.cell (i := 2) rfl
      have c22_KX_h_3 := KX_h.out.cell (i := 3) rfl
      go_wp2_with fail
      have hdr := (Below.refl v20.heap.size v20).drew
      have HR_h := Lib.hid (rHeavy.keep HR_h.out fun b hb' => hdr.block b (Nat.lt_of_lt_of_le hb' HB_h.out))
      have HB_h := Lib.hid (Nat.le_trans HB_h.out hdr.size)
      have HW0 := Lib.hid (rHeavy.keep HW0.out fun b hb' => hdr.block b (Nat.lt_of_lt_of_le hb' HW0_s.out))
      have HW0_s := Lib.hid (Nat.le_trans HW0_s.out hdr.size)
      have HXx_h := Lib.hid (rHeavy.keep HXx_h.out fun b hb' => hdr.block b (Nat.lt_of_lt_of_le hb' HXx_h_s.out))
      have HXx_h_s := Lib.hid (Nat.le_trans HXx_h_s.out hdr.size)
      have OX_h := Lib.hid (rHeavy.okeep OX_h.out fun b hb' => hdr.block b (rHeavy.olt OX_h.out b hb'))
      have OG := Lib.hid (rHeavy.okeep OG.out fun b hb' => hdr.block b (rHeavy.olt OG.out b hb'))
      have KP_h := Lib.hid (KP_h.out.bel hdr)
      have KW := Lib.hid (KW.out.bel hdr)
      have KX_h := Lib.hid (KX_h.out.bel hdr)
      have KG := Lib.hid (KG.out.bel hdr)
      have HT23 := Lib.hid (below_step HT21.out hdr)
      clear hdr
      have c24_KP_h_0 := KP_h.out.cell (i := 0) rfl
      have c24_KP_h_1 := KP_h.out.cell (i := 1) rfl
      have c24_KP_h_2 := KP_h.out.cell (i := 2) rfl
      have c24_KP_h_3 := KP_h.out.cell (i := 3) rfl
      have c24_KX_h_0 := KX_h.out.cell (i := 0) rfl
      have c24_KX_h_1 := KX_h.out.cell (i := 1) rfl
      have c24_KX_h_2 := KX_h.out.cell (i := 2) rfl
      have c24_KX_h_3 := KX_h.out.cell (i := 3) rfl
      go_region_held3 (fun wx => wx.cell? ⟨w.heap.size, 0, none⟩ = some (.slice A0_h n0_h c0_h) ∧ wx.cell? ⟨w.heap.size, 1, none⟩ = some (.slice A1_h n1_h c1_h) ∧ wx.cell? ⟨w.heap.size, 2, none⟩ = some (.int .i64 h.Gone) ∧ wx.cell? ⟨w.heap.size, 3, none⟩ = some (.int .i64 h.Total) ∧ wx.cell? ⟨v12.heap.size, 0, none⟩ = some (.slice A0_12 n0_12 c0_12) ∧ wx.cell? ⟨v12.heap.size, 1, none⟩ = some (.slice A1_12 n1_12 c1_12) ∧ wx.cell? ⟨v12.heap.size, 2, none⟩ = some (.int .i64 h.Gone) ∧ wx.cell? ⟨v12.heap.size, 3, none⟩ = some (.int .i64 h.Total))
        (first | (go_keep; done) | ((try dsimp only); go_split_ands; refine ⟨?_, ?_, ?_, ?_, ?_, ?_, ?_, ?_⟩ <;> first | (exact below_some hbz (by assumption)) | (exact (KP_h.out.alloc _).cell (i := 0) rfl) | (exact (KP_h.out.alloc _).cell (i := 1) rfl) | (exact (KP_h.out.alloc _).cell (i := 2) rfl) | (exact (KP_h.out.alloc _).cell (i := 3) rfl) | (exact (KX_h.out.alloc _).cell (i := 0) rfl) | (exact (KX_h.out.alloc _).cell (i := 1) rfl) | (exact (KX_h.out.alloc _).cell (i := 2) rfl) | (exact (KX_h.out.alloc _).cell (i := 3) rfl) | (go_keep; done) | (simp [World.cell?_alloc_some, World.cell?_setCell_far, *]; done)))
        (first
          | (go_at_call 17; (with_reducible refine (toHeavy_at h _ _ w.heap.size HR_h.out HB_h.out (by omega)).mono ?_); rintro e v25 ⟨cs25, fp25, rfl, ho25, hnd25, hf25, hbz⟩; obtain ⟨A0_25, n0_25, c0_25, A1_25, n1_25, c1_25, _, _, rfl, -⟩ := rHeavy_own ho25; (have HR_h := Lib.hid (rHeavy.keep HR_h.out fun b hb' => hbz.block b (Nat.lt_of_lt_of_le hb' HB_h.out))); (have HB_h := Lib.hid (Nat.le_trans HB_h.out hbz.size)); (have HW0 := Lib.hid (rHeavy.keep HW0.out fun b hb' => hbz.block b (Nat.lt_of_lt_of_le hb' HW0_s.out))); (have HW0_s := Lib.hid (Nat.le_trans HW0_s.out hbz.size)); (have HXx_h := Lib.hid (rHeavy.keep HXx_h.out fun b hb' => hbz.block b (Nat.lt_of_lt_of_le hb' HXx_h_s.out))); (have HXx_h_s := Lib.hid (Nat.le_trans HXx_h_s.out hbz.size)); (have OX_h := Lib.hid (rHeavy.okeep OX_h.out fun b hb' => hbz.block b (rHeavy.olt OX_h.out b hb'))); (have OG := Lib.hid (rHeavy.okeep OG.out fun b hb' => hbz.block b (rHeavy.olt OG.out b hb'))); (have KP_h := Lib.hid (KP_h.out.bel hbz)); (have KW := Lib.hid (KW.out.bel hbz)); (have KX_h := Lib.hid (KX_h.out.bel hbz)); (have KG := Lib.hid (KG.out.bel hbz)); (have HT26 := Lib.hid (below_step HT23.out hbz)); (have HXz_h := Lib.hid (rHeavy.weak ho25 (B := v25.heap.size) (rHeavy.olt ho25))); (have HXz_h_s := Lib.hid (Nat.le_refl v25.heap.size)); clear ho25 hnd25 hf25)
          | (go_at_call 19; (with_reducible refine (eqHeavy_at h _ _ _ v25.heap.size (rHeavy.more HXx_h.out HXx_h_s.out) HXz_h.out (Nat.le_refl _)).mono ?_); rintro e v27 ⟨rfl, hbz⟩; (have HR_h := Lib.hid (rHeavy.keep HR_h.out fun b hb' => hbz.block b (Nat.lt_of_lt_of_le hb' HB_h.out))); (have HB_h := Lib.hid (Nat.le_trans HB_h.out hbz.size)); (have HW0 := Lib.hid (rHeavy.keep HW0.out fun b hb' => hbz.block b (Nat.lt_of_lt_of_le hb' HW0_s.out))); (have HW0_s := Lib.hid (Nat.le_trans HW0_s.out hbz.size)); (have HXx_h := Lib.hid (rHeavy.keep HXx_h.out fun b hb' => hbz.block b (Nat.lt_of_lt_of_le hb' HXx_h_s.out))); (have HXx_h_s := Lib.hid (Nat.le_trans HXx_h_s.out hbz.size)); (have HXz_h := Lib.hid (rHeavy.keep HXz_h.out fun b hb' => hbz.block b (Nat.lt_of_lt_of_le hb' HXz_h_s.out))); (have HXz_h_s := Lib.hid (Nat.le_trans HXz_h_s.out hbz.size)); (have OX_h := Lib.hid (rHeavy.okeep OX_h.out fun b hb' => hbz.block b (rHeavy.olt OX_h.out b hb'))); (have OG := Lib.hid (rHeavy.okeep OG.out fun b hb' => hbz.block b (rHeavy.olt OG.out b hb'))); (have KP_h := Lib.hid (KP_h.out.bel hbz)); (have KW := Lib.hid (KW.out.bel hbz)); (have KX_h := Lib.hid (KX_h.out.bel hbz)); (have KG := Lib.hid (KG.out.bel hbz)); (have HT28 := Lib.hid (below_step HT26.out hbz))))
      clear hbz
      have hcn_h := Pl.ctopHeavy_nn h
      have hcb_h : Pl.ctopHeavy h ≤ 50000000 := by have := Pl.ctopbHeavy h; omega
      have c30_KX_h_0 := KX_h.out.cell (i := 0) rfl
      have c30_KX_h_1 := KX_h.out.cell (i := 1) rfl
      have c30_KX_h_2 := KX_h.out.cell (i := 2) rfl
      have c30_KX_h_3 := KX_h.out.cell (i := 3) rfl
      go_wp2_with fail
      refine (markHeavy_c h _ _ _ _ OX_h.out ND12.out (by omega) (by omega)).mono ?_
      rintro e v29 ⟨rfl, hch, -⟩
      have HR_h := Lib.hid (rHeavy.keep HR_h.out fun b hb' => hch.block b (Nat.lt_of_lt_of_le hb' HB_h.out) (fun hm => by have := AP12_HR_h.out b hm; omega))
      have HB_h := Lib.hid (Nat.le_trans HB_h.out hch.size)
      have HW0 := Lib.hid (rHeavy.keep HW0.out fun b hb' => hch.block b (Nat.lt_of_lt_of_le hb' HW0_s.out) (fun hm => by have := AP12_HW0.out b hm; omega))
      have HW0_s := Lib.hid (Nat.le_trans HW0_s.out hch.size)
      have OG := Lib.hid (rHeavy.okeep OG.out fun b hb' => hch.block b (rHeavy.olt OG.out b hb') (fun hm => DP16_OX_h.out b hb' hm))
      have KP_h := Lib.hid (KP_h.out.keep (hch.block _ KP_h.out.lt (NB12_KP_h.out)))
      have KW := Lib.hid (KW.out.keep (hch.block _ KW.out.lt (NB12_KW.out)))
      have KX_h := Lib.hid (KX_h.out.keep (hch.block _ KX_h.out.lt (NIKX_h_fp12.out)))
      have KG := Lib.hid (KG.out.keep (hch.block _ KG.out.lt (NIKG_fp12.out)))
      have HT31 := Lib.hid (Mm.Below.chg HT28.out hch HT28.out.size FR12.out)
      clear hch
      have c32_KP_h_0 := KP_h.out.cell (i := 0) rfl
      have c32_KP_h_1 := KP_h.out.cell (i := 1) rfl
      have c32_KP_h_2 := KP_h.out.cell (i := 2) rfl
      have c32_KP_h_3 := KP_h.out.cell (i := 3) rfl
      have c32_KW_0 := KW.out.cell (i := 0) rfl
      have c32_KW_1 := KW.out.cell (i := 1) rfl
      have c32_KW_2 := KW.out.cell (i := 2) rfl
      have c32_KW_3 := KW.out.cell (i := 3) rfl
      have c32_KX_h_0 := KX_h.out.cell (i := 0) rfl
      have c32_KX_h_1 := KX_h.out.cell (i := 1) rfl
      have c32_KX_h_2 := KX_h.out.cell (i := 2) rfl
      have c32_KX_h_3 := KX_h.out.cell (i := 3) rfl
      have c32_KG_0 := KG.out.cell (i := 0) rfl
      have c32_KG_1 := KG.out.cell (i := 1) rfl
      have c32_KG_2 := KG.out.cell (i := 2) rfl
      have c32_KG_3 := KG.out.cell (i := 3) rfl
      go_wp2_with fail
      refine (eqHeavy_at (Pl.addHeavy h name).1 _ _ _ _ (rHeavy.weak OG.out (B := _) (rHeavy.olt OG.out)) (rHeavy.more HW0.out HW0_s.out) (Nat.le_refl _)).mono ?_
      rintro e v33 ⟨rfl, hbz⟩
      have HR_h := Lib.hid (rHeavy.keep HR_h.out fun b hb' => hbz.block b (Nat.lt_of_lt_of_le hb' HB_h.out))
      have HB_h := Lib.hid (Nat.le_trans HB_h.out hbz.size)
      have HW0 := Lib.hid (rHeavy.keep HW0.out fun b hb' => hbz.block b (Nat.lt_of_lt_of_le hb' HW0_s.out))
      have HW0_s := Lib.hid (Nat.le_trans HW0_s.out hbz.size)
      have OG := Lib.hid (rHeavy.okeep OG.out fun b hb' => hbz.block b (rHeavy.olt OG.out b hb'))
      have KP_h := Lib.hid (KP_h.out.bel hbz)
      have KW := Lib.hid (KW.out.bel hbz)
      have KX_h := Lib.hid (KX_h.out.bel hbz)
      have KG := Lib.hid (KG.out.bel hbz)
      have HT34 := Lib.hid (below_step HT31.out hbz)
      clear hbz
      have hcg : 0 ≤ Pl.ctopHeavy (Pl.addHeavy h name).1 := Pl.ctopHeavy_nn (Pl.addHeavy h name).1
      have hcgb : Pl.ctopHeavy (Pl.addHeavy h name).1 ≤ 50000000 := (addHeavy_cnt h name)
      obtain ⟨cg, hcge⟩ : ∃ z, Pl.ctopHeavy (Pl.addHeavy h name).1 = z := ⟨_, rfl⟩
      rw [hcge] at hcg hcgb
      have HCG := Lib.hid hcge
      clear hcge
      have c35_KG_0 := KG.out.cell (i := 0) rfl
      have c35_KG_1 := KG.out.cell (i := 1) rfl
      have c35_KG_2 := KG.out.cell (i := 2) rfl
      have c35_KG_3 := KG.out.cell (i := 3) rfl
      go_wp2_with fail
      refine (markHeavy_c (Pl.addHeavy h name).1 _ _ _ _ OG.out ND16.out (by omega) (by rw [HCG.out]; omega)).mono ?_
      rintro e v36 ⟨rfl, hch, fpm, hom, hndm, hsubm⟩
      rw [HCG.out]
      have HR_h := Lib.hid (rHeavy.keep HR_h.out fun b hb' => hch.block b (Nat.lt_of_lt_of_le hb' HB_h.out) (fun hm => by have := AP16_HR_h.out b hm; omega))
      have HB_h := Lib.hid (Nat.le_trans HB_h.out hch.size)
      have HW0 := Lib.hid (rHeavy.keep HW0.out fun b hb' => hch.block b (Nat.lt_of_lt_of_le hb' HW0_s.out) (fun hm => by have := AP16_HW0.out b hm; omega))
      have HW0_s := Lib.hid (Nat.le_trans HW0_s.out hch.size)
      have KP_h := Lib.hid (KP_h.out.keep (hch.block _ KP_h.out.lt (NB16_KP_h.out)))
      have KW := Lib.hid (KW.out.keep (hch.block _ KW.out.lt (NB16_KW.out)))
      have KX_h := Lib.hid (KX_h.out.keep (hch.block _ KX_h.out.lt (NB16_KX_h.out)))
      have KG := Lib.hid (KG.out.keep (hch.block _ KG.out.lt (NIKG_fp16.out)))
      have HT37 := Lib.hid (Mm.Below.chg HT34.out hch HT34.out.size FR16.out)
      clear hch
      have OM := Lib.hid hom
      clear hom hndm hsubm
      have c38_KG_0 := KG.out.cell (i := 0) rfl
      have c38_KG_1 := KG.out.cell (i := 1) rfl
      have c38_KG_2 := KG.out.cell (i := 2) rfl
      have c38_KG_3 := KG.out.cell (i := 3) rfl
      go_wp2_with fail
      refine (heldHeavy_c (Pl.addHeavy h name).1 _ _ _ _ (rHeavy.weak OM.out (B := _) (rHeavy.olt OM.out)) (Nat.le_refl _) (by omega) (by rw [HCG.out]; omega)).mono ?_
      rintro e v39 ⟨rfl, hbz⟩
      rw [HCG.out]
      have HR_h := Lib.hid (rHeavy.keep HR_h.out fun b hb' => hbz.block b (Nat.lt_of_lt_of_le hb' HB_h.out))
      have HB_h := Lib.hid (Nat.le_trans HB_h.out hbz.size)
      have HW0 := Lib.hid (rHeavy.keep HW0.out fun b hb' => hbz.block b (Nat.lt_of_lt_of_le hb' HW0_s.out))
      have HW0_s := Lib.hid (Nat.le_trans HW0_s.out hbz.size)
      have OM := Lib.hid (rHeavy.okeep OM.out fun b hb' => hbz.block b (rHeavy.olt OM.out b hb'))
      have KP_h := Lib.hid (KP_h.out.bel hbz)
      have KW := Lib.hid (KW.out.bel hbz)
      have KX_h := Lib.hid (KX_h.out.bel hbz)
      have KG := Lib.hid (KG.out.bel hbz)
      have HT40 := Lib.hid (below_step HT37.out hbz)
      clear hbz
      have c41_KP_h_0 := KP_h.out.cell (i := 0) rfl
      have c41_KP_h_1 := KP_h.out.cell (i := 1) rfl
      have c41_KP_h_2 := KP_h.out.cell (i := 2) rfl
      have c41_KP_h_3 := KP_h.out.cell (i := 3) rfl
      go_wp2_with fail
      refine (toHeavy_at h _ _ w.heap.size HR_h.out HB_h.out (by omega)).mono ?_
      rintro e v42 ⟨cs42, fp42, rfl, ho42, hnd42, hf42, hbz⟩
      obtain ⟨A0_42, n0_42, c0_42, A1_42, n1_42, c1_42, _, _, rfl, -⟩ := rHeavy_own ho42
      have HR_h := Lib.hid (rHeavy.keep HR_h.out fun b hb' => hbz.block b (Nat.lt_of_lt_of_le hb' HB_h.out))
      have HB_h := Lib.hid (Nat.le_trans HB_h.out hbz.size)
      have HW0 := Lib.hid (rHeavy.keep HW0.out fun b hb' => hbz.block b (Nat.lt_of_lt_of_le hb' HW0_s.out))
      have HW0_s := Lib.hid (Nat.le_trans HW0_s.out hbz.size)
      have OM := Lib.hid (rHeavy.okeep OM.out fun b hb' => hbz.block b (rHeavy.olt OM.out b hb'))
      have KP_h := Lib.hid (KP_h.out.bel hbz)
      have KW := Lib.hid (KW.out.bel hbz)
      have KX_h := Lib.hid (KX_h.out.bel hbz)
      have KG := Lib.hid (KG.out.bel hbz)
      have HT43 := Lib.hid (below_step HT40.out hbz)
      have HXh_h := Lib.hid (rHeavy.weak ho42 (B := v42.heap.size) (rHeavy.olt ho42))
      have HXh_h_s := Lib.hid (Nat.le_refl v42.heap.size)
      clear ho42 hnd42 hf42
      clear hbz
      go_wp2_with fail
      refine (implAddHeavy_c h _ name _ _ (rHeavy.more HXh_h.out HXh_h_s.out) (Nat.le_refl _) hsname).mono ?_
      rintro e v44 ⟨cs44, fp44, rfl, ho44, hnd44, hf44, hbz⟩
      obtain ⟨A0_44, n0_44, c0_44, A1_44, n1_44, c1_44, _, _, rfl, -⟩ := rHeavy_own ho44
      have HR_h := Lib.hid (rHeavy.keep HR_h.out fun b hb' => hbz.block b (Nat.lt_of_lt_of_le hb' HB_h.out))
      have HB_h := Lib.hid (Nat.le_trans HB_h.out hbz.size)
      have HW0 := Lib.hid (rHeavy.keep HW0.out fun b hb' => hbz.block b (Nat.lt_of_lt_of_le hb' HW0_s.out))
      have HW0_s := Lib.hid (Nat.le_trans HW0_s.out hbz.size)
      have HXh_h := Lib.hid (rHeavy.keep HXh_h.out fun b hb' => hbz.block b (Nat.lt_of_lt_of_le hb' HXh_h_s.out))
      have HXh_h_s := Lib.hid (Nat.le_trans HXh_h_s.out hbz.size)
      have OM := Lib.hid (rHeavy.okeep OM.out fun b hb' => hbz.block b (rHeavy.olt OM.out b hb'))
      have KP_h := Lib.hid (KP_h.out.bel hbz)
      have KW := Lib.hid (KW.out.bel hbz)
      have KX_h := Lib.hid (KX_h.out.bel hbz)
      have KG := Lib.hid (KG.out.bel hbz)
      have HT45 := Lib.hid (below_step HT43.out hbz)
      have HH := Lib.hid (rHeavy.weak ho44 (B := v44.heap.size) (rHeavy.olt ho44))
      have HH_s := Lib.hid (Nat.le_refl v44.heap.size)
      clear ho44 hnd44 hf44
      clear hbz
      have hbx : Below v44.heap.size v44 (v44.alloc (.cells #[.slice A0_44 n0_44 c0_44, .slice A1_44 n1_44 c1_44, .int .i64 (Pl.addHeavy h name).1.Gone, .int .i64 (Pl.addHeavy h name).1.Total] 38)) := below_new (Below.refl _ _) _
      have HR_h := Lib.hid (rHeavy.keep HR_h.out fun b hb' => hbx.block b (Nat.lt_of_lt_of_le hb' HB_h.out))
      have HB_h := Lib.hid (Nat.le_trans HB_h.out hbx.size)
      have HW0 := Lib.hid (rHeavy.keep HW0.out fun b hb' => hbx.block b (Nat.lt_of_lt_of_le hb' HW0_s.out))
      have HW0_s := Lib.hid (Nat.le_trans HW0_s.out hbx.size)
      have HH := Lib.hid (rHeavy.keep HH.out fun b hb' => hbx.block b (Nat.lt_of_lt_of_le hb' HH_s.out))
      have HH_s := Lib.hid (Nat.le_trans HH_s.out hbx.size)
      have OM := Lib.hid (rHeavy.okeep OM.out fun b hb' => hbx.block b (rHeavy.olt OM.out b hb'))
      have KP_h := Lib.hid (KP_h.out.bel hbx)
      have KW := Lib.hid (KW.out.bel hbx)
      have KX_h := Lib.hid (KX_h.out.bel hbx)
      have KG := Lib.hid (KG.out.bel hbx)
      have HT46 := Lib.hid (below_step HT45.out hbx)
      clear hbx
      have KH := Lib.hid (Mm.Blk.new v44 38 [.slice A0_44 n0_44 c0_44, .slice A1_44 n1_44 c1_44, .int .i64 (Pl.addHeavy h name).1.Gone, .int .i64 (Pl.addHeavy h name).1.Total])
      have c47_KW_0 := KW.out.cell (i := 0) rfl
      have c47_KW_1 := KW.out.cell (i := 1) rfl
      have c47_KW_2 := KW.out.cell (i := 2) rfl
      have c47_KW_3 := KW.out.cell (i := 3) rfl
      have c47_KH_0 := KH.out.cell (i := 0) rfl
      have c47_KH_1 := KH.out.cell (i := 1) rfl
      have c47_KH_2 := KH.out.cell (i := 2) rfl
      have c47_KH_3 := KH.out.cell (i := 3) rfl
      go_wp2_with fail
      refine (eqHeavy_at (Pl.addHeavy h name).1 _ _ _ _ (rHeavy.more HH.out HH_s.out) (rHeavy.more HW0.out HW0_s.out) (Nat.le_refl _)).mono ?_
      rintro e v48 ⟨rfl, hbz⟩
      have HR_h := Lib.hid (rHeavy.keep HR_h.out fun b hb' => hbz.block b (Nat.lt_of_lt_of_le hb' HB_h.out))
      have HB_h := Lib.hid (Nat.le_trans HB_h.out hbz.size)
      have HW0 := Lib.hid (rHeavy.keep HW0.out fun b hb' => hbz.block b (Nat.lt_of_lt_of_le hb' HW0_s.out))
      have HW0_s := Lib.hid (Nat.le_trans HW0_s.out hbz.size)
      have HH := Lib.hid (rHeavy.keep HH.out fun b hb' => hbz.block b (Nat.lt_of_lt_of_le hb' HH_s.out))
      have HH_s := Lib.hid (Nat.le_trans HH_s.out hbz.size)
      have OM := Lib.hid (rHeavy.okeep OM.out fun b hb' => hbz.block b (rHeavy.olt OM.out b hb'))
      have KP_h := Lib.hid (KP_h.out.bel hbz)
      have KW := Lib.hid (KW.out.bel hbz)
      have KX_h := Lib.hid (KX_h.out.bel hbz)
      have KG := Lib.hid (KG.out.bel hbz)
      have KH := Lib.hid (KH.out.bel hbz)
      have HT49 := Lib.hid (below_step HT46.out hbz)
      clear hbz
      have c50_KG_0 := KG.out.cell (i := 0) rfl
      have c50_KG_1 := KG.out.cell (i := 1) rfl
      have c50_KG_2 := KG.out.cell (i := 2) rfl
      have c50_KG_3 := KG.out.cell (i := 3) rfl
      go_wp2_with fail
      refine (heldHeavy_c (Pl.addHeavy h name).1 _ _ _ _ (rHeavy.weak OM.out (B := _) (rHeavy.olt OM.out)) (Nat.le_refl _) (by omega) (by rw [HCG.out]; omega)).mono ?_
      rintro e v51 ⟨rfl, hbz⟩
      rw [HCG.out]
      have HR_h := Lib.hid (rHeavy.keep HR_h.out fun b hb' => hbz.block b (Nat.lt_of_lt_of_le hb' HB_h.out))
      have HB_h := Lib.hid (Nat.le_trans HB_h.out hbz.size)
      have HW0 := Lib.hid (rHeavy.keep HW0.out fun b hb' => hbz.block b (Nat.lt_of_lt_of_le hb' HW0_s.out))
      have HW0_s := Lib.hid (Nat.le_trans HW0_s.out hbz.size)
      have HH := Lib.hid (rHeavy.keep HH.out fun b hb' => hbz.block b (Nat.lt_of_lt_of_le hb' HH_s.out))
      have HH_s := Lib.hid (Nat.le_trans HH_s.out hbz.size)
      have OM := Lib.hid (rHeavy.okeep OM.out fun b hb' => hbz.block b (rHeavy.olt OM.out b hb'))
      have KP_h := Lib.hid (KP_h.out.bel hbz)
      have KW := Lib.hid (KW.out.bel hbz)
      have KX_h := Lib.hid (KX_h.out.bel hbz)
      have KG := Lib.hid (KG.out.bel hbz)
      have KH := Lib.hid (KH.out.bel hbz)
      have HT52 := Lib.hid (below_step HT49.out hbz)
      clear hbz
      go_wp2
      go_ret
      exact ⟨rfl, HT52.out⟩
end Go.Proofs.Ytjmcbggdckfefaa
