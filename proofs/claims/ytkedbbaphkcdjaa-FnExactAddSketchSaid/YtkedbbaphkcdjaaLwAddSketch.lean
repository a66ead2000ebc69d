/-
  The walk of the law on AddSketch. No conditions.
-/
import Derived.Test.YtkedbbaphkcdjaaWm
import Derived.Test.YtkedbbaphkcdjaaHe
import Derived.Test.YtkedbbaphkcdjaaHs
import Derived.Test.YtkedbbaphkcdjaaHt
import Derived.Test.YtkedbbaphkcdjaaHm
import Derived.Test.YtkedbbaphkcdjaaHn
import Derived.Test.YtkedbbaphkcdjaaHh
namespace Go.Proofs.Ytkedbbaphkcdjaa
open Go.RowKit
theorem cntL_leM {α : Type} {f : α → Int} {c : Int} : ∀ l : List α, (∀ x, x ∈ l → f x ≤ c) → Mm.cntL f l ≤ c * (l.length : Int)
  | [], _ => by simp [Mm.cntL]
  | x :: t, h => by
    have h1 := cntL_leM t fun y hy => h y (by simp [hy])
    have h2 := h x (by simp)
    rw [Mm.cntL_cons, List.length_cons]
    have : c * ((t.length + 1 : Nat) : Int) = c * (t.length : Int) + c := by push_cast; rw [Int.mul_add, Int.mul_one]
    omega
theorem sketch_cnt {s : Sketch} (h : Pl.sketchOk s = true) : Pl.ctopSketch s ≤ 50000000 := by
  have h1 : ∀ r, r ∈ s.Rows → Mm.cntL Pl.cnt1 r ≤ 11 := fun r hr => by
    obtain ⟨k, hk, rfl⟩ := List.mem_iff_getElem.1 hr
    have h2 := (Pl.rows_bd h (List.getElem?_eq_getElem hk)).1
    have h3 := cntL_leM (f := Pl.cnt1) (c := 1) s.Rows[k] (fun x _ => by unfold Pl.cnt1; omega)
    rw [h2] at h3
    omega
  have h4 := cntL_leM s.Rows h1
  have h5 : (s.Rows.length : Int) ≤ 3 := by
    unfold Pl.sketchOk at h
    rw [Bool.and_eq_true, Pl.isIn_iff] at h
    omega
  have h6 : Pl.ctopSketch s = (Mm.cntL (Mm.cntL Pl.cnt1)) s.Rows := rfl
  omega
theorem sk0_cnt : Pl.ctopSketch Pl.sk0 ≤ 50000000 := by
  have h6 : Pl.ctopSketch Pl.sk0 = 0 := rfl
  omega
theorem addSketch_cnt (s : Sketch) (name : ByteArray) (many : Int) : Pl.ctopSketch (Pl.addSketch s name many).1 ≤ 50000000 := by
  unfold Pl.addSketch
  split
  · split
    · rename_i h; exact sketch_cnt h
    · exact sk0_cnt
  · exact sk0_cnt
set_option maxRecDepth 100000 in
set_option maxHeartbeats 4000000 in
theorem walk_FnExactAddSketch (cs_s : List Value) (s : Sketch) (name : ByteArray) (hsname : name.size ≤ maxLen) (many : Int) (_wmany : (Lit.int .i64 many).wf = true) (w : World) (r_s : sk.at_ w w.heap.size s cs_s) :
    Calls Try.prog 6 #[.agg cs_s.toArray, .string name, .int .i64 many] w fun e w' => e = .returned (.bool true) ∧ Below w.heap.size w w' := by
  have hsname' := hsname
  unfold maxLen at hsname'
  have hopen_s := sk_at r_s
  obtain ⟨A_s, n_s, c_s, rfl, -⟩ := hopen_s
  have zn_s := Pl.szSketch_nn s
  have HT0 := Lib.hid (show Below w.heap.size w (w.alloc (.cells #[.slice A_s n_s c_s, .int .i64 s.Total] 24)) from (below_new (Below.refl w.heap.size w) _))
  have KP_s := Lib.hid (show Mm.Blk (w.alloc (.cells #[.slice A_s n_s c_s, .int .i64 s.Total] 24)) w.heap.size 24 [.slice A_s n_s c_s, .int .i64 s.Total] from (Mm.Blk.new' w 24 [.slice A_s n_s c_s, .int .i64 s.Total] rfl))
  have HR_s := Lib.hid (sk.keep r_s fun b hb' => HT0.out.block b hb')
  have HB_s := Lib.hid HT0.out.size
  clear r_s
  by_cases t_name : (1048576 : Int) < (name.size : Int)
  · skip
    go_enter Try.func6, Try.ntmps6
    go_wp2
    go_ret
    exact ⟨rfl, HT0.out⟩
  · skip
    by_cases t_s : (1048576 - Pl.szSketch s : Int) < 0
    · skip
      go_enter Try.func6, Try.ntmps6
      go_wp2_with fail
      refine (szSketch_at s _ _ _ w.heap.size HR_s.out HB_s.out (by omega) (by omega)).mono ?_
      rintro e y1 ⟨rfl, hbz⟩
      rw [Pl.szRet_lt (by omega)]
      have HR_s := Lib.hid (sk.keep HR_s.out fun b hb' => hbz.block b (Nat.lt_of_lt_of_le hb' HB_s.out))
      have HB_s := Lib.hid (Nat.le_trans HB_s.out hbz.size)
      have KP_s := Lib.hid (KP_s.out.bel hbz)
      have HT2 := Lib.hid (below_step HT0.out hbz)
      clear hbz
      go_wp2
      go_ret
      exact ⟨rfl, HT2.out⟩
    · skip
      go_enter Try.func6, Try.ntmps6
      go_wp2_with fail
      refine (szSketch_at s _ _ _ w.heap.size HR_s.out HB_s.out (by omega) (by omega)).mono ?_
      rintro e y3 ⟨rfl, hbz⟩
      rw [Pl.szRet_ge (by omega)]
      have HR_s := Lib.hid (sk.keep HR_s.out fun b hb' => hbz.block b (Nat.lt_of_lt_of_le hb' HB_s.out))
      have HB_s := Lib.hid (Nat.le_trans HB_s.out hbz.size)
      have KP_s := Lib.hid (KP_s.out.bel hbz)
      have HT4 := Lib.hid (below_step HT0.out hbz)
      clear hbz
      have c5_KP_s_0 := KP_s.out.cell (i := 0) rfl
      have c5_KP_s_1 := KP_s.out.cell (i := 1) rfl
      go_wp2_with fail
      refine (toSketch_at s _ _ w.heap.size HR_s.out HB_s.out (by omega)).mono ?_
      rintro e v6 ⟨cs6, fp6, rfl, ho6, hnd6, hf6, hbz⟩
      obtain ⟨A_6, n_6, c_6, _, rfl, -⟩ := sk_own ho6
      have HR_s := Lib.hid (sk.keep HR_s.out fun b hb' => hbz.block b (Nat.lt_of_lt_of_le hb' HB_s.out))
      have HB_s := Lib.hid (Nat.le_trans HB_s.out hbz.size)
      have KP_s := Lib.hid (KP_s.out.bel hbz)
      have HT7 := Lib.hid (below_step HT4.out hbz)
      have HXs_s := Lib.hid (sk.weak ho6 (B := v6.heap.size) (sk.olt ho6))
      have HXs_s_s := Lib.hid (Nat.le_refl v6.heap.size)
      clear ho6 hnd6 hf6
      clear hbz
      go_wp2_with fail
      refine (specAddSketch_c s _ name many _ _ (sk.more HXs_s.out HXs_s_s.out) (Nat.le_refl _) hsname).mono ?_
      rintro e v8 ⟨cs8, fp8, rfl, ho8, hnd8, hf8, hbz⟩
      obtain ⟨A_8, n_8, c_8, _, rfl, -⟩ := sk_own ho8
      have HR_s := Lib.hid (sk.keep HR_s.out fun b hb' => hbz.block b (Nat.lt_of_lt_of_le hb' HB_s.out))
      have HB_s := Lib.hid (Nat.le_trans HB_s.out hbz.size)
      have HXs_s := Lib.hid (sk.keep HXs_s.out fun b hb' => hbz.block b (Nat.lt_of_lt_of_le hb' HXs_s_s.out))
      have HXs_s_s := Lib.hid (Nat.le_trans HXs_s_s.out hbz.size)
      have KP_s := Lib.hid (KP_s.out.bel hbz)
      have HT9 := Lib.hid (below_step HT7.out hbz)
      have HW0 := Lib.hid (sk.weak ho8 (B := v8.heap.size) (sk.olt ho8))
      have HW0_s := Lib.hid (Nat.le_refl v8.heap.size)
      clear ho8 hnd8 hf8
      clear hbz
      have hbx : Below v8.heap.size v8 (v8.alloc (.cells #[.slice A_8 n_8 c_8, .int .i64 (Pl.addSketch s name many).1.Total] 27)) := below_new (Below.refl _ _) _
      have HR_s := Lib.hid (sk.keep HR_s.out fun b hb' => hbx.block b (Nat.lt_of_lt_of_le hb' HB_s.out))
      have HB_s := Lib.hid (Nat.le_trans HB_s.out hbx.size)
      have HW0 := Lib.hid (sk.keep HW0.out fun b hb' => hbx.block b (Nat.lt_of_lt_of_le hb' HW0_s.out))
      have HW0_s := Lib.hid (Nat.le_trans HW0_s.out hbx.size)
      have KP_s := Lib.hid (KP_s.out.bel hbx)
      have HT10 := Lib.hid (below_step HT9.out hbx)
      clear hbx
      have KW := Lib.hid (Mm.Blk.new v8 27 [.slice A_8 n_8 c_8, .int .i64 (Pl.addSketch s name many).1.Total])
      have c11_KP_s_0 := KP_s.out.cell (i := 0) rfl
      have c11_KP_s_1 := KP_s.out.cell (i := 1) rfl
      go_wp2_with fail
      refine (toSketch_at s _ _ w.heap.size HR_s.out HB_s.out (by omega)).mono ?_
      rintro e v12 ⟨cs12, fp12, rfl, ho12, hnd12, hf12, hbz⟩
      obtain ⟨A_12, n_12, c_12, _, rfl, -⟩ := sk_own ho12
      have AP12_HR_s := Lib.hid (show ∀ b, b ∈ fp12 → w.heap.size ≤ b from fun b hb' => Nat.le_trans HB_s.out (hf12 b hb'))
      have AP12_HW0 := Lib.hid (show ∀ b, b ∈ fp12 → v8.heap.size ≤ b from fun b hb' => Nat.le_trans HW0_s.out (hf12 b hb'))
      have NB12_KP_s := Lib.hid (show ¬ w.heap.size ∈ fp12 from fun hm => by have := KP_s.out.lt; have := hf12 _ hm; omega)
      have NB12_KW := Lib.hid (show ¬ v8.heap.size ∈ fp12 from fun hm => by have := KW.out.lt; have := hf12 _ hm; omega)
      have FR12 := Lib.hid (show ∀ b, b ∈ fp12 → w.heap.size ≤ b from fun b hb' => Nat.le_trans HT10.out.size (hf12 b hb'))
      have ND12 := Lib.hid hnd12
      have LT12 := Lib.hid (show ∀ b, b ∈ fp12 → b < v12.heap.size from sk.olt ho12)
      have HR_s := Lib.hid (sk.keep HR_s.out fun b hb' => hbz.block b (Nat.lt_of_lt_of_le hb' HB_s.out))
      have HB_s := Lib.hid (Nat.le_trans HB_s.out hbz.size)
      have HW0 := Lib.hid (sk.keep HW0.out fun b hb' => hbz.block b (Nat.lt_of_lt_of_le hb' HW0_s.out))
      have HW0_s := Lib.hid (Nat.le_trans HW0_s.out hbz.size)
      have KP_s := Lib.hid (KP_s.out.bel hbz)
      have KW := Lib.hid (KW.out.bel hbz)
      have HT13 := Lib.hid (below_step HT10.out hbz)
      have HXx_s := Lib.hid (sk.weak ho12 (B := v12.heap.size) (sk.olt ho12))
      have HXx_s_s := Lib.hid (Nat.le_refl v12.heap.size)
      have OX_s := Lib.hid ho12
      clear ho12 hnd12 hf12
      clear hbz
      have NIKX_s_fp12 := Lib.hid (show ¬ v12.heap.size ∈ fp12 from fun hm => Nat.lt_irrefl _ (sk.olt OX_s.out _ hm))
      have hbx : Below v12.heap.size v12 (v12.alloc (.cells #[.slice A_12 n_12 c_12, .int .i64 s.Total] 27)) := below_new (Below.refl _ _) _
      have HR_s := Lib.hid (sk.keep HR_s.out fun b hb' => hbx.block b (Nat.lt_of_lt_of_le hb' HB_s.out))
      have HB_s := Lib.hid (Nat.le_trans HB_s.out hbx.size)
      have HW0 := Lib.hid (sk.keep HW0.out fun b hb' => hbx.block b (Nat.lt_of_lt_of_le hb' HW0_s.out))
      have HW0_s := Lib.hid (Nat.le_trans HW0_s.out hbx.size)
      have HXx_s := Lib.hid (sk.keep HXx_s.out fun b hb' => hbx.block b (Nat.lt_of_lt_of_le hb' HXx_s_s.out))
      have HXx_s_s := Lib.hid (Nat.le_trans HXx_s_s.out hbx.size)
      have OX_s := Lib.hid (sk.okeep OX_s.out fun b hb' => hbx.block b (sk.olt OX_s.out b hb'))
      have KP_s := Lib.hid (KP_s.out.bel hbx)
      have KW := Lib.hid (KW.out.bel hbx)
      have HT14 := Lib.hid (below_step HT13.out hbx)
      clear hbx
      have KX_s := Lib.hid (Mm.Blk.new v12 27 [.slice A_12 n_12 c_12, .int .i64 s.Total])
      have c15_KX_s_0 := KX_s.out.cell (i := 0) rfl
      have c15_KX_s_1 := KX_s.out.cell (i := 1) rfl
      go_wp2_with fail
      refine (implAddSketch_c s _ name many _ _ (sk.more HXx_s.out HXx_s_s.out) (Nat.le_refl _) hsname).mono ?_
      rintro e v16 ⟨cs16, fp16, rfl, ho16, hnd16, hf16, hbz⟩
      obtain ⟨A_16, n_16, c_16, _, rfl, -⟩ := sk_own ho16
      have AP16_HR_s := Lib.hid (show ∀ b, b ∈ fp16 → w.heap.size ≤ b from fun b hb' => Nat.le_trans HB_s.out (hf16 b hb'))
      have AP16_HW0 := Lib.hid (show ∀ b, b ∈ fp16 → v8.heap.size ≤ b from fun b hb' => Nat.le_trans HW0_s.out (hf16 b hb'))
      have AP16_HXx_s := Lib.hid (show ∀ b, b ∈ fp16 → v12.heap.size ≤ b from fun b hb' => Nat.le_trans HXx_s_s.out (hf16 b hb'))
      have DP16_OX_s := Lib.hid (show ∀ b, b ∈ fp16 → b ∉ fp12 from fun b hb' hm => by have := sk.olt OX_s.out b hm; have := hf16 b hb'; omega)
      have NB16_KP_s := Lib.hid (show ¬ w.heap.size ∈ fp16 from fun hm => by have := KP_s.out.lt; have := hf16 _ hm; omega)
      have NB16_KW := Lib.hid (show ¬ v8.heap.size ∈ fp16 from fun hm => by have := KW.out.lt; have := hf16 _ hm; omega)
      have NB16_KX_s := Lib.hid (show ¬ v12.heap.size ∈ fp16 from fun hm => by have := KX_s.out.lt; have := hf16 _ hm; omega)
      have FR16 := Lib.hid (show ∀ b, b ∈ fp16 → w.heap.size ≤ b from fun b hb' => Nat.le_trans HT14.out.size (hf16 b hb'))
      have ND16 := Lib.hid hnd16
      have LT16 := Lib.hid (show ∀ b, b ∈ fp16 → b < v16.heap.size from sk.olt ho16)
      have HR_s := Lib.hid (sk.keep HR_s.out fun b hb' => hbz.block b (Nat.lt_of_lt_of_le hb' HB_s.out))
      have HB_s := Lib.hid (Nat.le_trans HB_s.out hbz.size)
      have HW0 := Lib.hid (sk.keep HW0.out fun b hb' => hbz.block b (Nat.lt_of_lt_of_le hb' HW0_s.out))
      have HW0_s := Lib.hid (Nat.le_trans HW0_s.out hbz.size)
      have HXx_s := Lib.hid (sk.keep HXx_s.out fun b hb' => hbz.block b (Nat.lt_of_lt_of_le hb' HXx_s_s.out))
      have HXx_s_s := Lib.hid (Nat.le_trans HXx_s_s.out hbz.size)
      have OX_s := Lib.hid (sk.okeep OX_s.out fun b hb' => hbz.block b (sk.olt OX_s.out b hb'))
      have KP_s := Lib.hid (KP_s.out.bel hbz)
      have KW := Lib.hid (KW.out.bel hbz)
      have KX_s := Lib.hid (KX_s.out.bel hbz)
      have HT17 := Lib.hid (below_step HT14.out hbz)
      have OG := Lib.hid ho16
      clear ho16 hnd16 hf16
      clear hbz
      have NIKG_fp12 := Lib.hid (show ¬ v16.heap.size ∈ fp12 from fun hm => Nat.lt_irrefl _ (sk.olt OX_s.out _ hm))
      have NIKG_fp16 := Lib.hid (show ¬ v16.heap.size ∈ fp16 from fun hm => Nat.lt_irrefl _ (sk.olt OG.out _ hm))
      have hbx : Below v16.heap.size v16 (v16.alloc (.cells #[.slice A_16 n_16 c_16, .int .i64 (Pl.addSketch s name many).1.Total] 27)) := below_new (Below.refl _ _) _
      have HR_s := Lib.hid (sk.keep HR_s.out fun b hb' => hbx.block b (Nat.lt_of_lt_of_le hb' HB_s.out))
      have HB_s := Lib.hid (Nat.le_trans HB_s.out hbx.size)
      have HW0 := Lib.hid (sk.keep HW0.out fun b hb' => hbx.block b (Nat.lt_of_lt_of_le hb' HW0_s.out))
      have HW0_s := Lib.hid (Nat.le_trans HW0_s.out hbx.size)
      have HXx_s := Lib.hid (sk.keep HXx_s.out fun b hb' => hbx.block b (Nat.lt_of_lt_of_le hb' HXx_s_s.out))
      have HXx_s_s := Lib.hid (Nat.le_trans HXx_s_s.out hbx.size)
      have OX_s := Lib.hid (sk.okeep OX_s.out fun b hb' => hbx.block b (sk.olt OX_s.out b hb'))
      have OG := Lib.hid (sk.okeep OG.out fun b hb' => hbx.block b (sk.olt OG.out b hb'))
      have KP_s := Lib.hid (KP_s.out.bel hbx)
      have KW := Lib.hid (KW.out.bel hbx)
      have KX_s := Lib.hid (KX_s.out.bel hbx)
      have HT18 := Lib.hid (below_step HT17.out hbx)
      clear hbx
      have KG := Lib.hid (Mm.Blk.new v16 27 [.slice A_16 n_16 c_16, .int .i64 (Pl.addSketch s name many).1.Total])
      have c19_KP_s_0 := KP_s.out.cell (i := 0) rfl
      have c19_KP_s_1 := KP_s.out.cell (i := 1) rfl
      have c19_KW_0 := KW.out.cell (i := 0) rfl
      have c19_KW_1 := KW.out.cell (i := 1) rfl
      have c19_KX_s_0 := KX_s.out.cell (i := 0) rfl
      have c19_KX_s_1 := KX_s.out.cell (i := 1) rfl
      have c19_KG_0 := KG.out.cell (i := 0) rfl
      have c19_KG_1 := KG.out.cell (i := 1) rfl
      go_wp2_with fail
      refine (eqSketch_at (Pl.addSketch s name many).1 _ _ _ _ (sk.weak OG.out (B := _) (sk.olt OG.out)) (sk.more HW0.out HW0_s.out) (Nat.le_refl _)).mono ?_
      rintro e v20 ⟨rfl, hbz⟩
      have HR_s := Lib.hid (sk.keep HR_s.out fun b hb' => hbz.block b (Nat.lt_of_lt_of_le hb' HB_s.out))
      have HB_s := Lib.hid (Nat.le_trans HB_s.out hbz.size)
      have HW0 := Lib.hid (sk.keep HW0.out fun b hb' => hbz.block b (Nat.lt_of_lt_of_le hb' HW0_s.out))
      have HW0_s := Lib.hid (Nat.le_trans HW0_s.out hbz.size)
      have HXx_s := Lib.hid (sk.keep HXx_s.out fun b hb' => hbz.block b (Nat.lt_of_lt_of_le hb' HXx_s_s.out))
      have HXx_s_s := Lib.hid (Nat.le_trans HXx_s_s.out hbz.size)
      have OX_s := Lib.hid (sk.okeep OX_s.out fun b hb' => hbz.block b (sk.olt OX_s.out b hb'))
      have OG := Lib.hid (sk.okeep OG.out fun b hb' => hbz.block b (sk.olt OG.out b hb'))
      have KP_s := Lib.hid (KP_s.out.bel hbz)
      have KW := Lib.hid (KW.out.bel hbz)
      have KX_s := Lib.hid (KX_s.out.bel hbz)
      have KG := Lib.hid (KG.out.bel hbz)
      have HT21 := Lib.hid (below_step HT18.out hbz)
      clear hbz
      have c22_KP_s_0 := KP_s.out.cell (i := 0) rfl
      have c22_KP_s_1 := KP_s.out.cell (i := 1) rfl
      have c22_KX_s_0 := KX_s.out.cell (i := 0) rfl
      have c22_KX_s_1 := KX_s.out.cell (i := 1) rfl
      go_wp2_with fail
      have hdr := (Below.refl v20.heap.size v20).drew
      have HR_s := Lib.hid (sk.keep HR_s.out fun b hb' => hdr.block b (Nat.lt_of_lt_of_le hb' HB_s.out))
      have HB_s := Lib.hid (Nat.le_trans HB_s.out hdr.size)
      have HW0 := Lib.hid (sk.keep HW0.out fun b hb' => hdr.block b (Nat.lt_of_lt_of_le hb' HW0_s.out))
      have HW0_s := Lib.hid (Nat.le_trans HW0_s.out hdr.size)
      have HXx_s := Lib.hid (sk.keep HXx_s.out fun b hb' => hdr.block b (Nat.lt_of_lt_of_le hb' HXx_s_s.out))
      have HXx_s_s := Lib.hid (Nat.le_trans HXx_s_s.out hdr.size)
      have OX_s := Lib.hid (sk.okeep OX_s.out fun b hb' => hdr.block b (sk.olt OX_s.out b hb'))
      have OG := Lib.hid (sk.okeep OG.out fun b hb' => hdr.block b (sk.olt OG.out b hb'))
      have KP_s := Lib.hid (KP_s.out.bel hdr)
      have KW := Lib.hid (KW.out.bel hdr)
      have KX_s := Lib.hid (KX_s.out.bel hdr)
      have KG := Lib.hid (KG.out.bel hdr)
      have HT23 := Lib.hid (below_step HT21.out hdr)
      clear hdr
      have c24_KP_s_0 := KP_s.out.cell (i := 0) rfl
      have c24_KP_s_1 := KP_s.out.cell (i := 1) rfl
      have c24_KX_s_0 := KX_s.out.cell (i := 0) rfl
      have c24_KX_s_1 := KX_s.out.cell (i := 1) rfl
      go_region_held3 (fun wx => wx.cell? ⟨w.heap.size, 0, none⟩ = some (.slice A_s n_s c_s) ∧ wx.cell? ⟨w.heap.size, 1, none⟩ = some (.int .i64 s.Total) ∧ wx.cell? ⟨v12.heap.size, 0, none⟩ = some (.slice A_12 n_12 c_12) ∧ wx.cell? ⟨v12.heap.size, 1, none⟩ = some (.int .i64 s.Total))
        (first | (go_keep; done) | ((try dsimp only); go_split_ands; refine ⟨?_, ?_, ?_, ?_⟩ <;> first | (exact below_some hbz (by assumption)) | (go_keep; done) | (simp [World.cell?_alloc_some, World.cell?_setCell_far, *]; done)))
        (first
          | (go_at_call 11; (with_reducible refine (toSketch_at s _ _ w.heap.size HR_s.out HB_s.out (by omega)).mono ?_); rintro e v25 ⟨cs25, fp25, rfl, ho25, hnd25, hf25, hbz⟩; obtain ⟨A_25, n_25, c_25, _, rfl, -⟩ := sk_own ho25; (have HR_s := Lib.hid (sk.keep HR_s.out fun b hb' => hbz.block b (Nat.lt_of_lt_of_le hb' HB_s.out))); (have HB_s := Lib.hid (Nat.le_trans HB_s.out hbz.size)); (have HW0 := Lib.hid (sk.keep HW0.out fun b hb' => hbz.block b (Nat.lt_of_lt_of_le hb' HW0_s.out))); (have HW0_s := Lib.hid (Nat.le_trans HW0_s.out hbz.size)); (have HXx_s := Lib.hid (sk.keep HXx_s.out fun b hb' => hbz.block b (Nat.lt_of_lt_of_le hb' HXx_s_s.out))); (have HXx_s_s := Lib.hid (Nat.le_trans HXx_s_s.out hbz.size)); (have OX_s := Lib.hid (sk.okeep OX_s.out fun b hb' => hbz.block b (sk.olt OX_s.out b hb'))); (have OG := Lib.hid (sk.okeep OG.out fun b hb' => hbz.block b (sk.olt OG.out b hb'))); (have KP_s := Lib.hid (KP_s.out.bel hbz)); (have KW := Lib.hid (KW.out.bel hbz)); (have KX_s := Lib.hid (KX_s.out.bel hbz)); (have KG := Lib.hid (KG.out.bel hbz)); (have HT26 := Lib.hid (below_step HT23.out hbz)); (have HXz_s := Lib.hid (sk.weak ho25 (B := v25.heap.size) (sk.olt ho25))); (have HXz_s_s := Lib.hid (Nat.le_refl v25.heap.size)); clear ho25 hnd25 hf25)
          | (go_at_call 13; (with_reducible refine (eqSketch_at s _ _ _ v25.heap.size (sk.more HXx_s.out HXx_s_s.out) HXz_s.out (Nat.le_refl _)).mono ?_); rintro e v27 ⟨rfl, hbz⟩; (have HR_s := Lib.hid (sk.keep HR_s.out fun b hb' => hbz.block b (Nat.lt_of_lt_of_le hb' HB_s.out))); (have HB_s := Lib.hid (Nat.le_trans HB_s.out hbz.size)); (have HW0 := Lib.hid (sk.keep HW0.out fun b hb' => hbz.block b (Nat.lt_of_lt_of_le hb' HW0_s.out))); (have HW0_s := Lib.hid (Nat.le_trans HW0_s.out hbz.size)); (have HXx_s := Lib.hid (sk.keep HXx_s.out fun b hb' => hbz.block b (Nat.lt_of_lt_of_le hb' HXx_s_s.out))); (have HXx_s_s := Lib.hid (Nat.le_trans HXx_s_s.out hbz.size)); (have HXz_s := Lib.hid (sk.keep HXz_s.out fun b hb' => hbz.block b (Nat.lt_of_lt_of_le hb' HXz_s_s.out))); (have HXz_s_s := Lib.hid (Nat.le_trans HXz_s_s.out hbz.size)); (have OX_s := Lib.hid (sk.okeep OX_s.out fun b hb' => hbz.block b (sk.olt OX_s.out b hb'))); (have OG := Lib.hid (sk.okeep OG.out fun b hb' => hbz.block b (sk.olt OG.out b hb'))); (have KP_s := Lib.hid (KP_s.out.bel hbz)); (have KW := Lib.hid (KW.out.bel hbz)); (have KX_s := Lib.hid (KX_s.out.bel hbz)); (have KG := Lib.hid (KG.out.bel hbz)); (have HT28 := Lib.hid (below_step HT26.out hbz))))
      clear hbz
      have hcn_s := Pl.ctopSketch_nn s
      have hcb_s : Pl.ctopSketch s ≤ 50000000 := by have := Pl.ctopbSketch s; omega
      have c30_KX_s_0 := KX_s.out.cell (i := 0) rfl
      have c30_KX_s_1 := KX_s.out.cell (i := 1) rfl
      go_wp2_with fail
      refine (markSketch_c s _ _ _ _ OX_s.out ND12.out (by omega) (by omega)).mono ?_
      rintro e v29 ⟨rfl, hch, -⟩
      have HR_s := Lib.hid (sk.keep HR_s.out fun b hb' => hch.block b (Nat.lt_of_lt_of_le hb' HB_s.out) (fun hm => by have := AP12_HR_s.out b hm; omega))
      have HB_s := Lib.hid (Nat.le_trans HB_s.out hch.size)
      have HW0 := Lib.hid (sk.keep HW0.out fun b hb' => hch.block b (Nat.lt_of_lt_of_le hb' HW0_s.out) (fun hm => by have := AP12_HW0.out b hm; omega))
      have HW0_s := Lib.hid (Nat.le_trans HW0_s.out hch.size)
      have OG := Lib.hid (sk.okeep OG.out fun b hb' => hch.block b (sk.olt OG.out b hb') (fun hm => DP16_OX_s.out b hb' hm))
      have KP_s := Lib.hid (KP_s.out.keep (hch.block _ KP_s.out.lt (NB12_KP_s.out)))
      have KW := Lib.hid (KW.out.keep (hch.block _ KW.out.lt (NB12_KW.out)))
      have KX_s := Lib.hid (KX_s.out.keep (hch.block _ KX_s.out.lt (NIKX_s_fp12.out)))
      have KG := Lib.hid (KG.out.keep (hch.block _ KG.out.lt (NIKG_fp12.out)))
      have HT31 := Lib.hid (Mm.Below.chg HT28.out hch HT28.out.size FR12.out)
      clear hch
      have c32_KP_s_0 := KP_s.out.cell (i := 0) rfl
      have c32_KP_s_1 := KP_s.out.cell (i := 1) rfl
      have c32_KW_0 := KW.out.cell (i := 0) rfl
      have c32_KW_1 := KW.out.cell (i := 1) rfl
      have c32_KX_s_0 := KX_s.out.cell (i := 0) rfl
      have c32_KX_s_1 := KX_s.out.cell (i := 1) rfl
      have c32_KG_0 := KG.out.cell (i := 0) rfl
      have c32_KG_1 := KG.out.cell (i := 1) rfl
      go_wp2_with fail
      refine (eqSketch_at (Pl.addSketch s name many).1 _ _ _ _ (sk.weak OG.out (B := _) (sk.olt OG.out)) (sk.more HW0.out HW0_s.out) (Nat.le_refl _)).mono ?_
      rintro e v33 ⟨rfl, hbz⟩
      have HR_s := Lib.hid (sk.keep HR_s.out fun b hb' => hbz.block b (Nat.lt_of_lt_of_le hb' HB_s.out))
      have HB_s := Lib.hid (Nat.le_trans HB_s.out hbz.size)
      have HW0 := Lib.hid (sk.keep HW0.out fun b hb' => hbz.block b (Nat.lt_of_lt_of_le hb' HW0_s.out))
      have HW0_s := Lib.hid (Nat.le_trans HW0_s.out hbz.size)
      have OG := Lib.hid (sk.okeep OG.out fun b hb' => hbz.block b (sk.olt OG.out b hb'))
      have KP_s := Lib.hid (KP_s.out.bel hbz)
      have KW := Lib.hid (KW.out.bel hbz)
      have KX_s := Lib.hid (KX_s.out.bel hbz)
      have KG := Lib.hid (KG.out.bel hbz)
      have HT34 := Lib.hid (below_step HT31.out hbz)
      clear hbz
      have hcg : 0 ≤ Pl.ctopSketch (Pl.addSketch s name many).1 := Pl.ctopSketch_nn (Pl.addSketch s name many).1
      have hcgb : Pl.ctopSketch (Pl.addSketch s name many).1 ≤ 50000000 := (addSketch_cnt s name many)
      obtain ⟨cg, hcge⟩ : ∃ z, Pl.ctopSketch (Pl.addSketch s name many).1 = z := ⟨_, rfl⟩
      rw [hcge] at hcg hcgb
      have HCG := Lib.hid hcge
      clear hcge
      have c35_KG_0 := KG.out.cell (i := 0) rfl
      have c35_KG_1 := KG.out.cell (i := 1) rfl
      go_wp2_with fail
      refine (markSketch_c (Pl.addSketch s name many).1 _ _ _ _ OG.out ND16.out (by omega) (by rw [HCG.out]; omega)).mono ?_
      rintro e v36 ⟨rfl, hch, fpm, hom, hndm, hsubm⟩
      rw [HCG.out]
      have HR_s := Lib.hid (sk.keep HR_s.out fun b hb' => hch.block b (Nat.lt_of_lt_of_le hb' HB_s.out) (fun hm => by have := AP16_HR_s.out b hm; omega))
      have HB_s := Lib.hid (Nat.le_trans HB_s.out hch.size)
      have HW0 := Lib.hid (sk.keep HW0.out fun b hb' => hch.block b (Nat.lt_of_lt_of_le hb' HW0_s.out) (fun hm => by have := AP16_HW0.out b hm; omega))
      have HW0_s := Lib.hid (Nat.le_trans HW0_s.out hch.size)
      have KP_s := Lib.hid (KP_s.out.keep (hch.block _ KP_s.out.lt (NB16_KP_s.out)))
      have KW := Lib.hid (KW.out.keep (hch.block _ KW.out.lt (NB16_KW.out)))
      have KX_s := Lib.hid (KX_s.out.keep (hch.block _ KX_s.out.lt (NB16_KX_s.out)))
      have KG := Lib.hid (KG.out.keep (hch.block _ KG.out.lt (NIKG_fp16.out)))
      have HT37 := Lib.hid (Mm.Below.chg HT34.out hch HT34.out.size FR16.out)
      clear hch
      have OM := Lib.hid hom
      clear hom hndm hsubm
      have c38_KG_0 := KG.out.cell (i := 0) rfl
      have c38_KG_1 := KG.out.cell (i := 1) rfl
      go_wp2_with fail
      refine (heldSketch_c (Pl.addSketch s name many).1 _ _ _ _ (sk.weak OM.out (B := _) (sk.olt OM.out)) (Nat.le_refl _) (by omega) (by rw [HCG.out]; omega)).mono ?_
      rintro e v39 ⟨rfl, hbz⟩
      rw [HCG.out]
      have HR_s := Lib.hid (sk.keep HR_s.out fun b hb' => hbz.block b (Nat.lt_of_lt_of_le hb' HB_s.out))
      have HB_s := Lib.hid (Nat.le_trans HB_s.out hbz.size)
      have HW0 := Lib.hid (sk.keep HW0.out fun b hb' => hbz.block b (Nat.lt_of_lt_of_le hb' HW0_s.out))
      have HW0_s := Lib.hid (Nat.le_trans HW0_s.out hbz.size)
      have OM := Lib.hid (sk.okeep OM.out fun b hb' => hbz.block b (sk.olt OM.out b hb'))
      have KP_s := Lib.hid (KP_s.out.bel hbz)
      have KW := Lib.hid (KW.out.bel hbz)
      have KX_s := Lib.hid (KX_s.out.bel hbz)
      have KG := Lib.hid (KG.out.bel hbz)
      have HT40 := Lib.hid (below_step HT37.out hbz)
      clear hbz
      have c41_KP_s_0 := KP_s.out.cell (i := 0) rfl
      have c41_KP_s_1 := KP_s.out.cell (i := 1) rfl
      go_wp2_with fail
      refine (toSketch_at s _ _ w.heap.size HR_s.out HB_s.out (by omega)).mono ?_
      rintro e v42 ⟨cs42, fp42, rfl, ho42, hnd42, hf42, hbz⟩
      obtain ⟨A_42, n_42, c_42, _, rfl, -⟩ := sk_own ho42
      have HR_s := Lib.hid (sk.keep HR_s.out fun b hb' => hbz.block b (Nat.lt_of_lt_of_le hb' HB_s.out))
      have HB_s := Lib.hid (Nat.le_trans HB_s.out hbz.size)
      have HW0 := Lib.hid (sk.keep HW0.out fun b hb' => hbz.block b (Nat.lt_of_lt_of_le hb' HW0_s.out))
      have HW0_s := Lib.hid (Nat.le_trans HW0_s.out hbz.size)
      have OM := Lib.hid (sk.okeep OM.out fun b hb' => hbz.block b (sk.olt OM.out b hb'))
      have KP_s := Lib.hid (KP_s.out.bel hbz)
      have KW := Lib.hid (KW.out.bel hbz)
      have KX_s := Lib.hid (KX_s.out.bel hbz)
      have KG := Lib.hid (KG.out.bel hbz)
      have HT43 := Lib.hid (below_step HT40.out hbz)
      have HXh_s := Lib.hid (sk.weak ho42 (B := v42.heap.size) (sk.olt ho42))
      have HXh_s_s := Lib.hid (Nat.le_refl v42.heap.size)
      clear ho42 hnd42 hf42
      clear hbz
      go_wp2_with fail
      refine (implAddSketch_c s _ name many _ _ (sk.more HXh_s.out HXh_s_s.out) (Nat.le_refl _) hsname).mono ?_
      rintro e v44 ⟨cs44, fp44, rfl, ho44, hnd44, hf44, hbz⟩
      obtain ⟨A_44, n_44, c_44, _, rfl, -⟩ := sk_own ho44
      have HR_s := Lib.hid (sk.keep HR_s.out fun b hb' => hbz.block b (Nat.lt_of_lt_of_le hb' HB_s.out))
      have HB_s := Lib.hid (Nat.le_trans HB_s.out hbz.size)
      have HW0 := Lib.hid (sk.keep HW0.out fun b hb' => hbz.block b (Nat.lt_of_lt_of_le hb' HW0_s.out))
      have HW0_s := Lib.hid (Nat.le_trans HW0_s.out hbz.size)
      have HXh_s := Lib.hid (sk.keep HXh_s.out fun b hb' => hbz.block b (Nat.lt_of_lt_of_le hb' HXh_s_s.out))
      have HXh_s_s := Lib.hid (Nat.le_trans HXh_s_s.out hbz.size)
      have OM := Lib.hid (sk.okeep OM.out fun b hb' => hbz.block b (sk.olt OM.out b hb'))
      have KP_s := Lib.hid (KP_s.out.bel hbz)
      have KW := Lib.hid (KW.out.bel hbz)
      have KX_s := Lib.hid (KX_s.out.bel hbz)
      have KG := Lib.hid (KG.out.bel hbz)
      have HT45 := Lib.hid (below_step HT43.out hbz)
      have HH := Lib.hid (sk.weak ho44 (B := v44.heap.size) (sk.olt ho44))
      have HH_s := Lib.hid (Nat.le_refl v44.heap.size)
      clear ho44 hnd44 hf44
      clear hbz
      have hbx : Below v44.heap.size v44 (v44.alloc (.cells #[.slice A_44 n_44 c_44, .int .i64 (Pl.addSketch s name many).1.Total] 27)) := below_new (Below.refl _ _) _
      have HR_s := Lib.hid (sk.keep HR_s.out fun b hb' => hbx.block b (Nat.lt_of_lt_of_le hb' HB_s.out))
      have HB_s := Lib.hid (Nat.le_trans HB_s.out hbx.size)
      have HW0 := Lib.hid (sk.keep HW0.out fun b hb' => hbx.block b (Nat.lt_of_lt_of_le hb' HW0_s.out))
      have HW0_s := Lib.hid (Nat.le_trans HW0_s.out hbx.size)
      have HH := Lib.hid (sk.keep HH.out fun b hb' => hbx.block b (Nat.lt_of_lt_of_le hb' HH_s.out))
      have HH_s := Lib.hid (Nat.le_trans HH_s.out hbx.size)
      have OM := Lib.hid (sk.okeep OM.out fun b hb' => hbx.block b (sk.olt OM.out b hb'))
      have KP_s := Lib.hid (KP_s.out.bel hbx)
      have KW := Lib.hid (KW.out.bel hbx)
      have KX_s := Lib.hid (KX_s.out.bel hbx)
      have KG := Lib.hid (KG.out.bel hbx)
      have HT46 := Lib.hid (below_step HT45.out hbx)
      clear hbx
      have KH := Lib.hid (Mm.Blk.new v44 27 [.slice A_44 n_44 c_44, .int .i64 (Pl.addSketch s name many).1.Total])
      have c47_KW_0 := KW.out.cell (i := 0) rfl
      have c47_KW_1 := KW.out.cell (i := 1) rfl
      have c47_KH_0 := KH.out.cell (i := 0) rfl
      have c47_KH_1 := KH.out.cell (i := 1) rfl
      go_wp2_with fail
      refine (eqSketch_at (Pl.addSketch s name many).1 _ _ _ _ (sk.more HH.out HH_s.out) (sk.more HW0.out HW0_s.out) (Nat.le_refl _)).mono ?_
      rintro e v48 ⟨rfl, hbz⟩
      have HR_s := Lib.hid (sk.keep HR_s.out fun b hb' => hbz.block b (Nat.lt_of_lt_of_le hb' HB_s.out))
      have HB_s := Lib.hid (Nat.le_trans HB_s.out hbz.size)
      have HW0 := Lib.hid (sk.keep HW0.out fun b hb' => hbz.block b (Nat.lt_of_lt_of_le hb' HW0_s.out))
      have HW0_s := Lib.hid (Nat.le_trans HW0_s.out hbz.size)
      have HH := Lib.hid (sk.keep HH.out fun b hb' => hbz.block b (Nat.lt_of_lt_of_le hb' HH_s.out))
      have HH_s := Lib.hid (Nat.le_trans HH_s.out hbz.size)
      have OM := Lib.hid (sk.okeep OM.out fun b hb' => hbz.block b (sk.olt OM.out b hb'))
      have KP_s := Lib.hid (KP_s.out.bel hbz)
      have KW := Lib.hid (KW.out.bel hbz)
      have KX_s := Lib.hid (KX_s.out.bel hbz)
      have KG := Lib.hid (KG.out.bel hbz)
      have KH := Lib.hid (KH.out.bel hbz)
      have HT49 := Lib.hid (below_step HT46.out hbz)
      clear hbz
      have c50_KG_0 := KG.out.cell (i := 0) rfl
      have c50_KG_1 := KG.out.cell (i := 1) rfl
      go_wp2_with fail
      refine (heldSketch_c (Pl.addSketch s name many).1 _ _ _ _ (sk.weak OM.out (B := _) (sk.olt OM.out)) (Nat.le_refl _) (by omega) (by rw [HCG.out]; omega)).mono ?_
      rintro e v51 ⟨rfl, hbz⟩
      rw [HCG.out]
      have HR_s := Lib.hid (sk.keep HR_s.out fun b hb' => hbz.block b (Nat.lt_of_lt_of_le hb' HB_s.out))
      have HB_s := Lib.hid (Nat.le_trans HB_s.out hbz.size)
      have HW0 := Lib.hid (sk.keep HW0.out fun b hb' => hbz.block b (Nat.lt_of_lt_of_le hb' HW0_s.out))
      have HW0_s := Lib.hid (Nat.le_trans HW0_s.out hbz.size)
      have HH := Lib.hid (sk.keep HH.out fun b hb' => hbz.block b (Nat.lt_of_lt_of_le hb' HH_s.out))
      have HH_s := Lib.hid (Nat.le_trans HH_s.out hbz.size)
      have OM := Lib.hid (sk.okeep OM.out fun b hb' => hbz.block b (sk.olt OM.out b hb'))
      have KP_s := Lib.hid (KP_s.out.bel hbz)
      have KW := Lib.hid (KW.out.bel hbz)
      have KX_s := Lib.hid (KX_s.out.bel hbz)
      have KG := Lib.hid (KG.out.bel hbz)
      have KH := Lib.hid (KH.out.bel hbz)
      have HT52 := Lib.hid (below_step HT49.out hbz)
      clear hbz
      go_wp2
      go_ret
      exact ⟨rfl, HT52.out⟩
end Go.Proofs.Ytkedbbaphkcdjaa
