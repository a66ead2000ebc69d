/-
  The walk of the law on GuessOf. No conditions.
-/
import Derived.Test.YtkedbbaphkcdjaaWi
import Derived.Test.YtkedbbaphkcdjaaHe
import Derived.Test.YtkedbbaphkcdjaaHs
import Derived.Test.YtkedbbaphkcdjaaHt
namespace Go.Proofs.Ytkedbbaphkcdjaa
open Go.RowKit
set_option maxRecDepth 100000 in
set_option maxHeartbeats 4000000 in
theorem walk_FnExactGuessOf (cs_s : List Value) (s : Sketch) (name : ByteArray) (hsname : name.size ≤ maxLen) (w : World) (r_s : sk.at_ w w.heap.size s cs_s) :
    Calls Try.prog 4 #[.agg cs_s.toArray, .string name] w fun e w' => e = .returned (.bool true) ∧ Below w.heap.size w w' := by
  have hsname' := hsname
  unfold maxLen at hsname'
  have hopen_s := sk_at r_s
  obtain ⟨A_s, n_s, c_s, rfl, -⟩ := hopen_s
  have zn_s := Pl.szSketch_nn s
  have HT0 := Lib.hid (show Below w.heap.size w (w.alloc (.cells #[.slice A_s n_s c_s, .int .i64 s.Total] 24)) from (below_new (Below.refl w.heap.size w) _))
  have KP_s := Lib.hid (show Mm.Blk (w.alloc (.cells #[.slice A_s n_s c_s, .int .i64 s.Total] 24)) w.heap.size 24 [.slice A_s n_s c_s, .int .i64 s.Total] from (Mm.Blk.new' w 24 [.slice A_s n_s c_s, .int .i64 s.Total] rfl))
  have HR_s := Lib.hid (sk.keep r_s fun b hb' => HT0.out.block b hb')
  have HB_s := Lib.hid HT0.out.size
  clear r_s
  by_cases t_name : (1048576 : Int) < (name.size : Int)
  · skip
    go_enter Try.func4, Try.ntmps4
    go_wp2
    go_ret
    exact ⟨rfl, HT0.out⟩
  · skip
    by_cases t_s : (1048576 - Pl.szSketch s : Int) < 0
    · skip
      go_enter Try.func4, Try.ntmps4
      go_wp2_with fail
      refine (szSketch_at s _ _ _ w.heap.size HR_s.out HB_s.out (by omega) (by omega)).mono ?_
      rintro e y1 ⟨rfl, hbz⟩
      rw [Pl.szRet_lt (by omega)]
      have HR_s := Lib.hid (sk.keep HR_s.out fun b hb' => hbz.block b (Nat.lt_of_lt_of_le hb' HB_s.out))
      have HB_s := Lib.hid (Nat.le_trans HB_s.out hbz.size)
      have KP_s := Lib.hid (KP_s.out.bel hbz)
      have HT2 := Lib.hid (below_step HT0.out hbz)
      clear hbz
      go_wp2
      go_ret
      exact ⟨rfl, HT2.out⟩
    · skip
      go_enter Try.func4, Try.ntmps4
      go_wp2_with fail
      refine (szSketch_at s _ _ _ w.heap.size HR_s.out HB_s.out (by omega) (by omega)).mono ?_
      rintro e y3 ⟨rfl, hbz⟩
      rw [Pl.szRet_ge (by omega)]
      have HR_s := Lib.hid (sk.keep HR_s.out fun b hb' => hbz.block b (Nat.lt_of_lt_of_le hb' HB_s.out))
      have HB_s := Lib.hid (Nat.le_trans HB_s.out hbz.size)
      have KP_s := Lib.hid (KP_s.out.bel hbz)
      have HT4 := Lib.hid (below_step HT0.out hbz)
      clear hbz
      have c5_KP_s_0 := KP_s.out.cell (i := 0) rfl
      have c5_KP_s_1 := KP_s.out.cell (i := 1) rfl
      go_wp2_with fail
      refine (toSketch_at s _ _ w.heap.size HR_s.out HB_s.out (by omega)).mono ?_
      rintro e v6 ⟨cs6, fp6, rfl, ho6, hnd6, hf6, hbz⟩
      obtain ⟨A_6, n_6, c_6, _, rfl, -⟩ := sk_own ho6
      have HR_s := Lib.hid (sk.keep HR_s.out fun b hb' => hbz.block b (Nat.lt_of_lt_of_le hb' HB_s.out))
      have HB_s := Lib.hid (Nat.le_trans HB_s.out hbz.size)
      have KP_s := Lib.hid (KP_s.out.bel hbz)
      have HT7 := Lib.hid (below_step HT4.out hbz)
      have HXs_s := Lib.hid (sk.weak ho6 (B := v6.heap.size) (sk.olt ho6))
      have HXs_s_s := Lib.hid (Nat.le_refl v6.heap.size)
      clear ho6 hnd6 hf6
      clear hbz
      go_wp2_with fail
      refine (specGuessOf_c s _ name _ _ (sk.more HXs_s.out HXs_s_s.out) (Nat.le_refl _) hsname).mono ?_
      rintro e v8 ⟨rfl, hbz⟩
      try unfold Pl.ret2
      have HR_s := Lib.hid (sk.keep HR_s.out fun b hb' => hbz.block b (Nat.lt_of_lt_of_le hb' HB_s.out))
      have HB_s := Lib.hid (Nat.le_trans HB_s.out hbz.size)
      have HXs_s := Lib.hid (sk.keep HXs_s.out fun b hb' => hbz.block b (Nat.lt_of_lt_of_le hb' HXs_s_s.out))
      have HXs_s_s := Lib.hid (Nat.le_trans HXs_s_s.out hbz.size)
      have KP_s := Lib.hid (KP_s.out.bel hbz)
      have HT9 := Lib.hid (below_step HT7.out hbz)
      clear hbz
      have c10_KP_s_0 := KP_s.out.cell (i := 0) rfl
      have c10_KP_s_1 := KP_s.out.cell (i := 1) rfl
      go_wp2_with fail
      refine (toSketch_at s _ _ w.heap.size HR_s.out HB_s.out (by omega)).mono ?_
      rintro e v11 ⟨cs11, fp11, rfl, ho11, hnd11, hf11, hbz⟩
      obtain ⟨A_11, n_11, c_11, _, rfl, -⟩ := sk_own ho11
      have HR_s := Lib.hid (sk.keep HR_s.out fun b hb' => hbz.block b (Nat.lt_of_lt_of_le hb' HB_s.out))
      have HB_s := Lib.hid (Nat.le_trans HB_s.out hbz.size)
      have KP_s := Lib.hid (KP_s.out.bel hbz)
      have HT12 := Lib.hid (below_step HT9.out hbz)
      have HXx_s := Lib.hid (sk.weak ho11 (B := v11.heap.size) (sk.olt ho11))
      have HXx_s_s := Lib.hid (Nat.le_refl v11.heap.size)
      clear ho11 hnd11 hf11
      clear hbz
      have hbx : Below v11.heap.size v11 (v11.alloc (.cells #[.slice A_11 n_11 c_11, .int .i64 s.Total] 27)) := below_new (Below.refl _ _) _
      have HR_s := Lib.hid (sk.keep HR_s.out fun b hb' => hbx.block b (Nat.lt_of_lt_of_le hb' HB_s.out))
      have HB_s := Lib.hid (Nat.le_trans HB_s.out hbx.size)
      have HXx_s := Lib.hid (sk.keep HXx_s.out fun b hb' => hbx.block b (Nat.lt_of_lt_of_le hb' HXx_s_s.out))
      have HXx_s_s := Lib.hid (Nat.le_trans HXx_s_s.out hbx.size)
      have KP_s := Lib.hid (KP_s.out.bel hbx)
      have HT13 := Lib.hid (below_step HT12.out hbx)
      clear hbx
      have KX_s := Lib.hid (Mm.Blk.new v11 27 [.slice A_11 n_11 c_11, .int .i64 s.Total])
      have c14_KX_s_0 := KX_s.out.cell (i := 0) rfl
      have c14_KX_s_1 := KX_s.out.cell (i := 1) rfl
      go_wp2_with fail
      refine (implGuessOf_c s _ name _ _ (sk.more HXx_s.out HXx_s_s.out) (Nat.le_refl _) hsname).mono ?_
      rintro e v15 ⟨rfl, hbz⟩
      try unfold Pl.ret2
      have HR_s := Lib.hid (sk.keep HR_s.out fun b hb' => hbz.block b (Nat.lt_of_lt_of_le hb' HB_s.out))
      have HB_s := Lib.hid (Nat.le_trans HB_s.out hbz.size)
      have HXx_s := Lib.hid (sk.keep HXx_s.out fun b hb' => hbz.block b (Nat.lt_of_lt_of_le hb' HXx_s_s.out))
      have HXx_s_s := Lib.hid (Nat.le_trans HXx_s_s.out hbz.size)
      have KP_s := Lib.hid (KP_s.out.bel hbz)
      have KX_s := Lib.hid (KX_s.out.bel hbz)
      have HT16 := Lib.hid (below_step HT13.out hbz)
      clear hbz
      have c17_KP_s_0 := KP_s.out.cell (i := 0) rfl
      have c17_KP_s_1 := KP_s.out.cell (i := 1) rfl
      have c17_KX_s_0 := KX_s.out.cell (i := 0) rfl
      have c17_KX_s_1 := KX_s.out.cell (i := 1) rfl
      go_wp2_with fail
      have hdr := (Below.refl v15.heap.size v15).drew
      have HR_s := Lib.hid (sk.keep HR_s.out fun b hb' => hdr.block b (Nat.lt_of_lt_of_le hb' HB_s.out))
      have HB_s := Lib.hid (Nat.le_trans HB_s.out hdr.size)
      have HXx_s := Lib.hid (sk.keep HXx_s.out fun b hb' => hdr.block b (Nat.lt_of_lt_of_le hb' HXx_s_s.out))
      have HXx_s_s := Lib.hid (Nat.le_trans HXx_s_s.out hdr.size)
      have KP_s := Lib.hid (KP_s.out.bel hdr)
      have KX_s := Lib.hid (KX_s.out.bel hdr)
      have HT18 := Lib.hid (below_step HT16.out hdr)
      clear hdr
      have c19_KP_s_0 := KP_s.out.cell (i := 0) rfl
      have c19_KP_s_1 := KP_s.out.cell (i := 1) rfl
      have c19_KX_s_0 := KX_s.out.cell (i := 0) rfl
      have c19_KX_s_1 := KX_s.out.cell (i := 1) rfl
      go_region_held3 (fun wx => wx.cell? ⟨w.heap.size, 0, none⟩ = some (.slice A_s n_s c_s) ∧ wx.cell? ⟨w.heap.size, 1, none⟩ = some (.int .i64 s.Total) ∧ wx.cell? ⟨v11.heap.size, 0, none⟩ = some (.slice A_11 n_11 c_11) ∧ wx.cell? ⟨v11.heap.size, 1, none⟩ = some (.int .i64 s.Total))
        (first | (go_keep; done) | ((try dsimp only); go_split_ands; refine ⟨?_, ?_, ?_, ?_⟩ <;> first | (exact below_some hbz (by assumption)) | (go_keep; done) | (simp [World.cell?_alloc_some, World.cell?_setCell_far, *]; done)))
        (first
          | (go_at_call 11; (with_reducible refine (toSketch_at s _ _ w.heap.size HR_s.out HB_s.out (by omega)).mono ?_); rintro e v20 ⟨cs20, fp20, rfl, ho20, hnd20, hf20, hbz⟩; obtain ⟨A_20, n_20, c_20, _, rfl, -⟩ := sk_own ho20; (have HR_s := Lib.hid (sk.keep HR_s.out fun b hb' => hbz.block b (Nat.lt_of_lt_of_le hb' HB_s.out))); (have HB_s := Lib.hid (Nat.le_trans HB_s.out hbz.size)); (have HXx_s := Lib.hid (sk.keep HXx_s.out fun b hb' => hbz.block b (Nat.lt_of_lt_of_le hb' HXx_s_s.out))); (have HXx_s_s := Lib.hid (Nat.le_trans HXx_s_s.out hbz.size)); (have KP_s := Lib.hid (KP_s.out.bel hbz)); (have KX_s := Lib.hid (KX_s.out.bel hbz)); (have HT21 := Lib.hid (below_step HT18.out hbz)); (have HXz_s := Lib.hid (sk.weak ho20 (B := v20.heap.size) (sk.olt ho20))); (have HXz_s_s := Lib.hid (Nat.le_refl v20.heap.size)); clear ho20 hnd20 hf20)
          | (go_at_call 13; (with_reducible refine (eqSketch_at s _ _ _ v20.heap.size (sk.more HXx_s.out HXx_s_s.out) HXz_s.out (Nat.le_refl _)).mono ?_); rintro e v22 ⟨rfl, hbz⟩; (have HR_s := Lib.hid (sk.keep HR_s.out fun b hb' => hbz.block b (Nat.lt_of_lt_of_le hb' HB_s.out))); (have HB_s := Lib.hid (Nat.le_trans HB_s.out hbz.size)); (have HXx_s := Lib.hid (sk.keep HXx_s.out fun b hb' => hbz.block b (Nat.lt_of_lt_of_le hb' HXx_s_s.out))); (have HXx_s_s := Lib.hid (Nat.le_trans HXx_s_s.out hbz.size)); (have HXz_s := Lib.hid (sk.keep HXz_s.out fun b hb' => hbz.block b (Nat.lt_of_lt_of_le hb' HXz_s_s.out))); (have HXz_s_s := Lib.hid (Nat.le_trans HXz_s_s.out hbz.size)); (have KP_s := Lib.hid (KP_s.out.bel hbz)); (have KX_s := Lib.hid (KX_s.out.bel hbz)); (have HT23 := Lib.hid (below_step HT21.out hbz))))
      clear hbz
      go_wp2
      go_ret
      exact ⟨rfl, HT23.out⟩
end Go.Proofs.Ytkedbbaphkcdjaa
