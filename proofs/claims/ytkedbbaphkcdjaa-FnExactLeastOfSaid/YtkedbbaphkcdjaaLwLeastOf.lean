/-
  The walk of the law on LeastOf. No conditions.
-/
import Derived.Test.YtkedbbaphkcdjaaWi
import Derived.Test.YtkedbbaphkcdjaaHe
import Derived.Test.YtkedbbaphkcdjaaHs
import Derived.Test.YtkedbbaphkcdjaaHt
namespace Go.Proofs.Ytkedbbaphkcdjaa
open Go.RowKit
set_option maxRecDepth 100000 in
set_option maxHeartbeats 4000000 in
theorem walk_FnExactLeastOf (cs_h : List Value) (h : Heavy) (name : ByteArray) (hsname : name.size ≤ maxLen) (w : World) (r_h : rHeavy.at_ w w.heap.size h cs_h) :
    Calls Try.prog 8 #[.agg cs_h.toArray, .string name] w fun e w' => e = .returned (.bool true) ∧ Below w.heap.size w w' := by
  have hsname' := hsname
  unfold maxLen at hsname'
  have hopen_h := rHeavy_at r_h
  obtain ⟨A0_h, n0_h, c0_h, A1_h, n1_h, c1_h, rfl, -⟩ := hopen_h
  have zn_h := Pl.szHeavy_nn h
  have HT0 := Lib.hid (show Below w.heap.size w (w.alloc (.cells #[.slice A0_h n0_h c0_h, .slice A1_h n1_h c1_h, .int .i64 h.Gone, .int .i64 h.Total] 43)) from (below_new (Below.refl w.heap.size w) _))
  have KP_h := Lib.hid (show Mm.Blk (w.alloc (.cells #[.slice A0_h n0_h c0_h, .slice A1_h n1_h c1_h, .int .i64 h.Gone, .int .i64 h.Total] 43)) w.heap.size 43 [.slice A0_h n0_h c0_h, .slice A1_h n1_h c1_h, .int .i64 h.Gone, .int .i64 h.Total] from (Mm.Blk.new' w 43 [.slice A0_h n0_h c0_h, .slice A1_h n1_h c1_h, .int .i64 h.Gone, .int .i64 h.Total] rfl))
  have HR_h := Lib.hid (rHeavy.keep r_h fun b hb' => HT0.out.block b hb')
  have HB_h := Lib.hid HT0.out.size
  clear r_h
  by_cases t_name : (1048576 : Int) < (name.size : Int)
  · skip
    go_enter Try.func8, Try.ntmps8
    go_wp2
    go_ret
    exact ⟨rfl, HT0.out⟩
  · skip
    by_cases t_h : (1048576 - Pl.szHeavy h : Int) < 0
    · skip
      go_enter Try.func8, Try.ntmps8
      go_wp2_with fail
      refine (szHeavy_at h _ _ _ w.heap.size HR_h.out HB_h.out (by omega) (by omega)).mono ?_
      rintro e y1 ⟨rfl, hbz⟩
      rw [Pl.szRet_lt (by omega)]
      have HR_h := Lib.hid (rHeavy.keep HR_h.out fun b hb' => hbz.block b (Nat.lt_of_lt_of_le hb' HB_h.out))
      have HB_h := Lib.hid (Nat.le_trans HB_h.out hbz.size)
      have KP_h := Lib.hid (KP_h.out.bel hbz)
      have HT2 := Lib.hid (below_step HT0.out hbz)
      clear hbz
      go_wp2
      go_ret
      exact ⟨rfl, HT2.out⟩
    · skip
      go_enter Try.func8, Try.ntmps8
      go_wp2_with fail
      refine (szHeavy_at h _ _ _ w.heap.size HR_h.out HB_h.out (by omega) (by omega)).mono ?_
      rintro e y3 ⟨rfl, hbz⟩
      rw [Pl.szRet_ge (by omega)]
      have HR_h := Lib.hid (rHeavy.keep HR_h.out fun b hb' => hbz.block b (Nat.lt_of_lt_of_le hb' HB_h.out))
      have HB_h := Lib.hid (Nat.le_trans HB_h.out hbz.size)
      have KP_h := Lib.hid (KP_h.out.bel hbz)
      have HT4 := Lib.hid (below_step HT0.out hbz)
      clear hbz
      have c5_KP_h_0 := KP_h.out.cell (i := 0) rfl
      have c5_KP_h_1 := KP_h.out.cell (i := 1) rfl
      have c5_KP_h_2 := KP_h.out.cell (i := 2) rfl
      have c5_KP_h_3 := KP_h.out.cell (i := 3) rfl
      go_wp2_with fail
      refine (toHeavy_at h _ _ w.heap.size HR_h.out HB_h.out (by omega)).mono ?_
      rintro e v6 ⟨cs6, fp6, rfl, ho6, hnd6, hf6, hbz⟩
      obtain ⟨A0_6, n0_6, c0_6, A1_6, n1_6, c1_6, _, _, rfl, -⟩ := rHeavy_own ho6
      have HR_h := Lib.hid (rHeavy.keep HR_h.out fun b hb' => hbz.block b (Nat.lt_of_lt_of_le hb' HB_h.out))
      have HB_h := Lib.hid (Nat.le_trans HB_h.out hbz.size)
      have KP_h := Lib.hid (KP_h.out.bel hbz)
      have HT7 := Lib.hid (below_step HT4.out hbz)
      have HXs_h := Lib.hid (rHeavy.weak ho6 (B := v6.heap.size) (rHeavy.olt ho6))
      have HXs_h_s := Lib.hid (Nat.le_refl v6.heap.size)
      clear ho6 hnd6 hf6
      clear hbz
      go_wp2_with fail
      refine (specLeastOf_c h _ name _ _ (rHeavy.more HXs_h.out HXs_h_s.out) (Nat.le_refl _) hsname).mono ?_
      rintro e v8 ⟨rfl, hbz⟩
      try unfold Pl.ret3
      have HR_h := Lib.hid (rHeavy.keep HR_h.out fun b hb' => hbz.block b (Nat.lt_of_lt_of_le hb' HB_h.out))
      have HB_h := Lib.hid (Nat.le_trans HB_h.out hbz.size)
      have HXs_h := Lib.hid (rHeavy.keep HXs_h.out fun b hb' => hbz.block b (Nat.lt_of_lt_of_le hb' HXs_h_s.out))
      have HXs_h_s := Lib.hid (Nat.le_trans HXs_h_s.out hbz.size)
      have KP_h := Lib.hid (KP_h.out.bel hbz)
      have HT9 := Lib.hid (below_step HT7.out hbz)
      clear hbz
      have c10_KP_h_0 := KP_h.out.cell (i := 0) rfl
      have c10_KP_h_1 := KP_h.out.cell (i := 1) rfl
      have c10_KP_h_2 := KP_h.out.cell (i := 2) rfl
      have c10_KP_h_3 := KP_h.out.cell (i := 3) rfl
      go_wp2_with fail
      refine (toHeavy_at h _ _ w.heap.size HR_h.out HB_h.out (by omega)).mono ?_
      rintro e v11 ⟨cs11, fp11, rfl, ho11, hnd11, hf11, hbz⟩
      obtain ⟨A0_11, n0_11, c0_11, A1_11, n1_11, c1_11, _, _, rfl, -⟩ := rHeavy_own ho11
      have HR_h := Lib.hid (rHeavy.keep HR_h.out fun b hb' => hbz.block b (Nat.lt_of_lt_of_le hb' HB_h.out))
      have HB_h := Lib.hid (Nat.le_trans HB_h.out hbz.size)
      have KP_h := Lib.hid (KP_h.out.bel hbz)
      have HT12 := Lib.hid (below_step HT9.out hbz)
      have HXx_h := Lib.hid (rHeavy.weak ho11 (B := v11.heap.size) (rHeavy.olt ho11))
      have HXx_h_s := Lib.hid (Nat.le_refl v11.heap.size)
      clear ho11 hnd11 hf11
      clear hbz
      have hbx : Below v11.heap.size v11 (v11.alloc (.cells #[.slice A0_11 n0_11 c0_11, .slice A1_11 n1_11 c1_11, .int .i64 h.Gone, .int .i64 h.Total] 46)) := below_new (Below.refl _ _) _
      have HR_h := Lib.hid (rHeavy.keep HR_h.out fun b hb' => hbx.block b (Nat.lt_of_lt_of_le hb' HB_h.out))
      have HB_h := Lib.hid (Nat.le_trans HB_h.out hbx.size)
      have HXx_h := Lib.hid (rHeavy.keep HXx_h.out fun b hb' => hbx.block b (Nat.lt_of_lt_of_le hb' HXx_h_s.out))
      have HXx_h_s := Lib.hid (Nat.le_trans HXx_h_s.out hbx.size)
      have KP_h := Lib.hid (KP_h.out.bel hbx)
      have HT13 := Lib.hid (below_step HT12.out hbx)
      clear hbx
      have KX_h := Lib.hid (Mm.Blk.new v11 46 [.slice A0_11 n0_11 c0_11, .slice A1_11 n1_11 c1_11, .int .i64 h.Gone, .int .i64 h.Total])
      have c14_KX_h_0 := KX_h.out.cell (i := 0) rfl
      have c14_KX_h_1 := KX_h.out.cell (i := 1) rfl
      have c14_KX_h_2 := KX_h.out.cell (i := 2) rfl
      have c14_KX_h_3 := KX_h.out.cell (i := 3) rfl
      go_wp2_with fail
      refine (implLeastOf_c h _ name _ _ (rHeavy.more HXx_h.out HXx_h_s.out) (Nat.le_refl _) hsname).mono ?_
      rintro e v15 ⟨rfl, hbz⟩
      try unfold Pl.ret3
      have HR_h := Lib.hid (rHeavy.keep HR_h.out fun b hb' => hbz.block b (Nat.lt_of_lt_of_le hb' HB_h.out))
      have HB_h := Lib.hid (Nat.le_trans HB_h.out hbz.size)
      have HXx_h := Lib.hid (rHeavy.keep HXx_h.out fun b hb' => hbz.block b (Nat.lt_of_lt_of_le hb' HXx_h_s.out))
      have HXx_h_s := Lib.hid (Nat.le_trans HXx_h_s.out hbz.size)
      have KP_h := Lib.hid (KP_h.out.bel hbz)
      have KX_h := Lib.hid (KX_h.out.bel hbz)
      have HT16 := Lib.hid (below_step HT13.out hbz)
      clear hbz
      have c17_KP_h_0 := KP_h.out.cell (i := 0) rfl
      have c17_KP_h_1 := KP_h.out.cell (i := 1) rfl
      have c17_KP_h_2 := KP_h.out.cell (i := 2) rfl
      have c17_KP_h_3 := KP_h.out.cell (i := 3) rfl
      have c17_KX_h_0 := KX_h.out.cell (i := 0) rfl
      have c17_KX_h_1 := KX_h.out.cell (i := 1) rfl
      have c17_KX_h_2 := KX_h.out.cell (i := 2) rfl
      have c17_KX_h_3 := KX_h.out.cell (i := 3) rfl
      go_wp2_with fail
      have hdr := (Below.refl v15.heap.size v15).drew
      have HR_h := Lib.hid (rHeavy.keep HR_h.out fun b hb' => hdr.block b (Nat.lt_of_lt_of_le hb' HB_h.out))
      have HB_h := Lib.hid (Nat.le_trans HB_h.out hdr.size)
      have HXx_h := Lib.hid (rHeavy.keep HXx_h.out fun b hb' => hdr.block b (Nat.lt_of_lt_of_le hb' HXx_h_s.out))
      have HXx_h_s := Lib.hid (Nat.le_trans HXx_h_s.out hdr.size)
      have KP_h := Lib.hid (KP_h.out.bel hdr)
      have KX_h := Lib.hid (KX_h.out.bel hdr)
      have HT18 := Lib.hid (below_step HT16.out hdr)
      clear hdr
      have c19_KP_h_0 := KP_h.out.cell (i := 0) rfl
      have c19_KP_h_1 := KP_h.out.cell (i := 1) rfl
      have c19_KP_h_2 := KP_h.out.cell (i := 2) rfl
      have c19_KP_h_3 := KP_h.out.cell (i := 3) rfl
      have c19_KX_h_0 := KX_h.out.cell (i := 0) rfl
      have c19_KX_h_1 := KX_h.out.cell (i := 1) rfl
      have c19_KX_h_2 := KX_h.out.cell (i := 2) rfl
      have c19_KX_h_3 := KX_h.out.cell (i := 3) rfl
      go_region_held3 (fun wx => wx.cell? ⟨w.heap.size, 0, none⟩ = some (.slice A0_h n0_h c0_h) ∧ wx.cell? ⟨w.heap.size, 1, none⟩ = some (.slice A1_h n1_h c1_h) ∧ wx.cell? ⟨w.heap.size, 2, none⟩ = some (.int .i64 h.Gone) ∧ wx.cell? ⟨w.heap.size, 3, none⟩ = some (.int .i64 h.Total) ∧ wx.cell? ⟨v11.heap.size, 0, none⟩ = some (.slice A0_11 n0_11 c0_11) ∧ wx.cell? ⟨v11.heap.size, 1, none⟩ = some (.slice A1_11 n1_11 c1_11) ∧ wx.cell? ⟨v11.heap.size, 2, none⟩ = some (.int .i64 h.Gone) ∧ wx.cell? ⟨v11.heap.size, 3, none⟩ = some (.int .i64 h.Total))
        (first | (go_keep; done) | ((try dsimp only); go_split_ands; refine ⟨?_, ?_, ?_, ?_, ?_, ?_, ?_, ?_⟩ <;> first | (exact below_some hbz (by assumption)) | (go_keep; done) | (simp [World.cell?_alloc_some, World.cell?_setCell_far, *]; done)))
        (first
          | (go_at_call 24; (with_reducible refine (toHeavy_at h _ _ w.heap.size HR_h.out HB_h.out (by omega)).mono ?_); rintro e v20 ⟨cs20, fp20, rfl, ho20, hnd20, hf20, hbz⟩; obtain ⟨A0_20, n0_20, c0_20, A1_20, n1_20, c1_20, _, _, rfl, -⟩ := rHeavy_own ho20; (have HR_h := Lib.hid (rHeavy.keep HR_h.out fun b hb' => hbz.block b (Nat.lt_of_lt_of_le hb' HB_h.out))); (have HB_h := Lib.hid (Nat.le_trans HB_h.out hbz.size)); (have HXx_h := Lib.hid (rHeavy.keep HXx_h.out fun b hb' => hbz.block b (Nat.lt_of_lt_of_le hb' HXx_h_s.out))); (have HXx_h_s := Lib.hid (Nat.le_trans HXx_h_s.out hbz.size)); (have KP_h := Lib.hid (KP_h.out.bel hbz)); (have KX_h := Lib.hid (KX_h.out.bel hbz)); (have HT21 := Lib.hid (below_step HT18.out hbz)); (have HXz_h := Lib.hid (rHeavy.weak ho20 (B := v20.heap.size) (rHeavy.olt ho20))); (have HXz_h_s := Lib.hid (Nat.le_refl v20.heap.size)); clear ho20 hnd20 hf20)
          | (go_at_call 26; (with_reducible refine (eqHeavy_at h _ _ _ v20.heap.size (rHeavy.more HXx_h.out HXx_h_s.out) HXz_h.out (Nat.le_refl _)).mono ?_); rintro e v22 ⟨rfl, hbz⟩; (have HR_h := Lib.hid (rHeavy.keep HR_h.out fun b hb' => hbz.block b (Nat.lt_of_lt_of_le hb' HB_h.out))); (have HB_h := Lib.hid (Nat.le_trans HB_h.out hbz.size)); (have HXx_h := Lib.hid (rHeavy.keep HXx_h.out fun b hb' => hbz.block b (Nat.lt_of_lt_of_le hb' HXx_h_s.out))); (have HXx_h_s := Lib.hid (Nat.le_trans HXx_h_s.out hbz.size)); (have HXz_h := Lib.hid (rHeavy.keep HXz_h.out fun b hb' => hbz.block b (Nat.lt_of_lt_of_le hb' HXz_h_s.out))); (have HXz_h_s := Lib.hid (Nat.le_trans HXz_h_s.out hbz.size)); (have KP_h := Lib.hid (KP_h.out.bel hbz)); (have KX_h := Lib.hid (KX_h.out.bel hbz)); (have HT23 := Lib.hid (below_step HT21.out hbz))))
      clear hbz
      go_wp2
      go_ret
      exact ⟨rfl, HT23.out⟩
end Go.Proofs.Ytkedbbaphkcdjaa
