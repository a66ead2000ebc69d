/-
  The walk of the law on RateOf. No conditions.
-/
import Derived.Test.YtogfhncaodaefaaWv
import Derived.Test.YtogfhncaodaefaaHe
import Derived.Test.YtogfhncaodaefaaHs
import Derived.Test.YtogfhncaodaefaaHt
namespace Go.Proofs.Ytogfhncaodaefaa
open Go.RowKit
set_option maxRecDepth 100000 in
set_option maxHeartbeats 4000000 in
theorem walk_FnExactRateOf (A_l : Option Addr) (n_l c_l : Nat) (l : (List Sample)) (per : Int) (_wper : (Lit.int .i64 per).wf = true) (w : World) (r_l : Mm.SlAt smp w w.heap.size l A_l n_l c_l) :
    Calls Try.prog 4 #[.slice A_l n_l c_l, .int .i64 per] w fun e w' => e = .returned (.bool true) ∧ Below w.heap.size w w' := by
  have hn_l : n_l ≤ maxLen := Nat.le_trans r_l.2.1 r_l.2.2.1
  have zn_l := Pl.szl_nn (f := Pl.sz0) (Pl.sz0_nn) l
  have HT0 := Lib.hid (show Below w.heap.size w w from (Below.refl w.heap.size w))
  have HR_l := Lib.hid (r_l.below HT0.out)
  have HB_l := Lib.hid HT0.out.size
  clear r_l
  by_cases t_l : (1048576 - (Pl.szl Pl.sz0) l : Int) < 0
  · skip
    go_enter Try.func4, Try.ntmps4
    go_wp2_with fail
    refine (szSampleS_c l _ _ _ _ _ w.heap.size HR_l.out HB_l.out (by omega) (by omega)).mono ?_
    rintro e y1 ⟨rfl, hbz⟩
    rw [Pl.szRet_lt (by omega)]
    have HR_l := Lib.hid (HR_l.out.keep fun b hb' => hbz.block b (Nat.lt_of_lt_of_le hb' HB_l.out))
    have HB_l := Lib.hid (Nat.le_trans HB_l.out hbz.size)
    have HT2 := Lib.hid (below_step HT0.out hbz)
    clear hbz
    go_wp2
    go_ret
    exact ⟨rfl, HT2.out⟩
  · skip
    go_enter Try.func4, Try.ntmps4
    go_wp2_with fail
    refine (szSampleS_c l _ _ _ _ _ w.heap.size HR_l.out HB_l.out (by omega) (by omega)).mono ?_
    rintro e y3 ⟨rfl, hbz⟩
    rw [Pl.szRet_ge (by omega)]
    have HR_l := Lib.hid (HR_l.out.keep fun b hb' => hbz.block b (Nat.lt_of_lt_of_le hb' HB_l.out))
    have HB_l := Lib.hid (Nat.le_trans HB_l.out hbz.size)
    have HT4 := Lib.hid (below_step HT0.out hbz)
    clear hbz
    go_wp2_with fail
    refine (toSampleS_c l _ _ _ _ w.heap.size HR_l.out HB_l.out (by omega)).mono ?_
    rintro e v5 ⟨A5, n5, c5, fp5, rfl, ho5, hnd5, hf5, hbz⟩
    have HR_l := Lib.hid (HR_l.out.keep fun b hb' => hbz.block b (Nat.lt_of_lt_of_le hb' HB_l.out))
    have HB_l := Lib.hid (Nat.le_trans HB_l.out hbz.size)
    have HT6 := Lib.hid (below_step HT4.out hbz)
    have HXs_l := Lib.hid (ho5.weak (B := v5.heap.size) ho5.olt)
    have HXs_l_s := Lib.hid (Nat.le_refl v5.heap.size)
    clear ho5 hnd5 hf5
    clear hbz
    go_wp2_with fail
    refine (specRateOf_c l _ _ _ per _ _ (HXs_l.out.more HXs_l_s.out) (Nat.le_refl _)).mono ?_
    rintro e v7 ⟨rfl, hbz⟩
    try unfold Pl.ret2
    have HR_l := Lib.hid (HR_l.out.keep fun b hb' => hbz.block b (Nat.lt_of_lt_of_le hb' HB_l.out))
    have HB_l := Lib.hid (Nat.le_trans HB_l.out hbz.size)
    have HXs_l := Lib.hid (HXs_l.out.keep fun b hb' => hbz.block b (Nat.lt_of_lt_of_le hb' HXs_l_s.out))
    have HXs_l_s := Lib.hid (Nat.le_trans HXs_l_s.out hbz.size)
    have HT8 := Lib.hid (below_step HT6.out hbz)
    clear hbz
    go_wp2_with fail
    refine (toSampleS_c l _ _ _ _ w.heap.size HR_l.out HB_l.out (by omega)).mono ?_
    rintro e v9 ⟨A9, n9, c9, fp9, rfl, ho9, hnd9, hf9, hbz⟩
    have HR_l := Lib.hid (HR_l.out.keep fun b hb' => hbz.block b (Nat.lt_of_lt_of_le hb' HB_l.out))
    have HB_l := Lib.hid (Nat.le_trans HB_l.out hbz.size)
    have HT10 := Lib.hid (below_step HT8.out hbz)
    have HXx_l := Lib.hid (ho9.weak (B := v9.heap.size) ho9.olt)
    have HXx_l_s := Lib.hid (Nat.le_refl v9.heap.size)
    clear ho9 hnd9 hf9
    clear hbz
    go_wp2_with fail
    refine (implRateOf_c l _ _ _ per _ _ (HXx_l.out.more HXx_l_s.out) (Nat.le_refl _)).mono ?_
    rintro e v11 ⟨rfl, hbz⟩
    try unfold Pl.ret2
    have HR_l := Lib.hid (HR_l.out.keep fun b hb' => hbz.block b (Nat.lt_of_lt_of_le hb' HB_l.out))
    have HB_l := Lib.hid (Nat.le_trans HB_l.out hbz.size)
    have HXx_l := Lib.hid (HXx_l.out.keep fun b hb' => hbz.block b (Nat.lt_of_lt_of_le hb' HXx_l_s.out))
    have HXx_l_s := Lib.hid (Nat.le_trans HXx_l_s.out hbz.size)
    have HT12 := Lib.hid (below_step HT10.out hbz)
    clear hbz
    go_wp2_with fail
    refine (toSampleS_c l _ _ _ _ w.heap.size HR_l.out HB_l.out (by omega)).mono ?_
    rintro e v13 ⟨A13, n13, c13, fp13, rfl, ho13, hnd13, hf13, hbz⟩
    have HR_l := Lib.hid (HR_l.out.keep fun b hb' => hbz.block b (Nat.lt_of_lt_of_le hb' HB_l.out))
    have HB_l := Lib.hid (Nat.le_trans HB_l.out hbz.size)
    have HXx_l := Lib.hid (HXx_l.out.keep fun b hb' => hbz.block b (Nat.lt_of_lt_of_le hb' HXx_l_s.out))
    have HXx_l_s := Lib.hid (Nat.le_trans HXx_l_s.out hbz.size)
    have HT14 := Lib.hid (below_step HT12.out hbz)
    have HXz_l := Lib.hid (ho13.weak (B := v13.heap.size) ho13.olt)
    have HXz_l_s := Lib.hid (Nat.le_refl v13.heap.size)
    clear ho13 hnd13 hf13
    clear hbz
    go_wp2_with fail
    refine (eqSampleS_c l _ _ _ _ _ _ _ v13.heap.size (HXx_l.out.more HXx_l_s.out) HXz_l.out (Nat.le_refl _)).mono ?_
    rintro e v15 ⟨rfl, hbz⟩
    have HR_l := Lib.hid (HR_l.out.keep fun b hb' => hbz.block b (Nat.lt_of_lt_of_le hb' HB_l.out))
    have HB_l := Lib.hid (Nat.le_trans HB_l.out hbz.size)
    have HXx_l := Lib.hid (HXx_l.out.keep fun b hb' => hbz.block b (Nat.lt_of_lt_of_le hb' HXx_l_s.out))
    have HXx_l_s := Lib.hid (Nat.le_trans HXx_l_s.out hbz.size)
    have HXz_l := Lib.hid (HXz_l.out.keep fun b hb' => hbz.block b (Nat.lt_of_lt_of_le hb' HXz_l_s.out))
    have HXz_l_s := Lib.hid (Nat.le_trans HXz_l_s.out hbz.size)
    have HT16 := Lib.hid (below_step HT14.out hbz)
    clear hbz
    go_wp2
    go_ret
    exact ⟨rfl, HT16.out⟩
end Go.Proofs.Ytogfhncaodaefaa
