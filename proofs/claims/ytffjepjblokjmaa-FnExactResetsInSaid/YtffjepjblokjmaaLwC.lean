/-
  The walks of the laws on CounterOk and ResetsIn. No conditions.
-/
import Derived.Test.YtffjepjblokjmaaWs
import Derived.Test.YtffjepjblokjmaaWu
import Derived.Test.YtffjepjblokjmaaHe
import Derived.Test.YtffjepjblokjmaaHs
import Derived.Test.YtffjepjblokjmaaHt
namespace Go.Proofs.Ytffjepjblokjmaa
open Go.RowKit
set_option maxRecDepth 100000 in
set_option maxHeartbeats 4000000 in
theorem walk_FnExactCounterOk (A_l : Option Addr) (n_l c_l : Nat) (l : (List Sample)) (w : World) (r_l : Mm.SlAt smp w w.heap.size l A_l n_l c_l) :
    Calls Try.prog 5 #[.slice A_l n_l c_l] w fun e w' => e = .returned (.bool true) ∧ Below w.heap.size w w' := by
  have hn_l : n_l ≤ maxLen := Nat.le_trans r_l.2.1 r_l.2.2.1
  have zn_l := Pl.szl_nn (f := Pl.sz0) (Pl.sz0_nn) l
  have HR_l := Lib.hid r_l
  clear r_l
  by_cases t_l : (1048576 - Pl.szl Pl.sz0 l : Int) < 0
  · go_enter Try.func5, Try.ntmps5
    go_wp2_with fail
    refine (szSampleS_c l _ _ _ _ _ w.heap.size HR_l.out (Nat.le_refl _) (by omega) (by omega)).mono ?_
    rintro e y0 ⟨rfl, hy0⟩
    rw [Pl.szRet_lt (by omega)]
    have HT := Lib.hid (hy0)
    clear hy0
    go_wp2
    go_ret
    exact ⟨rfl, HT.out⟩
  · skip
    go_enter Try.func5, Try.ntmps5
    go_wp2_with fail
    refine (szSampleS_c l _ _ _ _ _ w.heap.size HR_l.out (Nat.le_refl _) (by omega) (by omega)).mono ?_
    rintro e y0 ⟨rfl, hy0⟩
    rw [Pl.szRet_ge (by omega)]
    have HT := Lib.hid (hy0)
    clear hy0
    have HB_l := Lib.hid (HT.out.size)
    have HR_l := Lib.hid (HR_l.out.below HT.out)
    go_wp2_with fail
    refine (toSampleS_c l _ _ _ _ w.heap.size HR_l.out HB_l.out (by omega)).mono ?_
    rintro e v1 ⟨A1, n1, c1, fp1, rfl, ho1, hnd1, hf1, hb1⟩
    have HF1 := Lib.hid (show ∀ b, b ∈ fp1 → w.heap.size ≤ b from fun b hb' => Nat.le_trans HT.out.size (hf1 b hb'))
    have HO1 := Lib.hid (And.intro ho1 (And.intro hnd1 hf1))
    have HR_l := Lib.hid (HR_l.out.keep fun b hb' => hb1.block b (Nat.lt_of_lt_of_le hb' HB_l.out))
    have HB_l := Lib.hid (Nat.le_trans HB_l.out hb1.size)
    have HT := Lib.hid (below_step HT.out hb1)
    clear hb1
    have HXs_l := Lib.hid (ho1.weak (B := v1.heap.size) ho1.olt)
    have HXs_l_s := Lib.hid (Nat.le_refl v1.heap.size)
    clear ho1 hnd1 hf1
    go_wp2_with fail
    refine (specCounterOk_c l _ _ _ _ v1.heap.size HXs_l.out HXs_l_s.out).mono ?_
    rintro e v2 ⟨rfl, hb2⟩
    have HR_l := Lib.hid (HR_l.out.keep fun b hb' => hb2.block b (Nat.lt_of_lt_of_le hb' HB_l.out))
    have HB_l := Lib.hid (Nat.le_trans HB_l.out hb2.size)
    have HT := Lib.hid (below_step HT.out hb2)
    clear hb2
    go_wp2_with fail
    refine (toSampleS_c l _ _ _ _ w.heap.size HR_l.out HB_l.out (by omega)).mono ?_
    rintro e v3 ⟨A3, n3, c3, fp3, rfl, ho3, hnd3, hf3, hb3⟩
    have HF3 := Lib.hid (show ∀ b, b ∈ fp3 → w.heap.size ≤ b from fun b hb' => Nat.le_trans HT.out.size (hf3 b hb'))
    have HO3 := Lib.hid (And.intro ho3 (And.intro hnd3 hf3))
    have HR_l := Lib.hid (HR_l.out.keep fun b hb' => hb3.block b (Nat.lt_of_lt_of_le hb' HB_l.out))
    have HB_l := Lib.hid (Nat.le_trans HB_l.out hb3.size)
    have HT := Lib.hid (below_step HT.out hb3)
    clear hb3
    have HXx_l := Lib.hid (ho3.weak (B := v3.heap.size) ho3.olt)
    have HXx_l_s := Lib.hid (Nat.le_refl v3.heap.size)
    clear ho3 hnd3 hf3
    go_wp2_with fail
    refine (implCounterOk_c l _ _ _ _ v3.heap.size HXx_l.out HXx_l_s.out).mono ?_
    rintro e v4 ⟨rfl, hb4⟩
    have HR_l := Lib.hid (HR_l.out.keep fun b hb' => hb4.block b (Nat.lt_of_lt_of_le hb' HB_l.out))
    have HB_l := Lib.hid (Nat.le_trans HB_l.out hb4.size)
    have HXx_l := Lib.hid (HXx_l.out.keep fun b hb' => hb4.block b (Nat.lt_of_lt_of_le hb' HXx_l_s.out))
    have HXx_l_s := Lib.hid (Nat.le_trans HXx_l_s.out hb4.size)
    have HT := Lib.hid (below_step HT.out hb4)
    clear hb4
    go_wp2_with fail
    refine (toSampleS_c l _ _ _ _ w.heap.size HR_l.out HB_l.out (by omega)).mono ?_
    rintro e v5 ⟨A5, n5, c5, fp5, rfl, ho5, hnd5, hf5, hb5⟩
    have HF5 := Lib.hid (show ∀ b, b ∈ fp5 → w.heap.size ≤ b from fun b hb' => Nat.le_trans HT.out.size (hf5 b hb'))
    have HR_l := Lib.hid (HR_l.out.keep fun b hb' => hb5.block b (Nat.lt_of_lt_of_le hb' HB_l.out))
    have HB_l := Lib.hid (Nat.le_trans HB_l.out hb5.size)
    have HXx_l := Lib.hid (HXx_l.out.keep fun b hb' => hb5.block b (Nat.lt_of_lt_of_le hb' HXx_l_s.out))
    have HXx_l_s := Lib.hid (Nat.le_trans HXx_l_s.out hb5.size)
    have HT := Lib.hid (below_step HT.out hb5)
    clear hb5
    have HZ_l := Lib.hid (ho5.weak (B := v5.heap.size) ho5.olt)
    have HZ_l_s := Lib.hid (Nat.le_refl v5.heap.size)
    clear ho5 hnd5 hf5
    go_wp2_with fail
    refine (eqSampleS_c l _ _ _ _ _ _ _ v5.heap.size (HXx_l.out.more HXx_l_s.out) HZ_l.out (Nat.le_refl _)).mono ?_
    rintro e v6 ⟨rfl, hb6⟩
    have HR_l := Lib.hid (HR_l.out.keep fun b hb' => hb6.block b (Nat.lt_of_lt_of_le hb' HB_l.out))
    have HB_l := Lib.hid (Nat.le_trans HB_l.out hb6.size)
    have HXx_l := Lib.hid (HXx_l.out.keep fun b hb' => hb6.block b (Nat.lt_of_lt_of_le hb' HXx_l_s.out))
    have HXx_l_s := Lib.hid (Nat.le_trans HXx_l_s.out hb6.size)
    have HT := Lib.hid (below_step HT.out hb6)
    clear hb6
    go_wp2_with fail
    go_ret
    exact ⟨rfl, HT.out⟩
set_option maxRecDepth 100000 in
set_option maxHeartbeats 4000000 in
theorem walk_FnExactResetsIn (A_l : Option Addr) (n_l c_l : Nat) (l : (List Sample)) (w : World) (r_l : Mm.SlAt smp w w.heap.size l A_l n_l c_l) :
    Calls Try.prog 7 #[.slice A_l n_l c_l] w fun e w' => e = .returned (.bool true) ∧ Below w.heap.size w w' := by
  have hn_l : n_l ≤ maxLen := Nat.le_trans r_l.2.1 r_l.2.2.1
  have zn_l := Pl.szl_nn (f := Pl.sz0) (Pl.sz0_nn) l
  have HR_l := Lib.hid r_l
  clear r_l
  by_cases t_l : (1048576 - Pl.szl Pl.sz0 l : Int) < 0
  · go_enter Try.func7, Try.ntmps7
    go_wp2_with fail
    refine (szSampleS_c l _ _ _ _ _ w.heap.size HR_l.out (Nat.le_refl _) (by omega) (by omega)).mono ?_
    rintro e y0 ⟨rfl, hy0⟩
    rw [Pl.szRet_lt (by omega)]
    have HT := Lib.hid (hy0)
    clear hy0
    go_wp2
    go_ret
    exact ⟨rfl, HT.out⟩
  · skip
    go_enter Try.func7, Try.ntmps7
    go_wp2_with fail
    refine (szSampleS_c l _ _ _ _ _ w.heap.size HR_l.out (Nat.le_refl _) (by omega) (by omega)).mono ?_
    rintro e y0 ⟨rfl, hy0⟩
    rw [Pl.szRet_ge (by omega)]
    have HT := Lib.hid (hy0)
    clear hy0
    have HB_l := Lib.hid (HT.out.size)
    have HR_l := Lib.hid (HR_l.out.below HT.out)
    go_wp2_with fail
    refine (toSampleS_c l _ _ _ _ w.heap.size HR_l.out HB_l.out (by omega)).mono ?_
    rintro e v1 ⟨A1, n1, c1, fp1, rfl, ho1, hnd1, hf1, hb1⟩
    have HF1 := Lib.hid (show ∀ b, b ∈ fp1 → w.heap.size ≤ b from fun b hb' => Nat.le_trans HT.out.size (hf1 b hb'))
    have HO1 := Lib.hid (And.intro ho1 (And.intro hnd1 hf1))
    have HR_l := Lib.hid (HR_l.out.keep fun b hb' => hb1.block b (Nat.lt_of_lt_of_le hb' HB_l.out))
    have HB_l := Lib.hid (Nat.le_trans HB_l.out hb1.size)
    have HT := Lib.hid (below_step HT.out hb1)
    clear hb1
    have HXs_l := Lib.hid (ho1.weak (B := v1.heap.size) ho1.olt)
    have HXs_l_s := Lib.hid (Nat.le_refl v1.heap.size)
    clear ho1 hnd1 hf1
    go_wp2_with fail
    refine (specResetsIn_c l _ _ _ _ v1.heap.size HXs_l.out HXs_l_s.out).mono ?_
    rintro e v2 ⟨rfl, hb2⟩
    try unfold Pl.ret2
    have HR_l := Lib.hid (HR_l.out.keep fun b hb' => hb2.block b (Nat.lt_of_lt_of_le hb' HB_l.out))
    have HB_l := Lib.hid (Nat.le_trans HB_l.out hb2.size)
    have HT := Lib.hid (below_step HT.out hb2)
    clear hb2
    go_wp2_with fail
    refine (toSampleS_c l _ _ _ _ w.heap.size HR_l.out HB_l.out (by omega)).mono ?_
    rintro e v3 ⟨A3, n3, c3, fp3, rfl, ho3, hnd3, hf3, hb3⟩
    have HF3 := Lib.hid (show ∀ b, b ∈ fp3 → w.heap.size ≤ b from fun b hb' => Nat.le_trans HT.out.size (hf3 b hb'))
    have HO3 := Lib.hid (And.intro ho3 (And.intro hnd3 hf3))
    have HR_l := Lib.hid (HR_l.out.keep fun b hb' => hb3.block b (Nat.lt_of_lt_of_le hb' HB_l.out))
    have HB_l := Lib.hid (Nat.le_trans HB_l.out hb3.size)
    have HT := Lib.hid (below_step HT.out hb3)
    clear hb3
    have HXx_l := Lib.hid (ho3.weak (B := v3.heap.size) ho3.olt)
    have HXx_l_s := Lib.hid (Nat.le_refl v3.heap.size)
    clear ho3 hnd3 hf3
    go_wp2_with fail
    refine (implResetsIn_c l _ _ _ _ v3.heap.size HXx_l.out HXx_l_s.out).mono ?_
    rintro e v4 ⟨rfl, hb4⟩
    try unfold Pl.ret2
    have HR_l := Lib.hid (HR_l.out.keep fun b hb' => hb4.block b (Nat.lt_of_lt_of_le hb' HB_l.out))
    have HB_l := Lib.hid (Nat.le_trans HB_l.out hb4.size)
    have HXx_l := Lib.hid (HXx_l.out.keep fun b hb' => hb4.block b (Nat.lt_of_lt_of_le hb' HXx_l_s.out))
    have HXx_l_s := Lib.hid (Nat.le_trans HXx_l_s.out hb4.size)
    have HT := Lib.hid (below_step HT.out hb4)
    clear hb4
    go_wp2_with fail
    refine (toSampleS_c l _ _ _ _ w.heap.size HR_l.out HB_l.out (by omega)).mono ?_
    rintro e v5 ⟨A5, n5, c5, fp5, rfl, ho5, hnd5, hf5, hb5⟩
    have HF5 := Lib.hid (show ∀ b, b ∈ fp5 → w.heap.size ≤ b from fun b hb' => Nat.le_trans HT.out.size (hf5 b hb'))
    have HR_l := Lib.hid (HR_l.out.keep fun b hb' => hb5.block b (Nat.lt_of_lt_of_le hb' HB_l.out))
    have HB_l := Lib.hid (Nat.le_trans HB_l.out hb5.size)
    have HXx_l := Lib.hid (HXx_l.out.keep fun b hb' => hb5.block b (Nat.lt_of_lt_of_le hb' HXx_l_s.out))
    have HXx_l_s := Lib.hid (Nat.le_trans HXx_l_s.out hb5.size)
    have HT := Lib.hid (below_step HT.out hb5)
    clear hb5
    have HZ_l := Lib.hid (ho5.weak (B := v5.heap.size) ho5.olt)
    have HZ_l_s := Lib.hid (Nat.le_refl v5.heap.size)
    clear ho5 hnd5 hf5
    go_wp2_with fail
    refine (eqSampleS_c l _ _ _ _ _ _ _ v5.heap.size (HXx_l.out.more HXx_l_s.out) HZ_l.out (Nat.le_refl _)).mono ?_
    rintro e v6 ⟨rfl, hb6⟩
    have HR_l := Lib.hid (HR_l.out.keep fun b hb' => hb6.block b (Nat.lt_of_lt_of_le hb' HB_l.out))
    have HB_l := Lib.hid (Nat.le_trans HB_l.out hb6.size)
    have HXx_l := Lib.hid (HXx_l.out.keep fun b hb' => hb6.block b (Nat.lt_of_lt_of_le hb' HXx_l_s.out))
    have HXx_l_s := Lib.hid (Nat.le_trans HXx_l_s.out hb6.size)
    have HT := Lib.hid (below_step HT.out hb6)
    clear hb6
    go_wp2_with fail
    go_ret
    exact ⟨rfl, HT.out⟩
end Go.Proofs.Ytffjepjblokjmaa
