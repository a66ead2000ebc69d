/-
  Joined texts, in build order: LwPlayBank, LawPlayBank. Each part says what it proves; no conditions beyond those that a part names.
-/
import Derived.Test.YtpmeagchkcffoaaZ03
import Derived.Test.YtpmeagchkcffoaaZ06
import Derived.Test.YtpmeagchkcffoaaZ07
import Derived.Test.YtpmeagchkcffoaaRows
import Derived.WalkKit
import Derived.ProofKit
import Derived.OpenShut
import Derived.ShutString
import Derived.ChangeOld
import Derived.Below
/-
  The walk of the law on PlayBank. No conditions.
-/
namespace Go.Proofs.Ytpmeagchkcffoaa
open Go.RowKit
theorem cntL_le' {α : Type} {f : α → Int} {c : Int} : ∀ l : List α, (∀ x, x ∈ l → f x ≤ c) → Mm.cntL f l ≤ c * (l.length : Int)
  | [], _ => by simp [Mm.cntL]
  | x :: t, h => by
    have h1 := cntL_le' t (fun y hy => h y (List.mem_cons_of_mem _ hy))
    have h2 := h x List.mem_cons_self
    rw [Mm.cntL_cons, List.length_cons]
    have : c * ((t.length + 1 : Nat) : Int) = c * (t.length : Int) + c := by push_cast; rw [Int.mul_add, Int.mul_one]
    omega
theorem Pl.BI.cnt {q : Nat} {b : Bank} (h : Pl.BI q b) (hq : q ≤ 120) : Pl.ctopBank b ≤ 50000000 := by
  have c1 : ∀ {α : Type} (l : List α), Mm.cntL Pl.cnt1 l ≤ (l.length : Int) := fun l => by
    have := cntL_le' (f := Pl.cnt1) (c := 1) l (fun y _ => by unfold Pl.cnt1; omega)
    omega
  have h0 := c1 b.Coins
  have h1 : Mm.cntL (Mm.cntL Pl.cnt1) b.Ways ≤ 120 * (b.Ways.length : Int) := cntL_le' _ (fun x hx => by have := c1 x; have := h.wl x hx; omega)
  have h2 := c1 b.Kept
  have h3 : Mm.cntL (Mm.cntL Pl.cnt1) b.Heard ≤ 5 * (b.Heard.length : Int) := cntL_le' _ (fun x hx => by have := c1 x; have := h.hr x hx; have := h.n5; omega)
  have h4 : Mm.cntL (Mm.cntL Pl.cnt1) b.Found ≤ 5 * (b.Found.length : Int) := cntL_le' _ (fun x hx => by have := c1 x; have := h.fr x hx; have := h.n5; omega)
  have := h.n5; have hw := h.wa; have := h.ke; have := h.he; have := h.fo
  have h25 := sq_le h.n5
  rw [← hw] at h25
  show (Mm.cntL Pl.cnt1) b.Coins + (Mm.cntL (Mm.cntL Pl.cnt1)) b.Ways + (Mm.cntL Pl.cnt1) b.Kept + (Mm.cntL (Mm.cntL Pl.cnt1)) b.Heard + (Mm.cntL (Mm.cntL Pl.cnt1)) b.Found ≤ 50000000
  omega
theorem playBank_cnt0 (coins : List Int) (l : List SnapStep) : Pl.ctopBank (Pl.playBank coins l).1 ≤ 50000000 := by
  unfold Pl.playBank
  split
  · rename_i h
    have h1 := (Pl.runP_ok l 0 (Pl.newBank coins, []) (Pl.BI.new h.1)).1
    rw [Nat.zero_add] at h1
    exact h1.cnt h.2
  · decide
theorem playBank_cnt1 (coins : List Int) (l : List SnapStep) : Mm.cntL Pl.cnt1 (Pl.playBank coins l).2.1 ≤ 50000000 := by
  unfold Pl.playBank
  split
  · rename_i h
    have h1 := (Pl.runP_ok l 0 (Pl.newBank coins, []) (Pl.BI.new h.1)).2.1
    have h2 := cntL_le' (f := Pl.cnt1) (c := 1) (Pl.runB (Pl.newBank coins) l).2 (fun y _ => by unfold Pl.cnt1; omega)
    have h3 : (Pl.runB (Pl.newBank coins) l).2.length = l.length := by rw [show (Pl.runB (Pl.newBank coins) l).2.length = _ from h1]; simp
    have := h.2
    show Mm.cntL Pl.cnt1 (Pl.runB (Pl.newBank coins) l).2 ≤ 50000000
    omega
  · show Mm.cntL Pl.cnt1 ([] : List Bool) ≤ 50000000
    simp [Mm.cntL]
set_option maxRecDepth 100000 in
set_option maxHeartbeats 4000000 in
theorem walk_FnExactPlayBank (A_coins : Option Addr) (n_coins c_coins : Nat) (coins : (List Int)) (A_l : Option Addr) (n_l c_l : Nat) (l : (List SnapStep)) (w : World) (r_coins : Mm.SlAt Mm.int w w.heap.size coins A_coins n_coins c_coins) (r_l : Mm.SlAt rSnapStep w w.heap.size l A_l n_l c_l) :
    Calls Try.prog 3 #[.slice A_coins n_coins c_coins, .slice A_l n_l c_l] w fun e w' => e = .returned (.bool true) ∧ Below w.heap.size w w' := by
  have zl_coins : Pl.szl Pl.sz0 coins = (n_coins : Int) := by rw [Pl.szl_zero, r_coins.1]
  have hn_coins : n_coins ≤ maxLen := Nat.le_trans r_coins.2.1 r_coins.2.2.1
  have zn_coins := Pl.szl_nn (f := Pl.sz0) (Pl.sz0_nn) coins
  have hn_l : n_l ≤ maxLen := Nat.le_trans r_l.2.1 r_l.2.2.1
  have zn_l := Pl.szl_nn (f := Pl.sz0) (Pl.sz0_nn) l
  have HT0 := Lib.hid (show Below w.heap.size w w from (Below.refl w.heap.size w))
  have HR_coins := Lib.hid (r_coins.below HT0.out)
  have HB_coins := Lib.hid HT0.out.size
  have HR_l := Lib.hid (r_l.below HT0.out)
  have HB_l := Lib.hid HT0.out.size
  clear r_coins r_l
  by_cases t_coins : (1048576 : Int) < (n_coins : Int)
  · skip
    go_enter Try.func3, Try.ntmps3
    go_wp2
    go_ret
    exact ⟨rfl, HT0.out⟩
  · skip
    by_cases t_l : (1048576 - (Pl.szl Pl.sz0) l : Int) < 0
    · skip
      go_enter Try.func3, Try.ntmps3
      go_wp2_with fail
      refine (szSnapStepS_c l _ _ _ _ _ w.heap.size HR_l.out HB_l.out (by omega) (by omega)).mono ?_
      rintro e y1 ⟨rfl, hbz⟩
      rw [Pl.szRet_lt (by omega)]
      have HR_coins := Lib.hid (HR_coins.out.keep fun b hb' => hbz.block b (Nat.lt_of_lt_of_le hb' HB_coins.out))
      have HB_coins := Lib.hid (Nat.le_trans HB_coins.out hbz.size)
      have HR_l := Lib.hid (HR_l.out.keep fun b hb' => hbz.block b (Nat.lt_of_lt_of_le hb' HB_l.out))
      have HB_l := Lib.hid (Nat.le_trans HB_l.out hbz.size)
      have HT2 := Lib.hid (below_step HT0.out hbz)
      clear hbz
      go_wp2
      go_ret
      exact ⟨rfl, HT2.out⟩
    · skip
      go_enter Try.func3, Try.ntmps3
      go_wp2_with fail
      refine (szSnapStepS_c l _ _ _ _ _ w.heap.size HR_l.out HB_l.out (by omega) (by omega)).mono ?_
      rintro e y3 ⟨rfl, hbz⟩
      rw [Pl.szRet_ge (by omega)]
      have HR_coins := Lib.hid (HR_coins.out.keep fun b hb' => hbz.block b (Nat.lt_of_lt_of_le hb' HB_coins.out))
      have HB_coins := Lib.hid (Nat.le_trans HB_coins.out hbz.size)
      have HR_l := Lib.hid (HR_l.out.keep fun b hb' => hbz.block b (Nat.lt_of_lt_of_le hb' HB_l.out))
      have HB_l := Lib.hid (Nat.le_trans HB_l.out hbz.size)
      have HT4 := Lib.hid (below_step HT0.out hbz)
      clear hbz
      go_wp2_with fail
      refine (toIntS_c coins _ _ _ _ w.heap.size HR_coins.out HB_coins.out (by omega)).mono ?_
      rintro e v5 ⟨A5, n5, c5, fp5, rfl, ho5, hnd5, hf5, hbz⟩
      have HR_coins := Lib.hid (HR_coins.out.keep fun b hb' => hbz.block b (Nat.lt_of_lt_of_le hb' HB_coins.out))
      have HB_coins := Lib.hid (Nat.le_trans HB_coins.out hbz.size)
      have HR_l := Lib.hid (HR_l.out.keep fun b hb' => hbz.block b (Nat.lt_of_lt_of_le hb' HB_l.out))
      have HB_l := Lib.hid (Nat.le_trans HB_l.out hbz.size)
      have HT6 := Lib.hid (below_step HT4.out hbz)
      have HXs_coins := Lib.hid (ho5.weak (B := v5.heap.size) ho5.olt)
      have HXs_coins_s := Lib.hid (Nat.le_refl v5.heap.size)
      clear ho5 hnd5 hf5
      clear hbz
      go_wp2_with fail
      refine (toSnapStepS_c l _ _ _ _ w.heap.size HR_l.out HB_l.out (by omega)).mono ?_
      rintro e v7 ⟨A7, n7, c7, fp7, rfl, ho7, hnd7, hf7, hbz⟩
      have HR_coins := Lib.hid (HR_coins.out.keep fun b hb' => hbz.block b (Nat.lt_of_lt_of_le hb' HB_coins.out))
      have HB_coins := Lib.hid (Nat.le_trans HB_coins.out hbz.size)
      have HR_l := Lib.hid (HR_l.out.keep fun b hb' => hbz.block b (Nat.lt_of_lt_of_le hb' HB_l.out))
      have HB_l := Lib.hid (Nat.le_trans HB_l.out hbz.size)
      have HXs_coins := Lib.hid (HXs_coins.out.keep fun b hb' => hbz.block b (Nat.lt_of_lt_of_le hb' HXs_coins_s.out))
      have HXs_coins_s := Lib.hid (Nat.le_trans HXs_coins_s.out hbz.size)
      have HT8 := Lib.hid (below_step HT6.out hbz)
      have HXs_l := Lib.hid (ho7.weak (B := v7.heap.size) ho7.olt)
      have HXs_l_s := Lib.hid (Nat.le_refl v7.heap.size)
      clear ho7 hnd7 hf7
      clear hbz
      go_wp2_with fail
      refine (specPlayBank_c coins l _ _ _ _ _ _ _ _ (HXs_coins.out.more HXs_coins_s.out) (HXs_l.out.more HXs_l_s.out) (Nat.le_refl _)).mono ?_
      rintro e v9 ⟨cs9_0, A9_1, n9_1, c9_1, fp9_0, fp9_1, rfl, hS9⟩
      have hbz := hS9.bel0
      have ho9_0 : rBankW.own v9 ((Pl.playBank coins l).1) cs9_0 fp9_0 := hS9.at_ 0 rfl
      have hnd9_0 := hS9.ndat (i := 0) rfl
      have hf9_0 : ∀ b, b ∈ fp9_0 → _ ≤ b := fun b hb' => (hS9.new b (Mm.SepF.mem (i := 0) rfl hb')).resolve_left (fun hh => by cases hh)
      have ho9_1 : Mm.SlOwn Mm.bool 4 v9 ((Pl.playBank coins l).2.1) (.slice A9_1 n9_1 c9_1) fp9_1 := hS9.at_ 1 rfl
      have hnd9_1 := hS9.ndat (i := 1) rfl
      have hf9_1 : ∀ b, b ∈ fp9_1 → _ ≤ b := fun b hb' => (hS9.new b (Mm.SepF.mem (i := 1) rfl hb')).resolve_left (fun hh => by cases hh)
      have DP9_0_1 := Lib.hid (show ∀ b, b ∈ fp9_0 → b ∉ fp9_1 from hS9.apart (i := 0) (j := 1) rfl rfl (by decide))
      have DP9_1_0 := Lib.hid (show ∀ b, b ∈ fp9_1 → b ∉ fp9_0 from hS9.apart (i := 1) (j := 0) rfl rfl (by decide))
      obtain ⟨A0_9_0, n0_9_0, c0_9_0, A1_9_0, n1_9_0, c1_9_0, A2_9_0, n2_9_0, c2_9_0, A3_9_0, n3_9_0, c3_9_0, A4_9_0, n4_9_0, c4_9_0, _, _, _, _, _, rfl, -⟩ := rBankW_own ho9_0
      clear hS9
      have HR_coins := Lib.hid (HR_coins.out.keep fun b hb' => hbz.block b (Nat.lt_of_lt_of_le hb' HB_coins.out))
      have HB_coins := Lib.hid (Nat.le_trans HB_coins.out hbz.size)
      have HR_l := Lib.hid (HR_l.out.keep fun b hb' => hbz.block b (Nat.lt_of_lt_of_le hb' HB_l.out))
      have HB_l := Lib.hid (Nat.le_trans HB_l.out hbz.size)
      have HXs_coins := Lib.hid (HXs_coins.out.keep fun b hb' => hbz.block b (Nat.lt_of_lt_of_le hb' HXs_coins_s.out))
      have HXs_coins_s := Lib.hid (Nat.le_trans HXs_coins_s.out hbz.size)
      have HXs_l := Lib.hid (HXs_l.out.keep fun b hb' => hbz.block b (Nat.lt_of_lt_of_le hb' HXs_l_s.out))
      have HXs_l_s := Lib.hid (Nat.le_trans HXs_l_s.out hbz.size)
      have HT10 := Lib.hid (below_step HT8.out hbz)
      have HW0_0 := Lib.hid (rBankW.weak ho9_0 (B := v9.heap.size) (rBankW.olt ho9_0))
      have HW0_0_s := Lib.hid (Nat.le_refl v9.heap.size)
      clear ho9_0 hnd9_0 hf9_0
      have HW0_1 := Lib.hid (ho9_1.weak (B := v9.heap.size) ho9_1.olt)
      have HW0_1_s := Lib.hid (Nat.le_refl v9.heap.size)
      clear ho9_1 hnd9_1 hf9_1
      clear hbz
      have hbx : Below v9.heap.size v9 (v9.alloc (.cells #[.slice A0_9_0 n0_9_0 c0_9_0, .slice A1_9_0 n1_9_0 c1_9_0, .slice A2_9_0 n2_9_0 c2_9_0, .slice A3_9_0 n3_9_0 c3_9_0, .slice A4_9_0 n4_9_0 c4_9_0] 28)) := below_new (Below.refl _ _) _
      have HR_coins := Lib.hid (HR_coins.out.keep fun b hb' => hbx.block b (Nat.lt_of_lt_of_le hb' HB_coins.out))
      have HB_coins := Lib.hid (Nat.le_trans HB_coins.out hbx.size)
      have HR_l := Lib.hid (HR_l.out.keep fun b hb' => hbx.block b (Nat.lt_of_lt_of_le hb' HB_l.out))
      have HB_l := Lib.hid (Nat.le_trans HB_l.out hbx.size)
      have HW0_0 := Lib.hid (rBankW.keep HW0_0.out fun b hb' => hbx.block b (Nat.lt_of_lt_of_le hb' HW0_0_s.out))
      have HW0_0_s := Lib.hid (Nat.le_trans HW0_0_s.out hbx.size)
      have HW0_1 := Lib.hid (HW0_1.out.keep fun b hb' => hbx.block b (Nat.lt_of_lt_of_le hb' HW0_1_s.out))
      have HW0_1_s := Lib.hid (Nat.le_trans HW0_1_s.out hbx.size)
      have HT11 := Lib.hid (below_step HT10.out hbx)
      clear hbx
      have KW_0 := Lib.hid (Mm.Blk.new v9 28 [.slice A0_9_0 n0_9_0 c0_9_0, .slice A1_9_0 n1_9_0 c1_9_0, .slice A2_9_0 n2_9_0 c2_9_0, .slice A3_9_0 n3_9_0 c3_9_0, .slice A4_9_0 n4_9_0 c4_9_0])
      go_wp2_with fail
      refine (toIntS_c coins _ _ _ _ w.heap.size HR_coins.out HB_coins.out (by omega)).mono ?_
      rintro e v12 ⟨A12, n12, c12, fp12, rfl, ho12, hnd12, hf12, hbz⟩
      have AP12_HR_coins := Lib.hid (show ∀ b, b ∈ fp12 → w.heap.size ≤ b from fun b hb' => Nat.le_trans HB_coins.out (hf12 b hb'))
      have AP12_HR_l := Lib.hid (show ∀ b, b ∈ fp12 → w.heap.size ≤ b from fun b hb' => Nat.le_trans HB_l.out (hf12 b hb'))
      have AP12_HW0_0 := Lib.hid (show ∀ b, b ∈ fp12 → v9.heap.size ≤ b from fun b hb' => Nat.le_trans HW0_0_s.out (hf12 b hb'))
      have AP12_HW0_1 := Lib.hid (show ∀ b, b ∈ fp12 → v9.heap.size ≤ b from fun b hb' => Nat.le_trans HW0_1_s.out (hf12 b hb'))
      have NB12_KW_0 := Lib.hid (show ¬ v9.heap.size ∈ fp12 from fun hm => by have := KW_0.out.lt; have := hf12 _ hm; omega)
      have FR12 := Lib.hid (show ∀ b, b ∈ fp12 → w.heap.size ≤ b from fun b hb' => Nat.le_trans HT11.out.size (hf12 b hb'))
      have ND12 := Lib.hid hnd12
      have LT12 := Lib.hid (show ∀ b, b ∈ fp12 → b < v12.heap.size from ho12.olt)
      have HR_coins := Lib.hid (HR_coins.out.keep fun b hb' => hbz.block b (Nat.lt_of_lt_of_le hb' HB_coins.out))
      have HB_coins := Lib.hid (Nat.le_trans HB_coins.out hbz.size)
      have HR_l := Lib.hid (HR_l.out.keep fun b hb' => hbz.block b (Nat.lt_of_lt_of_le hb' HB_l.out))
      have HB_l := Lib.hid (Nat.le_trans HB_l.out hbz.size)
      have HW0_0 := Lib.hid (rBankW.keep HW0_0.out fun b hb' => hbz.block b (Nat.lt_of_lt_of_le hb' HW0_0_s.out))
      have HW0_0_s := Lib.hid (Nat.le_trans HW0_0_s.out hbz.size)
      have HW0_1 := Lib.hid (HW0_1.out.keep fun b hb' => hbz.block b (Nat.lt_of_lt_of_le hb' HW0_1_s.out))
      have HW0_1_s := Lib.hid (Nat.le_trans HW0_1_s.out hbz.size)
      have KW_0 := Lib.hid (KW_0.out.bel hbz)
      have HT13 := Lib.hid (below_step HT11.out hbz)
      have HXx_coins := Lib.hid (ho12.weak (B := v12.heap.size) ho12.olt)
      have HXx_coins_s := Lib.hid (Nat.le_refl v12.heap.size)
      have OX_coins := Lib.hid ho12
      clear ho12 hnd12 hf12
      clear hbz
      go_wp2_with fail
      refine (toSnapStepS_c l _ _ _ _ w.heap.size HR_l.out HB_l.out (by omega)).mono ?_
      rintro e v14 ⟨A14, n14, c14, fp14, rfl, ho14, hnd14, hf14, hbz⟩
      have AP14_HR_coins := Lib.hid (show ∀ b, b ∈ fp14 → w.heap.size ≤ b from fun b hb' => Nat.le_trans HB_coins.out (hf14 b hb'))
      have AP14_HR_l := Lib.hid (show ∀ b, b ∈ fp14 → w.heap.size ≤ b from fun b hb' => Nat.le_trans HB_l.out (hf14 b hb'))
      have AP14_HW0_0 := Lib.hid (show ∀ b, b ∈ fp14 → v9.heap.size ≤ b from fun b hb' => Nat.le_trans HW0_0_s.out (hf14 b hb'))
      have AP14_HW0_1 := Lib.hid (show ∀ b, b ∈ fp14 → v9.heap.size ≤ b from fun b hb' => Nat.le_trans HW0_1_s.out (hf14 b hb'))
      have AP14_HXx_coins := Lib.hid (show ∀ b, b ∈ fp14 → v12.heap.size ≤ b from fun b hb' => Nat.le_trans HXx_coins_s.out (hf14 b hb'))
      have DP14_OX_coins := Lib.hid (show ∀ b, b ∈ fp14 → b ∉ fp12 from fun b hb' hm => by have := OX_coins.out.olt b hm; have := hf14 b hb'; omega)
      have NB14_KW_0 := Lib.hid (show ¬ v9.heap.size ∈ fp14 from fun hm => by have := KW_0.out.lt; have := hf14 _ hm; omega)
      have FR14 := Lib.hid (show ∀ b, b ∈ fp14 → w.heap.size ≤ b from fun b hb' => Nat.le_trans HT13.out.size (hf14 b hb'))
      have ND14 := Lib.hid hnd14
      have LT14 := Lib.hid (show ∀ b, b ∈ fp14 → b < v14.heap.size from ho14.olt)
      have HR_coins := Lib.hid (HR_coins.out.keep fun b hb' => hbz.block b (Nat.lt_of_lt_of_le hb' HB_coins.out))
      have HB_coins := Lib.hid (Nat.le_trans HB_coins.out hbz.size)
      have HR_l := Lib.hid (HR_l.out.keep fun b hb' => hbz.block b (Nat.lt_of_lt_of_le hb' HB_l.out))
      have HB_l := Lib.hid (Nat.le_trans HB_l.out hbz.size)
      have HW0_0 := Lib.hid (rBankW.keep HW0_0.out fun b hb' => hbz.block b (Nat.lt_of_lt_of_le hb' HW0_0_s.out))
      have HW0_0_s := Lib.hid (Nat.le_trans HW0_0_s.out hbz.size)
      have HW0_1 := Lib.hid (HW0_1.out.keep fun b hb' => hbz.block b (Nat.lt_of_lt_of_le hb' HW0_1_s.out))
      have HW0_1_s := Lib.hid (Nat.le_trans HW0_1_s.out hbz.size)
      have HXx_coins := Lib.hid (HXx_coins.out.keep fun b hb' => hbz.block b (Nat.lt_of_lt_of_le hb' HXx_coins_s.out))
      have HXx_coins_s := Lib.hid (Nat.le_trans HXx_coins_s.out hbz.size)
      have OX_coins := Lib.hid (OX_coins.out.okeep fun b hb' => hbz.block b (OX_coins.out.olt b hb'))
      have KW_0 := Lib.hid (KW_0.out.bel hbz)
      have HT15 := Lib.hid (below_step HT13.out hbz)
      have HXx_l := Lib.hid (ho14.weak (B := v14.heap.size) ho14.olt)
      have HXx_l_s := Lib.hid (Nat.le_refl v14.heap.size)
      have OX_l := Lib.hid ho14
      clear ho14 hnd14 hf14
      clear hbz
      go_wp2_with fail
      refine (implPlayBank_c coins l _ _ _ _ _ _ _ _ (HXx_coins.out.more HXx_coins_s.out) (HXx_l.out.more HXx_l_s.out) (Nat.le_refl _)).mono ?_
      rintro e v16 ⟨cs16_0, A16_1, n16_1, c16_1, fp16_0, fp16_1, rfl, hS16⟩
      have hbz := hS16.bel0
      have ho16_0 : rBankW.own v16 ((Pl.playBank coins l).1) cs16_0 fp16_0 := hS16.at_ 0 rfl
      have hnd16_0 := hS16.ndat (i := 0) rfl
      have hf16_0 : ∀ b, b ∈ fp16_0 → _ ≤ b := fun b hb' => (hS16.new b (Mm.SepF.mem (i := 0) rfl hb')).resolve_left (fun hh => by cases hh)
      have ho16_1 : Mm.SlOwn Mm.bool 4 v16 ((Pl.playBank coins l).2.1) (.slice A16_1 n16_1 c16_1) fp16_1 := hS16.at_ 1 rfl
      have hnd16_1 := hS16.ndat (i := 1) rfl
      have hf16_1 : ∀ b, b ∈ fp16_1 → _ ≤ b := fun b hb' => (hS16.new b (Mm.SepF.mem (i := 1) rfl hb')).resolve_left (fun hh => by cases hh)
      have DP16_0_1 := Lib.hid (show ∀ b, b ∈ fp16_0 → b ∉ fp16_1 from hS16.apart (i := 0) (j := 1) rfl rfl (by decide))
      have DP16_1_0 := Lib.hid (show ∀ b, b ∈ fp16_1 → b ∉ fp16_0 from hS16.apart (i := 1) (j := 0) rfl rfl (by decide))
      obtain ⟨A0_16_0, n0_16_0, c0_16_0, A1_16_0, n1_16_0, c1_16_0, A2_16_0, n2_16_0, c2_16_0, A3_16_0, n3_16_0, c3_16_0, A4_16_0, n4_16_0, c4_16_0, _, _, _, _, _, rfl, -⟩ := rBankW_own ho16_0
      clear hS16
      have AP16_0_HR_coins := Lib.hid (show ∀ b, b ∈ fp16_0 → w.heap.size ≤ b from fun b hb' => Nat.le_trans HB_coins.out (hf16_0 b hb'))
      have AP16_0_HR_l := Lib.hid (show ∀ b, b ∈ fp16_0 → w.heap.size ≤ b from fun b hb' => Nat.le_trans HB_l.out (hf16_0 b hb'))
      have AP16_0_HW0_0 := Lib.hid (show ∀ b, b ∈ fp16_0 → v9.heap.size ≤ b from fun b hb' => Nat.le_trans HW0_0_s.out (hf16_0 b hb'))
      have AP16_0_HW0_1 := Lib.hid (show ∀ b, b ∈ fp16_0 → v9.heap.size ≤ b from fun b hb' => Nat.le_trans HW0_1_s.out (hf16_0 b hb'))
      have AP16_0_HXx_coins := Lib.hid (show ∀ b, b ∈ fp16_0 → v12.heap.size ≤ b from fun b hb' => Nat.le_trans HXx_coins_s.out (hf16_0 b hb'))
      have AP16_0_HXx_l := Lib.hid (show ∀ b, b ∈ fp16_0 → v14.heap.size ≤ b from fun b hb' => Nat.le_trans HXx_l_s.out (hf16_0 b hb'))
      have DP16_0_OX_coins := Lib.hid (show ∀ b, b ∈ fp16_0 → b ∉ fp12 from fun b hb' hm => by have := OX_coins.out.olt b hm; have := hf16_0 b hb'; omega)
      have DP16_0_OX_l := Lib.hid (show ∀ b, b ∈ fp16_0 → b ∉ fp14 from fun b hb' hm => by have := OX_l.out.olt b hm; have := hf16_0 b hb'; omega)
      have NB16_0_KW_0 := Lib.hid (show ¬ v9.heap.size ∈ fp16_0 from fun hm => by have := KW_0.out.lt; have := hf16_0 _ hm; omega)
      have FR16_0 := Lib.hid (show ∀ b, b ∈ fp16_0 → w.heap.size ≤ b from fun b hb' => Nat.le_trans HT15.out.size (hf16_0 b hb'))
      have ND16_0 := Lib.hid hnd16_0
      have LT16_0 := Lib.hid (show ∀ b, b ∈ fp16_0 → b < v16.heap.size from rBankW.olt ho16_0)
      have AP16_1_HR_coins := Lib.hid (show ∀ b, b ∈ fp16_1 → w.heap.size ≤ b from fun b hb' => Nat.le_trans HB_coins.out (hf16_1 b hb'))
      have AP16_1_HR_l := Lib.hid (show ∀ b, b ∈ fp16_1 → w.heap.size ≤ b from fun b hb' => Nat.le_trans HB_l.out (hf16_1 b hb'))
      have AP16_1_HW0_0 := Lib.hid (show ∀ b, b ∈ fp16_1 → v9.heap.size ≤ b from fun b hb' => Nat.le_trans HW0_0_s.out (hf16_1 b hb'))
      have AP16_1_HW0_1 := Lib.hid (show ∀ b, b ∈ fp16_1 → v9.heap.size ≤ b from fun b hb' => Nat.le_trans HW0_1_s.out (hf16_1 b hb'))
      have AP16_1_HXx_coins := Lib.hid (show ∀ b, b ∈ fp16_1 → v12.heap.size ≤ b from fun b hb' => Nat.le_trans HXx_coins_s.out (hf16_1 b hb'))
      have AP16_1_HXx_l := Lib.hid (show ∀ b, b ∈ fp16_1 → v14.heap.size ≤ b from fun b hb' => Nat.le_trans HXx_l_s.out (hf16_1 b hb'))
      have DP16_1_OX_coins := Lib.hid (show ∀ b, b ∈ fp16_1 → b ∉ fp12 from fun b hb' hm => by have := OX_coins.out.olt b hm; have := hf16_1 b hb'; omega)
      have DP16_1_OX_l := Lib.hid (show ∀ b, b ∈ fp16_1 → b ∉ fp14 from fun b hb' hm => by have := OX_l.out.olt b hm; have := hf16_1 b hb'; omega)
      have NB16_1_KW_0 := Lib.hid (show ¬ v9.heap.size ∈ fp16_1 from fun hm => by have := KW_0.out.lt; have := hf16_1 _ hm; omega)
      have FR16_1 := Lib.hid (show ∀ b, b ∈ fp16_1 → w.heap.size ≤ b from fun b hb' => Nat.le_trans HT15.out.size (hf16_1 b hb'))
      have ND16_1 := Lib.hid hnd16_1
      have LT16_1 := Lib.hid (show ∀ b, b ∈ fp16_1 → b < v16.heap.size from ho16_1.olt)
      have HR_coins := Lib.hid (HR_coins.out.keep fun b hb' => hbz.block b (Nat.lt_of_lt_of_le hb' HB_coins.out))
      have HB_coins := Lib.hid (Nat.le_trans HB_coins.out hbz.size)
      have HR_l := Lib.hid (HR_l.out.keep fun b hb' => hbz.block b (Nat.lt_of_lt_of_le hb' HB_l.out))
      have HB_l := Lib.hid (Nat.le_trans HB_l.out hbz.size)
      have HW0_0 := Lib.hid (rBankW.keep HW0_0.out fun b hb' => hbz.block b (Nat.lt_of_lt_of_le hb' HW0_0_s.out))
      have HW0_0_s := Lib.hid (Nat.le_trans HW0_0_s.out hbz.size)
      have HW0_1 := Lib.hid (HW0_1.out.keep fun b hb' => hbz.block b (Nat.lt_of_lt_of_le hb' HW0_1_s.out))
      have HW0_1_s := Lib.hid (Nat.le_trans HW0_1_s.out hbz.size)
      have HXx_coins := Lib.hid (HXx_coins.out.keep fun b hb' => hbz.block b (Nat.lt_of_lt_of_le hb' HXx_coins_s.out))
      have HXx_coins_s := Lib.hid (Nat.le_trans HXx_coins_s.out hbz.size)
      have HXx_l := Lib.hid (HXx_l.out.keep fun b hb' => hbz.block b (Nat.lt_of_lt_of_le hb' HXx_l_s.out))
      have HXx_l_s := Lib.hid (Nat.le_trans HXx_l_s.out hbz.size)
      have OX_coins := Lib.hid (OX_coins.out.okeep fun b hb' => hbz.block b (OX_coins.out.olt b hb'))
      have OX_l := Lib.hid (OX_l.out.okeep fun b hb' => hbz.block b (OX_l.out.olt b hb'))
      have KW_0 := Lib.hid (KW_0.out.bel hbz)
      have HT17 := Lib.hid (below_step HT15.out hbz)
      have OG_0 := Lib.hid ho16_0
      clear ho16_0 hnd16_0 hf16_0
      have OG_1 := Lib.hid ho16_1
      clear ho16_1 hnd16_1 hf16_1
      clear hbz
      have NIKG_0_fp12 := Lib.hid (show ¬ v16.heap.size ∈ fp12 from fun hm => Nat.lt_irrefl _ (OX_coins.out.olt _ hm))
      have NIKG_0_fp14 := Lib.hid (show ¬ v16.heap.size ∈ fp14 from fun hm => Nat.lt_irrefl _ (OX_l.out.olt _ hm))
      have NIKG_0_fp16_0 := Lib.hid (show ¬ v16.heap.size ∈ fp16_0 from fun hm => Nat.lt_irrefl _ (rBankW.olt OG_0.out _ hm))
      have NIKG_0_fp16_1 := Lib.hid (show ¬ v16.heap.size ∈ fp16_1 from fun hm => Nat.lt_irrefl _ (OG_1.out.olt _ hm))
      have hbx : Below v16.heap.size v16 (v16.alloc (.cells #[.slice A0_16_0 n0_16_0 c0_16_0, .slice A1_16_0 n1_16_0 c1_16_0, .slice A2_16_0 n2_16_0 c2_16_0, .slice A3_16_0 n3_16_0 c3_16_0, .slice A4_16_0 n4_16_0 c4_16_0] 28)) := below_new (Below.refl _ _) _
      have HR_coins := Lib.hid (HR_coins.out.keep fun b hb' => hbx.block b (Nat.lt_of_lt_of_le hb' HB_coins.out))
      have HB_coins := Lib.hid (Nat.le_trans HB_coins.out hbx.size)
      have HR_l := Lib.hid (HR_l.out.keep fun b hb' => hbx.block b (Nat.lt_of_lt_of_le hb' HB_l.out))
      have HB_l := Lib.hid (Nat.le_trans HB_l.out hbx.size)
      have HW0_0 := Lib.hid (rBankW.keep HW0_0.out fun b hb' => hbx.block b (Nat.lt_of_lt_of_le hb' HW0_0_s.out))
      have HW0_0_s := Lib.hid (Nat.le_trans HW0_0_s.out hbx.size)
      have HW0_1 := Lib.hid (HW0_1.out.keep fun b hb' => hbx.block b (Nat.lt_of_lt_of_le hb' HW0_1_s.out))
      have HW0_1_s := Lib.hid (Nat.le_trans HW0_1_s.out hbx.size)
      have HXx_coins := Lib.hid (HXx_coins.out.keep fun b hb' => hbx.block b (Nat.lt_of_lt_of_le hb' HXx_coins_s.out))
      have HXx_coins_s := Lib.hid (Nat.le_trans HXx_coins_s.out hbx.size)
      have HXx_l := Lib.hid (HXx_l.out.keep fun b hb' => hbx.block b (Nat.lt_of_lt_of_le hb' HXx_l_s.out))
      have HXx_l_s := Lib.hid (Nat.le_trans HXx_l_s.out hbx.size)
      have OX_coins := Lib.hid (OX_coins.out.okeep fun b hb' => hbx.block b (OX_coins.out.olt b hb'))
      have OX_l := Lib.hid (OX_l.out.okeep fun b hb' => hbx.block b (OX_l.out.olt b hb'))
      have OG_0 := Lib.hid (rBankW.okeep OG_0.out fun b hb' => hbx.block b (rBankW.olt OG_0.out b hb'))
      have OG_1 := Lib.hid (OG_1.out.okeep fun b hb' => hbx.block b (OG_1.out.olt b hb'))
      have KW_0 := Lib.hid (KW_0.out.bel hbx)
      have HT18 := Lib.hid (below_step HT17.out hbx)
      clear hbx
      have KG_0 := Lib.hid (Mm.Blk.new v16 28 [.slice A0_16_0 n0_16_0 c0_16_0, .slice A1_16_0 n1_16_0 c1_16_0, .slice A2_16_0 n2_16_0 c2_16_0, .slice A3_16_0 n3_16_0 c3_16_0, .slice A4_16_0 n4_16_0 c4_16_0])
      have c19_KW_0_0 := KW_0.out.cell (i := 0) rfl
      have c19_KW_0_1 := KW_0.out.cell (i := 1) rfl
      have c19_KW_0_2 := KW_0.out.cell (i := 2) rfl
      have c19_KW_0_3 := KW_0.out.cell (i := 3) rfl
      have c19_KW_0_4 := KW_0.out.cell (i := 4) rfl
      have c19_KG_0_0 := KG_0.out.cell (i := 0) rfl
      have c19_KG_0_1 := KG_0.out.cell (i := 1) rfl
      have c19_KG_0_2 := KG_0.out.cell (i := 2) rfl
      have c19_KG_0_3 := KG_0.out.cell (i := 3) rfl
      have c19_KG_0_4 := KG_0.out.cell (i := 4) rfl
      go_wp2_with fail
      refine (eqBank_at ((Pl.playBank coins l).1) _ _ _ _ (rBankW.weak OG_0.out (B := _) (rBankW.olt OG_0.out)) (rBankW.more HW0_0.out HW0_0_s.out) (Nat.le_refl _)).mono ?_
      rintro e v20 ⟨rfl, hbz⟩
      have HR_coins := Lib.hid (HR_coins.out.keep fun b hb' => hbz.block b (Nat.lt_of_lt_of_le hb' HB_coins.out))
      have HB_coins := Lib.hid (Nat.le_trans HB_coins.out hbz.size)
      have HR_l := Lib.hid (HR_l.out.keep fun b hb' => hbz.block b (Nat.lt_of_lt_of_le hb' HB_l.out))
      have HB_l := Lib.hid (Nat.le_trans HB_l.out hbz.size)
      have HW0_0 := Lib.hid (rBankW.keep HW0_0.out fun b hb' => hbz.block b (Nat.lt_of_lt_of_le hb' HW0_0_s.out))
      have HW0_0_s := Lib.hid (Nat.le_trans HW0_0_s.out hbz.size)
      have HW0_1 := Lib.hid (HW0_1.out.keep fun b hb' => hbz.block b (Nat.lt_of_lt_of_le hb' HW0_1_s.out))
      have HW0_1_s := Lib.hid (Nat.le_trans HW0_1_s.out hbz.size)
      have HXx_coins := Lib.hid (HXx_coins.out.keep fun b hb' => hbz.block b (Nat.lt_of_lt_of_le hb' HXx_coins_s.out))
      have HXx_coins_s := Lib.hid (Nat.le_trans HXx_coins_s.out hbz.size)
      have HXx_l := Lib.hid (HXx_l.out.keep fun b hb' => hbz.block b (Nat.lt_of_lt_of_le hb' HXx_l_s.out))
      have HXx_l_s := Lib.hid (Nat.le_trans HXx_l_s.out hbz.size)
      have OX_coins := Lib.hid (OX_coins.out.okeep fun b hb' => hbz.block b (OX_coins.out.olt b hb'))
      have OX_l := Lib.hid (OX_l.out.okeep fun b hb' => hbz.block b (OX_l.out.olt b hb'))
      have OG_0 := Lib.hid (rBankW.okeep OG_0.out fun b hb' => hbz.block b (rBankW.olt OG_0.out b hb'))
      have OG_1 := Lib.hid (OG_1.out.okeep fun b hb' => hbz.block b (OG_1.out.olt b hb'))
      have KW_0 := Lib.hid (KW_0.out.bel hbz)
      have KG_0 := Lib.hid (KG_0.out.bel hbz)
      have HT21 := Lib.hid (below_step HT18.out hbz)
      clear hbz
      go_wp2_with fail
      refine (eqBoolS_c ((Pl.playBank coins l).2.1) _ _ _ _ _ _ _ _ (OG_1.out.weak (B := _) OG_1.out.olt) (HW0_1.out.more HW0_1_s.out) (Nat.le_refl _)).mono ?_
      rintro e v22 ⟨rfl, hbz⟩
      have HR_coins := Lib.hid (HR_coins.out.keep fun b hb' => hbz.block b (Nat.lt_of_lt_of_le hb' HB_coins.out))
      have HB_coins := Lib.hid (Nat.le_trans HB_coins.out hbz.size)
      have HR_l := Lib.hid (HR_l.out.keep fun b hb' => hbz.block b (Nat.lt_of_lt_of_le hb' HB_l.out))
      have HB_l := Lib.hid (Nat.le_trans HB_l.out hbz.size)
      have HW0_0 := Lib.hid (rBankW.keep HW0_0.out fun b hb' => hbz.block b (Nat.lt_of_lt_of_le hb' HW0_0_s.out))
      have HW0_0_s := Lib.hid (Nat.le_trans HW0_0_s.out hbz.size)
      have HW0_1 := Lib.hid (HW0_1.out.keep fun b hb' => hbz.block b (Nat.lt_of_lt_of_le hb' HW0_1_s.out))
      have HW0_1_s := Lib.hid (Nat.le_trans HW0_1_s.out hbz.size)
      have HXx_coins := Lib.hid (HXx_coins.out.keep fun b hb' => hbz.block b (Nat.lt_of_lt_of_le hb' HXx_coins_s.out))
      have HXx_coins_s := Lib.hid (Nat.le_trans HXx_coins_s.out hbz.size)
      have HXx_l := Lib.hid (HXx_l.out.keep fun b hb' => hbz.block b (Nat.lt_of_lt_of_le hb' HXx_l_s.out))
      have HXx_l_s := Lib.hid (Nat.le_trans HXx_l_s.out hbz.size)
      have OX_coins := Lib.hid (OX_coins.out.okeep fun b hb' => hbz.block b (OX_coins.out.olt b hb'))
      have OX_l := Lib.hid (OX_l.out.okeep fun b hb' => hbz.block b (OX_l.out.olt b hb'))
      have OG_0 := Lib.hid (rBankW.okeep OG_0.out fun b hb' => hbz.block b (rBankW.olt OG_0.out b hb'))
      have OG_1 := Lib.hid (OG_1.out.okeep fun b hb' => hbz.block b (OG_1.out.olt b hb'))
      have KW_0 := Lib.hid (KW_0.out.bel hbz)
      have KG_0 := Lib.hid (KG_0.out.bel hbz)
      have HT23 := Lib.hid (below_step HT21.out hbz)
      clear hbz
      go_wp2_with fail
      refine (toIntS_c coins _ _ _ _ w.heap.size HR_coins.out HB_coins.out (by omega)).mono ?_
      rintro e v24 ⟨A24, n24, c24, fp24, rfl, ho24, hnd24, hf24, hbz⟩
      have HR_coins := Lib.hid (HR_coins.out.keep fun b hb' => hbz.block b (Nat.lt_of_lt_of_le hb' HB_coins.out))
      have HB_coins := Lib.hid (Nat.le_trans HB_coins.out hbz.size)
      have HR_l := Lib.hid (HR_l.out.keep fun b hb' => hbz.block b (Nat.lt_of_lt_of_le hb' HB_l.out))
      have HB_l := Lib.hid (Nat.le_trans HB_l.out hbz.size)
      have HW0_0 := Lib.hid (rBankW.keep HW0_0.out fun b hb' => hbz.block b (Nat.lt_of_lt_of_le hb' HW0_0_s.out))
      have HW0_0_s := Lib.hid (Nat.le_trans HW0_0_s.out hbz.size)
      have HW0_1 := Lib.hid (HW0_1.out.keep fun b hb' => hbz.block b (Nat.lt_of_lt_of_le hb' HW0_1_s.out))
      have HW0_1_s := Lib.hid (Nat.le_trans HW0_1_s.out hbz.size)
      have HXx_coins := Lib.hid (HXx_coins.out.keep fun b hb' => hbz.block b (Nat.lt_of_lt_of_le hb' HXx_coins_s.out))
      have HXx_coins_s := Lib.hid (Nat.le_trans HXx_coins_s.out hbz.size)
      have HXx_l := Lib.hid (HXx_l.out.keep fun b hb' => hbz.block b (Nat.lt_of_lt_of_le hb' HXx_l_s.out))
      have HXx_l_s := Lib.hid (Nat.le_trans HXx_l_s.out hbz.size)
      have OX_coins := Lib.hid (OX_coins.out.okeep fun b hb' => hbz.block b (OX_coins.out.olt b hb'))
      have OX_l := Lib.hid (OX_l.out.okeep fun b hb' => hbz.block b (OX_l.out.olt b hb'))
      have OG_0 := Lib.hid (rBankW.okeep OG_0.out fun b hb' => hbz.block b (rBankW.olt OG_0.out b hb'))
      have OG_1 := Lib.hid (OG_1.out.okeep fun b hb' => hbz.block b (OG_1.out.olt b hb'))
      have KW_0 := Lib.hid (KW_0.out.bel hbz)
      have KG_0 := Lib.hid (KG_0.out.bel hbz)
      have HT25 := Lib.hid (below_step HT23.out hbz)
      have HXz_coins := Lib.hid (ho24.weak (B := v24.heap.size) ho24.olt)
      have HXz_coins_s := Lib.hid (Nat.le_refl v24.heap.size)
      clear ho24 hnd24 hf24
      clear hbz
      go_wp2_with fail
      refine (eqIntS_c coins _ _ _ _ _ _ _ v24.heap.size (HXx_coins.out.more HXx_coins_s.out) HXz_coins.out (Nat.le_refl _)).mono ?_
      rintro e v26 ⟨rfl, hbz⟩
      have HR_coins := Lib.hid (HR_coins.out.keep fun b hb' => hbz.block b (Nat.lt_of_lt_of_le hb' HB_coins.out))
      have HB_coins := Lib.hid (Nat.le_trans HB_coins.out hbz.size)
      have HR_l := Lib.hid (HR_l.out.keep fun b hb' => hbz.block b (Nat.lt_of_lt_of_le hb' HB_l.out))
      have HB_l := Lib.hid (Nat.le_trans HB_l.out hbz.size)
      have HW0_0 := Lib.hid (rBankW.keep HW0_0.out fun b hb' => hbz.block b (Nat.lt_of_lt_of_le hb' HW0_0_s.out))
      have HW0_0_s := Lib.hid (Nat.le_trans HW0_0_s.out hbz.size)
      have HW0_1 := Lib.hid (HW0_1.out.keep fun b hb' => hbz.block b (Nat.lt_of_lt_of_le hb' HW0_1_s.out))
      have HW0_1_s := Lib.hid (Nat.le_trans HW0_1_s.out hbz.size)
      have HXx_coins := Lib.hid (HXx_coins.out.keep fun b hb' => hbz.block b (Nat.lt_of_lt_of_le hb' HXx_coins_s.out))
      have HXx_coins_s := Lib.hid (Nat.le_trans HXx_coins_s.out hbz.size)
      have HXx_l := Lib.hid (HXx_l.out.keep fun b hb' => hbz.block b (Nat.lt_of_lt_of_le hb' HXx_l_s.out))
      have HXx_l_s := Lib.hid (Nat.le_trans HXx_l_s.out hbz.size)
      have HXz_coins := Lib.hid (HXz_coins.out.keep fun b hb' => hbz.block b (Nat.lt_of_lt_of_le hb' HXz_coins_s.out))
      have HXz_coins_s := Lib.hid (Nat.le_trans HXz_coins_s.out hbz.size)
      have OX_coins := Lib.hid (OX_coins.out.okeep fun b hb' => hbz.block b (OX_coins.out.olt b hb'))
      have OX_l := Lib.hid (OX_l.out.okeep fun b hb' => hbz.block b (OX_l.out.olt b hb'))
      have OG_0 := Lib.hid (rBankW.okeep OG_0.out fun b hb' => hbz.block b (rBankW.olt OG_0.out b hb'))
      have OG_1 := Lib.hid (OG_1.out.okeep fun b hb' => hbz.block b (OG_1.out.olt b hb'))
      have KW_0 := Lib.hid (KW_0.out.bel hbz)
      have KG_0 := Lib.hid (KG_0.out.bel hbz)
      have HT27 := Lib.hid (below_step HT25.out hbz)
      clear hbz
      go_wp2_with fail
      refine (toSnapStepS_c l _ _ _ _ w.heap.size HR_l.out HB_l.out (by omega)).mono ?_
      rintro e v28 ⟨A28, n28, c28, fp28, rfl, ho28, hnd28, hf28, hbz⟩
      have HR_coins := Lib.hid (HR_coins.out.keep fun b hb' => hbz.block b (Nat.lt_of_lt_of_le hb' HB_coins.out))
      have HB_coins := Lib.hid (Nat.le_trans HB_coins.out hbz.size)
      have HR_l := Lib.hid (HR_l.out.keep fun b hb' => hbz.block b (Nat.lt_of_lt_of_le hb' HB_l.out))
      have HB_l := Lib.hid (Nat.le_trans HB_l.out hbz.size)
      have HW0_0 := Lib.hid (rBankW.keep HW0_0.out fun b hb' => hbz.block b (Nat.lt_of_lt_of_le hb' HW0_0_s.out))
      have HW0_0_s := Lib.hid (Nat.le_trans HW0_0_s.out hbz.size)
      have HW0_1 := Lib.hid (HW0_1.out.keep fun b hb' => hbz.block b (Nat.lt_of_lt_of_le hb' HW0_1_s.out))
      have HW0_1_s := Lib.hid (Nat.le_trans HW0_1_s.out hbz.size)
      have HXx_coins := Lib.hid (HXx_coins.out.keep fun b hb' => hbz.block b (Nat.lt_of_lt_of_le hb' HXx_coins_s.out))
      have HXx_coins_s := Lib.hid (Nat.le_trans HXx_coins_s.out hbz.size)
      have HXx_l := Lib.hid (HXx_l.out.keep fun b hb' => hbz.block b (Nat.lt_of_lt_of_le hb' HXx_l_s.out))
      have HXx_l_s := Lib.hid (Nat.le_trans HXx_l_s.out hbz.size)
      have OX_coins := Lib.hid (OX_coins.out.okeep fun b hb' => hbz.block b (OX_coins.out.olt b hb'))
      have OX_l := Lib.hid (OX_l.out.okeep fun b hb' => hbz.block b (OX_l.out.olt b hb'))
      have OG_0 := Lib.hid (rBankW.okeep OG_0.out fun b hb' => hbz.block b (rBankW.olt OG_0.out b hb'))
      have OG_1 := Lib.hid (OG_1.out.okeep fun b hb' => hbz.block b (OG_1.out.olt b hb'))
      have KW_0 := Lib.hid (KW_0.out.bel hbz)
      have KG_0 := Lib.hid (KG_0.out.bel hbz)
      have HT29 := Lib.hid (below_step HT27.out hbz)
      have HXz_l := Lib.hid (ho28.weak (B := v28.heap.size) ho28.olt)
      have HXz_l_s := Lib.hid (Nat.le_refl v28.heap.size)
      clear ho28 hnd28 hf28
      clear hbz
      go_wp2_with fail
      refine (eqSnapStepS_c l _ _ _ _ _ _ _ v28.heap.size (HXx_l.out.more HXx_l_s.out) HXz_l.out (Nat.le_refl _)).mono ?_
      rintro e v30 ⟨rfl, hbz⟩
      have HR_coins := Lib.hid (HR_coins.out.keep fun b hb' => hbz.block b (Nat.lt_of_lt_of_le hb' HB_coins.out))
      have HB_coins := Lib.hid (Nat.le_trans HB_coins.out hbz.size)
      have HR_l := Lib.hid (HR_l.out.keep fun b hb' => hbz.block b (Nat.lt_of_lt_of_le hb' HB_l.out))
      have HB_l := Lib.hid (Nat.le_trans HB_l.out hbz.size)
      have HW0_0 := Lib.hid (rBankW.keep HW0_0.out fun b hb' => hbz.block b (Nat.lt_of_lt_of_le hb' HW0_0_s.out))
      have HW0_0_s := Lib.hid (Nat.le_trans HW0_0_s.out hbz.size)
      have HW0_1 := Lib.hid (HW0_1.out.keep fun b hb' => hbz.block b (Nat.lt_of_lt_of_le hb' HW0_1_s.out))
      have HW0_1_s := Lib.hid (Nat.le_trans HW0_1_s.out hbz.size)
      have HXx_coins := Lib.hid (HXx_coins.out.keep fun b hb' => hbz.block b (Nat.lt_of_lt_of_le hb' HXx_coins_s.out))
      have HXx_coins_s := Lib.hid (Nat.le_trans HXx_coins_s.out hbz.size)
      have HXx_l := Lib.hid (HXx_l.out.keep fun b hb' => hbz.block b (Nat.lt_of_lt_of_le hb' HXx_l_s.out))
      have HXx_l_s := Lib.hid (Nat.le_trans HXx_l_s.out hbz.size)
      have HXz_l := Lib.hid (HXz_l.out.keep fun b hb' => hbz.block b (Nat.lt_of_lt_of_le hb' HXz_l_s.out))
      have HXz_l_s := Lib.hid (Nat.le_trans HXz_l_s.out hbz.size)
      have OX_coins := Lib.hid (OX_coins.out.okeep fun b hb' => hbz.block b (OX_coins.out.olt b hb'))
      have OX_l := Lib.hid (OX_l.out.okeep fun b hb' => hbz.block b (OX_l.out.olt b hb'))
      have OG_0 := Lib.hid (rBankW.okeep OG_0.out fun b hb' => hbz.block b (rBankW.olt OG_0.out b hb'))
      have OG_1 := Lib.hid (OG_1.out.okeep fun b hb' => hbz.block b (OG_1.out.olt b hb'))
      have KW_0 := Lib.hid (KW_0.out.bel hbz)
      have KG_0 := Lib.hid (KG_0.out.bel hbz)
      have HT31 := Lib.hid (below_step HT29.out hbz)
      clear hbz
      have hcn_coins := Mm.cntL_nn (cnt := Pl.cnt1) (Pl.cnt1_nn) coins
      have hcb_coins : (Mm.cntL Pl.cnt1) coins ≤ 50000000 := by have := Pl.cntLb (cnt := Pl.cnt1) (f := Pl.sz0) (fun x => by have := Pl.sz0_nn x; unfold Pl.cnt1; omega) coins; omega
      have hcn_l := Mm.cntL_nn (cnt := Pl.cntSnapStep) (Pl.cntSnapStep_nn) l
      have hcb_l : (Mm.cntL Pl.cntSnapStep) l ≤ 50000000 := by have := Pl.cntLb (cnt := Pl.cntSnapStep) (f := Pl.sz0) (Pl.cntbSnapStep) l; omega
      go_wp2_with fail
      refine (markIntS_c coins _ _ _ _ _ _ OX_coins.out ND12.out (by omega) (by omega)).mono ?_
      rintro e v32 ⟨rfl, hch, -⟩
      have HR_coins := Lib.hid (HR_coins.out.keep fun b hb' => hch.block b (Nat.lt_of_lt_of_le hb' HB_coins.out) (fun hm => by have := AP12_HR_coins.out b hm; omega))
      have HB_coins := Lib.hid (Nat.le_trans HB_coins.out hch.size)
      have HR_l := Lib.hid (HR_l.out.keep fun b hb' => hch.block b (Nat.lt_of_lt_of_le hb' HB_l.out) (fun hm => by have := AP12_HR_l.out b hm; omega))
      have HB_l := Lib.hid (Nat.le_trans HB_l.out hch.size)
      have HW0_0 := Lib.hid (rBankW.keep HW0_0.out fun b hb' => hch.block b (Nat.lt_of_lt_of_le hb' HW0_0_s.out) (fun hm => by have := AP12_HW0_0.out b hm; omega))
      have HW0_0_s := Lib.hid (Nat.le_trans HW0_0_s.out hch.size)
      have HW0_1 := Lib.hid (HW0_1.out.keep fun b hb' => hch.block b (Nat.lt_of_lt_of_le hb' HW0_1_s.out) (fun hm => by have := AP12_HW0_1.out b hm; omega))
      have HW0_1_s := Lib.hid (Nat.le_trans HW0_1_s.out hch.size)
      have OX_l := Lib.hid (OX_l.out.okeep fun b hb' => hch.block b (OX_l.out.olt b hb') (fun hm => DP14_OX_coins.out b hb' hm))
      have OG_0 := Lib.hid (rBankW.okeep OG_0.out fun b hb' => hch.block b (rBankW.olt OG_0.out b hb') (fun hm => DP16_0_OX_coins.out b hb' hm))
      have OG_1 := Lib.hid (OG_1.out.okeep fun b hb' => hch.block b (OG_1.out.olt b hb') (fun hm => DP16_1_OX_coins.out b hb' hm))
      have KW_0 := Lib.hid (KW_0.out.keep (hch.block _ KW_0.out.lt (NB12_KW_0.out)))
      have KG_0 := Lib.hid (KG_0.out.keep (hch.block _ KG_0.out.lt (NIKG_0_fp12.out)))
      have HT33 := Lib.hid (Mm.Below.chg HT31.out hch HT31.out.size FR12.out)
      clear hch
      go_wp2_with fail
      refine (markSnapStepS_c l _ _ _ _ _ _ OX_l.out ND14.out (by omega) (by omega)).mono ?_
      rintro e v34 ⟨rfl, hch, -⟩
      have HR_coins := Lib.hid (HR_coins.out.keep fun b hb' => hch.block b (Nat.lt_of_lt_of_le hb' HB_coins.out) (fun hm => by have := AP14_HR_coins.out b hm; omega))
      have HB_coins := Lib.hid (Nat.le_trans HB_coins.out hch.size)
      have HR_l := Lib.hid (HR_l.out.keep fun b hb' => hch.block b (Nat.lt_of_lt_of_le hb' HB_l.out) (fun hm => by have := AP14_HR_l.out b hm; omega))
      have HB_l := Lib.hid (Nat.le_trans HB_l.out hch.size)
      have HW0_0 := Lib.hid (rBankW.keep HW0_0.out fun b hb' => hch.block b (Nat.lt_of_lt_of_le hb' HW0_0_s.out) (fun hm => by have := AP14_HW0_0.out b hm; omega))
      have HW0_0_s := Lib.hid (Nat.le_trans HW0_0_s.out hch.size)
      have HW0_1 := Lib.hid (HW0_1.out.keep fun b hb' => hch.block b (Nat.lt_of_lt_of_le hb' HW0_1_s.out) (fun hm => by have := AP14_HW0_1.out b hm; omega))
      have HW0_1_s := Lib.hid (Nat.le_trans HW0_1_s.out hch.size)
      have OG_0 := Lib.hid (rBankW.okeep OG_0.out fun b hb' => hch.block b (rBankW.olt OG_0.out b hb') (fun hm => DP16_0_OX_l.out b hb' hm))
      have OG_1 := Lib.hid (OG_1.out.okeep fun b hb' => hch.block b (OG_1.out.olt b hb') (fun hm => DP16_1_OX_l.out b hb' hm))
      have KW_0 := Lib.hid (KW_0.out.keep (hch.block _ KW_0.out.lt (NB14_KW_0.out)))
      have KG_0 := Lib.hid (KG_0.out.keep (hch.block _ KG_0.out.lt (NIKG_0_fp14.out)))
      have HT35 := Lib.hid (Mm.Below.chg HT33.out hch HT33.out.size FR14.out)
      clear hch
      have c36_KW_0_0 := KW_0.out.cell (i := 0) rfl
      have c36_KW_0_1 := KW_0.out.cell (i := 1) rfl
      have c36_KW_0_2 := KW_0.out.cell (i := 2) rfl
      have c36_KW_0_3 := KW_0.out.cell (i := 3) rfl
      have c36_KW_0_4 := KW_0.out.cell (i := 4) rfl
      have c36_KG_0_0 := KG_0.out.cell (i := 0) rfl
      have c36_KG_0_1 := KG_0.out.cell (i := 1) rfl
      have c36_KG_0_2 := KG_0.out.cell (i := 2) rfl
      have c36_KG_0_3 := KG_0.out.cell (i := 3) rfl
      have c36_KG_0_4 := KG_0.out.cell (i := 4) rfl
      go_wp2_with fail
      refine (eqBank_at ((Pl.playBank coins l).1) _ _ _ _ (rBankW.weak OG_0.out (B := _) (rBankW.olt OG_0.out)) (rBankW.more HW0_0.out HW0_0_s.out) (Nat.le_refl _)).mono ?_
      rintro e v37 ⟨rfl, hbz⟩
      have HR_coins := Lib.hid (HR_coins.out.keep fun b hb' => hbz.block b (Nat.lt_of_lt_of_le hb' HB_coins.out))
      have HB_coins := Lib.hid (Nat.le_trans HB_coins.out hbz.size)
      have HR_l := Lib.hid (HR_l.out.keep fun b hb' => hbz.block b (Nat.lt_of_lt_of_le hb' HB_l.out))
      have HB_l := Lib.hid (Nat.le_trans HB_l.out hbz.size)
      have HW0_0 := Lib.hid (rBankW.keep HW0_0.out fun b hb' => hbz.block b (Nat.lt_of_lt_of_le hb' HW0_0_s.out))
      have HW0_0_s := Lib.hid (Nat.le_trans HW0_0_s.out hbz.size)
      have HW0_1 := Lib.hid (HW0_1.out.keep fun b hb' => hbz.block b (Nat.lt_of_lt_of_le hb' HW0_1_s.out))
      have HW0_1_s := Lib.hid (Nat.le_trans HW0_1_s.out hbz.size)
      have OG_0 := Lib.hid (rBankW.okeep OG_0.out fun b hb' => hbz.block b (rBankW.olt OG_0.out b hb'))
      have OG_1 := Lib.hid (OG_1.out.okeep fun b hb' => hbz.block b (OG_1.out.olt b hb'))
      have KW_0 := Lib.hid (KW_0.out.bel hbz)
      have KG_0 := Lib.hid (KG_0.out.bel hbz)
      have HT38 := Lib.hid (below_step HT35.out hbz)
      clear hbz
      go_wp2_with fail
      refine (eqBoolS_c ((Pl.playBank coins l).2.1) _ _ _ _ _ _ _ _ (OG_1.out.weak (B := _) OG_1.out.olt) (HW0_1.out.more HW0_1_s.out) (Nat.le_refl _)).mono ?_
      rintro e v39 ⟨rfl, hbz⟩
      have HR_coins := Lib.hid (HR_coins.out.keep fun b hb' => hbz.block b (Nat.lt_of_lt_of_le hb' HB_coins.out))
      have HB_coins := Lib.hid (Nat.le_trans HB_coins.out hbz.size)
      have HR_l := Lib.hid (HR_l.out.keep fun b hb' => hbz.block b (Nat.lt_of_lt_of_le hb' HB_l.out))
      have HB_l := Lib.hid (Nat.le_trans HB_l.out hbz.size)
      have HW0_0 := Lib.hid (rBankW.keep HW0_0.out fun b hb' => hbz.block b (Nat.lt_of_lt_of_le hb' HW0_0_s.out))
      have HW0_0_s := Lib.hid (Nat.le_trans HW0_0_s.out hbz.size)
      have HW0_1 := Lib.hid (HW0_1.out.keep fun b hb' => hbz.block b (Nat.lt_of_lt_of_le hb' HW0_1_s.out))
      have HW0_1_s := Lib.hid (Nat.le_trans HW0_1_s.out hbz.size)
      have OG_0 := Lib.hid (rBankW.okeep OG_0.out fun b hb' => hbz.block b (rBankW.olt OG_0.out b hb'))
      have OG_1 := Lib.hid (OG_1.out.okeep fun b hb' => hbz.block b (OG_1.out.olt b hb'))
      have KW_0 := Lib.hid (KW_0.out.bel hbz)
      have KG_0 := Lib.hid (KG_0.out.bel hbz)
      have HT40 := Lib.hid (below_step HT38.out hbz)
      clear hbz
      have hcg0 : 0 ≤ Pl.ctopBank ((Pl.playBank coins l).1) := Pl.ctopBank_nn ((Pl.playBank coins l).1)
      have hcgb0 : Pl.ctopBank ((Pl.playBank coins l).1) ≤ 50000000 := (playBank_cnt0 coins l)
      obtain ⟨cg0, hcge0⟩ : ∃ z, Pl.ctopBank ((Pl.playBank coins l).1) = z := ⟨_, rfl⟩
      rw [hcge0] at hcg0 hcgb0
      have HCG0 := Lib.hid hcge0
      clear hcge0
      have hcg1 : 0 ≤ (Mm.cntL Pl.cnt1) ((Pl.playBank coins l).2.1) := Mm.cntL_nn (cnt := Pl.cnt1) (Pl.cnt1_nn) ((Pl.playBank coins l).2.1)
      have hcgb1 : (Mm.cntL Pl.cnt1) ((Pl.playBank coins l).2.1) ≤ 50000000 := (playBank_cnt1 coins l)
      obtain ⟨cg1, hcge1⟩ : ∃ z, (Mm.cntL Pl.cnt1) ((Pl.playBank coins l).2.1) = z := ⟨_, rfl⟩
      rw [hcge1] at hcg1 hcgb1
      have HCG1 := Lib.hid hcge1
      clear hcge1
      have c41_KG_0_0 := KG_0.out.cell (i := 0) rfl
      have c41_KG_0_1 := KG_0.out.cell (i := 1) rfl
      have c41_KG_0_2 := KG_0.out.cell (i := 2) rfl
      have c41_KG_0_3 := KG_0.out.cell (i := 3) rfl
      have c41_KG_0_4 := KG_0.out.cell (i := 4) rfl
      go_wp2_with fail
      refine (markBankW_c ((Pl.playBank coins l).1) _ _ _ _ OG_0.out ND16_0.out (by omega) (by rw [HCG0.out]; omega)).mono ?_
      rintro e v42 ⟨rfl, hch, fpm0, hom, hndm, hsubm⟩
      rw [HCG0.out]
      have HR_coins := Lib.hid (HR_coins.out.keep fun b hb' => hch.block b (Nat.lt_of_lt_of_le hb' HB_coins.out) (fun hm => by have := AP16_0_HR_coins.out b hm; omega))
      have HB_coins := Lib.hid (Nat.le_trans HB_coins.out hch.size)
      have HR_l := Lib.hid (HR_l.out.keep fun b hb' => hch.block b (Nat.lt_of_lt_of_le hb' HB_l.out) (fun hm => by have := AP16_0_HR_l.out b hm; omega))
      have HB_l := Lib.hid (Nat.le_trans HB_l.out hch.size)
      have HW0_0 := Lib.hid (rBankW.keep HW0_0.out fun b hb' => hch.block b (Nat.lt_of_lt_of_le hb' HW0_0_s.out) (fun hm => by have := AP16_0_HW0_0.out b hm; omega))
      have HW0_0_s := Lib.hid (Nat.le_trans HW0_0_s.out hch.size)
      have HW0_1 := Lib.hid (HW0_1.out.keep fun b hb' => hch.block b (Nat.lt_of_lt_of_le hb' HW0_1_s.out) (fun hm => by have := AP16_0_HW0_1.out b hm; omega))
      have HW0_1_s := Lib.hid (Nat.le_trans HW0_1_s.out hch.size)
      have OG_1 := Lib.hid (OG_1.out.okeep fun b hb' => hch.block b (OG_1.out.olt b hb') (fun hm => DP16_1_0.out b hb' hm))
      have KW_0 := Lib.hid (KW_0.out.keep (hch.block _ KW_0.out.lt (NB16_0_KW_0.out)))
      have KG_0 := Lib.hid (KG_0.out.keep (hch.block _ KG_0.out.lt (NIKG_0_fp16_0.out)))
      have HT43 := Lib.hid (Mm.Below.chg HT40.out hch HT40.out.size FR16_0.out)
      clear hch
      have OM_0 := Lib.hid hom
      have DM0_1 := Lib.hid (show ∀ b, b ∈ fpm0 → b ∉ fp16_1 from fun b hb' hm => (fun b hb' hm => DP16_0_1.out b hb' hm) b (hsubm b hb') hm)
      clear hom hndm hsubm
      go_wp2_with fail
      refine (markBoolS_c ((Pl.playBank coins l).2.1) _ _ _ _ _ _ OG_1.out ND16_1.out (by omega) (by rw [HCG1.out]; omega)).mono ?_
      rintro e v44 ⟨rfl, hch, fpm1, hom, hndm, hsubm⟩
      rw [HCG1.out]
      have HR_coins := Lib.hid (HR_coins.out.keep fun b hb' => hch.block b (Nat.lt_of_lt_of_le hb' HB_coins.out) (fun hm => by have := AP16_1_HR_coins.out b hm; omega))
      have HB_coins := Lib.hid (Nat.le_trans HB_coins.out hch.size)
      have HR_l := Lib.hid (HR_l.out.keep fun b hb' => hch.block b (Nat.lt_of_lt_of_le hb' HB_l.out) (fun hm => by have := AP16_1_HR_l.out b hm; omega))
      have HB_l := Lib.hid (Nat.le_trans HB_l.out hch.size)
      have HW0_0 := Lib.hid (rBankW.keep HW0_0.out fun b hb' => hch.block b (Nat.lt_of_lt_of_le hb' HW0_0_s.out) (fun hm => by have := AP16_1_HW0_0.out b hm; omega))
      have HW0_0_s := Lib.hid (Nat.le_trans HW0_0_s.out hch.size)
      have HW0_1 := Lib.hid (HW0_1.out.keep fun b hb' => hch.block b (Nat.lt_of_lt_of_le hb' HW0_1_s.out) (fun hm => by have := AP16_1_HW0_1.out b hm; omega))
      have HW0_1_s := Lib.hid (Nat.le_trans HW0_1_s.out hch.size)
      have OM_0 := Lib.hid (rBankW.okeep OM_0.out fun b hb' => hch.block b (rBankW.olt OM_0.out b hb') (fun hm => DM0_1.out b hb' hm))
      have KW_0 := Lib.hid (KW_0.out.keep (hch.block _ KW_0.out.lt (NB16_1_KW_0.out)))
      have KG_0 := Lib.hid (KG_0.out.keep (hch.block _ KG_0.out.lt (NIKG_0_fp16_1.out)))
      have HT45 := Lib.hid (Mm.Below.chg HT43.out hch HT43.out.size FR16_1.out)
      clear hch
      have OM_1 := Lib.hid hom
      clear hom hndm hsubm
      have c46_KG_0_0 := KG_0.out.cell (i := 0) rfl
      have c46_KG_0_1 := KG_0.out.cell (i := 1) rfl
      have c46_KG_0_2 := KG_0.out.cell (i := 2) rfl
      have c46_KG_0_3 := KG_0.out.cell (i := 3) rfl
      have c46_KG_0_4 := KG_0.out.cell (i := 4) rfl
      go_wp2_with fail
      refine (heldBank_c ((Pl.playBank coins l).1) _ _ _ _ (rBankW.weak OM_0.out (B := _) (rBankW.olt OM_0.out)) (Nat.le_refl _) (by omega) (by rw [HCG0.out]; omega)).mono ?_
      rintro e v47 ⟨rfl, hbz⟩
      rw [HCG0.out]
      have HR_coins := Lib.hid (HR_coins.out.keep fun b hb' => hbz.block b (Nat.lt_of_lt_of_le hb' HB_coins.out))
      have HB_coins := Lib.hid (Nat.le_trans HB_coins.out hbz.size)
      have HR_l := Lib.hid (HR_l.out.keep fun b hb' => hbz.block b (Nat.lt_of_lt_of_le hb' HB_l.out))
      have HB_l := Lib.hid (Nat.le_trans HB_l.out hbz.size)
      have HW0_0 := Lib.hid (rBankW.keep HW0_0.out fun b hb' => hbz.block b (Nat.lt_of_lt_of_le hb' HW0_0_s.out))
      have HW0_0_s := Lib.hid (Nat.le_trans HW0_0_s.out hbz.size)
      have HW0_1 := Lib.hid (HW0_1.out.keep fun b hb' => hbz.block b (Nat.lt_of_lt_of_le hb' HW0_1_s.out))
      have HW0_1_s := Lib.hid (Nat.le_trans HW0_1_s.out hbz.size)
      have OM_0 := Lib.hid (rBankW.okeep OM_0.out fun b hb' => hbz.block b (rBankW.olt OM_0.out b hb'))
      have OM_1 := Lib.hid (OM_1.out.okeep fun b hb' => hbz.block b (OM_1.out.olt b hb'))
      have KW_0 := Lib.hid (KW_0.out.bel hbz)
      have KG_0 := Lib.hid (KG_0.out.bel hbz)
      have HT48 := Lib.hid (below_step HT45.out hbz)
      clear hbz
      go_wp2_with fail
      refine (heldBoolS_c ((Pl.playBank coins l).2.1) _ _ _ _ _ _ (OM_1.out.weak (B := _) OM_1.out.olt) (Nat.le_refl _) (by omega) (by rw [HCG1.out]; omega)).mono ?_
      rintro e v49 ⟨rfl, hbz⟩
      rw [HCG1.out]
      have HR_coins := Lib.hid (HR_coins.out.keep fun b hb' => hbz.block b (Nat.lt_of_lt_of_le hb' HB_coins.out))
      have HB_coins := Lib.hid (Nat.le_trans HB_coins.out hbz.size)
      have HR_l := Lib.hid (HR_l.out.keep fun b hb' => hbz.block b (Nat.lt_of_lt_of_le hb' HB_l.out))
      have HB_l := Lib.hid (Nat.le_trans HB_l.out hbz.size)
      have HW0_0 := Lib.hid (rBankW.keep HW0_0.out fun b hb' => hbz.block b (Nat.lt_of_lt_of_le hb' HW0_0_s.out))
      have HW0_0_s := Lib.hid (Nat.le_trans HW0_0_s.out hbz.size)
      have HW0_1 := Lib.hid (HW0_1.out.keep fun b hb' => hbz.block b (Nat.lt_of_lt_of_le hb' HW0_1_s.out))
      have HW0_1_s := Lib.hid (Nat.le_trans HW0_1_s.out hbz.size)
      have OM_0 := Lib.hid (rBankW.okeep OM_0.out fun b hb' => hbz.block b (rBankW.olt OM_0.out b hb'))
      have OM_1 := Lib.hid (OM_1.out.okeep fun b hb' => hbz.block b (OM_1.out.olt b hb'))
      have KW_0 := Lib.hid (KW_0.out.bel hbz)
      have KG_0 := Lib.hid (KG_0.out.bel hbz)
      have HT50 := Lib.hid (below_step HT48.out hbz)
      clear hbz
      go_wp2_with fail
      refine (toIntS_c coins _ _ _ _ w.heap.size HR_coins.out HB_coins.out (by omega)).mono ?_
      rintro e v51 ⟨A51, n51, c51, fp51, rfl, ho51, hnd51, hf51, hbz⟩
      have HR_coins := Lib.hid (HR_coins.out.keep fun b hb' => hbz.block b (Nat.lt_of_lt_of_le hb' HB_coins.out))
      have HB_coins := Lib.hid (Nat.le_trans HB_coins.out hbz.size)
      have HR_l := Lib.hid (HR_l.out.keep fun b hb' => hbz.block b (Nat.lt_of_lt_of_le hb' HB_l.out))
      have HB_l := Lib.hid (Nat.le_trans HB_l.out hbz.size)
      have HW0_0 := Lib.hid (rBankW.keep HW0_0.out fun b hb' => hbz.block b (Nat.lt_of_lt_of_le hb' HW0_0_s.out))
      have HW0_0_s := Lib.hid (Nat.le_trans HW0_0_s.out hbz.size)
      have HW0_1 := Lib.hid (HW0_1.out.keep fun b hb' => hbz.block b (Nat.lt_of_lt_of_le hb' HW0_1_s.out))
      have HW0_1_s := Lib.hid (Nat.le_trans HW0_1_s.out hbz.size)
      have OM_0 := Lib.hid (rBankW.okeep OM_0.out fun b hb' => hbz.block b (rBankW.olt OM_0.out b hb'))
      have OM_1 := Lib.hid (OM_1.out.okeep fun b hb' => hbz.block b (OM_1.out.olt b hb'))
      have KW_0 := Lib.hid (KW_0.out.bel hbz)
      have KG_0 := Lib.hid (KG_0.out.bel hbz)
      have HT52 := Lib.hid (below_step HT50.out hbz)
      have HXh_coins := Lib.hid (ho51.weak (B := v51.heap.size) ho51.olt)
      have HXh_coins_s := Lib.hid (Nat.le_refl v51.heap.size)
      clear ho51 hnd51 hf51
      clear hbz
      go_wp2_with fail
      refine (toSnapStepS_c l _ _ _ _ w.heap.size HR_l.out HB_l.out (by omega)).mono ?_
      rintro e v53 ⟨A53, n53, c53, fp53, rfl, ho53, hnd53, hf53, hbz⟩
      have HR_coins := Lib.hid (HR_coins.out.keep fun b hb' => hbz.block b (Nat.lt_of_lt_of_le hb' HB_coins.out))
      have HB_coins := Lib.hid (Nat.le_trans HB_coins.out hbz.size)
      have HR_l := Lib.hid (HR_l.out.keep fun b hb' => hbz.block b (Nat.lt_of_lt_of_le hb' HB_l.out))
      have HB_l := Lib.hid (Nat.le_trans HB_l.out hbz.size)
      have HW0_0 := Lib.hid (rBankW.keep HW0_0.out fun b hb' => hbz.block b (Nat.lt_of_lt_of_le hb' HW0_0_s.out))
      have HW0_0_s := Lib.hid (Nat.le_trans HW0_0_s.out hbz.size)
      have HW0_1 := Lib.hid (HW0_1.out.keep fun b hb' => hbz.block b (Nat.lt_of_lt_of_le hb' HW0_1_s.out))
      have HW0_1_s := Lib.hid (Nat.le_trans HW0_1_s.out hbz.size)
      have HXh_coins := Lib.hid (HXh_coins.out.keep fun b hb' => hbz.block b (Nat.lt_of_lt_of_le hb' HXh_coins_s.out))
      have HXh_coins_s := Lib.hid (Nat.le_trans HXh_coins_s.out hbz.size)
      have OM_0 := Lib.hid (rBankW.okeep OM_0.out fun b hb' => hbz.block b (rBankW.olt OM_0.out b hb'))
      have OM_1 := Lib.hid (OM_1.out.okeep fun b hb' => hbz.block b (OM_1.out.olt b hb'))
      have KW_0 := Lib.hid (KW_0.out.bel hbz)
      have KG_0 := Lib.hid (KG_0.out.bel hbz)
      have HT54 := Lib.hid (below_step HT52.out hbz)
      have HXh_l := Lib.hid (ho53.weak (B := v53.heap.size) ho53.olt)
      have HXh_l_s := Lib.hid (Nat.le_refl v53.heap.size)
      clear ho53 hnd53 hf53
      clear hbz
      go_wp2_with fail
      refine (implPlayBank_c coins l _ _ _ _ _ _ _ _ (HXh_coins.out.more HXh_coins_s.out) (HXh_l.out.more HXh_l_s.out) (Nat.le_refl _)).mono ?_
      rintro e v55 ⟨cs55_0, A55_1, n55_1, c55_1, fp55_0, fp55_1, rfl, hS55⟩
      have hbz := hS55.bel0
      have ho55_0 : rBankW.own v55 ((Pl.playBank coins l).1) cs55_0 fp55_0 := hS55.at_ 0 rfl
      have hnd55_0 := hS55.ndat (i := 0) rfl
      have hf55_0 : ∀ b, b ∈ fp55_0 → _ ≤ b := fun b hb' => (hS55.new b (Mm.SepF.mem (i := 0) rfl hb')).resolve_left (fun hh => by cases hh)
      have ho55_1 : Mm.SlOwn Mm.bool 4 v55 ((Pl.playBank coins l).2.1) (.slice A55_1 n55_1 c55_1) fp55_1 := hS55.at_ 1 rfl
      have hnd55_1 := hS55.ndat (i := 1) rfl
      have hf55_1 : ∀ b, b ∈ fp55_1 → _ ≤ b := fun b hb' => (hS55.new b (Mm.SepF.mem (i := 1) rfl hb')).resolve_left (fun hh => by cases hh)
      have DP55_0_1 := Lib.hid (show ∀ b, b ∈ fp55_0 → b ∉ fp55_1 from hS55.apart (i := 0) (j := 1) rfl rfl (by decide))
      have DP55_1_0 := Lib.hid (show ∀ b, b ∈ fp55_1 → b ∉ fp55_0 from hS55.apart (i := 1) (j := 0) rfl rfl (by decide))
      obtain ⟨A0_55_0, n0_55_0, c0_55_0, A1_55_0, n1_55_0, c1_55_0, A2_55_0, n2_55_0, c2_55_0, A3_55_0, n3_55_0, c3_55_0, A4_55_0, n4_55_0, c4_55_0, _, _, _, _, _, rfl, -⟩ := rBankW_own ho55_0
      clear hS55
      have HR_coins := Lib.hid (HR_coins.out.keep fun b hb' => hbz.block b (Nat.lt_of_lt_of_le hb' HB_coins.out))
      have HB_coins := Lib.hid (Nat.le_trans HB_coins.out hbz.size)
      have HR_l := Lib.hid (HR_l.out.keep fun b hb' => hbz.block b (Nat.lt_of_lt_of_le hb' HB_l.out))
      have HB_l := Lib.hid (Nat.le_trans HB_l.out hbz.size)
      have HW0_0 := Lib.hid (rBankW.keep HW0_0.out fun b hb' => hbz.block b (Nat.lt_of_lt_of_le hb' HW0_0_s.out))
      have HW0_0_s := Lib.hid (Nat.le_trans HW0_0_s.out hbz.size)
      have HW0_1 := Lib.hid (HW0_1.out.keep fun b hb' => hbz.block b (Nat.lt_of_lt_of_le hb' HW0_1_s.out))
      have HW0_1_s := Lib.hid (Nat.le_trans HW0_1_s.out hbz.size)
      have HXh_coins := Lib.hid (HXh_coins.out.keep fun b hb' => hbz.block b (Nat.lt_of_lt_of_le hb' HXh_coins_s.out))
      have HXh_coins_s := Lib.hid (Nat.le_trans HXh_coins_s.out hbz.size)
      have HXh_l := Lib.hid (HXh_l.out.keep fun b hb' => hbz.block b (Nat.lt_of_lt_of_le hb' HXh_l_s.out))
      have HXh_l_s := Lib.hid (Nat.le_trans HXh_l_s.out hbz.size)
      have OM_0 := Lib.hid (rBankW.okeep OM_0.out fun b hb' => hbz.block b (rBankW.olt OM_0.out b hb'))
      have OM_1 := Lib.hid (OM_1.out.okeep fun b hb' => hbz.block b (OM_1.out.olt b hb'))
      have KW_0 := Lib.hid (KW_0.out.bel hbz)
      have KG_0 := Lib.hid (KG_0.out.bel hbz)
      have HT56 := Lib.hid (below_step HT54.out hbz)
      have HH_0 := Lib.hid (rBankW.weak ho55_0 (B := v55.heap.size) (rBankW.olt ho55_0))
      have HH_0_s := Lib.hid (Nat.le_refl v55.heap.size)
      clear ho55_0 hnd55_0 hf55_0
      have HH_1 := Lib.hid (ho55_1.weak (B := v55.heap.size) ho55_1.olt)
      have HH_1_s := Lib.hid (Nat.le_refl v55.heap.size)
      clear ho55_1 hnd55_1 hf55_1
      clear hbz
      have NIKH_0_fpm0 := Lib.hid (show ¬ v55.heap.size ∈ fpm0 from fun hm => Nat.lt_irrefl _ (rBankW.olt OM_0.out _ hm))
      have NIKH_0_fpm1 := Lib.hid (show ¬ v55.heap.size ∈ fpm1 from fun hm => Nat.lt_irrefl _ (OM_1.out.olt _ hm))
      have hbx : Below v55.heap.size v55 (v55.alloc (.cells #[.slice A0_55_0 n0_55_0 c0_55_0, .slice A1_55_0 n1_55_0 c1_55_0, .slice A2_55_0 n2_55_0 c2_55_0, .slice A3_55_0 n3_55_0 c3_55_0, .slice A4_55_0 n4_55_0 c4_55_0] 28)) := below_new (Below.refl _ _) _
      have HR_coins := Lib.hid (HR_coins.out.keep fun b hb' => hbx.block b (Nat.lt_of_lt_of_le hb' HB_coins.out))
      have HB_coins := Lib.hid (Nat.le_trans HB_coins.out hbx.size)
      have HR_l := Lib.hid (HR_l.out.keep fun b hb' => hbx.block b (Nat.lt_of_lt_of_le hb' HB_l.out))
      have HB_l := Lib.hid (Nat.le_trans HB_l.out hbx.size)
      have HW0_0 := Lib.hid (rBankW.keep HW0_0.out fun b hb' => hbx.block b (Nat.lt_of_lt_of_le hb' HW0_0_s.out))
      have HW0_0_s := Lib.hid (Nat.le_trans HW0_0_s.out hbx.size)
      have HW0_1 := Lib.hid (HW0_1.out.keep fun b hb' => hbx.block b (Nat.lt_of_lt_of_le hb' HW0_1_s.out))
      have HW0_1_s := Lib.hid (Nat.le_trans HW0_1_s.out hbx.size)
      have HH_0 := Lib.hid (rBankW.keep HH_0.out fun b hb' => hbx.block b (Nat.lt_of_lt_of_le hb' HH_0_s.out))
      have HH_0_s := Lib.hid (Nat.le_trans HH_0_s.out hbx.size)
      have HH_1 := Lib.hid (HH_1.out.keep fun b hb' => hbx.block b (Nat.lt_of_lt_of_le hb' HH_1_s.out))
      have HH_1_s := Lib.hid (Nat.le_trans HH_1_s.out hbx.size)
      have OM_0 := Lib.hid (rBankW.okeep OM_0.out fun b hb' => hbx.block b (rBankW.olt OM_0.out b hb'))
      have OM_1 := Lib.hid (OM_1.out.okeep fun b hb' => hbx.block b (OM_1.out.olt b hb'))
      have KW_0 := Lib.hid (KW_0.out.bel hbx)
      have KG_0 := Lib.hid (KG_0.out.bel hbx)
      have HT57 := Lib.hid (below_step HT56.out hbx)
      clear hbx
      have KH_0 := Lib.hid (Mm.Blk.new v55 28 [.slice A0_55_0 n0_55_0 c0_55_0, .slice A1_55_0 n1_55_0 c1_55_0, .slice A2_55_0 n2_55_0 c2_55_0, .slice A3_55_0 n3_55_0 c3_55_0, .slice A4_55_0 n4_55_0 c4_55_0])
      have c58_KW_0_0 := KW_0.out.cell (i := 0) rfl
      have c58_KW_0_1 := KW_0.out.cell (i := 1) rfl
      have c58_KW_0_2 := KW_0.out.cell (i := 2) rfl
      have c58_KW_0_3 := KW_0.out.cell (i := 3) rfl
      have c58_KW_0_4 := KW_0.out.cell (i := 4) rfl
      have c58_KG_0_0 := KG_0.out.cell (i := 0) rfl
      have c58_KG_0_1 := KG_0.out.cell (i := 1) rfl
      have c58_KG_0_2 := KG_0.out.cell (i := 2) rfl
      have c58_KG_0_3 := KG_0.out.cell (i := 3) rfl
      have c58_KG_0_4 := KG_0.out.cell (i := 4) rfl
      have c58_KH_0_0 := KH_0.out.cell (i := 0) rfl
      have c58_KH_0_1 := KH_0.out.cell (i := 1) rfl
      have c58_KH_0_2 := KH_0.out.cell (i := 2) rfl
      have c58_KH_0_3 := KH_0.out.cell (i := 3) rfl
      have c58_KH_0_4 := KH_0.out.cell (i := 4) rfl
      have c59_KW_0_0 := KW_0.out.cell (i := 0) rfl
      have c59_KW_0_1 := KW_0.out.cell (i := 1) rfl
      have c59_KW_0_2 := KW_0.out.cell (i := 2) rfl
      have c59_KW_0_3 := KW_0.out.cell (i := 3) rfl
      have c59_KW_0_4 := KW_0.out.cell (i := 4) rfl
      have c59_KG_0_0 := KG_0.out.cell (i := 0) rfl
      have c59_KG_0_1 := KG_0.out.cell (i := 1) rfl
      have c59_KG_0_2 := KG_0.out.cell (i := 2) rfl
      have c59_KG_0_3 := KG_0.out.cell (i := 3) rfl
      have c59_KG_0_4 := KG_0.out.cell (i := 4) rfl
      have c59_KH_0_0 := KH_0.out.cell (i := 0) rfl
      have c59_KH_0_1 := KH_0.out.cell (i := 1) rfl
      have c59_KH_0_2 := KH_0.out.cell (i := 2) rfl
      have c59_KH_0_3 := KH_0.out.cell (i := 3) rfl
      have c59_KH_0_4 := KH_0.out.cell (i := 4) rfl
      go_wp2_with fail
      refine (eqBank_at ((Pl.playBank coins l).1) _ _ _ _ (rBankW.more HH_0.out HH_0_s.out) (rBankW.more HW0_0.out HW0_0_s.out) (Nat.le_refl _)).mono ?_
      rintro e v60 ⟨rfl, hbz⟩
      have HR_coins := Lib.hid (HR_coins.out.keep fun b hb' => hbz.block b (Nat.lt_of_lt_of_le hb' HB_coins.out))
      have HB_coins := Lib.hid (Nat.le_trans HB_coins.out hbz.size)
      have HR_l := Lib.hid (HR_l.out.keep fun b hb' => hbz.block b (Nat.lt_of_lt_of_le hb' HB_l.out))
      have HB_l := Lib.hid (Nat.le_trans HB_l.out hbz.size)
      have HW0_0 := Lib.hid (rBankW.keep HW0_0.out fun b hb' => hbz.block b (Nat.lt_of_lt_of_le hb' HW0_0_s.out))
      have HW0_0_s := Lib.hid (Nat.le_trans HW0_0_s.out hbz.size)
      have HW0_1 := Lib.hid (HW0_1.out.keep fun b hb' => hbz.block b (Nat.lt_of_lt_of_le hb' HW0_1_s.out))
      have HW0_1_s := Lib.hid (Nat.le_trans HW0_1_s.out hbz.size)
      have HH_0 := Lib.hid (rBankW.keep HH_0.out fun b hb' => hbz.block b (Nat.lt_of_lt_of_le hb' HH_0_s.out))
      have HH_0_s := Lib.hid (Nat.le_trans HH_0_s.out hbz.size)
      have HH_1 := Lib.hid (HH_1.out.keep fun b hb' => hbz.block b (Nat.lt_of_lt_of_le hb' HH_1_s.out))
      have HH_1_s := Lib.hid (Nat.le_trans HH_1_s.out hbz.size)
      have OM_0 := Lib.hid (rBankW.okeep OM_0.out fun b hb' => hbz.block b (rBankW.olt OM_0.out b hb'))
      have OM_1 := Lib.hid (OM_1.out.okeep fun b hb' => hbz.block b (OM_1.out.olt b hb'))
      have KW_0 := Lib.hid (KW_0.out.bel hbz)
      have KG_0 := Lib.hid (KG_0.out.bel hbz)
      have KH_0 := Lib.hid (KH_0.out.bel hbz)
      have HT61 := Lib.hid (below_step HT57.out hbz)
      clear hbz
      go_wp2_with fail
      refine (eqBoolS_c ((Pl.playBank coins l).2.1) _ _ _ _ _ _ _ _ (HH_1.out.more HH_1_s.out) (HW0_1.out.more HW0_1_s.out) (Nat.le_refl _)).mono ?_
      rintro e v62 ⟨rfl, hbz⟩
      have HR_coins := Lib.hid (HR_coins.out.keep fun b hb' => hbz.block b (Nat.lt_of_lt_of_le hb' HB_coins.out))
      have HB_coins := Lib.hid (Nat.le_trans HB_coins.out hbz.size)
      have HR_l := Lib.hid (HR_l.out.keep fun b hb' => hbz.block b (Nat.lt_of_lt_of_le hb' HB_l.out))
      have HB_l := Lib.hid (Nat.le_trans HB_l.out hbz.size)
      have HW0_0 := Lib.hid (rBankW.keep HW0_0.out fun b hb' => hbz.block b (Nat.lt_of_lt_of_le hb' HW0_0_s.out))
      have HW0_0_s := Lib.hid (Nat.le_trans HW0_0_s.out hbz.size)
      have HW0_1 := Lib.hid (HW0_1.out.keep fun b hb' => hbz.block b (Nat.lt_of_lt_of_le hb' HW0_1_s.out))
      have HW0_1_s := Lib.hid (Nat.le_trans HW0_1_s.out hbz.size)
      have HH_0 := Lib.hid (rBankW.keep HH_0.out fun b hb' => hbz.block b (Nat.lt_of_lt_of_le hb' HH_0_s.out))
      have HH_0_s := Lib.hid (Nat.le_trans HH_0_s.out hbz.size)
      have HH_1 := Lib.hid (HH_1.out.keep fun b hb' => hbz.block b (Nat.lt_of_lt_of_le hb' HH_1_s.out))
      have HH_1_s := Lib.hid (Nat.le_trans HH_1_s.out hbz.size)
      have OM_0 := Lib.hid (rBankW.okeep OM_0.out fun b hb' => hbz.block b (rBankW.olt OM_0.out b hb'))
      have OM_1 := Lib.hid (OM_1.out.okeep fun b hb' => hbz.block b (OM_1.out.olt b hb'))
      have KW_0 := Lib.hid (KW_0.out.bel hbz)
      have KG_0 := Lib.hid (KG_0.out.bel hbz)
      have KH_0 := Lib.hid (KH_0.out.bel hbz)
      have HT63 := Lib.hid (below_step HT61.out hbz)
      clear hbz
      have c64_KG_0_0 := KG_0.out.cell (i := 0) rfl
      have c64_KG_0_1 := KG_0.out.cell (i := 1) rfl
      have c64_KG_0_2 := KG_0.out.cell (i := 2) rfl
      have c64_KG_0_3 := KG_0.out.cell (i := 3) rfl
      have c64_KG_0_4 := KG_0.out.cell (i := 4) rfl
      go_wp2_with fail
      refine (heldBank_c ((Pl.playBank coins l).1) _ _ _ _ (rBankW.weak OM_0.out (B := _) (rBankW.olt OM_0.out)) (Nat.le_refl _) (by omega) (by rw [HCG0.out]; omega)).mono ?_
      rintro e v65 ⟨rfl, hbz⟩
      rw [HCG0.out]
      have HR_coins := Lib.hid (HR_coins.out.keep fun b hb' => hbz.block b (Nat.lt_of_lt_of_le hb' HB_coins.out))
      have HB_coins := Lib.hid (Nat.le_trans HB_coins.out hbz.size)
      have HR_l := Lib.hid (HR_l.out.keep fun b hb' => hbz.block b (Nat.lt_of_lt_of_le hb' HB_l.out))
      have HB_l := Lib.hid (Nat.le_trans HB_l.out hbz.size)
      have HW0_0 := Lib.hid (rBankW.keep HW0_0.out fun b hb' => hbz.block b (Nat.lt_of_lt_of_le hb' HW0_0_s.out))
      have HW0_0_s := Lib.hid (Nat.le_trans HW0_0_s.out hbz.size)
      have HW0_1 := Lib.hid (HW0_1.out.keep fun b hb' => hbz.block b (Nat.lt_of_lt_of_le hb' HW0_1_s.out))
      have HW0_1_s := Lib.hid (Nat.le_trans HW0_1_s.out hbz.size)
      have HH_0 := Lib.hid (rBankW.keep HH_0.out fun b hb' => hbz.block b (Nat.lt_of_lt_of_le hb' HH_0_s.out))
      have HH_0_s := Lib.hid (Nat.le_trans HH_0_s.out hbz.size)
      have HH_1 := Lib.hid (HH_1.out.keep fun b hb' => hbz.block b (Nat.lt_of_lt_of_le hb' HH_1_s.out))
      have HH_1_s := Lib.hid (Nat.le_trans HH_1_s.out hbz.size)
      have OM_0 := Lib.hid (rBankW.okeep OM_0.out fun b hb' => hbz.block b (rBankW.olt OM_0.out b hb'))
      have OM_1 := Lib.hid (OM_1.out.okeep fun b hb' => hbz.block b (OM_1.out.olt b hb'))
      have KW_0 := Lib.hid (KW_0.out.bel hbz)
      have KG_0 := Lib.hid (KG_0.out.bel hbz)
      have KH_0 := Lib.hid (KH_0.out.bel hbz)
      have HT66 := Lib.hid (below_step HT63.out hbz)
      clear hbz
      go_wp2_with fail
      refine (heldBoolS_c ((Pl.playBank coins l).2.1) _ _ _ _ _ _ (OM_1.out.weak (B := _) OM_1.out.olt) (Nat.le_refl _) (by omega) (by rw [HCG1.out]; omega)).mono ?_
      rintro e v67 ⟨rfl, hbz⟩
      rw [HCG1.out]
      have HR_coins := Lib.hid (HR_coins.out.keep fun b hb' => hbz.block b (Nat.lt_of_lt_of_le hb' HB_coins.out))
      have HB_coins := Lib.hid (Nat.le_trans HB_coins.out hbz.size)
      have HR_l := Lib.hid (HR_l.out.keep fun b hb' => hbz.block b (Nat.lt_of_lt_of_le hb' HB_l.out))
      have HB_l := Lib.hid (Nat.le_trans HB_l.out hbz.size)
      have HW0_0 := Lib.hid (rBankW.keep HW0_0.out fun b hb' => hbz.block b (Nat.lt_of_lt_of_le hb' HW0_0_s.out))
      have HW0_0_s := Lib.hid (Nat.le_trans HW0_0_s.out hbz.size)
      have HW0_1 := Lib.hid (HW0_1.out.keep fun b hb' => hbz.block b (Nat.lt_of_lt_of_le hb' HW0_1_s.out))
      have HW0_1_s := Lib.hid (Nat.le_trans HW0_1_s.out hbz.size)
      have HH_0 := Lib.hid (rBankW.keep HH_0.out fun b hb' => hbz.block b (Nat.lt_of_lt_of_le hb' HH_0_s.out))
      have HH_0_s := Lib.hid (Nat.le_trans HH_0_s.out hbz.size)
      have HH_1 := Lib.hid (HH_1.out.keep fun b hb' => hbz.block b (Nat.lt_of_lt_of_le hb' HH_1_s.out))
      have HH_1_s := Lib.hid (Nat.le_trans HH_1_s.out hbz.size)
      have OM_0 := Lib.hid (rBankW.okeep OM_0.out fun b hb' => hbz.block b (rBankW.olt OM_0.out b hb'))
      have OM_1 := Lib.hid (OM_1.out.okeep fun b hb' => hbz.block b (OM_1.out.olt b hb'))
      have KW_0 := Lib.hid (KW_0.out.bel hbz)
      have KG_0 := Lib.hid (KG_0.out.bel hbz)
      have KH_0 := Lib.hid (KH_0.out.bel hbz)
      have HT68 := Lib.hid (below_step HT66.out hbz)
      clear hbz
      go_wp2
      go_ret
      exact ⟨rfl, HT68.out⟩
end Go.Proofs.Ytpmeagchkcffoaa

/-
  The statement of FnExactPlayBank: for every input the law returns true, and every argument reads afterwards as it read before. No conditions.
-/
namespace Go.Proofs.Ytpmeagchkcffoaa.fnExactPlayBank
open Go.ChangeShapes Go.WideShapes Go.ChangeAt Go.RowKit
open Go.ChangeMaps (open_string shut_string)
set_option linter.unusedVariables false

theorem own : ownKnob Try.prog.godebug = none := by kernel_rfl
theorem laidOut : laidOutB Try.prog = true := by kernel_rfl

set_option maxRecDepth 100000 in
theorem lifted (os : Os) (started : os.Started) (H : Type) (enc : TypeId × Value → H) :
    ReturnsInHanded {} Try.checked os 3 .any (Rows.fnExactPlayBankSpec.pre6 enc Try.prog Try.f3 Rows.fnExactPlayBankRow.domain false) (Rows.fnExactPlayBankSpec.post enc Try.prog Try.f3 false true false false) := by
  refine returnsInHanded_of_change (C := Try.checked) own started (by kernel_rfl) Try.func3
    (ChangeSpec.witness6 (enc := enc) (C := Try.checked) false ⟨#[], #[.slice none 0 0, .slice none 0 0], []⟩ 8 (by kernel_rfl) (by kernel_rfl) (by kernel_rfl) (by kernel_rfl)) ?_
  intro W base args ds gs before hval0 hW hcnd _
  have hval : ∀ (j : Nat) t v, Try.f3.params[j]? = some t → args[j]? = some v → Value.okWide Try.prog W .any base t v := hval0
  have hW' := hW
  obtain ⟨p, q, hA0, hV, rfl, hfz, hnd⟩ := hW
  have hA : DataW.TrodAll enc Try.prog W 0 (fun _ => true) true Try.f3.params.toList args.toList ds p := hA0
  rw [Try.params3] at hA hval
  obtain ⟨v0, vs0, d0, ds0, p0, q0, hargs, rfl, rfl, h0, r0⟩ := trodAll_cons hA
  obtain ⟨v1, vs1, d1, ds1, p1, q1, rfl, rfl, rfl, h1, r1⟩ := trodAll_cons r0
  obtain ⟨rfl, rfl, rfl⟩ := trodAll_nil r1
  obtain rfl : args = #[v0, v1] := by cases args; simp_all
  obtain ⟨rfl, rfl⟩ := trodVars_none hV
  have k0 := h0
  have lt0 : ∀ x ∈ p0, x.block < W.heap.size := by obtain ⟨m, hm⟩ := k0; exact DataW.trod_lt m _ _ _ hm
  have k1 := h1
  have lt1 : ∀ x ∈ p1, x.block < W.heap.size := by obtain ⟨m, hm⟩ := k1; exact DataW.trod_lt m _ _ _ hm
  obtain ⟨A0, n0, c0, a0, rfl, w0⟩ := Mm.open_sl opens_IntS Try.underlying22 (hval 0 22 v0 rfl rfl) h0
  obtain ⟨A1, n1, c1, a1, rfl, w1⟩ := Mm.open_sl opens_SnapStepS Try.underlying23 (hval 1 23 v1 rfl rfl) h1
  clear hA0 hval0
  refine (walk_FnExactPlayBank A0 n0 c0 a0 A1 n1 c1 a1 W w0 w1).mono fun e W' ⟨he, bel⟩ => ?_
  subst he
  exact ⟨_, rfl, _, _, _, [], _, [], hW', trodAll_mk1 (shut_bool Try.underlying4 _), (trodAll_cons_mk (Below.trod laidOut (by kernel_rfl) (of_decide_eq_true (by kernel_rfl)) k0 bel lt0) (trodAll_cons_mk (Below.trod laidOut (by kernel_rfl) (of_decide_eq_true (by kernel_rfl)) k1 bel lt1) trodAll_mk0)), rfl, bel.frame _, fun h => by cases h⟩

theorem over : Rows.fnExactPlayBankRow.holds Try.pinned (OpenSpec.ofChange Rows.fnExactPlayBankSpec) :=
  OpenClaim.holds_of_wide 3 Try.f3 rfl rfl rfl rfl rfl rfl rfl ⟨rfl, rfl, rfl, rfl, rfl⟩ rfl rfl rfl rfl rfl (by kernel_rfl) Try.func3 (by kernel_rfl)
    (of_decide_eq_true (by kernel_rfl)) (by unfold Func.isWrapper; first | (rw [if_pos (by decide +kernel)]; kernel_rfl) | (rw [if_neg (by decide +kernel)]; exact ⟨rfl, rfl⟩))
    (fun os started H enc _ => lifted os started H enc)

theorem proved : Rows.FnExactPlayBankSaid := over
#print axioms proved
end Go.Proofs.Ytpmeagchkcffoaa.fnExactPlayBank
