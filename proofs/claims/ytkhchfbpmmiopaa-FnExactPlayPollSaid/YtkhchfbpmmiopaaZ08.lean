/-
  Joined texts, in build order: LwPlayPoll, LawPlayPoll. Each part says what it proves; no conditions beyond those that a part names.
-/
import Derived.Test.YtkhchfbpmmiopaaZ07
import Derived.Test.YtkhchfbpmmiopaaRows
import Derived.WalkKit
import Derived.ProofKit
import Derived.OpenShut
import Derived.ShutString
import Derived.ChangeOld
import Derived.Below
/-
  The walk of the law on PlayPoll. No conditions.
-/
namespace Go.Proofs.Ytkhchfbpmmiopaa
open Go.RowKit
theorem cntL_le' {α : Type} {f : α → Int} {c : Int} : ∀ l : List α, (∀ x, x ∈ l → f x ≤ c) → Mm.cntL f l ≤ c * (l.length : Int)
  | [], _ => by simp [Mm.cntL]
  | x :: t, h => by
    have h1 := cntL_le' t (fun y hy => h y (List.mem_cons_of_mem _ hy))
    have h2 := h x List.mem_cons_self
    rw [Mm.cntL_cons, List.length_cons]
    have : c * ((t.length + 1 : Nat) : Int) = c * (t.length : Int) + c := by push_cast; rw [Int.mul_add, Int.mul_one]
    omega
theorem Pl.PW.cnt {p : Poll} (h : Pl.PW p) : Pl.ctopPoll p ≤ 50000000 := by
  have h0 : Mm.cntL Pl.cntNode p.Nodes ≤ 20 * (p.Nodes.length : Int) := cntL_le' _ (fun x hx => by
    obtain ⟨k, hk⟩ := List.mem_iff_getElem?.1 hx
    have h1 := cntL_le' (f := Pl.cnt1) (c := 1) x.Heard (fun y _ => by unfold Pl.cnt1; omega)
    have h2 := h.node k x hk
    have h5 := Pl.rising_bound x.Heard 0 p.Nodes.length h2.heard (fun i hi => by have := h2.hin i hi; omega)
    rw [if_pos (by omega)] at h5
    have := h.n5
    show Pl.cntNode x ≤ 20
    unfold Pl.cntNode
    omega)
  have h1 := cntL_le' (f := Pl.cntLetter) (c := 5) p.Letters (fun y _ => by unfold Pl.cntLetter; omega)
  have h2 : Mm.cntL (Mm.cntL Pl.cnt1) p.Leaders ≤ 2 * (p.Leaders.length : Int) := cntL_le' _ (fun x hx => by
    have h3 := cntL_le' (f := Pl.cnt1) (c := 1) x (fun y _ => by unfold Pl.cnt1; omega)
    obtain ⟨t, k, rfl, _⟩ := h.lead x hx
    simpa using h3)
  have := h.n5; have := h.lets; have := h.leads
  unfold Pl.ctopPoll
  omega
theorem zPo_cnt : Pl.ctopPoll Pl.zPo ≤ 50000000 := by decide
theorem playPoll_cnt0 (ages : List Int) (l : List VoteStep) : Pl.ctopPoll (Pl.playPoll ages l).1 ≤ 50000000 := by
  unfold Pl.playPoll
  split
  · rename_i h
    exact (Pl.playP_pw h.1 l).1.cnt
  · exact zPo_cnt
theorem playPoll_cnt1 (ages : List Int) (l : List VoteStep) : Mm.cntL Pl.cnt1 (Pl.playPoll ages l).2.1 ≤ 50000000 := by
  unfold Pl.playPoll
  split
  · rename_i h
    have h1 := (Pl.playP_pw h.1 l).2
    have h2 := cntL_le' (f := Pl.cnt1) (c := 1) (Pl.playP (Pl.newPo ages) l).2 (fun y _ => by unfold Pl.cnt1; omega)
    have := h.2
    show Mm.cntL Pl.cnt1 (Pl.playP (Pl.newPo ages) l).2 ≤ 50000000
    omega
  · show Mm.cntL Pl.cnt1 ([] : List Bool) ≤ 50000000
    simp [Mm.cntL]
set_option maxRecDepth 100000 in
set_option maxHeartbeats 4000000 in
theorem walk_FnExactPlayPoll (A_ages : Option Addr) (n_ages c_ages : Nat) (ages : (List Int)) (A_l : Option Addr) (n_l c_l : Nat) (l : (List VoteStep)) (w : World) (r_ages : Mm.SlAt Mm.int w w.heap.size ages A_ages n_ages c_ages) (r_l : Mm.SlAt rVoteStep w w.heap.size l A_l n_l c_l) :
    Calls Try.prog 4 #[.slice A_ages n_ages c_ages, .slice A_l n_l c_l] w fun e w' => e = .returned (.bool true) ∧ Below w.heap.size w w' := by
  have zl_ages : Pl.szl Pl.sz0 ages = (n_ages : Int) := by rw [Pl.szl_zero, r_ages.1]
  have hn_ages : n_ages ≤ maxLen := Nat.le_trans r_ages.2.1 r_ages.2.2.1
  have zn_ages := Pl.szl_nn (f := Pl.sz0) (Pl.sz0_nn) ages
  have hn_l : n_l ≤ maxLen := Nat.le_trans r_l.2.1 r_l.2.2.1
  have zn_l := Pl.szl_nn (f := Pl.sz0) (Pl.sz0_nn) l
  have HT0 := Lib.hid (show Below w.heap.size w w from (Below.refl w.heap.size w))
  have HR_ages := Lib.hid (r_ages.below HT0.out)
  have HB_ages := Lib.hid HT0.out.size
  have HR_l := Lib.hid (r_l.below HT0.out)
  have HB_l := Lib.hid HT0.out.size
  clear r_ages r_l
  by_cases t_ages : (1048576 : Int) < (n_ages : Int)
  · skip
    go_enter Try.func4, Try.ntmps4
    go_wp2
    go_ret
    exact ⟨rfl, HT0.out⟩
  · skip
    by_cases t_l : (1048576 - (Pl.szl Pl.sz0) l : Int) < 0
    · skip
      go_enter Try.func4, Try.ntmps4
      go_wp2_with fail
      refine (szVoteStepS_c l _ _ _ _ _ w.heap.size HR_l.out HB_l.out (by omega) (by omega)).mono ?_
      rintro e y1 ⟨rfl, hbz⟩
      rw [Pl.szRet_lt (by omega)]
      have HR_ages := Lib.hid (HR_ages.out.keep fun b hb' => hbz.block b (Nat.lt_of_lt_of_le hb' HB_ages.out))
      have HB_ages := Lib.hid (Nat.le_trans HB_ages.out hbz.size)
      have HR_l := Lib.hid (HR_l.out.keep fun b hb' => hbz.block b (Nat.lt_of_lt_of_le hb' HB_l.out))
      have HB_l := Lib.hid (Nat.le_trans HB_l.out hbz.size)
      have HT2 := Lib.hid (below_step HT0.out hbz)
      clear hbz
      go_wp2
      go_ret
      exact ⟨rfl, HT2.out⟩
    · skip
      go_enter Try.func4, Try.ntmps4
      go_wp2_with fail
      refine (szVoteStepS_c l _ _ _ _ _ w.heap.size HR_l.out HB_l.out (by omega) (by omega)).mono ?_
      rintro e y3 ⟨rfl, hbz⟩
      rw [Pl.szRet_ge (by omega)]
      have HR_ages := Lib.hid (HR_ages.out.keep fun b hb' => hbz.block b (Nat.lt_of_lt_of_le hb' HB_ages.out))
      have HB_ages := Lib.hid (Nat.le_trans HB_ages.out hbz.size)
      have HR_l := Lib.hid (HR_l.out.keep fun b hb' => hbz.block b (Nat.lt_of_lt_of_le hb' HB_l.out))
      have HB_l := Lib.hid (Nat.le_trans HB_l.out hbz.size)
      have HT4 := Lib.hid (below_step HT0.out hbz)
      clear hbz
      go_wp2_with fail
      refine (toIntS_c ages _ _ _ _ w.heap.size HR_ages.out HB_ages.out (by omega)).mono ?_
      rintro e v5 ⟨A5, n5, c5, fp5, rfl, ho5, hnd5, hf5, hbz⟩
      have HR_ages := Lib.hid (HR_ages.out.keep fun b hb' => hbz.block b (Nat.lt_of_lt_of_le hb' HB_ages.out))
      have HB_ages := Lib.hid (Nat.le_trans HB_ages.out hbz.size)
      have HR_l := Lib.hid (HR_l.out.keep fun b hb' => hbz.block b (Nat.lt_of_lt_of_le hb' HB_l.out))
      have HB_l := Lib.hid (Nat.le_trans HB_l.out hbz.size)
      have HT6 := Lib.hid (below_step HT4.out hbz)
      have HXs_ages := Lib.hid (ho5.weak (B := v5.heap.size) ho5.olt)
      have HXs_ages_s := Lib.hid (Nat.le_refl v5.heap.size)
      clear ho5 hnd5 hf5
      clear hbz
      go_wp2_with fail
      refine (toVoteStepS_c l _ _ _ _ w.heap.size HR_l.out HB_l.out (by omega)).mono ?_
      rintro e v7 ⟨A7, n7, c7, fp7, rfl, ho7, hnd7, hf7, hbz⟩
      have HR_ages := Lib.hid (HR_ages.out.keep fun b hb' => hbz.block b (Nat.lt_of_lt_of_le hb' HB_ages.out))
      have HB_ages := Lib.hid (Nat.le_trans HB_ages.out hbz.size)
      have HR_l := Lib.hid (HR_l.out.keep fun b hb' => hbz.block b (Nat.lt_of_lt_of_le hb' HB_l.out))
      have HB_l := Lib.hid (Nat.le_trans HB_l.out hbz.size)
      have HXs_ages := Lib.hid (HXs_ages.out.keep fun b hb' => hbz.block b (Nat.lt_of_lt_of_le hb' HXs_ages_s.out))
      have HXs_ages_s := Lib.hid (Nat.le_trans HXs_ages_s.out hbz.size)
      have HT8 := Lib.hid (below_step HT6.out hbz)
      have HXs_l := Lib.hid (ho7.weak (B := v7.heap.size) ho7.olt)
      have HXs_l_s := Lib.hid (Nat.le_refl v7.heap.size)
      clear ho7 hnd7 hf7
      clear hbz
      go_wp2_with fail
      refine (specPlayPoll_c ages l _ _ _ _ _ _ _ _ (HXs_ages.out.more HXs_ages_s.out) (HXs_l.out.more HXs_l_s.out) (Nat.le_refl _)).mono ?_
      rintro e v9 ⟨cs9_0, A9_1, n9_1, c9_1, fp9_0, fp9_1, rfl, hS9⟩
      have hbz := hS9.bel0
      have ho9_0 : rPoll.own v9 ((Pl.playPoll ages l).1) cs9_0 fp9_0 := hS9.at_ 0 rfl
      have hnd9_0 := hS9.ndat (i := 0) rfl
      have hf9_0 : ∀ b, b ∈ fp9_0 → _ ≤ b := fun b hb' => (hS9.new b (Mm.SepF.mem (i := 0) rfl hb')).resolve_left (fun hh => by cases hh)
      have ho9_1 : Mm.SlOwn Mm.bool 4 v9 ((Pl.playPoll ages l).2.1) (.slice A9_1 n9_1 c9_1) fp9_1 := hS9.at_ 1 rfl
      have hnd9_1 := hS9.ndat (i := 1) rfl
      have hf9_1 : ∀ b, b ∈ fp9_1 → _ ≤ b := fun b hb' => (hS9.new b (Mm.SepF.mem (i := 1) rfl hb')).resolve_left (fun hh => by cases hh)
      have DP9_0_1 := Lib.hid (show ∀ b, b ∈ fp9_0 → b ∉ fp9_1 from hS9.apart (i := 0) (j := 1) rfl rfl (by decide))
      have DP9_1_0 := Lib.hid (show ∀ b, b ∈ fp9_1 → b ∉ fp9_0 from hS9.apart (i := 1) (j := 0) rfl rfl (by decide))
      obtain ⟨A0_9_0, n0_9_0, c0_9_0, A1_9_0, n1_9_0, c1_9_0, A2_9_0, n2_9_0, c2_9_0, _, _, _, rfl, -⟩ := rPoll_own ho9_0
      clear hS9
      have HR_ages := Lib.hid (HR_ages.out.keep fun b hb' => hbz.block b (Nat.lt_of_lt_of_le hb' HB_ages.out))
      have HB_ages := Lib.hid (Nat.le_trans HB_ages.out hbz.size)
      have HR_l := Lib.hid (HR_l.out.keep fun b hb' => hbz.block b (Nat.lt_of_lt_of_le hb' HB_l.out))
      have HB_l := Lib.hid (Nat.le_trans HB_l.out hbz.size)
      have HXs_ages := Lib.hid (HXs_ages.out.keep fun b hb' => hbz.block b (Nat.lt_of_lt_of_le hb' HXs_ages_s.out))
      have HXs_ages_s := Lib.hid (Nat.le_trans HXs_ages_s.out hbz.size)
      have HXs_l := Lib.hid (HXs_l.out.keep fun b hb' => hbz.block b (Nat.lt_of_lt_of_le hb' HXs_l_s.out))
      have HXs_l_s := Lib.hid (Nat.le_trans HXs_l_s.out hbz.size)
      have HT10 := Lib.hid (below_step HT8.out hbz)
      have HW0_0 := Lib.hid (rPoll.weak ho9_0 (B := v9.heap.size) (rPoll.olt ho9_0))
      have HW0_0_s := Lib.hid (Nat.le_refl v9.heap.size)
      clear ho9_0 hnd9_0 hf9_0
      have HW0_1 := Lib.hid (ho9_1.weak (B := v9.heap.size) ho9_1.olt)
      have HW0_1_s := Lib.hid (Nat.le_refl v9.heap.size)
      clear ho9_1 hnd9_1 hf9_1
      clear hbz
      have hbx : Below v9.heap.size v9 (v9.alloc (.cells #[.slice A0_9_0 n0_9_0 c0_9_0, .slice A1_9_0 n1_9_0 c1_9_0, .slice A2_9_0 n2_9_0 c2_9_0] 31)) := below_new (Below.refl _ _) _
      have HR_ages := Lib.hid (HR_ages.out.keep fun b hb' => hbx.block b (Nat.lt_of_lt_of_le hb' HB_ages.out))
      have HB_ages := Lib.hid (Nat.le_trans HB_ages.out hbx.size)
      have HR_l := Lib.hid (HR_l.out.keep fun b hb' => hbx.block b (Nat.lt_of_lt_of_le hb' HB_l.out))
      have HB_l := Lib.hid (Nat.le_trans HB_l.out hbx.size)
      have HW0_0 := Lib.hid (rPoll.keep HW0_0.out fun b hb' => hbx.block b (Nat.lt_of_lt_of_le hb' HW0_0_s.out))
      have HW0_0_s := Lib.hid (Nat.le_trans HW0_0_s.out hbx.size)
      have HW0_1 := Lib.hid (HW0_1.out.keep fun b hb' => hbx.block b (Nat.lt_of_lt_of_le hb' HW0_1_s.out))
      have HW0_1_s := Lib.hid (Nat.le_trans HW0_1_s.out hbx.size)
      have HT11 := Lib.hid (below_step HT10.out hbx)
      clear hbx
      have KW_0 := Lib.hid (Mm.Blk.new v9 31 [.slice A0_9_0 n0_9_0 c0_9_0, .slice A1_9_0 n1_9_0 c1_9_0, .slice A2_9_0 n2_9_0 c2_9_0])
      go_wp2_with fail
      refine (toIntS_c ages _ _ _ _ w.heap.size HR_ages.out HB_ages.out (by omega)).mono ?_
      rintro e v12 ⟨A12, n12, c12, fp12, rfl, ho12, hnd12, hf12, hbz⟩
      have AP12_HR_ages := Lib.hid (show ∀ b, b ∈ fp12 → w.heap.size ≤ b from fun b hb' => Nat.le_trans HB_ages.out (hf12 b hb'))
      have AP12_HR_l := Lib.hid (show ∀ b, b ∈ fp12 → w.heap.size ≤ b from fun b hb' => Nat.le_trans HB_l.out (hf12 b hb'))
      have AP12_HW0_0 := Lib.hid (show ∀ b, b ∈ fp12 → v9.heap.size ≤ b from fun b hb' => Nat.le_trans HW0_0_s.out (hf12 b hb'))
      have AP12_HW0_1 := Lib.hid (show ∀ b, b ∈ fp12 → v9.heap.size ≤ b from fun b hb' => Nat.le_trans HW0_1_s.out (hf12 b hb'))
      have NB12_KW_0 := Lib.hid (show ¬ v9.heap.size ∈ fp12 from fun hm => by have := KW_0.out.lt; have := hf12 _ hm; omega)
      have FR12 := Lib.hid (show ∀ b, b ∈ fp12 → w.heap.size ≤ b from fun b hb' => Nat.le_trans HT11.out.size (hf12 b hb'))
      have ND12 := Lib.hid hnd12
      have LT12 := Lib.hid (show ∀ b, b ∈ fp12 → b < v12.heap.size from ho12.olt)
      have HR_ages := Lib.hid (HR_ages.out.keep fun b hb' => hbz.block b (Nat.lt_of_lt_of_le hb' HB_ages.out))
      have HB_ages := Lib.hid (Nat.le_trans HB_ages.out hbz.size)
      have HR_l := Lib.hid (HR_l.out.keep fun b hb' => hbz.block b (Nat.lt_of_lt_of_le hb' HB_l.out))
      have HB_l := Lib.hid (Nat.le_trans HB_l.out hbz.size)
      have HW0_0 := Lib.hid (rPoll.keep HW0_0.out fun b hb' => hbz.block b (Nat.lt_of_lt_of_le hb' HW0_0_s.out))
      have HW0_0_s := Lib.hid (Nat.le_trans HW0_0_s.out hbz.size)
      have HW0_1 := Lib.hid (HW0_1.out.keep fun b hb' => hbz.block b (Nat.lt_of_lt_of_le hb' HW0_1_s.out))
      have HW0_1_s := Lib.hid (Nat.le_trans HW0_1_s.out hbz.size)
      have KW_0 := Lib.hid (KW_0.out.bel hbz)
      have HT13 := Lib.hid (below_step HT11.out hbz)
      have HXx_ages := Lib.hid (ho12.weak (B := v12.heap.size) ho12.olt)
      have HXx_ages_s := Lib.hid (Nat.le_refl v12.heap.size)
      have OX_ages := Lib.hid ho12
      clear ho12 hnd12 hf12
      clear hbz
      go_wp2_with fail
      refine (toVoteStepS_c l _ _ _ _ w.heap.size HR_l.out HB_l.out (by omega)).mono ?_
      rintro e v14 ⟨A14, n14, c14, fp14, rfl, ho14, hnd14, hf14, hbz⟩
      have AP14_HR_ages := Lib.hid (show ∀ b, b ∈ fp14 → w.heap.size ≤ b from fun b hb' => Nat.le_trans HB_ages.out (hf14 b hb'))
      have AP14_HR_l := Lib.hid (show ∀ b, b ∈ fp14 → w.heap.size ≤ b from fun b hb' => Nat.le_trans HB_l.out (hf14 b hb'))
      have AP14_HW0_0 := Lib.hid (show ∀ b, b ∈ fp14 → v9.heap.size ≤ b from fun b hb' => Nat.le_trans HW0_0_s.out (hf14 b hb'))
      have AP14_HW0_1 := Lib.hid (show ∀ b, b ∈ fp14 → v9.heap.size ≤ b from fun b hb' => Nat.le_trans HW0_1_s.out (hf14 b hb'))
      have AP14_HXx_ages := Lib.hid (show ∀ b, b ∈ fp14 → v12.heap.size ≤ b from fun b hb' => Nat.le_trans HXx_ages_s.out (hf14 b hb'))
      have DP14_OX_ages := Lib.hid (show ∀ b, b ∈ fp14 → b ∉ fp12 from fun b hb' hm => by have := OX_ages.out.olt b hm; have := hf14 b hb'; omega)
      have NB14_KW_0 := Lib.hid (show ¬ v9.heap.size ∈ fp14 from fun hm => by have := KW_0.out.lt; have := hf14 _ hm; omega)
      have FR14 := Lib.hid (show ∀ b, b ∈ fp14 → w.heap.size ≤ b from fun b hb' => Nat.le_trans HT13.out.size (hf14 b hb'))
      have ND14 := Lib.hid hnd14
      have LT14 := Lib.hid (show ∀ b, b ∈ fp14 → b < v14.heap.size from ho14.olt)
      have HR_ages := Lib.hid (HR_ages.out.keep fun b hb' => hbz.block b (Nat.lt_of_lt_of_le hb' HB_ages.out))
      have HB_ages := Lib.hid (Nat.le_trans HB_ages.out hbz.size)
      have HR_l := Lib.hid (HR_l.out.keep fun b hb' => hbz.block b (Nat.lt_of_lt_of_le hb' HB_l.out))
      have HB_l := Lib.hid (Nat.le_trans HB_l.out hbz.size)
      have HW0_0 := Lib.hid (rPoll.keep HW0_0.out fun b hb' => hbz.block b (Nat.lt_of_lt_of_le hb' HW0_0_s.out))
      have HW0_0_s := Lib.hid (Nat.le_trans HW0_0_s.out hbz.size)
      have HW0_1 := Lib.hid (HW0_1.out.keep fun b hb' => hbz.block b (Nat.lt_of_lt_of_le hb' HW0_1_s.out))
      have HW0_1_s := Lib.hid (Nat.le_trans HW0_1_s.out hbz.size)
      have HXx_ages := Lib.hid (HXx_ages.out.keep fun b hb' => hbz.block b (Nat.lt_of_lt_of_le hb' HXx_ages_s.out))
      have HXx_ages_s := Lib.hid (Nat.le_trans HXx_ages_s.out hbz.size)
      have OX_ages := Lib.hid (OX_ages.out.okeep fun b hb' => hbz.block b (OX_ages.out.olt b hb'))
      have KW_0 := Lib.hid (KW_0.out.bel hbz)
      have HT15 := Lib.hid (below_step HT13.out hbz)
      have HXx_l := Lib.hid (ho14.weak (B := v14.heap.size) ho14.olt)
      have HXx_l_s := Lib.hid (Nat.le_refl v14.heap.size)
      have OX_l := Lib.hid ho14
      clear ho14 hnd14 hf14
      clear hbz
      go_wp2_with fail
      refine (implPlayPoll_c ages l _ _ _ _ _ _ _ _ (HXx_ages.out.more HXx_ages_s.out) (HXx_l.out.more HXx_l_s.out) (Nat.le_refl _)).mono ?_
      rintro e v16 ⟨cs16_0, A16_1, n16_1, c16_1, fp16_0, fp16_1, rfl, hS16⟩
      have hbz := hS16.bel0
      have ho16_0 : rPoll.own v16 ((Pl.playPoll ages l).1) cs16_0 fp16_0 := hS16.at_ 0 rfl
      have hnd16_0 := hS16.ndat (i := 0) rfl
      have hf16_0 : ∀ b, b ∈ fp16_0 → _ ≤ b := fun b hb' => (hS16.new b (Mm.SepF.mem (i := 0) rfl hb')).resolve_left (fun hh => by cases hh)
      have ho16_1 : Mm.SlOwn Mm.bool 4 v16 ((Pl.playPoll ages l).2.1) (.slice A16_1 n16_1 c16_1) fp16_1 := hS16.at_ 1 rfl
      have hnd16_1 := hS16.ndat (i := 1) rfl
      have hf16_1 : ∀ b, b ∈ fp16_1 → _ ≤ b := fun b hb' => (hS16.new b (Mm.SepF.mem (i := 1) rfl hb')).resolve_left (fun hh => by cases hh)
      have DP16_0_1 := Lib.hid (show ∀ b, b ∈ fp16_0 → b ∉ fp16_1 from hS16.apart (i := 0) (j := 1) rfl rfl (by decide))
      have DP16_1_0 := Lib.hid (show ∀ b, b ∈ fp16_1 → b ∉ fp16_0 from hS16.apart (i := 1) (j := 0) rfl rfl (by decide))
      obtain ⟨A0_16_0, n0_16_0, c0_16_0, A1_16_0, n1_16_0, c1_16_0, A2_16_0, n2_16_0, c2_16_0, _, _, _, rfl, -⟩ := rPoll_own ho16_0
      clear hS16
      have AP16_0_HR_ages := Lib.hid (show ∀ b, b ∈ fp16_0 → w.heap.size ≤ b from fun b hb' => Nat.le_trans HB_ages.out (hf16_0 b hb'))
      have AP16_0_HR_l := Lib.hid (show ∀ b, b ∈ fp16_0 → w.heap.size ≤ b from fun b hb' => Nat.le_trans HB_l.out (hf16_0 b hb'))
      have AP16_0_HW0_0 := Lib.hid (show ∀ b, b ∈ fp16_0 → v9.heap.size ≤ b from fun b hb' => Nat.le_trans HW0_0_s.out (hf16_0 b hb'))
      have AP16_0_HW0_1 := Lib.hid (show ∀ b, b ∈ fp16_0 → v9.heap.size ≤ b from fun b hb' => Nat.le_trans HW0_1_s.out (hf16_0 b hb'))
      have AP16_0_HXx_ages := Lib.hid (show ∀ b, b ∈ fp16_0 → v12.heap.size ≤ b from fun b hb' => Nat.le_trans HXx_ages_s.out (hf16_0 b hb'))
      have AP16_0_HXx_l := Lib.hid (show ∀ b, b ∈ fp16_0 → v14.heap.size ≤ b from fun b hb' => Nat.le_trans HXx_l_s.out (hf16_0 b hb'))
      have DP16_0_OX_ages := Lib.hid (show ∀ b, b ∈ fp16_0 → b ∉ fp12 from fun b hb' hm => by have := OX_ages.out.olt b hm; have := hf16_0 b hb'; omega)
      have DP16_0_OX_l := Lib.hid (show ∀ b, b ∈ fp16_0 → b ∉ fp14 from fun b hb' hm => by have := OX_l.out.olt b hm; have := hf16_0 b hb'; omega)
      have NB16_0_KW_0 := Lib.hid (show ¬ v9.heap.size ∈ fp16_0 from fun hm => by have := KW_0.out.lt; have := hf16_0 _ hm; omega)
      have FR16_0 := Lib.hid (show ∀ b, b ∈ fp16_0 → w.heap.size ≤ b from fun b hb' => Nat.le_trans HT15.out.size (hf16_0 b hb'))
      have ND16_0 := Lib.hid hnd16_0
      have LT16_0 := Lib.hid (show ∀ b, b ∈ fp16_0 → b < v16.heap.size from rPoll.olt ho16_0)
      have AP16_1_HR_ages := Lib.hid (show ∀ b, b ∈ fp16_1 → w.heap.size ≤ b from fun b hb' => Nat.le_trans HB_ages.out (hf16_1 b hb'))
      have AP16_1_HR_l := Lib.hid (show ∀ b, b ∈ fp16_1 → w.heap.size ≤ b from fun b hb' => Nat.le_trans HB_l.out (hf16_1 b hb'))
      have AP16_1_HW0_0 := Lib.hid (show ∀ b, b ∈ fp16_1 → v9.heap.size ≤ b from fun b hb' => Nat.le_trans HW0_0_s.out (hf16_1 b hb'))
      have AP16_1_HW0_1 := Lib.hid (show ∀ b, b ∈ fp16_1 → v9.heap.size ≤ b from fun b hb' => Nat.le_trans HW0_1_s.out (hf16_1 b hb'))
      have AP16_1_HXx_ages := Lib.hid (show ∀ b, b ∈ fp16_1 → v12.heap.size ≤ b from fun b hb' => Nat.le_trans HXx_ages_s.out (hf16_1 b hb'))
      have AP16_1_HXx_l := Lib.hid (show ∀ b, b ∈ fp16_1 → v14.heap.size ≤ b from fun b hb' => Nat.le_trans HXx_l_s.out (hf16_1 b hb'))
      have DP16_1_OX_ages := Lib.hid (show ∀ b, b ∈ fp16_1 → b ∉ fp12 from fun b hb' hm => by have := OX_ages.out.olt b hm; have := hf16_1 b hb'; omega)
      have DP16_1_OX_l := Lib.hid (show ∀ b, b ∈ fp16_1 → b ∉ fp14 from fun b hb' hm => by have := OX_l.out.olt b hm; have := hf16_1 b hb'; omega)
      have NB16_1_KW_0 := Lib.hid (show ¬ v9.heap.size ∈ fp16_1 from fun hm => by have := KW_0.out.lt; have := hf16_1 _ hm; omega)
      have FR16_1 := Lib.hid (show ∀ b, b ∈ fp16_1 → w.heap.size ≤ b from fun b hb' => Nat.le_trans HT15.out.size (hf16_1 b hb'))
      have ND16_1 := Lib.hid hnd16_1
      have LT16_1 := Lib.hid (show ∀ b, b ∈ fp16_1 → b < v16.heap.size from ho16_1.olt)
      have HR_ages := Lib.hid (HR_ages.out.keep fun b hb' => hbz.block b (Nat.lt_of_lt_of_le hb' HB_ages.out))
      have HB_ages := Lib.hid (Nat.le_trans HB_ages.out hbz.size)
      have HR_l := Lib.hid (HR_l.out.keep fun b hb' => hbz.block b (Nat.lt_of_lt_of_le hb' HB_l.out))
      have HB_l := Lib.hid (Nat.le_trans HB_l.out hbz.size)
      have HW0_0 := Lib.hid (rPoll.keep HW0_0.out fun b hb' => hbz.block b (Nat.lt_of_lt_of_le hb' HW0_0_s.out))
      have HW0_0_s := Lib.hid (Nat.le_trans HW0_0_s.out hbz.size)
      have HW0_1 := Lib.hid (HW0_1.out.keep fun b hb' => hbz.block b (Nat.lt_of_lt_of_le hb' HW0_1_s.out))
      have HW0_1_s := Lib.hid (Nat.le_trans HW0_1_s.out hbz.size)
      have HXx_ages := Lib.hid (HXx_ages.out.keep fun b hb' => hbz.block b (Nat.lt_of_lt_of_le hb' HXx_ages_s.out))
      have HXx_ages_s := Lib.hid (Nat.le_trans HXx_ages_s.out hbz.size)
      have HXx_l := Lib.hid (HXx_l.out.keep fun b hb' => hbz.block b (Nat.lt_of_lt_of_le hb' HXx_l_s.out))
      have HXx_l_s := Lib.hid (Nat.le_trans HXx_l_s.out hbz.size)
      have OX_ages := Lib.hid (OX_ages.out.okeep fun b hb' => hbz.block b (OX_ages.out.olt b hb'))
      have OX_l := Lib.hid (OX_l.out.okeep fun b hb' => hbz.block b (OX_l.out.olt b hb'))
      have KW_0 := Lib.hid (KW_0.out.bel hbz)
      have HT17 := Lib.hid (below_step HT15.out hbz)
      have OG_0 := Lib.hid ho16_0
      clear ho16_0 hnd16_0 hf16_0
      have OG_1 := Lib.hid ho16_1
      clear ho16_1 hnd16_1 hf16_1
      clear hbz
      have NIKG_0_fp12 := Lib.hid (show ¬ v16.heap.size ∈ fp12 from fun hm => Nat.lt_irrefl _ (OX_ages.out.olt _ hm))
      have NIKG_0_fp14 := Lib.hid (show ¬ v16.heap.size ∈ fp14 from fun hm => Nat.lt_irrefl _ (OX_l.out.olt _ hm))
      have NIKG_0_fp16_0 := Lib.hid (show ¬ v16.heap.size ∈ fp16_0 from fun hm => Nat.lt_irrefl _ (rPoll.olt OG_0.out _ hm))
      have NIKG_0_fp16_1 := Lib.hid (show ¬ v16.heap.size ∈ fp16_1 from fun hm => Nat.lt_irrefl _ (OG_1.out.olt _ hm))
      have hbx : Below v16.heap.size v16 (v16.alloc (.cells #[.slice A0_16_0 n0_16_0 c0_16_0, .slice A1_16_0 n1_16_0 c1_16_0, .slice A2_16_0 n2_16_0 c2_16_0] 31)) := below_new (Below.refl _ _) _
      have HR_ages := Lib.hid (HR_ages.out.keep fun b hb' => hbx.block b (Nat.lt_of_lt_of_le hb' HB_ages.out))
      have HB_ages := Lib.hid (Nat.le_trans HB_ages.out hbx.size)
      have HR_l := Lib.hid (HR_l.out.keep fun b hb' => hbx.block b (Nat.lt_of_lt_of_le hb' HB_l.out))
      have HB_l := Lib.hid (Nat.le_trans HB_l.out hbx.size)
      have HW0_0 := Lib.hid (rPoll.keep HW0_0.out fun b hb' => hbx.block b (Nat.lt_of_lt_of_le hb' HW0_0_s.out))
      have HW0_0_s := Lib.hid (Nat.le_trans HW0_0_s.out hbx.size)
      have HW0_1 := Lib.hid (HW0_1.out.keep fun b hb' => hbx.block b (Nat.lt_of_lt_of_le hb' HW0_1_s.out))
      have HW0_1_s := Lib.hid (Nat.le_trans HW0_1_s.out hbx.size)
      have HXx_ages := Lib.hid (HXx_ages.out.keep fun b hb' => hbx.block b (Nat.lt_of_lt_of_le hb' HXx_ages_s.out))
      have HXx_ages_s := Lib.hid (Nat.le_trans HXx_ages_s.out hbx.size)
      have HXx_l := Lib.hid (HXx_l.out.keep fun b hb' => hbx.block b (Nat.lt_of_lt_of_le hb' HXx_l_s.out))
      have HXx_l_s := Lib.hid (Nat.le_trans HXx_l_s.out hbx.size)
      have OX_ages := Lib.hid (OX_ages.out.okeep fun b hb' => hbx.block b (OX_ages.out.olt b hb'))
      have OX_l := Lib.hid (OX_l.out.okeep fun b hb' => hbx.block b (OX_l.out.olt b hb'))
      have OG_0 := Lib.hid (rPoll.okeep OG_0.out fun b hb' => hbx.block b (rPoll.olt OG_0.out b hb'))
      have OG_1 := Lib.hid (OG_1.out.okeep fun b hb' => hbx.block b (OG_1.out.olt b hb'))
      have KW_0 := Lib.hid (KW_0.out.bel hbx)
      have HT18 := Lib.hid (below_step HT17.out hbx)
      clear hbx
      have KG_0 := Lib.hid (Mm.Blk.new v16 31 [.slice A0_16_0 n0_16_0 c0_16_0, .slice A1_16_0 n1_16_0 c1_16_0, .slice A2_16_0 n2_16_0 c2_16_0])
      have c19_KW_0_0 := KW_0.out.cell (i := 0) rfl
      have c19_KW_0_1 := KW_0.out.cell (i := 1) rfl
      have c19_KW_0_2 := KW_0.out.cell (i := 2) rfl
      have c19_KG_0_0 := KG_0.out.cell (i := 0) rfl
      have c19_KG_0_1 := KG_0.out.cell (i := 1) rfl
      have c19_KG_0_2 := KG_0.out.cell (i := 2) rfl
      go_wp2_with fail
      refine (eqPoll_at ((Pl.playPoll ages l).1) _ _ _ _ (rPoll.weak OG_0.out (B := _) (rPoll.olt OG_0.out)) (rPoll.more HW0_0.out HW0_0_s.out) (Nat.le_refl _)).mono ?_
      rintro e v20 ⟨rfl, hbz⟩
      have HR_ages := Lib.hid (HR_ages.out.keep fun b hb' => hbz.block b (Nat.lt_of_lt_of_le hb' HB_ages.out))
      have HB_ages := Lib.hid (Nat.le_trans HB_ages.out hbz.size)
      have HR_l := Lib.hid (HR_l.out.keep fun b hb' => hbz.block b (Nat.lt_of_lt_of_le hb' HB_l.out))
      have HB_l := Lib.hid (Nat.le_trans HB_l.out hbz.size)
      have HW0_0 := Lib.hid (rPoll.keep HW0_0.out fun b hb' => hbz.block b (Nat.lt_of_lt_of_le hb' HW0_0_s.out))
      have HW0_0_s := Lib.hid (Nat.le_trans HW0_0_s.out hbz.size)
      have HW0_1 := Lib.hid (HW0_1.out.keep fun b hb' => hbz.block b (Nat.lt_of_lt_of_le hb' HW0_1_s.out))
      have HW0_1_s := Lib.hid (Nat.le_trans HW0_1_s.out hbz.size)
      have HXx_ages := Lib.hid (HXx_ages.out.keep fun b hb' => hbz.block b (Nat.lt_of_lt_of_le hb' HXx_ages_s.out))
      have HXx_ages_s := Lib.hid (Nat.le_trans HXx_ages_s.out hbz.size)
      have HXx_l := Lib.hid (HXx_l.out.keep fun b hb' => hbz.block b (Nat.lt_of_lt_of_le hb' HXx_l_s.out))
      have HXx_l_s := Lib.hid (Nat.le_trans HXx_l_s.out hbz.size)
      have OX_ages := Lib.hid (OX_ages.out.okeep fun b hb' => hbz.block b (OX_ages.out.olt b hb'))
      have OX_l := Lib.hid (OX_l.out.okeep fun b hb' => hbz.block b (OX_l.out.olt b hb'))
      have OG_0 := Lib.hid (rPoll.okeep OG_0.out fun b hb' => hbz.block b (rPoll.olt OG_0.out b hb'))
      have OG_1 := Lib.hid (OG_1.out.okeep fun b hb' => hbz.block b (OG_1.out.olt b hb'))
      have KW_0 := Lib.hid (KW_0.out.bel hbz)
      have KG_0 := Lib.hid (KG_0.out.bel hbz)
      have HT21 := Lib.hid (below_step HT18.out hbz)
      clear hbz
      go_wp2_with fail
      refine (eqBoolS_c ((Pl.playPoll ages l).2.1) _ _ _ _ _ _ _ _ (OG_1.out.weak (B := _) OG_1.out.olt) (HW0_1.out.more HW0_1_s.out) (Nat.le_refl _)).mono ?_
      rintro e v22 ⟨rfl, hbz⟩
      have HR_ages := Lib.hid (HR_ages.out.keep fun b hb' => hbz.block b (Nat.lt_of_lt_of_le hb' HB_ages.out))
      have HB_ages := Lib.hid (Nat.le_trans HB_ages.out hbz.size)
      have HR_l := Lib.hid (HR_l.out.keep fun b hb' => hbz.block b (Nat.lt_of_lt_of_le hb' HB_l.out))
      have HB_l := Lib.hid (Nat.le_trans HB_l.out hbz.size)
      have HW0_0 := Lib.hid (rPoll.keep HW0_0.out fun b hb' => hbz.block b (Nat.lt_of_lt_of_le hb' HW0_0_s.out))
      have HW0_0_s := Lib.hid (Nat.le_trans HW0_0_s.out hbz.size)
      have HW0_1 := Lib.hid (HW0_1.out.keep fun b hb' => hbz.block b (Nat.lt_of_lt_of_le hb' HW0_1_s.out))
      have HW0_1_s := Lib.hid (Nat.le_trans HW0_1_s.out hbz.size)
      have HXx_ages := Lib.hid (HXx_ages.out.keep fun b hb' => hbz.block b (Nat.lt_of_lt_of_le hb' HXx_ages_s.out))
      have HXx_ages_s := Lib.hid (Nat.le_trans HXx_ages_s.out hbz.size)
      have HXx_l := Lib.hid (HXx_l.out.keep fun b hb' => hbz.block b (Nat.lt_of_lt_of_le hb' HXx_l_s.out))
      have HXx_l_s := Lib.hid (Nat.le_trans HXx_l_s.out hbz.size)
      have OX_ages := Lib.hid (OX_ages.out.okeep fun b hb' => hbz.block b (OX_ages.out.olt b hb'))
      have OX_l := Lib.hid (OX_l.out.okeep fun b hb' => hbz.block b (OX_l.out.olt b hb'))
      have OG_0 := Lib.hid (rPoll.okeep OG_0.out fun b hb' => hbz.block b (rPoll.olt OG_0.out b hb'))
      have OG_1 := Lib.hid (OG_1.out.okeep fun b hb' => hbz.block b (OG_1.out.olt b hb'))
      have KW_0 := Lib.hid (KW_0.out.bel hbz)
      have KG_0 := Lib.hid (KG_0.out.bel hbz)
      have HT23 := Lib.hid (below_step HT21.out hbz)
      clear hbz
      go_wp2_with fail
      refine (toIntS_c ages _ _ _ _ w.heap.size HR_ages.out HB_ages.out (by omega)).mono ?_
      rintro e v24 ⟨A24, n24, c24, fp24, rfl, ho24, hnd24, hf24, hbz⟩
      have HR_ages := Lib.hid (HR_ages.out.keep fun b hb' => hbz.block b (Nat.lt_of_lt_of_le hb' HB_ages.out))
      have HB_ages := Lib.hid (Nat.le_trans HB_ages.out hbz.size)
      have HR_l := Lib.hid (HR_l.out.keep fun b hb' => hbz.block b (Nat.lt_of_lt_of_le hb' HB_l.out))
      have HB_l := Lib.hid (Nat.le_trans HB_l.out hbz.size)
      have HW0_0 := Lib.hid (rPoll.keep HW0_0.out fun b hb' => hbz.block b (Nat.lt_of_lt_of_le hb' HW0_0_s.out))
      have HW0_0_s := Lib.hid (Nat.le_trans HW0_0_s.out hbz.size)
      have HW0_1 := Lib.hid (HW0_1.out.keep fun b hb' => hbz.block b (Nat.lt_of_lt_of_le hb' HW0_1_s.out))
      have HW0_1_s := Lib.hid (Nat.le_trans HW0_1_s.out hbz.size)
      have HXx_ages := Lib.hid (HXx_ages.out.keep fun b hb' => hbz.block b (Nat.lt_of_lt_of_le hb' HXx_ages_s.out))
      have HXx_ages_s := Lib.hid (Nat.le_trans HXx_ages_s.out hbz.size)
      have HXx_l := Lib.hid (HXx_l.out.keep fun b hb' => hbz.block b (Nat.lt_of_lt_of_le hb' HXx_l_s.out))
      have HXx_l_s := Lib.hid (Nat.le_trans HXx_l_s.out hbz.size)
      have OX_ages := Lib.hid (OX_ages.out.okeep fun b hb' => hbz.block b (OX_ages.out.olt b hb'))
      have OX_l := Lib.hid (OX_l.out.okeep fun b hb' => hbz.block b (OX_l.out.olt b hb'))
      have OG_0 := Lib.hid (rPoll.okeep OG_0.out fun b hb' => hbz.block b (rPoll.olt OG_0.out b hb'))
      have OG_1 := Lib.hid (OG_1.out.okeep fun b hb' => hbz.block b (OG_1.out.olt b hb'))
      have KW_0 := Lib.hid (KW_0.out.bel hbz)
      have KG_0 := Lib.hid (KG_0.out.bel hbz)
      have HT25 := Lib.hid (below_step HT23.out hbz)
      have HXz_ages := Lib.hid (ho24.weak (B := v24.heap.size) ho24.olt)
      have HXz_ages_s := Lib.hid (Nat.le_refl v24.heap.size)
      clear ho24 hnd24 hf24
      clear hbz
      go_wp2_with fail
      refine (eqIntS_c ages _ _ _ _ _ _ _ v24.heap.size (HXx_ages.out.more HXx_ages_s.out) HXz_ages.out (Nat.le_refl _)).mono ?_
      rintro e v26 ⟨rfl, hbz⟩
      have HR_ages := Lib.hid (HR_ages.out.keep fun b hb' => hbz.block b (Nat.lt_of_lt_of_le hb' HB_ages.out))
      have HB_ages := Lib.hid (Nat.le_trans HB_ages.out hbz.size)
      have HR_l := Lib.hid (HR_l.out.keep fun b hb' => hbz.block b (Nat.lt_of_lt_of_le hb' HB_l.out))
      have HB_l := Lib.hid (Nat.le_trans HB_l.out hbz.size)
      have HW0_0 := Lib.hid (rPoll.keep HW0_0.out fun b hb' => hbz.block b (Nat.lt_of_lt_of_le hb' HW0_0_s.out))
      have HW0_0_s := Lib.hid (Nat.le_trans HW0_0_s.out hbz.size)
      have HW0_1 := Lib.hid (HW0_1.out.keep fun b hb' => hbz.block b (Nat.lt_of_lt_of_le hb' HW0_1_s.out))
      have HW0_1_s := Lib.hid (Nat.le_trans HW0_1_s.out hbz.size)
      have HXx_ages := Lib.hid (HXx_ages.out.keep fun b hb' => hbz.block b (Nat.lt_of_lt_of_le hb' HXx_ages_s.out))
      have HXx_ages_s := Lib.hid (Nat.le_trans HXx_ages_s.out hbz.size)
      have HXx_l := Lib.hid (HXx_l.out.keep fun b hb' => hbz.block b (Nat.lt_of_lt_of_le hb' HXx_l_s.out))
      have HXx_l_s := Lib.hid (Nat.le_trans HXx_l_s.out hbz.size)
      have HXz_ages := Lib.hid (HXz_ages.out.keep fun b hb' => hbz.block b (Nat.lt_of_lt_of_le hb' HXz_ages_s.out))
      have HXz_ages_s := Lib.hid (Nat.le_trans HXz_ages_s.out hbz.size)
      have OX_ages := Lib.hid (OX_ages.out.okeep fun b hb' => hbz.block b (OX_ages.out.olt b hb'))
      have OX_l := Lib.hid (OX_l.out.okeep fun b hb' => hbz.block b (OX_l.out.olt b hb'))
      have OG_0 := Lib.hid (rPoll.okeep OG_0.out fun b hb' => hbz.block b (rPoll.olt OG_0.out b hb'))
      have OG_1 := Lib.hid (OG_1.out.okeep fun b hb' => hbz.block b (OG_1.out.olt b hb'))
      have KW_0 := Lib.hid (KW_0.out.bel hbz)
      have KG_0 := Lib.hid (KG_0.out.bel hbz)
      have HT27 := Lib.hid (below_step HT25.out hbz)
      clear hbz
      go_wp2_with fail
      refine (toVoteStepS_c l _ _ _ _ w.heap.size HR_l.out HB_l.out (by omega)).mono ?_
      rintro e v28 ⟨A28, n28, c28, fp28, rfl, ho28, hnd28, hf28, hbz⟩
      have HR_ages := Lib.hid (HR_ages.out.keep fun b hb' => hbz.block b (Nat.lt_of_lt_of_le hb' HB_ages.out))
      have HB_ages := Lib.hid (Nat.le_trans HB_ages.out hbz.size)
      have HR_l := Lib.hid (HR_l.out.keep fun b hb' => hbz.block b (Nat.lt_of_lt_of_le hb' HB_l.out))
      have HB_l := Lib.hid (Nat.le_trans HB_l.out hbz.size)
      have HW0_0 := Lib.hid (rPoll.keep HW0_0.out fun b hb' => hbz.block b (Nat.lt_of_lt_of_le hb' HW0_0_s.out))
      have HW0_0_s := Lib.hid (Nat.le_trans HW0_0_s.out hbz.size)
      have HW0_1 := Lib.hid (HW0_1.out.keep fun b hb' => hbz.block b (Nat.lt_of_lt_of_le hb' HW0_1_s.out))
      have HW0_1_s := Lib.hid (Nat.le_trans HW0_1_s.out hbz.size)
      have HXx_ages := Lib.hid (HXx_ages.out.keep fun b hb' => hbz.block b (Nat.lt_of_lt_of_le hb' HXx_ages_s.out))
      have HXx_ages_s := Lib.hid (Nat.le_trans HXx_ages_s.out hbz.size)
      have HXx_l := Lib.hid (HXx_l.out.keep fun b hb' => hbz.block b (Nat.lt_of_lt_of_le hb' HXx_l_s.out))
      have HXx_l_s := Lib.hid (Nat.le_trans HXx_l_s.out hbz.size)
      have OX_ages := Lib.hid (OX_ages.out.okeep fun b hb' => hbz.block b (OX_ages.out.olt b hb'))
      have OX_l := Lib.hid (OX_l.out.okeep fun b hb' => hbz.block b (OX_l.out.olt b hb'))
      have OG_0 := Lib.hid (rPoll.okeep OG_0.out fun b hb' => hbz.block b (rPoll.olt OG_0.out b hb'))
      have OG_1 := Lib.hid (OG_1.out.okeep fun b hb' => hbz.block b (OG_1.out.olt b hb'))
      have KW_0 := Lib.hid (KW_0.out.bel hbz)
      have KG_0 := Lib.hid (KG_0.out.bel hbz)
      have HT29 := Lib.hid (below_step HT27.out hbz)
      have HXz_l := Lib.hid (ho28.weak (B := v28.heap.size) ho28.olt)
      have HXz_l_s := Lib.hid (Nat.le_refl v28.heap.size)
      clear ho28 hnd28 hf28
      clear hbz
      go_wp2_with fail
      refine (eqVoteStepS_c l _ _ _ _ _ _ _ v28.heap.size (HXx_l.out.more HXx_l_s.out) HXz_l.out (Nat.le_refl _)).mono ?_
      rintro e v30 ⟨rfl, hbz⟩
      have HR_ages := Lib.hid (HR_ages.out.keep fun b hb' => hbz.block b (Nat.lt_of_lt_of_le hb' HB_ages.out))
      have HB_ages := Lib.hid (Nat.le_trans HB_ages.out hbz.size)
      have HR_l := Lib.hid (HR_l.out.keep fun b hb' => hbz.block b (Nat.lt_of_lt_of_le hb' HB_l.out))
      have HB_l := Lib.hid (Nat.le_trans HB_l.out hbz.size)
      have HW0_0 := Lib.hid (rPoll.keep HW0_0.out fun b hb' => hbz.block b (Nat.lt_of_lt_of_le hb' HW0_0_s.out))
      have HW0_0_s := Lib.hid (Nat.le_trans HW0_0_s.out hbz.size)
      have HW0_1 := Lib.hid (HW0_1.out.keep fun b hb' => hbz.block b (Nat.lt_of_lt_of_le hb' HW0_1_s.out))
      have HW0_1_s := Lib.hid (Nat.le_trans HW0_1_s.out hbz.size)
      have HXx_ages := Lib.hid (HXx_ages.out.keep fun b hb' => hbz.block b (Nat.lt_of_lt_of_le hb' HXx_ages_s.out))
      have HXx_ages_s := Lib.hid (Nat.le_trans HXx_ages_s.out hbz.size)
      have HXx_l := Lib.hid (HXx_l.out.keep fun b hb' => hbz.block b (Nat.lt_of_lt_of_le hb' HXx_l_s.out))
      have HXx_l_s := Lib.hid (Nat.le_trans HXx_l_s.out hbz.size)
      have HXz_l := Lib.hid (HXz_l.out.keep fun b hb' => hbz.block b (Nat.lt_of_lt_of_le hb' HXz_l_s.out))
      have HXz_l_s := Lib.hid (Nat.le_trans HXz_l_s.out hbz.size)
      have OX_ages := Lib.hid (OX_ages.out.okeep fun b hb' => hbz.block b (OX_ages.out.olt b hb'))
      have OX_l := Lib.hid (OX_l.out.okeep fun b hb' => hbz.block b (OX_l.out.olt b hb'))
      have OG_0 := Lib.hid (rPoll.okeep OG_0.out fun b hb' => hbz.block b (rPoll.olt OG_0.out b hb'))
      have OG_1 := Lib.hid (OG_1.out.okeep fun b hb' => hbz.block b (OG_1.out.olt b hb'))
      have KW_0 := Lib.hid (KW_0.out.bel hbz)
      have KG_0 := Lib.hid (KG_0.out.bel hbz)
      have HT31 := Lib.hid (below_step HT29.out hbz)
      clear hbz
      have hcn_ages := Mm.cntL_nn (cnt := Pl.cnt1) (Pl.cnt1_nn) ages
      have hcb_ages : (Mm.cntL Pl.cnt1) ages ≤ 50000000 := by have := Pl.cntLb (cnt := Pl.cnt1) (f := Pl.sz0) (fun x => by have := Pl.sz0_nn x; unfold Pl.cnt1; omega) ages; omega
      have hcn_l := Mm.cntL_nn (cnt := Pl.cntVoteStep) (Pl.cntVoteStep_nn) l
      have hcb_l : (Mm.cntL Pl.cntVoteStep) l ≤ 50000000 := by have := Pl.cntLb (cnt := Pl.cntVoteStep) (f := Pl.sz0) (Pl.cntbVoteStep) l; omega
      go_wp2_with fail
      refine (markIntS_c ages _ _ _ _ _ _ OX_ages.out ND12.out (by omega) (by omega)).mono ?_
      rintro e v32 ⟨rfl, hch, -⟩
      have HR_ages := Lib.hid (HR_ages.out.keep fun b hb' => hch.block b (Nat.lt_of_lt_of_le hb' HB_ages.out) (fun hm => by have := AP12_HR_ages.out b hm; omega))
      have HB_ages := Lib.hid (Nat.le_trans HB_ages.out hch.size)
      have HR_l := Lib.hid (HR_l.out.keep fun b hb' => hch.block b (Nat.lt_of_lt_of_le hb' HB_l.out) (fun hm => by have := AP12_HR_l.out b hm; omega))
      have HB_l := Lib.hid (Nat.le_trans HB_l.out hch.size)
      have HW0_0 := Lib.hid (rPoll.keep HW0_0.out fun b hb' => hch.block b (Nat.lt_of_lt_of_le hb' HW0_0_s.out) (fun hm => by have := AP12_HW0_0.out b hm; omega))
      have HW0_0_s := Lib.hid (Nat.le_trans HW0_0_s.out hch.size)
      have HW0_1 := Lib.hid (HW0_1.out.keep fun b hb' => hch.block b (Nat.lt_of_lt_of_le hb' HW0_1_s.out) (fun hm => by have := AP12_HW0_1.out b hm; omega))
      have HW0_1_s := Lib.hid (Nat.le_trans HW0_1_s.out hch.size)
      have OX_l := Lib.hid (OX_l.out.okeep fun b hb' => hch.block b (OX_l.out.olt b hb') (fun hm => DP14_OX_ages.out b hb' hm))
      have OG_0 := Lib.hid (rPoll.okeep OG_0.out fun b hb' => hch.block b (rPoll.olt OG_0.out b hb') (fun hm => DP16_0_OX_ages.out b hb' hm))
      have OG_1 := Lib.hid (OG_1.out.okeep fun b hb' => hch.block b (OG_1.out.olt b hb') (fun hm => DP16_1_OX_ages.out b hb' hm))
      have KW_0 := Lib.hid (KW_0.out.keep (hch.block _ KW_0.out.lt (NB12_KW_0.out)))
      have KG_0 := Lib.hid (KG_0.out.keep (hch.block _ KG_0.out.lt (NIKG_0_fp12.out)))
      have HT33 := Lib.hid (Mm.Below.chg HT31.out hch HT31.out.size FR12.out)
      clear hch
      go_wp2_with fail
      refine (markVoteStepS_c l _ _ _ _ _ _ OX_l.out ND14.out (by omega) (by omega)).mono ?_
      rintro e v34 ⟨rfl, hch, -⟩
      have HR_ages := Lib.hid (HR_ages.out.keep fun b hb' => hch.block b (Nat.lt_of_lt_of_le hb' HB_ages.out) (fun hm => by have := AP14_HR_ages.out b hm; omega))
      have HB_ages := Lib.hid (Nat.le_trans HB_ages.out hch.size)
      have HR_l := Lib.hid (HR_l.out.keep fun b hb' => hch.block b (Nat.lt_of_lt_of_le hb' HB_l.out) (fun hm => by have := AP14_HR_l.out b hm; omega))
      have HB_l := Lib.hid (Nat.le_trans HB_l.out hch.size)
      have HW0_0 := Lib.hid (rPoll.keep HW0_0.out fun b hb' => hch.block b (Nat.lt_of_lt_of_le hb' HW0_0_s.out) (fun hm => by have := AP14_HW0_0.out b hm; omega))
      have HW0_0_s := Lib.hid (Nat.le_trans HW0_0_s.out hch.size)
      have HW0_1 := Lib.hid (HW0_1.out.keep fun b hb' => hch.block b (Nat.lt_of_lt_of_le hb' HW0_1_s.out) (fun hm => by have := AP14_HW0_1.out b hm; omega))
      have HW0_1_s := Lib.hid (Nat.le_trans HW0_1_s.out hch.size)
      have OG_0 := Lib.hid (rPoll.okeep OG_0.out fun b hb' => hch.block b (rPoll.olt OG_0.out b hb') (fun hm => DP16_0_OX_l.out b hb' hm))
      have OG_1 := Lib.hid (OG_1.out.okeep fun b hb' => hch.block b (OG_1.out.olt b hb') (fun hm => DP16_1_OX_l.out b hb' hm))
      have KW_0 := Lib.hid (KW_0.out.keep (hch.block _ KW_0.out.lt (NB14_KW_0.out)))
      have KG_0 := Lib.hid (KG_0.out.keep (hch.block _ KG_0.out.lt (NIKG_0_fp14.out)))
      have HT35 := Lib.hid (Mm.Below.chg HT33.out hch HT33.out.size FR14.out)
      clear hch
      have c36_KW_0_0 := KW_0.out.cell (i := 0) rfl
      have c36_KW_0_1 := KW_0.out.cell (i := 1) rfl
      have c36_KW_0_2 := KW_0.out.cell (i := 2) rfl
      have c36_KG_0_0 := KG_0.out.cell (i := 0) rfl
      have c36_KG_0_1 := KG_0.out.cell (i := 1) rfl
      have c36_KG_0_2 := KG_0.out.cell (i := 2) rfl
      go_wp2_with fail
      refine (eqPoll_at ((Pl.playPoll ages l).1) _ _ _ _ (rPoll.weak OG_0.out (B := _) (rPoll.olt OG_0.out)) (rPoll.more HW0_0.out HW0_0_s.out) (Nat.le_refl _)).mono ?_
      rintro e v37 ⟨rfl, hbz⟩
      have HR_ages := Lib.hid (HR_ages.out.keep fun b hb' => hbz.block b (Nat.lt_of_lt_of_le hb' HB_ages.out))
      have HB_ages := Lib.hid (Nat.le_trans HB_ages.out hbz.size)
      have HR_l := Lib.hid (HR_l.out.keep fun b hb' => hbz.block b (Nat.lt_of_lt_of_le hb' HB_l.out))
      have HB_l := Lib.hid (Nat.le_trans HB_l.out hbz.size)
      have HW0_0 := Lib.hid (rPoll.keep HW0_0.out fun b hb' => hbz.block b (Nat.lt_of_lt_of_le hb' HW0_0_s.out))
      have HW0_0_s := Lib.hid (Nat.le_trans HW0_0_s.out hbz.size)
      have HW0_1 := Lib.hid (HW0_1.out.keep fun b hb' => hbz.block b (Nat.lt_of_lt_of_le hb' HW0_1_s.out))
      have HW0_1_s := Lib.hid (Nat.le_trans HW0_1_s.out hbz.size)
      have OG_0 := Lib.hid (rPoll.okeep OG_0.out fun b hb' => hbz.block b (rPoll.olt OG_0.out b hb'))
      have OG_1 := Lib.hid (OG_1.out.okeep fun b hb' => hbz.block b (OG_1.out.olt b hb'))
      have KW_0 := Lib.hid (KW_0.out.bel hbz)
      have KG_0 := Lib.hid (KG_0.out.bel hbz)
      have HT38 := Lib.hid (below_step HT35.out hbz)
      clear hbz
      go_wp2_with fail
      refine (eqBoolS_c ((Pl.playPoll ages l).2.1) _ _ _ _ _ _ _ _ (OG_1.out.weak (B := _) OG_1.out.olt) (HW0_1.out.more HW0_1_s.out) (Nat.le_refl _)).mono ?_
      rintro e v39 ⟨rfl, hbz⟩
      have HR_ages := Lib.hid (HR_ages.out.keep fun b hb' => hbz.block b (Nat.lt_of_lt_of_le hb' HB_ages.out))
      have HB_ages := Lib.hid (Nat.le_trans HB_ages.out hbz.size)
      have HR_l := Lib.hid (HR_l.out.keep fun b hb' => hbz.block b (Nat.lt_of_lt_of_le hb' HB_l.out))
      have HB_l := Lib.hid (Nat.le_trans HB_l.out hbz.size)
      have HW0_0 := Lib.hid (rPoll.keep HW0_0.out fun b hb' => hbz.block b (Nat.lt_of_lt_of_le hb' HW0_0_s.out))
      have HW0_0_s := Lib.hid (Nat.le_trans HW0_0_s.out hbz.size)
      have HW0_1 := Lib.hid (HW0_1.out.keep fun b hb' => hbz.block b (Nat.lt_of_lt_of_le hb' HW0_1_s.out))
      have HW0_1_s := Lib.hid (Nat.le_trans HW0_1_s.out hbz.size)
      have OG_0 := Lib.hid (rPoll.okeep OG_0.out fun b hb' => hbz.block b (rPoll.olt OG_0.out b hb'))
      have OG_1 := Lib.hid (OG_1.out.okeep fun b hb' => hbz.block b (OG_1.out.olt b hb'))
      have KW_0 := Lib.hid (KW_0.out.bel hbz)
      have KG_0 := Lib.hid (KG_0.out.bel hbz)
      have HT40 := Lib.hid (below_step HT38.out hbz)
      clear hbz
      have hcg0 : 0 ≤ Pl.ctopPoll ((Pl.playPoll ages l).1) := Pl.ctopPoll_nn ((Pl.playPoll ages l).1)
      have hcgb0 : Pl.ctopPoll ((Pl.playPoll ages l).1) ≤ 50000000 := (playPoll_cnt0 ages l)
      obtain ⟨cg0, hcge0⟩ : ∃ z, Pl.ctopPoll ((Pl.playPoll ages l).1) = z := ⟨_, rfl⟩
      rw [hcge0] at hcg0 hcgb0
      have HCG0 := Lib.hid hcge0
      clear hcge0
      have hcg1 : 0 ≤ (Mm.cntL Pl.cnt1) ((Pl.playPoll ages l).2.1) := Mm.cntL_nn (cnt := Pl.cnt1) (Pl.cnt1_nn) ((Pl.playPoll ages l).2.1)
      have hcgb1 : (Mm.cntL Pl.cnt1) ((Pl.playPoll ages l).2.1) ≤ 50000000 := (playPoll_cnt1 ages l)
      obtain ⟨cg1, hcge1⟩ : ∃ z, (Mm.cntL Pl.cnt1) ((Pl.playPoll ages l).2.1) = z := ⟨_, rfl⟩
      rw [hcge1] at hcg1 hcgb1
      have HCG1 := Lib.hid hcge1
      clear hcge1
      have c41_KG_0_0 := KG_0.out.cell (i := 0) rfl
      have c41_KG_0_1 := KG_0.out.cell (i := 1) rfl
      have c41_KG_0_2 := KG_0.out.cell (i := 2) rfl
      go_wp2_with fail
      refine (markPoll_c ((Pl.playPoll ages l).1) _ _ _ _ OG_0.out ND16_0.out (by omega) (by rw [HCG0.out]; omega)).mono ?_
      rintro e v42 ⟨rfl, hch, fpm0, hom, hndm, hsubm⟩
      rw [HCG0.out]
      have HR_ages := Lib.hid (HR_ages.out.keep fun b hb' => hch.block b (Nat.lt_of_lt_of_le hb' HB_ages.out) (fun hm => by have := AP16_0_HR_ages.out b hm; omega))
      have HB_ages := Lib.hid (Nat.le_trans HB_ages.out hch.size)
      have HR_l := Lib.hid (HR_l.out.keep fun b hb' => hch.block b (Nat.lt_of_lt_of_le hb' HB_l.out) (fun hm => by have := AP16_0_HR_l.out b hm; omega))
      have HB_l := Lib.hid (Nat.le_trans HB_l.out hch.size)
      have HW0_0 := Lib.hid (rPoll.keep HW0_0.out fun b hb' => hch.block b (Nat.lt_of_lt_of_le hb' HW0_0_s.out) (fun hm => by have := AP16_0_HW0_0.out b hm; omega))
      have HW0_0_s := Lib.hid (Nat.le_trans HW0_0_s.out hch.size)
      have HW0_1 := Lib.hid (HW0_1.out.keep fun b hb' => hch.block b (Nat.lt_of_lt_of_le hb' HW0_1_s.out) (fun hm => by have := AP16_0_HW0_1.out b hm; omega))
      have HW0_1_s := Lib.hid (Nat.le_trans HW0_1_s.out hch.size)
      have OG_1 := Lib.hid (OG_1.out.okeep fun b hb' => hch.block b (OG_1.out.olt b hb') (fun hm => DP16_1_0.out b hb' hm))
      have KW_0 := Lib.hid (KW_0.out.keep (hch.block _ KW_0.out.lt (NB16_0_KW_0.out)))
      have KG_0 := Lib.hid (KG_0.out.keep (hch.block _ KG_0.out.lt (NIKG_0_fp16_0.out)))
      have HT43 := Lib.hid (Mm.Below.chg HT40.out hch HT40.out.size FR16_0.out)
      clear hch
      have OM_0 := Lib.hid hom
      have DM0_1 := Lib.hid (show ∀ b, b ∈ fpm0 → b ∉ fp16_1 from fun b hb' hm => (fun b hb' hm => DP16_0_1.out b hb' hm) b (hsubm b hb') hm)
      clear hom hndm hsubm
      go_wp2_with fail
      refine (markBoolS_c ((Pl.playPoll ages l).2.1) _ _ _ _ _ _ OG_1.out ND16_1.out (by omega) (by rw [HCG1.out]; omega)).mono ?_
      rintro e v44 ⟨rfl, hch, fpm1, hom, hndm, hsubm⟩
      rw [HCG1.out]
      have HR_ages := Lib.hid (HR_ages.out.keep fun b hb' => hch.block b (Nat.lt_of_lt_of_le hb' HB_ages.out) (fun hm => by have := AP16_1_HR_ages.out b hm; omega))
      have HB_ages := Lib.hid (Nat.le_trans HB_ages.out hch.size)
      have HR_l := Lib.hid (HR_l.out.keep fun b hb' => hch.block b (Nat.lt_of_lt_of_le hb' HB_l.out) (fun hm => by have := AP16_1_HR_l.out b hm; omega))
      have HB_l := Lib.hid (Nat.le_trans HB_l.out hch.size)
      have HW0_0 := Lib.hid (rPoll.keep HW0_0.out fun b hb' => hch.block b (Nat.lt_of_lt_of_le hb' HW0_0_s.out) (fun hm => by have := AP16_1_HW0_0.out b hm; omega))
      have HW0_0_s := Lib.hid (Nat.le_trans HW0_0_s.out hch.size)
      have HW0_1 := Lib.hid (HW0_1.out.keep fun b hb' => hch.block b (Nat.lt_of_lt_of_le hb' HW0_1_s.out) (fun hm => by have := AP16_1_HW0_1.out b hm; omega))
      have HW0_1_s := Lib.hid (Nat.le_trans HW0_1_s.out hch.size)
      have OM_0 := Lib.hid (rPoll.okeep OM_0.out fun b hb' => hch.block b (rPoll.olt OM_0.out b hb') (fun hm => DM0_1.out b hb' hm))
      have KW_0 := Lib.hid (KW_0.out.keep (hch.block _ KW_0.out.lt (NB16_1_KW_0.out)))
      have KG_0 := Lib.hid (KG_0.out.keep (hch.block _ KG_0.out.lt (NIKG_0_fp16_1.out)))
      have HT45 := Lib.hid (Mm.Below.chg HT43.out hch HT43.out.size FR16_1.out)
      clear hch
      have OM_1 := Lib.hid hom
      clear hom hndm hsubm
      have c46_KG_0_0 := KG_0.out.cell (i := 0) rfl
      have c46_KG_0_1 := KG_0.out.cell (i := 1) rfl
      have c46_KG_0_2 := KG_0.out.cell (i := 2) rfl
      go_wp2_with fail
      refine (heldPoll_c ((Pl.playPoll ages l).1) _ _ _ _ (rPoll.weak OM_0.out (B := _) (rPoll.olt OM_0.out)) (Nat.le_refl _) (by omega) (by rw [HCG0.out]; omega)).mono ?_
      rintro e v47 ⟨rfl, hbz⟩
      rw [HCG0.out]
      have HR_ages := Lib.hid (HR_ages.out.keep fun b hb' => hbz.block b (Nat.lt_of_lt_of_le hb' HB_ages.out))
      have HB_ages := Lib.hid (Nat.le_trans HB_ages.out hbz.size)
      have HR_l := Lib.hid (HR_l.out.keep fun b hb' => hbz.block b (Nat.lt_of_lt_of_le hb' HB_l.out))
      have HB_l := Lib.hid (Nat.le_trans HB_l.out hbz.size)
      have HW0_0 := Lib.hid (rPoll.keep HW0_0.out fun b hb' => hbz.block b (Nat.lt_of_lt_of_le hb' HW0_0_s.out))
      have HW0_0_s := Lib.hid (Nat.le_trans HW0_0_s.out hbz.size)
      have HW0_1 := Lib.hid (HW0_1.out.keep fun b hb' => hbz.block b (Nat.lt_of_lt_of_le hb' HW0_1_s.out))
      have HW0_1_s := Lib.hid (Nat.le_trans HW0_1_s.out hbz.size)
      have OM_0 := Lib.hid (rPoll.okeep OM_0.out fun b hb' => hbz.block b (rPoll.olt OM_0.out b hb'))
      have OM_1 := Lib.hid (OM_1.out.okeep fun b hb' => hbz.block b (OM_1.out.olt b hb'))
      have KW_0 := Lib.hid (KW_0.out.bel hbz)
      have KG_0 := Lib.hid (KG_0.out.bel hbz)
      have HT48 := Lib.hid (below_step HT45.out hbz)
      clear hbz
      go_wp2_with fail
      refine (heldBoolS_c ((Pl.playPoll ages l).2.1) _ _ _ _ _ _ (OM_1.out.weak (B := _) OM_1.out.olt) (Nat.le_refl _) (by omega) (by rw [HCG1.out]; omega)).mono ?_
      rintro e v49 ⟨rfl, hbz⟩
      rw [HCG1.out]
      have HR_ages := Lib.hid (HR_ages.out.keep fun b hb' => hbz.block b (Nat.lt_of_lt_of_le hb' HB_ages.out))
      have HB_ages := Lib.hid (Nat.le_trans HB_ages.out hbz.size)
      have HR_l := Lib.hid (HR_l.out.keep fun b hb' => hbz.block b (Nat.lt_of_lt_of_le hb' HB_l.out))
      have HB_l := Lib.hid (Nat.le_trans HB_l.out hbz.size)
      have HW0_0 := Lib.hid (rPoll.keep HW0_0.out fun b hb' => hbz.block b (Nat.lt_of_lt_of_le hb' HW0_0_s.out))
      have HW0_0_s := Lib.hid (Nat.le_trans HW0_0_s.out hbz.size)
      have HW0_1 := Lib.hid (HW0_1.out.keep fun b hb' => hbz.block b (Nat.lt_of_lt_of_le hb' HW0_1_s.out))
      have HW0_1_s := Lib.hid (Nat.le_trans HW0_1_s.out hbz.size)
      have OM_0 := Lib.hid (rPoll.okeep OM_0.out fun b hb' => hbz.block b (rPoll.olt OM_0.out b hb'))
      have OM_1 := Lib.hid (OM_1.out.okeep fun b hb' => hbz.block b (OM_1.out.olt b hb'))
      have KW_0 := Lib.hid (KW_0.out.bel hbz)
      have KG_0 := Lib.hid (KG_0.out.bel hbz)
      have HT50 := Lib.hid (below_step HT48.out hbz)
      clear hbz
      go_wp2_with fail
      refine (toIntS_c ages _ _ _ _ w.heap.size HR_ages.out HB_ages.out (by omega)).mono ?_
      rintro e v51 ⟨A51, n51, c51, fp51, rfl, ho51, hnd51, hf51, hbz⟩
      have HR_ages := Lib.hid (HR_ages.out.keep fun b hb' => hbz.block b (Nat.lt_of_lt_of_le hb' HB_ages.out))
      have HB_ages := Lib.hid (Nat.le_trans HB_ages.out hbz.size)
      have HR_l := Lib.hid (HR_l.out.keep fun b hb' => hbz.block b (Nat.lt_of_lt_of_le hb' HB_l.out))
      have HB_l := Lib.hid (Nat.le_trans HB_l.out hbz.size)
      have HW0_0 := Lib.hid (rPoll.keep HW0_0.out fun b hb' => hbz.block b (Nat.lt_of_lt_of_le hb' HW0_0_s.out))
      have HW0_0_s := Lib.hid (Nat.le_trans HW0_0_s.out hbz.size)
      have HW0_1 := Lib.hid (HW0_1.out.keep fun b hb' => hbz.block b (Nat.lt_of_lt_of_le hb' HW0_1_s.out))
      have HW0_1_s := Lib.hid (Nat.le_trans HW0_1_s.out hbz.size)
      have OM_0 := Lib.hid (rPoll.okeep OM_0.out fun b hb' => hbz.block b (rPoll.olt OM_0.out b hb'))
      have OM_1 := Lib.hid (OM_1.out.okeep fun b hb' => hbz.block b (OM_1.out.olt b hb'))
      have KW_0 := Lib.hid (KW_0.out.bel hbz)
      have KG_0 := Lib.hid (KG_0.out.bel hbz)
      have HT52 := Lib.hid (below_step HT50.out hbz)
      have HXh_ages := Lib.hid (ho51.weak (B := v51.heap.size) ho51.olt)
      have HXh_ages_s := Lib.hid (Nat.le_refl v51.heap.size)
      clear ho51 hnd51 hf51
      clear hbz
      go_wp2_with fail
      refine (toVoteStepS_c l _ _ _ _ w.heap.size HR_l.out HB_l.out (by omega)).mono ?_
      rintro e v53 ⟨A53, n53, c53, fp53, rfl, ho53, hnd53, hf53, hbz⟩
      have HR_ages := Lib.hid (HR_ages.out.keep fun b hb' => hbz.block b (Nat.lt_of_lt_of_le hb' HB_ages.out))
      have HB_ages := Lib.hid (Nat.le_trans HB_ages.out hbz.size)
      have HR_l := Lib.hid (HR_l.out.keep fun b hb' => hbz.block b (Nat.lt_of_lt_of_le hb' HB_l.out))
      have HB_l := Lib.hid (Nat.le_trans HB_l.out hbz.size)
      have HW0_0 := Lib.hid (rPoll.keep HW0_0.out fun b hb' => hbz.block b (Nat.lt_of_lt_of_le hb' HW0_0_s.out))
      have HW0_0_s := Lib.hid (Nat.le_trans HW0_0_s.out hbz.size)
      have HW0_1 := Lib.hid (HW0_1.out.keep fun b hb' => hbz.block b (Nat.lt_of_lt_of_le hb' HW0_1_s.out))
      have HW0_1_s := Lib.hid (Nat.le_trans HW0_1_s.out hbz.size)
      have HXh_ages := Lib.hid (HXh_ages.out.keep fun b hb' => hbz.block b (Nat.lt_of_lt_of_le hb' HXh_ages_s.out))
      have HXh_ages_s := Lib.hid (Nat.le_trans HXh_ages_s.out hbz.size)
      have OM_0 := Lib.hid (rPoll.okeep OM_0.out fun b hb' => hbz.block b (rPoll.olt OM_0.out b hb'))
      have OM_1 := Lib.hid (OM_1.out.okeep fun b hb' => hbz.block b (OM_1.out.olt b hb'))
      have KW_0 := Lib.hid (KW_0.out.bel hbz)
      have KG_0 := Lib.hid (KG_0.out.bel hbz)
      have HT54 := Lib.hid (below_step HT52.out hbz)
      have HXh_l := Lib.hid (ho53.weak (B := v53.heap.size) ho53.olt)
      have HXh_l_s := Lib.hid (Nat.le_refl v53.heap.size)
      clear ho53 hnd53 hf53
      clear hbz
      go_wp2_with fail
      refine (implPlayPoll_c ages l _ _ _ _ _ _ _ _ (HXh_ages.out.more HXh_ages_s.out) (HXh_l.out.more HXh_l_s.out) (Nat.le_refl _)).mono ?_
      rintro e v55 ⟨cs55_0, A55_1, n55_1, c55_1, fp55_0, fp55_1, rfl, hS55⟩
      have hbz := hS55.bel0
      have ho55_0 : rPoll.own v55 ((Pl.playPoll ages l).1) cs55_0 fp55_0 := hS55.at_ 0 rfl
      have hnd55_0 := hS55.ndat (i := 0) rfl
      have hf55_0 : ∀ b, b ∈ fp55_0 → _ ≤ b := fun b hb' => (hS55.new b (Mm.SepF.mem (i := 0) rfl hb')).resolve_left (fun hh => by cases hh)
      have ho55_1 : Mm.SlOwn Mm.bool 4 v55 ((Pl.playPoll ages l).2.1) (.slice A55_1 n55_1 c55_1) fp55_1 := hS55.at_ 1 rfl
      have hnd55_1 := hS55.ndat (i := 1) rfl
      have hf55_1 : ∀ b, b ∈ fp55_1 → _ ≤ b := fun b hb' => (hS55.new b (Mm.SepF.mem (i := 1) rfl hb')).resolve_left (fun hh => by cases hh)
      have DP55_0_1 := Lib.hid (show ∀ b, b ∈ fp55_0 → b ∉ fp55_1 from hS55.apart (i := 0) (j := 1) rfl rfl (by decide))
      have DP55_1_0 := Lib.hid (show ∀ b, b ∈ fp55_1 → b ∉ fp55_0 from hS55.apart (i := 1) (j := 0) rfl rfl (by decide))
      obtain ⟨A0_55_0, n0_55_0, c0_55_0, A1_55_0, n1_55_0, c1_55_0, A2_55_0, n2_55_0, c2_55_0, _, _, _, rfl, -⟩ := rPoll_own ho55_0
      clear hS55
      have HR_ages := Lib.hid (HR_ages.out.keep fun b hb' => hbz.block b (Nat.lt_of_lt_of_le hb' HB_ages.out))
      have HB_ages := Lib.hid (Nat.le_trans HB_ages.out hbz.size)
      have HR_l := Lib.hid (HR_l.out.keep fun b hb' => hbz.block b (Nat.lt_of_lt_of_le hb' HB_l.out))
      have HB_l := Lib.hid (Nat.le_trans HB_l.out hbz.size)
      have HW0_0 := Lib.hid (rPoll.keep HW0_0.out fun b hb' => hbz.block b (Nat.lt_of_lt_of_le hb' HW0_0_s.out))
      have HW0_0_s := Lib.hid (Nat.le_trans HW0_0_s.out hbz.size)
      have HW0_1 := Lib.hid (HW0_1.out.keep fun b hb' => hbz.block b (Nat.lt_of_lt_of_le hb' HW0_1_s.out))
      have HW0_1_s := Lib.hid (Nat.le_trans HW0_1_s.out hbz.size)
      have HXh_ages := Lib.hid (HXh_ages.out.keep fun b hb' => hbz.block b (Nat.lt_of_lt_of_le hb' HXh_ages_s.out))
      have HXh_ages_s := Lib.hid (Nat.le_trans HXh_ages_s.out hbz.size)
      have HXh_l := Lib.hid (HXh_l.out.keep fun b hb' => hbz.block b (Nat.lt_of_lt_of_le hb' HXh_l_s.out))
      have HXh_l_s := Lib.hid (Nat.le_trans HXh_l_s.out hbz.size)
      have OM_0 := Lib.hid (rPoll.okeep OM_0.out fun b hb' => hbz.block b (rPoll.olt OM_0.out b hb'))
      have OM_1 := Lib.hid (OM_1.out.okeep fun b hb' => hbz.block b (OM_1.out.olt b hb'))
      have KW_0 := Lib.hid (KW_0.out.bel hbz)
      have KG_0 := Lib.hid (KG_0.out.bel hbz)
      have HT56 := Lib.hid (below_step HT54.out hbz)
      have HH_0 := Lib.hid (rPoll.weak ho55_0 (B := v55.heap.size) (rPoll.olt ho55_0))
      have HH_0_s := Lib.hid (Nat.le_refl v55.heap.size)
      clear ho55_0 hnd55_0 hf55_0
      have HH_1 := Lib.hid (ho55_1.weak (B := v55.heap.size) ho55_1.olt)
      have HH_1_s := Lib.hid (Nat.le_refl v55.heap.size)
      clear ho55_1 hnd55_1 hf55_1
      clear hbz
      have NIKH_0_fpm0 := Lib.hid (show ¬ v55.heap.size ∈ fpm0 from fun hm => Nat.lt_irrefl _ (rPoll.olt OM_0.out _ hm))
      have NIKH_0_fpm1 := Lib.hid (show ¬ v55.heap.size ∈ fpm1 from fun hm => Nat.lt_irrefl _ (OM_1.out.olt _ hm))
      have hbx : Below v55.heap.size v55 (v55.alloc (.cells #[.slice A0_55_0 n0_55_0 c0_55_0, .slice A1_55_0 n1_55_0 c1_55_0, .slice A2_55_0 n2_55_0 c2_55_0] 31)) := below_new (Below.refl _ _) _
      have HR_ages := Lib.hid (HR_ages.out.keep fun b hb' => hbx.block b (Nat.lt_of_lt_of_le hb' HB_ages.out))
      have HB_ages := Lib.hid (Nat.le_trans HB_ages.out hbx.size)
      have HR_l := Lib.hid (HR_l.out.keep fun b hb' => hbx.block b (Nat.lt_of_lt_of_le hb' HB_l.out))
      have HB_l := Lib.hid (Nat.le_trans HB_l.out hbx.size)
      have HW0_0 := Lib.hid (rPoll.keep HW0_0.out fun b hb' => hbx.block b (Nat.lt_of_lt_of_le hb' HW0_0_s.out))
      have HW0_0_s := Lib.hid (Nat.le_trans HW0_0_s.out hbx.size)
      have HW0_1 := Lib.hid (HW0_1.out.keep fun b hb' => hbx.block b (Nat.lt_of_lt_of_le hb' HW0_1_s.out))
      have HW0_1_s := Lib.hid (Nat.le_trans HW0_1_s.out hbx.size)
      have HH_0 := Lib.hid (rPoll.keep HH_0.out fun b hb' => hbx.block b (Nat.lt_of_lt_of_le hb' HH_0_s.out))
      have HH_0_s := Lib.hid (Nat.le_trans HH_0_s.out hbx.size)
      have HH_1 := Lib.hid (HH_1.out.keep fun b hb' => hbx.block b (Nat.lt_of_lt_of_le hb' HH_1_s.out))
      have HH_1_s := Lib.hid (Nat.le_trans HH_1_s.out hbx.size)
      have OM_0 := Lib.hid (rPoll.okeep OM_0.out fun b hb' => hbx.block b (rPoll.olt OM_0.out b hb'))
      have OM_1 := Lib.hid (OM_1.out.okeep fun b hb' => hbx.block b (OM_1.out.olt b hb'))
      have KW_0 := Lib.hid (KW_0.out.bel hbx)
      have KG_0 := Lib.hid (KG_0.out.bel hbx)
      have HT57 := Lib.hid (below_step HT56.out hbx)
      clear hbx
      have KH_0 := Lib.hid (Mm.Blk.new v55 31 [.slice A0_55_0 n0_55_0 c0_55_0, .slice A1_55_0 n1_55_0 c1_55_0, .slice A2_55_0 n2_55_0 c2_55_0])
      have c58_KW_0_0 := KW_0.out.cell (i := 0) rfl
      have c58_KW_0_1 := KW_0.out.cell (i := 1) rfl
      have c58_KW_0_2 := KW_0.out.cell (i := 2) rfl
      have c58_KG_0_0 := KG_0.out.cell (i := 0) rfl
      have c58_KG_0_1 := KG_0.out.cell (i := 1) rfl
      have c58_KG_0_2 := KG_0.out.cell (i := 2) rfl
      have c58_KH_0_0 := KH_0.out.cell (i := 0) rfl
      have c58_KH_0_1 := KH_0.out.cell (i := 1) rfl
      have c58_KH_0_2 := KH_0.out.cell (i := 2) rfl
      have c59_KW_0_0 := KW_0.out.cell (i := 0) rfl
      have c59_KW_0_1 := KW_0.out.cell (i := 1) rfl
      have c59_KW_0_2 := KW_0.out.cell (i := 2) rfl
      have c59_KG_0_0 := KG_0.out.cell (i := 0) rfl
      have c59_KG_0_1 := KG_0.out.cell (i := 1) rfl
      have c59_KG_0_2 := KG_0.out.cell (i := 2) rfl
      have c59_KH_0_0 := KH_0.out.cell (i := 0) rfl
      have c59_KH_0_1 := KH_0.out.cell (i := 1) rfl
      have c59_KH_0_2 := KH_0.out.cell (i := 2) rfl
      go_wp2_with fail
      refine (eqPoll_at ((Pl.playPoll ages l).1) _ _ _ _ (rPoll.more HH_0.out HH_0_s.out) (rPoll.more HW0_0.out HW0_0_s.out) (Nat.le_refl _)).mono ?_
      rintro e v60 ⟨rfl, hbz⟩
      have HR_ages := Lib.hid (HR_ages.out.keep fun b hb' => hbz.block b (Nat.lt_of_lt_of_le hb' HB_ages.out))
      have HB_ages := Lib.hid (Nat.le_trans HB_ages.out hbz.size)
      have HR_l := Lib.hid (HR_l.out.keep fun b hb' => hbz.block b (Nat.lt_of_lt_of_le hb' HB_l.out))
      have HB_l := Lib.hid (Nat.le_trans HB_l.out hbz.size)
      have HW0_0 := Lib.hid (rPoll.keep HW0_0.out fun b hb' => hbz.block b (Nat.lt_of_lt_of_le hb' HW0_0_s.out))
      have HW0_0_s := Lib.hid (Nat.le_trans HW0_0_s.out hbz.size)
      have HW0_1 := Lib.hid (HW0_1.out.keep fun b hb' => hbz.block b (Nat.lt_of_lt_of_le hb' HW0_1_s.out))
      have HW0_1_s := Lib.hid (Nat.le_trans HW0_1_s.out hbz.size)
      have HH_0 := Lib.hid (rPoll.keep HH_0.out fun b hb' => hbz.block b (Nat.lt_of_lt_of_le hb' HH_0_s.out))
      have HH_0_s := Lib.hid (Nat.le_trans HH_0_s.out hbz.size)
      have HH_1 := Lib.hid (HH_1.out.keep fun b hb' => hbz.block b (Nat.lt_of_lt_of_le hb' HH_1_s.out))
      have HH_1_s := Lib.hid (Nat.le_trans HH_1_s.out hbz.size)
      have OM_0 := Lib.hid (rPoll.okeep OM_0.out fun b hb' => hbz.block b (rPoll.olt OM_0.out b hb'))
      have OM_1 := Lib.hid (OM_1.out.okeep fun b hb' => hbz.block b (OM_1.out.olt b hb'))
      have KW_0 := Lib.hid (KW_0.out.bel hbz)
      have KG_0 := Lib.hid (KG_0.out.bel hbz)
      have KH_0 := Lib.hid (KH_0.out.bel hbz)
      have HT61 := Lib.hid (below_step HT57.out hbz)
      clear hbz
      go_wp2_with fail
      refine (eqBoolS_c ((Pl.playPoll ages l).2.1) _ _ _ _ _ _ _ _ (HH_1.out.more HH_1_s.out) (HW0_1.out.more HW0_1_s.out) (Nat.le_refl _)).mono ?_
      rintro e v62 ⟨rfl, hbz⟩
      have HR_ages := Lib.hid (HR_ages.out.keep fun b hb' => hbz.block b (Nat.lt_of_lt_of_le hb' HB_ages.out))
      have HB_ages := Lib.hid (Nat.le_trans HB_ages.out hbz.size)
      have HR_l := Lib.hid (HR_l.out.keep fun b hb' => hbz.block b (Nat.lt_of_lt_of_le hb' HB_l.out))
      have HB_l := Lib.hid (Nat.le_trans HB_l.out hbz.size)
      have HW0_0 := Lib.hid (rPoll.keep HW0_0.out fun b hb' => hbz.block b (Nat.lt_of_lt_of_le hb' HW0_0_s.out))
      have HW0_0_s := Lib.hid (Nat.le_trans HW0_0_s.out hbz.size)
      have HW0_1 := Lib.hid (HW0_1.out.keep fun b hb' => hbz.block b (Nat.lt_of_lt_of_le hb' HW0_1_s.out))
      have HW0_1_s := Lib.hid (Nat.le_trans HW0_1_s.out hbz.size)
      have HH_0 := Lib.hid (rPoll.keep HH_0.out fun b hb' => hbz.block b (Nat.lt_of_lt_of_le hb' HH_0_s.out))
      have HH_0_s := Lib.hid (Nat.le_trans HH_0_s.out hbz.size)
      have HH_1 := Lib.hid (HH_1.out.keep fun b hb' => hbz.block b (Nat.lt_of_lt_of_le hb' HH_1_s.out))
      have HH_1_s := Lib.hid (Nat.le_trans HH_1_s.out hbz.size)
      have OM_0 := Lib.hid (rPoll.okeep OM_0.out fun b hb' => hbz.block b (rPoll.olt OM_0.out b hb'))
      have OM_1 := Lib.hid (OM_1.out.okeep fun b hb' => hbz.block b (OM_1.out.olt b hb'))
      have KW_0 := Lib.hid (KW_0.out.bel hbz)
      have KG_0 := Lib.hid (KG_0.out.bel hbz)
      have KH_0 := Lib.hid (KH_0.out.bel hbz)
      have HT63 := Lib.hid (below_step HT61.out hbz)
      clear hbz
      have c64_KG_0_0 := KG_0.out.cell (i := 0) rfl
      have c64_KG_0_1 := KG_0.out.cell (i := 1) rfl
      have c64_KG_0_2 := KG_0.out.cell (i := 2) rfl
      go_wp2_with fail
      refine (heldPoll_c ((Pl.playPoll ages l).1) _ _ _ _ (rPoll.weak OM_0.out (B := _) (rPoll.olt OM_0.out)) (Nat.le_refl _) (by omega) (by rw [HCG0.out]; omega)).mono ?_
      rintro e v65 ⟨rfl, hbz⟩
      rw [HCG0.out]
      have HR_ages := Lib.hid (HR_ages.out.keep fun b hb' => hbz.block b (Nat.lt_of_lt_of_le hb' HB_ages.out))
      have HB_ages := Lib.hid (Nat.le_trans HB_ages.out hbz.size)
      have HR_l := Lib.hid (HR_l.out.keep fun b hb' => hbz.block b (Nat.lt_of_lt_of_le hb' HB_l.out))
      have HB_l := Lib.hid (Nat.le_trans HB_l.out hbz.size)
      have HW0_0 := Lib.hid (rPoll.keep HW0_0.out fun b hb' => hbz.block b (Nat.lt_of_lt_of_le hb' HW0_0_s.out))
      have HW0_0_s := Lib.hid (Nat.le_trans HW0_0_s.out hbz.size)
      have HW0_1 := Lib.hid (HW0_1.out.keep fun b hb' => hbz.block b (Nat.lt_of_lt_of_le hb' HW0_1_s.out))
      have HW0_1_s := Lib.hid (Nat.le_trans HW0_1_s.out hbz.size)
      have HH_0 := Lib.hid (rPoll.keep HH_0.out fun b hb' => hbz.block b (Nat.lt_of_lt_of_le hb' HH_0_s.out))
      have HH_0_s := Lib.hid (Nat.le_trans HH_0_s.out hbz.size)
      have HH_1 := Lib.hid (HH_1.out.keep fun b hb' => hbz.block b (Nat.lt_of_lt_of_le hb' HH_1_s.out))
      have HH_1_s := Lib.hid (Nat.le_trans HH_1_s.out hbz.size)
      have OM_0 := Lib.hid (rPoll.okeep OM_0.out fun b hb' => hbz.block b (rPoll.olt OM_0.out b hb'))
      have OM_1 := Lib.hid (OM_1.out.okeep fun b hb' => hbz.block b (OM_1.out.olt b hb'))
      have KW_0 := Lib.hid (KW_0.out.bel hbz)
      have KG_0 := Lib.hid (KG_0.out.bel hbz)
      have KH_0 := Lib.hid (KH_0.out.bel hbz)
      have HT66 := Lib.hid (below_step HT63.out hbz)
      clear hbz
      go_wp2_with fail
      refine (heldBoolS_c ((Pl.playPoll ages l).2.1) _ _ _ _ _ _ (OM_1.out.weak (B := _) OM_1.out.olt) (Nat.le_refl _) (by omega) (by rw [HCG1.out]; omega)).mono ?_
      rintro e v67 ⟨rfl, hbz⟩
      rw [HCG1.out]
      have HR_ages := Lib.hid (HR_ages.out.keep fun b hb' => hbz.block b (Nat.lt_of_lt_of_le hb' HB_ages.out))
      have HB_ages := Lib.hid (Nat.le_trans HB_ages.out hbz.size)
      have HR_l := Lib.hid (HR_l.out.keep fun b hb' => hbz.block b (Nat.lt_of_lt_of_le hb' HB_l.out))
      have HB_l := Lib.hid (Nat.le_trans HB_l.out hbz.size)
      have HW0_0 := Lib.hid (rPoll.keep HW0_0.out fun b hb' => hbz.block b (Nat.lt_of_lt_of_le hb' HW0_0_s.out))
      have HW0_0_s := Lib.hid (Nat.le_trans HW0_0_s.out hbz.size)
      have HW0_1 := Lib.hid (HW0_1.out.keep fun b hb' => hbz.block b (Nat.lt_of_lt_of_le hb' HW0_1_s.out))
      have HW0_1_s := Lib.hid (Nat.le_trans HW0_1_s.out hbz.size)
      have HH_0 := Lib.hid (rPoll.keep HH_0.out fun b hb' => hbz.block b (Nat.lt_of_lt_of_le hb' HH_0_s.out))
      have HH_0_s := Lib.hid (Nat.le_trans HH_0_s.out hbz.size)
      have HH_1 := Lib.hid (HH_1.out.keep fun b hb' => hbz.block b (Nat.lt_of_lt_of_le hb' HH_1_s.out))
      have HH_1_s := Lib.hid (Nat.le_trans HH_1_s.out hbz.size)
      have OM_0 := Lib.hid (rPoll.okeep OM_0.out fun b hb' => hbz.block b (rPoll.olt OM_0.out b hb'))
      have OM_1 := Lib.hid (OM_1.out.okeep fun b hb' => hbz.block b (OM_1.out.olt b hb'))
      have KW_0 := Lib.hid (KW_0.out.bel hbz)
      have KG_0 := Lib.hid (KG_0.out.bel hbz)
      have KH_0 := Lib.hid (KH_0.out.bel hbz)
      have HT68 := Lib.hid (below_step HT66.out hbz)
      clear hbz
      go_wp2
      go_ret
      exact ⟨rfl, HT68.out⟩
end Go.Proofs.Ytkhchfbpmmiopaa

/-
  The statement of FnExactPlayPoll: for every input the law returns true, and every argument reads afterwards as it read before. No conditions.
-/
namespace Go.Proofs.Ytkhchfbpmmiopaa.fnExactPlayPoll
open Go.ChangeShapes Go.WideShapes Go.ChangeAt Go.RowKit
open Go.ChangeMaps (open_string shut_string)
set_option linter.unusedVariables false

theorem own : ownKnob Try.prog.godebug = none := by kernel_rfl
theorem laidOut : laidOutB Try.prog = true := by kernel_rfl

set_option maxRecDepth 100000 in
theorem lifted (os : Os) (started : os.Started) (H : Type) (enc : TypeId × Value → H) :
    ReturnsInHanded {} Try.checked os 4 .any (Rows.fnExactPlayPollSpec.pre6 enc Try.prog Try.f4 Rows.fnExactPlayPollRow.domain false) (Rows.fnExactPlayPollSpec.post enc Try.prog Try.f4 false true false false) := by
  refine returnsInHanded_of_change (C := Try.checked) own started (by kernel_rfl) Try.func4
    (ChangeSpec.witness6 (enc := enc) (C := Try.checked) false ⟨#[], #[.slice none 0 0, .slice none 0 0], []⟩ 8 (by kernel_rfl) (by kernel_rfl) (by kernel_rfl) (by kernel_rfl)) ?_
  intro W base args ds gs before hval0 hW hcnd _
  have hval : ∀ (j : Nat) t v, Try.f4.params[j]? = some t → args[j]? = some v → Value.okWide Try.prog W .any base t v := hval0
  have hW' := hW
  obtain ⟨p, q, hA0, hV, rfl, hfz, hnd⟩ := hW
  have hA : DataW.TrodAll enc Try.prog W 0 (fun _ => true) true Try.f4.params.toList args.toList ds p := hA0
  rw [Try.params4] at hA hval
  obtain ⟨v0, vs0, d0, ds0, p0, q0, hargs, rfl, rfl, h0, r0⟩ := trodAll_cons hA
  obtain ⟨v1, vs1, d1, ds1, p1, q1, rfl, rfl, rfl, h1, r1⟩ := trodAll_cons r0
  obtain ⟨rfl, rfl, rfl⟩ := trodAll_nil r1
  obtain rfl : args = #[v0, v1] := by cases args; simp_all
  obtain ⟨rfl, rfl⟩ := trodVars_none hV
  have k0 := h0
  have lt0 : ∀ x ∈ p0, x.block < W.heap.size := by obtain ⟨m, hm⟩ := k0; exact DataW.trod_lt m _ _ _ hm
  have k1 := h1
  have lt1 : ∀ x ∈ p1, x.block < W.heap.size := by obtain ⟨m, hm⟩ := k1; exact DataW.trod_lt m _ _ _ hm
  obtain ⟨A0, n0, c0, a0, rfl, w0⟩ := Mm.open_sl opens_IntS Try.underlying23 (hval 0 23 v0 rfl rfl) h0
  obtain ⟨A1, n1, c1, a1, rfl, w1⟩ := Mm.open_sl opens_VoteStepS Try.underlying44 (hval 1 44 v1 rfl rfl) h1
  clear hA0 hval0
  refine (walk_FnExactPlayPoll A0 n0 c0 a0 A1 n1 c1 a1 W w0 w1).mono fun e W' ⟨he, bel⟩ => ?_
  subst he
  exact ⟨_, rfl, _, _, _, [], _, [], hW', trodAll_mk1 (shut_bool Try.underlying4 _), (trodAll_cons_mk (Below.trod laidOut (by kernel_rfl) (of_decide_eq_true (by kernel_rfl)) k0 bel lt0) (trodAll_cons_mk (Below.trod laidOut (by kernel_rfl) (of_decide_eq_true (by kernel_rfl)) k1 bel lt1) trodAll_mk0)), rfl, bel.frame _, fun h => by cases h⟩

theorem over : Rows.fnExactPlayPollRow.holds Try.pinned (OpenSpec.ofChange Rows.fnExactPlayPollSpec) :=
  OpenClaim.holds_of_wide 4 Try.f4 rfl rfl rfl rfl rfl rfl rfl ⟨rfl, rfl, rfl, rfl, rfl⟩ rfl rfl rfl rfl rfl (by kernel_rfl) Try.func4 (by kernel_rfl)
    (of_decide_eq_true (by kernel_rfl)) (by unfold Func.isWrapper; first | (rw [if_pos (by decide +kernel)]; kernel_rfl) | (rw [if_neg (by decide +kernel)]; exact ⟨rfl, rfl⟩))
    (fun os started H enc _ => lifted os started H enc)

theorem proved : Rows.FnExactPlayPollSaid := over
#print axioms proved
end Go.Proofs.Ytkhchfbpmmiopaa.fnExactPlayPoll
