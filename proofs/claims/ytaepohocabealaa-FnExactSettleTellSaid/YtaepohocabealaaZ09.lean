/-
  Joined texts, in build order: LwSettleTell, LawSettleTell. Each part says what it proves; no conditions beyond those that a part names.
-/
import Derived.Test.YtaepohocabealaaZ01
import Derived.Test.YtaepohocabealaaZ02
import Derived.Test.YtaepohocabealaaZ03
import Derived.Test.YtaepohocabealaaZ04
import Derived.Test.YtaepohocabealaaZ05
import Derived.Test.YtaepohocabealaaZ06
import Derived.Test.YtaepohocabealaaZ07
import Derived.Test.YtaepohocabealaaZ08
import Derived.Test.YtaepohocabealaaRows
import Derived.WalkKit
import Derived.ProofKit
import Derived.OpenShut
import Derived.ShutString
import Derived.ChangeOld
import Derived.Below
/-
  The walk of the law on SettleTell. No conditions.
-/
namespace Go.Proofs.Ytaepohocabealaa
open Go.RowKit
theorem cntL_le' {α : Type} {f : α → Int} {c : Int} : ∀ l : List α, (∀ x, x ∈ l → f x ≤ c) → Mm.cntL f l ≤ c * (l.length : Int)
  | [], _ => by simp [Mm.cntL]
  | x :: t, h => by
    have h1 := cntL_le' t (fun y hy => h y (List.mem_cons_of_mem _ hy))
    have h2 := h x List.mem_cons_self
    rw [Mm.cntL_cons, List.length_cons]
    have : c * ((t.length + 1 : Nat) : Int) = c * (t.length : Int) + c := by push_cast; rw [Int.mul_add, Int.mul_one]
    omega
theorem Pl.TSz.cnt {t : Tell} (h : Pl.TSz t) : Pl.ctopTell t ≤ 50000000 := by
  have h0 : Mm.cntL (Mm.cntL Pl.cnt1) t.Texts ≤ 20 * (t.Texts.length : Int) := cntL_le' _ (fun x hx => by
    obtain ⟨k, hk⟩ := List.mem_iff_getElem?.1 hx
    have h1 := cntL_le' (f := Pl.cnt1) (c := 1) x (fun y _ => by unfold Pl.cnt1; omega)
    have h2 := h.texts k x hk
    omega)
  have h1 := cntL_le' (f := Pl.cnt1) (c := 1) t.Heard (fun y _ => by unfold Pl.cnt1; omega)
  have h2 := cntL_le' (f := Pl.cntNote) (c := 4) t.Line (fun y _ => by unfold Pl.cntNote; omega)
  have h3 := cntL_le' (f := Pl.cntTold) (c := 3) t.Log (fun y _ => by unfold Pl.cntTold; omega)
  have h4 := cntL_le' (f := Pl.cnt1) (c := 1) t.Next (fun y _ => by unfold Pl.cnt1; omega)
  have := h.n4; have := h.heard; have := h.line; have := h.log; have := h.next
  unfold Pl.ctopTell
  omega
theorem zTe_sz : Pl.TSz Pl.zTe := ⟨by decide, by decide, by decide, by decide, by decide, fun k l h => by simp [Pl.zTe] at h⟩
theorem settleTell_cnt (t : Tell) : Pl.ctopTell (Pl.settleTell t).1 ≤ 50000000 := by
  unfold Pl.settleTell
  split
  · rename_i h
    exact (Pl.settleTo_ok (Pl.good_wf h) (Pl.good_hle h) _ (Nat.le_refl _)).1.sz.cnt
  · exact zTe_sz.cnt
set_option maxRecDepth 100000 in
set_option maxHeartbeats 4000000 in
theorem walk_FnExactSettleTell (cs_t : List Value) (t : Tell) (w : World) (r_t : rTell.at_ w w.heap.size t cs_t) :
    Calls Try.prog 6 #[.agg cs_t.toArray] w fun e w' => e = .returned (.bool true) ∧ Below w.heap.size w w' := by
  have hopen_t := rTell_at r_t
  obtain ⟨A0_t, n0_t, c0_t, A1_t, n1_t, c1_t, A2_t, n2_t, c2_t, A3_t, n3_t, c3_t, A4_t, n4_t, c4_t, rfl, -⟩ := hopen_t
  have zn_t := Pl.szTell_nn t
  have HT0 := Lib.hid (show Below w.heap.size w (w.alloc (.cells #[.slice A0_t n0_t c0_t, .slice A1_t n1_t c1_t, .slice A2_t n2_t c2_t, .slice A3_t n3_t c3_t, .slice A4_t n4_t c4_t] 74)) from (below_new (Below.refl w.heap.size w) _))
  have KP_t := Lib.hid (show Mm.Blk (w.alloc (.cells #[.slice A0_t n0_t c0_t, .slice A1_t n1_t c1_t, .slice A2_t n2_t c2_t, .slice A3_t n3_t c3_t, .slice A4_t n4_t c4_t] 74)) w.heap.size 74 [.slice A0_t n0_t c0_t, .slice A1_t n1_t c1_t, .slice A2_t n2_t c2_t, .slice A3_t n3_t c3_t, .slice A4_t n4_t c4_t] from (Mm.Blk.new' w 74 [.slice A0_t n0_t c0_t, .slice A1_t n1_t c1_t, .slice A2_t n2_t c2_t, .slice A3_t n3_t c3_t, .slice A4_t n4_t c4_t] rfl))
  have HR_t := Lib.hid (rTell.keep r_t fun b hb' => HT0.out.block b hb')
  have HB_t := Lib.hid HT0.out.size
  clear r_t
  by_cases t_t : (1048576 - Pl.szTell t : Int) < 0
  · skip
    go_enter Try.func6, Try.ntmps6
    go_wp2_with fail
    refine (szTell_at t _ _ _ w.heap.size HR_t.out HB_t.out (by omega) (by omega)).mono ?_
    rintro e y1 ⟨rfl, hbz⟩
    rw [Pl.szRet_lt (by omega)]
    have HR_t := Lib.hid (rTell.keep HR_t.out fun b hb' => hbz.block b (Nat.lt_of_lt_of_le hb' HB_t.out))
    have HB_t := Lib.hid (Nat.le_trans HB_t.out hbz.size)
    have KP_t := Lib.hid (KP_t.out.bel hbz)
    have HT2 := Lib.hid (below_step HT0.out hbz)
    clear hbz
    go_wp2
    go_ret
    exact ⟨rfl, HT2.out⟩
  · skip
    go_enter Try.func6, Try.ntmps6
    go_wp2_with fail
    refine (szTell_at t _ _ _ w.heap.size HR_t.out HB_t.out (by omega) (by omega)).mono ?_
    rintro e y3 ⟨rfl, hbz⟩
    rw [Pl.szRet_ge (by omega)]
    have HR_t := Lib.hid (rTell.keep HR_t.out fun b hb' => hbz.block b (Nat.lt_of_lt_of_le hb' HB_t.out))
    have HB_t := Lib.hid (Nat.le_trans HB_t.out hbz.size)
    have KP_t := Lib.hid (KP_t.out.bel hbz)
    have HT4 := Lib.hid (below_step HT0.out hbz)
    clear hbz
    have c5_KP_t_0 := KP_t.out.cell (i := 0) rfl
    have c5_KP_t_1 := KP_t.out.cell (i := 1) rfl
    have c5_KP_t_2 := KP_t.out.cell (i := 2) rfl
    have c5_KP_t_3 := KP_t.out.cell (i := 3) rfl
    have c5_KP_t_4 := KP_t.out.cell (i := 4) rfl
    go_wp2_with fail
    refine (toTell_at t _ _ w.heap.size HR_t.out HB_t.out (by omega)).mono ?_
    rintro e v6 ⟨cs6, fp6, rfl, ho6, hnd6, hf6, hbz⟩
    obtain ⟨A0_6, n0_6, c0_6, A1_6, n1_6, c1_6, A2_6, n2_6, c2_6, A3_6, n3_6, c3_6, A4_6, n4_6, c4_6, _, _, _, _, _, rfl, -⟩ := rTell_own ho6
    have HR_t := Lib.hid (rTell.keep HR_t.out fun b hb' => hbz.block b (Nat.lt_of_lt_of_le hb' HB_t.out))
    have HB_t := Lib.hid (Nat.le_trans HB_t.out hbz.size)
    have KP_t := Lib.hid (KP_t.out.bel hbz)
    have HT7 := Lib.hid (below_step HT4.out hbz)
    have HXs_t := Lib.hid (rTell.weak ho6 (B := v6.heap.size) (rTell.olt ho6))
    have HXs_t_s := Lib.hid (Nat.le_refl v6.heap.size)
    clear ho6 hnd6 hf6
    clear hbz
    go_wp2_with fail
    refine (specSettleTell_c t _ _ _ (rTell.more HXs_t.out HXs_t_s.out) (Nat.le_refl _)).mono ?_
    rintro e v8 ⟨cs8_0, fp8_0, rfl, hS8⟩
    have hbz := hS8.bel0
    have ho8_0 : rTell.own v8 ((Pl.settleTell t).1) cs8_0 fp8_0 := hS8.at_ 0 rfl
    have hnd8_0 := hS8.ndat (i := 0) rfl
    have hf8_0 : ∀ b, b ∈ fp8_0 → _ ≤ b := fun b hb' => (hS8.new b (Mm.SepF.mem (i := 0) rfl hb')).resolve_left (fun hh => by cases hh)
    obtain ⟨A0_8_0, n0_8_0, c0_8_0, A1_8_0, n1_8_0, c1_8_0, A2_8_0, n2_8_0, c2_8_0, A3_8_0, n3_8_0, c3_8_0, A4_8_0, n4_8_0, c4_8_0, _, _, _, _, _, rfl, -⟩ := rTell_own ho8_0
    clear hS8
    have HR_t := Lib.hid (rTell.keep HR_t.out fun b hb' => hbz.block b (Nat.lt_of_lt_of_le hb' HB_t.out))
    have HB_t := Lib.hid (Nat.le_trans HB_t.out hbz.size)
    have HXs_t := Lib.hid (rTell.keep HXs_t.out fun b hb' => hbz.block b (Nat.lt_of_lt_of_le hb' HXs_t_s.out))
    have HXs_t_s := Lib.hid (Nat.le_trans HXs_t_s.out hbz.size)
    have KP_t := Lib.hid (KP_t.out.bel hbz)
    have HT9 := Lib.hid (below_step HT7.out hbz)
    have HW0_0 := Lib.hid (rTell.weak ho8_0 (B := v8.heap.size) (rTell.olt ho8_0))
    have HW0_0_s := Lib.hid (Nat.le_refl v8.heap.size)
    clear ho8_0 hnd8_0 hf8_0
    clear hbz
    have hbx : Below v8.heap.size v8 (v8.alloc (.cells #[.slice A0_8_0 n0_8_0 c0_8_0, .slice A1_8_0 n1_8_0 c1_8_0, .slice A2_8_0 n2_8_0 c2_8_0, .slice A3_8_0 n3_8_0 c3_8_0, .slice A4_8_0 n4_8_0 c4_8_0] 31)) := below_new (Below.refl _ _) _
    have HR_t := Lib.hid (rTell.keep HR_t.out fun b hb' => hbx.block b (Nat.lt_of_lt_of_le hb' HB_t.out))
    have HB_t := Lib.hid (Nat.le_trans HB_t.out hbx.size)
    have HW0_0 := Lib.hid (rTell.keep HW0_0.out fun b hb' => hbx.block b (Nat.lt_of_lt_of_le hb' HW0_0_s.out))
    have HW0_0_s := Lib.hid (Nat.le_trans HW0_0_s.out hbx.size)
    have KP_t := Lib.hid (KP_t.out.bel hbx)
    have HT10 := Lib.hid (below_step HT9.out hbx)
    clear hbx
    have KW_0 := Lib.hid (Mm.Blk.new v8 31 [.slice A0_8_0 n0_8_0 c0_8_0, .slice A1_8_0 n1_8_0 c1_8_0, .slice A2_8_0 n2_8_0 c2_8_0, .slice A3_8_0 n3_8_0 c3_8_0, .slice A4_8_0 n4_8_0 c4_8_0])
    have c11_KP_t_0 := KP_t.out.cell (i := 0) rfl
    have c11_KP_t_1 := KP_t.out.cell (i := 1) rfl
    have c11_KP_t_2 := KP_t.out.cell (i := 2) rfl
    have c11_KP_t_3 := KP_t.out.cell (i := 3) rfl
    have c11_KP_t_4 := KP_t.out.cell (i := 4) rfl
    go_wp2_with fail
    refine (toTell_at t _ _ w.heap.size HR_t.out HB_t.out (by omega)).mono ?_
    rintro e v12 ⟨cs12, fp12, rfl, ho12, hnd12, hf12, hbz⟩
    obtain ⟨A0_12, n0_12, c0_12, A1_12, n1_12, c1_12, A2_12, n2_12, c2_12, A3_12, n3_12, c3_12, A4_12, n4_12, c4_12, _, _, _, _, _, rfl, -⟩ := rTell_own ho12
    have AP12_HR_t := Lib.hid (show ∀ b, b ∈ fp12 → w.heap.size ≤ b from fun b hb' => Nat.le_trans HB_t.out (hf12 b hb'))
    have AP12_HW0_0 := Lib.hid (show ∀ b, b ∈ fp12 → v8.heap.size ≤ b from fun b hb' => Nat.le_trans HW0_0_s.out (hf12 b hb'))
    have NB12_KP_t := Lib.hid (show ¬ w.heap.size ∈ fp12 from fun hm => by have := KP_t.out.lt; have := hf12 _ hm; omega)
    have NB12_KW_0 := Lib.hid (show ¬ v8.heap.size ∈ fp12 from fun hm => by have := KW_0.out.lt; have := hf12 _ hm; omega)
    have FR12 := Lib.hid (show ∀ b, b ∈ fp12 → w.heap.size ≤ b from fun b hb' => Nat.le_trans HT10.out.size (hf12 b hb'))
    have ND12 := Lib.hid hnd12
    have LT12 := Lib.hid (show ∀ b, b ∈ fp12 → b < v12.heap.size from rTell.olt ho12)
    have HR_t := Lib.hid (rTell.keep HR_t.out fun b hb' => hbz.block b (Nat.lt_of_lt_of_le hb' HB_t.out))
    have HB_t := Lib.hid (Nat.le_trans HB_t.out hbz.size)
    have HW0_0 := Lib.hid (rTell.keep HW0_0.out fun b hb' => hbz.block b (Nat.lt_of_lt_of_le hb' HW0_0_s.out))
    have HW0_0_s := Lib.hid (Nat.le_trans HW0_0_s.out hbz.size)
    have KP_t := Lib.hid (KP_t.out.bel hbz)
    have KW_0 := Lib.hid (KW_0.out.bel hbz)
    have HT13 := Lib.hid (below_step HT10.out hbz)
    have HXx_t := Lib.hid (rTell.weak ho12 (B := v12.heap.size) (rTell.olt ho12))
    have HXx_t_s := Lib.hid (Nat.le_refl v12.heap.size)
    have OX_t := Lib.hid ho12
    clear ho12 hnd12 hf12
    clear hbz
    have NIKX_t_fp12 := Lib.hid (show ¬ v12.heap.size ∈ fp12 from fun hm => Nat.lt_irrefl _ (rTell.olt OX_t.out _ hm))
    have hbx : Below v12.heap.size v12 (v12.alloc (.cells #[.slice A0_12 n0_12 c0_12, .slice A1_12 n1_12 c1_12, .slice A2_12 n2_12 c2_12, .slice A3_12 n3_12 c3_12, .slice A4_12 n4_12 c4_12] 31)) := below_new (Below.refl _ _) _
    have HR_t := Lib.hid (rTell.keep HR_t.out fun b hb' => hbx.block b (Nat.lt_of_lt_of_le hb' HB_t.out))
    have HB_t := Lib.hid (Nat.le_trans HB_t.out hbx.size)
    have HW0_0 := Lib.hid (rTell.keep HW0_0.out fun b hb' => hbx.block b (Nat.lt_of_lt_of_le hb' HW0_0_s.out))
    have HW0_0_s := Lib.hid (Nat.le_trans HW0_0_s.out hbx.size)
    have HXx_t := Lib.hid (rTell.keep HXx_t.out fun b hb' => hbx.block b (Nat.lt_of_lt_of_le hb' HXx_t_s.out))
    have HXx_t_s := Lib.hid (Nat.le_trans HXx_t_s.out hbx.size)
    have OX_t := Lib.hid (rTell.okeep OX_t.out fun b hb' => hbx.block b (rTell.olt OX_t.out b hb'))
    have KP_t := Lib.hid (KP_t.out.bel hbx)
    have KW_0 := Lib.hid (KW_0.out.bel hbx)
    have HT14 := Lib.hid (below_step HT13.out hbx)
    clear hbx
    have KX_t := Lib.hid (Mm.Blk.new v12 31 [.slice A0_12 n0_12 c0_12, .slice A1_12 n1_12 c1_12, .slice A2_12 n2_12 c2_12, .slice A3_12 n3_12 c3_12, .slice A4_12 n4_12 c4_12])
    have c15_KX_t_0 := KX_t.out.cell (i := 0) rfl
    have c15_KX_t_1 := KX_t.out.cell (i := 1) rfl
    have c15_KX_t_2 := KX_t.out.cell (i := 2) rfl
    have c15_KX_t_3 := KX_t.out.cell (i := 3) rfl
    have c15_KX_t_4 := KX_t.out.cell (i := 4) rfl
    go_wp2_with fail
    refine (implSettleTell_c t _ _ _ (rTell.more HXx_t.out HXx_t_s.out) (Nat.le_refl _)).mono ?_
    rintro e v16 ⟨cs16_0, fp16_0, rfl, hS16⟩
    have hbz := hS16.bel0
    have ho16_0 : rTell.own v16 ((Pl.settleTell t).1) cs16_0 fp16_0 := hS16.at_ 0 rfl
    have hnd16_0 := hS16.ndat (i := 0) rfl
    have hf16_0 : ∀ b, b ∈ fp16_0 → _ ≤ b := fun b hb' => (hS16.new b (Mm.SepF.mem (i := 0) rfl hb')).resolve_left (fun hh => by cases hh)
    obtain ⟨A0_16_0, n0_16_0, c0_16_0, A1_16_0, n1_16_0, c1_16_0, A2_16_0, n2_16_0, c2_16_0, A3_16_0, n3_16_0, c3_16_0, A4_16_0, n4_16_0, c4_16_0, _, _, _, _, _, rfl, -⟩ := rTell_own ho16_0
    clear hS16
    have AP16_0_HR_t := Lib.hid (show ∀ b, b ∈ fp16_0 → w.heap.size ≤ b from fun b hb' => Nat.le_trans HB_t.out (hf16_0 b hb'))
    have AP16_0_HW0_0 := Lib.hid (show ∀ b, b ∈ fp16_0 → v8.heap.size ≤ b from fun b hb' => Nat.le_trans HW0_0_s.out (hf16_0 b hb'))
    have AP16_0_HXx_t := Lib.hid (show ∀ b, b ∈ fp16_0 → v12.heap.size ≤ b from fun b hb' => Nat.le_trans HXx_t_s.out (hf16_0 b hb'))
    have DP16_0_OX_t := Lib.hid (show ∀ b, b ∈ fp16_0 → b ∉ fp12 from fun b hb' hm => by have := rTell.olt OX_t.out b hm; have := hf16_0 b hb'; omega)
    have NB16_0_KP_t := Lib.hid (show ¬ w.heap.size ∈ fp16_0 from fun hm => by have := KP_t.out.lt; have := hf16_0 _ hm; omega)
    have NB16_0_KW_0 := Lib.hid (show ¬ v8.heap.size ∈ fp16_0 from fun hm => by have := KW_0.out.lt; have := hf16_0 _ hm; omega)
    have NB16_0_KX_t := Lib.hid (show ¬ v12.heap.size ∈ fp16_0 from fun hm => by have := KX_t.out.lt; have := hf16_0 _ hm; omega)
    have FR16_0 := Lib.hid (show ∀ b, b ∈ fp16_0 → w.heap.size ≤ b from fun b hb' => Nat.le_trans HT14.out.size (hf16_0 b hb'))
    have ND16_0 := Lib.hid hnd16_0
    have LT16_0 := Lib.hid (show ∀ b, b ∈ fp16_0 → b < v16.heap.size from rTell.olt ho16_0)
    have HR_t := Lib.hid (rTell.keep HR_t.out fun b hb' => hbz.block b (Nat.lt_of_lt_of_le hb' HB_t.out))
    have HB_t := Lib.hid (Nat.le_trans HB_t.out hbz.size)
    have HW0_0 := Lib.hid (rTell.keep HW0_0.out fun b hb' => hbz.block b (Nat.lt_of_lt_of_le hb' HW0_0_s.out))
    have HW0_0_s := Lib.hid (Nat.le_trans HW0_0_s.out hbz.size)
    have HXx_t := Lib.hid (rTell.keep HXx_t.out fun b hb' => hbz.block b (Nat.lt_of_lt_of_le hb' HXx_t_s.out))
    have HXx_t_s := Lib.hid (Nat.le_trans HXx_t_s.out hbz.size)
    have OX_t := Lib.hid (rTell.okeep OX_t.out fun b hb' => hbz.block b (rTell.olt OX_t.out b hb'))
    have KP_t := Lib.hid (KP_t.out.bel hbz)
    have KW_0 := Lib.hid (KW_0.out.bel hbz)
    have KX_t := Lib.hid (KX_t.out.bel hbz)
    have HT17 := Lib.hid (below_step HT14.out hbz)
    have OG_0 := Lib.hid ho16_0
    clear ho16_0 hnd16_0 hf16_0
    clear hbz
    have NIKG_0_fp12 := Lib.hid (show ¬ v16.heap.size ∈ fp12 from fun hm => Nat.lt_irrefl _ (rTell.olt OX_t.out _ hm))
    have NIKG_0_fp16_0 := Lib.hid (show ¬ v16.heap.size ∈ fp16_0 from fun hm => Nat.lt_irrefl _ (rTell.olt OG_0.out _ hm))
    have hbx : Below v16.heap.size v16 (v16.alloc (.cells #[.slice A0_16_0 n0_16_0 c0_16_0, .slice A1_16_0 n1_16_0 c1_16_0, .slice A2_16_0 n2_16_0 c2_16_0, .slice A3_16_0 n3_16_0 c3_16_0, .slice A4_16_0 n4_16_0 c4_16_0] 31)) := below_new (Below.refl _ _) _
    have HR_t := Lib.hid (rTell.keep HR_t.out fun b hb' => hbx.block b (Nat.lt_of_lt_of_le hb' HB_t.out))
    have HB_t := Lib.hid (Nat.le_trans HB_t.out hbx.size)
    have HW0_0 := Lib.hid (rTell.keep HW0_0.out fun b hb' => hbx.block b (Nat.lt_of_lt_of_le hb' HW0_0_s.out))
    have HW0_0_s := Lib.hid (Nat.le_trans HW0_0_s.out hbx.size)
    have HXx_t := Lib.hid (rTell.keep HXx_t.out fun b hb' => hbx.block b (Nat.lt_of_lt_of_le hb' HXx_t_s.out))
    have HXx_t_s := Lib.hid (Nat.le_trans HXx_t_s.out hbx.size)
    have OX_t := Lib.hid (rTell.okeep OX_t.out fun b hb' => hbx.block b (rTell.olt OX_t.out b hb'))
    have OG_0 := Lib.hid (rTell.okeep OG_0.out fun b hb' => hbx.block b (rTell.olt OG_0.out b hb'))
    have KP_t := Lib.hid (KP_t.out.bel hbx)
    have KW_0 := Lib.hid (KW_0.out.bel hbx)
    have KX_t := Lib.hid (KX_t.out.bel hbx)
    have HT18 := Lib.hid (below_step HT17.out hbx)
    clear hbx
    have KG_0 := Lib.hid (Mm.Blk.new v16 31 [.slice A0_16_0 n0_16_0 c0_16_0, .slice A1_16_0 n1_16_0 c1_16_0, .slice A2_16_0 n2_16_0 c2_16_0, .slice A3_16_0 n3_16_0 c3_16_0, .slice A4_16_0 n4_16_0 c4_16_0])
    have c19_KP_t_0 := KP_t.out.cell (i := 0) rfl
    have c19_KP_t_1 := KP_t.out.cell (i := 1) rfl
    have c19_KP_t_2 := KP_t.out.cell (i := 2) rfl
    have c19_KP_t_3 := KP_t.out.cell (i := 3) rfl
    have c19_KP_t_4 := KP_t.out.cell (i := 4) rfl
    have c19_KW_0_0 := KW_0.out.cell (i := 0) rfl
    have c19_KW_0_1 := KW_0.out.cell (i := 1) rfl
    have c19_KW_0_2 := KW_0.out.cell (i := 2) rfl
    have c19_KW_0_3 := KW_0.out.cell (i := 3) rfl
    have c19_KW_0_4 := KW_0.out.cell (i := 4) rfl
    have c19_KX_t_0 := KX_t.out.cell (i := 0) rfl
    have c19_KX_t_1 := KX_t.out.cell (i := 1) rfl
    have c19_KX_t_2 := KX_t.out.cell (i := 2) rfl
    have c19_KX_t_3 := KX_t.out.cell (i := 3) rfl
    have c19_KX_t_4 := KX_t.out.cell (i := 4) rfl
    have c19_KG_0_0 := KG_0.out.cell (i := 0) rfl
    have c19_KG_0_1 := KG_0.out.cell (i := 1) rfl
    have c19_KG_0_2 := KG_0.out.cell (i := 2) rfl
    have c19_KG_0_3 := KG_0.out.cell (i := 3) rfl
    have c19_KG_0_4 := KG_0.out.cell (i := 4) rfl
    go_wp2_with fail
    refine (eqTell_at ((Pl.settleTell t).1) _ _ _ _ (rTell.weak OG_0.out (B := _) (rTell.olt OG_0.out)) (rTell.more HW0_0.out HW0_0_s.out) (Nat.le_refl _)).mono ?_
    rintro e v20 ⟨rfl, hbz⟩
    have HR_t := Lib.hid (rTell.keep HR_t.out fun b hb' => hbz.block b (Nat.lt_of_lt_of_le hb' HB_t.out))
    have HB_t := Lib.hid (Nat.le_trans HB_t.out hbz.size)
    have HW0_0 := Lib.hid (rTell.keep HW0_0.out fun b hb' => hbz.block b (Nat.lt_of_lt_of_le hb' HW0_0_s.out))
    have HW0_0_s := Lib.hid (Nat.le_trans HW0_0_s.out hbz.size)
    have HXx_t := Lib.hid (rTell.keep HXx_t.out fun b hb' => hbz.block b (Nat.lt_of_lt_of_le hb' HXx_t_s.out))
    have HXx_t_s := Lib.hid (Nat.le_trans HXx_t_s.out hbz.size)
    have OX_t := Lib.hid (rTell.okeep OX_t.out fun b hb' => hbz.block b (rTell.olt OX_t.out b hb'))
    have OG_0 := Lib.hid (rTell.okeep OG_0.out fun b hb' => hbz.block b (rTell.olt OG_0.out b hb'))
    have KP_t := Lib.hid (KP_t.out.bel hbz)
    have KW_0 := Lib.hid (KW_0.out.bel hbz)
    have KX_t := Lib.hid (KX_t.out.bel hbz)
    have KG_0 := Lib.hid (KG_0.out.bel hbz)
    have HT21 := Lib.hid (below_step HT18.out hbz)
    clear hbz
    have c22_KP_t_0 := KP_t.out.cell (i := 0) rfl
    have c22_KP_t_1 := KP_t.out.cell (i := 1) rfl
    have c22_KP_t_2 := KP_t.out.cell (i := 2) rfl
    have c22_KP_t_3 := KP_t.out.cell (i := 3) rfl
    have c22_KP_t_4 := KP_t.out.cell (i := 4) rfl
    have c22_KX_t_0 := KX_t.out.cell (i := 0) rfl
    have c22_KX_t_1 := KX_t.out.cell (i := 1) rfl
    have c22_KX_t_2 := KX_t.out.cell (i := 2) rfl
    have c22_KX_t_3 := KX_t.out.cell (i := 3) rfl
    have c22_KX_t_4 := KX_t.out.cell (i := 4) rfl
    go_wp2_with fail
    have hdr := (Below.refl v20.heap.size v20).drew
    have HR_t := Lib.hid (rTell.keep HR_t.out fun b hb' => hdr.block b (Nat.lt_of_lt_of_le hb' HB_t.out))
    have HB_t := Lib.hid (Nat.le_trans HB_t.out hdr.size)
    have HW0_0 := Lib.hid (rTell.keep HW0_0.out fun b hb' => hdr.block b (Nat.lt_of_lt_of_le hb' HW0_0_s.out))
    have HW0_0_s := Lib.hid (Nat.le_trans HW0_0_s.out hdr.size)
    have HXx_t := Lib.hid (rTell.keep HXx_t.out fun b hb' => hdr.block b (Nat.lt_of_lt_of_le hb' HXx_t_s.out))
    have HXx_t_s := Lib.hid (Nat.le_trans HXx_t_s.out hdr.size)
    have OX_t := Lib.hid (rTell.okeep OX_t.out fun b hb' => hdr.block b (rTell.olt OX_t.out b hb'))
    have OG_0 := Lib.hid (rTell.okeep OG_0.out fun b hb' => hdr.block b (rTell.olt OG_0.out b hb'))
    have KP_t := Lib.hid (KP_t.out.bel hdr)
    have KW_0 := Lib.hid (KW_0.out.bel hdr)
    have KX_t := Lib.hid (KX_t.out.bel hdr)
    have KG_0 := Lib.hid (KG_0.out.bel hdr)
    have HT23 := Lib.hid (below_step HT21.out hdr)
    clear hdr
    have c24_KP_t_0 := KP_t.out.cell (i := 0) rfl
    have c24_KP_t_1 := KP_t.out.cell (i := 1) rfl
    have c24_KP_t_2 := KP_t.out.cell (i := 2) rfl
    have c24_KP_t_3 := KP_t.out.cell (i := 3) rfl
    have c24_KP_t_4 := KP_t.out.cell (i := 4) rfl
    have c24_KX_t_0 := KX_t.out.cell (i := 0) rfl
    have c24_KX_t_1 := KX_t.out.cell (i := 1) rfl
    have c24_KX_t_2 := KX_t.out.cell (i := 2) rfl
    have c24_KX_t_3 := KX_t.out.cell (i := 3) rfl
    have c24_KX_t_4 := KX_t.out.cell (i := 4) rfl
    go_region_held3 (fun wx => wx.cell? ⟨w.heap.size, 0, none⟩ = some (.slice A0_t n0_t c0_t) ∧ wx.cell? ⟨w.heap.size, 1, none⟩ = some (.slice A1_t n1_t c1_t) ∧ wx.cell? ⟨w.heap.size, 2, none⟩ = some (.slice A2_t n2_t c2_t) ∧ wx.cell? ⟨w.heap.size, 3, none⟩ = some (.slice A3_t n3_t c3_t) ∧ wx.cell? ⟨w.heap.size, 4, none⟩ = some (.slice A4_t n4_t c4_t) ∧ wx.cell? ⟨v12.heap.size, 0, none⟩ = some (.slice A0_12 n0_12 c0_12) ∧ wx.cell? ⟨v12.heap.size, 1, none⟩ = some (.slice A1_12 n1_12 c1_12) ∧ wx.cell? ⟨v12.heap.size, 2, none⟩ = some (.slice A2_12 n2_12 c2_12) ∧ wx.cell? ⟨v12.heap.size, 3, none⟩ = some (.slice A3_12 n3_12 c3_12) ∧ wx.cell? ⟨v12.heap.size, 4, none⟩ = some (.slice A4_12 n4_12 c4_12))
      (first | (go_keep; done) | ((try dsimp only); go_split_ands; refine ⟨?_, ?_, ?_, ?_, ?_, ?_, ?_, ?_, ?_, ?_⟩ <;> first | (exact below_some hbz (by assumption)) | (exact (KP_t.out.alloc _).cell (i := 0) rfl) | (exact (KP_t.out.alloc _).cell (i := 1) rfl) | (exact (KP_t.out.alloc _).cell (i := 2) rfl) | (exact (KP_t.out.alloc _).cell (i := 3) rfl) | (exact (KP_t.out.alloc _).cell (i := 4) rfl) | (exact (KX_t.out.alloc _).cell (i := 0) rfl) | (exact (KX_t.out.alloc _).cell (i := 1) rfl) | (exact (KX_t.out.alloc _).cell (i := 2) rfl) | (exact (KX_t.out.alloc _).cell (i := 3) rfl) | (exact (KX_t.out.alloc _).cell (i := 4) rfl) | (go_keep; done) | (simp [World.cell?_alloc_some, World.cell?_setCell_far, *]; done)))
      (first
        | (go_at_call 42; (with_reducible refine (toTell_at t _ _ w.heap.size HR_t.out HB_t.out (by omega)).mono ?_); rintro e v25 ⟨cs25, fp25, rfl, ho25, hnd25, hf25, hbz⟩; obtain ⟨A0_25, n0_25, c0_25, A1_25, n1_25, c1_25, A2_25, n2_25, c2_25, A3_25, n3_25, c3_25, A4_25, n4_25, c4_25, _, _, _, _, _, rfl, -⟩ := rTell_own ho25; (have HR_t := Lib.hid (rTell.keep HR_t.out fun b hb' => hbz.block b (Nat.lt_of_lt_of_le hb' HB_t.out))); (have HB_t := Lib.hid (Nat.le_trans HB_t.out hbz.size)); (have HW0_0 := Lib.hid (rTell.keep HW0_0.out fun b hb' => hbz.block b (Nat.lt_of_lt_of_le hb' HW0_0_s.out))); (have HW0_0_s := Lib.hid (Nat.le_trans HW0_0_s.out hbz.size)); (have HXx_t := Lib.hid (rTell.keep HXx_t.out fun b hb' => hbz.block b (Nat.lt_of_lt_of_le hb' HXx_t_s.out))); (have HXx_t_s := Lib.hid (Nat.le_trans HXx_t_s.out hbz.size)); (have OX_t := Lib.hid (rTell.okeep OX_t.out fun b hb' => hbz.block b (rTell.olt OX_t.out b hb'))); (have OG_0 := Lib.hid (rTell.okeep OG_0.out fun b hb' => hbz.block b (rTell.olt OG_0.out b hb'))); (have KP_t := Lib.hid (KP_t.out.bel hbz)); (have KW_0 := Lib.hid (KW_0.out.bel hbz)); (have KX_t := Lib.hid (KX_t.out.bel hbz)); (have KG_0 := Lib.hid (KG_0.out.bel hbz)); (have HT26 := Lib.hid (below_step HT23.out hbz)); (have HXz_t := Lib.hid (rTell.weak ho25 (B := v25.heap.size) (rTell.olt ho25))); (have HXz_t_s := Lib.hid (Nat.le_refl v25.heap.size)); clear ho25 hnd25 hf25)
        | (go_at_call 33; (with_reducible refine (eqTell_at t _ _ _ v25.heap.size (rTell.more HXx_t.out HXx_t_s.out) HXz_t.out (Nat.le_refl _)).mono ?_); rintro e v27 ⟨rfl, hbz⟩; (have HR_t := Lib.hid (rTell.keep HR_t.out fun b hb' => hbz.block b (Nat.lt_of_lt_of_le hb' HB_t.out))); (have HB_t := Lib.hid (Nat.le_trans HB_t.out hbz.size)); (have HW0_0 := Lib.hid (rTell.keep HW0_0.out fun b hb' => hbz.block b (Nat.lt_of_lt_of_le hb' HW0_0_s.out))); (have HW0_0_s := Lib.hid (Nat.le_trans HW0_0_s.out hbz.size)); (have HXx_t := Lib.hid (rTell.keep HXx_t.out fun b hb' => hbz.block b (Nat.lt_of_lt_of_le hb' HXx_t_s.out))); (have HXx_t_s := Lib.hid (Nat.le_trans HXx_t_s.out hbz.size)); (have HXz_t := Lib.hid (rTell.keep HXz_t.out fun b hb' => hbz.block b (Nat.lt_of_lt_of_le hb' HXz_t_s.out))); (have HXz_t_s := Lib.hid (Nat.le_trans HXz_t_s.out hbz.size)); (have OX_t := Lib.hid (rTell.okeep OX_t.out fun b hb' => hbz.block b (rTell.olt OX_t.out b hb'))); (have OG_0 := Lib.hid (rTell.okeep OG_0.out fun b hb' => hbz.block b (rTell.olt OG_0.out b hb'))); (have KP_t := Lib.hid (KP_t.out.bel hbz)); (have KW_0 := Lib.hid (KW_0.out.bel hbz)); (have KX_t := Lib.hid (KX_t.out.bel hbz)); (have KG_0 := Lib.hid (KG_0.out.bel hbz)); (have HT28 := Lib.hid (below_step HT26.out hbz))))
    clear hbz
    have hcn_t := Pl.ctopTell_nn t
    have hcb_t : Pl.ctopTell t ≤ 50000000 := by have := Pl.ctopbTell t; omega
    have c30_KX_t_0 := KX_t.out.cell (i := 0) rfl
    have c30_KX_t_1 := KX_t.out.cell (i := 1) rfl
    have c30_KX_t_2 := KX_t.out.cell (i := 2) rfl
    have c30_KX_t_3 := KX_t.out.cell (i := 3) rfl
    have c30_KX_t_4 := KX_t.out.cell (i := 4) rfl
    go_wp2_with fail
    refine (markTell_c t _ _ _ _ OX_t.out ND12.out (by omega) (by omega)).mono ?_
    rintro e v29 ⟨rfl, hch, -⟩
    have HR_t := Lib.hid (rTell.keep HR_t.out fun b hb' => hch.block b (Nat.lt_of_lt_of_le hb' HB_t.out) (fun hm => by have := AP12_HR_t.out b hm; omega))
    have HB_t := Lib.hid (Nat.le_trans HB_t.out hch.size)
    have HW0_0 := Lib.hid (rTell.keep HW0_0.out fun b hb' => hch.block b (Nat.lt_of_lt_of_le hb' HW0_0_s.out) (fun hm => by have := AP12_HW0_0.out b hm; omega))
    have HW0_0_s := Lib.hid (Nat.le_trans HW0_0_s.out hch.size)
    have OG_0 := Lib.hid (rTell.okeep OG_0.out fun b hb' => hch.block b (rTell.olt OG_0.out b hb') (fun hm => DP16_0_OX_t.out b hb' hm))
    have KP_t := Lib.hid (KP_t.out.keep (hch.block _ KP_t.out.lt (NB12_KP_t.out)))
    have KW_0 := Lib.hid (KW_0.out.keep (hch.block _ KW_0.out.lt (NB12_KW_0.out)))
    have KX_t := Lib.hid (KX_t.out.keep (hch.block _ KX_t.out.lt (NIKX_t_fp12.out)))
    have KG_0 := Lib.hid (KG_0.out.keep (hch.block _ KG_0.out.lt (NIKG_0_fp12.out)))
    have HT31 := Lib.hid (Mm.Below.chg HT28.out hch HT28.out.size FR12.out)
    clear hch
    have c32_KP_t_0 := KP_t.out.cell (i := 0) rfl
    have c32_KP_t_1 := KP_t.out.cell (i := 1) rfl
    have c32_KP_t_2 := KP_t.out.cell (i := 2) rfl
    have c32_KP_t_3 := KP_t.out.cell (i := 3) rfl
    have c32_KP_t_4 := KP_t.out.cell (i := 4) rfl
    have c32_KW_0_0 := KW_0.out.cell (i := 0) rfl
    have c32_KW_0_1 := KW_0.out.cell (i := 1) rfl
    have c32_KW_0_2 := KW_0.out.cell (i := 2) rfl
    have c32_KW_0_3 := KW_0.out.cell (i := 3) rfl
    have c32_KW_0_4 := KW_0.out.cell (i := 4) rfl
    have c32_KX_t_0 := KX_t.out.cell (i := 0) rfl
    have c32_KX_t_1 := KX_t.out.cell (i := 1) rfl
    have c32_KX_t_2 := KX_t.out.cell (i := 2) rfl
    have c32_KX_t_3 := KX_t.out.cell (i := 3) rfl
    have c32_KX_t_4 := KX_t.out.cell (i := 4) rfl
    have c32_KG_0_0 := KG_0.out.cell (i := 0) rfl
    have c32_KG_0_1 := KG_0.out.cell (i := 1) rfl
    have c32_KG_0_2 := KG_0.out.cell (i := 2) rfl
    have c32_KG_0_3 := KG_0.out.cell (i := 3) rfl
    have c32_KG_0_4 := KG_0.out.cell (i := 4) rfl
    go_wp2_with fail
    refine (eqTell_at ((Pl.settleTell t).1) _ _ _ _ (rTell.weak OG_0.out (B := _) (rTell.olt OG_0.out)) (rTell.more HW0_0.out HW0_0_s.out) (Nat.le_refl _)).mono ?_
    rintro e v33 ⟨rfl, hbz⟩
    have HR_t := Lib.hid (rTell.keep HR_t.out fun b hb' => hbz.block b (Nat.lt_of_lt_of_le hb' HB_t.out))
    have HB_t := Lib.hid (Nat.le_trans HB_t.out hbz.size)
    have HW0_0 := Lib.hid (rTell.keep HW0_0.out fun b hb' => hbz.block b (Nat.lt_of_lt_of_le hb' HW0_0_s.out))
    have HW0_0_s := Lib.hid (Nat.le_trans HW0_0_s.out hbz.size)
    have OG_0 := Lib.hid (rTell.okeep OG_0.out fun b hb' => hbz.block b (rTell.olt OG_0.out b hb'))
    have KP_t := Lib.hid (KP_t.out.bel hbz)
    have KW_0 := Lib.hid (KW_0.out.bel hbz)
    have KX_t := Lib.hid (KX_t.out.bel hbz)
    have KG_0 := Lib.hid (KG_0.out.bel hbz)
    have HT34 := Lib.hid (below_step HT31.out hbz)
    clear hbz
    have hcg0 : 0 ≤ Pl.ctopTell ((Pl.settleTell t).1) := Pl.ctopTell_nn ((Pl.settleTell t).1)
    have hcgb0 : Pl.ctopTell ((Pl.settleTell t).1) ≤ 50000000 := (settleTell_cnt t)
    obtain ⟨cg0, hcge0⟩ : ∃ z, Pl.ctopTell ((Pl.settleTell t).1) = z := ⟨_, rfl⟩
    rw [hcge0] at hcg0 hcgb0
    have HCG0 := Lib.hid hcge0
    clear hcge0
    have c35_KG_0_0 := KG_0.out.cell (i := 0) rfl
    have c35_KG_0_1 := KG_0.out.cell (i := 1) rfl
    have c35_KG_0_2 := KG_0.out.cell (i := 2) rfl
    have c35_KG_0_3 := KG_0.out.cell (i := 3) rfl
    have c35_KG_0_4 := KG_0.out.cell (i := 4) rfl
    go_wp2_with fail
    refine (markTell_c ((Pl.settleTell t).1) _ _ _ _ OG_0.out ND16_0.out (by omega) (by rw [HCG0.out]; omega)).mono ?_
    rintro e v36 ⟨rfl, hch, fpm0, hom, hndm, hsubm⟩
    rw [HCG0.out]
    have HR_t := Lib.hid (rTell.keep HR_t.out fun b hb' => hch.block b (Nat.lt_of_lt_of_le hb' HB_t.out) (fun hm => by have := AP16_0_HR_t.out b hm; omega))
    have HB_t := Lib.hid (Nat.le_trans HB_t.out hch.size)
    have HW0_0 := Lib.hid (rTell.keep HW0_0.out fun b hb' => hch.block b (Nat.lt_of_lt_of_le hb' HW0_0_s.out) (fun hm => by have := AP16_0_HW0_0.out b hm; omega))
    have HW0_0_s := Lib.hid (Nat.le_trans HW0_0_s.out hch.size)
    have KP_t := Lib.hid (KP_t.out.keep (hch.block _ KP_t.out.lt (NB16_0_KP_t.out)))
    have KW_0 := Lib.hid (KW_0.out.keep (hch.block _ KW_0.out.lt (NB16_0_KW_0.out)))
    have KX_t := Lib.hid (KX_t.out.keep (hch.block _ KX_t.out.lt (NB16_0_KX_t.out)))
    have KG_0 := Lib.hid (KG_0.out.keep (hch.block _ KG_0.out.lt (NIKG_0_fp16_0.out)))
    have HT37 := Lib.hid (Mm.Below.chg HT34.out hch HT34.out.size FR16_0.out)
    clear hch
    have OM_0 := Lib.hid hom
    clear hom hndm hsubm
    have c38_KG_0_0 := KG_0.out.cell (i := 0) rfl
    have c38_KG_0_1 := KG_0.out.cell (i := 1) rfl
    have c38_KG_0_2 := KG_0.out.cell (i := 2) rfl
    have c38_KG_0_3 := KG_0.out.cell (i := 3) rfl
    have c38_KG_0_4 := KG_0.out.cell (i := 4) rfl
    go_wp2_with fail
    refine (heldTell_c ((Pl.settleTell t).1) _ _ _ _ (rTell.weak OM_0.out (B := _) (rTell.olt OM_0.out)) (Nat.le_refl _) (by omega) (by rw [HCG0.out]; omega)).mono ?_
    rintro e v39 ⟨rfl, hbz⟩
    rw [HCG0.out]
    have HR_t := Lib.hid (rTell.keep HR_t.out fun b hb' => hbz.block b (Nat.lt_of_lt_of_le hb' HB_t.out))
    have HB_t := Lib.hid (Nat.le_trans HB_t.out hbz.size)
    have HW0_0 := Lib.hid (rTell.keep HW0_0.out fun b hb' => hbz.block b (Nat.lt_of_lt_of_le hb' HW0_0_s.out))
    have HW0_0_s := Lib.hid (Nat.le_trans HW0_0_s.out hbz.size)
    have OM_0 := Lib.hid (rTell.okeep OM_0.out fun b hb' => hbz.block b (rTell.olt OM_0.out b hb'))
    have KP_t := Lib.hid (KP_t.out.bel hbz)
    have KW_0 := Lib.hid (KW_0.out.bel hbz)
    have KX_t := Lib.hid (KX_t.out.bel hbz)
    have KG_0 := Lib.hid (KG_0.out.bel hbz)
    have HT40 := Lib.hid (below_step HT37.out hbz)
    clear hbz
    have c41_KP_t_0 := KP_t.out.cell (i := 0) rfl
    have c41_KP_t_1 := KP_t.out.cell (i := 1) rfl
    have c41_KP_t_2 := KP_t.out.cell (i := 2) rfl
    have c41_KP_t_3 := KP_t.out.cell (i := 3) rfl
    have c41_KP_t_4 := KP_t.out.cell (i := 4) rfl
    go_wp2_with fail
    refine (toTell_at t _ _ w.heap.size HR_t.out HB_t.out (by omega)).mono ?_
    rintro e v42 ⟨cs42, fp42, rfl, ho42, hnd42, hf42, hbz⟩
    obtain ⟨A0_42, n0_42, c0_42, A1_42, n1_42, c1_42, A2_42, n2_42, c2_42, A3_42, n3_42, c3_42, A4_42, n4_42, c4_42, _, _, _, _, _, rfl, -⟩ := rTell_own ho42
    have HR_t := Lib.hid (rTell.keep HR_t.out fun b hb' => hbz.block b (Nat.lt_of_lt_of_le hb' HB_t.out))
    have HB_t := Lib.hid (Nat.le_trans HB_t.out hbz.size)
    have HW0_0 := Lib.hid (rTell.keep HW0_0.out fun b hb' => hbz.block b (Nat.lt_of_lt_of_le hb' HW0_0_s.out))
    have HW0_0_s := Lib.hid (Nat.le_trans HW0_0_s.out hbz.size)
    have OM_0 := Lib.hid (rTell.okeep OM_0.out fun b hb' => hbz.block b (rTell.olt OM_0.out b hb'))
    have KP_t := Lib.hid (KP_t.out.bel hbz)
    have KW_0 := Lib.hid (KW_0.out.bel hbz)
    have KX_t := Lib.hid (KX_t.out.bel hbz)
    have KG_0 := Lib.hid (KG_0.out.bel hbz)
    have HT43 := Lib.hid (below_step HT40.out hbz)
    have HXh_t := Lib.hid (rTell.weak ho42 (B := v42.heap.size) (rTell.olt ho42))
    have HXh_t_s := Lib.hid (Nat.le_refl v42.heap.size)
    clear ho42 hnd42 hf42
    clear hbz
    go_wp2_with fail
    refine (implSettleTell_c t _ _ _ (rTell.more HXh_t.out HXh_t_s.out) (Nat.le_refl _)).mono ?_
    rintro e v44 ⟨cs44_0, fp44_0, rfl, hS44⟩
    have hbz := hS44.bel0
    have ho44_0 : rTell.own v44 ((Pl.settleTell t).1) cs44_0 fp44_0 := hS44.at_ 0 rfl
    have hnd44_0 := hS44.ndat (i := 0) rfl
    have hf44_0 : ∀ b, b ∈ fp44_0 → _ ≤ b := fun b hb' => (hS44.new b (Mm.SepF.mem (i := 0) rfl hb')).resolve_left (fun hh => by cases hh)
    obtain ⟨A0_44_0, n0_44_0, c0_44_0, A1_44_0, n1_44_0, c1_44_0, A2_44_0, n2_44_0, c2_44_0, A3_44_0, n3_44_0, c3_44_0, A4_44_0, n4_44_0, c4_44_0, _, _, _, _, _, rfl, -⟩ := rTell_own ho44_0
    clear hS44
    have HR_t := Lib.hid (rTell.keep HR_t.out fun b hb' => hbz.block b (Nat.lt_of_lt_of_le hb' HB_t.out))
    have HB_t := Lib.hid (Nat.le_trans HB_t.out hbz.size)
    have HW0_0 := Lib.hid (rTell.keep HW0_0.out fun b hb' => hbz.block b (Nat.lt_of_lt_of_le hb' HW0_0_s.out))
    have HW0_0_s := Lib.hid (Nat.le_trans HW0_0_s.out hbz.size)
    have HXh_t := Lib.hid (rTell.keep HXh_t.out fun b hb' => hbz.block b (Nat.lt_of_lt_of_le hb' HXh_t_s.out))
    have HXh_t_s := Lib.hid (Nat.le_trans HXh_t_s.out hbz.size)
    have OM_0 := Lib.hid (rTell.okeep OM_0.out fun b hb' => hbz.block b (rTell.olt OM_0.out b hb'))
    have KP_t := Lib.hid (KP_t.out.bel hbz)
    have KW_0 := Lib.hid (KW_0.out.bel hbz)
    have KX_t := Lib.hid (KX_t.out.bel hbz)
    have KG_0 := Lib.hid (KG_0.out.bel hbz)
    have HT45 := Lib.hid (below_step HT43.out hbz)
    have HH_0 := Lib.hid (rTell.weak ho44_0 (B := v44.heap.size) (rTell.olt ho44_0))
    have HH_0_s := Lib.hid (Nat.le_refl v44.heap.size)
    clear ho44_0 hnd44_0 hf44_0
    clear hbz
    have NIKH_0_fpm0 := Lib.hid (show ¬ v44.heap.size ∈ fpm0 from fun hm => Nat.lt_irrefl _ (rTell.olt OM_0.out _ hm))
    have hbx : Below v44.heap.size v44 (v44.alloc (.cells #[.slice A0_44_0 n0_44_0 c0_44_0, .slice A1_44_0 n1_44_0 c1_44_0, .slice A2_44_0 n2_44_0 c2_44_0, .slice A3_44_0 n3_44_0 c3_44_0, .slice A4_44_0 n4_44_0 c4_44_0] 31)) := below_new (Below.refl _ _) _
    have HR_t := Lib.hid (rTell.keep HR_t.out fun b hb' => hbx.block b (Nat.lt_of_lt_of_le hb' HB_t.out))
    have HB_t := Lib.hid (Nat.le_trans HB_t.out hbx.size)
    have HW0_0 := Lib.hid (rTell.keep HW0_0.out fun b hb' => hbx.block b (Nat.lt_of_lt_of_le hb' HW0_0_s.out))
    have HW0_0_s := Lib.hid (Nat.le_trans HW0_0_s.out hbx.size)
    have HH_0 := Lib.hid (rTell.keep HH_0.out fun b hb' => hbx.block b (Nat.lt_of_lt_of_le hb' HH_0_s.out))
    have HH_0_s := Lib.hid (Nat.le_trans HH_0_s.out hbx.size)
    have OM_0 := Lib.hid (rTell.okeep OM_0.out fun b hb' => hbx.block b (rTell.olt OM_0.out b hb'))
    have KP_t := Lib.hid (KP_t.out.bel hbx)
    have KW_0 := Lib.hid (KW_0.out.bel hbx)
    have KX_t := Lib.hid (KX_t.out.bel hbx)
    have KG_0 := Lib.hid (KG_0.out.bel hbx)
    have HT46 := Lib.hid (below_step HT45.out hbx)
    clear hbx
    have KH_0 := Lib.hid (Mm.Blk.new v44 31 [.slice A0_44_0 n0_44_0 c0_44_0, .slice A1_44_0 n1_44_0 c1_44_0, .slice A2_44_0 n2_44_0 c2_44_0, .slice A3_44_0 n3_44_0 c3_44_0, .slice A4_44_0 n4_44_0 c4_44_0])
    have c47_KP_t_0 := KP_t.out.cell (i := 0) rfl
    have c47_KP_t_1 := KP_t.out.cell (i := 1) rfl
    have c47_KP_t_2 := KP_t.out.cell (i := 2) rfl
    have c47_KP_t_3 := KP_t.out.cell (i := 3) rfl
    have c47_KP_t_4 := KP_t.out.cell (i := 4) rfl
    have c47_KW_0_0 := KW_0.out.cell (i := 0) rfl
    have c47_KW_0_1 := KW_0.out.cell (i := 1) rfl
    have c47_KW_0_2 := KW_0.out.cell (i := 2) rfl
    have c47_KW_0_3 := KW_0.out.cell (i := 3) rfl
    have c47_KW_0_4 := KW_0.out.cell (i := 4) rfl
    have c47_KX_t_0 := KX_t.out.cell (i := 0) rfl
    have c47_KX_t_1 := KX_t.out.cell (i := 1) rfl
    have c47_KX_t_2 := KX_t.out.cell (i := 2) rfl
    have c47_KX_t_3 := KX_t.out.cell (i := 3) rfl
    have c47_KX_t_4 := KX_t.out.cell (i := 4) rfl
    have c47_KG_0_0 := KG_0.out.cell (i := 0) rfl
    have c47_KG_0_1 := KG_0.out.cell (i := 1) rfl
    have c47_KG_0_2 := KG_0.out.cell (i := 2) rfl
    have c47_KG_0_3 := KG_0.out.cell (i := 3) rfl
    have c47_KG_0_4 := KG_0.out.cell (i := 4) rfl
    have c47_KH_0_0 := KH_0.out.cell (i := 0) rfl
    have c47_KH_0_1 := KH_0.out.cell (i := 1) rfl
    have c47_KH_0_2 := KH_0.out.cell (i := 2) rfl
    have c47_KH_0_3 := KH_0.out.cell (i := 3) rfl
    have c47_KH_0_4 := KH_0.out.cell (i := 4) rfl
    have c48_KP_t_0 := KP_t.out.cell (i := 0) rfl
    have c48_KP_t_1 := KP_t.out.cell (i := 1) rfl
    have c48_KP_t_2 := KP_t.out.cell (i := 2) rfl
    have c48_KP_t_3 := KP_t.out.cell (i := 3) rfl
    have c48_KP_t_4 := KP_t.out.cell (i := 4) rfl
    have c48_KW_0_0 := KW_0.out.cell (i := 0) rfl
    have c48_KW_0_1 := KW_0.out.cell (i := 1) rfl
    have c48_KW_0_2 := KW_0.out.cell (i := 2) rfl
    have c48_KW_0_3 := KW_0.out.cell (i := 3) rfl
    have c48_KW_0_4 := KW_0.out.cell (i := 4) rfl
    have c48_KX_t_0 := KX_t.out.cell (i := 0) rfl
    have c48_KX_t_1 := KX_t.out.cell (i := 1) rfl
    have c48_KX_t_2 := KX_t.out.cell (i := 2) rfl
    have c48_KX_t_3 := KX_t.out.cell (i := 3) rfl
    have c48_KX_t_4 := KX_t.out.cell (i := 4) rfl
    have c48_KG_0_0 := KG_0.out.cell (i := 0) rfl
    have c48_KG_0_1 := KG_0.out.cell (i := 1) rfl
    have c48_KG_0_2 := KG_0.out.cell (i := 2) rfl
    have c48_KG_0_3 := KG_0.out.cell (i := 3) rfl
    have c48_KG_0_4 := KG_0.out.cell (i := 4) rfl
    have c48_KH_0_0 := KH_0.out.cell (i := 0) rfl
    have c48_KH_0_1 := KH_0.out.cell (i := 1) rfl
    have c48_KH_0_2 := KH_0.out.cell (i := 2) rfl
    have c48_KH_0_3 := KH_0.out.cell (i := 3) rfl
    have c48_KH_0_4 := KH_0.out.cell (i := 4) rfl
    go_wp2_with fail
    refine (eqTell_at ((Pl.settleTell t).1) _ _ _ _ (rTell.more HH_0.out HH_0_s.out) (rTell.more HW0_0.out HW0_0_s.out) (Nat.le_refl _)).mono ?_
    rintro e v49 ⟨rfl, hbz⟩
    have HR_t := Lib.hid (rTell.keep HR_t.out fun b hb' => hbz.block b (Nat.lt_of_lt_of_le hb' HB_t.out))
    have HB_t := Lib.hid (Nat.le_trans HB_t.out hbz.size)
    have HW0_0 := Lib.hid (rTell.keep HW0_0.out fun b hb' => hbz.block b (Nat.lt_of_lt_of_le hb' HW0_0_s.out))
    have HW0_0_s := Lib.hid (Nat.le_trans HW0_0_s.out hbz.size)
    have HH_0 := Lib.hid (rTell.keep HH_0.out fun b hb' => hbz.block b (Nat.lt_of_lt_of_le hb' HH_0_s.out))
    have HH_0_s := Lib.hid (Nat.le_trans HH_0_s.out hbz.size)
    have OM_0 := Lib.hid (rTell.okeep OM_0.out fun b hb' => hbz.block b (rTell.olt OM_0.out b hb'))
    have KP_t := Lib.hid (KP_t.out.bel hbz)
    have KW_0 := Lib.hid (KW_0.out.bel hbz)
    have KX_t := Lib.hid (KX_t.out.bel hbz)
    have KG_0 := Lib.hid (KG_0.out.bel hbz)
    have KH_0 := Lib.hid (KH_0.out.bel hbz)
    have HT50 := Lib.hid (below_step HT46.out hbz)
    clear hbz
    have c51_KG_0_0 := KG_0.out.cell (i := 0) rfl
    have c51_KG_0_1 := KG_0.out.cell (i := 1) rfl
    have c51_KG_0_2 := KG_0.out.cell (i := 2) rfl
    have c51_KG_0_3 := KG_0.out.cell (i := 3) rfl
    have c51_KG_0_4 := KG_0.out.cell (i := 4) rfl
    go_wp2_with fail
    refine (heldTell_c ((Pl.settleTell t).1) _ _ _ _ (rTell.weak OM_0.out (B := _) (rTell.olt OM_0.out)) (Nat.le_refl _) (by omega) (by rw [HCG0.out]; omega)).mono ?_
    rintro e v52 ⟨rfl, hbz⟩
    rw [HCG0.out]
    have HR_t := Lib.hid (rTell.keep HR_t.out fun b hb' => hbz.block b (Nat.lt_of_lt_of_le hb' HB_t.out))
    have HB_t := Lib.hid (Nat.le_trans HB_t.out hbz.size)
    have HW0_0 := Lib.hid (rTell.keep HW0_0.out fun b hb' => hbz.block b (Nat.lt_of_lt_of_le hb' HW0_0_s.out))
    have HW0_0_s := Lib.hid (Nat.le_trans HW0_0_s.out hbz.size)
    have HH_0 := Lib.hid (rTell.keep HH_0.out fun b hb' => hbz.block b (Nat.lt_of_lt_of_le hb' HH_0_s.out))
    have HH_0_s := Lib.hid (Nat.le_trans HH_0_s.out hbz.size)
    have OM_0 := Lib.hid (rTell.okeep OM_0.out fun b hb' => hbz.block b (rTell.olt OM_0.out b hb'))
    have KP_t := Lib.hid (KP_t.out.bel hbz)
    have KW_0 := Lib.hid (KW_0.out.bel hbz)
    have KX_t := Lib.hid (KX_t.out.bel hbz)
    have KG_0 := Lib.hid (KG_0.out.bel hbz)
    have KH_0 := Lib.hid (KH_0.out.bel hbz)
    have HT53 := Lib.hid (below_step HT50.out hbz)
    clear hbz
    go_wp2
    go_ret
    exact ⟨rfl, HT53.out⟩
end Go.Proofs.Ytaepohocabealaa

/-
  The statement of FnExactSettleTell: for every input the law returns true, and every argument reads afterwards as it read before. No conditions.
-/
namespace Go.Proofs.Ytaepohocabealaa.fnExactSettleTell
open Go.ChangeShapes Go.WideShapes Go.ChangeAt Go.RowKit
open Go.ChangeMaps (open_string shut_string)
set_option linter.unusedVariables false

theorem own : ownKnob Try.prog.godebug = none := by kernel_rfl
theorem laidOut : laidOutB Try.prog = true := by kernel_rfl

set_option maxRecDepth 100000 in
theorem lifted (os : Os) (started : os.Started) (H : Type) (enc : TypeId × Value → H) :
    ReturnsInHanded {} Try.checked os 6 .any (Rows.fnExactSettleTellSpec.pre6 enc Try.prog Try.f6 Rows.fnExactSettleTellRow.domain false) (Rows.fnExactSettleTellSpec.post enc Try.prog Try.f6 false true false false) := by
  refine returnsInHanded_of_change (C := Try.checked) own started (by kernel_rfl) Try.func6
    (ChangeSpec.witness6 (enc := enc) (C := Try.checked) false ⟨#[], #[.agg #[.slice none 0 0, .slice none 0 0, .slice none 0 0, .slice none 0 0, .slice none 0 0]], []⟩ 8 (by kernel_rfl) (by kernel_rfl) (by kernel_rfl) (by kernel_rfl)) ?_
  intro W base args ds gs before hval0 hW hcnd _
  have hval : ∀ (j : Nat) t v, Try.f6.params[j]? = some t → args[j]? = some v → Value.okWide Try.prog W .any base t v := hval0
  have hW' := hW
  obtain ⟨p, q, hA0, hV, rfl, hfz, hnd⟩ := hW
  have hA : DataW.TrodAll enc Try.prog W 0 (fun _ => true) true Try.f6.params.toList args.toList ds p := hA0
  rw [Try.params6] at hA hval
  obtain ⟨v0, vs0, d0, ds0, p0, q0, hargs, rfl, rfl, h0, r0⟩ := trodAll_cons hA
  obtain ⟨rfl, rfl, rfl⟩ := trodAll_nil r0
  obtain rfl : args = #[v0] := by cases args; simp_all
  obtain ⟨rfl, rfl⟩ := trodVars_none hV
  have k0 := h0
  have lt0 : ∀ x ∈ p0, x.block < W.heap.size := by obtain ⟨m, hm⟩ := k0; exact DataW.trod_lt m _ _ _ hm
  obtain ⟨cs0, a0, rfl, w0⟩ := Mm.open_st opens_Tell Try.underlying74 (hval 0 74 v0 rfl rfl) h0
  clear hA0 hval0
  refine (walk_FnExactSettleTell cs0 a0 W w0).mono fun e W' ⟨he, bel⟩ => ?_
  subst he
  exact ⟨_, rfl, _, _, _, [], _, [], hW', trodAll_mk1 (shut_bool Try.underlying4 _), (trodAll_cons_mk (Below.trod laidOut (by kernel_rfl) (of_decide_eq_true (by kernel_rfl)) k0 bel lt0) trodAll_mk0), rfl, bel.frame _, fun h => by cases h⟩

theorem over : Rows.fnExactSettleTellRow.holds Try.pinned (OpenSpec.ofChange Rows.fnExactSettleTellSpec) :=
  OpenClaim.holds_of_wide 6 Try.f6 rfl rfl rfl rfl rfl rfl rfl ⟨rfl, rfl, rfl, rfl, rfl⟩ rfl rfl rfl rfl rfl (by kernel_rfl) Try.func6 (by kernel_rfl)
    (of_decide_eq_true (by kernel_rfl)) (by unfold Func.isWrapper; first | (rw [if_pos (by decide +kernel)]; kernel_rfl) | (rw [if_neg (by decide +kernel)]; exact ⟨rfl, rfl⟩))
    (fun os started H enc _ => lifted os started H enc)

theorem proved : Rows.FnExactSettleTellSaid := over
#print axioms proved
end Go.Proofs.Ytaepohocabealaa.fnExactSettleTell
