/-
  Joined texts, in build order: LwAskHouse. Each part says what it proves; no conditions beyond those that a part names.
-/
import Derived.Test.YtbhmdnjammnlnaaGreatDoorZ07
import Derived.Test.YtbhmdnjammnlnaaGreatDoorZ08
set_option linter.unusedVariables false
set_option linter.unusedSimpArgs false
/-
  The walk of the law on AskHouse. No conditions.
-/
namespace Go.Proofs.YtbhmdnjammnlnaaGreatDoor
open Go.RowKit
theorem cntL_leQ {α : Type} {f : α → Int} {c : Int} (h : ∀ x, f x ≤ c) : ∀ l : List α, Mm.cntL f l ≤ c * (l.length : Int)
  | [] => by simp [Mm.cntL]
  | x :: t => by
    have h1 := cntL_leQ h t
    have h2 := h x
    rw [Mm.cntL_cons, List.length_cons]
    have : c * ((t.length + 1 : Nat) : Int) = c * (t.length : Int) + c := by push_cast; rw [Int.mul_add, Int.mul_one]
    omega
theorem ask_cnt {b : Bool} {h : House} (hb : b = true ↔ Pl.HouseOk h) (s : ByteArray) (wait : Int) : Mm.cntL Pl.cntSample (Pl.askOf b h s wait).1 ≤ 50000000 := by
  have h1 := cntL_leQ (f := Pl.cntSample) (c := 2) (fun x => by unfold Pl.cntSample; omega) (Pl.askOf b h s wait).1
  have h2 := Pl.askOf_len hb s wait
  omega
set_option maxRecDepth 100000 in
set_option maxHeartbeats 4000000 in
theorem walk_FnExactAskHouse (cs_h : List Value) (h : House) (name : ByteArray) (hsname : name.size ≤ maxLen) (wait : Int) (_wwait : (Lit.int .i64 wait).wf = true) (w : World) (tb : Tabs w) (r_h : rHouse.at_ w w.heap.size h cs_h) :
    Calls Tryz.prog 7 #[.agg cs_h.toArray, .string name, .int .i64 wait] w fun e w' => e = .returned (.bool true) ∧ Below w.heap.size w w' := by
  have HTB : Hid (Tab w.heap.size w) := Tab.of tb
  clear tb
  obtain ⟨bo, hbo⟩ := exists_bool (Pl.HouseOk h)
  have HBO := Lib.hid hbo
  clear hbo
  have hsname' := hsname
  unfold maxLen at hsname'
  have hopen_h := rHouse_at r_h
  obtain ⟨A0_h, n0_h, c0_h, A1_h, n1_h, c1_h, A2_h, n2_h, c2_h, rfl, -⟩ := hopen_h
  have zn_h := Pl.szHouse_nn h
  have HT0 := Lib.hid (show Below w.heap.size w (w.alloc (.cells #[.slice A0_h n0_h c0_h, .slice A1_h n1_h c1_h, .slice A2_h n2_h c2_h] 43)) from (below_new (Below.refl w.heap.size w) _))
  have KP_h := Lib.hid (show Mm.Blk (w.alloc (.cells #[.slice A0_h n0_h c0_h, .slice A1_h n1_h c1_h, .slice A2_h n2_h c2_h] 43)) w.heap.size 43 [.slice A0_h n0_h c0_h, .slice A1_h n1_h c1_h, .slice A2_h n2_h c2_h] from (Mm.Blk.new' w 43 [.slice A0_h n0_h c0_h, .slice A1_h n1_h c1_h, .slice A2_h n2_h c2_h] rfl))
  have HR_h := Lib.hid (rHouse.keep r_h fun b hb' => HT0.out.block b hb')
  have HB_h := Lib.hid HT0.out.size
  clear r_h
  by_cases t_name : (1048576 : Int) < (name.size : Int)
  · skip
    go_enter Tryz.func7, Tryz.ntmps7
    go_wp2
    go_ret
    exact ⟨rfl, HT0.out⟩
  · skip
    by_cases t_h : (1048576 - Pl.szHouse h : Int) < 0
    · skip
      go_enter Tryz.func7, Tryz.ntmps7
      go_wp2_with fail
      refine (szHouse_at h _ _ _ w.heap.size HR_h.out HB_h.out (by omega) (by omega)).mono ?_
      rintro e y1 ⟨rfl, hbz⟩
      rw [Pl.szRet_lt (by omega)]
      have HR_h := Lib.hid (rHouse.keep HR_h.out fun b hb' => hbz.block b (Nat.lt_of_lt_of_le hb' HB_h.out))
      have HB_h := Lib.hid (Nat.le_trans HB_h.out hbz.size)
      have KP_h := Lib.hid (KP_h.out.bel hbz)
      have HT2 := Lib.hid (below_step HT0.out hbz)
      clear hbz
      go_wp2
      go_ret
      exact ⟨rfl, HT2.out⟩
    · skip
      go_enter Tryz.func7, Tryz.ntmps7
      go_wp2_with fail
      refine (szHouse_at h _ _ _ w.heap.size HR_h.out HB_h.out (by omega) (by omega)).mono ?_
      rintro e y3 ⟨rfl, hbz⟩
      rw [Pl.szRet_ge (by omega)]
      have HR_h := Lib.hid (rHouse.keep HR_h.out fun b hb' => hbz.block b (Nat.lt_of_lt_of_le hb' HB_h.out))
      have HB_h := Lib.hid (Nat.le_trans HB_h.out hbz.size)
      have KP_h := Lib.hid (KP_h.out.bel hbz)
      have HT4 := Lib.hid (below_step HT0.out hbz)
      clear hbz
      have c5_KP_h_0 := KP_h.out.cell (i := 0) rfl
      have c5_KP_h_1 := KP_h.out.cell (i := 1) rfl
      have c5_KP_h_2 := KP_h.out.cell (i := 2) rfl
      go_wp2_with fail
      refine (toHouse_at h _ _ w.heap.size HR_h.out HB_h.out (by omega)).mono ?_
      rintro e v6 ⟨cs6, fp6, rfl, ho6, hnd6, hf6, hbz⟩
      obtain ⟨A0_6, n0_6, c0_6, A1_6, n1_6, c1_6, A2_6, n2_6, c2_6, _, _, _, rfl, -⟩ := rHouse_own ho6
      have HR_h := Lib.hid (rHouse.keep HR_h.out fun b hb' => hbz.block b (Nat.lt_of_lt_of_le hb' HB_h.out))
      have HB_h := Lib.hid (Nat.le_trans HB_h.out hbz.size)
      have KP_h := Lib.hid (KP_h.out.bel hbz)
      have HT7 := Lib.hid (below_step HT4.out hbz)
      have HXs_h := Lib.hid (rHouse.weak ho6 (B := v6.heap.size) (rHouse.olt ho6))
      have HXs_h_s := Lib.hid (Nat.le_refl v6.heap.size)
      clear ho6 hnd6 hf6
      clear hbz
      go_wp2_with fail
      refine (specAskHouse_c h bo HBO.out (by omega) _ name wait _ _ (rHouse.more HXs_h.out HXs_h_s.out) (Nat.le_refl _) hsname).mono ?_
      rintro e v8 ⟨A8_0, n8_0, c8_0, fp8_0, rfl, hS8⟩
      have hbz := hS8.bel0
      have ho8_0 : Mm.SlOwn smp 124 v8 ((Pl.askOf bo h name wait).1) (.slice A8_0 n8_0 c8_0) fp8_0 := hS8.at_ 0 rfl
      have hnd8_0 := hS8.ndat (i := 0) rfl
      have hf8_0 : ∀ b, b ∈ fp8_0 → _ ≤ b := fun b hb' => (hS8.new b (Mm.SepF.mem (i := 0) rfl hb')).resolve_left (fun hh => by cases hh)
      clear hS8
      have HR_h := Lib.hid (rHouse.keep HR_h.out fun b hb' => hbz.block b (Nat.lt_of_lt_of_le hb' HB_h.out))
      have HB_h := Lib.hid (Nat.le_trans HB_h.out hbz.size)
      have HXs_h := Lib.hid (rHouse.keep HXs_h.out fun b hb' => hbz.block b (Nat.lt_of_lt_of_le hb' HXs_h_s.out))
      have HXs_h_s := Lib.hid (Nat.le_trans HXs_h_s.out hbz.size)
      have KP_h := Lib.hid (KP_h.out.bel hbz)
      have HT9 := Lib.hid (below_step HT7.out hbz)
      have HW0_0 := Lib.hid (ho8_0.weak (B := v8.heap.size) ho8_0.olt)
      have HW0_0_s := Lib.hid (Nat.le_refl v8.heap.size)
      clear ho8_0 hnd8_0 hf8_0
      clear hbz
      have c10_KP_h_0 := KP_h.out.cell (i := 0) rfl
      have c10_KP_h_1 := KP_h.out.cell (i := 1) rfl
      have c10_KP_h_2 := KP_h.out.cell (i := 2) rfl
      go_wp2_with fail
      refine (toHouse_at h _ _ w.heap.size HR_h.out HB_h.out (by omega)).mono ?_
      rintro e v11 ⟨cs11, fp11, rfl, ho11, hnd11, hf11, hbz⟩
      obtain ⟨A0_11, n0_11, c0_11, A1_11, n1_11, c1_11, A2_11, n2_11, c2_11, _, _, _, rfl, -⟩ := rHouse_own ho11
      have AP11_HR_h := Lib.hid (show ∀ b, b ∈ fp11 → w.heap.size ≤ b from fun b hb' => Nat.le_trans HB_h.out (hf11 b hb'))
      have AP11_HW0_0 := Lib.hid (show ∀ b, b ∈ fp11 → v8.heap.size ≤ b from fun b hb' => Nat.le_trans HW0_0_s.out (hf11 b hb'))
      have NB11_KP_h := Lib.hid (show ¬ w.heap.size ∈ fp11 from fun hm => by have := KP_h.out.lt; have := hf11 _ hm; omega)
      have FR11 := Lib.hid (show ∀ b, b ∈ fp11 → w.heap.size ≤ b from fun b hb' => Nat.le_trans HT9.out.size (hf11 b hb'))
      have ND11 := Lib.hid hnd11
      have LT11 := Lib.hid (show ∀ b, b ∈ fp11 → b < v11.heap.size from rHouse.olt ho11)
      have HR_h := Lib.hid (rHouse.keep HR_h.out fun b hb' => hbz.block b (Nat.lt_of_lt_of_le hb' HB_h.out))
      have HB_h := Lib.hid (Nat.le_trans HB_h.out hbz.size)
      have HW0_0 := Lib.hid (HW0_0.out.keep fun b hb' => hbz.block b (Nat.lt_of_lt_of_le hb' HW0_0_s.out))
      have HW0_0_s := Lib.hid (Nat.le_trans HW0_0_s.out hbz.size)
      have KP_h := Lib.hid (KP_h.out.bel hbz)
      have HT12 := Lib.hid (below_step HT9.out hbz)
      have HXx_h := Lib.hid (rHouse.weak ho11 (B := v11.heap.size) (rHouse.olt ho11))
      have HXx_h_s := Lib.hid (Nat.le_refl v11.heap.size)
      have OX_h := Lib.hid ho11
      clear ho11 hnd11 hf11
      clear hbz
      have NIKX_h_fp11 := Lib.hid (show ¬ v11.heap.size ∈ fp11 from fun hm => Nat.lt_irrefl _ (rHouse.olt OX_h.out _ hm))
      have hbx : Below v11.heap.size v11 (v11.alloc (.cells #[.slice A0_11 n0_11 c0_11, .slice A1_11 n1_11 c1_11, .slice A2_11 n2_11 c2_11] 27)) := below_new (Below.refl _ _) _
      have HR_h := Lib.hid (rHouse.keep HR_h.out fun b hb' => hbx.block b (Nat.lt_of_lt_of_le hb' HB_h.out))
      have HB_h := Lib.hid (Nat.le_trans HB_h.out hbx.size)
      have HW0_0 := Lib.hid (HW0_0.out.keep fun b hb' => hbx.block b (Nat.lt_of_lt_of_le hb' HW0_0_s.out))
      have HW0_0_s := Lib.hid (Nat.le_trans HW0_0_s.out hbx.size)
      have HXx_h := Lib.hid (rHouse.keep HXx_h.out fun b hb' => hbx.block b (Nat.lt_of_lt_of_le hb' HXx_h_s.out))
      have HXx_h_s := Lib.hid (Nat.le_trans HXx_h_s.out hbx.size)
      have OX_h := Lib.hid (rHouse.okeep OX_h.out fun b hb' => hbx.block b (rHouse.olt OX_h.out b hb'))
      have KP_h := Lib.hid (KP_h.out.bel hbx)
      have HT13 := Lib.hid (below_step HT12.out hbx)
      clear hbx
      have KX_h := Lib.hid (Mm.Blk.new v11 27 [.slice A0_11 n0_11 c0_11, .slice A1_11 n1_11 c1_11, .slice A2_11 n2_11 c2_11])
      have c14_KX_h_0 := KX_h.out.cell (i := 0) rfl
      have c14_KX_h_1 := KX_h.out.cell (i := 1) rfl
      have c14_KX_h_2 := KX_h.out.cell (i := 2) rfl
      go_wp2_with fail
      refine (implAskHouse_c h bo HBO.out w.heap.size _ name wait _ _ (rHouse.more HXx_h.out HXx_h_s.out) (Nat.le_refl _) (HTB.out.on HT13.out) hsname).mono ?_
      rintro e v15 ⟨A15_0, n15_0, c15_0, fp15_0, rfl, hS15⟩
      have hbz := hS15.bel0
      have ho15_0 : Mm.SlOwn smp 124 v15 ((Pl.askOf bo h name wait).1) (.slice A15_0 n15_0 c15_0) fp15_0 := hS15.at_ 0 rfl
      have hnd15_0 := hS15.ndat (i := 0) rfl
      have hf15_0 : ∀ b, b ∈ fp15_0 → _ ≤ b := fun b hb' => (hS15.new b (Mm.SepF.mem (i := 0) rfl hb')).resolve_left (fun hh => by cases hh)
      clear hS15
      have AP15_0_HR_h := Lib.hid (show ∀ b, b ∈ fp15_0 → w.heap.size ≤ b from fun b hb' => Nat.le_trans HB_h.out (hf15_0 b hb'))
      have AP15_0_HW0_0 := Lib.hid (show ∀ b, b ∈ fp15_0 → v8.heap.size ≤ b from fun b hb' => Nat.le_trans HW0_0_s.out (hf15_0 b hb'))
      have AP15_0_HXx_h := Lib.hid (show ∀ b, b ∈ fp15_0 → v11.heap.size ≤ b from fun b hb' => Nat.le_trans HXx_h_s.out (hf15_0 b hb'))
      have DP15_0_OX_h := Lib.hid (show ∀ b, b ∈ fp15_0 → b ∉ fp11 from fun b hb' hm => by have := rHouse.olt OX_h.out b hm; have := hf15_0 b hb'; omega)
      have NB15_0_KP_h := Lib.hid (show ¬ w.heap.size ∈ fp15_0 from fun hm => by have := KP_h.out.lt; have := hf15_0 _ hm; omega)
      have NB15_0_KX_h := Lib.hid (show ¬ v11.heap.size ∈ fp15_0 from fun hm => by have := KX_h.out.lt; have := hf15_0 _ hm; omega)
      have FR15_0 := Lib.hid (show ∀ b, b ∈ fp15_0 → w.heap.size ≤ b from fun b hb' => Nat.le_trans HT13.out.size (hf15_0 b hb'))
      have ND15_0 := Lib.hid hnd15_0
      have LT15_0 := Lib.hid (show ∀ b, b ∈ fp15_0 → b < v15.heap.size from ho15_0.olt)
      have HR_h := Lib.hid (rHouse.keep HR_h.out fun b hb' => hbz.block b (Nat.lt_of_lt_of_le hb' HB_h.out))
      have HB_h := Lib.hid (Nat.le_trans HB_h.out hbz.size)
      have HW0_0 := Lib.hid (HW0_0.out.keep fun b hb' => hbz.block b (Nat.lt_of_lt_of_le hb' HW0_0_s.out))
      have HW0_0_s := Lib.hid (Nat.le_trans HW0_0_s.out hbz.size)
      have HXx_h := Lib.hid (rHouse.keep HXx_h.out fun b hb' => hbz.block b (Nat.lt_of_lt_of_le hb' HXx_h_s.out))
      have HXx_h_s := Lib.hid (Nat.le_trans HXx_h_s.out hbz.size)
      have OX_h := Lib.hid (rHouse.okeep OX_h.out fun b hb' => hbz.block b (rHouse.olt OX_h.out b hb'))
      have KP_h := Lib.hid (KP_h.out.bel hbz)
      have KX_h := Lib.hid (KX_h.out.bel hbz)
      have HT16 := Lib.hid (below_step HT13.out hbz)
      have OG_0 := Lib.hid ho15_0
      clear ho15_0 hnd15_0 hf15_0
      clear hbz
      go_wp2_with fail
      refine (eqSampleS_c ((Pl.askOf bo h name wait).1) _ _ _ _ _ _ _ _ (OG_0.out.weak (B := _) OG_0.out.olt) (HW0_0.out.more HW0_0_s.out) (Nat.le_refl _)).mono ?_
      rintro e v17 ⟨rfl, hbz⟩
      have HR_h := Lib.hid (rHouse.keep HR_h.out fun b hb' => hbz.block b (Nat.lt_of_lt_of_le hb' HB_h.out))
      have HB_h := Lib.hid (Nat.le_trans HB_h.out hbz.size)
      have HW0_0 := Lib.hid (HW0_0.out.keep fun b hb' => hbz.block b (Nat.lt_of_lt_of_le hb' HW0_0_s.out))
      have HW0_0_s := Lib.hid (Nat.le_trans HW0_0_s.out hbz.size)
      have HXx_h := Lib.hid (rHouse.keep HXx_h.out fun b hb' => hbz.block b (Nat.lt_of_lt_of_le hb' HXx_h_s.out))
      have HXx_h_s := Lib.hid (Nat.le_trans HXx_h_s.out hbz.size)
      have OX_h := Lib.hid (rHouse.okeep OX_h.out fun b hb' => hbz.block b (rHouse.olt OX_h.out b hb'))
      have OG_0 := Lib.hid (OG_0.out.okeep fun b hb' => hbz.block b (OG_0.out.olt b hb'))
      have KP_h := Lib.hid (KP_h.out.bel hbz)
      have KX_h := Lib.hid (KX_h.out.bel hbz)
      have HT18 := Lib.hid (below_step HT16.out hbz)
      clear hbz
      have c19_KP_h_0 := KP_h.out.cell (i := 0) rfl
      have c19_KP_h_1 := KP_h.out.cell (i := 1) rfl
      have c19_KP_h_2 := KP_h.out.cell (i := 2) rfl
      have c19_KX_h_0 := KX_h.out.cell (i := 0) rfl
      have c19_KX_h_1 := KX_h.out.cell (i := 1) rfl
      have c19_KX_h_2 := KX_h.out.cell (i := 2) rfl
      go_wp2_with fail
      have hdr := (Below.refl v17.heap.size v17).drew
      have HR_h := Lib.hid (rHouse.keep HR_h.out fun b hb' => hdr.block b (Nat.lt_of_lt_of_le hb' HB_h.out))
      have HB_h := Lib.hid (Nat.le_trans HB_h.out hdr.size)
      have HW0_0 := Lib.hid (HW0_0.out.keep fun b hb' => hdr.block b (Nat.lt_of_lt_of_le hb' HW0_0_s.out))
      have HW0_0_s := Lib.hid (Nat.le_trans HW0_0_s.out hdr.size)
      have HXx_h := Lib.hid (rHouse.keep HXx_h.out fun b hb' => hdr.block b (Nat.lt_of_lt_of_le hb' HXx_h_s.out))
      have HXx_h_s := Lib.hid (Nat.le_trans HXx_h_s.out hdr.size)
      have OX_h := Lib.hid (rHouse.okeep OX_h.out fun b hb' => hdr.block b (rHouse.olt OX_h.out b hb'))
      have OG_0 := Lib.hid (OG_0.out.okeep fun b hb' => hdr.block b (OG_0.out.olt b hb'))
      have KP_h := Lib.hid (KP_h.out.bel hdr)
      have KX_h := Lib.hid (KX_h.out.bel hdr)
      have HT20 := Lib.hid (below_step HT18.out hdr)
      clear hdr
      have c21_KP_h_0 := KP_h.out.cell (i := 0) rfl
      have c21_KP_h_1 := KP_h.out.cell (i := 1) rfl
      have c21_KP_h_2 := KP_h.out.cell (i := 2) rfl
      have c21_KX_h_0 := KX_h.out.cell (i := 0) rfl
      have c21_KX_h_1 := KX_h.out.cell (i := 1) rfl
      have c21_KX_h_2 := KX_h.out.cell (i := 2) rfl
      go_region_held3 (fun wx => wx.cell? ⟨w.heap.size, 0, none⟩ = some (.slice A0_h n0_h c0_h) ∧ wx.cell? ⟨w.heap.size, 1, none⟩ = some (.slice A1_h n1_h c1_h) ∧ wx.cell? ⟨w.heap.size, 2, none⟩ = some (.slice A2_h n2_h c2_h) ∧ wx.cell? ⟨v11.heap.size, 0, none⟩ = some (.slice A0_11 n0_11 c0_11) ∧ wx.cell? ⟨v11.heap.size, 1, none⟩ = some (.slice A1_11 n1_11 c1_11) ∧ wx.cell? ⟨v11.heap.size, 2, none⟩ = some (.slice A2_11 n2_11 c2_11))
        (first | (go_keep; done) | ((try dsimp only); go_split_ands; refine ⟨?_, ?_, ?_, ?_, ?_, ?_⟩ <;> first | (exact below_some hbz (by assumption)) | (exact (KP_h.out.alloc _).cell (i := 0) rfl) | (exact (KP_h.out.alloc _).cell (i := 1) rfl) | (exact (KP_h.out.alloc _).cell (i := 2) rfl) | (exact (KX_h.out.alloc _).cell (i := 0) rfl) | (exact (KX_h.out.alloc _).cell (i := 1) rfl) | (exact (KX_h.out.alloc _).cell (i := 2) rfl) | (go_keep; done) | (simp [World.cell?_alloc_some, World.cell?_setCell_far, *]; done)))
        (first
          | (go_at_call 24; (with_reducible refine (toHouse_at h _ _ w.heap.size HR_h.out HB_h.out (by omega)).mono ?_); rintro e v22 ⟨cs22, fp22, rfl, ho22, hnd22, hf22, hbz⟩; obtain ⟨A0_22, n0_22, c0_22, A1_22, n1_22, c1_22, A2_22, n2_22, c2_22, _, _, _, rfl, -⟩ := rHouse_own ho22; (have HR_h := Lib.hid (rHouse.keep HR_h.out fun b hb' => hbz.block b (Nat.lt_of_lt_of_le hb' HB_h.out))); (have HB_h := Lib.hid (Nat.le_trans HB_h.out hbz.size)); (have HW0_0 := Lib.hid (HW0_0.out.keep fun b hb' => hbz.block b (Nat.lt_of_lt_of_le hb' HW0_0_s.out))); (have HW0_0_s := Lib.hid (Nat.le_trans HW0_0_s.out hbz.size)); (have HXx_h := Lib.hid (rHouse.keep HXx_h.out fun b hb' => hbz.block b (Nat.lt_of_lt_of_le hb' HXx_h_s.out))); (have HXx_h_s := Lib.hid (Nat.le_trans HXx_h_s.out hbz.size)); (have OX_h := Lib.hid (rHouse.okeep OX_h.out fun b hb' => hbz.block b (rHouse.olt OX_h.out b hb'))); (have OG_0 := Lib.hid (OG_0.out.okeep fun b hb' => hbz.block b (OG_0.out.olt b hb'))); (have KP_h := Lib.hid (KP_h.out.bel hbz)); (have KX_h := Lib.hid (KX_h.out.bel hbz)); (have HT23 := Lib.hid (below_step HT20.out hbz)); (have HXz_h := Lib.hid (rHouse.weak ho22 (B := v22.heap.size) (rHouse.olt ho22))); (have HXz_h_s := Lib.hid (Nat.le_refl v22.heap.size)); clear ho22 hnd22 hf22)
          | (go_at_call 14; (with_reducible refine (eqHouse_at h _ _ _ v22.heap.size (rHouse.more HXx_h.out HXx_h_s.out) HXz_h.out (Nat.le_refl _)).mono ?_); rintro e v24 ⟨rfl, hbz⟩; (have HR_h := Lib.hid (rHouse.keep HR_h.out fun b hb' => hbz.block b (Nat.lt_of_lt_of_le hb' HB_h.out))); (have HB_h := Lib.hid (Nat.le_trans HB_h.out hbz.size)); (have HW0_0 := Lib.hid (HW0_0.out.keep fun b hb' => hbz.block b (Nat.lt_of_lt_of_le hb' HW0_0_s.out))); (have HW0_0_s := Lib.hid (Nat.le_trans HW0_0_s.out hbz.size)); (have HXx_h := Lib.hid (rHouse.keep HXx_h.out fun b hb' => hbz.block b (Nat.lt_of_lt_of_le hb' HXx_h_s.out))); (have HXx_h_s := Lib.hid (Nat.le_trans HXx_h_s.out hbz.size)); (have HXz_h := Lib.hid (rHouse.keep HXz_h.out fun b hb' => hbz.block b (Nat.lt_of_lt_of_le hb' HXz_h_s.out))); (have HXz_h_s := Lib.hid (Nat.le_trans HXz_h_s.out hbz.size)); (have OX_h := Lib.hid (rHouse.okeep OX_h.out fun b hb' => hbz.block b (rHouse.olt OX_h.out b hb'))); (have OG_0 := Lib.hid (OG_0.out.okeep fun b hb' => hbz.block b (OG_0.out.olt b hb'))); (have KP_h := Lib.hid (KP_h.out.bel hbz)); (have KX_h := Lib.hid (KX_h.out.bel hbz)); (have HT25 := Lib.hid (below_step HT23.out hbz))))
      clear hbz
      have hcn_h := Pl.ctopHouse_nn h
      have hcb_h : Pl.ctopHouse h ≤ 50000000 := by have := Pl.ctopbHouse h; omega
      have c27_KX_h_0 := KX_h.out.cell (i := 0) rfl
      have c27_KX_h_1 := KX_h.out.cell (i := 1) rfl
      have c27_KX_h_2 := KX_h.out.cell (i := 2) rfl
      go_wp2_with fail
      refine (markHouse_c h _ _ _ _ OX_h.out ND11.out (by omega) (by omega)).mono ?_
      rintro e v26 ⟨rfl, hch, -⟩
      have HR_h := Lib.hid (rHouse.keep HR_h.out fun b hb' => hch.block b (Nat.lt_of_lt_of_le hb' HB_h.out) (fun hm => by have := AP11_HR_h.out b hm; omega))
      have HB_h := Lib.hid (Nat.le_trans HB_h.out hch.size)
      have HW0_0 := Lib.hid (HW0_0.out.keep fun b hb' => hch.block b (Nat.lt_of_lt_of_le hb' HW0_0_s.out) (fun hm => by have := AP11_HW0_0.out b hm; omega))
      have HW0_0_s := Lib.hid (Nat.le_trans HW0_0_s.out hch.size)
      have OG_0 := Lib.hid (OG_0.out.okeep fun b hb' => hch.block b (OG_0.out.olt b hb') (fun hm => DP15_0_OX_h.out b hb' hm))
      have KP_h := Lib.hid (KP_h.out.keep (hch.block _ KP_h.out.lt (NB11_KP_h.out)))
      have KX_h := Lib.hid (KX_h.out.keep (hch.block _ KX_h.out.lt (NIKX_h_fp11.out)))
      have HT28 := Lib.hid (Mm.Below.chg HT25.out hch HT25.out.size FR11.out)
      clear hch
      go_wp2_with fail
      refine (eqSampleS_c ((Pl.askOf bo h name wait).1) _ _ _ _ _ _ _ _ (OG_0.out.weak (B := _) OG_0.out.olt) (HW0_0.out.more HW0_0_s.out) (Nat.le_refl _)).mono ?_
      rintro e v29 ⟨rfl, hbz⟩
      have HR_h := Lib.hid (rHouse.keep HR_h.out fun b hb' => hbz.block b (Nat.lt_of_lt_of_le hb' HB_h.out))
      have HB_h := Lib.hid (Nat.le_trans HB_h.out hbz.size)
      have HW0_0 := Lib.hid (HW0_0.out.keep fun b hb' => hbz.block b (Nat.lt_of_lt_of_le hb' HW0_0_s.out))
      have HW0_0_s := Lib.hid (Nat.le_trans HW0_0_s.out hbz.size)
      have OG_0 := Lib.hid (OG_0.out.okeep fun b hb' => hbz.block b (OG_0.out.olt b hb'))
      have KP_h := Lib.hid (KP_h.out.bel hbz)
      have KX_h := Lib.hid (KX_h.out.bel hbz)
      have HT30 := Lib.hid (below_step HT28.out hbz)
      clear hbz
      have hcg0 : 0 ≤ (Mm.cntL Pl.cntSample) ((Pl.askOf bo h name wait).1) := Mm.cntL_nn (cnt := Pl.cntSample) (Pl.cntSample_nn) ((Pl.askOf bo h name wait).1)
      have hcgb0 : (Mm.cntL Pl.cntSample) ((Pl.askOf bo h name wait).1) ≤ 50000000 := (ask_cnt HBO.out name wait)
      obtain ⟨cg0, hcge0⟩ : ∃ z, (Mm.cntL Pl.cntSample) ((Pl.askOf bo h name wait).1) = z := ⟨_, rfl⟩
      rw [hcge0] at hcg0 hcgb0
      have HCG0 := Lib.hid hcge0
      clear hcge0
      go_wp2_with fail
      refine (markSampleS_c ((Pl.askOf bo h name wait).1) _ _ _ _ _ _ OG_0.out ND15_0.out (by omega) (by rw [HCG0.out]; omega)).mono ?_
      rintro e v31 ⟨rfl, hch, fpm0, hom, hndm, hsubm⟩
      rw [HCG0.out]
      have HR_h := Lib.hid (rHouse.keep HR_h.out fun b hb' => hch.block b (Nat.lt_of_lt_of_le hb' HB_h.out) (fun hm => by have := AP15_0_HR_h.out b hm; omega))
      have HB_h := Lib.hid (Nat.le_trans HB_h.out hch.size)
      have HW0_0 := Lib.hid (HW0_0.out.keep fun b hb' => hch.block b (Nat.lt_of_lt_of_le hb' HW0_0_s.out) (fun hm => by have := AP15_0_HW0_0.out b hm; omega))
      have HW0_0_s := Lib.hid (Nat.le_trans HW0_0_s.out hch.size)
      have KP_h := Lib.hid (KP_h.out.keep (hch.block _ KP_h.out.lt (NB15_0_KP_h.out)))
      have KX_h := Lib.hid (KX_h.out.keep (hch.block _ KX_h.out.lt (NB15_0_KX_h.out)))
      have HT32 := Lib.hid (Mm.Below.chg HT30.out hch HT30.out.size FR15_0.out)
      clear hch
      have OM_0 := Lib.hid hom
      clear hom hndm hsubm
      go_wp2_with fail
      refine (heldSampleS_c ((Pl.askOf bo h name wait).1) _ _ _ _ _ _ (OM_0.out.weak (B := _) OM_0.out.olt) (Nat.le_refl _) (by omega) (by rw [HCG0.out]; omega)).mono ?_
      rintro e v33 ⟨rfl, hbz⟩
      rw [HCG0.out]
      have HR_h := Lib.hid (rHouse.keep HR_h.out fun b hb' => hbz.block b (Nat.lt_of_lt_of_le hb' HB_h.out))
      have HB_h := Lib.hid (Nat.le_trans HB_h.out hbz.size)
      have HW0_0 := Lib.hid (HW0_0.out.keep fun b hb' => hbz.block b (Nat.lt_of_lt_of_le hb' HW0_0_s.out))
      have HW0_0_s := Lib.hid (Nat.le_trans HW0_0_s.out hbz.size)
      have OM_0 := Lib.hid (OM_0.out.okeep fun b hb' => hbz.block b (OM_0.out.olt b hb'))
      have KP_h := Lib.hid (KP_h.out.bel hbz)
      have KX_h := Lib.hid (KX_h.out.bel hbz)
      have HT34 := Lib.hid (below_step HT32.out hbz)
      clear hbz
      have c35_KP_h_0 := KP_h.out.cell (i := 0) rfl
      have c35_KP_h_1 := KP_h.out.cell (i := 1) rfl
      have c35_KP_h_2 := KP_h.out.cell (i := 2) rfl
      go_wp2_with fail
      refine (toHouse_at h _ _ w.heap.size HR_h.out HB_h.out (by omega)).mono ?_
      rintro e v36 ⟨cs36, fp36, rfl, ho36, hnd36, hf36, hbz⟩
      obtain ⟨A0_36, n0_36, c0_36, A1_36, n1_36, c1_36, A2_36, n2_36, c2_36, _, _, _, rfl, -⟩ := rHouse_own ho36
      have HR_h := Lib.hid (rHouse.keep HR_h.out fun b hb' => hbz.block b (Nat.lt_of_lt_of_le hb' HB_h.out))
      have HB_h := Lib.hid (Nat.le_trans HB_h.out hbz.size)
      have HW0_0 := Lib.hid (HW0_0.out.keep fun b hb' => hbz.block b (Nat.lt_of_lt_of_le hb' HW0_0_s.out))
      have HW0_0_s := Lib.hid (Nat.le_trans HW0_0_s.out hbz.size)
      have OM_0 := Lib.hid (OM_0.out.okeep fun b hb' => hbz.block b (OM_0.out.olt b hb'))
      have KP_h := Lib.hid (KP_h.out.bel hbz)
      have KX_h := Lib.hid (KX_h.out.bel hbz)
      have HT37 := Lib.hid (below_step HT34.out hbz)
      have HXh_h := Lib.hid (rHouse.weak ho36 (B := v36.heap.size) (rHouse.olt ho36))
      have HXh_h_s := Lib.hid (Nat.le_refl v36.heap.size)
      clear ho36 hnd36 hf36
      clear hbz
      go_wp2_with fail
      refine (implAskHouse_c h bo HBO.out w.heap.size _ name wait _ _ (rHouse.more HXh_h.out HXh_h_s.out) (Nat.le_refl _) (HTB.out.on HT37.out) hsname).mono ?_
      rintro e v38 ⟨A38_0, n38_0, c38_0, fp38_0, rfl, hS38⟩
      have hbz := hS38.bel0
      have ho38_0 : Mm.SlOwn smp 124 v38 ((Pl.askOf bo h name wait).1) (.slice A38_0 n38_0 c38_0) fp38_0 := hS38.at_ 0 rfl
      have hnd38_0 := hS38.ndat (i := 0) rfl
      have hf38_0 : ∀ b, b ∈ fp38_0 → _ ≤ b := fun b hb' => (hS38.new b (Mm.SepF.mem (i := 0) rfl hb')).resolve_left (fun hh => by cases hh)
      clear hS38
      have HR_h := Lib.hid (rHouse.keep HR_h.out fun b hb' => hbz.block b (Nat.lt_of_lt_of_le hb' HB_h.out))
      have HB_h := Lib.hid (Nat.le_trans HB_h.out hbz.size)
      have HW0_0 := Lib.hid (HW0_0.out.keep fun b hb' => hbz.block b (Nat.lt_of_lt_of_le hb' HW0_0_s.out))
      have HW0_0_s := Lib.hid (Nat.le_trans HW0_0_s.out hbz.size)
      have HXh_h := Lib.hid (rHouse.keep HXh_h.out fun b hb' => hbz.block b (Nat.lt_of_lt_of_le hb' HXh_h_s.out))
      have HXh_h_s := Lib.hid (Nat.le_trans HXh_h_s.out hbz.size)
      have OM_0 := Lib.hid (OM_0.out.okeep fun b hb' => hbz.block b (OM_0.out.olt b hb'))
      have KP_h := Lib.hid (KP_h.out.bel hbz)
      have KX_h := Lib.hid (KX_h.out.bel hbz)
      have HT39 := Lib.hid (below_step HT37.out hbz)
      have HH_0 := Lib.hid (ho38_0.weak (B := v38.heap.size) ho38_0.olt)
      have HH_0_s := Lib.hid (Nat.le_refl v38.heap.size)
      clear ho38_0 hnd38_0 hf38_0
      clear hbz
      have c40_KP_h_0 := KP_h.out.cell (i := 0) rfl
      have c40_KP_h_1 := KP_h.out.cell (i := 1) rfl
      have c40_KP_h_2 := KP_h.out.cell (i := 2) rfl
      have c40_KX_h_0 := KX_h.out.cell (i := 0) rfl
      have c40_KX_h_1 := KX_h.out.cell (i := 1) rfl
      have c40_KX_h_2 := KX_h.out.cell (i := 2) rfl
      go_wp2_with fail
      refine (eqSampleS_c ((Pl.askOf bo h name wait).1) _ _ _ _ _ _ _ _ (HH_0.out.more HH_0_s.out) (HW0_0.out.more HW0_0_s.out) (Nat.le_refl _)).mono ?_
      rintro e v41 ⟨rfl, hbz⟩
      have HR_h := Lib.hid (rHouse.keep HR_h.out fun b hb' => hbz.block b (Nat.lt_of_lt_of_le hb' HB_h.out))
      have HB_h := Lib.hid (Nat.le_trans HB_h.out hbz.size)
      have HW0_0 := Lib.hid (HW0_0.out.keep fun b hb' => hbz.block b (Nat.lt_of_lt_of_le hb' HW0_0_s.out))
      have HW0_0_s := Lib.hid (Nat.le_trans HW0_0_s.out hbz.size)
      have HH_0 := Lib.hid (HH_0.out.keep fun b hb' => hbz.block b (Nat.lt_of_lt_of_le hb' HH_0_s.out))
      have HH_0_s := Lib.hid (Nat.le_trans HH_0_s.out hbz.size)
      have OM_0 := Lib.hid (OM_0.out.okeep fun b hb' => hbz.block b (OM_0.out.olt b hb'))
      have KP_h := Lib.hid (KP_h.out.bel hbz)
      have KX_h := Lib.hid (KX_h.out.bel hbz)
      have HT42 := Lib.hid (below_step HT39.out hbz)
      clear hbz
      go_wp2_with fail
      refine (heldSampleS_c ((Pl.askOf bo h name wait).1) _ _ _ _ _ _ (OM_0.out.weak (B := _) OM_0.out.olt) (Nat.le_refl _) (by omega) (by rw [HCG0.out]; omega)).mono ?_
      rintro e v43 ⟨rfl, hbz⟩
      rw [HCG0.out]
      have HR_h := Lib.hid (rHouse.keep HR_h.out fun b hb' => hbz.block b (Nat.lt_of_lt_of_le hb' HB_h.out))
      have HB_h := Lib.hid (Nat.le_trans HB_h.out hbz.size)
      have HW0_0 := Lib.hid (HW0_0.out.keep fun b hb' => hbz.block b (Nat.lt_of_lt_of_le hb' HW0_0_s.out))
      have HW0_0_s := Lib.hid (Nat.le_trans HW0_0_s.out hbz.size)
      have HH_0 := Lib.hid (HH_0.out.keep fun b hb' => hbz.block b (Nat.lt_of_lt_of_le hb' HH_0_s.out))
      have HH_0_s := Lib.hid (Nat.le_trans HH_0_s.out hbz.size)
      have OM_0 := Lib.hid (OM_0.out.okeep fun b hb' => hbz.block b (OM_0.out.olt b hb'))
      have KP_h := Lib.hid (KP_h.out.bel hbz)
      have KX_h := Lib.hid (KX_h.out.bel hbz)
      have HT44 := Lib.hid (below_step HT42.out hbz)
      clear hbz
      go_wp2
      go_ret
      exact ⟨rfl, HT44.out⟩
end Go.Proofs.YtbhmdnjammnlnaaGreatDoor

