/-
  Joined texts, in build order: LwGoodHouse, LawGoodHouse. Each part says what it proves; no conditions beyond those that a part names.
-/
import Derived.Test.YtbhmdnjammnlnaaGreatDoorZ09
import Derived.Test.YtbhmdnjammnlnaaGreatDoorZ10
import Derived.Test.YtbhmdnjammnlnaaGreatDoorRows
import Derived.WalkKit
import Derived.ProofKit
import Derived.OpenShut
import Derived.ShutString
import Derived.ChangeOld
import Derived.Below
import Derived.Test.YtbhmdnjammnlnaaGreatDoorTie
import Derived.Test.YtbhmdnjammnlnaaGreatDoorCards
import Derived.SevenTiedAt
/-
  The walk of the law on GoodHouse. No conditions.
-/
namespace Go.Proofs.YtbhmdnjammnlnaaGreatDoor
open Go.RowKit
set_option maxRecDepth 100000 in
set_option maxHeartbeats 4000000 in
theorem walk_FnExactGoodHouse (cs_h : List Value) (h : House) (w : World) (tb : Tabs w) (r_h : rHouse.at_ w w.heap.size h cs_h) :
    Calls Tryz.prog 4 #[.agg cs_h.toArray] w fun e w' => e = .returned (.bool true) ∧ Below w.heap.size w w' := by
  have HTB : Hid (Tab w.heap.size w) := Tab.of tb
  clear tb
  obtain ⟨bo, hbo⟩ := exists_bool (Pl.HouseOk h)
  have HBO := Lib.hid hbo
  clear hbo
  have hopen_h := rHouse_at r_h
  obtain ⟨A0_h, n0_h, c0_h, A1_h, n1_h, c1_h, A2_h, n2_h, c2_h, rfl, -⟩ := hopen_h
  have zn_h := Pl.szHouse_nn h
  have HT0 := Lib.hid (show Below w.heap.size w (w.alloc (.cells #[.slice A0_h n0_h c0_h, .slice A1_h n1_h c1_h, .slice A2_h n2_h c2_h] 43)) from (below_new (Below.refl w.heap.size w) _))
  have KP_h := Lib.hid (show Mm.Blk (w.alloc (.cells #[.slice A0_h n0_h c0_h, .slice A1_h n1_h c1_h, .slice A2_h n2_h c2_h] 43)) w.heap.size 43 [.slice A0_h n0_h c0_h, .slice A1_h n1_h c1_h, .slice A2_h n2_h c2_h] from (Mm.Blk.new' w 43 [.slice A0_h n0_h c0_h, .slice A1_h n1_h c1_h, .slice A2_h n2_h c2_h] rfl))
  have HR_h := Lib.hid (rHouse.keep r_h fun b hb' => HT0.out.block b hb')
  have HB_h := Lib.hid HT0.out.size
  clear r_h
  by_cases t_h : (1048576 - Pl.szHouse h : Int) < 0
  · skip
    go_enter Tryz.func4, Tryz.ntmps4
    go_wp2_with fail
    refine (szHouse_at h _ _ _ w.heap.size HR_h.out HB_h.out (by omega) (by omega)).mono ?_
    rintro e y1 ⟨rfl, hbz⟩
    rw [Pl.szRet_lt (by omega)]
    have HR_h := Lib.hid (rHouse.keep HR_h.out fun b hb' => hbz.block b (Nat.lt_of_lt_of_le hb' HB_h.out))
    have HB_h := Lib.hid (Nat.le_trans HB_h.out hbz.size)
    have KP_h := Lib.hid (KP_h.out.bel hbz)
    have HT2 := Lib.hid (below_step HT0.out hbz)
    clear hbz
    go_wp2
    go_ret
    exact ⟨rfl, HT2.out⟩
  · skip
    go_enter Tryz.func4, Tryz.ntmps4
    go_wp2_with fail
    refine (szHouse_at h _ _ _ w.heap.size HR_h.out HB_h.out (by omega) (by omega)).mono ?_
    rintro e y3 ⟨rfl, hbz⟩
    rw [Pl.szRet_ge (by omega)]
    have HR_h := Lib.hid (rHouse.keep HR_h.out fun b hb' => hbz.block b (Nat.lt_of_lt_of_le hb' HB_h.out))
    have HB_h := Lib.hid (Nat.le_trans HB_h.out hbz.size)
    have KP_h := Lib.hid (KP_h.out.bel hbz)
    have HT4 := Lib.hid (below_step HT0.out hbz)
    clear hbz
    have c5_KP_h_0 := KP_h.out.cell (i := 0) rfl
    have c5_KP_h_1 := KP_h.out.cell (i := 1) rfl
    have c5_KP_h_2 := KP_h.out.cell (i := 2) rfl
    go_wp2_with fail
    refine (toHouse_at h _ _ w.heap.size HR_h.out HB_h.out (by omega)).mono ?_
    rintro e v6 ⟨cs6, fp6, rfl, ho6, hnd6, hf6, hbz⟩
    obtain ⟨A0_6, n0_6, c0_6, A1_6, n1_6, c1_6, A2_6, n2_6, c2_6, _, _, _, rfl, -⟩ := rHouse_own ho6
    have HR_h := Lib.hid (rHouse.keep HR_h.out fun b hb' => hbz.block b (Nat.lt_of_lt_of_le hb' HB_h.out))
    have HB_h := Lib.hid (Nat.le_trans HB_h.out hbz.size)
    have KP_h := Lib.hid (KP_h.out.bel hbz)
    have HT7 := Lib.hid (below_step HT4.out hbz)
    have HXs_h := Lib.hid (rHouse.weak ho6 (B := v6.heap.size) (rHouse.olt ho6))
    have HXs_h_s := Lib.hid (Nat.le_refl v6.heap.size)
    clear ho6 hnd6 hf6
    clear hbz
    go_wp2_with fail
    refine (specGoodHouse_c h bo HBO.out (by omega) _ _ _ (rHouse.more HXs_h.out HXs_h_s.out) (Nat.le_refl _)).mono ?_
    rintro e v8 ⟨rfl, hbz⟩
    have HR_h := Lib.hid (rHouse.keep HR_h.out fun b hb' => hbz.block b (Nat.lt_of_lt_of_le hb' HB_h.out))
    have HB_h := Lib.hid (Nat.le_trans HB_h.out hbz.size)
    have HXs_h := Lib.hid (rHouse.keep HXs_h.out fun b hb' => hbz.block b (Nat.lt_of_lt_of_le hb' HXs_h_s.out))
    have HXs_h_s := Lib.hid (Nat.le_trans HXs_h_s.out hbz.size)
    have KP_h := Lib.hid (KP_h.out.bel hbz)
    have HT9 := Lib.hid (below_step HT7.out hbz)
    clear hbz
    have c10_KP_h_0 := KP_h.out.cell (i := 0) rfl
    have c10_KP_h_1 := KP_h.out.cell (i := 1) rfl
    have c10_KP_h_2 := KP_h.out.cell (i := 2) rfl
    go_wp2_with fail
    refine (toHouse_at h _ _ w.heap.size HR_h.out HB_h.out (by omega)).mono ?_
    rintro e v11 ⟨cs11, fp11, rfl, ho11, hnd11, hf11, hbz⟩
    obtain ⟨A0_11, n0_11, c0_11, A1_11, n1_11, c1_11, A2_11, n2_11, c2_11, _, _, _, rfl, -⟩ := rHouse_own ho11
    have HR_h := Lib.hid (rHouse.keep HR_h.out fun b hb' => hbz.block b (Nat.lt_of_lt_of_le hb' HB_h.out))
    have HB_h := Lib.hid (Nat.le_trans HB_h.out hbz.size)
    have KP_h := Lib.hid (KP_h.out.bel hbz)
    have HT12 := Lib.hid (below_step HT9.out hbz)
    have HXx_h := Lib.hid (rHouse.weak ho11 (B := v11.heap.size) (rHouse.olt ho11))
    have HXx_h_s := Lib.hid (Nat.le_refl v11.heap.size)
    clear ho11 hnd11 hf11
    clear hbz
    have hbx : Below v11.heap.size v11 (v11.alloc (.cells #[.slice A0_11 n0_11 c0_11, .slice A1_11 n1_11 c1_11, .slice A2_11 n2_11 c2_11] 27)) := below_new (Below.refl _ _) _
    have HR_h := Lib.hid (rHouse.keep HR_h.out fun b hb' => hbx.block b (Nat.lt_of_lt_of_le hb' HB_h.out))
    have HB_h := Lib.hid (Nat.le_trans HB_h.out hbx.size)
    have HXx_h := Lib.hid (rHouse.keep HXx_h.out fun b hb' => hbx.block b (Nat.lt_of_lt_of_le hb' HXx_h_s.out))
    have HXx_h_s := Lib.hid (Nat.le_trans HXx_h_s.out hbx.size)
    have KP_h := Lib.hid (KP_h.out.bel hbx)
    have HT13 := Lib.hid (below_step HT12.out hbx)
    clear hbx
    have KX_h := Lib.hid (Mm.Blk.new v11 27 [.slice A0_11 n0_11 c0_11, .slice A1_11 n1_11 c1_11, .slice A2_11 n2_11 c2_11])
    have c14_KX_h_0 := KX_h.out.cell (i := 0) rfl
    have c14_KX_h_1 := KX_h.out.cell (i := 1) rfl
    have c14_KX_h_2 := KX_h.out.cell (i := 2) rfl
    go_wp2_with fail
    refine (implGoodHouse_c h bo HBO.out w.heap.size _ _ _ (rHouse.more HXx_h.out HXx_h_s.out) (Nat.le_refl _) (HTB.out.on HT13.out)).mono ?_
    rintro e v15 ⟨rfl, hbz⟩
    have HR_h := Lib.hid (rHouse.keep HR_h.out fun b hb' => hbz.block b (Nat.lt_of_lt_of_le hb' HB_h.out))
    have HB_h := Lib.hid (Nat.le_trans HB_h.out hbz.size)
    have HXx_h := Lib.hid (rHouse.keep HXx_h.out fun b hb' => hbz.block b (Nat.lt_of_lt_of_le hb' HXx_h_s.out))
    have HXx_h_s := Lib.hid (Nat.le_trans HXx_h_s.out hbz.size)
    have KP_h := Lib.hid (KP_h.out.bel hbz)
    have KX_h := Lib.hid (KX_h.out.bel hbz)
    have HT16 := Lib.hid (below_step HT13.out hbz)
    clear hbz
    have c17_KP_h_0 := KP_h.out.cell (i := 0) rfl
    have c17_KP_h_1 := KP_h.out.cell (i := 1) rfl
    have c17_KP_h_2 := KP_h.out.cell (i := 2) rfl
    have c17_KX_h_0 := KX_h.out.cell (i := 0) rfl
    have c17_KX_h_1 := KX_h.out.cell (i := 1) rfl
    have c17_KX_h_2 := KX_h.out.cell (i := 2) rfl
    go_wp2_with fail
    have hdr := (Below.refl v15.heap.size v15).drew
    have HR_h := Lib.hid (rHouse.keep HR_h.out fun b hb' => hdr.block b (Nat.lt_of_lt_of_le hb' HB_h.out))
    have HB_h := Lib.hid (Nat.le_trans HB_h.out hdr.size)
    have HXx_h := Lib.hid (rHouse.keep HXx_h.out fun b hb' => hdr.block b (Nat.lt_of_lt_of_le hb' HXx_h_s.out))
    have HXx_h_s := Lib.hid (Nat.le_trans HXx_h_s.out hdr.size)
    have KP_h := Lib.hid (KP_h.out.bel hdr)
    have KX_h := Lib.hid (KX_h.out.bel hdr)
    have HT18 := Lib.hid (below_step HT16.out hdr)
    clear hdr
    have c19_KP_h_0 := KP_h.out.cell (i := 0) rfl
    have c19_KP_h_1 := KP_h.out.cell (i := 1) rfl
    have c19_KP_h_2 := KP_h.out.cell (i := 2) rfl
    have c19_KX_h_0 := KX_h.out.cell (i := 0) rfl
    have c19_KX_h_1 := KX_h.out.cell (i := 1) rfl
    have c19_KX_h_2 := KX_h.out.cell (i := 2) rfl
    go_region_held3 (fun wx => wx.cell? ⟨w.heap.size, 0, none⟩ = some (.slice A0_h n0_h c0_h) ∧ wx.cell? ⟨w.heap.size, 1, none⟩ = some (.slice A1_h n1_h c1_h) ∧ wx.cell? ⟨w.heap.size, 2, none⟩ = some (.slice A2_h n2_h c2_h) ∧ wx.cell? ⟨v11.heap.size, 0, none⟩ = some (.slice A0_11 n0_11 c0_11) ∧ wx.cell? ⟨v11.heap.size, 1, none⟩ = some (.slice A1_11 n1_11 c1_11) ∧ wx.cell? ⟨v11.heap.size, 2, none⟩ = some (.slice A2_11 n2_11 c2_11))
      (first | (go_keep; done) | ((try dsimp only); go_split_ands; refine ⟨?_, ?_, ?_, ?_, ?_, ?_⟩ <;> first | (exact below_some hbz (by assumption)) | (exact (KP_h.out.alloc _).cell (i := 0) rfl) | (exact (KP_h.out.alloc _).cell (i := 1) rfl) | (exact (KP_h.out.alloc _).cell (i := 2) rfl) | (exact (KX_h.out.alloc _).cell (i := 0) rfl) | (exact (KX_h.out.alloc _).cell (i := 1) rfl) | (exact (KX_h.out.alloc _).cell (i := 2) rfl) | (go_keep; done) | (simp [World.cell?_alloc_some, World.cell?_setCell_far, *]; done)))
      (first
        | (go_at_call 24; (with_reducible refine (toHouse_at h _ _ w.heap.size HR_h.out HB_h.out (by omega)).mono ?_); rintro e v20 ⟨cs20, fp20, rfl, ho20, hnd20, hf20, hbz⟩; obtain ⟨A0_20, n0_20, c0_20, A1_20, n1_20, c1_20, A2_20, n2_20, c2_20, _, _, _, rfl, -⟩ := rHouse_own ho20; (have HR_h := Lib.hid (rHouse.keep HR_h.out fun b hb' => hbz.block b (Nat.lt_of_lt_of_le hb' HB_h.out))); (have HB_h := Lib.hid (Nat.le_trans HB_h.out hbz.size)); (have HXx_h := Lib.hid (rHouse.keep HXx_h.out fun b hb' => hbz.block b (Nat.lt_of_lt_of_le hb' HXx_h_s.out))); (have HXx_h_s := Lib.hid (Nat.le_trans HXx_h_s.out hbz.size)); (have KP_h := Lib.hid (KP_h.out.bel hbz)); (have KX_h := Lib.hid (KX_h.out.bel hbz)); (have HT21 := Lib.hid (below_step HT18.out hbz)); (have HXz_h := Lib.hid (rHouse.weak ho20 (B := v20.heap.size) (rHouse.olt ho20))); (have HXz_h_s := Lib.hid (Nat.le_refl v20.heap.size)); clear ho20 hnd20 hf20)
        | (go_at_call 14; (with_reducible refine (eqHouse_at h _ _ _ v20.heap.size (rHouse.more HXx_h.out HXx_h_s.out) HXz_h.out (Nat.le_refl _)).mono ?_); rintro e v22 ⟨rfl, hbz⟩; (have HR_h := Lib.hid (rHouse.keep HR_h.out fun b hb' => hbz.block b (Nat.lt_of_lt_of_le hb' HB_h.out))); (have HB_h := Lib.hid (Nat.le_trans HB_h.out hbz.size)); (have HXx_h := Lib.hid (rHouse.keep HXx_h.out fun b hb' => hbz.block b (Nat.lt_of_lt_of_le hb' HXx_h_s.out))); (have HXx_h_s := Lib.hid (Nat.le_trans HXx_h_s.out hbz.size)); (have HXz_h := Lib.hid (rHouse.keep HXz_h.out fun b hb' => hbz.block b (Nat.lt_of_lt_of_le hb' HXz_h_s.out))); (have HXz_h_s := Lib.hid (Nat.le_trans HXz_h_s.out hbz.size)); (have KP_h := Lib.hid (KP_h.out.bel hbz)); (have KX_h := Lib.hid (KX_h.out.bel hbz)); (have HT23 := Lib.hid (below_step HT21.out hbz))))
    clear hbz
    go_wp2
    go_ret
    exact ⟨rfl, HT23.out⟩
end Go.Proofs.YtbhmdnjammnlnaaGreatDoor

/-
  The statement of FnExactGoodHouse: for every input the law returns true, and every argument reads afterwards as it read before. No conditions.
-/
namespace Go.Proofs.YtbhmdnjammnlnaaGreatDoor.fnExactGoodHouseCard
open Go.ChangeShapes Go.WideShapes Go.ChangeAt Go.RowKit
open Go.ChangeMaps (open_string shut_string)
set_option linter.unusedVariables false

theorem own : ownKnob Tryz.prog.godebug = none := by kernel_rfl
theorem laidOut : laidOutB Tryz.prog = true := by kernel_rfl

set_option maxRecDepth 100000 in
theorem lifted (os : Os) (started : os.Started) (H : Type) (enc : TypeId × Value → H) :
    ReturnsInHanded {} Tryz.checked os 4 .any (fun w args => (Rows.fnExactGoodHouseSpec.pre enc Tryz.prog Tryz.f4 [] false w args ∧ laidMetH Tryz.prog laidL w) ∧ sizedMet enc Tryz.prog Tryz.f4 (OpenSpec.ofChange Rows.fnExactGoodHouseSpec) false w args)
      (Rows.fnExactGoodHouseSpec.post enc Tryz.prog Tryz.f4 false true false false) := by
  refine returns_of_tied (C := Tryz.checked) (X := fun w _ => laidMetH Tryz.prog laidL w) (fun _ _ _ hh h => h.of_heap hh) own started (by kernel_rfl) Tryz.func4
    (ChangeSpec.witness_shaped (enc := enc) (C := Tryz.checked) (os := os) (X := fun w _ => laidMetH Tryz.prog laidL w) false (World.laidAll Tryz.prog os laidL) #[.agg #[.slice none 0 0, .slice none 0 0, .slice none 0 0]] 8 (World.laidAll_os _ _ _)
      (World.shaped_of_ZipB (by kernel_rfl) (by kernel_rfl)) (by kernel_rfl) (by kernel_rfl) (by kernel_rfl)
      (by rw [MakeChecks.laidMetH_plain _ _ _ (by kernel_rfl)]; exact laidMet_laidAll _ (by kernel_rfl) (by kernel_rfl))) ?_
  intro W base args ds gs before hval0 hW hL hsh
  have hval : ∀ (j : Nat) t v, Tryz.f4.params[j]? = some t → args[j]? = some v → Value.okWide Tryz.prog W .any base t v := hval0
  have hW' := hW
  obtain ⟨p, q, hA0, hV, rfl, hfz, hnd⟩ := hW
  have hA : DataW.TrodAll enc Tryz.prog W 0 (fun _ => true) true Tryz.f4.params.toList args.toList ds p := hA0
  rw [Tryz.params4] at hA hval
  obtain ⟨v0, vs0, d0, ds0, p0, q0, hargs, rfl, rfl, h0, r0⟩ := trodAll_cons hA
  obtain ⟨rfl, rfl, rfl⟩ := trodAll_nil r0
  obtain rfl : args = #[v0] := by cases args; simp_all
  obtain ⟨rfl, rfl⟩ := trodVars_none hV
  have k0 := h0
  have lt0 : ∀ x ∈ p0, x.block < W.heap.size := by obtain ⟨m, hm⟩ := k0; exact DataW.trod_lt m _ _ _ hm
  obtain ⟨cs0, a0, rfl, w0⟩ := Mm.open_st opens_House Tryz.underlying43 (hval 0 43 v0 rfl rfl) h0
  clear hA0 hval0
  refine (walk_FnExactGoodHouse cs0 a0 W (tabs_of_laid hL hsh) w0).mono fun e W' ⟨he, bel⟩ => ?_
  subst he
  exact ⟨_, rfl, _, _, _, [], _, [], hW', trodAll_mk1 (shut_bool Tryz.underlying4 _), (trodAll_cons_mk (Below.trod laidOut (by kernel_rfl) (of_decide_eq_true (by kernel_rfl)) k0 bel lt0) trodAll_mk0), rfl, bel.frame _, fun h => by cases h⟩

theorem over : Rows.fnExactGoodHouseRow.holds Tryz.pinned (OpenSpec.ofChange Rows.fnExactGoodHouseSpec) :=
  OpenClaim.holds_of_wide 4 Tryz.f4 rfl rfl rfl rfl rfl rfl rfl ⟨rfl, rfl, rfl, rfl, rfl⟩ rfl rfl rfl rfl rfl (by kernel_rfl) Tryz.func4 (by kernel_rfl)
    (of_decide_eq_true (by kernel_rfl)) (by unfold Func.isWrapper; first | (rw [if_pos (by decide +kernel)]; kernel_rfl) | (rw [if_neg (by decide +kernel)]; exact ⟨rfl, rfl⟩))
    (fun os started H enc _ => lifted os started H enc)

theorem proved : Rows.FnExactGoodHouseCardSaid :=
  Claim7.holds_tied_plain_at .later [] [.data, .data, .data, .data, .sentinel, .sentinel, .pinned] true (true, "855fd0b385ae4fcec6d6e82019ad17b3e09284dcad45630c123f56186e6361d8") true over (fun _ h => by cases h) (by kernel_rfl) (fun _ h => by cases h) fnExactGoodHouse_row_tie rfl ⟨rfl, rfl⟩ (by kernel_rfl) rfl
    (fun f fn hf hfn => by
      obtain rfl : f = 4 := Option.some.inj ((show Program.funcNamed Tryz.prog "loop.example/g00522/laws.FnExactGoodHouse" = some 4 by kernel_rfl).symm.trans hf) |>.symm
      obtain rfl : fn = Tryz.f4 := (Option.some.inj (Tryz.func4.symm.trans hfn)).symm
      exact ⟨by kernel_rfl, fun j t ht => by
        rw [Tryz.params4] at ht
        have hm : t ∈ [43] := by simpa using Array.mem_of_getElem? ht
        have hall : ([43].all fun u => !Program.wantsStandIn Tryz.prog u) = true := by kernel_rfl
        exact (show Program.wantsStandIn Tryz.prog t = false by simpa using List.all_eq_true.1 hall t hm)⟩)
    (by kernel_rfl)
#print axioms proved
end Go.Proofs.YtbhmdnjammnlnaaGreatDoor.fnExactGoodHouseCard
