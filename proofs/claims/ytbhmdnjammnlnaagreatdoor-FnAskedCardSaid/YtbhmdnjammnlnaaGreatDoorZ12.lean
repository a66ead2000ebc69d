/-
  Joined texts, in build order: LwFnAsked. Each part says what it proves; no conditions beyond those that a part names.
-/
import Derived.Test.YtbhmdnjammnlnaaGreatDoorZ01
import Derived.Test.YtbhmdnjammnlnaaGreatDoorZ03
import Derived.Test.YtbhmdnjammnlnaaGreatDoorZ08
import Derived.Test.YtbhmdnjammnlnaaGreatDoorZ10
import Derived.Test.YtbhmdnjammnlnaaGreatDoorZ11
import Derived.Deep.DeepCutAuto
import Derived.Deep.CutBlock
set_option linter.unusedVariables false
set_option linter.unusedSimpArgs false
namespace Go.Proofs.YtbhmdnjammnlnaaGreatDoor
open Go.RowKit
attribute [local go_sem] und_cell cha_cell World.cell?_alloc_some
theorem und_tab {B : Nat} {W : World} (h : Tab B W) (z : Und W) : Tab B (und W z) := h.on z.h
theorem Pl.ask_some {h : House} {s : ByteArray} {e : Int} {a : Head} (hw : Pl.word false s.data.toList = true) (he : 0 ≤ e ∧ e ≤ 60) (ha : Pl.askHd h s = a) (hle : a.Offset ≤ e) : ∃ S, Pl.askOf true h s e = (S, a.Offset == e, true) := by
  unfold Pl.askOf
  rw [if_pos ⟨rfl, hw, Pl.isIn_iff.2 he⟩, ha]
  by_cases hh : a.Offset < e
  · rw [if_pos hh, show (a.Offset == e) = false by simp; omega]; exact ⟨_, rfl⟩
  · rw [if_neg hh, show (a.Offset == e) = true by simp; omega]; exact ⟨_, rfl⟩
theorem Pl.step_lens {bo : Bool} {h : House} {s : HouseStep} (hb : bo = true ↔ Pl.HouseOk h) : (Pl.stepOf bo h s).1.Heads.length = (Pl.stepOf bo h s).1.Logs.length ∧ (Pl.stepOf bo h s).1.Kept.length = (Pl.stepOf bo h s).1.Logs.length := by
  unfold Pl.stepOf
  split
  · rename_i hh
    have h1 := (hb.1 hh.1).step s
    exact ⟨h1.hdn, h1.kpn⟩
  · exact ⟨rfl, rfl⟩
theorem Pl.catch_lens {bo : Bool} {h : House} (hb : bo = true ↔ Pl.HouseOk h) : (Pl.catchOf bo h).1.Heads.length = (Pl.catchOf bo h).1.Logs.length ∧ (Pl.catchOf bo h).1.Kept.length = (Pl.catchOf bo h).1.Logs.length := by
  unfold Pl.catchOf
  split
  · rename_i hh
    have h1 := (hb.1 hh).catchN h.Logs.length
    exact ⟨h1.hdn, h1.kpn⟩
  · exact ⟨rfl, rfl⟩
theorem Pl.new_lens (n : Int) : (Pl.newHouse n).1.Heads.length = (Pl.newHouse n).1.Logs.length ∧ (Pl.newHouse n).1.Kept.length = (Pl.newHouse n).1.Logs.length := by
  unfold Pl.newHouse
  split
  · exact ⟨by show (List.replicate _ _).length = (List.replicate _ _).length; rw [List.length_replicate, List.length_replicate], by show (List.replicate _ _).length = (List.replicate _ _).length; rw [List.length_replicate, List.length_replicate]⟩
  · exact ⟨rfl, rfl⟩
set_option maxRecDepth 100000 in
set_option maxHeartbeats 8000000 in
theorem walk_FnAsked (A A' : Option Addr) (n c n' c' : Nat) (code more : List Int) (w : World) (tb : Tabs w) (hc : Mm.SlAt Mm.u8 w w.heap.size code A n c) (hm : Mm.SlAt Mm.u8 w w.heap.size more A' n' c') :
    Calls Tryz.prog 9 #[.slice A n c, .slice A' n' c'] w fun e w' => e = .returned (.bool true) ∧ Below w.heap.size w w' := by
  have HTB : Hid (Tab w.heap.size w) := Tab.of tb
  have HC := Lib.hid hc
  have HM := Lib.hid hm
  have hlc : n ≤ maxLen := Nat.le_trans hc.2.1 hc.2.2.1
  have hlm : n' ≤ maxLen := Nat.le_trans hm.2.1 hm.2.2.1
  unfold maxLen at hlc hlm
  clear hc hm tb
  by_cases hbig : (1048576 : Int) < wrap64 ((n : Int) + (n' : Int))
  · go_enter Tryz.func9, Tryz.ntmps9
    go_wp2
    go_ret
    exact ⟨rfl, Below.refl _ _⟩
  go_enter Tryz.func9, Tryz.ntmps9
  have HF := Lib.hid (((Mm.Facts.nil w).put (f := Mm.fsl Mm.u8 more A' n' c') HM.out).put (f := Mm.fsl Mm.u8 code A n c) HC.out)
  go_upto_region 4 with (go_at_call 44; refine (DrawStepHouse_c code _ _ _ _ w.heap.size HC.out (Nat.le_refl _)).mono ?_; rintro e w1 ⟨h, s, a0, p0, k0, a1, p1, k1, a2, p2, k2, fp, rfl, hh, hs, hs1⟩; (have HD := Lib.hid (And.intro hh hs)); (replace HF := Lib.hid ((HF.out.step hs1.bel0).put (f := Mm.frd rHouse h _) (hs1.rd 0 rfl))); clear hs1 hh hs)
  clear hbig
  obtain ⟨g5, hg5⟩ : ∃ g, w1.heap.size = g := ⟨_, rfl⟩
  obtain ⟨g6, hg6⟩ : ∃ g, g5 + 1 = g := ⟨_, rfl⟩
  obtain ⟨W1, hW1⟩ : ∃ W, w1.alloc (.cells #[.slice a0 p0 k0, .slice a1 p1 k1, .slice a2 p2 k2] 27) = W := ⟨_, rfl⟩
  obtain ⟨W2, hW2⟩ : ∃ W, W1.alloc (.cells #[.int .i64 s.Kind, .int .i64 s.Part, .string s.What.Name, .int .i64 s.What.At, .int .i64 s.What.Value] 57) = W := ⟨_, rfl⟩
  have hz1 : W1.heap.size = g6 := by rw [← hW1, Mm.sz1, hg5, hg6]
  replace HF := Lib.hid ((HF.out.varH hg5 27 [.slice a0 p0 k0, .slice a1 p1 k1, .slice a2 p2 k2] hW1).varH hz1 57 [.int .i64 s.Kind, .int .i64 s.Part, .string s.What.Name, .int .i64 s.What.At, .int .i64 s.What.Value] hW2)
  rw [hW1, hW2, hg5, hg6]
  clear hW1 hW2 hg5 hg6 hz1
  have HST : Hid (rHouseStep.at_ W2 W2.heap.size s [.int .i64 s.Kind, .int .i64 s.Part, .string s.What.Name, .int .i64 s.What.At, .int .i64 s.What.Value] ∧ s.What.Name.size ≤ maxLen) := by
    have h := HD.out.2
    have h1 := h.kd
    have h2 := h.pt
    have h3 := h.say.nm
    have h4 := h.say.at_
    have h5 := h.say.vl
    have h6 : s.What.Name.size ≤ maxLen := by unfold maxLen; omega
    exact Lib.hid ⟨⟨rfl, by unfold Mm.I64; omega, by unfold Mm.I64; omega, h6, by unfold Mm.I64; omega, by unfold Mm.I64; omega⟩, h6⟩
  obtain ⟨bo, hbo⟩ := exists_bool (Pl.HouseOk h)
  have HBO := Lib.hid hbo
  have HSZ : Hid (Pl.szHouse h ≤ 1048576) := Lib.hid (by have := HD.out.1.sz; omega)
  clear hbo
  have hlens := Pl.step_lens (s := s) HBO.out
  obtain ⟨x, ok, hr⟩ : ∃ x ok, Pl.stepOf bo h s = (x, ok) := ⟨_, _, rfl⟩
  have HR := Lib.hid hr
  rw [hr] at hlens
  have HLENS := Lib.hid hlens
  clear hr hlens
  have CI := implStepHouse_c h bo HBO.out w.heap.size _ s _ W2 _ (HF.out.rd 2 rfl) HST.out.1 (Nat.le_refl _) (HTB.out.on HF.out.bel)
  rw [HR.out] at CI
  have t0 := HF.out.cell (k := 0) 3 rfl rfl
  have t1 := HF.out.cell (k := 1) 3 rfl rfl
  have t2 := HF.out.cell (k := 2) 3 rfl rfl
  have s0 := HF.out.cell (k := 0) 4 rfl rfl
  have s1 := HF.out.cell (k := 1) 4 rfl rfl
  have s2 := HF.out.cell (k := 2) 4 rfl rfl
  have s3 := HF.out.cell (k := 3) 4 rfl rfl
  have s4 := HF.out.cell (k := 4) 4 rfl rfl
  go_upto_region 5 with (go_at_call 29; (with_reducible refine CI.mono ?_); clear CI; rintro e w3 ⟨cs, fp1, rfl, ho, hnd, hnew, hb⟩; obtain ⟨b0, q0, j0, b1, q1, j1, b2, q2, j2, _, _, _, rfl, -⟩ := rHouse_own ho; (replace HF := Lib.hid ((HF.out.step hb).put (f := Mm.frd rHouse x _) (rHouse.weak ho (rHouse.olt ho)))); clear ho hnd hnew hb)
  clear t0 t1 t2 s0 s1 s2 s3 s4
  obtain ⟨g7, hg7⟩ : ∃ g, w3.heap.size = g := ⟨_, rfl⟩
  obtain ⟨W3, hW3⟩ : ∃ W, w3.alloc (.cells (List.toArray ([.slice b0 q0 j0, .slice b1 q1 j1, .slice b2 q2 j2])) 27) = W := ⟨_, rfl⟩
  replace HF := Lib.hid (HF.out.varH hg7 27 ([.slice b0 q0 j0, .slice b1 q1 j1, .slice b2 q2 j2]) hW3)
  rw [hW3, hg7]
  clear hW3 hg7
  have HS3 : Hid (rHouseStep.at_ W3 W3.heap.size s [.int .i64 s.Kind, .int .i64 s.Part, .string s.What.Name, .int .i64 s.What.At, .int .i64 s.What.Value]) := Lib.hid ⟨rfl, HST.out.1.2⟩
  have CJ := specStepHouse_c h bo HBO.out HSZ.out _ s _ W3 _ (HF.out.rd 2 rfl) HS3.out (Nat.le_refl _)
  rw [HR.out] at CJ
  have t0 := HF.out.cell (k := 0) 3 rfl rfl
  have t1 := HF.out.cell (k := 1) 3 rfl rfl
  have t2 := HF.out.cell (k := 2) 3 rfl rfl
  have s0 := HF.out.cell (k := 0) 4 rfl rfl
  have s1 := HF.out.cell (k := 1) 4 rfl rfl
  have s2 := HF.out.cell (k := 2) 4 rfl rfl
  have s3 := HF.out.cell (k := 3) 4 rfl rfl
  have s4 := HF.out.cell (k := 4) 4 rfl rfl
  go_upto_region 6 with (go_at_call 27; (with_reducible refine CJ.mono ?_); clear CJ; rintro e w4 ⟨cs, fp1, rfl, ho, hnd, hnew, hb⟩; obtain ⟨d0, u0, v0, d1, u1, v1, d2, u2, v2, _, _, _, rfl, -⟩ := rHouse_own ho; (replace HF := Lib.hid ((HF.out.step hb).put (f := Mm.frd rHouse x _) (rHouse.weak ho (rHouse.olt ho)))); clear ho hnd hnew hb)
  clear t0 t1 t2 s0 s1 s2 s3 s4
  obtain ⟨g9, hg9⟩ : ∃ g, w4.heap.size = g := ⟨_, rfl⟩
  obtain ⟨W4, hW4⟩ : ∃ W, w4.alloc (.cells (List.toArray ([.slice d0 u0 v0, .slice d1 u1 v1, .slice d2 u2 v2])) 27) = W := ⟨_, rfl⟩
  replace HF := Lib.hid (HF.out.varH hg9 27 ([.slice d0 u0 v0, .slice d1 u1 v1, .slice d2 u2 v2]) hW4)
  rw [hW4, hg9]
  clear hW4 hg9
  have f1 : (ok != ok) = false := by cases ok <;> rfl
  have f2 : (bo != bo) = false := by cases bo <;> rfl
  have t0 := HF.out.cell (k := 0) 3 rfl rfl
  have t1 := HF.out.cell (k := 1) 3 rfl rfl
  have t2 := HF.out.cell (k := 2) 3 rfl rfl
  have x0 := HF.out.cell (k := 0) 6 rfl rfl
  have x1 := HF.out.cell (k := 1) 6 rfl rfl
  have x2 := HF.out.cell (k := 2) 6 rfl rfl
  have y0 := HF.out.cell (k := 0) 8 rfl rfl
  have y1 := HF.out.cell (k := 1) 8 rfl rfl
  have y2 := HF.out.cell (k := 2) 8 rfl rfl
  have CE := fun z : Und W4 => und_call z (sameHouses_c x _ _ (und W4 z) _ ((HF.out.und z).rd 5 rfl) ((HF.out.und z).rd 7 rfl) (Nat.le_refl _) HLENS.out.1 HLENS.out.2)
  have CG := fun z : Und W4 => und_call z (implGoodHouse_c h bo HBO.out w.heap.size _ (und W4 z) _ ((HF.out.und z).rd 2 rfl) (Nat.le_refl _) (und_tab (HTB.out.on HF.out.bel) z))
  have CH := fun z : Und W4 => und_call z (specGoodHouse_c h bo HBO.out HSZ.out _ (und W4 z) _ ((HF.out.und z).rd 2 rfl) (Nat.le_refl _))
  refine wp_region_und (by kernel_rfl) (by kernel_rfl) ?_
  repeat (go_big_quiet_step ((first | (first | (go_at_call 39; with_reducible exact CE _) | (go_at_call 25; with_reducible exact CG _) | (go_at_call 23; with_reducible exact CH _)))))
  refine wpQuiet_nil ?_
  intro X hX
  clear t0 t1 t2 x0 x1 x2 y0 y1 y2 CE CG CH f1 f2
  replace HF := Lib.hid (HF.out.step hX)
  clear hX
  go_upto_if 89 with fail
  go_cut [] (fun wx => Below w.heap.size w wx)
  case first =>
    cases ok with
    | false =>
      go_wp2_with fail
      go_meet
      exact HF.out.bel
    | true =>
    have hst : bo = true ∧ (Pl.stepS h s).2 = true ∧ x = (Pl.stepS h s).1 := by
      have h1 := HR.out
      unfold Pl.stepOf at h1
      split at h1
      · rename_i hh
        injection h1 with h1 h2
        exact ⟨hh.1, hh.2, h1.symm⟩
      · injection h1 with _ h1
        cases h1
    obtain ⟨hb1, hs2, hx⟩ := hst
    have HK : Hid (Pl.HouseOk h) := Lib.hid (HBO.out.1 hb1)
    have HS2 := Lib.hid hs2
    have HX := Lib.hid hx
    have HXK : Hid (Pl.HouseOk x) := Lib.hid (by rw [HX.out]; exact HK.out.step s)
    clear hb1 hs2 hx HR
    have CG := implGoodHouse_c x true ⟨fun _ => HXK.out, fun _ => rfl⟩ w.heap.size _ X _ (HF.out.rd 5 rfl) (Nat.le_refl _) (HTB.out.on HF.out.bel)
    have x0 := HF.out.cell (k := 0) 6 rfl rfl
    have x1 := HF.out.cell (k := 1) 6 rfl rfl
    have x2 := HF.out.cell (k := 2) 6 rfl rfl
    go_upto_region 11 with (go_at_call 25; (with_reducible refine CG.mono ?_); clear CG; rintro e w5 ⟨rfl, hb⟩; (replace HF := Lib.hid (HF.out.step hb)); clear hb x0 x1 x2)
    have hr0 := rHouse_rd3 (HF.out.rd 2 rfl)
    have hr1 := rHouse_rd3 (HF.out.rd 5 rfl)
    have hp1 : h.Heads.length = p1 := hr0.2.1.1
    have hq1 : q1 = p1 := by rw [← hr1.2.1.1, ← hp1, HXK.out.hdn, HK.out.hdn, HX.out, Pl.step_len]
    have hq0 : x.Logs.length = q0 := hr1.1.1
    have hqp : q0 = p1 := by rw [← hq0, ← hp1, HK.out.hdn, HX.out, Pl.step_len]
    subst hq1
    subst hqp
    have hn3 : q0 ≤ 3 := by rw [← hq0]; exact HXK.out.n3
    clear hr0 hr1 hq0 hp1
    have t0 := HF.out.cell (k := 0) 3 rfl rfl
    have t1 := HF.out.cell (k := 1) 3 rfl rfl
    have t2 := HF.out.cell (k := 2) 3 rfl rfl
    obtain ⟨W5, hW5⟩ : ∃ W : World, W = w5 := ⟨_, rfl⟩
    subst hW5
    go_wp2_with fail
    clear t0 t1 t2
    replace HF : Hid (Mm.Facts w W5 ([Mm.frd rHouse h [.slice a0 p0 k0, .slice a1 q0 k1, .slice a2 p2 k2], Mm.fbk g5 27 [.slice a0 p0 k0, .slice a1 q0 k1, .slice a2 p2 k2], Mm.fbk g6 57 [.int .i64 s.Kind, .int .i64 s.Part, .string s.What.Name, .int .i64 s.What.At, .int .i64 s.What.Value], Mm.frd rHouse x [.slice b0 q0 j0, .slice b1 q0 j1, .slice b2 q2 j2], Mm.fbk g7 27 [.slice b0 q0 j0, .slice b1 q0 j1, .slice b2 q2 j2]])) := Lib.hid (HF.out.selH [2, 3, 4, 5, 6] rfl)
    go_loopg [96] q0 (fun gg i wr => ∃ k : Nat, q0 - k ≤ gg ∧ k ≤ q0 ∧ i = .int .i64 k ∧ Hid (Mm.Facts w wr ([Mm.frd rHouse h [.slice a0 p0 k0, .slice a1 q0 k1, .slice a2 p2 k2], Mm.fbk g5 27 [.slice a0 p0 k0, .slice a1 q0 k1, .slice a2 p2 k2], Mm.fbk g6 57 [.int .i64 s.Kind, .int .i64 s.Part, .string s.What.Name, .int .i64 s.What.At, .int .i64 s.What.Value], Mm.frd rHouse x [.slice b0 q0 j0, .slice b1 q0 j1, .slice b2 q2 j2], Mm.fbk g7 27 [.slice b0 q0 j0, .slice b1 q0 j1, .slice b2 q2 j2]])))
    case atStart => exact ⟨0, Nat.le_refl _, Nat.zero_le _, rfl, HF⟩
    case round =>
      clear HF
      obtain ⟨k, hgk, hk, rfl, HF⟩ := hrel
      obtain ⟨W6, rfl⟩ : ∃ W : World, W = wr := ⟨_, rfl⟩
      by_cases hlt : k < q0
      · have hlt1 : (k : Int) < (q0 : Nat) := by omega
        have hk0 : (0 : Int) ≤ (k : Nat) := by omega
        have hkt : ((k : Nat) : Int).toNat = k := by omega
        obtain ⟨a, ba, oa, RA, rn, rc, ha, he0, hba, -, -, y0, y1⟩ := rHead_get (rHouse_rd3 (HF.out.rd 0 rfl)).2.1 hlt
        obtain ⟨b, bb, ob, RB, rm, rd, hb, he1, hbb, -, -, z0, z1⟩ := rHead_get (rHouse_rd3 (HF.out.rd 3 rfl)).2.1 hlt
        have HMO : Hid (s.Kind ≠ 4 → a.Offset ≤ b.Offset) := Lib.hid (fun h4 => by
          have h1 := Pl.step_mono HK.out s h4 k
          rw [← HX.out, Pl.headK_of ha, Pl.headK_of hb] at h1
          exact h1)
        subst he0
        subst he1
        clear ha hb y0 z0
        have t0 := HF.out.cell (k := 0) 1 rfl rfl
        have t1 := HF.out.cell (k := 1) 1 rfl rfl
        have t2 := HF.out.cell (k := 2) 1 rfl rfl
        have x0 := HF.out.cell (k := 0) 4 rfl rfl
        have x1 := HF.out.cell (k := 1) 4 rfl rfl
        have x2 := HF.out.cell (k := 2) 4 rfl rfl
        have s0 := HF.out.cell (k := 0) 2 rfl rfl
        by_cases h4 : s.Kind = 4
        · have f1 : (s.Kind != 4) = false := by simpa using h4
          clear h4
          go_wp2
          go_quiet (fail)
          go_wp2
          go_roundg (q0 - (k + 1))
          case measure => omega
          case rel => exact ⟨k + 1, Nat.le_refl _, by omega, by go_num, Lib.hid (HF.out.step (Go.below_drewN (Below.refl _ _) _))⟩
        · have f1 : (s.Kind != 4) = true := by simpa using h4
          have f2 : ¬ b.Offset < a.Offset := by have := HMO.out h4; omega
          clear h4
          go_wp2
          go_quiet (fail)
          go_wp2
          go_roundg (q0 - (k + 1))
          case measure => omega
          case rel => exact ⟨k + 1, Nat.le_refl _, by omega, by go_num, Lib.hid (HF.out.step (Go.below_drewN (Below.refl _ _) _))⟩
      · have hlt1 : ¬ (k : Int) < (q0 : Nat) := by omega
        obtain rfl : k = q0 := by omega
        have s0 := HF.out.cell (k := 0) 2 rfl rfl
        by_cases h1 : s.Kind = 1
        · have f1 : (s.Kind == 1) = true := by simpa using h1
          obtain ⟨kp, g, a, hkp, hkl, hgx, hax, hgo, he0, he60, hae, hw, hask, hcat⟩ := Pl.tell_end HK.out h1 HS2.out
          rw [← HX.out] at hgx hax hask hcat
          obtain ⟨E, hE⟩ : ∃ E, Pl.endOf g = E := ⟨_, rfl⟩
          rw [hE] at he0 he60 hae hcat
          have hxl : kp < k := by
            have h2 := (rHouse_rd3 (HF.out.rd 3 rfl)).1.1
            have h3 := (List.getElem?_eq_some_iff.1 hgx).1
            omega
          obtain ⟨S1, hs1⟩ := Pl.ask_some hw ⟨he0, he60⟩ hask hae
          obtain ⟨ac, hac⟩ : ∃ ac, Pl.askHd (Pl.catchN x x.Logs.length).1 s.What.Name = ac := ⟨_, rfl⟩
          rw [hac] at hcat
          obtain ⟨S2, hs2⟩ := Pl.ask_some hw ⟨he0, he60⟩ hac (by omega)
          rw [hcat, show (E == E) = true by simp] at hs2
          obtain ⟨g', bL, oL, GA, gn, gc, hg', hl0, hbL, hgs, hgi, y0, y1⟩ := rLog_get (rHouse_rd3 (HF.out.rd 3 rfl)).1 hxl
          obtain rfl : g = g' := by rw [hgx] at hg'; exact Option.some.inj hg'
          replace HF := Lib.hid (HF.out.put (f := Mm.frd rLog g [.slice GA gn gc, .int .i64 g.Begin]) (rLog_at_mk hgs hgi))
          have HGO := Lib.hid hgo
          have HAX := Lib.hid hax
          have HNM := Lib.hid HST.out.2
          have hp0 : (0 : Int) ≤ (kp : Nat) := by omega
          have hp1 : (kp : Int) < (k : Nat) := by omega
          have hpt : ((kp : Nat) : Int).toNat = kp := by omega
          clear hg' hgs hgi hgx hax hgo hask hac hcat hw h1
          have CE := implEndOf_c g _ W6 _ (HF.out.rd 5 rfl) (Nat.le_refl _) HGO.out
          rw [hE] at CE
          have s1 := HF.out.cell (k := 1) 2 rfl rfl
          rw [hkp] at s1
          have x0 := HF.out.cell (k := 0) 4 rfl rfl
          have x1 := HF.out.cell (k := 1) 4 rfl rfl
          have x2 := HF.out.cell (k := 2) 4 rfl rfl
          have HKP := Lib.hid hkp
          clear hE hkp
          subst hl0
          go_upto_region 19 with (go_at_call 43; (with_reducible refine CE.mono ?_); clear CE; rintro e w7 ⟨rfl, hb⟩; (replace HF := Lib.hid (HF.out.step hb)); clear hb s0 s1 x0 x1 x2 y0 y1)
          obtain ⟨W7, rfl⟩ : ∃ W : World, W = w7 := ⟨_, rfl⟩
          have CA := implAskHouse_c x true ⟨fun _ => HXK.out, fun _ => rfl⟩ w.heap.size _ s.What.Name E W7 _ (HF.out.rd 3 rfl) (Nat.le_refl _) (HTB.out.on HF.out.bel) HNM.out
          rw [hs1] at CA
          have x0 := HF.out.cell (k := 0) 4 rfl rfl
          have x1 := HF.out.cell (k := 1) 4 rfl rfl
          have x2 := HF.out.cell (k := 2) 4 rfl rfl
          have s2 := HF.out.cell (k := 2) 2 rfl rfl
          go_upto_region 20 with (go_at_call 33; (with_reducible refine CA.mono ?_); clear CA; rintro e w8 ⟨A5, n5, c5, fp5, rfl, hs5⟩; (replace HF := Lib.hid (HF.out.step hs5.bel0)); clear hs5 x0 x1 x2 s2)
          have CU := implCatchUp_c x true ⟨fun _ => HXK.out, fun _ => rfl⟩ w.heap.size _ w8 _ (HF.out.rd 3 rfl) (Nat.le_refl _) (HTB.out.on HF.out.bel)
          rw [show Pl.catchOf true x = ((Pl.catchN x x.Logs.length).1, (Pl.catchN x x.Logs.length).2, true) from if_pos rfl] at CU
          have HKC : Hid (Pl.HouseOk (Pl.catchN x x.Logs.length).1) := Lib.hid (HXK.out.catchN _)
          obtain ⟨C, hC⟩ : ∃ C, (Pl.catchN x x.Logs.length).1 = C := ⟨_, rfl⟩
          obtain ⟨N, hN⟩ : ∃ N, (Pl.catchN x x.Logs.length).2 = N := ⟨_, rfl⟩
          rw [hC, hN] at CU
          rw [hC] at hs2 HKC
          clear hC hN
          have x0 := HF.out.cell (k := 0) 4 rfl rfl
          have x1 := HF.out.cell (k := 1) 4 rfl rfl
          have x2 := HF.out.cell (k := 2) 4 rfl rfl
          go_upto_region 21 with (go_at_call 31; (with_reducible refine CU.mono ?_); clear CU; rintro e w9 ⟨cs, fp6, rfl, hs6⟩; obtain ⟨e0, v0, q0', e1, v1, q1', e2, v2, q2', f0', f1', f2', rfl, -, -, -, -⟩ := hs6.hoOpen; (replace HF := Lib.hid ((HF.out.step hs6.bel0).put (f := Mm.frd rHouse C _) (hs6.rd 0 rfl))); clear hs6 x0 x1 x2)
          obtain ⟨g17, hg17⟩ : ∃ g, w9.heap.size = g := ⟨_, rfl⟩
          obtain ⟨W17, hW17⟩ : ∃ W, w9.alloc (.cells (List.toArray ([.slice e0 v0 q0', .slice e1 v1 q1', .slice e2 v2 q2'])) 27) = W := ⟨_, rfl⟩
          replace HF := Lib.hid (HF.out.varH hg17 27 ([.slice e0 v0 q0', .slice e1 v1 q1', .slice e2 v2 q2']) hW17)
          rw [hW17, hg17]
          clear hW17 hg17
          have CA := implAskHouse_c C true ⟨fun _ => HKC.out, fun _ => rfl⟩ w.heap.size _ s.What.Name E W17 _ (HF.out.rd 6 rfl) (Nat.le_refl _) (HTB.out.on HF.out.bel) HNM.out
          rw [hs2] at CA
          have x0 := HF.out.cell (k := 0) 7 rfl rfl
          have x1 := HF.out.cell (k := 1) 7 rfl rfl
          have x2 := HF.out.cell (k := 2) 7 rfl rfl
          have s2 := HF.out.cell (k := 2) 2 rfl rfl
          go_upto_region 22 with (go_at_call 33; (with_reducible refine CA.mono ?_); clear CA; rintro e wA ⟨A6, n6, c6, fp7, rfl, hs7⟩; (replace HF := Lib.hid (HF.out.step hs7.bel0)); clear hs7 x0 x1 x2 s2)
          obtain ⟨b, bb, ob, RB, rm, rd, hb, he1, hbb, -, -, z0, z1⟩ := rHead_get (rHouse_rd3 (HF.out.rd 3 rfl)).2.1 hxl
          obtain rfl : a = b := by rw [HAX.out] at hb; exact Option.some.inj hb
          have f2 : ((a.Offset == E) != (a.Offset == E)) = false := by simp
          have s1 := HF.out.cell (k := 1) 2 rfl rfl
          rw [HKP.out] at s1
          have x1 := HF.out.cell (k := 1) 4 rfl rfl
          subst he1
          clear hb z0
          go_wp2_with fail
          go_meet
          exact HF.out.bel
        · have f1 : (s.Kind == 1) = false := by simpa using h1
          clear h1
          go_wp2_with fail
          go_meet
          exact HF.out.bel
  case rest =>
  have HBX := hcut
  clear HF HR HBO HSZ HST HS3 HD HLENS
  have HF := Lib.hid (((Mm.Facts.nil w).put (f := Mm.fsl Mm.u8 more A' n' c') HM.out).step HBX)
  go_upto_region 25 with (go_at_call 45; refine (DrawAskHouse_c more _ _ _ _ _ (HF.out.sl 0 rfl) (Nat.le_refl _)).mono ?_; rintro e e1 ⟨a, nm, wt, a0, p0, k0, a1, p1, k1, a2, p2, k2, fp, rfl, hh, hnm, hw0, hw1, hs1⟩; (have HD := Lib.hid hh); (replace HF := Lib.hid ((HF.out.step hs1.bel0).put (f := Mm.frd rHouse a _) (hs1.rd 0 rfl))); clear hs1 hh)
  obtain ⟨g23, hg23⟩ : ∃ g, e1.heap.size = g := ⟨_, rfl⟩
  obtain ⟨V1, hV1⟩ : ∃ W, e1.alloc (.cells (List.toArray ([.slice a0 p0 k0, .slice a1 p1 k1, .slice a2 p2 k2])) 27) = W := ⟨_, rfl⟩
  replace HF := Lib.hid (HF.out.varH hg23 27 ([.slice a0 p0 k0, .slice a1 p1 k1, .slice a2 p2 k2]) hV1)
  rw [hV1, hg23]
  clear hV1 hg23
  have hnm2 : nm.size ≤ maxLen := by unfold maxLen; omega
  obtain ⟨ba, hba⟩ := exists_bool (Pl.HouseOk a)
  have HBA := Lib.hid hba
  have HSZ : Hid (Pl.szHouse a ≤ 1048576) := Lib.hid (by have := HD.out.sz; omega)
  clear hba
  obtain ⟨S, q1, q2, hr⟩ : ∃ S q1 q2, Pl.askOf ba a nm wt = (S, q1, q2) := ⟨_, _, _, rfl⟩
  have CA := implAskHouse_c a ba HBA.out w.heap.size _ nm wt V1 _ (HF.out.rd 1 rfl) (Nat.le_refl _) (HTB.out.on HF.out.bel) hnm2
  rw [hr] at CA
  have t0 := HF.out.cell (k := 0) 2 rfl rfl
  have t1 := HF.out.cell (k := 1) 2 rfl rfl
  have t2 := HF.out.cell (k := 2) 2 rfl rfl
  go_upto_region 26 with (go_at_call 33; (with_reducible refine CA.mono ?_); clear CA; rintro e e2 ⟨A5, n5, c5, fp5, rfl, hs5⟩; (replace HF := Lib.hid ((HF.out.step hs5.bel0).put (f := Mm.fsl smp S A5 n5 c5) (hs5.rdSl 0 rfl))); clear hs5 t0 t1 t2)
  have CA := specAskHouse_c a ba HBA.out HSZ.out _ nm wt e2 _ (HF.out.rd 1 rfl) (Nat.le_refl _) hnm2
  rw [hr] at CA
  clear hr
  have t0 := HF.out.cell (k := 0) 2 rfl rfl
  have t1 := HF.out.cell (k := 1) 2 rfl rfl
  have t2 := HF.out.cell (k := 2) 2 rfl rfl
  go_upto_region 27 with (go_at_call 32; (with_reducible refine CA.mono ?_); clear CA; rintro e e3 ⟨A6, n6, c6, fp6, rfl, hs6⟩; (replace HF := Lib.hid ((HF.out.step hs6.bel0).put (f := Mm.fsl smp S A6 n6 c6) (hs6.rdSl 0 rfl))); clear hs6 t0 t1 t2)
  obtain rfl : n5 = n6 := (HF.out.sl 3 rfl).1.symm.trans (HF.out.sl 4 rfl).1
  clear HBA HSZ HD
  go_upto_region 28 with (go_at_call 46; refine (DrawCatchUp_c more _ _ _ _ _ (HF.out.sl 0 rfl) (Nat.le_refl _)).mono ?_; rintro e e4 ⟨y, b0, u0, v0, b1, u1, v1, b2, u2, v2, fp, rfl, hh, hs1⟩; (have HD := Lib.hid hh); (replace HF := Lib.hid ((HF.out.step hs1.bel0).put (f := Mm.frd rHouse y _) (hs1.rd 0 rfl))); clear hs1 hh)
  obtain ⟨g32, hg32⟩ : ∃ g, e4.heap.size = g := ⟨_, rfl⟩
  obtain ⟨V4, hV4⟩ : ∃ W, e4.alloc (.cells (List.toArray ([.slice b0 u0 v0, .slice b1 u1 v1, .slice b2 u2 v2])) 27) = W := ⟨_, rfl⟩
  replace HF := Lib.hid (HF.out.varH hg32 27 ([.slice b0 u0 v0, .slice b1 u1 v1, .slice b2 u2 v2]) hV4)
  rw [hV4, hg32]
  clear hV4 hg32
  obtain ⟨by', hby⟩ := exists_bool (Pl.HouseOk y)
  have HBY := Lib.hid hby
  have HSZ : Hid (Pl.szHouse y ≤ 1048576) := Lib.hid (by have := HD.out.sz; omega)
  clear hby
  have hlz := Pl.catch_lens HBY.out
  obtain ⟨z, zn, zk, hr⟩ : ∃ z zn zk, Pl.catchOf by' y = (z, zn, zk) := ⟨_, _, _, rfl⟩
  rw [hr] at hlz
  have HLZ := Lib.hid hlz
  have CU := implCatchUp_c y by' HBY.out w.heap.size _ V4 _ (HF.out.rd 5 rfl) (Nat.le_refl _) (HTB.out.on HF.out.bel)
  rw [hr] at CU
  clear hlz
  have t0 := HF.out.cell (k := 0) 6 rfl rfl
  have t1 := HF.out.cell (k := 1) 6 rfl rfl
  have t2 := HF.out.cell (k := 2) 6 rfl rfl
  go_upto_region 29 with (go_at_call 31; (with_reducible refine CU.mono ?_); clear CU; rintro e e5 ⟨cs, fp7, rfl, hs7⟩; obtain ⟨d0, i0, j0, d1, i1, j1, d2, i2, j2, f0', f1', f2', rfl, -, -, -, -⟩ := hs7.hoOpen; (replace HF := Lib.hid ((HF.out.step hs7.bel0).put (f := Mm.frd rHouse z _) (hs7.rd 0 rfl))); clear hs7 t0 t1 t2)
  obtain ⟨g33, hg33⟩ : ∃ g, e5.heap.size = g := ⟨_, rfl⟩
  obtain ⟨V5, hV5⟩ : ∃ W, e5.alloc (.cells (List.toArray ([.slice d0 i0 j0, .slice d1 i1 j1, .slice d2 i2 j2])) 27) = W := ⟨_, rfl⟩
  replace HF := Lib.hid (HF.out.varH hg33 27 ([.slice d0 i0 j0, .slice d1 i1 j1, .slice d2 i2 j2]) hV5)
  rw [hV5, hg33]
  clear hV5 hg33
  have CU := specCatchUp_c y by' HBY.out HSZ.out _ V5 _ (HF.out.rd 5 rfl) (Nat.le_refl _)
  rw [hr] at CU
  clear hr
  have t0 := HF.out.cell (k := 0) 6 rfl rfl
  have t1 := HF.out.cell (k := 1) 6 rfl rfl
  have t2 := HF.out.cell (k := 2) 6 rfl rfl
  go_upto_region 30 with (go_at_call 30; (with_reducible refine CU.mono ?_); clear CU; rintro e e6 ⟨cs, fp7, rfl, hs7⟩; obtain ⟨r0, l0, m0, r1, l1, m1, r2, l2, m2, f0', f1', f2', rfl, -, -, -, -⟩ := hs7.hoOpen; (replace HF := Lib.hid ((HF.out.step hs7.bel0).put (f := Mm.frd rHouse z _) (hs7.rd 0 rfl))); clear hs7 t0 t1 t2)
  obtain ⟨g36, hg36⟩ : ∃ g, e6.heap.size = g := ⟨_, rfl⟩
  obtain ⟨V6, hV6⟩ : ∃ W, e6.alloc (.cells (List.toArray ([.slice r0 l0 m0, .slice r1 l1 m1, .slice r2 l2 m2])) 27) = W := ⟨_, rfl⟩
  replace HF := Lib.hid (HF.out.varH hg36 27 ([.slice r0 l0 m0, .slice r1 l1 m1, .slice r2 l2 m2]) hV6)
  rw [hV6, hg36]
  clear hV6 hg36
  clear HBY HSZ HD
  go_upto_region 31 with (go_at_call 47; refine (DrawPartOf_c more _ _ _ _ _ (HF.out.sl 0 rfl) (Nat.le_refl _)).mono ?_; rintro e e7 ⟨pk, ps, rfl, hpk0, hpk1, hps, hb⟩; (replace HF := Lib.hid (HF.out.step hb)); clear hb)
  have hps2 : ps.size ≤ maxLen := by unfold maxLen; omega
  obtain ⟨pv, pb, hr⟩ : ∃ pv pb, Pl.partOf pk ps.data.toList = (pv, pb) := ⟨_, _, rfl⟩
  have CP := implPartOf_c pk ps e7 hps2
  rw [hr, show Pl.ret2 (pv, pb) = .returned (.tuple #[.int .i64 pv, .bool pb]) from rfl] at CP
  go_upto_region 32 with (go_at_call 48; (with_reducible refine CP.mono ?_); clear CP; rintro e w' ⟨rfl, rfl⟩)
  have CP := specPartOf_c pk ps e7 hps2
  rw [hr, show Pl.ret2 (pv, pb) = .returned (.tuple #[.int .i64 pv, .bool pb]) from rfl] at CP
  clear hr
  go_upto_region 33 with (go_at_call 49; (with_reducible refine CP.mono ?_); clear CP; rintro e w' ⟨rfl, rfl⟩)
  go_upto_region 34 with (go_at_call 50; refine (DrawNewHouse_c more _ _ _ _ _ (HF.out.sl 0 rfl) (Nat.le_refl _)).mono ?_; rintro e e8 ⟨hn, rfl, hn0, hn1, hb⟩; (replace HF := Lib.hid (HF.out.step hb)); clear hb)
  have hlv := Pl.new_lens hn
  obtain ⟨v, vk, hr⟩ : ∃ v vk, Pl.newHouse hn = (v, vk) := ⟨_, _, rfl⟩
  rw [hr] at hlv
  have HLV := Lib.hid hlv
  clear hlv
  have CN := implNewHouse_c hn e8
  rw [hr] at CN
  go_upto_region 35 with (go_at_call 51; (with_reducible refine CN.mono ?_); clear CN; rintro e e9 ⟨cs, fp1, rfl, ho, hnd, hnew, hb⟩; obtain ⟨x0, o0, h0, x1, o1, h1, x2, o2, h2, _, _, _, rfl, -⟩ := rHouse_own ho; (replace HF := Lib.hid ((HF.out.step hb).put (f := Mm.frd rHouse v _) (rHouse.weak ho (rHouse.olt ho)))); clear ho hnd hnew hb)
  obtain ⟨g46, hg46⟩ : ∃ g, e9.heap.size = g := ⟨_, rfl⟩
  obtain ⟨V9, hV9⟩ : ∃ W, e9.alloc (.cells (List.toArray ([.slice x0 o0 h0, .slice x1 o1 h1, .slice x2 o2 h2])) 27) = W := ⟨_, rfl⟩
  replace HF := Lib.hid (HF.out.varH hg46 27 ([.slice x0 o0 h0, .slice x1 o1 h1, .slice x2 o2 h2]) hV9)
  rw [hV9, hg46]
  clear hV9 hg46
  have CN := specNewHouse_c hn V9
  rw [hr] at CN
  clear hr
  go_upto_region 36 with (go_at_call 52; (with_reducible refine CN.mono ?_); clear CN; rintro e eA ⟨cs, fp1, rfl, ho, hnd, hnew, hb⟩; obtain ⟨x0', o0', h0', x1', o1', h1', x2', o2', h2', _, _, _, rfl, -⟩ := rHouse_own ho; (replace HF := Lib.hid ((HF.out.step hb).put (f := Mm.frd rHouse v _) (rHouse.weak ho (rHouse.olt ho)))); clear ho hnd hnew hb)
  obtain ⟨g48, hg48⟩ : ∃ g, eA.heap.size = g := ⟨_, rfl⟩
  obtain ⟨VA, hVA⟩ : ∃ W, eA.alloc (.cells (List.toArray ([.slice x0' o0' h0', .slice x1' o1' h1', .slice x2' o2' h2'])) 27) = W := ⟨_, rfl⟩
  replace HF := Lib.hid (HF.out.varH hg48 27 ([.slice x0' o0' h0', .slice x1' o1' h1', .slice x2' o2' h2']) hVA)
  rw [hVA, hg48]
  clear hVA hg48
  have f1 : (q2 == q2) = true := by simp
  have f2 : (q1 == q1) = true := by simp
  have f3 : (zk == zk) = true := by simp
  have f4 : ((zn : Int) == (zn : Int)) = true := by simp
  have f5 : (pb == pb) = true := by simp
  have f6 : (pv == pv) = true := by simp
  have f7 : (vk == vk) = true := by simp
  go_wp2_with fail
  (with_reducible refine (sameSamples_c S A5 A6 n5 c5 c6 VA _ (HF.out.sl 3 rfl) (HF.out.sl 4 rfl) (Nat.le_refl _)).mono ?_)
  rintro e eB ⟨rfl, hb⟩
  replace HF := Lib.hid (HF.out.step hb)
  clear hb
  have t0 := HF.out.cell (k := 0) 8 rfl rfl
  have t1 := HF.out.cell (k := 1) 8 rfl rfl
  have t2 := HF.out.cell (k := 2) 8 rfl rfl
  have s0 := HF.out.cell (k := 0) 10 rfl rfl
  have s1 := HF.out.cell (k := 1) 10 rfl rfl
  have s2 := HF.out.cell (k := 2) 10 rfl rfl
  go_wp2_with fail
  (with_reducible refine (sameHouses_c z _ _ eB _ (HF.out.rd 7 rfl) (HF.out.rd 9 rfl) (Nat.le_refl _) HLZ.out.1 HLZ.out.2).mono ?_)
  rintro e eC ⟨rfl, hb⟩
  replace HF := Lib.hid (HF.out.step hb)
  clear hb t0 t1 t2 s0 s1 s2
  have t0 := HF.out.cell (k := 0) 12 rfl rfl
  have t1 := HF.out.cell (k := 1) 12 rfl rfl
  have t2 := HF.out.cell (k := 2) 12 rfl rfl
  have s0 := HF.out.cell (k := 0) 14 rfl rfl
  have s1 := HF.out.cell (k := 1) 14 rfl rfl
  have s2 := HF.out.cell (k := 2) 14 rfl rfl
  go_wp2_with fail
  (with_reducible refine (sameHouses_c v _ _ eC _ (HF.out.rd 11 rfl) (HF.out.rd 13 rfl) (Nat.le_refl _) HLV.out.1 HLV.out.2).mono ?_)
  rintro e eD ⟨rfl, hb⟩
  replace HF := Lib.hid (HF.out.step hb)
  clear hb t0 t1 t2 s0 s1 s2
  go_wp2_with fail
  go_ret
  exact ⟨rfl, HF.out.bel⟩
end Go.Proofs.YtbhmdnjammnlnaaGreatDoor

