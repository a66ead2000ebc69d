/-
  Joined texts, in build order: LwFnHouse. Each part says what it proves; no conditions beyond those that a part names.
-/
import Derived.Test.YtbhmdnjammnlnaaGreatDoorZ01
import Derived.Test.YtbhmdnjammnlnaaGreatDoorZ06
import Derived.Test.YtbhmdnjammnlnaaGreatDoorZ09
import Derived.Deep.DeepCutAuto
import Derived.Deep.CutBlock
set_option linter.unusedVariables false
set_option linter.unusedSimpArgs false
namespace Go.Proofs.YtbhmdnjammnlnaaGreatDoor
open Go.RowKit
attribute [local go_sem] und_cell cha_cell World.cell?_alloc_some
theorem Pl.upN_mono {f : Nat → Nat} {k : Nat} : ∀ {n : Nat}, k ≤ n → Pl.upN f k ≤ Pl.upN f n
  | 0, h => by rw [show k = 0 by omega]; exact Nat.le_refl _
  | n + 1, h => by
    by_cases e : k = n + 1
    · rw [e]; exact Nat.le_refl _
    · have h1 := Pl.upN_mono (f := f) (k := k) (n := n) (by omega)
      show _ ≤ Pl.upN f n + f n
      omega
namespace Pl
theorem house_len {m : Nat} (l : List HouseStep) : (runH (newHo m) l).Logs.length = m := by rw [runH_len]; exact List.length_replicate
theorem drawnN_done {l : List HouseStep} {h : House} (hd : ∀ x, x ∈ l → StepD x) : ∀ x, x ∈ doneS h l → x.Name ∈ drawnN := by
  intro x hx
  rw [doneL_map] at hx
  obtain ⟨s, hs, rfl⟩ := List.mem_map.1 hx
  have h1 := doneL_sub l h s hs
  exact (hd s h1.1).say.wd (sayOk_word h1.2.2)
theorem house_ask {m : Nat} (h1 : 1 ≤ m) (h3 : m ≤ 3) {l : List HouseStep} (hd : ∀ x, x ∈ l → StepD x) {s : HouseStep} (hs : s ∈ doneL (newHo m) l) :
    ∃ (S : List Sample) (r : Row), askOf true (catchN (runH (newHo m) l) (runH (newHo m) l).Logs.length).1 s.What.Name 0 = (S, true, true) ∧ rowOf s.What.Name (foldS ⟨[], 0⟩ (doneS (newHo m) l)).Rows = some r ∧ r.Samples = S := by
  have hl := house_len (m := m) l
  have H := (newHo_ok h1 h3).run l
  have hb := partN_bd (n := (m : Int)) (by omega) s.What.Name
  obtain ⟨k, hk⟩ : ∃ k : Nat, partN (m : Int) s.What.Name = k := ⟨(partN (m : Int) s.What.Name).toNat, by omega⟩
  have hkm : k < m := by omega
  have hsub := doneL_sub l (newHo m) s hs
  have hp := house_plain h1 h3 (nms := drawnN) (by decide) (drawnN_done hd) hk hkm
  obtain ⟨g, a, c1, c2, c3, c4, c5, c6⟩ := catch_part H (k := k) (by rw [hl]; exact hkm)
  have hlc := catchN_len (runH (newHo m) l) (runH (newHo m) l).Logs.length
  have hex := hp.2 ⟨s.What, by rw [doneL_map]; exact List.mem_map.2 ⟨s, hs, rfl⟩, rfl⟩
  obtain ⟨r, hr⟩ := hex.2
  have h0 := hp.1
  rw [hl] at c2 c6 hlc ⊢
  rw [c6, hr] at h0
  have hA : askHd (catchN (runH (newHo m) l) m).1 s.What.Name = a := askHd_at (by rw [hlc, hl]; exact hk) c2
  refine ⟨r.Samples, r, ?_, hr, rfl⟩
  unfold askOf
  rw [if_pos ⟨rfl, sayOk_word hsub.2.2, by decide⟩, hA, if_neg (by rw [c5, c4]; omega), h0]
  rfl
end Pl
set_option maxRecDepth 100000 in
set_option maxHeartbeats 8000000 in
theorem walk_FnHouse (A : Option Addr) (n c : Nat) (code : List Int) (w : World) (tb : Tabs w) (hc : Mm.SlAt Mm.u8 w w.heap.size code A n c) :
    Calls Tryz.prog 8 #[.slice A n c] w fun e w' => e = .returned (.bool true) ∧ Below w.heap.size w w' := by
  have HTB : Hid (Tab w.heap.size w) := Tab.of tb
  have HC := Lib.hid hc
  have hlc : n ≤ maxLen := Nat.le_trans hc.2.1 hc.2.2.1
  unfold maxLen at hlc
  clear hc tb
  by_cases hbig : (1048576 : Int) < (n : Nat)
  · go_enter Tryz.func8, Tryz.ntmps8
    go_wp2
    go_ret
    exact ⟨rfl, Below.refl _ _⟩
  go_enter Tryz.func8, Tryz.ntmps8
  have HF := Lib.hid ((Mm.Facts.nil w).put (f := Mm.fsl Mm.u8 code A n c) HC.out)
  go_upto_region 4 with (go_at_call 37; refine (DrawPlayHouse_c code _ _ _ _ w.heap.size HC.out (Nat.le_refl _)).mono ?_; rintro e w1 ⟨q, l, A1, n1, c1, rfl, hq1, hq3, hl61, hld, hsl, hb⟩; (have HLD := Lib.hid hld); (replace HF := Lib.hid ((HF.out.step hb).put (f := Mm.fsl rHouseStep l A1 n1 c1) hsl)); clear hsl hb hld)
  clear hbig
  obtain ⟨m, rfl⟩ : ∃ m : Nat, q = (m : Int) := ⟨q.toNat, by omega⟩
  have hln : l.length = n1 := (HF.out.sl 1 rfl).1
  obtain ⟨x, bs, ok, hr⟩ : ∃ x bs ok, Pl.playHo (m : Int) l = (x, bs, ok) := ⟨_, _, _, rfl⟩
  have HR := Lib.hid hr
  clear hr
  have CP := implPlayHouse_c (m : Int) l A1 n1 c1 w1 _ (HF.out.sl 1 rfl) (Nat.le_refl _) (HTB.out.on HF.out.bel)
  rw [HR.out] at CP
  go_upto_region 5 with (go_at_call 13; (with_reducible refine CP.mono ?_); clear CP; rintro e w2 ⟨cs, A2, n2, c2, fp0, fp1, rfl, hs⟩; obtain ⟨a0, p0, k0, a1, p1, k1, a2, p2, k2, f0, f1, f2, rfl, -, -, -, -⟩ := hs.hoOpen; (replace HF := Lib.hid (((HF.out.step hs.bel0).put (f := Mm.frd rHouse x _) (hs.rd 0 rfl)).put (f := Mm.fsl Mm.bool bs A2 n2 c2) (hs.rdSl 1 rfl))); clear hs)
  obtain ⟨g5, hg5⟩ : ∃ g, w2.heap.size = g := ⟨_, rfl⟩
  obtain ⟨W5, hW5⟩ : ∃ W, w2.alloc (.cells (List.toArray ([.slice a0 p0 k0, .slice a1 p1 k1, .slice a2 p2 k2])) 27) = W := ⟨_, rfl⟩
  replace HF := Lib.hid (HF.out.varH hg5 27 ([.slice a0 p0 k0, .slice a1 p1 k1, .slice a2 p2 k2]) hW5)
  rw [hW5, hg5]
  clear hW5 hg5
  have CP := specPlayHouse_c (m : Int) l A1 n1 c1 W5 _ (HF.out.sl 1 rfl) (Nat.le_refl _)
  rw [HR.out] at CP
  go_upto_region 6 with (go_at_call 11; (with_reducible refine CP.mono ?_); clear CP; rintro e w3 ⟨cs, A3, n3, c3, fp0, fp1, rfl, hs⟩; obtain ⟨b0, q0, j0, b1, q1, j1, b2, q2, j2, f0, f1, f2, rfl, -, -, -, -⟩ := hs.hoOpen; (replace HF := Lib.hid (((HF.out.step hs.bel0).put (f := Mm.frd rHouse x _) (hs.rd 0 rfl)).put (f := Mm.fsl Mm.bool bs A3 n3 c3) (hs.rdSl 1 rfl))); clear hs)
  obtain ⟨g8, hg8⟩ : ∃ g, w3.heap.size = g := ⟨_, rfl⟩
  obtain ⟨W8, hW8⟩ : ∃ W, w3.alloc (.cells (List.toArray ([.slice b0 q0 j0, .slice b1 q1 j1, .slice b2 q2 j2])) 27) = W := ⟨_, rfl⟩
  replace HF := Lib.hid (HF.out.varH hg8 27 ([.slice b0 q0 j0, .slice b1 q1 j1, .slice b2 q2 j2]) hW8)
  rw [hW8, hg8]
  clear hW8 hg8
  obtain rfl : n2 = n3 := (HF.out.sl 3 rfl).1.symm.trans (HF.out.sl 6 rfl).1
  have hlens : x.Heads.length = x.Logs.length ∧ x.Kept.length = x.Logs.length := by
    have h := HR.out
    unfold Pl.playHo at h
    split at h
    · rename_i hh
      injection h with h1 h2
      have hb := Pl.isIn_iff.1 hh.1
      have h3 := (Pl.newHo_ok (n := (m : Int).toNat) (by omega) (by omega)).run l
      rw [h1] at h3
      exact ⟨h3.hdn, h3.kpn⟩
    · injection h with h _
      subst h
      exact ⟨rfl, rfl⟩
  have f1 : (ok != ok) = false := by cases ok <;> rfl
  have t0 := HF.out.cell (k := 0) 4 rfl rfl
  have t1 := HF.out.cell (k := 1) 4 rfl rfl
  have t2 := HF.out.cell (k := 2) 4 rfl rfl
  have u0 := HF.out.cell (k := 0) 7 rfl rfl
  have u1 := HF.out.cell (k := 1) 7 rfl rfl
  have u2 := HF.out.cell (k := 2) 7 rfl rfl
  go_upto_region 8 with first
    | (go_at_call 38; (with_reducible refine (sameBools_c bs A2 A3 n2 c2 c3 W8 _ (HF.out.sl 3 rfl) (HF.out.sl 6 rfl) (Nat.le_refl _)).mono ?_); rintro e w4 ⟨rfl, hb⟩; (replace HF := Lib.hid (HF.out.step hb)); clear hb t0 t1 t2 u0 u1 u2; (have t0 := HF.out.cell (k := 0) 4 rfl rfl); (have t1 := HF.out.cell (k := 1) 4 rfl rfl); (have t2 := HF.out.cell (k := 2) 4 rfl rfl); (have u0 := HF.out.cell (k := 0) 7 rfl rfl); (have u1 := HF.out.cell (k := 1) 7 rfl rfl); (have u2 := HF.out.cell (k := 2) 7 rfl rfl))
    | (go_at_call 39; (with_reducible refine (sameHouses_c x _ _ _ _ (HF.out.rd 2 rfl) (HF.out.rd 5 rfl) (Nat.le_refl _) hlens.1 hlens.2).mono ?_); rintro e w5 ⟨rfl, hb⟩; (replace HF := Lib.hid (HF.out.step hb)); clear hb t0 t1 t2 u0 u1 u2)
  clear f1 hlens
  cases ok with
  | false =>
    go_wp2_with fail
    go_ret
    exact ⟨rfl, HF.out.bel⟩
  | true =>
  have hpl : (1 ≤ m ∧ m ≤ 3) ∧ l.length ≤ 60 ∧ x = Pl.runH (Pl.newHo m) l ∧ bs = Pl.runD (Pl.newHo m) l := by
    have h := HR.out
    unfold Pl.playHo at h
    split at h
    · rename_i hh
      injection h with h1 h2
      injection h2 with h2 _
      have hb := Pl.isIn_iff.1 hh.1
      exact ⟨⟨by omega, by omega⟩, hh.2, h1.symm, h2.symm⟩
    · injection h with _ h
      injection h with _ h
      cases h
  obtain ⟨hm, hl60, hxr, hbr⟩ := hpl
  have HXR := Lib.hid hxr
  have HBR := Lib.hid hbr
  clear hxr hbr HR hl61 hq1 hq3
  have hblen : n2 = n1 := by rw [← (HF.out.sl 3 rfl).1, HBR.out, Pl.runD_len, hln]
  have HLN := Lib.hid hln
  have hn60 : n1 ≤ 60 := by omega
  have HBN := Lib.hid hblen
  clear hln hblen hl60
  go_upto_region 10 with fail
  obtain ⟨WL, hWL⟩ : ∃ W : World, W = w5 := ⟨_, rfl⟩
  subst hWL
  obtain ⟨i0, hi, hz0, hz1, hz2⟩ := info_parts Tryz.infoHStep
  go_wp2_with fail
  go_loopg [11, 71] n1 (fun gg dn i wr => ∃ (k mm : Nat) (A4 : Option Addr) (c4 : Nat) (fp : List Nat), n1 - k ≤ gg ∧ k ≤ n1 ∧ mm ≤ k ∧ i = .int .i64 k ∧ dn = .slice A4 mm c4 ∧ Hid (mm = (Pl.doneL (Pl.newHo m) (l.take k)).length) ∧ Hid (Mm.SepF [] WL wr [Mm.tsl rHouseStep 57 (Pl.doneL (Pl.newHo m) (l.take k)) (.slice A4 mm c4) fp]))
  case atStart => exact ⟨0, 0, none, 0, [], Nat.le_refl _, Nat.zero_le _, Nat.le_refl _, rfl, rfl, rfl, (Mm.SepF.start WL).add (Below.refl _ _) (t := Mm.tsl rHouseStep 57 [] (.slice none 0 0) []) Mm.SlOwn.nil List.nodup_nil (fun b hb => by cases hb)⟩
  case round =>
    obtain ⟨k, mm, A4, c4, fp, hgk, hk, hmk, rfl, rfl, hml, HD⟩ := hrel
    obtain ⟨Wr, rfl⟩ : ∃ W : World, W = wr := ⟨_, rfl⟩
    by_cases hlt : k < n1
    · have HFr := Lib.hid (HF.out.step HD.out.bel0)
      obtain ⟨s, b, off, hs, rfl, hb, g0, g1, g2, g3, g4, e0, e1, e2, e3, e4⟩ := rHouseStep_get (HFr.out.sl 1 rfl) hlt
      obtain ⟨xb, bb, ob, hxb, rfl, hbb, d0⟩ := bool_get (HFr.out.sl 3 rfl) (k := k) (by rw [HBN.out]; exact hlt)
      have HXB : Hid (xb = (Pl.stepS (Pl.runH (Pl.newHo m) (l.take k)) s).2) := Lib.hid (by
        have h1 := Pl.runD_at l (Pl.newHo m) hs
        rw [← HBR.out, hxb] at h1
        exact Option.some.inj h1)
      have HNX := Lib.hid (Pl.doneL_next (h := Pl.newHo m) hs)
      have HXO : Hid (Mm.I64 s.Kind ∧ Mm.I64 s.Part ∧ s.What.Name.size ≤ maxLen ∧ Mm.I64 s.What.At ∧ Mm.I64 s.What.Value) := Lib.hid ⟨g0, g1, g2, g3, g4⟩
      have hlt1 : (k : Int) < (n1 : Nat) := by omega
      have hlt2 : (k : Int) < (n2 : Nat) := by have := HBN.out; omega
      clear hs hxb g0 g1 g2 g3 g4
      go_upto_region 13 with fail
      obtain ⟨gs, hgs⟩ : ∃ g, Wr.heap.size = g := ⟨_, rfl⟩
      obtain ⟨W2, hW2⟩ : ∃ W, Wr.alloc (.cells #[.int .i64 s.Kind, .int .i64 s.Part, .string s.What.Name, .int .i64 s.What.At, .int .i64 s.What.Value] 57) = W := ⟨_, rfl⟩
      have HS := Lib.hid ((HD.out.alloc' hgs 57 [.int .i64 s.Kind, .int .i64 s.Part, .string s.What.Name, .int .i64 s.What.At, .int .i64 s.What.Value]).atW hW2)
      have d1 : W2.cell? ⟨bb, ob + k, none⟩ = some (.bool xb) := by rw [← hW2]; exact below_some (below_new (Below.refl _ _) _) d0
      rw [hW2, hgs]
      clear hW2 hgs d0 e0 e1 e2 e3 e4 HD
      have s0 := HS.out.cell (k := 0) 0 rfl rfl
      have s1 := HS.out.cell (k := 1) 0 rfl rfl
      have s2 := HS.out.cell (k := 2) 0 rfl rfl
      have s3 := HS.out.cell (k := 3) 0 rfl rfl
      have s4 := HS.out.cell (k := 4) 0 rfl rfl
      by_cases ht : xb = true ∧ s.Kind = 1
      · have HT : Hid (Pl.doneL (Pl.newHo m) (l.take (k + 1)) = Pl.doneL (Pl.newHo m) (l.take k) ++ [s]) := Lib.hid (by
          rw [HNX.out, if_pos]
          unfold Pl.told
          rw [← HXB.out, ht.1, decide_eq_true ht.2]; rfl)
        have g0 := ht.1
        subst g0
        have g1 : (s.Kind == 1) = true := by simpa using ht.2
        clear ht
        go_wp2_with (at_builtin; refine Mm.app_list (x := s) HS.out 1 rfl rfl (.tmp 85) (.tmp 87) 31 rfl i0 _ 48 Tryz.underlying31 hi hz0 hz1 hz2 rfl (by decide) rfl rfl (fun W => rHouseStep_own_mk HXO.out) hml.out.symm (by unfold maxLen; omega) (by omega) ?_; intro ga cap w' fp' hs4; (have HS4 := Lib.hid hs4); clear hs4)
        go_roundg (n1 - (k + 1))
        case measure => omega
        case rel => exact ⟨k + 1, mm + 1, _, cap, fp', Nat.le_refl _, by omega, by omega, by go_num, rfl, by show _ = _; rw [HT.out, List.length_append, hml.out]; rfl, by rw [HT.out]; exact HS4.out.tail⟩
      · have HT : Hid (Pl.doneL (Pl.newHo m) (l.take (k + 1)) = Pl.doneL (Pl.newHo m) (l.take k)) := Lib.hid (by
          rw [HNX.out, if_neg, List.append_nil]
          unfold Pl.told
          rw [← HXB.out, Bool.and_eq_true, decide_eq_true_eq]; exact ht)
        cases xb with
        | false =>
          clear ht
          go_wp2_with fail
          go_roundg (n1 - (k + 1))
          case measure => omega
          case rel => exact ⟨k + 1, mm, _, c4, fp, Nat.le_refl _, by omega, by omega, by go_num, rfl, by show _ = _; rw [HT.out]; exact hml.out, by rw [HT.out]; exact HS.out.tail⟩
        | true =>
          have g1 : (s.Kind == 1) = false := by simpa using ht
          clear ht
          go_wp2_with fail
          go_roundg (n1 - (k + 1))
          case measure => omega
          case rel => exact ⟨k + 1, mm, _, c4, fp, Nat.le_refl _, by omega, by omega, by go_num, rfl, by show _ = _; rw [HT.out]; exact hml.out, by rw [HT.out]; exact HS.out.tail⟩
    · obtain rfl : k = n1 := by omega
      have hlt1 : ¬ (k : Int) < (k : Nat) := by omega
      have hfull : l.take k = l := List.take_of_length_le (by have := HLN.out; omega)
      rw [hfull] at hml HD
      clear hfull
      replace HF := Lib.hid ((HF.out.step HD.out.bel0).put (f := Mm.fsl rHouseStep (Pl.doneL (Pl.newHo m) l) A4 mm c4) (HD.out.rdSl 0 rfl))
      clear HD HBR HBN hz0 hz1 hz2 hi
      go_upto_region 16 with fail
      have HDP := Lib.hid (Pl.done_plain (l := l) (h := Pl.newHo m) (by have := HLN.out; omega))
      obtain ⟨P, hP⟩ : ∃ P, Pl.foldS ⟨[], 0⟩ (Pl.doneS (Pl.newHo m) l) = P := ⟨_, rfl⟩
      have HP := Lib.hid hP
      clear hP
      have HPO : Hid (P.Offset = (mm : Int)) := Lib.hid (by rw [← HP.out, HDP.out.2.1, hml.out])
      have HPK : Hid (Pl.HeadOk P) := Lib.hid (by rw [← HP.out]; exact HDP.out.2.2)
      have CP := implPlayPlain_c (Pl.doneL (Pl.newHo m) l) A4 mm c4 Wr _ (HF.out.sl 8 rfl) (Nat.le_refl _)
      rw [HDP.out.1, HP.out] at CP
      go_upto_region 17 with (go_at_call 40; (with_reducible refine CP.mono ?_); clear CP; rintro e w6 ⟨cs, fp1, rfl, ho, hnd, hnew, hb⟩; obtain ⟨PA, pn, pc, pf, rfl, -, -, -⟩ := rHead_own ho; (replace HF := Lib.hid ((HF.out.step hb).put (f := Mm.frd rHead P _) (rHead.weak ho (rHead.olt ho)))); clear ho hnd hnew hb)
      obtain ⟨g14, hg14⟩ : ∃ g, w6.heap.size = g := ⟨_, rfl⟩
      obtain ⟨W14, hW14⟩ : ∃ W, w6.alloc (.cells (List.toArray ([.slice PA pn pc, .int .i64 P.Offset])) 73) = W := ⟨_, rfl⟩
      replace HF := Lib.hid (HF.out.varH hg14 73 ([.slice PA pn pc, .int .i64 P.Offset]) hW14)
      rw [hW14, hg14]
      clear hW14 hg14
      have HXK : Hid (Pl.HouseOk x) := Lib.hid (by rw [HXR.out]; exact (Pl.newHo_ok hm.1 hm.2).run l)
      have CU := implCatchUp_c x true ⟨fun _ => HXK.out, fun _ => rfl⟩ w.heap.size _ W14 _ (HF.out.rd 2 rfl) (Nat.le_refl _) (HTB.out.on HF.out.bel)
      rw [show Pl.catchOf true x = ((Pl.catchN x x.Logs.length).1, (Pl.catchN x x.Logs.length).2, true) from if_pos rfl] at CU
      obtain ⟨C, hC⟩ : ∃ C, (Pl.catchN x x.Logs.length).1 = C := ⟨_, rfl⟩
      obtain ⟨N, hN⟩ : ∃ N, (Pl.catchN x x.Logs.length).2 = N := ⟨_, rfl⟩
      rw [hC, hN] at CU
      have HCC := Lib.hid hC
      clear hC hN
      have t0 := HF.out.cell (k := 0) 4 rfl rfl
      have t1 := HF.out.cell (k := 1) 4 rfl rfl
      have t2 := HF.out.cell (k := 2) 4 rfl rfl
      go_upto_region 18 with (go_at_call 31; (with_reducible refine CU.mono ?_); clear CU; rintro e w7 ⟨cs, fp1, rfl, hs⟩; obtain ⟨e0, v0, s0, e1, v1, s1, e2, v2, s2, f0', f1', f2', rfl, -, -, -, -⟩ := hs.hoOpen; (replace HF := Lib.hid ((HF.out.step hs.bel0).put (f := Mm.frd rHouse C _) (hs.rd 0 rfl))); clear hs)
      clear t0 t1 t2
      obtain ⟨g16, hg16⟩ : ∃ g, w7.heap.size = g := ⟨_, rfl⟩
      obtain ⟨W16, hW16⟩ : ∃ W, w7.alloc (.cells (List.toArray ([.slice e0 v0 s0, .slice e1 v1 s1, .slice e2 v2 s2])) 27) = W := ⟨_, rfl⟩
      replace HF := Lib.hid (HF.out.varH hg16 27 ([.slice e0 v0 s0, .slice e1 v1 s1, .slice e2 v2 s2]) hW16)
      rw [hW16, hg16]
      clear hW16 hg16
      have t0 := HF.out.cell (k := 0) 4 rfl rfl
      have t1 := HF.out.cell (k := 1) 4 rfl rfl
      have t2 := HF.out.cell (k := 2) 4 rfl rfl
      have u0 := HF.out.cell (k := 0) 10 rfl rfl
      have u1 := HF.out.cell (k := 1) 10 rfl rfl
      rw [HPO.out] at u1
      have f0 : ¬ (N : Int) < 0 := by omega
      have f1 : ((mm : Int) != (mm : Int)) = false := by simp
      have CG := implGoodHouse_c x true ⟨fun _ => HXK.out, fun _ => rfl⟩ w.heap.size _ W16 _ (HF.out.rd 2 rfl) (Nat.le_refl _) (HTB.out.on HF.out.bel)
      go_upto_region 20 with (go_at_call 25; (with_reducible refine CG.mono ?_); clear CG; rintro e w8 ⟨rfl, hb⟩; (replace HF := Lib.hid (HF.out.step hb)); clear hb t0 t1 t2 u0 u1; (have u0 := HF.out.cell (k := 0) 10 rfl rfl); (have u1 := HF.out.cell (k := 1) 10 rfl rfl); rw [HPO.out] at u1)
      have HOKC : Hid (Pl.HouseOk C) := Lib.hid (by rw [← HCC.out]; exact HXK.out.catchN _)
      clear f0 f1 u0 u1
      obtain ⟨W2, hW2⟩ : ∃ W : World, W = w8 := ⟨_, rfl⟩
      subst hW2
      replace HF : Hid (Mm.Facts w W2 ([Mm.fsl rHouseStep (Pl.doneL (Pl.newHo m) l) A4 mm c4, Mm.frd rHead P [.slice PA pn pc, .int .i64 P.Offset], Mm.fbk g14 73 [.slice PA pn pc, .int .i64 P.Offset], Mm.frd rHouse C [.slice e0 v0 s0, .slice e1 v1 s1, .slice e2 v2 s2], Mm.fbk g16 27 [.slice e0 v0 s0, .slice e1 v1 s1, .slice e2 v2 s2]])) := Lib.hid (HF.out.selH [8, 9, 10, 11, 12] rfl)
      go_wp2_with fail
      go_loopg [125] mm (fun gg i wr => ∃ k : Nat, mm - k ≤ gg ∧ k ≤ mm ∧ i = .int .i64 k ∧ Hid (Mm.Facts w wr ([Mm.fsl rHouseStep (Pl.doneL (Pl.newHo m) l) A4 mm c4, Mm.frd rHead P [.slice PA pn pc, .int .i64 P.Offset], Mm.fbk g14 73 [.slice PA pn pc, .int .i64 P.Offset], Mm.frd rHouse C [.slice e0 v0 s0, .slice e1 v1 s1, .slice e2 v2 s2], Mm.fbk g16 27 [.slice e0 v0 s0, .slice e1 v1 s1, .slice e2 v2 s2]])))
      case atStart => exact ⟨0, Nat.le_refl _, Nat.zero_le _, rfl, HF⟩
      case round =>
        clear HF
        obtain ⟨k', hgk', hk', rfl, HF⟩ := hrel
        obtain ⟨W3, rfl⟩ : ∃ W : World, W = wr := ⟨_, rfl⟩
        by_cases hlt' : k' < mm
        · obtain ⟨s, b, off, hs, rfl, hb, g0, g1, g2, g3, g4, y0, y1, y2, y3, y4⟩ := rHouseStep_get (HF.out.sl 0 rfl) hlt'
          have hlt1 : (k' : Int) < (mm : Nat) := by omega
          obtain ⟨S, r, ha, hr, hrs⟩ := Pl.house_ask hm.1 hm.2 HLD.out (List.mem_of_getElem? hs)
          rw [← HXR.out, HCC.out] at ha
          rw [HP.out] at hr
          have HG2 := Lib.hid g2
          clear hs g0 g1 g3 g4
          go_upto_region 23 with fail
          obtain ⟨g20, hg20⟩ : ∃ g, W3.heap.size = g := ⟨_, rfl⟩
          obtain ⟨W20, hW20⟩ : ∃ W, W3.alloc (.cells (List.toArray ([.int .i64 s.Kind, .int .i64 s.Part, .string s.What.Name, .int .i64 s.What.At, .int .i64 s.What.Value])) 57) = W := ⟨_, rfl⟩
          replace HF := Lib.hid (HF.out.varH hg20 57 ([.int .i64 s.Kind, .int .i64 s.Part, .string s.What.Name, .int .i64 s.What.At, .int .i64 s.What.Value]) hW20)
          rw [hW20, hg20]
          clear hW20 hg20
          clear y0 y1 y2 y3 y4
          have CA := implAskHouse_c C true ⟨fun _ => HOKC.out, fun _ => rfl⟩ w.heap.size _ s.What.Name 0 W20 _ (HF.out.rd 3 rfl) (Nat.le_refl _) (HTB.out.on HF.out.bel) HG2.out
          rw [ha] at CA
          have t0 := HF.out.cell (k := 0) 4 rfl rfl
          have t1 := HF.out.cell (k := 1) 4 rfl rfl
          have t2 := HF.out.cell (k := 2) 4 rfl rfl
          have u2 := HF.out.cell (k := 2) 5 rfl rfl
          go_upto_region 24 with (go_at_call 33; (with_reducible refine CA.mono ?_); clear CA; rintro e w9 ⟨A5, n5, c5, fp5, rfl, hs5⟩; (replace HF := Lib.hid ((HF.out.step hs5.bel0).put (f := Mm.fsl smp S A5 n5 c5) (hs5.rdSl 0 rfl))); clear hs5)
          clear t0 t1 t2 u2
          have CW := implRowOf_c P s.What.Name _ w9 _ (HF.out.rd 1 rfl) (Nat.le_refl _) HPK.out HG2.out
          rw [hr] at CW
          have t0 := HF.out.cell (k := 0) 2 rfl rfl
          have t1 := HF.out.cell (k := 1) 2 rfl rfl
          have u2 := HF.out.cell (k := 2) 5 rfl rfl
          go_upto_region 25 with (go_at_call 41; (with_reducible refine CW.mono ?_); clear CW; rintro e wA ⟨A6, n6, c6, fp6, rfl, hs6⟩; (replace HF := Lib.hid ((HF.out.step hs6.bel0).put (f := Mm.fsl smp S A6 n6 c6) (hrs ▸ hs6.rdSl 0 rfl))); clear hs6)
          clear t0 t1 u2
          obtain rfl : n5 = n6 := (HF.out.sl 6 rfl).1.symm.trans (HF.out.sl 7 rfl).1
          go_wp2_with (go_at_call 42; (with_reducible refine (sameSamples_c S A5 A6 n5 c5 c6 wA _ (HF.out.sl 6 rfl) (HF.out.sl 7 rfl) (Nat.le_refl _)).mono ?_); rintro e wB ⟨rfl, hb⟩; (replace HF := Lib.hid (HF.out.step hb)); clear hb)
          go_roundg (mm - (k' + 1))
          case measure => omega
          case rel => exact ⟨k' + 1, Nat.le_refl _, by omega, by go_num, Lib.hid (HF.out.selH [0, 1, 2, 3, 4] rfl)⟩
        · obtain rfl : k' = mm := by omega
          have hlt1 : ¬ (k' : Int) < (k' : Nat) := by omega
          obtain ⟨r0, r1, -⟩ := rHouse_rd3 (HF.out.rd 3 rfl)
          have hCl : C.Logs.length = m := by rw [← HCC.out, Pl.catchN_len, HXR.out]; exact Pl.house_len l
          have hv0 : v0 = m := by rw [← r0.1, hCl]
          have hv1 : v1 = m := by rw [← r1.1, HOKC.out.hdn, hCl]
          subst hv0
          subst hv1
          clear r0 r1 hCl
          have CATCH : Hid (∀ k, k < v1 → ∃ g a, C.Logs[k]? = some g ∧ C.Heads[k]? = some a ∧ Pl.LogOk g ∧ Pl.endOf g = ((Pl.saysK x k).length : Int) ∧ a.Offset = Pl.endOf g) := Lib.hid (fun k hk => by
            have hl := Pl.house_len (m := v1) l
            obtain ⟨g, a, c1, c2, c3, c4, c5, c6⟩ := Pl.catch_part HXK.out (k := k) (by rw [HXR.out, hl]; exact hk)
            rw [HCC.out] at c1 c2
            exact ⟨g, a, c1, c2, c3, c4, c5⟩)
          have SUM : Hid (Pl.upN (fun j => (Pl.saysK x j).length) v1 = k') := Lib.hid (by
            have h1 := Pl.house_sum hm.1 hm.2 l
            rw [← HXR.out] at h1
            rw [h1, ← hml.out])
          have hk60 : k' ≤ 60 := by omega
          replace HF : Hid (Mm.Facts w W3 [Mm.frd rHouse C [.slice e0 v1 s0, .slice e1 v1 s1, .slice e2 v2 s2], Mm.fbk g16 27 [.slice e0 v1 s0, .slice e1 v1 s1, .slice e2 v2 s2]]) := Lib.hid (HF.out.selH [3, 4] rfl)
          have t0 := HF.out.cell (k := 0) 1 rfl rfl
          have t1 := HF.out.cell (k := 1) 1 rfl rfl
          have t2 := HF.out.cell (k := 2) 1 rfl rfl
          go_wp2_with fail
          clear t0 t1 t2
          go_loopg [26, 166] v1 (fun gg su i wr => ∃ (j U : Nat), v1 - j ≤ gg ∧ j ≤ v1 ∧ i = .int .i64 j ∧ su = .int .i64 U ∧ Hid (U = Pl.upN (fun j => (Pl.saysK x j).length) j) ∧ Hid (Mm.Facts w wr [Mm.frd rHouse C [.slice e0 v1 s0, .slice e1 v1 s1, .slice e2 v2 s2], Mm.fbk g16 27 [.slice e0 v1 s0, .slice e1 v1 s1, .slice e2 v2 s2]]))
          case atStart => exact ⟨0, 0, Nat.le_refl _, Nat.zero_le _, rfl, rfl, rfl, HF⟩
          case round =>
            clear HF
            obtain ⟨j, U, hgj, hj, rfl, rfl, hU, HF⟩ := hrel
            obtain ⟨W4, rfl⟩ : ∃ W : World, W = wr := ⟨_, rfl⟩
            by_cases hlt'' : j < v1
            · have hlt2 : (j : Int) < (v1 : Nat) := by omega
              have hUk : U + (Pl.saysK x j).length ≤ k' := by
                have h1 := Pl.upN_mono (f := fun j => (Pl.saysK x j).length) (k := j + 1) (n := v1) (by omega)
                rw [SUM.out] at h1
                have h2 : Pl.upN (fun j => (Pl.saysK x j).length) (j + 1) = Pl.upN (fun j => (Pl.saysK x j).length) j + (Pl.saysK x j).length := rfl
                rw [h2, ← hU.out] at h1
                exact h1
              obtain ⟨g, b, off, GA, gn, gc, hg, he0, hb, hgs, hgi, y0, y1⟩ := rLog_get (rHouse_rd3 (HF.out.rd 0 rfl)).1 hlt''
              obtain ⟨g', a, q1, q2, q3, q4, q5⟩ := CATCH.out j hlt''
              obtain rfl : g = g' := by rw [hg] at q1; exact Option.some.inj q1
              have HHA := Lib.hid q2
              have HLO := Lib.hid q3
              have HAO := Lib.hid q5
              obtain ⟨E, hE⟩ : ∃ E, (Pl.saysK x j).length = E := ⟨_, rfl⟩
              rw [hE] at hUk q4
              have HE := Lib.hid hE
              have HQ4 := Lib.hid q4
              replace HF := Lib.hid (HF.out.put (f := Mm.frd rLog g [.slice GA gn gc, .int .i64 g.Begin]) (rLog_at_mk hgs hgi))
              subst he0
              clear q1 q2 q3 q4 q5 hg hgs hgi hE
              go_upto_region 32 with fail
              obtain ⟨g28, hg28⟩ : ∃ g, W4.heap.size = g := ⟨_, rfl⟩
              obtain ⟨W28, hW28⟩ : ∃ W, W4.alloc (.cells (List.toArray ([.slice GA gn gc, .int .i64 g.Begin])) 80) = W := ⟨_, rfl⟩
              replace HF := Lib.hid (HF.out.varH hg28 80 ([.slice GA gn gc, .int .i64 g.Begin]) hW28)
              rw [hW28, hg28]
              clear hW28 hg28
              clear y0 y1
              have CE := implEndOf_c g _ W28 _ (HF.out.rd 2 rfl) (Nat.le_refl _) HLO.out
              rw [HQ4.out] at CE
              have t0 := HF.out.cell (k := 0) 3 rfl rfl
              have t1 := HF.out.cell (k := 1) 3 rfl rfl
              go_upto_region 33 with (go_at_call 43; (with_reducible refine CE.mono ?_); clear CE; rintro e wE ⟨rfl, hb⟩; (replace HF := Lib.hid (HF.out.step hb)); clear hb)
              clear t0 t1
              obtain ⟨a', b', off', HA', hn', hc', ha', he1, hb', -, -, z0, z1⟩ := rHead_get (rHouse_rd3 (HF.out.rd 0 rfl)).2.1 hlt''
              obtain rfl : a' = a := by rw [HHA.out] at ha'; exact (Option.some.inj ha').symm
              rw [HAO.out, HQ4.out] at z1
              subst he1
              have f1 : ((E : Int) != (E : Int)) = false := by simp
              have t0 := HF.out.cell (k := 0) 1 rfl rfl
              have t1 := HF.out.cell (k := 1) 1 rfl rfl
              have t2 := HF.out.cell (k := 2) 1 rfl rfl
              clear ha' z0
              go_wp2_with fail
              go_roundg (v1 - (j + 1))
              case measure => omega
              case rel => exact ⟨j + 1, U + E, Nat.le_refl _, by omega, by go_num, by go_num, by show _ = Pl.upN _ j + (Pl.saysK x j).length; rw [HE.out, hU.out], Lib.hid (HF.out.selH [0, 1] rfl)⟩
            · obtain rfl : j = v1 := by omega
              have hlt2 : ¬ (j : Int) < (j : Nat) := by omega
              obtain rfl : U = k' := by rw [hU.out]; exact SUM.out
              have f1 : ((U : Int) != (U : Int)) = false := by simp
              go_wp2_with fail
              go_ret
              exact ⟨rfl, HF.out.bel⟩
end Go.Proofs.YtbhmdnjammnlnaaGreatDoor

