/-
  Contracts: the reference's AddHeavy, FeedHeavy. No conditions.
-/
import Derived.Test.YtjmcbggdckfefaaHc
import Derived.Test.YtjmcbggdckfefaaWh
namespace Go.Proofs.Ytjmcbggdckfefaa
open Go.RowKit
attribute [local go_sem] und_cell World.cell?_alloc_some
def Pl.hvz : Heavy := ⟨[], [], 0, 0⟩
theorem hvz_ret (w w' : World) (h : Below w.heap.size w w') : Mm.Ret2 rHeavy w ⟨[], [], 0, 0⟩ false (.returned (.tuple #[.agg #[.slice none 0 0, .slice none 0 0, .int .i64 0, .int .i64 0], .bool false])) w' :=
  ⟨[.slice none 0 0, .slice none 0 0, .int .i64 0, .int .i64 0], [], rfl, rHeavy_own_mk (x := ⟨[], [], 0, 0⟩) Mm.SlOwn.nil Mm.SlOwn.nil (by show Mm.I64 0; unfold Mm.I64; omega) (by show Mm.I64 0; unfold Mm.I64; omega), List.nodup_nil, (fun b hb => by cases hb), h⟩
theorem hv_ret {w w' : World} {ts : List Mm.Thing} {x : Heavy} {v0 v1 : Value} {f0 f1 : List Nat} {a b : Int} (h : Mm.SepF [] w w' (Mm.tsl Mm.str 9 x.Names v0 f0 :: Mm.tsl Mm.int 3 x.Counts v1 f1 :: ts)) (ha : x.Gone = a) (hb : x.Total = b) (g2 : Mm.I64 a) (g3 : Mm.I64 b) :
    Mm.Ret2 rHeavy w x true (.returned (.tuple #[.agg #[v0, v1, .int .i64 a, .int .i64 b], .bool true])) w' := by
  have h1 := hv_join h ha hb g2 g3
  exact ⟨[v0, v1, .int .i64 a, .int .i64 b], f0 ++ f1, rfl, h1.at_ 0 rfl, h1.ndat (i := 0) rfl, fun k hk => (h1.new k (Mm.SepF.mem (i := 0) rfl hk)).elim (fun h => by cases h) id, h.bel0⟩
theorem word_ne {x : ByteArray} (h : Pl.word false x.data.toList = true) : x.toList ≠ [] := fun e => by
  rw [Lib.toList_data] at e
  rw [e] at h
  revert h
  decide
theorem heavy_i64 {h : Heavy} (hk : Pl.heavyOk h = true) : Mm.I64 h.Gone ∧ Mm.I64 h.Total := by
  have h1 := Pl.HIn.of_ok hk
  have := h1.gb
  have := h1.tb
  unfold Mm.I64; omega
theorem hIn_i64 {h : Heavy} {b : Int} (hk : Pl.HIn h b) (hb : b ≤ 5000000) : Mm.I64 h.Gone ∧ Mm.I64 h.Total := by
  have := hk.gb
  have := hk.tb
  unfold Mm.I64; omega
set_option maxRecDepth 100000 in
set_option maxHeartbeats 1000000 in
theorem specAddHeavy_c (h : Heavy) (cs : List Value) (name : ByteArray) (w : World) (B : Nat) (hh : rHeavy.at_ w B h cs) (hB : B ≤ w.heap.size) (hs : name.size ≤ maxLen) :
    Calls Try.prog 16 #[.agg cs.toArray, .string name] w (Mm.Ret2 rHeavy w (Pl.addHeavy h name).1 (Pl.addHeavy h name).2) := by
  have HH := Lib.hid hh
  obtain ⟨A0, n0, c0, A1, n1, c1, rfl, -⟩ := rHeavy_at hh
  clear hh
  have KS0 := Lib.hid (((Mm.SepF.start w).alloc' rfl 38 [.slice A0 n0 c0, .slice A1 n1 c1, .int .i64 h.Gone, .int .i64 h.Total]).alloc' (Mm.sz1 _ _) 38 [.slice none 0 0, .slice none 0 0, .int .i64 0, .int .i64 0])
  have HB0 := Lib.hid KS0.out.bel0
  cases kk : Pl.heavyOk h
  · have HF : Hid (Pl.addHeavy h name = (⟨[], [], 0, 0⟩, false)) := if_neg (by rw [kk]; simp)
    rw [HF.out]
    go_enter Try.func16, Try.ntmps16
    go_wp2_with first
      | (go_at_call 55; refine (specGoodHeavy_c h [.slice A0 n0 c0, .slice A1 n1 c1, .int .i64 h.Gone, .int .i64 h.Total] _ B (rHeavy.keep HH.out fun b hb => HB0.out.block b (by omega)) (by have := HB0.out.size; omega)).mono ?_; rintro e w1 ⟨rfl, hb1⟩; have KS1 := Lib.hid (KS0.out.step hb1); (have r0 := KS1.out.cell (k := 0) 0 rfl rfl); (have r1 := KS1.out.cell (k := 1) 0 rfl rfl); (have r2 := KS1.out.cell (k := 2) 0 rfl rfl); (have r3 := KS1.out.cell (k := 3) 0 rfl rfl); (have x0 := KS1.out.frz (k := 0) 0 rfl); (have x1 := KS1.out.frz (k := 1) 0 rfl); (have x2 := KS1.out.frz (k := 2) 0 rfl); (have x3 := KS1.out.frz (k := 3) 0 rfl); clear hb1)
      | (go_at_call 66; refine (l3Name_c _ _ _ hs).mono ?_; rintro e w' ⟨rfl, rfl⟩)
    exact bodyPost_ret (v := .tuple #[.agg #[.slice none 0 0, .slice none 0 0, .int .i64 0, .int .i64 0], .bool false]) (by simp [results, Try.results16, go_sem, r0, r1, r2, r3]) rfl (hvz_ret _ _ ((((KS1.out.setBlk 0 rfl _).setBlk 0 rfl _).setBlk 0 rfl _).setBlk 0 rfl _).bel0)
  have hk := kk
  cases kk : Pl.word false name.data.toList
  · have HF : Hid (Pl.addHeavy h name = (⟨[], [], 0, 0⟩, false)) := if_neg (by rw [kk]; simp)
    rw [HF.out]
    go_enter Try.func16, Try.ntmps16
    go_wp2_with first
      | (go_at_call 55; refine (specGoodHeavy_c h [.slice A0 n0 c0, .slice A1 n1 c1, .int .i64 h.Gone, .int .i64 h.Total] _ B (rHeavy.keep HH.out fun b hb => HB0.out.block b (by omega)) (by have := HB0.out.size; omega)).mono ?_; rintro e w1 ⟨rfl, hb1⟩; have KS1 := Lib.hid (KS0.out.step hb1); (have r0 := KS1.out.cell (k := 0) 0 rfl rfl); (have r1 := KS1.out.cell (k := 1) 0 rfl rfl); (have r2 := KS1.out.cell (k := 2) 0 rfl rfl); (have r3 := KS1.out.cell (k := 3) 0 rfl rfl); (have x0 := KS1.out.frz (k := 0) 0 rfl); (have x1 := KS1.out.frz (k := 1) 0 rfl); (have x2 := KS1.out.frz (k := 2) 0 rfl); (have x3 := KS1.out.frz (k := 3) 0 rfl); clear hb1)
      | (go_at_call 66; refine (l3Name_c _ _ _ hs).mono ?_; rintro e w' ⟨rfl, rfl⟩)
    exact bodyPost_ret (v := .tuple #[.agg #[.slice none 0 0, .slice none 0 0, .int .i64 0, .int .i64 0], .bool false]) (by simp [results, Try.results16, go_sem, r0, r1, r2, r3]) rfl (hvz_ret _ _ ((((KS1.out.setBlk 0 rfl _).setBlk 0 rfl _).setBlk 0 rfl _).setBlk 0 rfl _).bel0)
  have HI := Lib.hid (Pl.HIn.of_ok hk)
  have HNE := Lib.hid (word_ne kk)
  have HF : Hid (Pl.addHeavy h name = (if Pl.heavyOk (Pl.hadd h name) = true then (Pl.hadd h name, true) else (⟨[], [], 0, 0⟩, false))) := if_pos (by rw [hk, kk]; rfl)
  obtain ⟨y, hy⟩ : ∃ y, Pl.hadd h name = y := ⟨_, rfl⟩
  rw [hy] at HF
  have HY := Lib.hid hy
  clear hy
  have hpl := HI.out.pl
  have hcl := HI.out.cl
  go_enter Try.func16, Try.ntmps16
  go_wp2_with first
    | (go_at_call 55; refine (specGoodHeavy_c h [.slice A0 n0 c0, .slice A1 n1 c1, .int .i64 h.Gone, .int .i64 h.Total] _ B (rHeavy.keep HH.out fun b hb => HB0.out.block b (by omega)) (by have := HB0.out.size; omega)).mono ?_; rintro e w1 ⟨rfl, hb1⟩; have KS1 := Lib.hid (KS0.out.step hb1); (have q0 := KS1.out.cell (k := 0) 1 rfl rfl); (have q1 := KS1.out.cell (k := 1) 1 rfl rfl); (have q2 := KS1.out.cell (k := 2) 1 rfl rfl); (have q3 := KS1.out.cell (k := 3) 1 rfl rfl); clear hb1)
    | (go_at_call 66; refine (l3Name_c _ _ _ hs).mono ?_; rintro e w' ⟨rfl, rfl⟩)
    | (go_at_call 68; refine (l15OwnHeavy_c h [.slice A0 n0 c0, .slice A1 n1 c1, .int .i64 h.Gone, .int .i64 h.Total] _ B (rHeavy.keep HH.out fun b hb => KS1.out.bel0.block b (by omega)) (by have := KS1.out.bel0.size; omega) (by omega) (by omega)).mono ?_; rintro e w2 ⟨cs2, fp2, rfl, ho2, hnd2, hf2, hb2⟩; obtain ⟨A2, n2, c2, A3, n3, c3, f2, f3, hcs, HS2⟩ := hv_split (KS1.out.add hb2 (t := Mm.tow rHeavy h cs2 fp2) ho2 hnd2 hf2); subst hcs; (have HS2 := Lib.hid HS2); clear ho2 hnd2 hf2 hb2)
  have HC := l15Add_y h y name 1000000 HI.out (by omega) HNE.out hs HY.out [] w _ _ A2 A3 n2 c2 n3 c3 f2 f3 HS2.out
  with_reducible refine HC.mono ?_
  rintro e w3 ⟨A4, n4, c4, A5, n5, c5, f4, f5, rfl, HS3⟩
  have HS3 := Lib.hid HS3
  clear HC
  have HIY := Lib.hid (show Pl.HIn y (1000000 + 1) from HY.out ▸ Pl.hadd_in HI.out HNE.out)
  have HJ := Lib.hid (hIn_i64 HIY.out (by omega))
  have HS4 := Lib.hid (HS3.out.alloc' rfl 38 [.slice A4 n4 c4, .slice A5 n5 c5, .int .i64 y.Gone, .int .i64 y.Total])
  have HAT := Lib.hid (show rHeavy.at_ (w3.alloc (.cells #[.slice A4 n4 c4, .slice A5 n5 c5, .int .i64 y.Gone, .int .i64 y.Total] 38)) (w3.alloc (.cells #[.slice A4 n4 c4, .slice A5 n5 c5, .int .i64 y.Gone, .int .i64 y.Total] 38)).heap.size y [.slice A4 n4 c4, .slice A5 n5 c5, .int .i64 y.Gone, .int .i64 y.Total] from rHeavy_at_mk ((HS4.out.sl 1 rfl).weak (HS4.out.sl 1 rfl).olt) ((HS4.out.sl 2 rfl).weak (HS4.out.sl 2 rfl).olt) HJ.out.1 HJ.out.2)
  cases hz : Pl.heavyOk y
  · have HZ : Hid (Pl.addHeavy h name = (⟨[], [], 0, 0⟩, false)) := by show _ = _; rw [HF.out, hz]; rfl
    go_wp2_with (go_at_call 55; refine (specGoodHeavy_c y [.slice A4 n4 c4, .slice A5 n5 c5, .int .i64 y.Gone, .int .i64 y.Total] _ _ HAT.out (Nat.le_refl _)).mono ?_; rintro e w5 ⟨rfl, hb5⟩; (have HS5 := Lib.hid (HS4.out.step hb5)); (have r0 := HS5.out.cell (k := 0) 3 rfl rfl); (have r1 := HS5.out.cell (k := 1) 3 rfl rfl); (have r2 := HS5.out.cell (k := 2) 3 rfl rfl); (have r3 := HS5.out.cell (k := 3) 3 rfl rfl); (have x0 := HS5.out.frz (k := 0) 3 rfl); (have x1 := HS5.out.frz (k := 1) 3 rfl); (have x2 := HS5.out.frz (k := 2) 3 rfl); (have x3 := HS5.out.frz (k := 3) 3 rfl); clear hb5)
    rw [HZ.out]
    exact bodyPost_ret (v := .tuple #[.agg #[.slice none 0 0, .slice none 0 0, .int .i64 0, .int .i64 0], .bool false]) (by simp [results, Try.results16, go_sem, r0, r1, r2, r3]) rfl (hvz_ret _ _ ((((HS5.out.setBlk 3 rfl _).setBlk 3 rfl _).setBlk 3 rfl _).setBlk 3 rfl _).bel0)
  · have HZ : Hid (Pl.addHeavy h name = (y, true)) := by show _ = _; rw [HF.out, hz]; rfl
    go_wp2_with (go_at_call 55; refine (specGoodHeavy_c y [.slice A4 n4 c4, .slice A5 n5 c5, .int .i64 y.Gone, .int .i64 y.Total] _ _ HAT.out (Nat.le_refl _)).mono ?_; rintro e w5 ⟨rfl, hb5⟩; (have HS5 := Lib.hid (HS4.out.step hb5)); (have r0 := HS5.out.cell (k := 0) 3 rfl rfl); (have r1 := HS5.out.cell (k := 1) 3 rfl rfl); (have r2 := HS5.out.cell (k := 2) 3 rfl rfl); (have r3 := HS5.out.cell (k := 3) 3 rfl rfl); (have x0 := HS5.out.frz (k := 0) 3 rfl); (have x1 := HS5.out.frz (k := 1) 3 rfl); (have x2 := HS5.out.frz (k := 2) 3 rfl); (have x3 := HS5.out.frz (k := 3) 3 rfl); (have o0 := HS5.out.cell (k := 0) 0 rfl rfl); (have o1 := HS5.out.cell (k := 1) 0 rfl rfl); (have o2 := HS5.out.cell (k := 2) 0 rfl rfl); (have o3 := HS5.out.cell (k := 3) 0 rfl rfl); clear hb5)
    rw [HZ.out]
    have HS6 := Lib.hid (((((HS5.out.setBlk (k := 0) 3 rfl (.slice A4 n4 c4)).setBlk (k := 1) 3 rfl (.slice A5 n5 c5)).setBlk (k := 2) 3 rfl (.int .i64 y.Gone)).setBlk (k := 3) 3 rfl (.int .i64 y.Total))).tail
    exact bodyPost_ret (v := .tuple #[.agg #[.slice A4 n4 c4, .slice A5 n5 c5, .int .i64 y.Gone, .int .i64 y.Total], .bool true]) (by simp [results, Try.results16, go_sem, r0, r1, r2, r3]) rfl (hv_ret HS6.out rfl rfl HJ.out.1 HJ.out.2)
theorem feed_in {cur y : Heavy} {x : ByteArray} {k : Nat} (hi : Pl.HIn cur k) (hx : x.toList ≠ []) (hy : Pl.hadd cur x = y) : Pl.HIn y ((k + 1 : Nat) : Int) := by
  subst hy
  have := Pl.hadd_in hi hx
  rwa [show ((k + 1 : Nat) : Int) = (k : Int) + 1 by omega]
set_option maxRecDepth 100000 in
set_option maxHeartbeats 1000000 in
theorem specFeedHeavy_c (n : Int) (l : List ByteArray) (A : Option Addr) (nl cl : Nat) (w : World) (B : Nat) (hl : Mm.SlAt Mm.str w B l A nl cl) (hB : B ≤ w.heap.size) :
    Calls Try.prog 23 #[.int .i64 n, .slice A nl cl] w (Mm.Ret2 rHeavy w (Pl.feedHeavy n l).1 (Pl.feedHeavy n l).2) := by
  have HL := Lib.hid hl
  have hlen := Lib.hid hl.1
  have hnc : nl ≤ maxLen := Nat.le_trans hl.2.1 hl.2.2.1
  unfold maxLen at hnc
  clear hl
  have KS0 := Lib.hid ((Mm.SepF.start w).alloc' rfl 38 [.slice none 0 0, .slice none 0 0, .int .i64 0, .int .i64 0])
  cases hin : Pl.isIn n 1 6
  · have HF : Hid (Pl.feedHeavy n l = (⟨[], [], 0, 0⟩, false)) := if_neg (by rw [hin]; simp)
    rw [HF.out]
    have HN : Hid (Pl.newHeavy n = (⟨[], [], 0, 0⟩, false)) := if_neg (by rw [hin]; simp)
    have HC := specNewHeavy_c n (w.alloc (.cells #[.slice none 0 0, .slice none 0 0, .int .i64 0, .int .i64 0] 38))
    rw [HN.out] at HC
    go_enter Try.func23, Try.ntmps23
    go_wp2_with (go_at_call 52; (with_reducible refine HC.mono ?_); rintro e w1 ⟨cs1, fp1, rfl, ho1, hnd1, hf1, hb1⟩; obtain ⟨A2, n2, c2, A3, n3, c3, f2, f3, hcs, HS1⟩ := hv_split (KS0.out.add hb1 (t := Mm.tow rHeavy ⟨[], [], 0, 0⟩ cs1 fp1) ho1 hnd1 hf1); subst hcs; (have HS2 := Lib.hid (HS1.alloc' rfl 38 [.slice A2 n2 c2, .slice A3 n3 c3, .int .i64 0, .int .i64 0])); (have r0 := HS2.out.cell (k := 0) 3 rfl rfl); (have r1 := HS2.out.cell (k := 1) 3 rfl rfl); (have r2 := HS2.out.cell (k := 2) 3 rfl rfl); (have r3 := HS2.out.cell (k := 3) 3 rfl rfl); (have x0 := HS2.out.frz (k := 0) 3 rfl); (have x1 := HS2.out.frz (k := 1) 3 rfl); (have x2 := HS2.out.frz (k := 2) 3 rfl); (have x3 := HS2.out.frz (k := 3) 3 rfl); clear ho1 hnd1 hf1 hb1 HS1)
    exact bodyPost_ret (v := .tuple #[.agg #[.slice none 0 0, .slice none 0 0, .int .i64 0, .int .i64 0], .bool false]) (by simp [results, Try.results23, go_sem, r0, r1, r2, r3]) rfl (hvz_ret _ _ ((((HS2.out.setBlk 3 rfl _).setBlk 3 rfl _).setBlk 3 rfl _).setBlk 3 rfl _).bel0)
  · have h16 := Pl.isIn_iff.1 hin
    obtain ⟨pn, hpn⟩ : ∃ pn : Nat, n.toNat = pn := ⟨_, rfl⟩
    obtain ⟨y0, hy0⟩ : ∃ y0, Pl.hv0 pn = y0 := ⟨_, rfl⟩
    have HI0 := Lib.hid (hy0 ▸ Pl.hv0_in (n := pn) (by omega) (by omega))
    have HN : Hid (Pl.newHeavy n = (y0, true)) := by
      show _ = _
      unfold Pl.newHeavy
      rw [if_pos hin, hpn, ← hy0]; rfl
    have HC := specNewHeavy_c n (w.alloc (.cells #[.slice none 0 0, .slice none 0 0, .int .i64 0, .int .i64 0] 38))
    rw [HN.out] at HC
    by_cases h200 : nl ≤ 200
    · have HF : Hid (Pl.feedHeavy n l = Pl.feedFrom y0 (l.drop 0)) := by
        show _ = _
        unfold Pl.feedHeavy
        rw [if_pos ⟨hin, by rw [hlen.out]; exact h200⟩, hpn, hy0]; rfl
      clear hpn hy0 HN
      go_enter Try.func23, Try.ntmps23
      go_wp2_with (go_at_call 52; (with_reducible refine HC.mono ?_); rintro e w1 ⟨cs1, fp1, rfl, ho1, hnd1, hf1, hb1⟩; obtain ⟨A2, n2, c2, A3, n3, c3, f2, f3, hcs, HS1⟩ := hv_split (KS0.out.add hb1 (t := Mm.tow rHeavy y0 cs1 fp1) ho1 hnd1 hf1); subst hcs; (have HS1 := Lib.hid HS1); clear ho1 hnd1 hf1 hb1)
      have HS2 := Lib.hid (((HS1.out.alloc' rfl 38 [.slice A2 n2 c2, .slice A3 n3 c3, .int .i64 y0.Gone, .int .i64 y0.Total])))
      obtain ⟨g6, hg6⟩ : ∃ g6, w1.heap.size = g6 := ⟨_, rfl⟩
      rw [hg6] at HS2 ⊢
      clear hg6 HC
      go_loopg [25] nl (fun g i wx => ∃ (k : Nat) (cur : Heavy) (A2 A3 : Option Addr) (n2 c2 n3 c3 : Nat) (f2 f3 : List Nat), nl - k ≤ g ∧ k ≤ nl ∧ i = .int .i64 k ∧ Hid (Pl.HIn cur k) ∧ Hid (Pl.feedHeavy n l = Pl.feedFrom cur (l.drop k)) ∧ Hid (Mm.SepF [] w wx [Mm.tsl Mm.str 9 cur.Names (.slice A2 n2 c2) f2, Mm.tsl Mm.int 3 cur.Counts (.slice A3 n3 c3) f3, Mm.tblk g6 38 [.slice A2 n2 c2, .slice A3 n3 c3, .int .i64 cur.Gone, .int .i64 cur.Total], Mm.tblk w.heap.size 38 [.slice none 0 0, .slice none 0 0, .int .i64 0, .int .i64 0]]))
      case atStart => exact ⟨0, y0, A2, A3, n2, c2, n3, c3, f2, f3, Nat.le_refl _, Nat.zero_le _, rfl, HI0.out, HF.out, HS2.out.conv (List.Perm.trans (by simp only [List.flatMap_cons, List.flatMap_nil]; exact List.Perm.refl _) (by simp only [List.flatMap_cons, List.flatMap_nil, Mm.tblk, Mm.tsl, List.append_nil, List.singleton_append]; rw [← List.append_assoc, ← List.append_assoc]; exact List.perm_middle)) (fun u hu => HS2.out.hold u (by simp only [List.mem_cons, List.not_mem_nil, or_false] at hu ⊢; rcases hu with h | h | h | h <;> simp [h]))⟩
      case round =>
        obtain ⟨W, rfl⟩ : ∃ W : World, W = wr := ⟨_, rfl⟩
        obtain ⟨k, cur, A2, A3, n2, c2, n3, c3, f2, f3, hgk, hk, rfl, HI, HF, HS⟩ := hrel
        have hbel := HS.out.bel0
        have hsw := hbel.size
        have r0 := HS.out.cell (k := 0) 3 rfl rfl
        have r1 := HS.out.cell (k := 1) 3 rfl rfl
        have r2 := HS.out.cell (k := 2) 3 rfl rfl
        have r3 := HS.out.cell (k := 3) 3 rfl rfl
        have x0 := HS.out.frz (k := 0) 3 rfl
        have x1 := HS.out.frz (k := 1) 3 rfl
        have x2 := HS.out.frz (k := 2) 3 rfl
        have x3 := HS.out.frz (k := 3) 3 rfl
        have q0 := HS.out.cell (k := 0) 2 rfl rfl
        have q1 := HS.out.cell (k := 1) 2 rfl rfl
        have q2 := HS.out.cell (k := 2) 2 rfl rfl
        have q3 := HS.out.cell (k := 3) 2 rfl rfl
        have HJ := Lib.hid (hIn_i64 HI.out (by omega))
        by_cases hlt : k < nl
        · obtain ⟨x, b0, o0, hx, rfl, hb0, bx, e0⟩ := str_get HL.out hlt
          have e0' := below_some hbel e0
          have HD : Hid (l.drop k = x :: l.drop (k + 1)) := by
            show _ = _
            rw [List.drop_eq_getElem_cons (by rw [hlen.out]; exact hlt), (List.getElem?_eq_some_iff.1 hx).2]
          clear hx e0
          cases kk : Pl.word false x.data.toList
          · have HZ : Hid (Pl.feedHeavy n l = (⟨[], [], 0, 0⟩, false)) := by show _ = _; rw [HF.out, HD.out, Pl.feedFrom, if_neg (by rw [kk]; simp)]
            go_wp2_with (go_at_call 66; refine (l3Name_c _ _ _ bx).mono ?_; rintro e w' ⟨rfl, rfl⟩)
            rw [HZ.out]
            exact bodyPost_ret (v := .tuple #[.agg #[.slice none 0 0, .slice none 0 0, .int .i64 0, .int .i64 0], .bool false]) (by simp [results, Try.results23, go_sem, r0, r1, r2, r3]) rfl (hvz_ret _ _ ((((HS.out.setBlk 3 rfl _).setBlk 3 rfl _).setBlk 3 rfl _).setBlk 3 rfl _).bel0)
          · have HNE := Lib.hid (word_ne kk)
            obtain ⟨y, hy⟩ : ∃ y, Pl.hadd cur x = y := ⟨_, rfl⟩
            have HZ : Hid (Pl.feedHeavy n l = Pl.feedFrom y (l.drop (k + 1))) := by show _ = _; rw [HF.out, HD.out, Pl.feedFrom, if_pos kk, hy]
            have HIY := Lib.hid (feed_in HI.out HNE.out hy)
            have HC := l15Add_y cur y x k HI.out (by omega) HNE.out bx hy [] w _ _ A2 A3 n2 c2 n3 c3 f2 f3 HS.out
            clear hy
            go_wp2_with first
              | (go_at_call 66; refine (l3Name_c _ _ _ bx).mono ?_; rintro e w' ⟨rfl, rfl⟩)
              | (go_at_call 67; (with_reducible refine HC.mono ?_); rintro e w3 ⟨A4, n4, c4, A5, n5, c5, f4, f5, rfl, HS3⟩; (have HS4 := Lib.hid ((((HS3.setBlk (k := 0) 2 rfl (.slice A4 n4 c4)).setBlk (k := 1) 2 rfl (.slice A5 n5 c5)).setBlk (k := 2) 2 rfl (.int .i64 y.Gone)).setBlk (k := 3) 2 rfl (.int .i64 y.Total))); (have p0 := HS3.cell (k := 0) 2 rfl rfl); (have p1 := HS3.cell (k := 1) 2 rfl rfl); (have p2 := HS3.cell (k := 2) 2 rfl rfl); (have p3 := HS3.cell (k := 3) 2 rfl rfl); (have z0 := HS3.frz (k := 0) 2 rfl); (have z1 := HS3.frz (k := 1) 2 rfl); (have z2 := HS3.frz (k := 2) 2 rfl); (have z3 := HS3.frz (k := 3) 2 rfl); clear HS3)
            go_roundg (nl - (k + 1))
            case measure => omega
            case rel => exact ⟨k + 1, y, A4, A5, n4, c4, n5, c5, f4, f5, Nat.le_refl _, by omega, by go_num, HIY.out, HZ.out, HS4.out⟩
        · obtain rfl : k = nl := by omega
          have HZ : Hid (Pl.feedHeavy n l = (cur, true)) := by show _ = _; rw [HF.out, List.drop_of_length_le (by rw [hlen.out]; exact Nat.le_refl _)]; rfl
          go_wp2
          rw [HZ.out]
          have HS6 := Lib.hid ((((HS.out.setBlk (k := 0) 3 rfl (.slice A2 n2 c2)).setBlk (k := 1) 3 rfl (.slice A3 n3 c3)).setBlk (k := 2) 3 rfl (.int .i64 cur.Gone)).setBlk (k := 3) 3 rfl (.int .i64 cur.Total))
          exact bodyPost_ret (v := .tuple #[.agg #[.slice A2 n2 c2, .slice A3 n3 c3, .int .i64 cur.Gone, .int .i64 cur.Total], .bool true]) (by simp [results, Try.results23, go_sem, r0, r1, r2, r3]) rfl (hv_ret HS6.out rfl rfl HJ.out.1 HJ.out.2)
    · have HF : Hid (Pl.feedHeavy n l = (⟨[], [], 0, 0⟩, false)) := if_neg (by rw [hlen.out]; exact fun h => h200 h.2)
      rw [HF.out]
      go_enter Try.func23, Try.ntmps23
      go_wp2_with (go_at_call 52; (with_reducible refine HC.mono ?_); rintro e w1 ⟨cs1, fp1, rfl, ho1, hnd1, hf1, hb1⟩; obtain ⟨A2, n2, c2, A3, n3, c3, f2, f3, hcs, HS1⟩ := hv_split (KS0.out.add hb1 (t := Mm.tow rHeavy y0 cs1 fp1) ho1 hnd1 hf1); subst hcs; (have HS2 := Lib.hid (HS1.alloc' rfl 38 [.slice A2 n2 c2, .slice A3 n3 c3, .int .i64 y0.Gone, .int .i64 y0.Total])); (have r0 := HS2.out.cell (k := 0) 3 rfl rfl); (have r1 := HS2.out.cell (k := 1) 3 rfl rfl); (have r2 := HS2.out.cell (k := 2) 3 rfl rfl); (have r3 := HS2.out.cell (k := 3) 3 rfl rfl); (have x0 := HS2.out.frz (k := 0) 3 rfl); (have x1 := HS2.out.frz (k := 1) 3 rfl); (have x2 := HS2.out.frz (k := 2) 3 rfl); (have x3 := HS2.out.frz (k := 3) 3 rfl); clear ho1 hnd1 hf1 hb1 HS1)
      exact bodyPost_ret (v := .tuple #[.agg #[.slice none 0 0, .slice none 0 0, .int .i64 0, .int .i64 0], .bool false]) (by simp [results, Try.results23, go_sem, r0, r1, r2, r3]) rfl (hvz_ret _ _ ((((HS2.out.setBlk 3 rfl _).setBlk 3 rfl _).setBlk 3 rfl _).setBlk 3 rfl _).bel0)
end Go.Proofs.Ytjmcbggdckfefaa
