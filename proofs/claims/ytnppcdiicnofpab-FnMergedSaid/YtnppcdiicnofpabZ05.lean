/-
  Joined texts, in build order: Lp, Mg, Kp, Kd, Ke, Pl, Mc, It, Pf, Pi, Mb, Pp. Each part says what it proves; no conditions beyond those that a part names.
-/
import Derived.Test.YtnppcdiicnofpabZ01
import Derived.Test.YtnppcdiicnofpabZ03
import Derived.Test.YtnppcdiicnofpabZ04
import Derived.Deep.LoopGhost
import Derived.Deep.DeepCutAuto
import Derived.Deep.CutBlock
import Derived.Deep.RegionHeld3
/-
  Contracts: one total put among others, the reference's (l14Put). No conditions beyond those named.
-/
namespace Go.Proofs.Ytnppcdiicnofpab
open Go.RowKit
attribute [local go_sem] und_cell World.cell?_alloc_some
def PutAns (fp : List Nat) (y : List Total) (w : World) (e : Ending) (w' : World) : Prop :=
  ∃ A' n' c' fp', e = .returned (.slice A' n' c') ∧ Mm.SepF fp w w' [Mm.tsl rTotal 59 y (.slice A' n' c') fp']
set_option maxRecDepth 100000 in
set_option maxHeartbeats 4000000 in
theorem l14Put_c (l : List Total) (m : Nat) (x : Total) (A1 A2 : Option Addr) (n c1 n2 c2 : Nat) (fp : List Nat) (w : World) (B : Nat) (hl : Mm.SlOwn rTotal 59 w l (.slice A1 n c1) fp) (hnd : fp.Nodup) (hT : Pl.TOk m l) (hm : m ≤ 100) (hx : Mm.SlAt rLabel w B x.Labels A2 n2 c2) (hB : B ≤ w.heap.size) (hok : Pl.totOk x = true) :
    Calls Try.prog 30 #[.slice A1 n c1, .agg #[.slice A2 n2 c2, .int .i64 x.Sum, .int .i64 x.Count, .int .i64 x.Least, .int .i64 x.Most]] w (PutAns fp (Pl.tput l x) w) := by
  obtain ⟨gb, hgb⟩ : ∃ gb, w.heap.size = gb := ⟨_, rfl⟩
  obtain ⟨W1, hW1⟩ : ∃ W1, w.alloc (.cells #[.slice A2 n2 c2, .int .i64 x.Sum, .int .i64 x.Count, .int .i64 x.Least, .int .i64 x.Most] 59) = W1 := ⟨_, rfl⟩
  have HS0 : Mm.SepF fp w w [Mm.tsl rTotal 59 l (.slice A1 n c1) fp] := Mm.SepF.one (Mm.tsl rTotal 59 l (.slice A1 n c1) fp) w hl hnd
  have hB1 : Below w.heap.size w W1 := by rw [← hW1]; exact below_new (Below.refl _ _) _
  have HS := Lib.hid ((HS0.alloc' hgb 59 [.slice A2 n2 c2, .int .i64 x.Sum, .int .i64 x.Count, .int .i64 x.Least, .int .i64 x.Most]).atW hW1)
  have HX1 := Lib.hid (hx.keep (w' := W1) fun b hb => hB1.block b (by omega))
  have hBW : B ≤ W1.heap.size := by have := hB1.size; omega
  have HLN : Hid (n = l.length) := by obtain ⟨_, _, _, hv, q1, _⟩ := hl.form; injection hv with _ q2 _; exact q2.trans q1
  have HT := Lib.hid hT
  have hn100 : n ≤ 100 := by have := hT.len; have := HLN.out; omega
  have HOK := Lib.hid hok
  obtain ⟨p, hp⟩ : ∃ p, Pl.tpos (Pl.txt x) l = p := ⟨_, rfl⟩
  have HP := Lib.hid hp
  have hpn : p ≤ n := by have := Pl.tpos_le (Pl.txt x) l; have := HLN.out; omega
  clear HS0 hl hx hT hok hp
  go_enter Try.func30, Try.ntmps30
  go_upto_region 1 with fail
  clear hW1 hB1
  have s0 := HS.out.cell (k := 0) 0 rfl rfl
  go_upto_region 2 with (go_at_call 40; (with_reducible refine (l3Text_c x.Labels A2 n2 c2 W1 B HX1.out hBW (Pl.totOk_lab HOK.out)).mono ?_); rintro e w2 ⟨rfl, hb2⟩; (have HS2 := Lib.hid (HS.out.step hb2)); (have HX2 := Lib.hid (HX1.out.keep (w' := w2) fun b hb => hb2.block b (Nat.lt_of_lt_of_le hb hBW))); (have hBW2 := Nat.le_trans hBW hb2.size); clear hb2 s0)
  clear HS HX1
  go_upto_block 0 with fail
  go_cut [6] (fun s6 wx => s6 = .int .i64 p ∧ Hid (Below w2.heap.size w2 wx))
  case first =>
    go_wp2_with fail
    go_loopg [6] n (fun g i wr => ∃ k : Nat, n - k ≤ g ∧ k ≤ p ∧ i = .int .i64 k ∧ Hid (Below w2.heap.size w2 wr))
    case atStart => exact ⟨0, Nat.le_refl _, Nat.zero_le _, rfl, Below.refl _ _⟩
    case round =>
      obtain ⟨k, hg, hk, rfl, HB⟩ := hrel
      obtain ⟨W, rfl⟩ : ∃ W : World, W = wr := ⟨_, rfl⟩
      by_cases hlt : k < n
      · have HSW := Lib.hid (HS2.out.step HB.out)
        obtain ⟨y, b, off, A4, n4, c4, hy, rfl, hb, hlb, i1, i2, i3, i4, e0, -⟩ := rTotal_get ((HSW.out.sl 1 rfl).weak (HSW.out.sl 1 rfl).olt) hlt
        have hly := HT.out.lab y (List.mem_of_getElem? hy)
        have CL := l3Text_c y.Labels A4 n4 c4 W W.heap.size hlb (Nat.le_refl _) hly
        have HY := Lib.hid hy
        have f1 : (k : Int) < (n : Nat) := by omega
        have f2 : (0 : Int) ≤ (k : Nat) := by omega
        have f3 : ((k : Nat) : Int).toNat = k := by omega
        clear hy hlb i1 i2 i3 i4
        cases hls : Pl.lessB (Pl.txt y) (Pl.txt x) with
        | true =>
          have hkp : k < p := by
            apply Classical.byContradiction
            intro hh
            have := Pl.tpos_ge (Pl.txt x) l HT.out.sort k y (by have := HP.out; omega) HY.out
            rw [hls] at this; cases this
          have hq : Op.bytesLess (Pl.labelsText y.Labels).toList (Pl.labelsText x.Labels).toList = true := hls
          clear hls
          go_wp2_with (go_at_call 40; (with_reducible refine CL.mono ?_); clear CL; rintro e w3 ⟨rfl, hb3⟩)
          go_roundg (n - (k + 1))
          case measure => omega
          case rel => exact ⟨k + 1, Nat.le_refl _, by omega, by go_num, below_step HB.out hb3⟩
        | false =>
          have HKP : Hid (k = p) := by
            show k = p
            apply Classical.byContradiction
            intro hh
            have := Pl.tpos_lt (Pl.txt x) l k y (by have := HP.out; omega) HY.out
            rw [hls] at this; cases this
          have hq : Op.bytesLess (Pl.labelsText y.Labels).toList (Pl.labelsText x.Labels).toList = false := hls
          clear hls
          go_wp2_with (go_at_call 40; (with_reducible refine CL.mono ?_); clear CL; rintro e w3 ⟨rfl, hb3⟩)
          go_meet
          exact ⟨by rw [HKP.out], below_step HB.out hb3⟩
      · have f1 : ¬ (k : Int) < (n : Nat) := by omega
        go_wp2
        go_meet
        exact ⟨by rw [show k = p by omega], HB.out⟩
  case rest =>
  obtain ⟨rfl, HB⟩ := hcut
  obtain ⟨W, rfl⟩ : ∃ W : World, W = wc := ⟨_, rfl⟩
  have HS := Lib.hid (HS2.out.step HB.out)
  have HXB := Lib.hid (HX2.out.keep (w' := W) fun b hb => HB.out.block b (Nat.lt_of_lt_of_le hb hBW2))
  have hBWW := Nat.le_trans hBW2 HB.out.size
  clear HS2 HX2 hBW2 HB
  by_cases hit : ∃ y, l[p]? = some y ∧ Pl.txt y = Pl.txt x
  · obtain ⟨y, hy, he⟩ := hit
    have HXN : Hid (Pl.tput l x = l.set p (Pl.tadd y x)) := by
      show _ = _
      exact (Pl.tput_hit (by rw [HP.out]; exact hy) he).trans (by rw [HP.out])
    have hpl : p < n := by have := (List.getElem?_eq_some_iff.1 hy).1; have := HLN.out; omega
    obtain ⟨g, hg, -, -⟩ := Mm.sl_addr (HS.out.sl 1 rfl) (by have := HLN.out; omega)
    subst hg
    obtain ⟨y', A4, n4, c4, hy', -, hlb, i1, i2, i3, i4, e0, e1, e2, e3, e4⟩ := rTotal_get' ((HS.out.sl 1 rfl).weak (HS.out.sl 1 rfl).olt) hpl
    obtain rfl : y = y' := by rw [hy] at hy'; injection hy'
    have hly := HT.out.lab y (List.mem_of_getElem? hy)
    have CL := l3Text_c y.Labels A4 n4 c4 W W.heap.size hlb (Nat.le_refl _) hly
    rw [show Pl.labelsText y.Labels = Pl.labelsText x.Labels from he] at CL
    simp only [Nat.zero_add] at e0 e1 e2 e3 e4
    have HY := Lib.hid hy
    have f1 : (p : Int) < (n : Nat) := by omega
    have f2 : (0 : Int) ≤ (p : Nat) := by omega
    have f3 : ((p : Nat) : Int).toNat = p := by omega
    clear hy hy' hlb i1 i2 i3 i4 he
    go_upto_region 7 with (go_at_call 40; (with_reducible refine CL.mono ?_); clear CL; rintro e w3 ⟨rfl, hb3⟩; (replace HS := Lib.hid (HS.out.step hb3)); (replace e0 := below_some hb3 e0); (replace e1 := below_some hb3 e1); (replace e2 := below_some hb3 e2); (replace e3 := below_some hb3 e3); (replace e4 := below_some hb3 e4); clear hb3)
    obtain ⟨go, hgo⟩ : ∃ go, w3.heap.size = go := ⟨_, rfl⟩
    obtain ⟨W4, hW4⟩ : ∃ W4, w3.alloc (.cells #[.slice A4 n4 c4, .int .i64 y.Sum, .int .i64 y.Count, .int .i64 y.Least, .int .i64 y.Most] 59) = W4 := ⟨_, rfl⟩
    have hb4 : Below w3.heap.size w3 W4 := by rw [← hW4]; exact below_new (Below.refl _ _) _
    replace HS := Lib.hid ((HS.out.alloc' hgo 59 [.slice A4 n4 c4, .int .i64 y.Sum, .int .i64 y.Count, .int .i64 y.Least, .int .i64 y.Most]).atW hW4)
    rw [hW4, hgo]
    clear hW4 hgo
    replace e0 := below_some hb4 e0
    replace e1 := below_some hb4 e1
    replace e2 := below_some hb4 e2
    replace e3 := below_some hb4 e3
    replace e4 := below_some hb4 e4
    clear hb4
    have hym := List.mem_of_getElem? HY.out
    have q1 := HT.out.sum y hym
    have q2 := HT.out.cnt y hym
    have q3 := HT.out.least y hym
    obtain ⟨-, r2, r3, r4, r5⟩ := Pl.totOk_iff.1 HOK.out
    have hw1 : IntKind.i64.wrap (y.Sum + x.Sum) = y.Sum + x.Sum := IntWalk.i64_in _ (by omega)
    have hw2 : IntKind.i64.wrap (y.Count + x.Count) = y.Count + x.Count := IntWalk.i64_in _ (by omega)
    have HI : Hid (Mm.I64 (y.Sum + x.Sum) ∧ Mm.I64 (y.Count + x.Count) ∧ Mm.I64 x.Least ∧ Mm.I64 y.Least ∧ Mm.I64 x.Most ∧ Mm.I64 y.Most) := by unfold Hid Mm.I64; omega
    clear q1 q2 q3 r2 r3 r4 r5
    obtain ⟨mi, ma, hmi, hma, HMI⟩ : ∃ mi ma, mi = (if x.Least < y.Least then x.Least else y.Least) ∧ ma = (if y.Most < x.Most then x.Most else y.Most) ∧ Hid (Mm.I64 mi ∧ Mm.I64 ma) := ⟨_, _, rfl, rfl, by
      have := HI.out
      constructor <;> split <;> simp [this]⟩
    have HMM := Lib.hid (And.intro hmi hma)
    have c1' := HS.out.cell (k := 1) 0 rfl rfl
    have c2' := HS.out.cell (k := 2) 0 rfl rfl
    have c3' := HS.out.cell (k := 3) 0 rfl rfl
    have c4' := HS.out.cell (k := 4) 0 rfl rfl
    have z1 := HS.out.frz (k := 1) 0 rfl
    have z2 := HS.out.frz (k := 2) 0 rfl
    have z3 := HS.out.frz (k := 3) 0 rfl
    have z4 := HS.out.frz (k := 4) 0 rfl
    have b1 := HS.out.cell (k := 1) 1 rfl rfl
    have b2 := HS.out.cell (k := 2) 1 rfl rfl
    have b3 := HS.out.cell (k := 3) 1 rfl rfl
    have b4 := HS.out.cell (k := 4) 1 rfl rfl
    have ne1 : gb ≠ go := fun e => HS.out.apart (i := 1) (j := 0) rfl rfl (by decide) gb (by simp [Mm.tblk]) (by simp [Mm.tblk, e])
    clear hmi hma
    have hgo : go ≠ g := fun e => HS.out.apart (i := 2) (j := 0) rfl rfl (by decide) g (HS.out.sl 2 rfl).mem_block (by simp [Mm.tblk, e])
    go_upto_if 62 with fail
    obtain ⟨W5, hW5⟩ : ∃ W5, (W4.setCell ⟨go, 1, none⟩ (.int .i64 (y.Sum + x.Sum))).setCell ⟨go, 2, none⟩ (.int .i64 (y.Count + x.Count)) = W5 := ⟨_, rfl⟩
    replace HS := Lib.hid (((HS.out.setBlk (k := 1) 0 rfl (.int .i64 (y.Sum + x.Sum))).setBlk (k := 2) 0 rfl (.int .i64 (y.Count + x.Count))).atW hW5)
    have far : ∀ (V : World) (k j : Nat) (u v : Value), V.cell? ⟨g, j, none⟩ = some v → (V.setCell ⟨go, k, none⟩ u).cell? ⟨g, j, none⟩ = some v := fun V k j u v h => by
      rw [World.cell?_setCell_other]
      · exact h
      · intro e
        injection e with e _ _
        exact hgo e
    replace e0 : W5.cell? ⟨g, p * 5, none⟩ = some (.slice A4 n4 c4) := by rw [← hW5]; exact far _ _ _ _ _ (far _ _ _ _ _ e0)
    rw [hW5]
    clear hW5 e1 e2 e3 e4 c1' c2' c3' c4' z1 z2 z3 z4 b1 b2 b3 b4 hw1 hw2
    have c3' := HS.out.cell (k := 3) 0 rfl rfl
    have z3 := HS.out.frz (k := 3) 0 rfl
    have b3 := HS.out.cell (k := 3) 1 rfl rfl
    go_cut [] (fun wx => wx.cell? ⟨g, p * 5, none⟩ = some (.slice A4 n4 c4) ∧ Hid (Mm.SepF fp w wx [Mm.tblk go 59 [.slice A4 n4 c4, .int .i64 (y.Sum + x.Sum), .int .i64 (y.Count + x.Count), .int .i64 mi, .int .i64 y.Most], Mm.tblk gb 59 [.slice A2 n2 c2, .int .i64 x.Sum, .int .i64 x.Count, .int .i64 x.Least, .int .i64 x.Most], Mm.tsl rTotal 59 l (.slice (some ⟨g, 0, none⟩) n c1) fp]))
    case first =>
      by_cases hc : x.Least < y.Least
      · go_wp2_with fail
        go_meet
        refine ⟨far _ _ _ _ _ e0, ?_⟩
        have := HS.out.setBlk (k := 3) 0 rfl (.int .i64 x.Least)
        rw [HMM.out.1, if_pos hc]
        exact this
      · go_wp2_with fail
        go_meet
        refine ⟨e0, ?_⟩
        rw [HMM.out.1, if_neg (by omega)]
        exact HS.out
    case rest =>
    clear HS e0 c3' z3 b3
    obtain ⟨e0, HS⟩ := hcut
    obtain ⟨W6, rfl⟩ : ∃ W : World, W = wc := ⟨_, rfl⟩
    have c4' := HS.out.cell (k := 4) 0 rfl rfl
    have z4 := HS.out.frz (k := 4) 0 rfl
    have b4 := HS.out.cell (k := 4) 1 rfl rfl
    go_upto_if 70 with fail
    go_cut [] (fun wx => wx.cell? ⟨g, p * 5, none⟩ = some (.slice A4 n4 c4) ∧ Hid (Mm.SepF fp w wx [Mm.tblk go 59 [.slice A4 n4 c4, .int .i64 (y.Sum + x.Sum), .int .i64 (y.Count + x.Count), .int .i64 mi, .int .i64 ma], Mm.tblk gb 59 [.slice A2 n2 c2, .int .i64 x.Sum, .int .i64 x.Count, .int .i64 x.Least, .int .i64 x.Most], Mm.tsl rTotal 59 l (.slice (some ⟨g, 0, none⟩) n c1) fp]))
    case first =>
      by_cases hc : y.Most < x.Most
      · go_wp2_with fail
        go_meet
        refine ⟨far _ _ _ _ _ e0, ?_⟩
        have := HS.out.setBlk (k := 4) 0 rfl (.int .i64 x.Most)
        rw [HMM.out.2, if_pos hc]
        exact this
      · go_wp2_with fail
        go_meet
        refine ⟨e0, ?_⟩
        rw [HMM.out.2, if_neg (by omega)]
        exact HS.out
    case rest =>
    clear HS e0 c4' z4 b4
    obtain ⟨e0, HS⟩ := hcut
    obtain ⟨W7, rfl⟩ : ∃ W : World, W = wc := ⟨_, rfl⟩
    obtain ⟨cur, hcur⟩ := (HS.out.sl 2 rfl).blk
    have hid : W7.setCell ⟨g, p * 5, none⟩ (.slice A4 n4 c4) = W7 := Mm.setCell_id hcur (hcur.cell_inv e0)
    obtain ⟨A5, n5, c5, u0, u1, u2, u3, u4⟩ := rTotal_ocell (HS.out.sl 2 rfl) (HS.out.ndat (i := 2) rfl) HY.out
    have z0 := (HS.out.sl 2 rfl).frozen (p * 5)
    have z1 := (HS.out.sl 2 rfl).frozen (p * 5 + 1)
    have z2 := (HS.out.sl 2 rfl).frozen (p * 5 + 2)
    have z3 := (HS.out.sl 2 rfl).frozen (p * 5 + 3)
    have z4 := (HS.out.sl 2 rfl).frozen (p * 5 + 4)
    have t0 := HS.out.cell (k := 0) 0 rfl rfl
    have t1 := HS.out.cell (k := 1) 0 rfl rfl
    have t2 := HS.out.cell (k := 2) 0 rfl rfl
    have t3 := HS.out.cell (k := 3) 0 rfl rfl
    have t4 := HS.out.cell (k := 4) 0 rfl rfl
    clear u0 hcur far
    go_wp2
    have hpx : p < l.length := (List.getElem?_eq_some_iff.1 HY.out).1
    have HA := Lib.hid (HS.out.putSl (x' := ⟨y.Labels, y.Sum + x.Sum, y.Count, y.Least, y.Most⟩) (u := .int .i64 (y.Sum + x.Sum)) (m := 1) 2 rfl HY.out (by decide) (fun cs fx h => by
      obtain ⟨A, n, c, f, rfl, rfl, h0, i1, i2, i3, i4⟩ := rTotal_own h
      exact rTotal_own_mk (x := ⟨y.Labels, y.Sum + x.Sum, y.Count, y.Least, y.Most⟩) h0 HI.out.1 i2 i3 i4))
    have HB := Lib.hid (HA.out.putSl (k := p) (x' := ⟨y.Labels, y.Sum + x.Sum, y.Count + x.Count, y.Least, y.Most⟩) (u := .int .i64 (y.Count + x.Count)) (m := 2) 2 rfl (List.getElem?_set_self hpx) (by decide) (fun cs fx h => by
      obtain ⟨A, n, c, f, rfl, rfl, h0, i1, i2, i3, i4⟩ := rTotal_own h
      exact rTotal_own_mk (x := ⟨y.Labels, y.Sum + x.Sum, y.Count + x.Count, y.Least, y.Most⟩) h0 i1 HI.out.2.1 i3 i4))
    have HC := Lib.hid (HB.out.putSl (k := p) (x' := ⟨y.Labels, y.Sum + x.Sum, y.Count + x.Count, mi, y.Most⟩) (u := .int .i64 mi) (m := 3) 2 rfl (List.getElem?_set_self (by rw [List.length_set]; exact hpx)) (by decide) (fun cs fx h => by
      obtain ⟨A, n, c, f, rfl, rfl, h0, i1, i2, i3, i4⟩ := rTotal_own h
      exact rTotal_own_mk (x := ⟨y.Labels, y.Sum + x.Sum, y.Count + x.Count, mi, y.Most⟩) h0 i1 i2 HMI.out.1 i4))
    have HD := Lib.hid (HC.out.putSl (k := p) (x' := ⟨y.Labels, y.Sum + x.Sum, y.Count + x.Count, mi, ma⟩) (u := .int .i64 ma) (m := 4) 2 rfl (List.getElem?_set_self (by rw [List.length_set, List.length_set]; exact hpx)) (by decide) (fun cs fx h => by
      obtain ⟨A, n, c, f, rfl, rfl, h0, i1, i2, i3, i4⟩ := rTotal_own h
      exact rTotal_own_mk (x := ⟨y.Labels, y.Sum + x.Sum, y.Count + x.Count, mi, ma⟩) h0 i1 i2 i3 HMI.out.2))
    have hlist : Pl.tput l x = (((l.set p (⟨y.Labels, y.Sum + x.Sum, y.Count, y.Least, y.Most⟩ : Total)).set p ⟨y.Labels, y.Sum + x.Sum, y.Count + x.Count, y.Least, y.Most⟩).set p ⟨y.Labels, y.Sum + x.Sum, y.Count + x.Count, mi, y.Most⟩).set p ⟨y.Labels, y.Sum + x.Sum, y.Count + x.Count, mi, ma⟩ := by
      rw [List.set_set, List.set_set, List.set_set, HXN.out]
      unfold Pl.tadd
      rw [HMM.out.1, HMM.out.2]
    go_ret
    rw [hlist]
    exact ⟨_, _, _, fp, rfl, HD.out.sel [2] (by decide) rfl⟩
  · have hmiss : ∀ o, l[p]? = some o → Pl.txt o ≠ Pl.txt x := fun o ho he => hit ⟨o, ho, he⟩
    have HXN : Hid (Pl.tput l x = Mm.insertAt l p x) := by
      show _ = _
      exact (Pl.tput_miss (by rw [HP.out]; exact hmiss)).trans (by rw [HP.out])
    have HMS := Lib.hid hmiss
    clear hmiss hit
    go_upto_region 5 with fail
    go_cut [41] (fun c wx => c = .bool false ∧ Hid (Below W.heap.size W wx))
    case first =>
      by_cases hlt : p < n
      · obtain ⟨y, b, off, A4, n4, c4, hy, rfl, hb, hlb, i1, i2, i3, i4, e0, -⟩ := rTotal_get ((HS.out.sl 1 rfl).weak (HS.out.sl 1 rfl).olt) hlt
        have hly := HT.out.lab y (List.mem_of_getElem? hy)
        have CL := l3Text_c y.Labels A4 n4 c4 W W.heap.size hlb (Nat.le_refl _) hly
        have hne := HMS.out y hy
        have hq : ((Pl.labelsText y.Labels).toList == (Pl.labelsText x.Labels).toList) = false := by
          rw [beq_eq_false_iff_ne]
          exact fun e => hne (Pl.ba_inj e)
        have f1 : (p : Int) < (n : Nat) := by omega
        have f2 : (0 : Int) ≤ (p : Nat) := by omega
        have f3 : ((p : Nat) : Int).toNat = p := by omega
        clear hy hlb i1 i2 i3 i4 hne
        go_wp2_with (go_at_call 40; (with_reducible refine CL.mono ?_); clear CL; rintro e w3 ⟨rfl, hb3⟩)
        go_meet
        exact ⟨rfl, hb3⟩
      · have f1 : ¬ (p : Int) < (n : Nat) := by omega
        go_wp2
        go_meet
        exact ⟨rfl, Below.refl _ _⟩
    case rest =>
    obtain ⟨rfl, HB⟩ := hcut
    obtain ⟨w3, rfl⟩ : ∃ W : World, W = wc := ⟨_, rfl⟩
    replace HS := Lib.hid (HS.out.step HB.out)
    have HX3 := Lib.hid (HXB.out.keep (w' := w3) fun b hb => HB.out.block b (Nat.lt_of_lt_of_le hb hBWW))
    have hBW3 := Nat.le_trans hBWW HB.out.size
    clear HB HXB hBWW
    have s0 := HS.out.cell (k := 0) 0 rfl rfl
    have z0 := HS.out.frz (k := 0) 0 rfl
    go_upto_region 15 with fail
    obtain ⟨g0, hg0⟩ : ∃ g0, w3.heap.size = g0 := ⟨_, rfl⟩
    obtain ⟨W4, hW4⟩ : ∃ W4, w3.alloc (.cells #[] 79) = W4 := ⟨_, rfl⟩
    have hb4 : Below w3.heap.size w3 W4 := by rw [← hW4]; exact below_new (Below.refl _ _) _
    have hz4 : W4.heap.size = g0 + 1 := by rw [← hW4, Mm.sz1, hg0]
    have hX4 := HX3.out.keep (w' := W4) fun b hb => hb4.block b (Nat.lt_of_lt_of_le hb hBW3)
    have ho4 : W4.ownsRow 0 79 2 (.slice (some ⟨g0, 0, none⟩) 0 0) 0 [] := ⟨rfl, .inr ⟨g0, 0, #[], rfl, Nat.zero_le _, by rw [← hW4, ← hg0]; exact heap_alloc_new w3 _, Nat.le_refl _, Nat.zero_le _, rfl, rfl⟩⟩
    have hlab6 := Pl.labelsOk_len (Pl.totOk_lab HOK.out)
    have hlx := hX4.1
    obtain ⟨iL, hiL, hL0, hLs, hLb⟩ := info_parts Try.info_clLab
    have hown : ∀ (w' : World) z, z ∈ x.Labels → rLabel.own w' z (Mm.encLab z) [] := fun w' z hz => by
      obtain ⟨i, hi, rfl⟩ := List.mem_iff_getElem.1 hz
      obtain ⟨y, b, off, cs, hy, _, _, ha, _⟩ := hX4.get (k := i) (by rw [← hX4.1]; exact hi)
      rw [List.getElem?_eq_getElem hi] at hy
      injection hy with hy
      subst hy
      exact Mm.flatA_lab.own ha w'
    obtain ⟨v5, w5, hr5, h51, h52, h53⟩ := Mm.run_append_row (P := Try.prog) (w := W4) (A := A2) (m := n2) (c := c2) (news := x.Labels.flatMap Mm.encLab) 54 54 iL _ 2 32 Try.underlying54 hiL hL0 hLs hLb rfl (by omega) ho4 (fun h => by have h3 := hX4.2.2.2.1 h; have h4 := hX4.2.1; omega) (by
        have := Mm.flat_len (E := rLabel) (enc := Mm.encLab) (fun x cs h => Mm.flatA_lab.at_ h) hX4
        rw [show rLabel.size = 2 from rfl] at this
        exact this) (fun a ha => by subst ha; exact Mm.flat_cells' (E := rLabel) (enc := Mm.encLab) (fun x cs h => Mm.flatA_lab.at_ h) hX4) (fun u hu => by
        obtain ⟨z, hz, hu⟩ := List.mem_flatMap.1 hu
        exact rLabel.one (hown W4 z hz) u hu) (by unfold maxLen; omega) (by omega)
    rw [Nat.zero_add, List.nil_append] at h51
    have hsl5 : Mm.SlOwn rLabel 79 w5 x.Labels v5 v5.ownBlock.toList := Mm.SlOwn.of_row (enc := Mm.encLab) (E := rLabel) h51 (fun z hz => hown w5 z hz) hlx
    have hb5 : Below w3.heap.size w3 w5 := hb4.grown h52 hb4.size (fun k hk => by
      simp [Value.ownBlock] at hk; omega)
    have hnew5 : ∀ b, b ∈ v5.ownBlock.toList → w3.heap.size ≤ b := fun b hb => by
      have hb' : v5.ownBlock = some b := by simpa using hb
      rcases h53 with h | h
      · rw [hb'] at h; simp [Value.ownBlock] at h; omega
      · rw [hb'] at h; injection h with h; omega
    obtain ⟨A3, n3, c3, rfl, -⟩ := hsl5.form
    have HS5 := Lib.hid (HS.out.add hb5 (t := Mm.tsl rLabel 79 x.Labels (.slice A3 n3 c3) _) hsl5 (by simp only [Mm.tsl]; cases (Value.slice A3 n3 c3).ownBlock <;> simp) hnew5)
    have HR5 := Lib.hid hr5
    have t0 := HS5.out.cell (k := 0) 1 rfl rfl
    have y0 := HS5.out.frz (k := 0) 1 rfl
    clear hr5 h51 h52 h53 hsl5 hb5 hnew5 hown ho4 hX4 hz4 hb4 hlx hlab6
    have s4 : W4.cell? ⟨gb, 0, none⟩ = some (.slice A2 n2 c2) := by rw [← hW4]; exact below_some (below_new (Below.refl w3.heap.size w3) _) s0
    go_upto_region 16 with (at_builtin; refine Lib.wpList_append_run _ rfl _ _ _ _ rfl _ _ rfl rfl _ _ HR5.out ?_)
    obtain ⟨W6, hW6⟩ : ∃ W6, w5.setCell ⟨gb, 0, none⟩ (.slice A3 n3 c3) = W6 := ⟨_, rfl⟩
    have HS6 := Lib.hid ((HS5.out.setBlk (k := 0) 1 rfl (.slice A3 n3 c3)).atW hW6)
    rw [hW6]
    clear hW6 HS5 HR5 t0 y0 s4 hW4 hg0 s0 z0 HS HX3 hBW3
    have b0 := HS6.out.cell (k := 0) 1 rfl rfl
    have b1 := HS6.out.cell (k := 1) 1 rfl rfl
    have b2 := HS6.out.cell (k := 2) 1 rfl rfl
    have b3 := HS6.out.cell (k := 3) 1 rfl rfl
    have b4 := HS6.out.cell (k := 4) 1 rfl rfl
    obtain ⟨lc, ho, h1c, hnext⟩ := HS6.out.insert 2 0 (by decide) (k := p) rfl (by rw [← HLN.out]; exact hpn) rfl (Below.refl W6.heap.size W6) (x := x) (cx := [.slice A3 n3 c3, .int .i64 x.Sum, .int .i64 x.Count, .int .i64 x.Least, .int .i64 x.Most]) (fun W h => by
      obtain ⟨i1, i2, i3, i4⟩ := totOk_i64 HOK.out
      exact rTotal_own_mk h i1 i2 i3 i4)
    rw [← HLN.out] at ho hnext
    have ho : W6.ownsRow 0 59 5 (.slice A1 n c1) n lc := ho
    have HNX := Lib.hid hnext
    clear hnext
    rcases ho.2 with ⟨hv, hn0⟩ | ⟨g, cap, cur, hv, _, hg, hnc, hcm, hcs, htake⟩
    · injection hv with e1 e2 e3
      subst e1 e3
      subst hn0
      obtain rfl : p = 0 := by omega
      obtain ⟨A8, c8, w8, e1, A10, c10, w10, e2, A11, c11, w11, e3, r4, k1, k3, n3'⟩ := put3 W6 none none 0 0 0 0 0 lc [.slice A3 n3 c3, .int .i64 x.Sum, .int .i64 x.Count, .int .i64 x.Least, .int .i64 x.Most] ho h1c hpn hn100 rfl (by simp [Value.oneCell']) (fun _ => ⟨rfl, rfl⟩) rfl (fun _ => ⟨rfl, rfl⟩) (fun a h => by cases h) (fun a h => by cases h)
      obtain ⟨fp', hsE⟩ := HNX.out _ w11 r4 (Mm.Chg.grown0 k3) (.inr n3')
      have HSE := Lib.hid hsE
      have HK := Lib.hid (And.intro e1 (And.intro e2 e3))
      replace b0 := below_some k1 b0
      replace b1 := below_some k1 b1
      replace b2 := below_some k1 b2
      replace b3 := below_some k1 b3
      replace b4 := below_some k1 b4
      clear hsE e1 e2 e3 r4 k1 k3 n3' ho h1c HNX
      have f1 : (0 : Int) ≤ (0 : Nat) := by omega
      go_upto_region 17 with (at_builtin; refine Lib.wpList_append_run _ rfl _ _ _ _ rfl _ _ rfl rfl _ _ (HK.out.1 _) ?_)
      go_upto_region 18 with (at_builtin; refine Lib.wpList_append_run _ rfl _ _ _ _ rfl _ _ rfl rfl _ _ (HK.out.2.1 _) ?_)
      go_wp2_with (at_builtin; refine Lib.wpList_append_run _ rfl _ _ _ _ rfl _ _ rfl rfl _ _ (HK.out.2.2 _) ?_)
      go_ret
      rw [HXN.out]
      exact ⟨_, _, _, fp', rfl, HSE.out.sel [2] (by decide) rfl⟩
    · injection hv with e1 e2 e3
      subst e1 e3
      have hcc : ∀ j u, lc[j]? = some u → W6.cell? ⟨g, j, none⟩ = some u := fun j u hj => by
        have := ho.cells (g := g) rfl j u hj
        rwa [Mm.add0] at this
      have hcl := ho.1
      unfold maxLen at hcm
      clear hg hcs htake
      have hs1 : ∀ (q : Nat) (a : Addr), (some (⟨g, 0, none⟩ : Addr)) = some a → ∀ j u, (lc.take q)[j]? = some u → W6.cell? (a.add j) = some u := by
        intro q a ha j u hj
        injection ha with ha
        subst ha
        rw [Mm.add0]
        rw [List.getElem?_take] at hj
        split at hj
        · exact hcc j u hj
        · cases hj
      have hs3 : ∀ (q : Nat) (a : Addr), (some (⟨g, q, none⟩ : Addr)) = some a → ∀ j u, (lc.drop q)[j]? = some u → W6.cell? (a.add j) = some u := by
        intro q a ha j u hj
        injection ha with ha
        subst ha
        rw [Addr.add_lit]
        rw [List.getElem?_drop] at hj
        exact hcc _ u hj
      by_cases hcp : c1 = p
      · subst hcp
        obtain ⟨A8, c8, w8, e1, A10, c10, w10, e2, A11, c11, w11, e3, r4, k1, k3, n3'⟩ := put3 W6 (some ⟨g, 0, none⟩) (some ⟨g, 0, none⟩) n c1 0 c1 0 lc [.slice A3 n3 c3, .int .i64 x.Sum, .int .i64 x.Count, .int .i64 x.Least, .int .i64 x.Most] ho h1c hpn hn100 rfl (by simp [Value.oneCell']) (fun h => by cases h) (by omega) (fun h => by cases h) (hs1 _) (fun a ha j u hj => by rw [List.drop_of_length_le (by omega)] at hj; simp at hj)
        obtain ⟨fp', hsE⟩ := HNX.out _ w11 r4 (Mm.Chg.grown0 k3) (.inr n3')
        have HSE := Lib.hid hsE
        have HK := Lib.hid (And.intro e1 (And.intro e2 e3))
        replace b0 := below_some k1 b0
        replace b1 := below_some k1 b1
        replace b2 := below_some k1 b2
        replace b3 := below_some k1 b3
        replace b4 := below_some k1 b4
        clear hsE e1 e2 e3 r4 k1 k3 n3' ho h1c HNX
        have f1 : (0 : Int) ≤ (c1 : Nat) := by omega
        go_upto_region 17 with (at_builtin; refine Lib.wpList_append_run _ rfl _ _ _ _ rfl _ _ rfl rfl _ _ (HK.out.1 _) ?_)
        go_upto_region 18 with (at_builtin; refine Lib.wpList_append_run _ rfl _ _ _ _ rfl _ _ rfl rfl _ _ (HK.out.2.1 _) ?_)
        go_wp2_with (at_builtin; refine Lib.wpList_append_run _ rfl _ _ _ _ rfl _ _ rfl rfl _ _ (HK.out.2.2 _) ?_)
        go_ret
        rw [HXN.out]
        exact ⟨_, _, _, fp', rfl, HSE.out.sel [2] (by decide) rfl⟩
      · have hcp2 : ¬ (c1 = p) := hcp
        obtain ⟨A8, c8, w8, e1, A10, c10, w10, e2, A11, c11, w11, e3, r4, k1, k3, n3'⟩ := put3 W6 (some ⟨g, 0, none⟩) (some ⟨g, p * 5, none⟩) n p (n - p) c1 (c1 - p) lc [.slice A3 n3 c3, .int .i64 x.Sum, .int .i64 x.Count, .int .i64 x.Least, .int .i64 x.Most] ho h1c hpn hn100 rfl (by simp [Value.oneCell']) (fun h => by cases h) rfl (fun h => by cases h) (hs1 _) (hs3 _)
        obtain ⟨fp', hsE⟩ := HNX.out _ w11 r4 (Mm.Chg.grown0 k3) (.inr n3')
        have HSE := Lib.hid hsE
        have HK := Lib.hid (And.intro e1 (And.intro e2 e3))
        replace b0 := below_some k1 b0
        replace b1 := below_some k1 b1
        replace b2 := below_some k1 b2
        replace b3 := below_some k1 b3
        replace b4 := below_some k1 b4
        clear hsE e1 e2 e3 r4 k1 k3 n3' ho h1c HNX
        have f1 : (0 : Int) ≤ (p : Nat) := by omega
        go_upto_region 17 with (at_builtin; refine Lib.wpList_append_run _ rfl _ _ _ _ rfl _ _ rfl rfl _ _ (HK.out.1 _) ?_)
        go_upto_region 18 with (at_builtin; refine Lib.wpList_append_run _ rfl _ _ _ _ rfl _ _ rfl rfl _ _ (HK.out.2.1 _) ?_)
        go_wp2_with (at_builtin; refine Lib.wpList_append_run _ rfl _ _ _ _ rfl _ _ rfl rfl _ _ (HK.out.2.2 _) ?_)
        go_ret
        rw [HXN.out]
        exact ⟨_, _, _, fp', rfl, HSE.out.sel [2] (by decide) rfl⟩
end Go.Proofs.Ytnppcdiicnofpab

/-
  Contracts: MergeTotals, the program's and the reference's. No conditions.
-/
namespace Go.Proofs.Ytnppcdiicnofpab
open Go.RowKit
attribute [local go_sem] und_cell World.cell?_alloc_some
theorem Pl.totalsOk_all {l : List Total} (h : Pl.totalsOk l = true) : ∀ x, x ∈ l → Pl.totOk x = true := fun x hx => by
  obtain ⟨i, hi, rfl⟩ := List.mem_iff_getElem.1 hx
  exact Pl.totalsOk_at h (List.getElem?_eq_getElem hi)
end Go.Proofs.Ytnppcdiicnofpab

/-
  Contracts: which labels are kept, the program's (keepLabels and what it calls). No conditions beyond those named.
-/
namespace Go.Proofs.Ytnppcdiicnofpab
open Go.RowKit
attribute [local go_sem] und_cell World.cell?_alloc_some
def Pl.hasN (names : List ByteArray) (s : ByteArray) : Bool := decide (0 ≤ Pl.idx names s)
def Pl.keepL (l : List Label) (names : List ByteArray) : List Label := l.filter fun x => Pl.hasN names x.Name
theorem Pl.keepL_snoc (l : List Label) (names : List ByteArray) (x : Label) : Pl.keepL (l ++ [x]) names = Pl.keepL l names ++ if Pl.hasN names x.Name = true then [x] else [] := by
  unfold Pl.keepL
  rw [List.filter_append, List.filter_cons, List.filter_nil]
theorem Pl.keepL_next {l : List Label} {names : List ByteArray} {k : Nat} {x : Label} (h : l[k]? = some x) : Pl.keepL (l.take (k + 1)) names = Pl.keepL (l.take k) names ++ if Pl.hasN names x.Name = true then [x] else [] := by
  obtain ⟨hk, hx⟩ := List.getElem?_eq_some_iff.1 h
  rw [List.take_succ_eq_append_getElem hk, hx, Pl.keepL_snoc]
theorem kIdx_c (l : List ByteArray) (A : Option Addr) (n c : Nat) (v : ByteArray) (w : World) (B : Nat) (hl : Mm.SlAt Mm.str w B l A n c) :
    Calls Try.prog 63 #[.slice A n c, .string v] w fun e w' => e = .returned (.int .i64 (Pl.idx l v)) ∧ w = w' := by
  have hlen : Hid (l.length = n) := hl.1
  have hn : n ≤ 9223372036854775807 := by have := hl.2.1; have := hl.2.2.1; unfold maxLen at this; omega
  have HL := Lib.hid hl
  clear hl
  go_enter Try.func63, Try.ntmps63
  go_wp2
  go_loopg [8] n (fun g i wr => wr = w ∧ ∃ k : Nat, n - k ≤ g ∧ k ≤ n ∧ i = .int .i64 k ∧ Hid (Pl.idx l v = Pl.idxFrom l v (n - k) k))
  case atStart => exact ⟨rfl, 0, Nat.le_refl _, Nat.zero_le _, rfl, by show _ = _; unfold Pl.idx; rw [hlen.out]; rfl⟩
  case round =>
    obtain ⟨rfl, k, hgk, hk, rfl, HU⟩ := hrel
    by_cases hlt : k < n
    · obtain ⟨x, b0, off, hx, rfl, hb, b1, d1⟩ := str_get HL.out hlt
      have HX := Lib.hid (Pl.strAt_of hx)
      clear hx
      cases he : (v.toList == x.toList)
      · have hne : Hid (x ≠ v) := fun e => by subst e; simp at he
        have HN := Lib.hid (Pl.idx_no HU.out hlt (by rw [HX.out]; exact hne.out))
        go_wp2
        go_roundg (n - (k + 1))
        case measure => omega
        case rel => exact ⟨rfl, k + 1, Nat.le_refl _, by omega, by go_num, HN.out⟩
      · have hq : Hid (x = v) := by
          have h1 : v.toList = x.toList := by simpa using he
          rw [Lib.toList_data, Lib.toList_data] at h1
          exact (WideShapes.bytes_inj h1).symm
        have HN := Lib.hid (Pl.idx_yes hlen.out HU.out hlt (by rw [HX.out]; exact hq.out))
        go_wp2
        go_ret
        exact ⟨ret_int HN.out.symm, rfl⟩
    · have HN := Lib.hid (Pl.idx_end HU.out hlt)
      go_wp2
      go_ret
      exact ⟨ret_int HN.out.symm, rfl⟩
theorem kHas_c (l : List ByteArray) (A : Option Addr) (n c : Nat) (v : ByteArray) (w : World) (B : Nat) (hl : Mm.SlAt Mm.str w B l A n c) :
    Calls Try.prog 50 #[.slice A n c, .string v] w fun e w' => e = .returned (.bool (Pl.hasN l v)) ∧ w = w' := by
  obtain ⟨b, hb⟩ : ∃ b, Pl.hasN l v = b := ⟨_, rfl⟩
  obtain ⟨i, hi⟩ : ∃ i, Pl.idx l v = i := ⟨_, rfl⟩
  have C := kIdx_c l A n c v w B hl
  rw [hi] at C
  rw [hb]
  unfold Pl.hasN at hb
  rw [hi] at hb
  clear hi
  cases b with
  | true =>
    have h : 0 ≤ i := by simpa using hb
    clear hb
    go_enter Try.func50, Try.ntmps50
    go_wp2_with (go_at_call 63; (with_reducible refine C.mono ?_); rintro e w' ⟨rfl, rfl⟩)
    go_ret
    exact ⟨rfl, rfl⟩
  | false =>
    have h : decide ((0 : Int) ≤ i) = false := hb
    clear hb
    go_enter Try.func50, Try.ntmps50
    go_wp2_with (go_at_call 63; (with_reducible refine C.mono ?_); rintro e w' ⟨rfl, rfl⟩)
    go_ret
    exact ⟨rfl, rfl⟩
/-- what the function on labels captures: the list of names, in a variable of its own -/
structure Caps (names : List ByteArray) (A : Option Addr) (n c gn B : Nat) (w : World) : Prop where
  cell : w.cell? ⟨gn, 0, none⟩ = some (.slice A n c)
  sl : Mm.SlAt Mm.str w B names A n c
  lt : gn < w.heap.size
  le : B ≤ w.heap.size
theorem Caps.bel {names : List ByteArray} {A : Option Addr} {n c gn B : Nat} {w w' : World} (h : Caps names A n c gn B w) (hb : Below w.heap.size w w') : Caps names A n c gn B w' :=
  ⟨below_some hb h.cell, h.sl.keep fun b hb' => hb.block b (Nat.lt_of_lt_of_le hb' h.le), Nat.lt_of_lt_of_le h.lt hb.size, Nat.le_trans h.le hb.size⟩
theorem Caps.chg {names : List ByteArray} {A : Option Addr} {n c gn B : Nat} {w w' : World} {fp : List Nat} (h : Caps names A n c gn B w) (hc : Mm.Chg fp w w') (h1 : gn ∉ fp) (h2 : ∀ b, b ∈ fp → B ≤ b) : Caps names A n c gn B w' :=
  ⟨(World.cell?_of_block (hc.block gn h.lt h1)).trans h.cell, h.sl.keep fun b hb => hc.block b (Nat.lt_of_lt_of_le hb h.le) (fun hm => by have := h2 b hm; omega), Nat.lt_of_lt_of_le h.lt hc.size, Nat.le_trans h.le hc.size⟩
theorem kClos_c (names : List ByteArray) (A : Option Addr) (n c gn B : Nat) (x : Label) (w : World) (h : Caps names A n c gn B w) :
    Calls Try.prog 49 #[.agg #[.string x.Name, .string x.Value], .pointer (some ⟨gn, 0, none⟩)] w fun e w' => e = .returned (.bool (!Pl.hasN names x.Name)) ∧ Below w.heap.size w w' := by
  have hb := below_new (Below.refl w.heap.size w) (.cells #[.string x.Name, .string x.Value] 79)
  have h1 := h.bel hb
  have C := kHas_c names A n c x.Name _ B h1.sl
  have hc := h.cell
  have HB := Lib.hid hb
  clear h h1 hb
  obtain ⟨hv, hhv⟩ : ∃ hv, Pl.hasN names x.Name = hv := ⟨_, rfl⟩
  rw [hhv] at C ⊢
  clear hhv
  go_enter Try.func49, Try.ntmps49
  go_wp2_with (go_at_call 50; (with_reducible refine C.mono ?_); rintro e w' ⟨rfl, rfl⟩)
  cases hv <;> (go_ret; exact ⟨rfl, HB.out⟩)
/-- the place of the first label that goes -/
def Found (names : List ByteArray) (l : List Label) (i : Int) : Prop :=
  (i = -1 ∧ ∀ (j : Nat) x, l[j]? = some x → Pl.hasN names x.Name = true) ∨ ∃ (k : Nat) (x : Label), i = k ∧ l[k]? = some x ∧ Pl.hasN names x.Name = false ∧ ∀ (j : Nat) y, j < k → l[j]? = some y → Pl.hasN names y.Name = true
set_option maxRecDepth 100000 in
theorem kFind_c (names : List ByteArray) (A' : Option Addr) (n' c' gn B : Nat) (l : List Label) (A : Option Addr) (n c : Nat) (w : World) (h : Caps names A' n' c' gn B w) (hl : Mm.SlAt rLabel w w.heap.size l A n c) :
    Calls Try.prog 62 #[.slice A n c, .func (Fn.func 49) #[] #[.pointer (some ⟨gn, 0, none⟩)]] w fun e w' => ∃ i, e = .returned (.int .i64 i) ∧ Found names l i ∧ Below w.heap.size w w' := by
  have hn : n ≤ 9223372036854775807 := by have := hl.2.1; have := hl.2.2.1; unfold maxLen at this; omega
  have hlen : Hid (l.length = n) := hl.1
  have HL := Lib.hid hl
  have HC := Lib.hid h
  clear hl h
  go_enter Try.func62, Try.ntmps62
  go_wp2
  go_loopg [5, 8] n (fun g _ i wr => ∃ k : Nat, n - k ≤ g ∧ k ≤ n ∧ i = .int .i64 k ∧ Hid (∀ (j : Nat) y, j < k → l[j]? = some y → Pl.hasN names y.Name = true) ∧ Hid (Below w.heap.size w wr))
  case atStart => exact ⟨0, Nat.le_refl _, Nat.zero_le _, rfl, fun j y hj => absurd hj (Nat.not_lt_zero _), Below.refl _ _⟩
  case round =>
    obtain ⟨k, hgk, hk, rfl, HA, HB⟩ := hrel
    obtain ⟨W, rfl⟩ : ∃ W : World, W = wr := ⟨_, rfl⟩
    by_cases hlt : k < n
    · obtain ⟨x, b, off, hx, rfl, hb, i1, i2, e0, e1⟩ := rLabel_get (HL.out.keep (w' := W) fun b hb => HB.out.block b hb) hlt
      have HX := Lib.hid hx
      have C := kClos_c names A' n' c' gn B x W (HC.out.bel HB.out)
      have f1 : (k : Int) < (n : Nat) := by omega
      have f2 : (0 : Int) ≤ (k : Nat) := by omega
      have f3 : ((k : Nat) : Int).toNat = k := by omega
      clear hx i1 i2
      cases hs : Pl.hasN names x.Name with
      | true =>
        rw [hs] at C
        have HS := Lib.hid hs
        clear hs
        go_wp2_with (go_at_call 49; (with_reducible refine C.mono ?_); clear C; rintro e w1 ⟨rfl, hb1⟩)
        go_roundg (n - (k + 1))
        case measure => omega
        case rel => exact ⟨k + 1, Nat.le_refl _, by omega, by go_num, (fun j y hj hy => by
          rcases Nat.lt_succ_iff_lt_or_eq.1 hj with h1 | rfl
          · exact HA.out j y h1 hy
          · rw [HX.out] at hy; injection hy with hy; rw [← hy]; exact HS.out), below_step HB.out hb1⟩
      | false =>
        rw [hs] at C
        have HS := Lib.hid hs
        clear hs
        go_wp2_with (go_at_call 49; (with_reducible refine C.mono ?_); clear C; rintro e w1 ⟨rfl, hb1⟩)
        go_ret
        exact ⟨_, rfl, .inr ⟨k, x, rfl, HX.out, HS.out, HA.out⟩, below_step HB.out hb1⟩
    · go_wp2
      go_ret
      exact ⟨_, rfl, .inl ⟨rfl, fun j x hx => HA.out j x (by have := (List.getElem?_eq_some_iff.1 hx).1; have := hlen.out; omega) hx⟩, HB.out⟩
end Go.Proofs.Ytnppcdiicnofpab

/-
  Contracts: labels struck out (slices.DeleteFunc), and keepLabels of the program. No conditions beyond those named.
-/
namespace Go.Proofs.Ytnppcdiicnofpab
open Go.RowKit
attribute [local go_sem] und_cell World.cell?_alloc_some
theorem Mm.flatN_lab : Mm.FlatN rLabel Mm.encLab := ⟨by decide, fun h => by
  obtain ⟨rfl, h1, rfl⟩ := rLabel_own h
  exact ⟨rfl, rfl, fun w' => rLabel_own_mk h1⟩⟩
theorem Mm.run_clear_k {P : Program} (w : World) (t e ty : TypeId) (z : Value) (ht : P.underlying t = some (.slice e)) (hv : ∀ w, (zeroValue e).run P w = .ok z w) (h1 : ∀ u ∈ z.cells, u.oneCell' = true) (b o c m : Nat) (hm0 : 0 < m) (zs : List Value) (hzs : zs = (Builtin.zeroCells z.cells m).toList)
    (hc : ∀ j, j < zs.length → (w.cell? ⟨b, o + j, none⟩).isSome = true) (hf : ∀ j, j < zs.length → w.frozen? ⟨b, o + j, none⟩ = false) :
    (Builtin.clear_ #[t] ty #[.slice (some ⟨b, o, none⟩) m c]).run P w = .ok (.tuple #[]) (w.setCells b o zs) := by
  have hone : ∀ u ∈ zs, u.oneCell' = true := fun u hu => by
    rw [hzs] at hu
    obtain ⟨i, hi, rfl⟩ := List.mem_iff_getElem.1 hu
    simp only [Builtin.zeroCells, Array.getElem_toList, Array.getElem_ofFn]
    have hi' : i < m * z.cells.size := by simpa [Builtin.zeroCells] using hi
    have h0 : 0 < z.cells.size := Nat.pos_of_ne_zero (fun h => by rw [h, Nat.mul_zero] at hi'; omega)
    have hlt : i % z.cells.size < z.cells.size := Nat.mod_lt _ h0
    refine h1 _ ?_
    simp [hlt]
  have hst := run_storeCells_cells (P := P) b o zs 0 w (by simpa using hc) (by simpa using hf) hone
  simp only [Nat.add_zero] at hst
  obtain ⟨m', rfl⟩ : ∃ m', m = m' + 1 := ⟨m - 1, by omega⟩
  simp [Builtin.clear_, run_underlying ht, hv, ← hzs, hst]
theorem Pl.keepL_all {l : List Label} {names : List ByteArray} (h : ∀ (j : Nat) x, l[j]? = some x → Pl.hasN names x.Name = true) : Pl.keepL l names = l := by
  unfold Pl.keepL
  rw [List.filter_eq_self]
  intro x hx
  obtain ⟨i, hi, rfl⟩ := List.mem_iff_getElem.1 hx
  exact h i _ (List.getElem?_eq_getElem hi)
set_option maxRecDepth 100000 in
set_option maxHeartbeats 2000000 in
theorem kDel_c (names : List ByteArray) (A' : Option Addr) (n' c' gn B : Nat) (l : List Label) (A : Option Addr) (n c : Nat) (fp : List Nat) (w : World) (h : Caps names A' n' c' gn B w) (hs : Mm.SlOwn rLabel 79 w l (.slice A n c) fp) (hnd : fp.Nodup) (h1 : gn ∉ fp) (h2 : ∀ b, b ∈ fp → B ≤ b) (hn : n ≤ 1000) :
    Calls Try.prog 47 #[.slice A n c, .func (Fn.func 49) #[] #[.pointer (some ⟨gn, 0, none⟩)]] w fun e w' => ∃ A2 n2 c2, e = .returned (.slice A2 n2 c2) ∧ Mm.SepF fp w w' [Mm.tsl rLabel 79 (Pl.keepL l names) (.slice A2 n2 c2) fp] := by
  have HS0 : Hid (Mm.SepF fp w w [Mm.tsl rLabel 79 l (.slice A n c) fp]) := Mm.SepF.one (Mm.tsl rLabel 79 l (.slice A n c) fp) w hs hnd
  have HLN : Hid (l.length = n) := by obtain ⟨_, _, _, hv, q1, _⟩ := hs.form; injection hv with _ q2 _; exact (q2.trans q1).symm
  have HC := Lib.hid h
  have HQ := Lib.hid (And.intro h1 h2)
  have CF := kFind_c names A' n' c' gn B l A n c w h (hs.weak hs.olt)
  clear h hs h1 h2
  go_enter Try.func47, Try.ntmps47
  go_upto_if 12 with (go_at_call 62; (with_reducible refine CF.mono ?_); clear CF; rintro e w1 ⟨i0, rfl, hfd, hb1⟩; (have HS := Lib.hid (HS0.out.step hb1)); clear hb1)
  rcases hfd with ⟨rfl, hall⟩ | ⟨k, x0, rfl, hx0, hno, hall⟩
  · have HK := Lib.hid (Pl.keepL_all hall)
    clear hall
    go_wp2
    go_ret
    exact ⟨_, _, _, rfl, by rw [HK.out]; exact HS.out⟩
  · have hkn : k < n := by have := (List.getElem?_eq_some_iff.1 hx0).1; have := HLN.out; omega
    obtain ⟨g, hg, -, -⟩ := Mm.sl_addr (HS.out.sl 0 rfl) (by have := HLN.out; omega)
    subst hg
    have HST : Hid (l.take k = Pl.keepL (l.take (k + 1)) names) := by
      show _ = _
      rw [Pl.keepL_next hx0, if_neg (by rw [hno]; simp), List.append_nil]
      refine (Pl.keepL_all (names := names) (fun j x hx => by
        rw [List.getElem?_take] at hx
        split at hx
        · rename_i hq
          exact hall j x hq hx
        · cases hx)).symm
    have f0 : ¬ ((k : Int) = -1) := by omega
    have f1 : IntKind.i64.wrap ((k : Int) + 1) = (k : Int) + 1 := IntWalk.i64_in _ (by omega)
    obtain ⟨fpg, rfl⟩ : ∃ q, fp = q := ⟨_, rfl⟩
    clear hall hx0 hno
    go_wp2
    go_loopg [5, 6] n (fun gg s5 s6 wr => ∃ (i j : Nat) (ys : List Label), n - j ≤ gg ∧ i < j ∧ j ≤ n ∧ s5 = .int .i64 i ∧ s6 = .int .i64 j ∧ Hid (ys.length = n) ∧ Hid (ys.take i = Pl.keepL (l.take j) names) ∧ Hid (ys.drop j = l.drop j) ∧ Hid (Mm.SepF fp w wr [Mm.tsl rLabel 79 ys (.slice (some ⟨g, 0, none⟩) n c) fp]))
    case atStart => exact ⟨k, k + 1, l, by omega, by omega, by omega, rfl, by go_num, HLN.out, HST.out, rfl, HS.out⟩
    case round =>
      obtain ⟨i, j, ys, hgg, hij, hjn, rfl, rfl, HYL, HYT, HYD, HS⟩ := hrel
      obtain ⟨W, rfl⟩ : ∃ W : World, W = wr := ⟨_, rfl⟩
      by_cases hlt : j < n
      · obtain ⟨x, b, off, hx, hA, hb, i1, i2, e0, e1⟩ := rLabel_get ((HS.out.sl 0 rfl).weak (HS.out.sl 0 rfl).olt) hlt
        injection hA with hA
        injection hA with hA1 hA2
        subst hA1 hA2
        simp only [Nat.zero_add] at e0 e1
        have hxl : l[j]? = some x := by
          have := congrArg (fun z => z[0]?) HYD.out
          simp only [List.getElem?_drop, Nat.add_zero] at this
          rw [← this]; exact hx
        have HX := Lib.hid (And.intro hx (Pl.keepL_next (names := names) hxl))
        have HIB := Lib.hid (And.intro i1 i2)
        clear hx hxl i1 i2 hb
        obtain ⟨gv, hgv⟩ : ∃ gv, W.heap.size = gv := ⟨_, rfl⟩
        obtain ⟨W1, hW1⟩ : ∃ W1, W.alloc (.cells #[.string x.Name, .string x.Value] 79) = W1 := ⟨_, rfl⟩
        have HS1 := Lib.hid ((HS.out.alloc' hgv 79 [.string x.Name, .string x.Value]).atW hW1)
        have f2 : (j : Int) < (n : Nat) := by omega
        have f3 : (0 : Int) ≤ (j : Nat) := by omega
        have f4 : ((j : Nat) : Int).toNat = j := by omega
        go_upto_region 8 with fail
        clear hW1 e0 e1
        have t0 := HS1.out.cell (k := 0) 0 rfl rfl
        have t1 := HS1.out.cell (k := 1) 0 rfl rfl
        have CK := kClos_c names A' n' c' gn B x W1 (HC.out.chg HS1.out.chg HQ.out.1 HQ.out.2)
        cases hk : Pl.hasN names x.Name with
        | false =>
          rw [hk] at CK
          have HN : Hid (ys.take i = Pl.keepL (l.take (j + 1)) names) := by show _ = _; rw [HYT.out, HX.out.2, if_neg (by rw [hk]; simp), List.append_nil]
          have HD2 : Hid (ys.drop (j + 1) = l.drop (j + 1)) := by show _ = _; rw [← List.drop_drop, ← List.drop_drop, HYD.out]
          clear hk
          go_wp2_with (go_at_call 49; (with_reducible refine CK.mono ?_); clear CK; rintro e w3 ⟨rfl, hb3⟩; (have HS3 := Lib.hid (HS1.out.step hb3)); clear hb3)
          go_roundg (n - (j + 1))
          case measure => omega
          case rel => exact ⟨i, j + 1, ys, Nat.le_refl _, by omega, by omega, rfl, by go_num, HYL.out, HN.out, HD2.out, HS3.out.sel [1] (by decide) rfl⟩
        | true =>
          rw [hk] at CK
          have hil : i < ys.length := by rw [HYL.out]; omega
          obtain ⟨y, hy⟩ : ∃ y, ys[i]? = some y := ⟨_, List.getElem?_eq_getElem hil⟩
          have HY := Lib.hid hy
          have HN : Hid ((ys.set i x).take (i + 1) = Pl.keepL (l.take (j + 1)) names) := by
            show _ = _
            rw [HX.out.2, if_pos hk, ← HYT.out]
            apply List.ext_getElem?
            intro q
            rw [List.getElem?_take]
            by_cases hq : q < i
            · rw [if_pos (by omega), List.getElem?_set_ne (by omega), List.getElem?_append_left (by rw [List.length_take]; omega), List.getElem?_take, if_pos hq]
            · by_cases hq2 : q = i
              · subst hq2
                rw [if_pos (by omega), List.getElem?_set_self hil, List.getElem?_append_right (by rw [List.length_take]; omega), List.length_take, Nat.min_eq_left (by omega), Nat.sub_self]
                rfl
              · rw [if_neg (by omega), List.getElem?_eq_none (by rw [List.length_append, List.length_take]; simp; omega)]
          have HD2 : Hid ((ys.set i x).drop (j + 1) = l.drop (j + 1)) := by
            show _ = _
            rw [List.drop_set_of_lt (by omega), ← List.drop_drop, ← List.drop_drop, HYD.out]
          clear hk hy
          have f5 : (0 : Int) ≤ (i : Nat) := by omega
          have f6 : ((i : Nat) : Int).toNat = i := by omega
          have f7 : (i : Int) < (n : Nat) := by omega
          have f8 : IntKind.i64.wrap ((i : Int) + 1) = (i : Int) + 1 := IntWalk.i64_in _ (by omega)
          go_upto_region 9 with (go_at_call 49; (with_reducible refine CK.mono ?_); clear CK; rintro e w3 ⟨rfl, hb3⟩; (have HS3 := Lib.hid (HS1.out.step hb3)); clear hb3 t0 t1)
          have t0 := HS3.out.cell (k := 0) 0 rfl rfl
          have t1 := HS3.out.cell (k := 1) 0 rfl rfl
          obtain ⟨u0, u1⟩ := rLabel_ocell (HS3.out.sl 1 rfl) (HS3.out.ndat (i := 1) rfl) HY.out
          have z0 := (HS3.out.sl 1 rfl).frozen (i * 2)
          have z1 := (HS3.out.sl 1 rfl).frozen (i * 2 + 1)
          go_wp2
          have HSA := Lib.hid (HS3.out.putSl (x' := ⟨x.Name, y.Value⟩) (u := .string x.Name) (m := 0) 1 rfl HY.out (by decide) (fun cs fx h => by
            obtain ⟨rfl, h1, rfl⟩ := rLabel_own h
            exact rLabel_own_mk (x := ⟨x.Name, y.Value⟩) ⟨HIB.out.1, h1.2⟩))
          have HSB := Lib.hid (HSA.out.putSl (k := i) (x' := x) (u := .string x.Value) (m := 1) 1 rfl (List.getElem?_set_self hil) (by decide) (fun cs fx h => by
            obtain ⟨rfl, h1, rfl⟩ := rLabel_own h
            exact rLabel_own_mk HIB.out))
          go_roundg (n - (j + 1))
          case measure => omega
          case rel => exact ⟨i + 1, j + 1, ys.set i x, Nat.le_refl _, by omega, by omega, by go_num, by go_num, (by show _ = _; rw [List.length_set]; exact HYL.out), HN.out, HD2.out, by
            have h9 : Mm.SepF fp w _ [Mm.tsl rLabel 79 ((ys.set i ⟨x.Name, y.Value⟩).set i x) (.slice (some ⟨g, 0, none⟩) n c) fp] := HSB.out.sel [1] (by decide) rfl
            rw [List.set_set] at h9
            exact h9⟩
      · obtain rfl : n = j := by omega
        have HK : Hid (ys.take i = Pl.keepL l names) := by show _ = _; rw [HYT.out, List.take_of_length_le (by rw [HLN.out]; exact Nat.le_refl _)]
        obtain ⟨cur, hcur, hcl, ht, -, hnc, hcm, hfp⟩ := Mm.flatN_lab.blk (HS.out.sl 0 rfl)
        obtain ⟨-, -, hown, hlen⟩ := Mm.flatN_lab.owns (HS.out.sl 0 rfl)
        obtain ⟨iL, hiL, hL0, hLs, hLb⟩ := info_parts Try.info_clLab
        obtain ⟨zs, hzs⟩ : ∃ zs, zs = (Builtin.zeroCells (Value.agg #[.string ⟨#[]⟩, .string ⟨#[]⟩]).cells (n - i)).toList := ⟨_, rfl⟩
        have hzl : zs.length = (n - i) * 2 := by rw [hzs, Array.length_toList, Mm.zeroCells_len]; rfl
        have hcl2 : cur.length = c * 2 := hcl
        have ht2 : cur.take (n * 2) = ys.flatMap Mm.encLab := ht
        have hcc : ∀ ty, (Builtin.clear_ #[54] ty #[.slice (some ⟨g, i * 2, none⟩) (n - i) (c - i)]).run Try.prog W = .ok (.tuple #[]) (W.setCells g (i * 2) zs) := fun ty =>
          Mm.run_clear_k W _ 79 ty _ Try.underlying54 (fun w => by simp [zeroValue, typeInfo, hiL, hL0]) (by decide) g (i * 2) (c - i) (n - i) (by omega) zs hzs (fun q hq => by
            rw [hcur.cell (List.getElem?_eq_getElem (by rw [hcl2]; omega))]; rfl) (fun q hq => hcur.frozen _)
        have hb2 := Mm.setCells_blk zs _ (i * 2) _ hcur
        have hso : Mm.SlOwn rLabel 79 (W.setCells g (i * 2) zs) (ys.take i) (.slice (some ⟨g, 0, none⟩) i c) [g] := by
          refine Mm.flatN_lab.of_blk hb2 (by rw [Mm.setList_len]; exact hcl) ?_ (by rw [List.length_take, HYL.out]; omega) (by omega) hcm (fun z hz => hown z (List.mem_of_mem_take hz) _)
          rw [Mm.flatMap_take (s := 2) i hlen, ← ht2]
          apply List.ext_getElem?
          intro q
          rw [List.getElem?_take, List.getElem?_take]
          show (if q < i * 2 then _ else _) = _
          by_cases hq : q < i * 2
          · rw [if_pos hq, if_pos hq, Mm.setList_get _ _ _ _ (by rw [hzl, hcl2]; omega), if_neg (by omega), List.getElem?_take]
            rw [if_pos (show q < n * 2 by omega)]
          · rw [if_neg hq, if_neg hq]
        have HF := Lib.hid (HS.out.upd (i := 0) (t := Mm.tsl rLabel 79 ys (.slice (some ⟨g, 0, none⟩) n c) fp) (t' := Mm.tsl rLabel 79 (ys.take i) (.slice (some ⟨g, 0, none⟩) i c) [g]) rfl (by show Mm.Chg fp _ _; rw [hfp]; exact Mm.setCells_chg g zs W (i * 2)) hso (by simp [Mm.tsl]) (fun b hb => .inl (by show b ∈ fp; rw [hfp]; exact hb)))
        have HFP := Lib.hid hfp
        unfold maxLen at hcm
        have f2 : ¬ (n : Int) < (n : Nat) := by omega
        have f3 : (0 : Int) ≤ (i : Nat) := by omega
        have f4 : ((i : Nat) : Int).toNat = i := by omega
        have f5 : (i : Int) ≤ (n : Nat) := by omega
        have f6 : ¬ (c = i) := by omega
        have f7 : (i : Int) ≤ (c : Nat) := by omega
        clear hzs hzl hcl2 hcur hcl ht ht2 hfp hown hlen hb2 hso hLs hLb
        go_wp2
        go_ret
        exact ⟨_, _, _, rfl, by rw [← HK.out]; have := HF.out; rw [HFP.out] at this ⊢; exact this⟩
def KeepAns (l : List Label) (names : List ByteArray) (w : World) (e : Ending) (w' : World) : Prop :=
  ∃ A2 n2 c2 fp, e = .returned (.slice A2 n2 c2) ∧ Mm.SlOwn rLabel 79 w' (Pl.keepL l names) (.slice A2 n2 c2) fp ∧ fp.Nodup ∧ (∀ b, b ∈ fp → w.heap.size ≤ b) ∧ Below w.heap.size w w'
set_option maxRecDepth 100000 in
theorem keepLabels_c (l : List Label) (A : Option Addr) (n c : Nat) (names : List ByteArray) (A' : Option Addr) (n' c' : Nat) (w : World) (B : Nat) (hl : Mm.SlAt rLabel w B l A n c) (hs : Mm.SlAt Mm.str w B names A' n' c') (hB : B ≤ w.heap.size) (hn : n ≤ 1000) :
    Calls Try.prog 24 #[.slice A n c, .slice A' n' c'] w (KeepAns l names w) := by
  obtain ⟨gn, hgn⟩ : ∃ gn, w.heap.size = gn := ⟨_, rfl⟩
  obtain ⟨W1, hW1⟩ : ∃ W1, w.alloc (.cells #[.slice A' n' c'] 24) = W1 := ⟨_, rfl⟩
  have hb1 : Below w.heap.size w W1 := by rw [← hW1]; exact below_new (Below.refl _ _) _
  have hnb : Mm.Blk W1 gn 24 [.slice A' n' c'] := by rw [← hW1, ← hgn]; exact Mm.Blk.new w _ _
  have hl1 := hl.keep (w' := W1) fun b hb => hb1.block b (Nat.lt_of_lt_of_le hb hB)
  have HCP := Lib.hid (show Caps names A' n' c' gn B W1 from ⟨hnb.cell rfl, hs.keep fun b hb => hb1.block b (Nat.lt_of_lt_of_le hb hB), hnb.lt, Nat.le_trans hB hb1.size⟩)
  have HLN : Hid (l.length = n) := hl.1
  have CC := clLab_c l A n c W1 B hl1 (by omega)
  have HB1 := Lib.hid hb1
  clear hl hs hl1 hb1 hnb
  go_enter Try.func24, Try.ntmps24
  go_upto_region 1 with fail
  clear hW1
  go_wp2_with first
    | (go_at_call 48; (with_reducible refine CC.mono ?_); clear CC; rintro e w4 ⟨A3, n3, c3, fp3, rfl, ho, hnd, hnew, hb4⟩; (have HO := Lib.hid (And.intro ho (And.intro hnd (And.intro hnew hb4)))); (have hn3 : n3 = l.length := by obtain ⟨_, _, _, hv, q1, _⟩ := ho.form; injection hv with _ q2 _; exact q2.trans q1); (have hn3' : n3 ≤ 1000 := by have := HLN.out; omega); clear ho hnd hnew hb4 hn3)
    | (go_at_call 47; refine (kDel_c names A' n' c' gn B l A3 n3 c3 fp3 w4 (HCP.out.bel HO.out.2.2.2) HO.out.1 HO.out.2.1 (fun hm => by have h3 := HO.out.2.2.1 gn hm; have h4 := HCP.out.lt; omega) (fun b hb => by have h3 := HO.out.2.2.1 b hb; have h4 := HCP.out.le; omega) hn3').mono ?_; rintro e w5 ⟨A5, n5, c5, rfl, hS⟩; (have HS := Lib.hid hS); clear hS)
  go_ret
  refine ⟨_, _, _, fp3, rfl, HS.out.sl 0 rfl, HO.out.2.1, fun b hb => ?_, ?_⟩
  · have h3 := HO.out.2.2.1 b hb; have h4 := HB1.out.size; omega
  · exact Mm.Below.chg (below_step HB1.out HO.out.2.2.2) HS.out.chg (Nat.le_trans HB1.out.size HO.out.2.2.2.size) (fun b hb => by have h3 := HO.out.2.2.1 b hb; have h4 := HB1.out.size; omega)
end Go.Proofs.Ytnppcdiicnofpab

/-
  Contracts: which labels are kept, the reference's (l14Keep). No conditions.
-/
namespace Go.Proofs.Ytnppcdiicnofpab
open Go.RowKit
attribute [local go_sem] und_cell World.cell?_alloc_some
theorem Pl.idxFrom_iff {l : List ByteArray} {v : ByteArray} : ∀ (f k : Nat), 0 ≤ Pl.idxFrom l v f k ↔ ∃ j, k ≤ j ∧ j < k + f ∧ Pl.strAt l j = v
  | 0, k => by
    unfold Pl.idxFrom
    constructor
    · intro h; omega
    · rintro ⟨j, h1, h2, _⟩; omega
  | f + 1, k => by
    unfold Pl.idxFrom
    split
    · rename_i h
      exact ⟨fun _ => ⟨k, Nat.le_refl _, by omega, h⟩, fun _ => by omega⟩
    · rename_i h
      rw [Pl.idxFrom_iff f (k + 1)]
      constructor
      · rintro ⟨j, h1, h2, h3⟩; exact ⟨j, by omega, by omega, h3⟩
      · rintro ⟨j, h1, h2, h3⟩
        refine ⟨j, ?_, by omega, h3⟩
        rcases Nat.eq_or_lt_of_le h1 with h4 | h4
        · subst h4; exact absurd h3 h
        · exact h4
theorem Pl.hasN_iff {names : List ByteArray} {s : ByteArray} : Pl.hasN names s = true ↔ ∃ (j : Nat) (x : ByteArray), names[j]? = some x ∧ x = s := by
  unfold Pl.hasN Pl.idx
  rw [decide_eq_true_eq, Pl.idxFrom_iff]
  constructor
  · rintro ⟨j, _, h2, h3⟩
    have hx := List.getElem?_eq_getElem (show j < names.length by omega)
    exact ⟨j, _, hx, by rw [← h3]; exact (Pl.strAt_of hx).symm⟩
  · rintro ⟨j, x, hx, rfl⟩
    exact ⟨j, Nat.zero_le _, by have := (List.getElem?_eq_some_iff.1 hx).1; omega, Pl.strAt_of hx⟩
theorem Pl.hasN_next {names : List ByteArray} {s : ByteArray} {k : Nat} {x : ByteArray} (h : names[k]? = some x) : Pl.hasN (names.take (k + 1)) s = (Pl.hasN (names.take k) s || (x.toList == s.toList)) := by
  obtain ⟨hk, hx⟩ := List.getElem?_eq_some_iff.1 h
  rw [Bool.eq_iff_iff, Bool.or_eq_true, Pl.hasN_iff, Pl.hasN_iff]
  constructor
  · rintro ⟨j, y, hy, rfl⟩
    rw [List.getElem?_take] at hy
    split at hy
    · by_cases hj : j < k
      · exact .inl ⟨j, y, by rw [List.getElem?_take, if_pos hj]; exact hy, rfl⟩
      · obtain rfl : j = k := by omega
        rw [h] at hy; injection hy with hy; subst hy
        exact .inr (by simp)
    · cases hy
  · rintro (⟨j, y, hy, rfl⟩ | he)
    · rw [List.getElem?_take] at hy
      split at hy
      · exact ⟨j, y, by rw [List.getElem?_take, if_pos (by omega)]; exact hy, rfl⟩
      · cases hy
    · exact ⟨k, x, by rw [List.getElem?_take, if_pos (by omega)]; exact h, Pl.ba_inj (by simpa using he)⟩
theorem Pl.hasN_zero (names : List ByteArray) (s : ByteArray) : Pl.hasN (names.take 0) s = false := by
  rw [← Bool.not_eq_true, Pl.hasN_iff]
  rintro ⟨j, x, h, _⟩
  simp at h
set_option maxRecDepth 100000 in
set_option maxHeartbeats 1000000 in
theorem l14Keep_c (l : List Label) (A : Option Addr) (n c : Nat) (names : List ByteArray) (A' : Option Addr) (n' c' : Nat) (w : World) (B : Nat) (hl : Mm.SlAt rLabel w B l A n c) (hs : Mm.SlAt Mm.str w B names A' n' c') (hB : B ≤ w.heap.size) (hn : n ≤ 1000) :
    Calls Try.prog 29 #[.slice A n c, .slice A' n' c'] w (KeepAns l names w) := by
  have HL := Lib.hid hl
  have HLN : Hid (l.length = n) := hl.1
  have HNM := Lib.hid hs
  have hnm : n' ≤ maxLen := Nat.le_trans hs.2.1 hs.2.2.1
  unfold maxLen at hnm
  have HNL : Hid (names.length = n') := hs.1
  obtain ⟨iL, hiL, hL0, hLs, hLb⟩ := info_parts Try.info_clLab
  clear hl hs
  go_enter Try.func29, Try.ntmps29
  go_wp2
  go_loopg [5, 13] n (fun g o i wr => ∃ k : Nat, n - k ≤ g ∧ k ≤ n ∧ i = .int .i64 k ∧ Hid (Mm.Acc rLabel 79 w (Pl.keepL (l.take k) names) o wr))
  case atStart => exact ⟨0, Nat.le_refl _, Nat.zero_le _, rfl, Mm.Acc.nil (Below.refl _ _)⟩
  case round =>
    obtain ⟨k, hgk, hk, rfl, HA⟩ := hrel
    obtain ⟨W, rfl⟩ : ∃ W : World, W = wr := ⟨_, rfl⟩
    obtain ⟨A1, n1, c1, rfl, hn1, -, -, -⟩ := HA.out.form
    have HN1 := Lib.hid hn1
    have hn1k : n1 ≤ k := by rw [hn1]; exact Nat.le_trans (List.length_filter_le _ _) (by rw [List.length_take]; omega)
    clear hn1
    by_cases hlt : k < n
    · obtain ⟨x, b, off, hx, rfl, hb, i1, i2, e0, e1⟩ := rLabel_get (HL.out.keep (w' := W) fun b hb => HA.out.bel.block b (Nat.lt_of_lt_of_le hb hB)) hlt
      have HX := Lib.hid (Pl.keepL_next (names := names) hx)
      have HIB := Lib.hid (And.intro i1 i2)
      have f1 : (k : Int) < (n : Nat) := by omega
      have f2 : (0 : Int) ≤ (k : Nat) := by omega
      have f3 : ((k : Nat) : Int).toNat = k := by omega
      clear hx i1 i2
      obtain ⟨gv, hgv⟩ : ∃ gv, W.heap.size = gv := ⟨_, rfl⟩
      obtain ⟨W1, hW1⟩ : ∃ W1, W.alloc (.cells #[.string x.Name, .string x.Value] 79) = W1 := ⟨_, rfl⟩
      have hb1 : Below W.heap.size W W1 := by rw [← hW1]; exact below_new (Below.refl _ _) _
      have hnb : Mm.Blk W1 gv 79 [.string x.Name, .string x.Value] := by rw [← hW1, ← hgv]; exact Mm.Blk.new W _ _
      have HA1 := Lib.hid (HA.out.step hb1)
      have t0 : W1.cell? ⟨gv, 0, none⟩ = some (.string x.Name) := hnb.cell rfl
      have t1 : W1.cell? ⟨gv, 1, none⟩ = some (.string x.Value) := hnb.cell rfl
      have hsN := HNM.out.keep (w' := W1) fun b hb => HA1.out.bel.block b (Nat.lt_of_lt_of_le hb hB)
      have HSN := Lib.hid hsN
      go_upto_region 5 with fail
      clear hW1 hb1 hnb hsN e0 e1
      go_wp2
      go_loopg [8, 19] n' (fun gg iv jv wr => wr = W1 ∧ ∃ j : Nat, n' - j ≤ gg ∧ j ≤ n' ∧ jv = .int .i64 j ∧ iv = .bool (Pl.hasN (names.take j) x.Name))
      case atStart => exact ⟨rfl, 0, Nat.le_refl _, Nat.zero_le _, rfl, by rw [Pl.hasN_zero]⟩
      case round =>
        obtain ⟨rfl, j, hgj, hj, rfl, rfl⟩ := hrel
        obtain ⟨hv, hhv⟩ : ∃ hv, Pl.hasN (names.take j) x.Name = hv := ⟨_, rfl⟩
        rw [hhv]
        by_cases hjl : j < n'
        · obtain ⟨y, b2, o2, hy, rfl, hb2, hys, d0⟩ := str_get HSN.out hjl
          have HN := Lib.hid (Pl.hasN_next (s := x.Name) hy)
          have HHV := Lib.hid hhv
          have f4 : (j : Int) < (n' : Nat) := by omega
          have f5 : (0 : Int) ≤ (j : Nat) := by omega
          have f6 : ((j : Nat) : Int).toNat = j := by omega
          clear hy hys hhv
          cases hv with
          | true =>
            have hq : Hid (Pl.hasN (names.take (j + 1)) x.Name = true) := by show _ = _; rw [HN.out, HHV.out]; rfl
            go_wp2
            go_roundg (n' - (j + 1))
            case measure => omega
            case rel => exact ⟨rfl, j + 1, Nat.le_refl _, by omega, by go_num, by rw [hq.out]⟩
          | false =>
            obtain ⟨be, hbe⟩ : ∃ be, (y.toList == x.Name.toList) = be := ⟨_, rfl⟩
            have hq : Hid (Pl.hasN (names.take (j + 1)) x.Name = be) := by show _ = _; rw [HN.out, HHV.out, Bool.false_or, hbe]
            go_wp2
            go_roundg (n' - (j + 1))
            case measure => omega
            case rel => exact ⟨rfl, j + 1, Nat.le_refl _, by omega, by go_num, by rw [hq.out]⟩
        · obtain rfl : n' = j := by omega
          have hfin : Pl.hasN names x.Name = hv := by rw [← hhv, List.take_of_length_le (by rw [HNL.out]; exact Nat.le_refl _)]
          have f4 : ¬ (n' : Int) < (n' : Nat) := by omega
          clear hhv
          cases hv with
          | false =>
            have HN : Hid (Pl.keepL (l.take (k + 1)) names = Pl.keepL (l.take k) names) := by show _ = _; rw [HX.out, if_neg (by rw [hfin]; simp), List.append_nil]
            clear hfin
            go_wp2
            go_roundg (n - (k + 1))
            case measure => omega
            case rel => exact ⟨k + 1, Nat.le_refl _, by omega, by go_num, by rw [HN.out]; exact HA1.out⟩
          | true =>
            have HN : Hid (Pl.keepL (l.take (k + 1)) names = Pl.keepL (l.take k) names ++ [x]) := by show _ = _; rw [HX.out, if_pos hfin]
            clear hfin
            obtain ⟨l0, ho, hnext⟩ := HA1.out.push (W2 := wr.alloc (.cells #[.string x.Name, .string x.Value] 79)) (below_new (Below.refl _ _) _) (x := x) (cx := [.string x.Name, .string x.Value]) (fx := []) (rLabel_own_mk HIB.out) List.nodup_nil (fun b hb => by cases hb)
            rw [← HN1.out] at ho hnext
            have HNX := Lib.hid hnext
            have HO := Lib.hid ho
            clear ho hnext
            go_wp2_with (at_builtin; refine wpList_append_lies _ (by rfl) _ _ _ (by rfl) 0 79 iL _ 2 32 Try.underlying54 hiL hL0 hLs hLb rfl (by omega) _ n1 l0 (by rfl) HO.out ⟨wr.heap.size, 0, none⟩ 1 1 [.string x.Name, .string x.Value] (by rfl) (by rfl) (World.news_of_block (B := wr.heap.size) (cs := #[.string x.Name, .string x.Value]) (t := 79) (fr := (0, 0)) (heap_alloc_new wr _)) (by simp [Value.oneCell']) (by omega) (by unfold maxLen; omega) (by omega) (Nat.zero_le _) _ rfl ?_; intro gg cap w2 hown1 hgrow hat hlt9; have HAC := Lib.hid (HNX.out gg cap w2 hown1 hgrow hat); clear hown1 hgrow hat hlt9)
            go_roundg (n - (k + 1))
            case measure => omega
            case rel => exact ⟨k + 1, Nat.le_refl _, by omega, by go_num, by rw [HN.out]; exact HAC.out⟩
    · obtain rfl : n = k := by omega
      have HK : Hid (Pl.keepL (l.take n) names = Pl.keepL l names) := by show _ = _; rw [List.take_of_length_le (by rw [HLN.out]; exact Nat.le_refl _)]
      have f1 : ¬ (n : Int) < (n : Nat) := by omega
      go_wp2
      go_ret
      have h9 := HA.out
      rw [HK.out] at h9
      obtain ⟨fp, h1, h2, h3, h4⟩ := h9
      exact ⟨_, _, _, fp, rfl, h1, h2, h3, h4⟩
end Go.Proofs.Ytnppcdiicnofpab

/-
  Plain totals by fewer labels: labels that are good stay good where some are left out. No program in sight. No conditions.
-/
namespace Go.Proofs.Ytnppcdiicnofpab
namespace Pl
theorem labelsOk_iff {l : List Label} : labelsOk l = true ↔ (∀ x, x ∈ l → labelOk x = true) ∧ l.Pairwise (fun a b => lessB a.Name b.Name = true) ∧ l.length ≤ 6 := by
  unfold labelsOk
  rw [Bool.and_eq_true, decide_eq_true_eq]
  have at_ : ∀ k (hk : k < l.length), labAt l k = l[k] := fun k hk => labAt_of (List.getElem?_eq_getElem hk)
  constructor
  · rintro ⟨h, h6⟩
    have h1 := allB_iff.1 h
    have h2 : ∀ k (hk : k < l.length), labelOk l[k] = true ∧ (0 < k → lessB (labAt l (k - 1)).Name l[k].Name = true) := fun k hk => by
      have := h1 k hk
      unfold labP labQ at this
      rw [at_ k hk, Bool.and_eq_true, Bool.or_eq_true, decide_eq_true_eq] at this
      exact ⟨this.1, fun h0 => this.2.resolve_left (by omega)⟩
    refine ⟨fun x hx => ?_, ?_, h6⟩
    · obtain ⟨i, hi, rfl⟩ := List.mem_iff_getElem.1 hx
      exact (h2 i hi).1
    · rw [List.pairwise_iff_getElem]
      intro i j hi hj hij
      have step : ∀ d (hd : i + 1 + d < l.length), lessB l[i].Name l[i + 1 + d].Name = true := by
        intro d
        induction d with
        | zero =>
          intro hd
          have := (h2 (i + 1) hd).2 (by omega)
          rw [Nat.add_sub_cancel, at_ i hi] at this
          exact this
        | succ d ih =>
          intro hd
          have h3 := ih (by omega)
          have h4 := (h2 (i + 1 + (d + 1)) hd).2 (by omega)
          rw [show i + 1 + (d + 1) - 1 = i + 1 + d by omega, at_ (i + 1 + d) (by omega)] at h4
          exact less_trans h3 h4
      have := step (j - (i + 1)) (by omega)
      simp only [show i + 1 + (j - (i + 1)) = j by omega] at this
      exact this
  · rintro ⟨h1, h2, h6⟩
    refine ⟨allB_iff.2 fun k hk => ?_, h6⟩
    unfold labP labQ
    rw [at_ k hk, Bool.and_eq_true, Bool.or_eq_true, decide_eq_true_eq]
    refine ⟨h1 _ (List.getElem_mem hk), ?_⟩
    rcases Nat.eq_zero_or_pos k with h0 | h0
    · exact .inl h0
    · right
      rw [at_ (k - 1) (by omega)]
      exact List.pairwise_iff_getElem.1 h2 (k - 1) k (by omega) hk (by omega)
theorem labelsOk_keep {l : List Label} (names : List ByteArray) (h : labelsOk l = true) : labelsOk (keepL l names) = true := by
  obtain ⟨h1, h2, h3⟩ := labelsOk_iff.1 h
  refine labelsOk_iff.2 ⟨fun x hx => h1 x (List.mem_filter.1 hx).1, h2.filter _, Nat.le_trans (List.length_filter_le _ _) h3⟩
def tkeep (names : List ByteArray) (x : Total) : Total := ⟨keepL x.Labels names, x.Sum, x.Count, x.Least, x.Most⟩
theorem totOk_keep {x : Total} (names : List ByteArray) (h : totOk x = true) : totOk (tkeep names x) = true := by
  obtain ⟨h1, h2⟩ := totOk_iff.1 h
  exact totOk_iff.2 ⟨labelsOk_keep names h1, h2⟩
def tcoarse (l : List Total) (names : List ByteArray) : List Total × Bool := if (totalsOk l && decide (names.length ≤ 6)) = true then tgood (tcomb (l.map (tkeep names))) else ([], false)
theorem map_next {α β : Type} {f : α → β} {l : List α} {k : Nat} {x : α} (h : l[k]? = some x) : (l.take (k + 1)).map f = (l.take k).map f ++ [f x] := by
  obtain ⟨hk, hx⟩ := List.getElem?_eq_some_iff.1 h
  rw [List.take_succ_eq_append_getElem hk, hx, List.map_append]
  rfl
end Pl
end Go.Proofs.Ytnppcdiicnofpab

/-
  Contracts: CoarseTotals, the program's and the reference's. No conditions.
-/
namespace Go.Proofs.Ytnppcdiicnofpab
open Go.RowKit
attribute [local go_sem] und_cell World.cell?_alloc_some
set_option maxRecDepth 100000 in
set_option maxHeartbeats 1000000 in
theorem implCoarseOk (l : List Total) (A : Option Addr) (n c : Nat) (names : List ByteArray) (A' : Option Addr) (n' c' : Nat) (w : World) (B : Nat) (HL : Hid (Mm.SlAt rTotal w B l A n c)) (HNM : Hid (Mm.SlAt Mm.str w B names A' n' c')) (hB : B ≤ w.heap.size) (HLN : Hid (l.length = n)) (HNL : Hid (names.length = n')) (hn6 : n' ≤ 6) (hca : Pl.totalsOk l = true)
    (CA : Calls Try.prog 26 #[.slice A n c] w fun e w' => e = .returned (.bool true) ∧ Below w.heap.size w w') :
    Calls Try.prog 7 #[.slice A n c, .slice A' n' c'] w (Mm.RetS2 rTotal 59 w (Pl.tcoarse l names).1 (Pl.tcoarse l names).2) := by
  have HF : Hid (Pl.tcoarse l names = Pl.tgood (Pl.tcomb (l.map (Pl.tkeep names)))) := if_pos (by rw [hca, HNL.out]; simpa using hn6)
  have hn40 : n ≤ 40 := by have := Pl.totalsOk_len hca; have := HLN.out; omega
  have HOK := Lib.hid (Pl.totalsOk_all hca)
  clear hca
  have f0 : ¬ (6 : Int) < (n' : Nat) := by omega
  obtain ⟨i0, hi, hz0, hzs, hzb⟩ := info_parts Try.infoTot
  go_enter Try.func7, Try.ntmps7
  go_wp2_with (go_at_call 26; (with_reducible refine CA.mono ?_); clear CA; rintro e w0 ⟨rfl, hb0⟩)
  have HB0 := Lib.hid hb0
  clear hb0
  go_loopg [6, 19] n (fun g o i wr => ∃ (k nn cc : Nat) (AA : Option Addr) (fp : List Nat) (xs : List Total), n - k ≤ g ∧ k ≤ n ∧ i = .int .i64 k ∧ o = .slice AA nn cc ∧ Hid (nn = xs.length) ∧ Hid (xs = (l.take k).map (Pl.tkeep names)) ∧ Hid (Mm.SepF [] w wr [Mm.tsl rTotal 59 xs (.slice AA nn cc) fp]))
  case atStart => exact ⟨0, 0, 0, none, [], [], Nat.le_refl _, Nat.zero_le _, rfl, rfl, rfl, rfl, (Mm.SepF.start w).add HB0.out (t := Mm.tsl rTotal 59 [] (.slice none 0 0) []) Mm.SlOwn.nil List.nodup_nil (fun b hb => by cases hb)⟩
  case round =>
    obtain ⟨k, nn, cc, AA, fp, xs, hgk, hk, rfl, rfl, HN, HX, HS⟩ := hrel
    obtain ⟨W, rfl⟩ : ∃ W : World, W = wr := ⟨_, rfl⟩
    have hnk : nn ≤ 40 := by rw [HN.out, HX.out, List.length_map, List.length_take]; omega
    by_cases hlt : k < n
    · have f1 : (k : Int) < (n : Nat) := by omega
      have f2 : (0 : Int) ≤ (k : Nat) := by omega
      have f3 : ((k : Nat) : Int).toNat = k := by omega
      obtain ⟨x, bb, off, A2, n2, c2, hx, rfl, hbb, hlb, i1, i2, i3, i4, e0, e1, e2, e3, e4⟩ := rTotal_get (HL.out.keep (w' := W) fun b hb => HS.out.bel0.block b (Nat.lt_of_lt_of_le hb hB)) hlt
      have HTX := Lib.hid (HOK.out x (List.mem_of_getElem? hx))
      have HNX := Lib.hid (Pl.map_next (f := Pl.tkeep names) hx)
      have HLB := Lib.hid hlb
      have HI := Lib.hid (And.intro i1 (And.intro i2 (And.intro i3 i4)))
      have hn2 : n2 ≤ 6 := by have := Pl.labelsOk_len (Pl.totOk_lab HTX.out); have := hlb.1; omega
      clear hx hlb i1 i2 i3 i4
      obtain ⟨gt, hgt⟩ : ∃ gt, W.heap.size = gt := ⟨_, rfl⟩
      obtain ⟨W1, hW1⟩ : ∃ W1, W.alloc (.cells #[.slice A2 n2 c2, .int .i64 x.Sum, .int .i64 x.Count, .int .i64 x.Least, .int .i64 x.Most] 59) = W1 := ⟨_, rfl⟩
      have HS1 := Lib.hid ((HS.out.alloc' hgt 59 [.slice A2 n2 c2, .int .i64 x.Sum, .int .i64 x.Count, .int .i64 x.Least, .int .i64 x.Most]).atW hW1)
      have hB1 : Below W.heap.size W W1 := by rw [← hW1]; exact below_new (Below.refl _ _) _
      have hBW : B ≤ W.heap.size := Nat.le_trans hB HS.out.bel0.size
      have CK := keepLabels_c x.Labels A2 n2 c2 names A' n' c' W1 B (HLB.out.keep fun b hb => hB1.block b (Nat.lt_of_lt_of_le hb hBW)) (HNM.out.keep fun b hb => HS1.out.bel0.block b (Nat.lt_of_lt_of_le hb hB)) (Nat.le_trans hBW hB1.size) (by omega)
      have s0 := HS1.out.cell (k := 0) 0 rfl rfl
      go_upto_region 7 with fail
      clear hW1 hB1 HS e0 e1 e2 e3 e4
      go_upto_region 8 with (go_at_call 24; (with_reducible refine CK.mono ?_); clear CK; rintro e w4 ⟨A3, n3, c3, fp3, rfl, ho, hnd, hnew, hb4⟩; (have HS4 := Lib.hid (HS1.out.add hb4 (t := Mm.tsl rLabel 79 (Pl.keepL x.Labels names) (.slice A3 n3 c3) fp3) ho hnd hnew)); clear ho hnd hnew hb4 s0; (have s0 := HS4.out.cell (k := 0) 1 rfl rfl); (have z0 := HS4.out.frz (k := 0) 1 rfl))
      obtain ⟨W5, hW5⟩ : ∃ W5, w4.setCell ⟨gt, 0, none⟩ (.slice A3 n3 c3) = W5 := ⟨_, rfl⟩
      have HS5 := Lib.hid ((HS4.out.setBlk (k := 0) 1 rfl (.slice A3 n3 c3)).atW hW5)
      rw [hW5]
      clear hW5 s0 z0 HS4
      have t0 := HS5.out.cell (k := 0) 1 rfl rfl
      have t1 := HS5.out.cell (k := 1) 1 rfl rfl
      have t2 := HS5.out.cell (k := 2) 1 rfl rfl
      have t3 := HS5.out.cell (k := 3) 1 rfl rfl
      have t4 := HS5.out.cell (k := 4) 1 rfl rfl
      obtain ⟨lc, ho, hnext⟩ := HS5.out.push 2 0 (by decide) rfl rfl (below_new (Below.refl W5.heap.size W5) (.cells #[.slice A3 n3 c3, .int .i64 x.Sum, .int .i64 x.Count, .int .i64 x.Least, .int .i64 x.Most] 59)) (x := Pl.tkeep names x) (cx := [.slice A3 n3 c3, .int .i64 x.Sum, .int .i64 x.Count, .int .i64 x.Least, .int .i64 x.Most]) (fun W h => rTotal_own_mk (x := Pl.tkeep names x) h HI.out.1 HI.out.2.1 HI.out.2.2.1 HI.out.2.2.2)
      rw [← HN.out] at ho hnext
      have HNE := Lib.hid hnext
      have HO := Lib.hid ho
      clear hnext ho
      go_wp2_with (at_builtin; refine wpList_append_lies _ (by rfl) _ _ _ (by rfl) 0 59 i0 _ 5 56 Try.underlying27 hi hz0 hzs hzb rfl (by omega) _ nn lc (by rfl) HO.out ⟨W5.heap.size, 0, none⟩ 1 1 [.slice A3 n3 c3, .int .i64 x.Sum, .int .i64 x.Count, .int .i64 x.Least, .int .i64 x.Most] (by rfl) (by rfl) (World.news_of_block (B := W5.heap.size) (cs := #[.slice A3 n3 c3, .int .i64 x.Sum, .int .i64 x.Count, .int .i64 x.Least, .int .i64 x.Most]) (t := 59) (fr := (0, 0)) (heap_alloc_new W5 _)) (by simp [Value.oneCell']) (by omega) (by unfold maxLen; omega) (by omega) (Nat.zero_le _) _ rfl ?_; intro gg cap w7 hown1 hgrow hat hlt9; obtain ⟨fp', hs7⟩ := HNE.out gg cap w7 hown1 hgrow hat; (have HS7 := Lib.hid hs7); clear hown1 hgrow hat hlt9 hs7)
      go_roundg (n - (k + 1))
      case measure => omega
      case rel => exact ⟨k + 1, nn + 1, cap, _, fp', xs ++ [Pl.tkeep names x], Nat.le_refl _, by omega, by go_num, rfl, (by show _ = _; rw [List.length_append, HN.out]; rfl), (by show _ = _; rw [HNX.out, HX.out]), HS7.out.sel [2] (by decide) rfl⟩
    · obtain rfl : n = k := by omega
      have f1 : ¬ (n : Int) < (n : Nat) := by omega
      have HXS : Hid (xs = l.map (Pl.tkeep names)) := by show _ = _; rw [HX.out, List.take_of_length_le (by rw [HLN.out]; exact Nat.le_refl _)]
      have CC := combined_c xs AA nn cc W _ ((HS.out.sl 0 rfl).weak (HS.out.sl 0 rfl).olt) (Nat.le_refl _) (fun y hy => by
        rw [HXS.out] at hy
        obtain ⟨z, hz, rfl⟩ := List.mem_map.1 hy
        exact Pl.totOk_keep names (HOK.out z hz)) (by omega)
      rw [HXS.out] at CC
      go_wp2_with (go_at_call 25; (with_reducible refine CC.mono ?_); clear CC; rintro e w6 ⟨A6, n6, c6, f6, rfl, k1, k2, k3, k4⟩)
      rw [HF.out]
      go_ret2
      exact ⟨A6, n6, c6, f6, rfl, k1, k2, fun b hb => Nat.le_trans HS.out.bel0.size (k3 b hb), below_step HS.out.bel0 k4⟩
set_option maxRecDepth 100000 in
set_option maxHeartbeats 1000000 in
theorem implCoarseTotals_c (l : List Total) (A : Option Addr) (n c : Nat) (names : List ByteArray) (A' : Option Addr) (n' c' : Nat) (w : World) (B : Nat) (hl : Mm.SlAt rTotal w B l A n c) (hs : Mm.SlAt Mm.str w B names A' n' c') (hB : B ≤ w.heap.size) :
    Calls Try.prog 7 #[.slice A n c, .slice A' n' c'] w (Mm.RetS2 rTotal 59 w (Pl.tcoarse l names).1 (Pl.tcoarse l names).2) := by
  have HL := Lib.hid hl
  have HNM := Lib.hid hs
  have HLN : Hid (l.length = n) := hl.1
  have HNL : Hid (names.length = n') := hs.1
  have hnm : n' ≤ maxLen := Nat.le_trans hs.2.1 hs.2.2.1
  unfold maxLen at hnm
  clear hl hs
  have CA := areTotals_c l A n c w B HL.out hB
  cases hca : Pl.totalsOk l with
  | false =>
    have HF : Hid (Pl.tcoarse l names = ([], false)) := if_neg (by rw [hca]; simp)
    rw [hca] at CA
    clear hca
    go_enter Try.func7, Try.ntmps7
    go_wp2_with (go_at_call 26; (with_reducible refine CA.mono ?_); rintro e w1 ⟨rfl, hb1⟩)
    rw [HF.out]
    go_ret2
    exact (Mm.Acc.nil hb1).ret
  | true =>
  rw [hca] at CA
  by_cases hn6 : n' ≤ 6
  · skip
    (exact implCoarseOk l A n c names A' n' c' w B HL HNM hB HLN HNL hn6 hca CA)
  · have HF : Hid (Pl.tcoarse l names = ([], false)) := if_neg (by rw [HNL.out]; simp [hn6])
    have f0 : (6 : Int) < (n' : Nat) := by omega
    clear hca
    go_enter Try.func7, Try.ntmps7
    go_wp2_with (go_at_call 26; (with_reducible refine CA.mono ?_); rintro e w1 ⟨rfl, hb1⟩)
    rw [HF.out]
    go_ret2
    exact (Mm.Acc.nil hb1).ret
set_option maxRecDepth 100000 in
set_option maxHeartbeats 1000000 in
theorem specCoarseOk (l : List Total) (A : Option Addr) (n c : Nat) (names : List ByteArray) (A' : Option Addr) (n' c' : Nat) (w : World) (B : Nat) (HL : Hid (Mm.SlAt rTotal w B l A n c)) (HNM : Hid (Mm.SlAt Mm.str w B names A' n' c')) (hB : B ≤ w.heap.size) (HLN : Hid (l.length = n)) (HNL : Hid (names.length = n')) (hn6 : n' ≤ 6) (hca : Pl.totalsOk l = true)
    (CA : Calls Try.prog 19 #[.slice A n c] w fun e w' => e = .returned (.bool true) ∧ Below w.heap.size w w') :
    Calls Try.prog 10 #[.slice A n c, .slice A' n' c'] w (Mm.RetS2 rTotal 59 w (Pl.tcoarse l names).1 (Pl.tcoarse l names).2) := by
  have HF : Hid (Pl.tcoarse l names = Pl.tgood (Pl.tcomb (l.map (Pl.tkeep names)))) := if_pos (by rw [hca, HNL.out]; simpa using hn6)
  have hn40 : n ≤ 40 := by have := Pl.totalsOk_len hca; have := HLN.out; omega
  have HOK := Lib.hid (Pl.totalsOk_all hca)
  clear hca
  have f0 : ¬ (6 : Int) < (n' : Nat) := by omega
  go_enter Try.func10, Try.ntmps10
  go_wp2_with (go_at_call 19; (with_reducible refine CA.mono ?_); clear CA; rintro e w0 ⟨rfl, hb0⟩)
  have HB0 := Lib.hid hb0
  clear hb0
  go_loopg [6, 19] n (fun g o i wr => ∃ (k nn cc : Nat) (AA : Option Addr) (fp : List Nat) (xs : List Total), n - k ≤ g ∧ k ≤ n ∧ i = .int .i64 k ∧ o = .slice AA nn cc ∧ Hid (nn = xs.length) ∧ Hid (xs = Pl.tcomb ((l.map (Pl.tkeep names)).take k)) ∧ Hid (Mm.SepF [] w wr [Mm.tsl rTotal 59 xs (.slice AA nn cc) fp]))
  case atStart => exact ⟨0, 0, 0, none, [], [], Nat.le_refl _, Nat.zero_le _, rfl, rfl, rfl, rfl, (Mm.SepF.start w).add HB0.out (t := Mm.tsl rTotal 59 [] (.slice none 0 0) []) Mm.SlOwn.nil List.nodup_nil (fun b hb => by cases hb)⟩
  case round =>
    obtain ⟨k, nn, cc, AA, fp, xs, hgk, hk, rfl, rfl, HN, HX, HS⟩ := hrel
    obtain ⟨W, rfl⟩ : ∃ W : World, W = wr := ⟨_, rfl⟩
    have HOK2 : Hid (∀ y, y ∈ l.map (Pl.tkeep names) → Pl.totOk y = true) := fun y hy => by
      obtain ⟨z, hz, rfl⟩ := List.mem_map.1 hy
      exact Pl.totOk_keep names (HOK.out z hz)
    have hT : Pl.TOk k xs := by rw [HX.out]; exact Pl.TOk.comb HOK2.out k (by rw [List.length_map, HLN.out]; exact hk)
    have HT := Lib.hid hT
    clear hT
    by_cases hlt : k < n
    · have f1 : (k : Int) < (n : Nat) := by omega
      have f2 : (0 : Int) ≤ (k : Nat) := by omega
      have f3 : ((k : Nat) : Int).toNat = k := by omega
      obtain ⟨x, bb, off, A2, n2, c2, hx, rfl, hbb, hlb, i1, i2, i3, i4, e0, e1, e2, e3, e4⟩ := rTotal_get (HL.out.keep (w' := W) fun b hb => HS.out.bel0.block b (Nat.lt_of_lt_of_le hb hB)) hlt
      have HTX := Lib.hid (HOK.out x (List.mem_of_getElem? hx))
      have HNX := Lib.hid (Pl.tcomb_next (l := l.map (Pl.tkeep names)) (k := k) (x := Pl.tkeep names x) (by rw [List.getElem?_map, hx]; rfl))
      have HLB := Lib.hid hlb
      have hn2 : n2 ≤ 6 := by have := Pl.labelsOk_len (Pl.totOk_lab HTX.out); have := hlb.1; omega
      clear hx hlb i1 i2 i3 i4
      obtain ⟨gt, hgt⟩ : ∃ gt, W.heap.size = gt := ⟨_, rfl⟩
      obtain ⟨W1, hW1⟩ : ∃ W1, W.alloc (.cells #[.slice A2 n2 c2, .int .i64 x.Sum, .int .i64 x.Count, .int .i64 x.Least, .int .i64 x.Most] 59) = W1 := ⟨_, rfl⟩
      have HS1 := Lib.hid ((HS.out.alloc' hgt 59 [.slice A2 n2 c2, .int .i64 x.Sum, .int .i64 x.Count, .int .i64 x.Least, .int .i64 x.Most]).atW hW1)
      have hB1 : Below W.heap.size W W1 := by rw [← hW1]; exact below_new (Below.refl _ _) _
      have hBW : B ≤ W.heap.size := Nat.le_trans hB HS.out.bel0.size
      have CK := l14Keep_c x.Labels A2 n2 c2 names A' n' c' W1 B (HLB.out.keep fun b hb => hB1.block b (Nat.lt_of_lt_of_le hb hBW)) (HNM.out.keep fun b hb => HS1.out.bel0.block b (Nat.lt_of_lt_of_le hb hB)) (Nat.le_trans hBW hB1.size) (by omega)
      have s0 := HS1.out.cell (k := 0) 0 rfl rfl
      go_upto_region 7 with fail
      clear hW1 hB1 HS e0 e1 e2 e3 e4
      go_upto_region 8 with (go_at_call 29; (with_reducible refine CK.mono ?_); clear CK; rintro e w4 ⟨A3, n3, c3, fp3, rfl, ho, hnd, hnew, hb4⟩; (have HS4 := Lib.hid (HS1.out.add hb4 (t := Mm.tsl rLabel 79 (Pl.keepL x.Labels names) (.slice A3 n3 c3) fp3) ho hnd hnew)); clear ho hnd hnew hb4 s0; (have s0 := HS4.out.cell (k := 0) 1 rfl rfl); (have z0 := HS4.out.frz (k := 0) 1 rfl))
      obtain ⟨W5, hW5⟩ : ∃ W5, w4.setCell ⟨gt, 0, none⟩ (.slice A3 n3 c3) = W5 := ⟨_, rfl⟩
      have HS5 := Lib.hid ((HS4.out.setBlk (k := 0) 1 rfl (.slice A3 n3 c3)).atW hW5)
      rw [hW5]
      clear hW5 s0 z0 HS4
      have t0 := HS5.out.cell (k := 0) 1 rfl rfl
      have t1 := HS5.out.cell (k := 1) 1 rfl rfl
      have t2 := HS5.out.cell (k := 2) 1 rfl rfl
      have t3 := HS5.out.cell (k := 3) 1 rfl rfl
      have t4 := HS5.out.cell (k := 4) 1 rfl rfl
      have CP : Calls Try.prog 30 #[.slice AA nn cc, .agg #[.slice A3 n3 c3, .int .i64 x.Sum, .int .i64 x.Count, .int .i64 x.Least, .int .i64 x.Most]] W5 (PutAns fp (Pl.tput xs (Pl.tkeep names x)) W5) := l14Put_c xs k (Pl.tkeep names x) AA A3 nn cc n3 c3 fp W5 W5.heap.size (HS5.out.sl 2 rfl) (HS5.out.ndat (i := 2) rfl) HT.out (by omega) ((HS5.out.sl 0 rfl).weak (HS5.out.sl 0 rfl).olt) (Nat.le_refl _) (Pl.totOk_keep names HTX.out)
      go_wp2_with (go_at_call 30; (with_reducible refine CP.mono ?_); clear CP; rintro e w6 ⟨A6, n6, c6, fp6, rfl, hS6⟩; (have HS6 := Lib.hid (HS5.out.callAll 2 rfl hS6)); clear hS6)
      have hn6' : n6 = (Pl.tput xs (Pl.tkeep names x)).length := by obtain ⟨_, _, _, hv, q1, _⟩ := (HS6.out.sl 3 rfl).form; injection hv with _ q2 _; omega
      go_roundg (n - (k + 1))
      case measure => omega
      case rel => exact ⟨k + 1, n6, c6, A6, fp6, _, Nat.le_refl _, by omega, by go_num, rfl, hn6', (by show _ = _; rw [HNX.out, HX.out]), HS6.out.sel [3] (by decide) rfl⟩
    · obtain rfl : n = k := by omega
      have f1 : ¬ (n : Int) < (n : Nat) := by omega
      have hxs : xs = Pl.tcomb (l.map (Pl.tkeep names)) := by rw [HX.out, List.take_of_length_le (by rw [List.length_map, HLN.out]; exact Nat.le_refl _)]
      have CG := GoodTotals_c xs AA nn cc W _ ((HS.out.sl 0 rfl).weak (HS.out.sl 0 rfl).olt) (Nat.le_refl _)
      obtain ⟨gd, hgd⟩ : ∃ gd, Pl.totalsOk xs = gd := ⟨_, rfl⟩
      rw [hgd] at CG
      cases gd with
      | false =>
        have HG : Hid (Pl.tcoarse l names = ([], false)) := by show _ = _; rw [HF.out, ← hxs]; unfold Pl.tgood; rw [hgd]; rfl
        clear hxs hgd
        go_wp2_with (go_at_call 19; (with_reducible refine CG.mono ?_); clear CG; rintro e w1 ⟨rfl, hb1⟩)
        go_ret2
        rw [HG.out]
        exact (Mm.Acc.nil (below_step HS.out.bel0 hb1)).ret
      | true =>
        have HG : Hid (Pl.tcoarse l names = (xs, true)) := by show _ = _; rw [HF.out, ← hxs]; unfold Pl.tgood; rw [hgd]; rfl
        clear hxs hgd
        go_wp2_with (go_at_call 19; (with_reducible refine CG.mono ?_); clear CG; rintro e w1 ⟨rfl, hb1⟩)
        go_ret2
        rw [HG.out]
        have HS2 := HS.out.step hb1
        exact ⟨_, _, _, fp, rfl, HS2.sl 0 rfl, HS2.ndat (i := 0) rfl, fun b hb => (HS2.new b (by simpa [Mm.tsl] using hb)).resolve_left (fun h => by cases h), HS2.bel0⟩
set_option maxRecDepth 100000 in
set_option maxHeartbeats 1000000 in
theorem specCoarseTotals_c (l : List Total) (A : Option Addr) (n c : Nat) (names : List ByteArray) (A' : Option Addr) (n' c' : Nat) (w : World) (B : Nat) (hl : Mm.SlAt rTotal w B l A n c) (hs : Mm.SlAt Mm.str w B names A' n' c') (hB : B ≤ w.heap.size) :
    Calls Try.prog 10 #[.slice A n c, .slice A' n' c'] w (Mm.RetS2 rTotal 59 w (Pl.tcoarse l names).1 (Pl.tcoarse l names).2) := by
  have HL := Lib.hid hl
  have HNM := Lib.hid hs
  have HLN : Hid (l.length = n) := hl.1
  have HNL : Hid (names.length = n') := hs.1
  have hnm : n' ≤ maxLen := Nat.le_trans hs.2.1 hs.2.2.1
  unfold maxLen at hnm
  clear hl hs
  have CA := GoodTotals_c l A n c w B HL.out hB
  cases hca : Pl.totalsOk l with
  | false =>
    have HF : Hid (Pl.tcoarse l names = ([], false)) := if_neg (by rw [hca]; simp)
    rw [hca] at CA
    clear hca
    go_enter Try.func10, Try.ntmps10
    go_wp2_with (go_at_call 19; (with_reducible refine CA.mono ?_); rintro e w1 ⟨rfl, hb1⟩)
    rw [HF.out]
    go_ret2
    exact (Mm.Acc.nil hb1).ret
  | true =>
  rw [hca] at CA
  by_cases hn6 : n' ≤ 6
  · skip
    (exact specCoarseOk l A n c names A' n' c' w B HL HNM hB HLN HNL hn6 hca CA)
  · have HF : Hid (Pl.tcoarse l names = ([], false)) := if_neg (by rw [HNL.out]; simp [hn6])
    have f0 : (6 : Int) < (n' : Nat) := by omega
    clear hca
    go_enter Try.func10, Try.ntmps10
    go_wp2_with (go_at_call 19; (with_reducible refine CA.mono ?_); rintro e w1 ⟨rfl, hb1⟩)
    rw [HF.out]
    go_ret2
    exact (Mm.Acc.nil hb1).ret
end Go.Proofs.Ytnppcdiicnofpab

/-
  Plain items, and contracts: which items are good, the program's and the reference's. No conditions.
-/
namespace Go.Proofs.Ytnppcdiicnofpab
open Go.RowKit
attribute [local go_sem] und_cell World.cell?_alloc_some
namespace Pl
def itemOk (x : Item) : Bool := labelsOk x.Labels && isIn x.Value (-1000000) 1000000
def itemsOk (l : List Item) : Bool := l.all itemOk && decide (l.length ≤ 40)
def titem (names : List ByteArray) (x : Item) : Total := ⟨keepL x.Labels names, x.Value, 1, x.Value, x.Value⟩
def tby (l : List Item) (names : List ByteArray) : List Total × Bool := if (itemsOk l && decide (names.length ≤ 6)) = true then (tcomb (l.map (titem names)), true) else ([], false)
theorem itemOk_iff {x : Item} : itemOk x = true ↔ labelsOk x.Labels = true ∧ -1000000 ≤ x.Value ∧ x.Value ≤ 1000000 := by
  unfold itemOk
  rw [Bool.and_eq_true, isIn_if]
theorem itemsOk_iff {l : List Item} : itemsOk l = true ↔ (∀ x, x ∈ l → itemOk x = true) ∧ l.length ≤ 40 := by
  unfold itemsOk
  rw [Bool.and_eq_true, List.all_eq_true, decide_eq_true_eq]
theorem totOk_item {x : Item} (names : List ByteArray) (h : itemOk x = true) : totOk (titem names x) = true := by
  obtain ⟨h1, h2, h3⟩ := itemOk_iff.1 h
  exact totOk_iff.2 ⟨labelsOk_keep names h1, ⟨by show (1 : Int) ≤ 1; omega, by show (1 : Int) ≤ 1000; omega⟩, ⟨by show _ ≤ x.Value; omega, by show x.Value ≤ _; omega⟩, ⟨by show _ ≤ x.Value; omega, Int.le_refl _⟩, h3⟩
theorem totalsOk_mk {l : List Total} (hs : TSort l) (h : ∀ x, x ∈ l → totOk x = true) (hl : l.length ≤ 40) : totalsOk l = true := by
  unfold totalsOk
  rw [Bool.and_eq_true, decide_eq_true_eq]
  refine ⟨allB_iff.2 fun k hk => ?_, hl⟩
  have hx := List.getElem?_eq_getElem hk
  unfold totP totQ
  rw [totAt_of hx, Bool.and_eq_true, Bool.or_eq_true, decide_eq_true_eq]
  refine ⟨h _ (List.getElem_mem hk), ?_⟩
  rcases Nat.eq_zero_or_pos k with h0 | h0
  · exact .inl h0
  · right
    have hz := List.getElem?_eq_getElem (show k - 1 < l.length by omega)
    rw [totAt_of hz]
    exact hs (k - 1) k _ _ (by omega) hz hx
/-- as many as have been counted, each small -/
def Few (b : Nat) (l : List Total) : Prop := ∀ x, x ∈ l → -1000000 * x.Count ≤ x.Sum ∧ x.Sum ≤ 1000000 * x.Count ∧ x.Count ≤ b
theorem Few.put {b : Nat} {l : List Total} {names : List ByteArray} {y : Item} (h : Few b l) (hy : itemOk y = true) : Few (b + 1) (tput l (titem names y)) := by
  obtain ⟨_, h2, h3⟩ := itemOk_iff.1 hy
  intro x hx
  rcases tput_mem hx with hx | rfl | ⟨o, ho, rfl⟩
  · have := h x hx
    refine ⟨this.1, this.2.1, ?_⟩
    have := this.2.2
    omega
  · refine ⟨?_, ?_, ?_⟩
    · show -1000000 * (1 : Int) ≤ y.Value; omega
    · show y.Value ≤ 1000000 * (1 : Int); omega
    · show (1 : Int) ≤ _; omega
  · have := h o ho
    refine ⟨?_, ?_, ?_⟩
    · show -1000000 * (o.Count + 1) ≤ o.Sum + y.Value; omega
    · show o.Sum + y.Value ≤ 1000000 * (o.Count + 1); omega
    · show o.Count + 1 ≤ _; omega
theorem Few.comb {l : List Item} (names : List ByteArray) (hl : ∀ x, x ∈ l → itemOk x = true) : ∀ k, k ≤ l.length → Few k (tcomb ((l.map (titem names)).take k))
  | 0, _ => fun x hx => by cases hx
  | k + 1, hk => by
    have hx : (l.map (titem names))[k]? = some (titem names l[k]) := by rw [List.getElem?_map, List.getElem?_eq_getElem (by omega)]; rfl
    rw [tcomb_next hx]
    exact (Few.comb names hl k (by omega)).put (hl _ (List.getElem_mem _))
theorem items_tok {l : List Item} (names : List ByteArray) (h : itemsOk l = true) : ∀ y, y ∈ l.map (titem names) → totOk y = true := fun y hy => by
  obtain ⟨x, hx, rfl⟩ := List.mem_map.1 hy
  exact totOk_item names ((itemsOk_iff.1 h).1 x hx)
theorem tby_good {l : List Item} (names : List ByteArray) (h : itemsOk l = true) : totalsOk (tcomb (l.map (titem names))) = true := by
  obtain ⟨h1, h2⟩ := itemsOk_iff.1 h
  have hT := TOk.comb (items_tok names h) l.length (by rw [List.length_map]; exact Nat.le_refl _)
  have hF := Few.comb names h1 l.length (Nat.le_refl _)
  rw [List.take_of_length_le (by rw [List.length_map]; exact Nat.le_refl _)] at hT hF
  refine totalsOk_mk hT.sort (fun x hx => ?_) (Nat.le_trans hT.len h2)
  have a := hT.cnt x hx
  have b := hF x hx
  have c := hT.least x hx
  refine totOk_iff.2 ⟨hT.lab x hx, ⟨a.1, ?_⟩, ⟨?_, ?_⟩, ⟨c.1, c.2.1⟩, c.2.2⟩ <;> omega
theorem itemsOk_next {l : List Item} {k : Nat} {x : Item} (h : l[k]? = some x) : (l.take (k + 1)).all itemOk = ((l.take k).all itemOk && itemOk x) := by
  obtain ⟨hk, hx⟩ := List.getElem?_eq_some_iff.1 h
  rw [List.take_succ_eq_append_getElem hk, hx, List.all_append]
  simp
end Pl
theorem inItem_is {n a b : Int} {r : Bool} (h : Pl.isIn n a b = r) (w : World) : Calls Try.prog 33 #[.int .i64 n, .int .i64 a, .int .i64 b] w fun e w' => e = .returned (.bool r) ∧ w = w' := h ▸ within_c n a b w
theorem l1Item_is {n a b : Int} {r : Bool} (h : Pl.isIn n a b = r) (w : World) : Calls Try.prog 37 #[.int .i64 n, .int .i64 a, .int .i64 b] w fun e w' => e = .returned (.bool r) ∧ w = w' := h ▸ l1In_c n a b w
theorem itemBad_c (x : Item) (A2 : Option Addr) (n2 c2 : Nat) (w : World) (B : Nat) (hl : Mm.SlAt rLabel w B x.Labels A2 n2 c2) (hB : B ≤ w.heap.size) :
    Calls Try.prog 45 #[.agg #[.slice A2 n2 c2, .int .i64 x.Value]] w fun e w' => e = .returned (.bool (!Pl.itemOk x)) ∧ Below w.heap.size w w' := by
  obtain ⟨W1, hW1⟩ : ∃ W1, w.alloc (.cells #[.slice A2 n2 c2, .int .i64 x.Value] 56) = W1 := ⟨_, rfl⟩
  obtain ⟨gt, hgt⟩ : ∃ gt, w.heap.size = gt := ⟨_, rfl⟩
  have hB1 : Below w.heap.size w W1 := by rw [← hW1]; exact below_new (Below.refl _ _) _
  have hnb : Mm.Blk W1 gt 56 [.slice A2 n2 c2, .int .i64 x.Value] := by rw [← hW1, ← hgt]; exact Mm.Blk.new w _ _
  have CL := areLabels_c x.Labels A2 n2 c2 W1 B (hl.keep fun b hb => hB1.block b (Nat.lt_of_lt_of_le hb hB)) (Nat.le_trans hB hB1.size)
  have HNB := Lib.hid hnb
  have HB1 := Lib.hid hB1
  have t0 : W1.cell? ⟨gt, 0, none⟩ = some (.slice A2 n2 c2) := hnb.cell rfl
  clear hl hnb hB1
  cases h1 : Pl.labelsOk x.Labels with
  | false =>
    rw [h1] at CL
    have HN : Hid ((!Pl.itemOk x) = true) := by show _ = _; unfold Pl.itemOk; rw [h1]; rfl
    clear h1
    go_enter Try.func45, Try.ntmps45
    go_wp2_with (go_at_call 46; (with_reducible refine CL.mono ?_); clear CL; rintro e w2 ⟨rfl, hb2⟩)
    rw [HN.out]
    go_ret
    exact ⟨rfl, below_step HB1.out hb2⟩
  | true =>
    rw [h1] at CL
    obtain ⟨bi, h2⟩ : ∃ bi, Pl.isIn x.Value (-1000000) 1000000 = bi := ⟨_, rfl⟩
    have HN : Hid ((!Pl.itemOk x) = !bi) := by show _ = _; unfold Pl.itemOk; rw [h1, h2, Bool.true_and]
    have H2 := Lib.hid h2
    clear h1 h2
    rw [HN.out]
    go_enter Try.func45, Try.ntmps45
    go_wp2_with first
      | (go_at_call 46; (with_reducible refine CL.mono ?_); clear CL; rintro e w2 ⟨rfl, hb2⟩; (have t1 := (HNB.out.bel hb2).cell (show [Value.slice A2 n2 c2, Value.int .i64 x.Value][1]? = some _ from rfl)))
      | (go_at_call 33; (with_reducible refine (inItem_is H2.out _).mono ?_); rintro e w' ⟨rfl, rfl⟩)
    cases bi <;> (go_ret; exact ⟨rfl, below_step HB1.out hb2⟩)
set_option maxRecDepth 100000 in
theorem itemFind_c (l : List Item) (A : Option Addr) (n c : Nat) (w : World) (B : Nat) (hl : Mm.SlAt rItem w B l A n c) (hB : B ≤ w.heap.size) :
    Calls Try.prog 60 #[.slice A n c, .func (Fn.func 45) #[] #[]] w fun e w' => ∃ i : Int, e = .returned (.int .i64 i) ∧ (l.all Pl.itemOk = decide (i < 0)) ∧ Below w.heap.size w w' := by
  have hn : n ≤ 9223372036854775807 := by have := hl.2.1; have := hl.2.2.1; unfold maxLen at this; omega
  have HLN : Hid (l.length = n) := hl.1
  have HL := Lib.hid hl
  clear hl
  go_enter Try.func60, Try.ntmps60
  go_wp2
  go_loopg [5, 8] n (fun g _ i wr => ∃ k : Nat, n - k ≤ g ∧ k ≤ n ∧ i = .int .i64 k ∧ Hid ((l.take k).all Pl.itemOk = true) ∧ Hid (Below w.heap.size w wr))
  case atStart => exact ⟨0, Nat.le_refl _, Nat.zero_le _, rfl, rfl, Below.refl _ _⟩
  case round =>
    obtain ⟨k, hgk, hk, rfl, HA, HB⟩ := hrel
    obtain ⟨W, rfl⟩ : ∃ W : World, W = wr := ⟨_, rfl⟩
    by_cases hlt : k < n
    · obtain ⟨x, b, off, A2, n2, c2, hx, rfl, hb, hlb, i1, e0, e1⟩ := rItem_get (HL.out.keep (w' := W) fun b hb => HB.out.block b (Nat.lt_of_lt_of_le hb hB)) hlt
      have C := itemBad_c x A2 n2 c2 W B hlb (Nat.le_trans hB HB.out.size)
      have HX := Lib.hid (And.intro (List.mem_of_getElem? hx) (Pl.itemsOk_next hx))
      have f1 : (k : Int) < (n : Nat) := by omega
      have f2 : (0 : Int) ≤ (k : Nat) := by omega
      have f3 : ((k : Nat) : Int).toNat = k := by omega
      clear hx hlb i1
      cases hs : Pl.itemOk x with
      | true =>
        rw [hs] at C
        have HS := Lib.hid hs
        clear hs
        go_wp2_with (go_at_call 45; (with_reducible refine C.mono ?_); clear C; rintro e w1 ⟨rfl, hb1⟩)
        go_roundg (n - (k + 1))
        case measure => omega
        case rel => exact ⟨k + 1, Nat.le_refl _, by omega, by go_num, (by show _ = _; rw [HX.out.2, HA.out, HS.out]; rfl), below_step HB.out hb1⟩
      | false =>
        rw [hs] at C
        have HS := Lib.hid hs
        clear hs
        go_wp2_with (go_at_call 45; (with_reducible refine C.mono ?_); clear C; rintro e w1 ⟨rfl, hb1⟩)
        go_ret
        refine ⟨_, rfl, ?_, below_step HB.out hb1⟩
        rw [decide_eq_false (by omega), ← Bool.not_eq_true, List.all_eq_true]
        intro h
        have := h x HX.out.1
        rw [HS.out] at this; cases this
    · have HK : Hid (l.all Pl.itemOk = true) := by
        have h9 := HA.out
        rw [List.take_of_length_le (by rw [HLN.out]; omega)] at h9
        exact h9
      go_wp2
      go_ret
      exact ⟨_, rfl, by rw [HK.out]; rfl, HB.out⟩
theorem areItems_c (l : List Item) (A : Option Addr) (n c : Nat) (w : World) (B : Nat) (hl : Mm.SlAt rItem w B l A n c) (hB : B ≤ w.heap.size) :
    Calls Try.prog 23 #[.slice A n c] w fun e w' => e = .returned (.bool (Pl.itemsOk l)) ∧ Below w.heap.size w w' := by
  have HLN : Hid (l.length = n) := hl.1
  have C1 : Calls Try.prog 44 #[.slice A n c, .func (Fn.func 45) #[] #[]] w fun e w' => e = .returned (.bool (!l.all Pl.itemOk)) ∧ Below w.heap.size w w' := by
    have C := itemFind_c l A n c w B hl hB
    obtain ⟨ba, hba⟩ : ∃ ba, l.all Pl.itemOk = ba := ⟨_, rfl⟩
    rw [hba] at C ⊢
    clear hba hl
    go_enter Try.func44, Try.ntmps44
    go_wp2_with (go_at_call 60; (with_reducible refine C.mono ?_); clear C; rintro e w1 ⟨i, rfl, hi, hb1⟩)
    have hq : decide ((0 : Int) ≤ i) = !ba := by
      rw [hi]
      by_cases h : i < 0
      · rw [decide_eq_true h, decide_eq_false (by omega)]; rfl
      · rw [decide_eq_false h, decide_eq_true (by omega)]; rfl
    go_ret
    exact ⟨ret_bool hq, hb1⟩
  obtain ⟨ba, hba⟩ : ∃ ba, l.all Pl.itemOk = ba := ⟨_, rfl⟩
  rw [hba] at C1
  have HN : Hid (Pl.itemsOk l = (ba && decide (n ≤ 40))) := by show _ = _; unfold Pl.itemsOk; rw [hba, HLN.out]
  clear hba hl
  by_cases h40 : n ≤ 40
  · have HN2 : Hid (Pl.itemsOk l = ba) := by show _ = _; rw [HN.out, decide_eq_true h40, Bool.and_true]
    have f1 : (n : Int) ≤ 40 := by omega
    rw [HN2.out]
    go_enter Try.func23, Try.ntmps23
    go_wp2_with (go_at_call 44; (with_reducible refine C1.mono ?_); clear C1; rintro e w1 ⟨rfl, hb1⟩)
    cases ba <;> (go_ret; exact ⟨rfl, hb1⟩)
  · have HN2 : Hid (Pl.itemsOk l = false) := by show _ = _; rw [HN.out, decide_eq_false h40, Bool.and_false]
    have f1 : decide ((n : Int) ≤ 40) = false := by simp; omega
    rw [HN2.out]
    go_enter Try.func23, Try.ntmps23
    go_wp2
    go_ret
    exact ⟨rfl, Below.refl _ _⟩
set_option maxRecDepth 100000 in
theorem GoodItems_c (l : List Item) (A : Option Addr) (n c : Nat) (w : World) (B : Nat) (hl : Mm.SlAt rItem w B l A n c) (hB : B ≤ w.heap.size) :
    Calls Try.prog 68 #[.slice A n c] w fun e w' => e = .returned (.bool (Pl.itemsOk l)) ∧ Below w.heap.size w w' := by
  have HL := Lib.hid hl
  have HLN : Hid (l.length = n) := hl.1
  have hnm : n ≤ maxLen := Nat.le_trans hl.2.1 hl.2.2.1
  unfold maxLen at hnm
  clear hl
  go_enter Try.func68, Try.ntmps68
  go_wp2
  go_loopg [7] n (fun g i wr => ∃ k : Nat, n - k ≤ g ∧ k ≤ n ∧ i = .int .i64 k ∧ Hid (Below w.heap.size w wr) ∧ Hid ((l.take k).all Pl.itemOk = true))
  case atStart => exact ⟨0, Nat.le_refl _, Nat.zero_le _, rfl, Below.refl _ _, rfl⟩
  case round =>
    obtain ⟨k, hgk, hk, rfl, HB, HA⟩ := hrel
    obtain ⟨W, rfl⟩ : ∃ W : World, W = wr := ⟨_, rfl⟩
    by_cases hlt : k < n
    · obtain ⟨x, b, off, A2, n2, c2, hx, rfl, hb, hlb, i1, e0, e1⟩ := rItem_get (HL.out.keep (w' := W) fun b hb => HB.out.block b (Nat.lt_of_lt_of_le hb hB)) hlt
      have HX := Lib.hid (And.intro (List.mem_of_getElem? hx) (Pl.itemsOk_next hx))
      have hbw : B ≤ W.heap.size := Nat.le_trans hB HB.out.size
      obtain ⟨W1, hW1⟩ : ∃ W1, W.alloc (.cells #[.slice A2 n2 c2, .int .i64 x.Value] 56) = W1 := ⟨_, rfl⟩
      obtain ⟨gt, hgt⟩ : ∃ gt, W.heap.size = gt := ⟨_, rfl⟩
      have hB1 : Below W.heap.size W W1 := by rw [← hW1]; exact below_new (Below.refl _ _) _
      have hnb : Mm.Blk W1 gt 56 [.slice A2 n2 c2, .int .i64 x.Value] := by rw [← hW1, ← hgt]; exact Mm.Blk.new W _ _
      have CL := GoodLabels_c x.Labels A2 n2 c2 W1 B (hlb.keep fun b hb => hB1.block b (Nat.lt_of_lt_of_le hb hbw)) (Nat.le_trans hbw hB1.size)
      have HNB := Lib.hid hnb
      have HB1 := Lib.hid (below_step HB.out hB1)
      have t0 : W1.cell? ⟨gt, 0, none⟩ = some (.slice A2 n2 c2) := hnb.cell rfl
      have f1 : (k : Int) < (n : Nat) := by omega
      have f2 : (0 : Int) ≤ (k : Nat) := by omega
      have f3 : ((k : Nat) : Int).toNat = k := by omega
      clear hx hlb i1 hnb
      go_upto_region 4 with fail
      clear hW1 hB1 e0 e1
      cases h1 : Pl.labelsOk x.Labels with
      | false =>
        rw [h1] at CL
        have HN : Hid (Pl.itemsOk l = false) := by
          show _ = _
          rw [← Bool.not_eq_true, Pl.itemsOk_iff]
          rintro ⟨h2, _⟩
          have := (Pl.itemOk_iff.1 (h2 x HX.out.1)).1
          rw [h1] at this; cases this
        clear h1
        go_wp2_with (go_at_call 39; (with_reducible refine CL.mono ?_); clear CL; rintro e w2 ⟨rfl, hb2⟩)
        rw [HN.out]
        go_ret
        exact ⟨rfl, below_step HB1.out hb2⟩
      | true =>
        rw [h1] at CL
        cases h2 : Pl.isIn x.Value (-1000000) 1000000 with
        | false =>
          have HN : Hid (Pl.itemsOk l = false) := by
            show _ = _
            rw [← Bool.not_eq_true, Pl.itemsOk_iff]
            rintro ⟨h3, _⟩
            have h4 := h3 x HX.out.1
            unfold Pl.itemOk at h4
            rw [h2, Bool.and_false] at h4; cases h4
          have H2 := Lib.hid h2
          clear h1 h2
          go_wp2_with first
            | (go_at_call 39; (with_reducible refine CL.mono ?_); clear CL; rintro e w2 ⟨rfl, hb2⟩; (have t1 := (HNB.out.bel hb2).cell (show [Value.slice A2 n2 c2, Value.int .i64 x.Value][1]? = some _ from rfl)))
            | (go_at_call 37; (with_reducible refine (l1Item_is H2.out _).mono ?_); rintro e w' ⟨rfl, rfl⟩)
          rw [HN.out]
          go_ret
          exact ⟨rfl, below_step HB1.out hb2⟩
        | true =>
          have HN : Hid ((l.take (k + 1)).all Pl.itemOk = true) := by show _ = _; rw [HX.out.2, HA.out]; unfold Pl.itemOk; rw [h1, h2]; rfl
          have H2 := Lib.hid h2
          clear h1 h2
          go_wp2_with first
            | (go_at_call 39; (with_reducible refine CL.mono ?_); clear CL; rintro e w2 ⟨rfl, hb2⟩; (have t1 := (HNB.out.bel hb2).cell (show [Value.slice A2 n2 c2, Value.int .i64 x.Value][1]? = some _ from rfl)))
            | (go_at_call 37; (with_reducible refine (l1Item_is H2.out _).mono ?_); rintro e w' ⟨rfl, rfl⟩)
          go_roundg (n - (k + 1))
          case measure => omega
          case rel => exact ⟨k + 1, Nat.le_refl _, by omega, by go_num, below_step HB1.out hb2, HN.out⟩
    · obtain rfl : n = k := by omega
      have hall : Pl.itemsOk l = decide ((n : Int) ≤ 40) := by
        have h9 := HA.out
        rw [List.take_of_length_le (by rw [HLN.out]; exact Nat.le_refl _)] at h9
        unfold Pl.itemsOk
        rw [h9, HLN.out, Bool.true_and]
        exact decide_eq_decide.2 (by omega)
      have HN := Lib.hid hall
      have f1 : ¬ (n : Int) < (n : Nat) := by omega
      clear hall
      go_wp2
      go_ret
      rw [HN.out]
      exact ⟨rfl, HB.out⟩
end Go.Proofs.Ytnppcdiicnofpab

/-
  Plain totals: what is put together in two parts and merged is what is put together at once. No program in sight. No conditions.
-/
namespace Go.Proofs.Ytnppcdiicnofpab
namespace Pl
def plus : Option Total → Option Total → Option Total
  | none, y => y
  | some a, none => some a
  | some a, some b => some (tadd a b)
theorem tadd_assoc (a b c : Total) : tadd (tadd a b) c = tadd a (tadd b c) := by
  unfold tadd
  simp only [Total.mk.injEq, true_and]
  refine ⟨by omega, by omega, ?_, ?_⟩
  · repeat' split
    all_goals omega
  · repeat' split
    all_goals omega
theorem plus_none (x : Option Total) : plus x none = x := by cases x <;> rfl
theorem plus_assoc (x y z : Option Total) : plus (plus x y) z = plus x (plus y z) := by
  cases x with
  | none => rfl
  | some a =>
    cases y with
    | none => rfl
    | some b =>
      cases z with
      | none => rfl
      | some c => exact congrArg some (tadd_assoc a b c)
/-- what a list has under a text -/
def agg (s : ByteArray) : List Total → Option Total
  | [] => none
  | x :: r => plus (if txt x = s then some x else none) (agg s r)
theorem agg_cons (s : ByteArray) (x : Total) (r : List Total) : agg s (x :: r) = plus (if txt x = s then some x else none) (agg s r) := rfl
theorem agg_app (s : ByteArray) : ∀ X Y : List Total, agg s (X ++ Y) = plus (agg s X) (agg s Y)
  | [], _ => rfl
  | x :: r, Y => by
    rw [List.cons_append, agg_cons, agg_cons, agg_app s r Y, plus_assoc]
theorem agg_no {s : ByteArray} : ∀ {X : List Total}, (∀ x, x ∈ X → txt x ≠ s) → agg s X = none
  | [], _ => rfl
  | x :: r, h => by
    rw [agg_cons, if_neg (h x (by simp)), agg_no (fun y hy => h y (by simp [hy]))]
    rfl
theorem agg_one (s : ByteArray) (t : Total) : agg s [t] = if txt t = s then some t else none := plus_none _
theorem agg_txt {s : ByteArray} : ∀ {X : List Total} {a : Total}, agg s X = some a → txt a = s
  | [], _, h => by cases h
  | x :: r, a, h => by
    unfold agg at h
    by_cases hx : txt x = s
    · rw [if_pos hx] at h
      cases hr : agg s r with
      | none => rw [hr] at h; injection h with h; rw [← h]; exact hx
      | some b => rw [hr] at h; injection h with h; rw [← h]; exact hx
    · rw [if_neg hx] at h
      exact agg_txt (X := r) h
theorem agg_lab {s : ByteArray} : ∀ {X : List Total} {a : Total}, agg s X = some a → ∃ x, x ∈ X ∧ x.Labels = a.Labels
  | [], _, h => by cases h
  | x :: r, a, h => by
    unfold agg at h
    by_cases hx : txt x = s
    · rw [if_pos hx] at h
      cases hr : agg s r with
      | none => rw [hr] at h; injection h with h; exact ⟨x, by simp, by rw [h]⟩
      | some b => rw [hr] at h; injection h with h; exact ⟨x, by simp, by rw [← h]; rfl⟩
    · rw [if_neg hx] at h
      obtain ⟨y, hy, he⟩ := agg_lab (X := r) h
      exact ⟨y, by simp [hy], he⟩
theorem less_ne {a b : ByteArray} (h : lessB a b = true) : a ≠ b := fun e => by subst e; rw [less_irrefl] at h; cases h
theorem sort_app {l1 l2 : List Total} {o : Total} (h : TSort (l1 ++ o :: l2)) : (∀ x, x ∈ l1 → lessB (txt x) (txt o) = true) ∧ ∀ x, x ∈ l2 → lessB (txt o) (txt x) = true := by
  refine ⟨fun x hx => ?_, fun x hx => ?_⟩
  · obtain ⟨i, hi, rfl⟩ := List.mem_iff_getElem.1 hx
    exact h i l1.length _ _ hi (by rw [List.getElem?_append_left hi]; exact List.getElem?_eq_getElem hi) (by rw [List.getElem?_append_right (Nat.le_refl _), Nat.sub_self]; rfl)
  · obtain ⟨i, hi, rfl⟩ := List.mem_iff_getElem.1 hx
    exact h l1.length (l1.length + (i + 1)) _ _ (by omega) (by rw [List.getElem?_append_right (Nat.le_refl _), Nat.sub_self]; rfl) (by rw [List.getElem?_append_right (by omega), Nat.add_sub_cancel_left, List.getElem?_cons_succ]; exact List.getElem?_eq_getElem hi)
theorem agg_put {l : List Total} {t : Total} (h : TSort l) (s : ByteArray) : agg s (tput l t) = plus (agg s l) (agg s [t]) := by
  by_cases hh : ∃ o, l[tpos (txt t) l]? = some o ∧ txt o = txt t
  · obtain ⟨o, ho, he⟩ := hh
    rw [tput_hit ho he]
    obtain ⟨hp, hpo⟩ := List.getElem?_eq_some_iff.1 ho
    have e1 : l = l.take (tpos (txt t) l) ++ o :: l.drop (tpos (txt t) l + 1) := by rw [← hpo, ← List.drop_eq_getElem_cons hp, List.take_append_drop]
    have e2 : l.set (tpos (txt t) l) (tadd o t) = l.take (tpos (txt t) l) ++ tadd o t :: l.drop (tpos (txt t) l + 1) := List.set_eq_take_append_cons_drop.trans (by rw [if_pos hp])
    rw [e2]
    obtain ⟨q, hq⟩ : ∃ q, tpos (txt t) l = q := ⟨_, rfl⟩
    rw [hq] at e1 ⊢
    have hs := sort_app (e1 ▸ h)
    conv => rhs; rw [e1]
    rw [agg_app, agg_app, agg_one, agg_cons, agg_cons, tadd_txt]
    by_cases hk : txt t = s
    · rw [if_pos (he.trans hk), if_pos hk, if_pos (he.trans hk), agg_no (X := l.take q) (fun x hx e => less_ne (hs.1 x hx) (by rw [e, he, hk])), agg_no (X := l.drop (q + 1)) (fun x hx e => less_ne (hs.2 x hx) (by rw [e, he, hk]))]
      rfl
    · rw [if_neg (fun e => hk (he.symm.trans e)), if_neg hk, if_neg (fun e => hk (he.symm.trans e)), plus_none]
  · have hm : ∀ o, l[tpos (txt t) l]? = some o → txt o ≠ txt t := fun o ho he => hh ⟨o, ho, he⟩
    rw [tput_miss hm]
    have hs := sort_app (l1 := l.take (tpos (txt t) l)) (o := t) (l2 := l.drop (tpos (txt t) l)) (h.insert hm)
    unfold Mm.insertAt
    conv => rhs; rw [← List.take_append_drop (tpos (txt t) l) l]
    rw [agg_app, agg_app, agg_one]
    obtain ⟨q, hq⟩ : ∃ q, tpos (txt t) l = q := ⟨_, rfl⟩
    rw [hq] at hs ⊢
    rw [show agg s (t :: l.drop q) = plus (if txt t = s then some t else none) (agg s (l.drop q)) from rfl]
    by_cases hk : txt t = s
    · rw [if_pos hk, agg_no (X := l.take q) (fun x hx e => less_ne (hs.1 x hx) (by rw [e, hk])), agg_no (X := l.drop q) (fun x hx e => less_ne (hs.2 x hx) (by rw [e, hk]))]
      rfl
    · rw [if_neg hk, plus_none]
      rfl
theorem tcomb_sort (X : List Total) : TSort (tcomb X) := by
  have : ∀ (r : List Total) (l : List Total), TSort l → TSort (r.foldl tput l) := by
    intro r
    induction r with
    | nil => intro l h; exact h
    | cons t r ih => intro l h; exact ih _ (tput_sort h)
  exact this X [] (fun i j x y _ h => by simp at h)
theorem agg_comb (s : ByteArray) (X : List Total) : agg s (tcomb X) = agg s X := by
  have : ∀ (n : Nat) (X : List Total), X.length = n → agg s (tcomb X) = agg s X := by
    intro n
    induction n with
    | zero => intro X h; rw [List.length_eq_zero_iff.1 h]; rfl
    | succ n ih =>
      intro X h
      obtain ⟨Y, t, rfl⟩ : ∃ Y t, X = Y ++ [t] := by
        rcases List.eq_nil_or_concat X with rfl | ⟨Y, t, rfl⟩
        · simp at h
        · exact ⟨Y, t, by simp⟩
      rw [tcomb_snoc, agg_put (tcomb_sort Y), ih Y (by simpa using h), ← agg_app]
  exact this _ X rfl
theorem sort_head {x : Total} {r : List Total} (h : TSort (x :: r)) : ∀ y, y ∈ r → lessB (txt x) (txt y) = true := (sort_app (l1 := []) h).2
theorem agg_head {x : Total} {r : List Total} (h : TSort (x :: r)) : agg (txt x) (x :: r) = some x := by
  rw [agg_cons, if_pos rfl, agg_no (fun y hy e => less_ne (sort_head h y hy) e.symm)]
  rfl
theorem sort_eq : ∀ {l m : List Total}, TSort l → TSort m → (∀ s, agg s l = agg s m) → l = m
  | [], [], _, _, _ => rfl
  | [], y :: m, _, hm, h => by have := h (txt y); rw [agg_head hm] at this; cases this
  | x :: l, [], hl, _, h => by have := h (txt x); rw [agg_head hl] at this; cases this
  | x :: l, y :: m, hl, hm, h => by
    have hxy : txt x = txt y := by
      apply Classical.byContradiction
      intro hne
      rcases less_total hne with h1 | h1
      · have := h (txt x)
        rw [agg_head hl, agg_no (X := y :: m) (fun z hz e => by
          rcases List.mem_cons.1 hz with rfl | hz
          · exact less_ne h1 e.symm
          · exact less_ne (less_trans h1 (sort_head hm z hz)) e.symm)] at this
        cases this
      · have := h (txt y)
        rw [agg_head hm, agg_no (X := x :: l) (fun z hz e => by
          rcases List.mem_cons.1 hz with rfl | hz
          · exact less_ne h1 e.symm
          · exact less_ne (less_trans h1 (sort_head hl z hz)) e.symm)] at this
        cases this
    have he : x = y := by
      have := h (txt x)
      rw [agg_head hl, hxy, agg_head hm] at this
      injection this
    subst he
    rw [sort_eq hl.tail hm.tail (fun s => ?_)]
    by_cases hk : txt x = s
    · subst hk
      rw [agg_no (fun z hz e => less_ne (sort_head hl z hz) e.symm), agg_no (fun z hz e => less_ne (sort_head hm z hz) e.symm)]
    · have := h s
      rw [agg_cons, agg_cons, if_neg hk] at this
      exact this
/-- two parts, merged -/
theorem comb_merge (A B : List Total) : tcomb (tcomb A ++ tcomb B) = tcomb (A ++ B) :=
  sort_eq (tcomb_sort _) (tcomb_sort _) fun s => by rw [agg_comb, agg_comb, agg_app, agg_app, agg_comb, agg_comb]
theorem tadd_comm {a b : Total} (h : a.Labels = b.Labels) : tadd a b = tadd b a := by
  unfold tadd
  simp only [Total.mk.injEq, h, true_and]
  refine ⟨by omega, by omega, ?_, ?_⟩
  · repeat' split
    all_goals omega
  · repeat' split
    all_goals omega
end Pl
end Go.Proofs.Ytnppcdiicnofpab

/-
  Plain totals: a text tells its labels; merged in either order; as many as were counted. No program in sight. No conditions.
-/
namespace Go.Proofs.Ytnppcdiicnofpab
namespace Pl
theorem cut_eq {c : UInt8} : ∀ {a b s t : List UInt8}, c ∉ a → c ∉ b → (s = [] ∨ ∃ s', s = c :: s') → (t = [] ∨ ∃ t', t = c :: t') → a ++ s = b ++ t → a = b ∧ s = t
  | [], [], s, t, _, _, _, _, h => ⟨rfl, h⟩
  | [], y :: b, s, t, _, hb, hs, _, h => by
    rcases hs with rfl | ⟨s', rfl⟩
    · cases h
    · injection h with h1 _
      exact absurd (by rw [h1]; simp) hb
  | x :: a, [], s, t, ha, _, _, ht, h => by
    rcases ht with rfl | ⟨t', rfl⟩
    · cases h
    · injection h with h1 _
      exact absurd (by rw [← h1]; simp) ha
  | x :: a, y :: b, s, t, ha, hb, hs, ht, h => by
    injection h with h1 h2
    obtain ⟨e1, e2⟩ := cut_eq (fun hm => ha (List.mem_cons_of_mem _ hm)) (fun hm => hb (List.mem_cons_of_mem _ hm)) hs ht h2
    exact ⟨by rw [h1, e1], e2⟩
theorem wbyte_no {d : Bool} {c : UInt8} (h : wbyte d c = true) : c ≠ 44 ∧ c ≠ 61 := by
  refine ⟨fun e => ?_, fun e => ?_⟩ <;> (subst e; revert h; cases d <;> decide)
theorem word_no {d : Bool} {l : List UInt8} (h : word d l = true) : (44 : UInt8) ∉ l ∧ (61 : UInt8) ∉ l := by
  unfold word at h
  rw [Bool.and_eq_true, List.all_eq_true] at h
  exact ⟨fun hm => (wbyte_no (h.1 _ hm)).1 rfl, fun hm => (wbyte_no (h.1 _ hm)).2 rfl⟩
theorem labTxt_no {x : Label} (h : labelOk x = true) : (44 : UInt8) ∉ labTxt x ∧ labTxt x ≠ [] := by
  unfold labelOk at h
  rw [Bool.and_eq_true] at h
  have h1 := word_no h.1
  have h2 := word_no h.2
  unfold labTxt
  refine ⟨fun hm => ?_, by simp⟩
  rcases List.mem_append.1 hm with hm | hm
  · exact h1.1 hm
  · rcases List.mem_cons.1 hm with hm | hm
    · cases hm
    · exact h2.1 hm
theorem labTxt_inj {x y : Label} (hx : labelOk x = true) (hy : labelOk y = true) (h : labTxt x = labTxt y) : x = y := by
  unfold labelOk at hx hy
  rw [Bool.and_eq_true] at hx hy
  unfold labTxt at h
  obtain ⟨e1, e2⟩ := cut_eq (c := 61) (word_no hx.1).2 (word_no hy.1).2 (.inr ⟨_, rfl⟩) (.inr ⟨_, rfl⟩) h
  injection e2 with _ e2
  cases x; cases y
  simp only [Label.mk.injEq]
  exact ⟨ba_ext e1, ba_ext e2⟩
theorem tail_form (xs : List (List UInt8)) : Lib.joinTail [44] xs = [] ∨ ∃ s', Lib.joinTail [44] xs = 44 :: s' := by
  cases xs with
  | nil => exact .inl rfl
  | cons x r => exact .inr ⟨x ++ Lib.joinTail [44] r, by unfold Lib.joinTail; simp⟩
theorem tail_inj : ∀ {xs ys : List (List UInt8)}, (∀ x, x ∈ xs → (44 : UInt8) ∉ x) → (∀ y, y ∈ ys → (44 : UInt8) ∉ y) → Lib.joinTail [44] xs = Lib.joinTail [44] ys → xs = ys
  | [], [], _, _, _ => rfl
  | [], y :: s, _, _, h => by unfold Lib.joinTail at h; simp at h
  | x :: r, [], _, _, h => by unfold Lib.joinTail at h; simp at h
  | x :: r, y :: s, hx, hy, h => by
    have e : ∀ (z : List UInt8) (q : List (List UInt8)), Lib.joinTail [44] (z :: q) = 44 :: (z ++ Lib.joinTail [44] q) := fun z q => by
      unfold Lib.joinTail
      simp
    rw [e, e] at h
    injection h with _ h
    obtain ⟨e1, e2⟩ := cut_eq (hx x (by simp)) (hy y (by simp)) (tail_form r) (tail_form s) h
    rw [e1, tail_inj (fun z hz => hx z (by simp [hz])) (fun z hz => hy z (by simp [hz])) e2]
theorem join_inj {xs ys : List (List UInt8)} (hx : ∀ x, x ∈ xs → (44 : UInt8) ∉ x ∧ x ≠ []) (hy : ∀ y, y ∈ ys → (44 : UInt8) ∉ y ∧ y ≠ []) (h : Lib.join xs [44] = Lib.join ys [44]) : xs = ys := by
  cases xs with
  | nil =>
    cases ys with
    | nil => rfl
    | cons y s =>
      rw [Lib.join_nil, Lib.join_cons] at h
      exact absurd (List.append_eq_nil_iff.1 h.symm).1 (hy y (by simp)).2
  | cons x r =>
    cases ys with
    | nil =>
      rw [Lib.join_nil, Lib.join_cons] at h
      exact absurd (List.append_eq_nil_iff.1 h).1 (hx x (by simp)).2
    | cons y s =>
      rw [Lib.join_cons, Lib.join_cons] at h
      obtain ⟨e1, e2⟩ := cut_eq (hx x (by simp)).1 (hy y (by simp)).1 (tail_form r) (tail_form s) h
      rw [e1, tail_inj (fun z hz => (hx z (by simp [hz])).1) (fun z hz => (hy z (by simp [hz])).1) e2]
theorem map_inj {α β : Type} {f : α → β} : ∀ {l m : List α}, (∀ x y, x ∈ l → y ∈ m → f x = f y → x = y) → l.map f = m.map f → l = m
  | [], [], _, _ => rfl
  | [], _ :: _, _, h => by cases h
  | _ :: _, [], _, h => by cases h
  | x :: l, y :: m, hf, h => by
    rw [List.map_cons, List.map_cons] at h
    injection h with h1 h2
    rw [hf x y (by simp) (by simp) h1, map_inj (fun a b ha hb => hf a b (by simp [ha]) (by simp [hb])) h2]
/-- a text tells its labels -/
theorem labelsText_inj {l m : List Label} (hl : labelsOk l = true) (hm : labelsOk m = true) (h : labelsText l = labelsText m) : l = m := by
  have h1 := congrArg (fun z : ByteArray => z.data.toList) h
  rw [labelsText_data, labelsText_data] at h1
  injection h1 with _ h1
  have h2 := List.append_cancel_right h1
  have e := join_inj (fun z hz => by
    obtain ⟨x, hx, rfl⟩ := List.mem_map.1 hz
    exact labTxt_no ((labelsOk_iff.1 hl).1 x hx)) (fun z hz => by
    obtain ⟨x, hx, rfl⟩ := List.mem_map.1 hz
    exact labTxt_no ((labelsOk_iff.1 hm).1 x hx)) h2
  exact map_inj (fun x y hx hy he => labTxt_inj ((labelsOk_iff.1 hl).1 x hx) ((labelsOk_iff.1 hm).1 y hy) he) e
theorem plus_comm {s : ByteArray} {A B : List Total} (hA : ∀ x, x ∈ A → labelsOk x.Labels = true) (hB : ∀ x, x ∈ B → labelsOk x.Labels = true) : plus (agg s A) (agg s B) = plus (agg s B) (agg s A) := by
  cases ha : agg s A with
  | none => rw [plus_none]; rfl
  | some a =>
    cases hb : agg s B with
    | none => rfl
    | some b =>
      obtain ⟨x, hx, ex⟩ := agg_lab ha
      obtain ⟨y, hy, ey⟩ := agg_lab hb
      refine congrArg some (tadd_comm ?_)
      rw [← ex, ← ey]
      refine labelsText_inj (hA x hx) (hB y hy) ?_
      have h1 := agg_txt ha
      have h2 := agg_txt hb
      unfold txt at h1 h2
      rw [ex, ey, h1, h2]
/-- .. in either order -/
theorem comb_merge' {A B : List Total} (hA : ∀ x, x ∈ A → labelsOk x.Labels = true) (hB : ∀ x, x ∈ B → labelsOk x.Labels = true) : tcomb (tcomb B ++ tcomb A) = tcomb (A ++ B) := by
  rw [comb_merge]
  exact sort_eq (tcomb_sort _) (tcomb_sort _) fun s => by rw [agg_comb, agg_comb, agg_app, agg_app, plus_comm hA hB]
def cntSum (l : List Total) : Int := (l.map (·.Count)).sum
theorem cntSum_put (l : List Total) (t : Total) : cntSum (tput l t) = cntSum l + t.Count := by
  have ins : ∀ k, cntSum (Mm.insertAt l k t) = cntSum l + t.Count := fun k => by
    unfold cntSum Mm.insertAt
    rw [List.map_append, List.map_cons, List.sum_append, List.sum_cons]
    conv => rhs; rw [← List.take_append_drop k l, List.map_append, List.sum_append]
    omega
  unfold tput
  split
  · rename_i o ho
    split
    · obtain ⟨hp, hpo⟩ := List.getElem?_eq_some_iff.1 ho
      obtain ⟨q, hq⟩ : ∃ q, tpos (txt t) l = q := ⟨_, rfl⟩
      rw [hq] at hp ⊢
      have hpo' : l[q] = o := by simp only [← hq]; exact hpo
      have e1 : l = l.take q ++ o :: l.drop (q + 1) := by rw [← hpo', ← List.drop_eq_getElem_cons hp, List.take_append_drop]
      have e2 : l.set q (tadd o t) = l.take q ++ tadd o t :: l.drop (q + 1) := List.set_eq_take_append_cons_drop.trans (by rw [if_pos hp])
      rw [e2]
      conv => rhs; rw [e1]
      unfold cntSum
      rw [List.map_append, List.map_cons, List.sum_append, List.sum_cons, List.map_append, List.map_cons, List.sum_append, List.sum_cons]
      show _ + (o.Count + t.Count + _) = _
      omega
    · exact ins _
  · exact ins _
theorem cntSum_comb (names : List ByteArray) (l : List Item) : ∀ k, k ≤ l.length → cntSum (tcomb ((l.map (titem names)).take k)) = (k : Int)
  | 0, _ => rfl
  | k + 1, hk => by
    have hx : (l.map (titem names))[k]? = some (titem names l[k]) := by rw [List.getElem?_map, List.getElem?_eq_getElem (by omega)]; rfl
    rw [tcomb_next hx, cntSum_put, cntSum_comb names l k (by omega)]
    show (k : Int) + 1 = _
    omega
end Pl
end Go.Proofs.Ytnppcdiicnofpab

/-
  Contracts: TotalsBy, the program's and the reference's. No conditions.
-/
namespace Go.Proofs.Ytnppcdiicnofpab
open Go.RowKit
attribute [local go_sem] und_cell World.cell?_alloc_some
set_option maxRecDepth 100000 in
set_option maxHeartbeats 2000000 in
theorem implByOk (l : List Item) (A : Option Addr) (n c : Nat) (names : List ByteArray) (A' : Option Addr) (n' c' : Nat) (w : World) (B : Nat) (HL : Hid (Mm.SlAt rItem w B l A n c)) (HNM : Hid (Mm.SlAt Mm.str w B names A' n' c')) (hB : B ≤ w.heap.size) (HLN : Hid (l.length = n)) (HNL : Hid (names.length = n')) (hn6 : n' ≤ 6) (hca : Pl.itemsOk l = true)
    (CA : Calls Try.prog 23 #[.slice A n c] w fun e w' => e = .returned (.bool true) ∧ Below w.heap.size w w') :
    Calls Try.prog 5 #[.slice A n c, .slice A' n' c'] w (Mm.RetS2 rTotal 59 w (Pl.tby l names).1 (Pl.tby l names).2) := by
  have HF : Hid (Pl.tby l names = (Pl.tcomb (l.map (Pl.titem names)), true)) := if_pos (by rw [hca, HNL.out]; simpa using hn6)
  have hn40 : n ≤ 40 := by have := (Pl.itemsOk_iff.1 hca).2; have := HLN.out; omega
  have HOK := Lib.hid (And.intro (Pl.itemsOk_iff.1 hca).1 (And.intro (Pl.items_tok names hca) (Pl.tby_good names hca)))
  clear hca
  have f0 : ¬ (6 : Int) < (n' : Nat) := by omega
  obtain ⟨i0, hi, hz0, hzs, hzb⟩ := info_parts Try.infoTot
  go_enter Try.func5, Try.ntmps5
  go_wp2_with (go_at_call 23; (with_reducible refine CA.mono ?_); clear CA; rintro e w0 ⟨rfl, hb0⟩)
  have HB0 := Lib.hid hb0
  clear hb0
  go_loopg [6, 19] n (fun g o i wr => ∃ (k nn cc : Nat) (AA : Option Addr) (fp : List Nat) (xs : List Total), n - k ≤ g ∧ k ≤ n ∧ i = .int .i64 k ∧ o = .slice AA nn cc ∧ Hid (nn = xs.length) ∧ Hid (xs = (l.take k).map (Pl.titem names)) ∧ Hid (Mm.SepF [] w wr [Mm.tsl rTotal 59 xs (.slice AA nn cc) fp]))
  case atStart => exact ⟨0, 0, 0, none, [], [], Nat.le_refl _, Nat.zero_le _, rfl, rfl, rfl, rfl, (Mm.SepF.start w).add HB0.out (t := Mm.tsl rTotal 59 [] (.slice none 0 0) []) Mm.SlOwn.nil List.nodup_nil (fun b hb => by cases hb)⟩
  case round =>
    obtain ⟨k, nn, cc, AA, fp, xs, hgk, hk, rfl, rfl, HN, HX, HS⟩ := hrel
    obtain ⟨W, rfl⟩ : ∃ W : World, W = wr := ⟨_, rfl⟩
    have hnk : nn ≤ 40 := by rw [HN.out, HX.out, List.length_map, List.length_take]; omega
    by_cases hlt : k < n
    · have f1 : (k : Int) < (n : Nat) := by omega
      have f2 : (0 : Int) ≤ (k : Nat) := by omega
      have f3 : ((k : Nat) : Int).toNat = k := by omega
      obtain ⟨x, bb, off, A2, n2, c2, hx, rfl, hbb, hlb, i1, e0, e1⟩ := rItem_get (HL.out.keep (w' := W) fun b hb => HS.out.bel0.block b (Nat.lt_of_lt_of_le hb hB)) hlt
      have HTX := Lib.hid (HOK.out.1 x (List.mem_of_getElem? hx))
      have HNX := Lib.hid (Pl.map_next (f := Pl.titem names) hx)
      have HLB := Lib.hid hlb
      have HI := Lib.hid i1
      have hn2 : n2 ≤ 6 := by have := Pl.labelsOk_len (Pl.itemOk_iff.1 HTX.out).1; have := hlb.1; omega
      clear hx hlb i1
      obtain ⟨gt, hgt⟩ : ∃ gt, W.heap.size = gt := ⟨_, rfl⟩
      obtain ⟨W1, hW1⟩ : ∃ W1, W.alloc (.cells #[.slice A2 n2 c2, .int .i64 x.Value] 56) = W1 := ⟨_, rfl⟩
      have HS1 := Lib.hid ((HS.out.alloc' hgt 56 [.slice A2 n2 c2, .int .i64 x.Value]).atW hW1)
      have hB1 : Below W.heap.size W W1 := by rw [← hW1]; exact below_new (Below.refl _ _) _
      have hBW : B ≤ W.heap.size := Nat.le_trans hB HS.out.bel0.size
      have HSD := Lib.hid (HS1.out.step (Below.refl _ _).drew)
      have CK := keepLabels_c x.Labels A2 n2 c2 names A' n' c' W1.drew B (HLB.out.keep fun b hb => hB1.block b (Nat.lt_of_lt_of_le hb hBW)) (HNM.out.keep fun b hb => HSD.out.bel0.block b (Nat.lt_of_lt_of_le hb hB)) (Nat.le_trans hBW hB1.size) (by omega)
      have s0 := HS1.out.cell (k := 0) 0 rfl rfl
      have s1 := HS1.out.cell (k := 1) 0 rfl rfl
      go_upto_region 7 with fail
      clear hW1 hB1 HS e0 e1
      go_region_held3 (fun wx => wx.cell? ⟨gt, 0, none⟩ = some (.slice A2 n2 c2) ∧ wx.cell? ⟨gt, 1, none⟩ = some (.int .i64 x.Value))
        (first | (go_keep; done) | (exact ⟨HS7.out.cell (k := 0) 1 rfl rfl, HS7.out.cell (k := 1) 1 rfl rfl⟩) | (exact ⟨HS4.out.cell (k := 0) 1 rfl rfl, HS4.out.cell (k := 1) 1 rfl rfl⟩) | ((try dsimp only); go_split_ands; refine ⟨?_, ?_⟩ <;> first | (exact HS7.out.cell (k := 0) 1 rfl rfl) | (exact HS7.out.cell (k := 1) 1 rfl rfl) | (exact HS4.out.cell (k := 0) 1 rfl rfl) | (exact HS4.out.cell (k := 1) 1 rfl rfl) | (go_keep; done)))
        (first
          | (go_at_call 24; (with_reducible refine CK.mono ?_); clear CK; rintro e w4 ⟨A3, n3, c3, fp3, rfl, ho, hnd, hnew, hb4⟩; (have HS4 := Lib.hid (HSD.out.add hb4 (t := Mm.tsl rLabel 79 (Pl.keepL x.Labels names) (.slice A3 n3 c3) fp3) ho hnd hnew)); clear ho hnd hnew hb4)
          | (obtain ⟨lc, ho, hnext⟩ := HS4.out.push 2 0 (by decide) rfl rfl (below_new (Below.refl w4.heap.size w4) (.cells #[.slice A3 n3 c3, .int .i64 x.Value, .int .i64 1, .int .i64 x.Value, .int .i64 x.Value] 59)) (x := Pl.titem names x) (cx := [.slice A3 n3 c3, .int .i64 x.Value, .int .i64 1, .int .i64 x.Value, .int .i64 x.Value]) (fun W h => rTotal_own_mk (x := Pl.titem names x) h HI.out (by unfold Mm.I64; show _ ≤ (1 : Int) ∧ (1 : Int) ≤ _; omega) HI.out HI.out); rw [← HN.out] at ho hnext; refine step_append_lies _ (by rfl) _ _ _ (by rfl) 0 59 i0 _ 5 56 Try.underlying27 hi hz0 hzs hzb rfl (by omega) _ nn lc (by rfl) ho ⟨w4.heap.size, 0, none⟩ 1 1 [.slice A3 n3 c3, .int .i64 x.Value, .int .i64 1, .int .i64 x.Value, .int .i64 x.Value] (by rfl) (by rfl) (World.news_of_block (B := w4.heap.size) (cs := #[.slice A3 n3 c3, .int .i64 x.Value, .int .i64 1, .int .i64 x.Value, .int .i64 x.Value]) (t := 59) (fr := (0, 0)) (heap_alloc_new w4 _)) (by simp [Value.oneCell']) (by omega) (by unfold maxLen; omega) (by omega) (Nat.zero_le _) _ rfl ?_; intro gg cap w7 hown1 hgrow hat hlt'; obtain ⟨fp', hs7⟩ := hnext gg cap w7 hown1 hgrow hat; (have HS7 := Lib.hid hs7); clear hs7 hown1 hgrow hat hlt' hnext ho))
      go_wp2
      go_roundg (n - (k + 1))
      case measure => omega
      case rel => exact ⟨k + 1, nn + 1, cap, _, fp', xs ++ [Pl.titem names x], Nat.le_refl _, by omega, by go_num, rfl, (by show _ = _; rw [List.length_append, HN.out]; rfl), (by show _ = _; rw [HNX.out, HX.out]), HS7.out.sel [2] (by decide) rfl⟩
    · obtain rfl : n = k := by omega
      have f1 : ¬ (n : Int) < (n : Nat) := by omega
      have HXS : Hid (xs = l.map (Pl.titem names)) := by show _ = _; rw [HX.out, List.take_of_length_le (by rw [HLN.out]; exact Nat.le_refl _)]
      have CC := combined_c xs AA nn cc W _ ((HS.out.sl 0 rfl).weak (HS.out.sl 0 rfl).olt) (Nat.le_refl _) (fun y hy => by
        rw [HXS.out] at hy
        exact HOK.out.2.1 y hy) (by omega)
      rw [HXS.out, show Pl.tgood (Pl.tcomb (l.map (Pl.titem names))) = (Pl.tcomb (l.map (Pl.titem names)), true) from if_pos HOK.out.2.2] at CC
      go_wp2_with (go_at_call 25; (with_reducible refine CC.mono ?_); clear CC; rintro e w6 ⟨A6, n6, c6, f6, rfl, k1, k2, k3, k4⟩)
      rw [HF.out]
      go_ret2
      exact ⟨A6, n6, c6, f6, rfl, k1, k2, fun b hb => Nat.le_trans HS.out.bel0.size (k3 b hb), below_step HS.out.bel0 k4⟩
set_option maxRecDepth 100000 in
set_option maxHeartbeats 1000000 in
theorem implTotalsBy_c (l : List Item) (A : Option Addr) (n c : Nat) (names : List ByteArray) (A' : Option Addr) (n' c' : Nat) (w : World) (B : Nat) (hl : Mm.SlAt rItem w B l A n c) (hs : Mm.SlAt Mm.str w B names A' n' c') (hB : B ≤ w.heap.size) :
    Calls Try.prog 5 #[.slice A n c, .slice A' n' c'] w (Mm.RetS2 rTotal 59 w (Pl.tby l names).1 (Pl.tby l names).2) := by
  have HL := Lib.hid hl
  have HNM := Lib.hid hs
  have HLN : Hid (l.length = n) := hl.1
  have HNL : Hid (names.length = n') := hs.1
  have hnm : n' ≤ maxLen := Nat.le_trans hs.2.1 hs.2.2.1
  unfold maxLen at hnm
  clear hl hs
  have CA := areItems_c l A n c w B HL.out hB
  cases hca : Pl.itemsOk l with
  | false =>
    have HF : Hid (Pl.tby l names = ([], false)) := if_neg (by rw [hca]; simp)
    rw [hca] at CA
    clear hca
    go_enter Try.func5, Try.ntmps5
    go_wp2_with (go_at_call 23; (with_reducible refine CA.mono ?_); rintro e w1 ⟨rfl, hb1⟩)
    rw [HF.out]
    go_ret2
    exact (Mm.Acc.nil hb1).ret
  | true =>
  rw [hca] at CA
  by_cases hn6 : n' ≤ 6
  · exact implByOk l A n c names A' n' c' w B HL HNM hB HLN HNL hn6 hca CA
  · have HF : Hid (Pl.tby l names = ([], false)) := if_neg (by rw [HNL.out]; simp [hn6])
    have f0 : (6 : Int) < (n' : Nat) := by omega
    clear hca
    go_enter Try.func5, Try.ntmps5
    go_wp2_with (go_at_call 23; (with_reducible refine CA.mono ?_); rintro e w1 ⟨rfl, hb1⟩)
    rw [HF.out]
    go_ret2
    exact (Mm.Acc.nil hb1).ret
set_option maxRecDepth 100000 in
set_option maxHeartbeats 2000000 in
theorem specByOk (l : List Item) (A : Option Addr) (n c : Nat) (names : List ByteArray) (A' : Option Addr) (n' c' : Nat) (w : World) (B : Nat) (HL : Hid (Mm.SlAt rItem w B l A n c)) (HNM : Hid (Mm.SlAt Mm.str w B names A' n' c')) (hB : B ≤ w.heap.size) (HLN : Hid (l.length = n)) (HNL : Hid (names.length = n')) (hn6 : n' ≤ 6) (hca : Pl.itemsOk l = true)
    (CA : Calls Try.prog 68 #[.slice A n c] w fun e w' => e = .returned (.bool true) ∧ Below w.heap.size w w') :
    Calls Try.prog 56 #[.slice A n c, .slice A' n' c'] w (Mm.RetS2 rTotal 59 w (Pl.tby l names).1 (Pl.tby l names).2) := by
  have HF : Hid (Pl.tby l names = (Pl.tcomb (l.map (Pl.titem names)), true)) := if_pos (by rw [hca, HNL.out]; simpa using hn6)
  have hn40 : n ≤ 40 := by have := (Pl.itemsOk_iff.1 hca).2; have := HLN.out; omega
  have HOK := Lib.hid (And.intro (Pl.itemsOk_iff.1 hca).1 (And.intro (Pl.items_tok names hca) (Pl.tby_good names hca)))
  clear hca
  have f0 : ¬ (6 : Int) < (n' : Nat) := by omega
  obtain ⟨i0, hi, hz0, hzs, hzb⟩ := info_parts Try.infoTot
  go_enter Try.func56, Try.ntmps56
  go_wp2_with (go_at_call 68; (with_reducible refine CA.mono ?_); clear CA; rintro e w0 ⟨rfl, hb0⟩)
  have HB0 := Lib.hid hb0
  clear hb0
  go_loopg [6, 19] n (fun g o i wr => ∃ (k nn cc : Nat) (AA : Option Addr) (fp : List Nat) (xs : List Total), n - k ≤ g ∧ k ≤ n ∧ i = .int .i64 k ∧ o = .slice AA nn cc ∧ Hid (nn = xs.length) ∧ Hid (xs = Pl.tcomb ((l.map (Pl.titem names)).take k)) ∧ Hid (Mm.SepF [] w wr [Mm.tsl rTotal 59 xs (.slice AA nn cc) fp]))
  case atStart => exact ⟨0, 0, 0, none, [], [], Nat.le_refl _, Nat.zero_le _, rfl, rfl, rfl, rfl, (Mm.SepF.start w).add HB0.out (t := Mm.tsl rTotal 59 [] (.slice none 0 0) []) Mm.SlOwn.nil List.nodup_nil (fun b hb => by cases hb)⟩
  case round =>
    obtain ⟨k, nn, cc, AA, fp, xs, hgk, hk, rfl, rfl, HN, HX, HS⟩ := hrel
    obtain ⟨W, rfl⟩ : ∃ W : World, W = wr := ⟨_, rfl⟩
    have hT : Pl.TOk k xs := by rw [HX.out]; exact Pl.TOk.comb HOK.out.2.1 k (by rw [List.length_map, HLN.out]; exact hk)
    have HT := Lib.hid hT
    clear hT
    by_cases hlt : k < n
    · have f1 : (k : Int) < (n : Nat) := by omega
      have f2 : (0 : Int) ≤ (k : Nat) := by omega
      have f3 : ((k : Nat) : Int).toNat = k := by omega
      obtain ⟨x, bb, off, A2, n2, c2, hx, rfl, hbb, hlb, i1, e0, e1⟩ := rItem_get (HL.out.keep (w' := W) fun b hb => HS.out.bel0.block b (Nat.lt_of_lt_of_le hb hB)) hlt
      have HTX := Lib.hid (HOK.out.1 x (List.mem_of_getElem? hx))
      have HNX := Lib.hid (Pl.tcomb_next (l := l.map (Pl.titem names)) (k := k) (x := Pl.titem names x) (by rw [List.getElem?_map, hx]; rfl))
      have HLB := Lib.hid hlb
      have HI := Lib.hid i1
      have hn2 : n2 ≤ 6 := by have := Pl.labelsOk_len (Pl.itemOk_iff.1 HTX.out).1; have := hlb.1; omega
      clear hx hlb i1
      obtain ⟨gt, hgt⟩ : ∃ gt, W.heap.size = gt := ⟨_, rfl⟩
      obtain ⟨W1, hW1⟩ : ∃ W1, W.alloc (.cells #[.slice A2 n2 c2, .int .i64 x.Value] 56) = W1 := ⟨_, rfl⟩
      have HS1 := Lib.hid ((HS.out.alloc' hgt 56 [.slice A2 n2 c2, .int .i64 x.Value]).atW hW1)
      have hB1 : Below W.heap.size W W1 := by rw [← hW1]; exact below_new (Below.refl _ _) _
      have hBW : B ≤ W.heap.size := Nat.le_trans hB HS.out.bel0.size
      have HSD := Lib.hid (HS1.out.step (Below.refl _ _).drew)
      have CK := l14Keep_c x.Labels A2 n2 c2 names A' n' c' W1.drew B (HLB.out.keep fun b hb => hB1.block b (Nat.lt_of_lt_of_le hb hBW)) (HNM.out.keep fun b hb => HSD.out.bel0.block b (Nat.lt_of_lt_of_le hb hB)) (Nat.le_trans hBW hB1.size) (by omega)
      have s0 := HS1.out.cell (k := 0) 0 rfl rfl
      have s1 := HS1.out.cell (k := 1) 0 rfl rfl
      go_upto_region 7 with fail
      clear hW1 hB1 HS e0 e1
      have CPF : ∀ (V : World) (A3 : Option Addr) (n3 c3 : Nat) (ft : List Nat), Mm.SepF [] w V [Mm.tsl rLabel 79 (Pl.keepL x.Labels names) (.slice A3 n3 c3) ft, Mm.tblk gt 56 [.slice A2 n2 c2, .int .i64 x.Value], Mm.tsl rTotal 59 xs (.slice AA nn cc) fp] → Calls Try.prog 30 #[.slice AA nn cc, .agg #[.slice A3 n3 c3, .int .i64 x.Value, .int .i64 1, .int .i64 x.Value, .int .i64 x.Value]] V (PutAns fp (Pl.tput xs (Pl.titem names x)) V) := fun V A3 n3 c3 ft hV =>
        l14Put_c xs k (Pl.titem names x) AA A3 nn cc n3 c3 fp V V.heap.size (hV.sl 2 rfl) (hV.ndat (i := 2) rfl) HT.out (by omega) ((hV.sl 0 rfl).weak (hV.sl 0 rfl).olt) (Nat.le_refl _) (Pl.totOk_item names HTX.out)
      have HCP := Lib.hid CPF
      clear CPF
      go_region_held3 (fun wx => wx.cell? ⟨gt, 0, none⟩ = some (.slice A2 n2 c2) ∧ wx.cell? ⟨gt, 1, none⟩ = some (.int .i64 x.Value))
        (first | (go_keep; done) | (exact ⟨HS6.out.cell (k := 0) 1 rfl rfl, HS6.out.cell (k := 1) 1 rfl rfl⟩) | (exact ⟨HS4.out.cell (k := 0) 1 rfl rfl, HS4.out.cell (k := 1) 1 rfl rfl⟩) | ((try dsimp only); go_split_ands; refine ⟨?_, ?_⟩ <;> first | (exact HS6.out.cell (k := 0) 1 rfl rfl) | (exact HS6.out.cell (k := 1) 1 rfl rfl) | (exact HS4.out.cell (k := 0) 1 rfl rfl) | (exact HS4.out.cell (k := 1) 1 rfl rfl) | (go_keep; done)))
        (first
          | (go_at_call 29; (with_reducible refine CK.mono ?_); clear CK; rintro e w4 ⟨A3, n3, c3, fp3, rfl, ho, hnd, hnew, hb4⟩; (have HS4 := Lib.hid (HSD.out.add hb4 (t := Mm.tsl rLabel 79 (Pl.keepL x.Labels names) (.slice A3 n3 c3) fp3) ho hnd hnew)); clear ho hnd hnew hb4)
          | (go_at_call 30; (with_reducible refine (HCP.out _ A3 n3 c3 fp3 HS4.out).mono ?_); rintro e w6 ⟨A6, n6, c6, fp6, rfl, hS6⟩; (have HS6 := Lib.hid (HS4.out.callAll 2 rfl hS6)); clear hS6))
      have hn6' : n6 = (Pl.tput xs (Pl.titem names x)).length := by obtain ⟨_, _, _, hv, q1, _⟩ := (HS6.out.sl 3 rfl).form; injection hv with _ q2 _; omega
      have HN6 := Lib.hid hn6'
      clear hn6'
      go_wp2
      go_roundg (n - (k + 1))
      case measure => omega
      case rel => exact ⟨k + 1, n6, c6, A6, fp6, _, Nat.le_refl _, by omega, by go_num, rfl, HN6.out, (by show _ = _; rw [HNX.out, HX.out]), HS6.out.sel [3] (by decide) rfl⟩
    · obtain rfl : n = k := by omega
      have f1 : ¬ (n : Int) < (n : Nat) := by omega
      have HXS : Hid (xs = Pl.tcomb (l.map (Pl.titem names))) := by show _ = _; rw [HX.out, List.take_of_length_le (by rw [List.length_map, HLN.out]; exact Nat.le_refl _)]
      go_wp2
      rw [HF.out, ← HXS.out]
      go_ret2
      have HS2 := HS.out
      exact ⟨_, _, _, fp, rfl, HS2.sl 0 rfl, HS2.ndat (i := 0) rfl, fun b hb => (HS2.new b (by simpa [Mm.tsl] using hb)).resolve_left (fun h => by cases h), HS2.bel0⟩
set_option maxRecDepth 100000 in
set_option maxHeartbeats 1000000 in
theorem specTotalsBy_c (l : List Item) (A : Option Addr) (n c : Nat) (names : List ByteArray) (A' : Option Addr) (n' c' : Nat) (w : World) (B : Nat) (hl : Mm.SlAt rItem w B l A n c) (hs : Mm.SlAt Mm.str w B names A' n' c') (hB : B ≤ w.heap.size) :
    Calls Try.prog 56 #[.slice A n c, .slice A' n' c'] w (Mm.RetS2 rTotal 59 w (Pl.tby l names).1 (Pl.tby l names).2) := by
  have HL := Lib.hid hl
  have HNM := Lib.hid hs
  have HLN : Hid (l.length = n) := hl.1
  have HNL : Hid (names.length = n') := hs.1
  have hnm : n' ≤ maxLen := Nat.le_trans hs.2.1 hs.2.2.1
  unfold maxLen at hnm
  clear hl hs
  have CA := GoodItems_c l A n c w B HL.out hB
  cases hca : Pl.itemsOk l with
  | false =>
    have HF : Hid (Pl.tby l names = ([], false)) := if_neg (by rw [hca]; simp)
    rw [hca] at CA
    clear hca
    go_enter Try.func56, Try.ntmps56
    go_wp2_with (go_at_call 68; (with_reducible refine CA.mono ?_); rintro e w1 ⟨rfl, hb1⟩)
    rw [HF.out]
    go_ret2
    exact (Mm.Acc.nil hb1).ret
  | true =>
  rw [hca] at CA
  by_cases hn6 : n' ≤ 6
  · exact specByOk l A n c names A' n' c' w B HL HNM hB HLN HNL hn6 hca CA
  · have HF : Hid (Pl.tby l names = ([], false)) := if_neg (by rw [HNL.out]; simp [hn6])
    have f0 : (6 : Int) < (n' : Nat) := by omega
    clear hca
    go_enter Try.func56, Try.ntmps56
    go_wp2_with (go_at_call 68; (with_reducible refine CA.mono ?_); rintro e w1 ⟨rfl, hb1⟩)
    rw [HF.out]
    go_ret2
    exact (Mm.Acc.nil hb1).ret
end Go.Proofs.Ytnppcdiicnofpab

/-
  Plain: totals of two parts, merged, are the totals of all (chapter 14); contracts of the program's own checks. No conditions.
-/
namespace Go.Proofs.Ytnppcdiicnofpab
open Go.RowKit
attribute [local go_sem] und_cell World.cell?_alloc_some
namespace Pl
theorem tby_true {l : List Item} {names : List ByteArray} {ts : List Total} (h : tby l names = (ts, true)) : itemsOk l = true ∧ names.length ≤ 6 ∧ ts = tcomb (l.map (titem names)) := by
  unfold tby at h
  split at h
  · rename_i h1
    rw [Bool.and_eq_true, decide_eq_true_eq] at h1
    injection h with h _
    exact ⟨h1.1, h1.2, h.symm⟩
  · injection h with _ h; cases h
theorem tby_of {l : List Item} {names : List ByteArray} (h : itemsOk l = true) (hn : names.length ≤ 6) : tby l names = (tcomb (l.map (titem names)), true) := if_pos (by rw [h]; simpa using hn)
theorem itemsOk_part {l m : List Item} (h : itemsOk l = true) (hs : ∀ x, x ∈ m → x ∈ l) (hl : m.length ≤ l.length) : itemsOk m = true := by
  obtain ⟨h1, h2⟩ := itemsOk_iff.1 h
  exact itemsOk_iff.2 ⟨fun x hx => h1 x (hs x hx), by omega⟩
theorem tmerge_of {a b c : List Total} (ha : totalsOk a = true) (hb : totalsOk b = true) (hc : tcomb (a ++ b) = c) (hk : totalsOk c = true) : tmerge a b = (c, true) := by
  unfold tmerge tgood
  rw [if_pos (by rw [ha, hb]; rfl), hc, if_pos hk]
theorem tby_split {l : List Item} {names : List ByteArray} {ts : List Total} (h : tby l names = (ts, true)) (k : Nat) :
    ∃ a b, tby (l.take k) names = (a, true) ∧ tby (l.drop k) names = (b, true) ∧ tmerge a b = (ts, true) ∧ tmerge b a = (ts, true) := by
  obtain ⟨h1, h2, rfl⟩ := tby_true h
  have ht : itemsOk (l.take k) = true := itemsOk_part h1 (fun x hx => List.mem_of_mem_take hx) (by rw [List.length_take]; omega)
  have hd : itemsOk (l.drop k) = true := itemsOk_part h1 (fun x hx => List.mem_of_mem_drop hx) (by rw [List.length_drop]; omega)
  have hlt : ∀ m : List Item, itemsOk m = true → ∀ x, x ∈ m.map (titem names) → labelsOk x.Labels = true := fun m hm x hx => (totOk_iff.1 (items_tok names hm x hx)).1
  have e : (l.take k).map (titem names) ++ (l.drop k).map (titem names) = l.map (titem names) := by rw [← List.map_append, List.take_append_drop]
  refine ⟨_, _, tby_of ht h2, tby_of hd h2, tmerge_of (tby_good names ht) (tby_good names hd) ?_ (tby_good names h1), tmerge_of (tby_good names hd) (tby_good names ht) ?_ (tby_good names h1)⟩
  · rw [comb_merge, e]
  · rw [comb_merge' (hlt _ ht) (hlt _ hd), e]
theorem cnt_take {l : List Total} {k : Nat} {x : Total} (h : l[k]? = some x) : cntSum (l.take (k + 1)) = cntSum (l.take k) + x.Count := by
  obtain ⟨hk, hx⟩ := List.getElem?_eq_some_iff.1 h
  unfold cntSum
  rw [List.take_succ_eq_append_getElem hk, hx, List.map_append, List.sum_append]
  simp
theorem cnt_all {l : List Item} {names : List ByteArray} {ts : List Total} (h : tby l names = (ts, true)) : cntSum ts = (l.length : Int) := by
  obtain ⟨h1, h2, rfl⟩ := tby_true h
  have := cntSum_comb names l l.length (Nat.le_refl _)
  rwa [List.take_of_length_le (by rw [List.length_map]; exact Nat.le_refl _)] at this
theorem tby_ok {l : List Item} {names : List ByteArray} {ts : List Total} (h : tby l names = (ts, true)) : totalsOk ts = true ∧ l.length ≤ 40 := by
  obtain ⟨h1, h2, rfl⟩ := tby_true h
  exact ⟨tby_good names h1, (itemsOk_iff.1 h1).2⟩
/-- the counts of good totals, summed to some place, stay small -/
theorem cnt_small {l : List Total} (h : totalsOk l = true) : ∀ k, k ≤ l.length → 0 ≤ cntSum (l.take k) ∧ cntSum (l.take k) ≤ 1000 * (k : Int)
  | 0, _ => by simp [cntSum]
  | k + 1, hk => by
    have ih := cnt_small h k (by omega)
    have hx := List.getElem?_eq_getElem (show k < l.length by omega)
    rw [cnt_take hx]
    have := (totOk_iff.1 (totalsOk_all h _ (List.getElem_mem (show k < l.length by omega)))).2.1
    omega
end Pl
theorem implGoodTotals_c (l : List Total) (A : Option Addr) (n c : Nat) (w : World) (B : Nat) (hl : Mm.SlAt rTotal w B l A n c) (hB : B ≤ w.heap.size) :
    Calls Try.prog 18 #[.slice A n c] w fun e w' => e = .returned (.bool (Pl.totalsOk l)) ∧ Below w.heap.size w w' := by
  have CA := areTotals_c l A n c w B hl hB
  go_enter Try.func18, Try.ntmps18
  go_wp2_with (go_at_call 26; (with_reducible refine CA.mono ?_); clear CA; rintro e w1 ⟨rfl, hb1⟩)
  go_ret
  exact ⟨rfl, hb1⟩
end Go.Proofs.Ytnppcdiicnofpab
