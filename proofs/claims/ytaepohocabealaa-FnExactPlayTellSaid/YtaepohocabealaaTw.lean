/-
  Contracts: the reference's teller, by value: write and take (chapter 10). No conditions.
-/
import Derived.Test.YtaepohocabealaaTn
namespace Go.Proofs.Ytaepohocabealaa
open Go.RowKit
attribute [local go_sem] und_cell cha_cell World.cell?_alloc_some
theorem openv_Tell {F : List Nat} {w0 wr : World} {ts : List Mm.Thing} {x : Tell} {cs : List Value} {fp : List Nat} (h : Mm.SepF F w0 wr (Mm.tow rTell x cs fp :: ts)) :
    ∃ A0 c0 A1 c1 A2 c2 A3 c3 A4 c4 f0 f1 f2 f3 f4, cs = [.slice A0 x.Texts.length c0, .slice A1 x.Heard.length c1, .slice A2 x.Line.length c2, .slice A3 x.Log.length c3, .slice A4 x.Next.length c4] ∧ fp = f0 ++ (f1 ++ (f2 ++ (f3 ++ f4))) ∧ Mm.SepF F w0 wr (Mm.tsl strs 40 x.Texts (.slice A0 x.Texts.length c0) f0 :: Mm.tsl Mm.int 3 x.Heard (.slice A1 x.Heard.length c1) f1 :: Mm.tsl rNote 94 x.Line (.slice A2 x.Line.length c2) f2 :: Mm.tsl rTold 52 x.Log (.slice A3 x.Log.length c3) f3 :: Mm.tsl Mm.int 3 x.Next (.slice A4 x.Next.length c4) f4 :: ts) := by
  have ho := h.hold _ (List.mem_cons_self)
  obtain ⟨A0, n0, c0, A1, n1, c1, A2, n2, c2, A3, n3, c3, A4, n4, c4, f0, f1, f2, f3, f4, rfl, rfl, k0, k1, k2, k3, k4⟩ := rTell_own ho
  obtain ⟨_, _, _, e0, g0, _⟩ := k0.form
  obtain ⟨_, _, _, e1, g1, _⟩ := k1.form
  obtain ⟨_, _, _, e2, g2, _⟩ := k2.form
  obtain ⟨_, _, _, e3, g3, _⟩ := k3.form
  obtain ⟨_, _, _, e4, g4, _⟩ := k4.form
  injection e0 with _ e0 _
  injection e1 with _ e1 _
  injection e2 with _ e2 _
  injection e3 with _ e3 _
  injection e4 with _ e4 _
  obtain rfl := e0.trans g0
  obtain rfl := e1.trans g1
  obtain rfl := e2.trans g2
  obtain rfl := e3.trans g3
  obtain rfl := e4.trans g4
  exact ⟨_, _, _, _, _, _, _, _, _, _, _, _, _, _, _, rfl, rfl, h.conv (by simp [Mm.tow, Mm.tsl]) (List.forall_mem_cons.2 ⟨k0, List.forall_mem_cons.2 ⟨k1, List.forall_mem_cons.2 ⟨k2, List.forall_mem_cons.2 ⟨k3, List.forall_mem_cons.2 ⟨k4, fun u hu => h.hold u (List.mem_cons_of_mem _ hu)⟩⟩⟩⟩⟩)⟩
theorem shutv_Tell {F : List Nat} {w0 wr : World} {ts : List Mm.Thing} {x : Tell} {A0 A1 A2 A3 A4 : Option Addr} {n0 c0 n1 c1 n2 c2 n3 c3 n4 c4 : Nat} {f0 f1 f2 f3 f4 : List Nat} (h : Mm.SepF F w0 wr (Mm.tsl strs 40 x.Texts (.slice A0 n0 c0) f0 :: Mm.tsl Mm.int 3 x.Heard (.slice A1 n1 c1) f1 :: Mm.tsl rNote 94 x.Line (.slice A2 n2 c2) f2 :: Mm.tsl rTold 52 x.Log (.slice A3 n3 c3) f3 :: Mm.tsl Mm.int 3 x.Next (.slice A4 n4 c4) f4 :: ts)) :
    Mm.SepF F w0 wr (Mm.tow rTell x [.slice A0 n0 c0, .slice A1 n1 c1, .slice A2 n2 c2, .slice A3 n3 c3, .slice A4 n4 c4] (f0 ++ (f1 ++ (f2 ++ (f3 ++ f4)))) :: ts) :=
  h.conv (by simp [Mm.tow, Mm.tsl]) (List.forall_mem_cons.2 ⟨rTell_own_mk (h.sl 0 rfl) (h.sl 1 rfl) (h.sl 2 rfl) (h.sl 3 rfl) (h.sl 4 rfl), fun u hu => h.hold u (by
    iterate 5 apply List.mem_cons_of_mem
    exact hu)⟩)
theorem Mm.SepF.head {F : List Nat} {w0 wr : World} {ts : List Mm.Thing} {t : Mm.Thing} (h : Mm.SepF F w0 wr (t :: ts)) : Mm.SepF F w0 wr [t] := h.subE (.cons_cons _ (List.nil_sublist _))
def zTell : List Value := [.slice none 0 0, .slice none 0 0, .slice none 0 0, .slice none 0 0, .slice none 0 0]
def TellAns (t : Tell) (fp : List Nat) (w : World) (e : Ending) (w' : World) : Prop :=
  ∃ cs' fp', e = .returned (.agg cs'.toArray) ∧ Mm.Left fp w w' (Mm.tow rTell t cs' fp')
def TellAns2 (r : Tell × Bool) (fp : List Nat) (w : World) (e : Ending) (w' : World) : Prop :=
  ∃ cs' fp', e = .returned (.tuple #[.agg cs'.toArray, .bool r.2]) ∧ Mm.Left fp w w' (Mm.tow rTell r.1 cs' fp')
set_option maxRecDepth 100000 in
set_option maxHeartbeats 2000000 in
theorem l10Write_c (t : Tell) (m : Note) (cs : List Value) (fp : List Nat) (w : World) (h : (Mm.tow rTell t cs fp).holds w) (hnd : fp.Nodup) (hm : Mm.I64 m.What.Who ∧ Mm.I64 m.What.No ∧ m.What.Text.size ≤ maxLen) :
    Calls Try.prog 92 #[.agg cs.toArray, .agg #[.bool m.Back, .int .i64 m.What.Who, .int .i64 m.What.No, .string m.What.Text]] w (TellAns (Pl.tsend t m) fp w) := by
  obtain ⟨A0, c0, A1, c1, A2, c2, A3, c3, A4, c4, f0, f1, f2, f3, f4, rfl, rfl, hs⟩ := openv_Tell (Mm.SepF.one _ w h hnd)
  have HM := Lib.hid hm
  have H0 := Lib.hid hs
  clear h hs hm hnd
  go_enter Try.func92, Try.ntmps92
  go_upto_region 1 with fail
  obtain ⟨gt, hgt⟩ : ∃ gt, w.heap.size = gt := ⟨_, rfl⟩
  obtain ⟨gm, hgm⟩ : ∃ gm, gt + 1 = gm := ⟨_, rfl⟩
  obtain ⟨gr, hgr⟩ : ∃ gr, gm + 1 = gr := ⟨_, rfl⟩
  obtain ⟨W, hW⟩ : ∃ W, ((w.alloc (.cells #[.slice A0 t.Texts.length c0, .slice A1 t.Heard.length c1, .slice A2 t.Line.length c2, .slice A3 t.Log.length c3, .slice A4 t.Next.length c4] 31)).alloc (.cells #[.bool m.Back, .int .i64 m.What.Who, .int .i64 m.What.No, .string m.What.Text] 94)).alloc (.cells #[.slice none 0 0, .slice none 0 0, .slice none 0 0, .slice none 0 0, .slice none 0 0] 31) = W := ⟨_, rfl⟩
  have HS := Lib.hid ((((H0.out.alloc' hgt 31 [.slice A0 t.Texts.length c0, .slice A1 t.Heard.length c1, .slice A2 t.Line.length c2, .slice A3 t.Log.length c3, .slice A4 t.Next.length c4]).alloc' (g := gm) (by rw [Mm.sz1, hgt, hgm]) 94 [.bool m.Back, .int .i64 m.What.Who, .int .i64 m.What.No, .string m.What.Text]).alloc' (g := gr) (by rw [Mm.sz2, hgt]; omega) 31 zTell).atW hW)
  rw [hW, hgt, hgm, hgr]
  clear hW hgt hgm hgr
  have b0 := HS.out.cell (k := 0) 2 rfl rfl
  have b1 := HS.out.cell (k := 1) 2 rfl rfl
  have b2 := HS.out.cell (k := 2) 2 rfl rfl
  have b3 := HS.out.cell (k := 3) 2 rfl rfl
  have b4 := HS.out.cell (k := 4) 2 rfl rfl
  have y2 := HS.out.frz (k := 2) 2 rfl
  by_cases hlt : t.Line.length < 30
  · have HF : Hid (Pl.tsend t m = { t with Line := t.Line ++ [m] }) := if_pos hlt
    have f1' : ((t.Line.length : Nat) : Int) < 30 := by omega
    have m0 := HS.out.cell (k := 0) 1 rfl rfl
    have m1 := HS.out.cell (k := 1) 1 rfl rfl
    have m2 := HS.out.cell (k := 2) 1 rfl rfl
    have m3 := HS.out.cell (k := 3) 1 rfl rfl
    obtain ⟨i0, hi, hz0, hz1, hz2⟩ := info_parts Try.infoNote
    go_wp2_with (at_builtin; refine Mm.app_list HS.out 5 rfl rfl (.tmp 10) (.tmp 12) 28 rfl i0 _ 40 Try.underlying28 hi hz0 hz1 hz2 rfl (by decide) rfl rfl (fun W => rNote_own_mk HM.out) rfl (by unfold maxLen; omega) (by omega) ?_; intro g cap w' fp' hs; (have HS2 := Lib.hid hs); (have HS3 := Lib.hid (hs.setBlk (k := 2) 2 rfl (.slice (some ⟨g, 0, none⟩) (t.Line.length + 1) cap))); clear hs b0 b1 b2 b3 b4 y2; (have y2 := HS2.out.frz (k := 2) 2 rfl); (have y3 := HS2.out.cell (k := 2) 2 rfl rfl); (have b0 := HS3.out.cell (k := 0) 2 rfl rfl); (have b1 := HS3.out.cell (k := 1) 2 rfl rfl); (have b2 := HS3.out.cell (k := 2) 2 rfl rfl); (have b3 := HS3.out.cell (k := 3) 2 rfl rfl); (have b4 := HS3.out.cell (k := 4) 2 rfl rfl); (have z0 := HS3.out.frz (k := 0) 0 rfl); (have z1 := HS3.out.frz (k := 1) 0 rfl); (have z2 := HS3.out.frz (k := 2) 0 rfl); (have z3 := HS3.out.frz (k := 3) 0 rfl); (have z4 := HS3.out.frz (k := 4) 0 rfl); (have r0 := HS3.out.cell (k := 0) 0 rfl rfl); (have r1 := HS3.out.cell (k := 1) 0 rfl rfl); (have r2 := HS3.out.cell (k := 2) 0 rfl rfl); (have r3 := HS3.out.cell (k := 3) 0 rfl rfl); (have r4 := HS3.out.cell (k := 4) 0 rfl rfl))
    have HSR := HS3
    have HSF := Lib.hid (((((HSR.out.setBlk (k := 0) 0 rfl (.slice A0 t.Texts.length c0)).setBlk (k := 1) 0 rfl (.slice A1 t.Heard.length c1)).setBlk (k := 2) 0 rfl (.slice (some ⟨g, 0, none⟩) (t.Line.length + 1) cap)).setBlk (k := 3) 0 rfl (.slice A3 t.Log.length c3)).setBlk (k := 4) 0 rfl (.slice A4 t.Next.length c4))
    have q0 := HSF.out.cell (k := 0) 0 rfl rfl
    have q1 := HSF.out.cell (k := 1) 0 rfl rfl
    have q2 := HSF.out.cell (k := 2) 0 rfl rfl
    have q3 := HSF.out.cell (k := 3) 0 rfl rfl
    have q4 := HSF.out.cell (k := 4) 0 rfl rfl
    exact bodyPost_ret (v := .agg #[.slice A0 t.Texts.length c0, .slice A1 t.Heard.length c1, .slice (some ⟨g, 0, none⟩) (t.Line.length + 1) cap, .slice A3 t.Log.length c3, .slice A4 t.Next.length c4]) (by simp [results, Try.results92, go_sem, q0, q1, q2, q3, q4]) rfl ⟨[.slice A0 t.Texts.length c0, .slice A1 t.Heard.length c1, .slice (some ⟨g, 0, none⟩) (t.Line.length + 1) cap, .slice A3 t.Log.length c3, .slice A4 t.Next.length c4], _, rfl, by rw [HF.out]; exact (shutv_Tell (x := { t with Line := t.Line ++ [m] }) HSF.out.tail.tail.tail).left⟩
  · have HF : Hid (Pl.tsend t m = t) := if_neg hlt
    have f1' : ¬ ((t.Line.length : Nat) : Int) < 30 := by omega
    have HSR := HS
    have z0 := HSR.out.frz (k := 0) 0 rfl
    have z1 := HSR.out.frz (k := 1) 0 rfl
    have z2 := HSR.out.frz (k := 2) 0 rfl
    have z3 := HSR.out.frz (k := 3) 0 rfl
    have z4 := HSR.out.frz (k := 4) 0 rfl
    have r0 := HSR.out.cell (k := 0) 0 rfl rfl
    have r1 := HSR.out.cell (k := 1) 0 rfl rfl
    have r2 := HSR.out.cell (k := 2) 0 rfl rfl
    have r3 := HSR.out.cell (k := 3) 0 rfl rfl
    have r4 := HSR.out.cell (k := 4) 0 rfl rfl
    go_wp2
    have HSF := Lib.hid (((((HSR.out.setBlk (k := 0) 0 rfl (.slice A0 t.Texts.length c0)).setBlk (k := 1) 0 rfl (.slice A1 t.Heard.length c1)).setBlk (k := 2) 0 rfl (.slice A2 t.Line.length c2)).setBlk (k := 3) 0 rfl (.slice A3 t.Log.length c3)).setBlk (k := 4) 0 rfl (.slice A4 t.Next.length c4))
    have q0 := HSF.out.cell (k := 0) 0 rfl rfl
    have q1 := HSF.out.cell (k := 1) 0 rfl rfl
    have q2 := HSF.out.cell (k := 2) 0 rfl rfl
    have q3 := HSF.out.cell (k := 3) 0 rfl rfl
    have q4 := HSF.out.cell (k := 4) 0 rfl rfl
    exact bodyPost_ret (v := .agg #[.slice A0 t.Texts.length c0, .slice A1 t.Heard.length c1, .slice A2 t.Line.length c2, .slice A3 t.Log.length c3, .slice A4 t.Next.length c4]) (by simp [results, Try.results92, go_sem, q0, q1, q2, q3, q4]) rfl ⟨[.slice A0 t.Texts.length c0, .slice A1 t.Heard.length c1, .slice A2 t.Line.length c2, .slice A3 t.Log.length c3, .slice A4 t.Next.length c4], _, rfl, by rw [HF.out]; exact (shutv_Tell HSF.out.tail.tail.tail).left⟩
set_option maxRecDepth 100000 in
set_option maxHeartbeats 2000000 in
theorem l10TakeB_c (t : Tell) (m : Note) (cs : List Value) (fp : List Nat) (w : World) (h : (Mm.tow rTell t cs fp).holds w) (hnd : fp.Nodup) (hm : Mm.I64 m.What.Who ∧ Mm.I64 m.What.No ∧ m.What.Text.size ≤ maxLen) (hw : Pl.TWf t) (hk : Pl.MsgOk t m) (hbk : m.Back = true) :
    Calls Try.prog 93 #[.agg cs.toArray, .agg #[.bool m.Back, .int .i64 m.What.Who, .int .i64 m.What.No, .string m.What.Text]] w (TellAns (Pl.ttake t m) fp w) := by
  have HF : Hid (Pl.ttake t m = Pl.tback t m.What) := if_pos hbk
  obtain ⟨bk, ⟨who, no, tx⟩⟩ := m
  dsimp only at hm hk hbk HF ⊢
  subst hbk
  have hk0 := hk.1
  have hk1 := hk.2.1
  have hh := hw.heard
  dsimp only at hk0 hk1
  obtain ⟨k, rfl⟩ : ∃ k : Nat, who = k := ⟨who.toNat, by omega⟩
  obtain ⟨A0, c0, A1, c1, A2, c2, A3, c3, A4, c4, f0, f1, f2, f3, f4, rfl, rfl, hs⟩ := openv_Tell (Mm.SepF.one _ w h hnd)
  obtain ⟨g1, hA1, -, -⟩ := Mm.sl_addr (hs.sl 1 rfl) (by omega)
  have hkl : k < t.Heard.length := by omega
  have ha : t.Heard[k]? = some t.Heard[k] := List.getElem?_eq_getElem hkl
  generalize t.Heard[k] = a at ha
  have HI := Lib.hid (show Pl.iAt t.Heard (k : Int) = a from Pl.iAt_of (by simpa using ha))
  have HA := Lib.hid ha
  have HNO := Lib.hid hm.2.1
  have hcap : t.Heard.length ≤ c1 ∧ c1 ≤ maxLen := by obtain ⟨A', n', c', hv, h1, h2, h3, _⟩ := (hs.sl 1 rfl).form; injection hv with _ h4 h5; omega
  have f1' : ((k : Nat) : Int) < (t.Heard.length : Nat) := by omega
  have f2' : (0 : Int) ≤ (k : Nat) := by omega
  have f3' : ((k : Nat) : Int).toNat = k := by omega
  have HH := Lib.hid (And.intro hh hw)
  have HK := Lib.hid hk
  unfold maxLen at hcap
  have H0 := Lib.hid hs
  have HA1 := Lib.hid hA1
  clear h hs hm hnd hh hw hk ha hA1
  go_enter Try.func93, Try.ntmps93
  go_upto_region 1 with fail
  obtain ⟨gt, hgt⟩ : ∃ gt, w.heap.size = gt := ⟨_, rfl⟩
  obtain ⟨gm, hgm⟩ : ∃ gm, gt + 1 = gm := ⟨_, rfl⟩
  obtain ⟨gr, hgr⟩ : ∃ gr, gm + 1 = gr := ⟨_, rfl⟩
  obtain ⟨W, hW⟩ : ∃ W, ((w.alloc (.cells #[.slice A0 t.Texts.length c0, .slice A1 t.Heard.length c1, .slice A2 t.Line.length c2, .slice A3 t.Log.length c3, .slice A4 t.Next.length c4] 31)).alloc (.cells #[.bool true, .int .i64 k, .int .i64 no, .string tx] 94)).alloc (.cells #[.slice none 0 0, .slice none 0 0, .slice none 0 0, .slice none 0 0, .slice none 0 0] 31) = W := ⟨_, rfl⟩
  have HS := Lib.hid ((((H0.out.alloc' hgt 31 [.slice A0 t.Texts.length c0, .slice A1 t.Heard.length c1, .slice A2 t.Line.length c2, .slice A3 t.Log.length c3, .slice A4 t.Next.length c4]).alloc' (g := gm) (by rw [Mm.sz1, hgt, hgm]) 94 [.bool true, .int .i64 k, .int .i64 no, .string tx]).alloc' (g := gr) (by rw [Mm.sz2, hgt]; omega) 31 zTell).atW hW)
  rw [hW, hgt, hgm, hgr]
  clear hW hgt hgm hgr
  obtain rfl : A1 = some ⟨g1, 0, none⟩ := HA1.out
  have e1 := int_ocell (HS.out.sl 4 rfl) (HS.out.ndat (i := 4) rfl) HA.out
  have d1 := HS.out.cell (k := 1) 2 rfl rfl
  have m0 := HS.out.cell (k := 0) 1 rfl rfl
  have m1 := HS.out.cell (k := 1) 1 rfl rfl
  have m2 := HS.out.cell (k := 2) 1 rfl rfl
  by_cases hlt : a < no
  · have HB : Hid (Pl.tback t ⟨k, no, tx⟩ = { t with Heard := t.Heard.set k no }) := by
      show _ = _
      unfold Pl.tback
      dsimp only
      rw [HI.out, if_pos hlt]
      rfl
    have f4' : decide (a < no) = true := by simp [hlt]
    go_wp2
    refine wp_region_und (by kernel_rfl) (by kernel_rfl) ?_
    repeat (go_big_quiet_step ((first | fail)))
    refine wpQuiet_nil ?_
    intro X hX
    have HS2 := Lib.hid (HS.out.step hX)
    clear e1 d1 m0 m1 m2
    have e1 := int_ocell (HS2.out.sl 4 rfl) (HS2.out.ndat (i := 4) rfl) HA.out
    have p1 := (HS2.out.sl 4 rfl).frozen k
    have d1 := HS2.out.cell (k := 1) 2 rfl rfl
    have m2 := HS2.out.cell (k := 2) 1 rfl rfl
    have HS3 := Lib.hid (HS2.out.put1 (k := k) 4 rfl rfl HA.out (x' := no) (u := .int .i64 no) (fun cs fx hh => by obtain ⟨rfl, _, rfl⟩ := hh; exact ⟨rfl, HNO.out, rfl⟩))
    have HSR := HS3
    have b0 := HS3.out.cell (k := 0) 2 rfl rfl
    have b1 := HS3.out.cell (k := 1) 2 rfl rfl
    have b2 := HS3.out.cell (k := 2) 2 rfl rfl
    have b3 := HS3.out.cell (k := 3) 2 rfl rfl
    have b4 := HS3.out.cell (k := 4) 2 rfl rfl
    have z0 := HS3.out.frz (k := 0) 0 rfl
    have z1 := HS3.out.frz (k := 1) 0 rfl
    have z2 := HS3.out.frz (k := 2) 0 rfl
    have z3 := HS3.out.frz (k := 3) 0 rfl
    have z4 := HS3.out.frz (k := 4) 0 rfl
    have r0 := HS3.out.cell (k := 0) 0 rfl rfl
    have r1 := HS3.out.cell (k := 1) 0 rfl rfl
    have r2 := HS3.out.cell (k := 2) 0 rfl rfl
    have r3 := HS3.out.cell (k := 3) 0 rfl rfl
    have r4 := HS3.out.cell (k := 4) 0 rfl rfl
    go_wp2
    have HSF := Lib.hid (((((HSR.out.setBlk (k := 0) 0 rfl (.slice A0 t.Texts.length c0)).setBlk (k := 1) 0 rfl (.slice (some ⟨g1, 0, none⟩) t.Heard.length c1)).setBlk (k := 2) 0 rfl (.slice A2 t.Line.length c2)).setBlk (k := 3) 0 rfl (.slice A3 t.Log.length c3)).setBlk (k := 4) 0 rfl (.slice A4 t.Next.length c4))
    have q0 := HSF.out.cell (k := 0) 0 rfl rfl
    have q1 := HSF.out.cell (k := 1) 0 rfl rfl
    have q2 := HSF.out.cell (k := 2) 0 rfl rfl
    have q3 := HSF.out.cell (k := 3) 0 rfl rfl
    have q4 := HSF.out.cell (k := 4) 0 rfl rfl
    exact bodyPost_ret (v := .agg #[.slice A0 t.Texts.length c0, .slice (some ⟨g1, 0, none⟩) t.Heard.length c1, .slice A2 t.Line.length c2, .slice A3 t.Log.length c3, .slice A4 t.Next.length c4]) (by simp [results, Try.results93, go_sem, q0, q1, q2, q3, q4]) rfl ⟨[.slice A0 t.Texts.length c0, .slice (some ⟨g1, 0, none⟩) t.Heard.length c1, .slice A2 t.Line.length c2, .slice A3 t.Log.length c3, .slice A4 t.Next.length c4], _, rfl, by rw [HF.out, HB.out]; exact (shutv_Tell (x := { t with Heard := t.Heard.set k no }) HSF.out.tail.tail.tail).left⟩
  · have HB : Hid (Pl.tback t ⟨k, no, tx⟩ = t) := by
      show _ = _
      unfold Pl.tback
      dsimp only
      rw [HI.out, if_neg hlt]
      have : t.Heard.set k a = t.Heard := by
        apply List.ext_getElem?
        intro j
        by_cases hj : k = j
        · subst hj; rw [List.getElem?_set_self hkl, HA.out]
        · rw [List.getElem?_set_ne hj]
      rw [show ((k : Nat) : Int).toNat = k by omega, this]
    have f4' : decide (a < no) = false := by simp; omega
    go_wp2
    refine wp_region_und (by kernel_rfl) (by kernel_rfl) ?_
    repeat (go_big_quiet_step ((first | fail)))
    refine wpQuiet_nil ?_
    intro X hX
    have HS2 := Lib.hid (HS.out.step hX)
    clear e1 d1 m0 m1 m2
    have HSR := HS2
    have b0 := HS2.out.cell (k := 0) 2 rfl rfl
    have b1 := HS2.out.cell (k := 1) 2 rfl rfl
    have b2 := HS2.out.cell (k := 2) 2 rfl rfl
    have b3 := HS2.out.cell (k := 3) 2 rfl rfl
    have b4 := HS2.out.cell (k := 4) 2 rfl rfl
    have z0 := HS2.out.frz (k := 0) 0 rfl
    have z1 := HS2.out.frz (k := 1) 0 rfl
    have z2 := HS2.out.frz (k := 2) 0 rfl
    have z3 := HS2.out.frz (k := 3) 0 rfl
    have z4 := HS2.out.frz (k := 4) 0 rfl
    have r0 := HS2.out.cell (k := 0) 0 rfl rfl
    have r1 := HS2.out.cell (k := 1) 0 rfl rfl
    have r2 := HS2.out.cell (k := 2) 0 rfl rfl
    have r3 := HS2.out.cell (k := 3) 0 rfl rfl
    have r4 := HS2.out.cell (k := 4) 0 rfl rfl
    go_wp2
    have HSF := Lib.hid (((((HSR.out.setBlk (k := 0) 0 rfl (.slice A0 t.Texts.length c0)).setBlk (k := 1) 0 rfl (.slice (some ⟨g1, 0, none⟩) t.Heard.length c1)).setBlk (k := 2) 0 rfl (.slice A2 t.Line.length c2)).setBlk (k := 3) 0 rfl (.slice A3 t.Log.length c3)).setBlk (k := 4) 0 rfl (.slice A4 t.Next.length c4))
    have q0 := HSF.out.cell (k := 0) 0 rfl rfl
    have q1 := HSF.out.cell (k := 1) 0 rfl rfl
    have q2 := HSF.out.cell (k := 2) 0 rfl rfl
    have q3 := HSF.out.cell (k := 3) 0 rfl rfl
    have q4 := HSF.out.cell (k := 4) 0 rfl rfl
    exact bodyPost_ret (v := .agg #[.slice A0 t.Texts.length c0, .slice (some ⟨g1, 0, none⟩) t.Heard.length c1, .slice A2 t.Line.length c2, .slice A3 t.Log.length c3, .slice A4 t.Next.length c4]) (by simp [results, Try.results93, go_sem, q0, q1, q2, q3, q4]) rfl ⟨[.slice A0 t.Texts.length c0, .slice (some ⟨g1, 0, none⟩) t.Heard.length c1, .slice A2 t.Line.length c2, .slice A3 t.Log.length c3, .slice A4 t.Next.length c4], _, rfl, by rw [HF.out, HB.out]; exact (shutv_Tell (x := t) HSF.out.tail.tail.tail).left⟩
set_option maxRecDepth 100000 in
set_option maxHeartbeats 2000000 in
theorem l10TakeL_c (t : Tell) (m : Note) (cs : List Value) (fp : List Nat) (w : World) (h : (Mm.tow rTell t cs fp).holds w) (hnd : fp.Nodup) (hm : Mm.I64 m.What.Who ∧ Mm.I64 m.What.No ∧ m.What.Text.size ≤ maxLen) (hw : Pl.TWf t) (hk : Pl.MsgOk t m) (hbk : m.Back = false) :
    Calls Try.prog 93 #[.agg cs.toArray, .agg #[.bool m.Back, .int .i64 m.What.Who, .int .i64 m.What.No, .string m.What.Text]] w (TellAns (Pl.ttake t m) fp w) := by
  have HW1 := Lib.hid (hw.tlog hk hbk)
  have hl80 := hw.log_len
  have HF : Hid (Pl.ttake t m = Pl.tsend (Pl.tlog t m.What) ⟨true, ⟨m.What.Who, Pl.iAt (Pl.tlog t m.What).Next m.What.Who, ByteArray.empty⟩⟩) := if_neg (by rw [hbk]; simp)
  obtain ⟨bk, ⟨who, no, tx⟩⟩ := m
  dsimp only at hm hk hbk HF HW1 ⊢
  subst hbk
  have hk0 := hk.1
  have hk1 := hk.2.1
  have hh := hw.next
  dsimp only at hk0 hk1
  obtain ⟨k, rfl⟩ : ∃ k : Nat, who = k := ⟨who.toNat, by omega⟩
  obtain ⟨A0, c0, A1, c1, A2, c2, A3, c3, A4, c4, f0, f1, f2, f3, f4, rfl, rfl, hs⟩ := openv_Tell (Mm.SepF.one _ w h hnd)
  obtain ⟨g4, hA4, -, -⟩ := Mm.sl_addr (hs.sl 4 rfl) (by omega)
  have hkl : k < t.Next.length := by omega
  have ha : t.Next[k]? = some t.Next[k] := List.getElem?_eq_getElem hkl
  generalize t.Next[k] = a at ha
  have HI := Lib.hid (show Pl.iAt t.Next (k : Int) = a from Pl.iAt_of (by simpa using ha))
  have HA := Lib.hid ha
  have HNO := Lib.hid hm
  have hcap : t.Next.length ≤ c4 ∧ c4 ≤ maxLen := by obtain ⟨A', n', c', hv, h1, h2, h3, _⟩ := (hs.sl 4 rfl).form; injection hv with _ h4 h5; omega
  have hab : 0 ≤ a ∧ a ≤ 20 := by
    have hkt : k < t.Texts.length := by omega
    have h1 := hw.nx k a _ ha (List.getElem?_eq_getElem hkt)
    have h2 := hw.texts k _ (List.getElem?_eq_getElem hkt)
    omega
  have f1' : ((k : Nat) : Int) < (t.Next.length : Nat) := by omega
  have f2' : (0 : Int) ≤ (k : Nat) := by omega
  have f3' : ((k : Nat) : Int).toNat = k := by omega
  have HH := Lib.hid (And.intro hh hw)
  have HK := Lib.hid hk
  unfold maxLen at hcap
  have H0 := Lib.hid hs
  have HA4 := Lib.hid hA4
  clear h hs hm hnd hh hw hk ha hA4
  go_enter Try.func93, Try.ntmps93
  go_upto_region 1 with fail
  obtain ⟨gt, hgt⟩ : ∃ gt, w.heap.size = gt := ⟨_, rfl⟩
  obtain ⟨gm, hgm⟩ : ∃ gm, gt + 1 = gm := ⟨_, rfl⟩
  obtain ⟨gr, hgr⟩ : ∃ gr, gm + 1 = gr := ⟨_, rfl⟩
  obtain ⟨W, hW⟩ : ∃ W, ((w.alloc (.cells #[.slice A0 t.Texts.length c0, .slice A1 t.Heard.length c1, .slice A2 t.Line.length c2, .slice A3 t.Log.length c3, .slice A4 t.Next.length c4] 31)).alloc (.cells #[.bool false, .int .i64 k, .int .i64 no, .string tx] 94)).alloc (.cells #[.slice none 0 0, .slice none 0 0, .slice none 0 0, .slice none 0 0, .slice none 0 0] 31) = W := ⟨_, rfl⟩
  have HS := Lib.hid ((((H0.out.alloc' hgt 31 [.slice A0 t.Texts.length c0, .slice A1 t.Heard.length c1, .slice A2 t.Line.length c2, .slice A3 t.Log.length c3, .slice A4 t.Next.length c4]).alloc' (g := gm) (by rw [Mm.sz1, hgt, hgm]) 94 [.bool false, .int .i64 k, .int .i64 no, .string tx]).alloc' (g := gr) (by rw [Mm.sz2, hgt]; omega) 31 zTell).atW hW)
  rw [hW, hgt, hgm, hgr]
  clear hW hgt hgm hgr
  obtain rfl : A4 = some ⟨g4, 0, none⟩ := HA4.out
  have e1 := int_ocell (HS.out.sl 7 rfl) (HS.out.ndat (i := 7) rfl) HA.out
  have d4 := HS.out.cell (k := 4) 2 rfl rfl
  have m0 := HS.out.cell (k := 0) 1 rfl rfl
  have m1 := HS.out.cell (k := 1) 1 rfl rfl
  have m2 := HS.out.cell (k := 2) 1 rfl rfl
  go_wp2
  refine wp_region_und (by kernel_rfl) (by kernel_rfl) ?_
  repeat (go_big_quiet_step ((first | (go_at_call 63; exact und_same _ (l10Judge_c a no _)))))
  refine wpQuiet_nil ?_
  intro X hX
  have HS1 := Lib.hid (HS.out.step hX)
  clear e1 d4 m0 m1 m2
  go_upto_if 37 with fail
  have hys := Pl.tlog_same t ⟨k, no, tx⟩
  obtain ⟨y, hy⟩ : ∃ y, Pl.tlog t ⟨k, no, tx⟩ = y := ⟨_, rfl⟩
  rw [hy] at HW1 HF hys
  have HY := Lib.hid hy
  have HYS := Lib.hid hys
  clear hy hys
  go_cut [] (fun wx => ∃ (A3 : Option Addr) (n3 c3 : Nat) (f3' : List Nat), Mm.SepF (Mm.tow rTell t [.slice A0 t.Texts.length c0, .slice A1 t.Heard.length c1, .slice A2 t.Line.length c2, .slice A3 t.Log.length c3, .slice (some ⟨g4, 0, none⟩) t.Next.length c4] (f0 ++ (f1 ++ (f2 ++ (f3 ++ f4))))).fp w wx [Mm.tblk gr 31 zTell, Mm.tblk gm 94 [.bool false, .int .i64 k, .int .i64 no, .string tx], Mm.tblk gt 31 [.slice A0 t.Texts.length c0, .slice A1 t.Heard.length c1, .slice A2 t.Line.length c2, .slice A3 n3 c3, .slice (some ⟨g4, 0, none⟩) t.Next.length c4], Mm.tsl strs 40 t.Texts (.slice A0 t.Texts.length c0) f0, Mm.tsl Mm.int 3 t.Heard (.slice A1 t.Heard.length c1) f1, Mm.tsl rNote 94 t.Line (.slice A2 t.Line.length c2) f2, Mm.tsl rTold 52 y.Log (.slice A3 n3 c3) f3', Mm.tsl Mm.int 3 y.Next (.slice (some ⟨g4, 0, none⟩) t.Next.length c4) f4])
  case first =>
    by_cases hna : no = a
    · subst hna
      have HT : Hid (y = { t with Log := t.Log ++ [⟨k, no, tx⟩], Next := t.Next.set k (no + 1) }) := by
        show _ = _
        rw [← HY.out]
        unfold Pl.tlog
        rw [if_pos (show (⟨k, no, tx⟩ : Told).No = _ from HI.out.symm)]
        dsimp only
        rw [HI.out]
        rfl
      have hjd : (Pl.judge no no == 1) = true := by unfold Pl.judge; rw [if_pos rfl]; rfl
      have m1 := HS1.out.cell (k := 1) 1 rfl rfl
      have m2 := HS1.out.cell (k := 2) 1 rfl rfl
      have m3 := HS1.out.cell (k := 3) 1 rfl rfl
      have d3 := HS1.out.cell (k := 3) 2 rfl rfl
      obtain ⟨i0, hi, hz0, hz1, hz2⟩ := info_parts Try.infoTold
      go_wp2_with (at_builtin; refine Mm.app_list (x := (⟨k, no, tx⟩ : Told)) HS1.out 6 rfl rfl (.tmp 39) (.tmp 42) 29 rfl i0 _ 32 Try.underlying29 hi hz0 hz1 hz2 rfl (by decide) rfl rfl (fun W => rTold_own_mk (x := ⟨k, no, tx⟩) HNO.out) rfl (by unfold maxLen; omega) (by omega) ?_; intro g cap w' fp' hs; (have HS2 := Lib.hid hs); (have HS3 := Lib.hid (hs.setBlk (k := 3) 2 rfl (.slice (some ⟨g, 0, none⟩) (t.Log.length + 1) cap))); (have HS4 := Lib.hid (HS3.out.put1 (k := k) 7 rfl rfl HA.out (x' := no + 1) (u := .int .i64 (no + 1)) (fun cs fx hh => by obtain ⟨rfl, _, rfl⟩ := hh; exact ⟨rfl, by unfold Mm.I64; omega, rfl⟩))); clear hs; (have y2 := HS2.out.frz (k := 3) 2 rfl); (have y3 := HS2.out.cell (k := 3) 2 rfl rfl); (have v4 := HS3.out.cell (k := 4) 2 rfl rfl); (have e1 := int_ocell (HS3.out.sl 7 rfl) (HS3.out.ndat (i := 7) rfl) HA.out); (have z1 := (HS3.out.sl 7 rfl).frozen k))
      go_meet
      exact ⟨some ⟨g, 0, none⟩, _, cap, fp', by rw [HT.out]; exact HS4.out⟩
    · have hjd : (Pl.judge a no == 1) = false := Pl.judge_no hna
      have HT : Hid (y = t) := by
        show _ = _
        rw [← HY.out]
        unfold Pl.tlog
        exact if_neg (fun hh => hna (hh.trans HI.out))
      go_wp2
      go_meet
      exact ⟨A3, _, c3, f3, by rw [HT.out]; exact HS1.out⟩
  case rest =>
    obtain ⟨A3, n3, c3, f3', hc⟩ := hcut
    have HC := Lib.hid hc
    have hyn : k < y.Next.length := by have := HYS.out.2.2.2; omega
    have hb : y.Next[k]? = some y.Next[k] := List.getElem?_eq_getElem hyn
    generalize y.Next[k] = b at hb
    have HB := Lib.hid hb
    have HIB : Hid (Pl.iAt y.Next (k : Int) = b) := Pl.iAt_of (by simpa using hb)
    have HBI := Lib.hid (Mm.int_i64 (hc.sl 7 rfl) hb)
    have b0 := HC.out.cell (k := 0) 2 rfl rfl
    have b1 := HC.out.cell (k := 1) 2 rfl rfl
    have b2 := HC.out.cell (k := 2) 2 rfl rfl
    have b3 := HC.out.cell (k := 3) 2 rfl rfl
    have b4 := HC.out.cell (k := 4) 2 rfl rfl
    have q7 := int_ocell (HC.out.sl 7 rfl) (HC.out.ndat (i := 7) rfl) hb
    clear hc hb
    go_wp2
    refine wp_region_und_tail 9 (by kernel_rfl) (by kernel_rfl) ?_
    simp only [List.take_succ_cons, List.take_zero, List.drop_succ_cons, List.drop_zero]
    repeat (go_big_quiet_step ((first | fail)))
    refine wpQuiet_nil ?_
    intro X hX
    have HC2 := HC.out.step hX
    have HC3 := Lib.hid (shutv_Tell (x := y) (Mm.sep_eq (us := [Mm.tsl strs 40 y.Texts (.slice A0 t.Texts.length c0) f0, Mm.tsl Mm.int 3 y.Heard (.slice A1 t.Heard.length c1) f1, Mm.tsl rNote 94 y.Line (.slice A2 t.Line.length c2) f2, Mm.tsl rTold 52 y.Log (.slice A3 n3 c3) f3', Mm.tsl Mm.int 3 y.Next (.slice (some ⟨g4, 0, none⟩) t.Next.length c4) f4, Mm.tblk gr 31 zTell, Mm.tblk gm 94 [.bool false, .int .i64 k, .int .i64 no, .string tx], Mm.tblk gt 31 [.slice A0 t.Texts.length c0, .slice A1 t.Heard.length c1, .slice A2 t.Line.length c2, .slice A3 n3 c3, .slice (some ⟨g4, 0, none⟩) t.Next.length c4]]) HC2.rot3 (by rw [HYS.out.1, HYS.out.2.1, HYS.out.2.2.1]; rfl)))
    have CW := l10Write_c y ⟨true, ⟨k, b, ⟨#[]⟩⟩⟩ _ _ X (HC3.out.at_ 0 rfl) (HC3.out.ndat (i := 0) rfl) ⟨HNO.out.1, HBI.out, Nat.zero_le _⟩
    clear b0 b1 b2 b3 b4 q7 HC2
    go_wp2_with (go_at_call 92; refine CW.mono ?_; rintro e w9 ⟨cs9, fp9, rfl, hL⟩; obtain ⟨A10, c10, A11, c11, A12, c12, A13, c13, A14, c14, f10, f11, f12, f13, f14, rfl, rfl, hs9⟩ := openv_Tell (HC3.out.call 0 rfl hL); (have HSR := Lib.hid hs9); clear hL hs9 CW; (have z0 := HSR.out.frz (k := 0) 5 rfl); (have z1 := HSR.out.frz (k := 1) 5 rfl); (have z2 := HSR.out.frz (k := 2) 5 rfl); (have z3 := HSR.out.frz (k := 3) 5 rfl); (have z4 := HSR.out.frz (k := 4) 5 rfl); (have r0 := HSR.out.cell (k := 0) 5 rfl rfl); (have r1 := HSR.out.cell (k := 1) 5 rfl rfl); (have r2 := HSR.out.cell (k := 2) 5 rfl rfl); (have r3 := HSR.out.cell (k := 3) 5 rfl rfl); (have r4 := HSR.out.cell (k := 4) 5 rfl rfl))
    obtain ⟨z, hz⟩ : ∃ z, Pl.tsend y ⟨true, ⟨k, b, ⟨#[]⟩⟩⟩ = z := ⟨_, rfl⟩
    rw [hz] at HSR ⊢
    have HSF := Lib.hid (((((HSR.out.setBlk (k := 0) 5 rfl (.slice A10 z.Texts.length c10)).setBlk (k := 1) 5 rfl (.slice A11 z.Heard.length c11)).setBlk (k := 2) 5 rfl (.slice A12 z.Line.length c12)).setBlk (k := 3) 5 rfl (.slice A13 z.Log.length c13)).setBlk (k := 4) 5 rfl (.slice A14 z.Next.length c14))
    have q0 := HSF.out.cell (k := 0) 5 rfl rfl
    have q1 := HSF.out.cell (k := 1) 5 rfl rfl
    have q2 := HSF.out.cell (k := 2) 5 rfl rfl
    have q3 := HSF.out.cell (k := 3) 5 rfl rfl
    have q4 := HSF.out.cell (k := 4) 5 rfl rfl
    exact bodyPost_ret (v := .agg #[.slice A10 z.Texts.length c10, .slice A11 z.Heard.length c11, .slice A12 z.Line.length c12, .slice A13 z.Log.length c13, .slice A14 z.Next.length c14]) (by simp [results, Try.results93, go_sem, q0, q1, q2, q3, q4]) rfl ⟨[.slice A10 z.Texts.length c10, .slice A11 z.Heard.length c11, .slice A12 z.Line.length c12, .slice A13 z.Log.length c13, .slice A14 z.Next.length c14], _, rfl, by
      rw [HF.out, HIB.out, show ByteArray.empty = ⟨#[]⟩ from rfl, hz]
      exact (shutv_Tell (x := z) HSF.out).head.left⟩
theorem l10Take_c (t : Tell) (m : Note) (cs : List Value) (fp : List Nat) (w : World) (h : (Mm.tow rTell t cs fp).holds w) (hnd : fp.Nodup) (hm : Mm.I64 m.What.Who ∧ Mm.I64 m.What.No ∧ m.What.Text.size ≤ maxLen) (hw : Pl.TWf t) (hk : Pl.MsgOk t m) :
    Calls Try.prog 93 #[.agg cs.toArray, .agg #[.bool m.Back, .int .i64 m.What.Who, .int .i64 m.What.No, .string m.What.Text]] w (TellAns (Pl.ttake t m) fp w) := by
  cases hb : m.Back with
  | true => exact hb ▸ l10TakeB_c t m cs fp w h hnd hm hw hk hb
  | false => exact hb ▸ l10TakeL_c t m cs fp w h hnd hm hw hk hb
end Go.Proofs.Ytaepohocabealaa
