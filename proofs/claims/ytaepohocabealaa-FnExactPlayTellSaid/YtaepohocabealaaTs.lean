/-
  Contracts: the teller's steps (chapter 10). No conditions.
-/
import Derived.Test.YtaepohocabealaaTo
import Derived.Test.YtaepohocabealaaSw
import Derived.Test.YtaepohocabealaaPt
import Derived.Test.YtaepohocabealaaWa
import Derived.Lib.Hide
import Derived.Deep.DeepFit
import Derived.Deep.RegionLaw
import Derived.Test.YtaepohocabealaaOp
import Derived.Deep.LoopGhost
import Derived.Deep.DeepCutAuto
import Derived.Test.YtaepohocabealaaQt
namespace Go.Proofs.Ytaepohocabealaa
open Go.RowKit
attribute [local go_sem] und_cell World.cell?_alloc_some
theorem Try.infoNote : (Try.prog.info? 94).map (fun i => (i.zero, i.size, i.bytes)) = some (some (.agg #[.bool false, .int .i64 0, .int .i64 0, .string ⟨#[]⟩]), 4, 40) := by kernel_rfl
set_option maxRecDepth 100000 in
set_option maxHeartbeats 1000000 in
theorem send_c (t : Tell) (m : Note) (g : Nat) (fp : List Nat) (w : World) (h : (Mm.tptr rTell 31 g t fp).holds w) (hnd : (g :: fp).Nodup) (hm : Mm.I64 m.What.Who ∧ Mm.I64 m.What.No ∧ m.What.Text.size ≤ maxLen) :
    Calls Try.prog 89 #[.pointer (some ⟨g, 0, none⟩), .agg #[.bool m.Back, .int .i64 m.What.Who, .int .i64 m.What.No, .string m.What.Text]] w fun e w' => e = .returned (.tuple #[]) ∧ ∃ fp', Mm.Left (g :: fp) w w' (Mm.tptr rTell 31 g (Pl.tsend t m) fp') := by
  obtain ⟨A0, n0, c0, A1, n1, c1, A2, n2, c2, A3, n3, c3, A4, n4, c4, f0, f1, f2, f3, f4, rfl, hs⟩ := open_Tell (Mm.SepF.one _ w h hnd)
  have HS0 := Lib.hid hs
  have HS := Lib.hid (hs.alloc' rfl 94 [.bool m.Back, .int .i64 m.What.Who, .int .i64 m.What.No, .string m.What.Text])
  have HM := Lib.hid hm
  have hln : n2 = t.Line.length := by obtain ⟨A', n', c', hv, h1, _⟩ := (HS.out.sl 4 rfl).form; injection hv with _ h2 _; omega
  subst hln
  clear h hs hm hnd
  have d0 := HS.out.cell (k := 2) 1 rfl rfl
  have z0 := HS.out.frz (k := 2) 1 rfl
  have b0 := HS.out.cell (k := 0) 0 rfl rfl
  have b1 := HS.out.cell (k := 1) 0 rfl rfl
  have b2 := HS.out.cell (k := 2) 0 rfl rfl
  have b3 := HS.out.cell (k := 3) 0 rfl rfl
  obtain ⟨i0, hi, hz0, hz1, hz2⟩ := info_parts Try.infoNote
  by_cases hlt : t.Line.length < 30
  · have HF : Hid (Pl.tsend t m = { t with Line := t.Line ++ [m] }) := if_pos hlt
    have f1' : ((t.Line.length : Nat) : Int) < 30 := by omega
    go_enter Try.func89, Try.ntmps89
    obtain ⟨l0, ho2, hnext⟩ := HS.out.push0 4 rfl (W2 := ((w.alloc (.cells #[.bool m.Back, .int .i64 m.What.Who, .int .i64 m.What.No, .string m.What.Text] 94)).alloc (.cells #[.bool m.Back, .int .i64 m.What.Who, .int .i64 m.What.No, .string m.What.Text] 94)).drew) (x := m) (below_new (Below.refl _ _) _).drew (rNote_own_mk HM.out)
    have HNX := Lib.hid hnext
    have HO2 := Lib.hid ho2
    clear hnext ho2
    go_wp2
    go_region_law (first
      | (refine step_append_lies _ (by rfl) (.tmp 14) (.tmp 16) 28 (by rfl) 0 94 i0 _ 4 40 Try.underlying28 hi hz0 hz1 hz2 rfl (by omega) _ t.Line.length l0 (by rfl) HO2.out ⟨w.heap.size + 1, 0, none⟩ 1 1 [.bool m.Back, .int .i64 m.What.Who, .int .i64 m.What.No, .string m.What.Text] (by rfl) (by rfl) (World.news_of_block (B := w.heap.size + 1) (cs := #[.bool m.Back, .int .i64 m.What.Who, .int .i64 m.What.No, .string m.What.Text]) (t := 94) (fr := (0, 0)) (Mm.heap_new _ (Mm.sz1 _ _) _)) (by simp [Value.oneCell']) (by omega) (by unfold maxLen; omega) (by omega) (Nat.zero_le _) _ rfl ?_; intro gg cap w4 hown1 hgrow hat hlt'; obtain ⟨fp', hs4⟩ := HNX.out gg cap w4 hown1 hgrow hat; (have HS4 := Lib.hid hs4); (have d4 := HS4.out.cell (k := 2) 1 rfl rfl); (have z4 := HS4.out.frz (k := 2) 1 rfl); clear hs4 hown1 hgrow hat))
    all_goals
      go_wp2
      rw [HF.out]
      go_end0
      exact ⟨rfl, _, (shut_Tell (x := { t with Line := t.Line ++ [m] }) (HS4.out.setBlk 1 rfl _).tail).left⟩
  · have HF : Hid (Pl.tsend t m = t) := if_neg hlt
    have f1' : ¬ ((t.Line.length : Nat) : Int) < 30 := by omega
    go_enter Try.func89, Try.ntmps89
    go_wp2
    rw [HF.out]
    go_end0
    exact ⟨rfl, _, (shut_Tell HS.out.tail).left⟩
theorem Mm.int_i64 {w : World} {e : TypeId} {xs : List Int} {v : Value} {fp : List Nat} (h : Mm.SlOwn Mm.int e w xs v fp) {k : Nat} {a : Int} (ha : xs[k]? = some a) : Mm.I64 a := by
  obtain ⟨es, he, -, -⟩ := h
  have hk := (List.getElem?_eq_some_iff.1 ha).1
  have := he.2 k _ _ ha (List.getElem?_eq_getElem (show k < es.length by rw [he.1]; exact hk))
  exact this.2.1
set_option maxRecDepth 100000 in
set_option maxHeartbeats 1000000 in
theorem takeBack_c (t : Tell) (m : Note) (g : Nat) (fp : List Nat) (w : World) (h : (Mm.tptr rTell 31 g t fp).holds w) (hnd : (g :: fp).Nodup) (hm : Mm.I64 m.What.Who ∧ Mm.I64 m.What.No ∧ m.What.Text.size ≤ maxLen) (hw : Pl.TWf t) (hk : Pl.MsgOk t m) (hbk : m.Back = true) :
    Calls Try.prog 91 #[.pointer (some ⟨g, 0, none⟩), .agg #[.bool m.Back, .int .i64 m.What.Who, .int .i64 m.What.No, .string m.What.Text]] w fun e w' => e = .returned (.tuple #[]) ∧ ∃ fp', Mm.Left (g :: fp) w w' (Mm.tptr rTell 31 g (Pl.ttake t m) fp') := by
  have HF : Hid (Pl.ttake t m = Pl.tback t m.What) := if_pos hbk
  obtain ⟨bk, ⟨who, no, tx⟩⟩ := m
  dsimp only at hm hk hbk HF ⊢
  subst hbk
  have hk0 := hk.1
  have hk1 := hk.2.1
  have hh := hw.heard
  dsimp only at hk0 hk1
  obtain ⟨k, rfl⟩ : ∃ k : Nat, who = k := ⟨who.toNat, by omega⟩
  obtain ⟨A0, n0, c0, A1, n1, c1, A2, n2, c2, A3, n3, c3, A4, n4, c4, f0, f1, f2, f3, f4, rfl, hs⟩ := open_Tell (Mm.SepF.one _ w h hnd)
  obtain ⟨g1, rfl, -, rfl⟩ := Mm.sl_addr (hs.sl 2 rfl) (by omega)
  have hkl : k < t.Heard.length := by omega
  have ha : t.Heard[k]? = some t.Heard[k] := List.getElem?_eq_getElem hkl
  generalize t.Heard[k] = a at ha
  have HS := Lib.hid ((hs.alloc' rfl 94 [.bool true, .int .i64 k, .int .i64 no, .string tx]).alloc' (Mm.sz1 _ _) 52 [.int .i64 k, .int .i64 no, .string tx])
  have HI := Lib.hid (show Pl.iAt t.Heard (k : Int) = a from Pl.iAt_of (by simpa using ha))
  have HA := Lib.hid ha
  have HNO := Lib.hid hm.2.1
  have HAI := Lib.hid (Mm.int_i64 (hs.sl 2 rfl) ha)
  have hcap : t.Heard.length ≤ c1 ∧ c1 ≤ maxLen := by obtain ⟨A', n', c', hv, h1, h2, h3, _⟩ := (hs.sl 2 rfl).form; injection hv with _ h4 h5; omega
  have e1 := int_ocell (HS.out.sl 4 rfl) (HS.out.ndat (i := 4) rfl) ha
  have d1 := HS.out.cell (k := 1) 2 rfl rfl
  have b0 := HS.out.cell (k := 0) 1 rfl rfl
  have b1 := HS.out.cell (k := 1) 1 rfl rfl
  have b2 := HS.out.cell (k := 2) 1 rfl rfl
  have b3 := HS.out.cell (k := 3) 1 rfl rfl
  have b4 := HS.out.cell (k := 0) 0 rfl rfl
  have b5 := HS.out.cell (k := 1) 0 rfl rfl
  have b6 := HS.out.cell (k := 2) 0 rfl rfl
  have z1 := (HS.out.sl 4 rfl).frozen k
  clear h hs hm hnd ha hh hk hw
  have f1' : ((k : Nat) : Int) < (t.Heard.length : Nat) := by omega
  have f2' : (0 : Int) ≤ (k : Nat) := by omega
  have f3' : ((k : Nat) : Int).toNat = k := by omega
  unfold maxLen at hcap
  go_enter Try.func91, Try.ntmps91
  go_wp2
  refine wp_region_und_tail 18 (by kernel_rfl) (by kernel_rfl) ?_
  simp only [List.take_succ_cons, List.take_zero, List.drop_succ_cons, List.drop_zero]
  repeat (go_big_quiet_step ((first | fail)))
  refine wpQuiet_nil ?_
  intro X hX
  have HS2 := Lib.hid (HS.out.step hX)
  have e2 := int_ocell (HS2.out.sl 4 rfl) (HS2.out.ndat (i := 4) rfl) HA.out
  have z2 := (HS2.out.sl 4 rfl).frozen k
  have hnv : Mm.I64 (if a < no then no else a) := by split; exact HNO.out; exact HAI.out
  obtain ⟨v, hv⟩ : ∃ v, (if a < no then no else a) = v := ⟨_, rfl⟩
  rw [hv] at hnv ⊢
  have HV := Lib.hid hv
  clear hv
  have HS3 := Lib.hid (((HS2.out.put1 (k := k) 4 rfl rfl HA.out (x' := v) (u := .int .i64 v) (fun cs fx hh => by obtain ⟨rfl, _, rfl⟩ := hh; exact ⟨rfl, hnv, rfl⟩)).tail).tail)
  go_wp2
  rw [HF.out]
  exact bodyPost_ret (v := .tuple #[]) (by simp [results, Try.results91, go_sem]) rfl ⟨rfl, _, (shut_Tell (x := Pl.tback t ⟨k, no, tx⟩) (by have := HS3.out; unfold Pl.tback; dsimp only; rw [HI.out, HV.out]; exact this)).left⟩
theorem judge_c (a b : Int) (w : World) : Calls Try.prog 62 #[.int .i64 a, .int .i64 b] w fun e w' => e = .returned (.int .i64 (Pl.judge a b)) ∧ w = w' := by
  by_cases h1 : b = a
  · have HF : Hid (Pl.judge a b = 1) := if_pos h1
    have h2 : (b == a) = true := by simpa using h1
    go_enter Try.func62, Try.ntmps62
    go_wp2
    go_ret
    exact ⟨by rw [HF.out]; rfl, rfl⟩
  · have h3 : (b == a) = false := by simpa using h1
    by_cases h2 : b < a
    · have HF : Hid (Pl.judge a b = 2) := by show _ = _; unfold Pl.judge; rw [if_neg h1, if_pos h2]
      have HH := Lib.hid h1
      clear h1
      go_enter Try.func62, Try.ntmps62
      go_wp2
      go_ret
      exact ⟨by rw [HF.out]; rfl, rfl⟩
    · have HF : Hid (Pl.judge a b = 3) := by show _ = _; unfold Pl.judge; rw [if_neg h1, if_neg h2]
      have HH := Lib.hid h1
      clear h1
      go_enter Try.func62, Try.ntmps62
      go_wp2
      go_ret
      exact ⟨by rw [HF.out]; rfl, rfl⟩
theorem l10Judge_c (a b : Int) (w : World) : Calls Try.prog 63 #[.int .i64 a, .int .i64 b] w fun e w' => e = .returned (.int .i64 (Pl.judge a b)) ∧ w = w' := by
  by_cases h1 : b = a
  · have HF : Hid (Pl.judge a b = 1) := if_pos h1
    have h2 : (b == a) = true := by simpa using h1
    go_enter Try.func63, Try.ntmps63
    go_wp2
    go_ret
    exact ⟨by rw [HF.out]; rfl, rfl⟩
  · have h3 : (b == a) = false := by simpa using h1
    by_cases h2 : b < a
    · have HF : Hid (Pl.judge a b = 2) := by show _ = _; unfold Pl.judge; rw [if_neg h1, if_pos h2]
      have HH := Lib.hid h1
      clear h1
      go_enter Try.func63, Try.ntmps63
      go_wp2
      go_ret
      exact ⟨by rw [HF.out]; rfl, rfl⟩
    · have HF : Hid (Pl.judge a b = 3) := by show _ = _; unfold Pl.judge; rw [if_neg h1, if_neg h2]
      have HH := Lib.hid h1
      clear h1
      go_enter Try.func63, Try.ntmps63
      go_wp2
      go_ret
      exact ⟨by rw [HF.out]; rfl, rfl⟩
theorem Try.infoTold : (Try.prog.info? 52).map (fun i => (i.zero, i.size, i.bytes)) = some (some (.agg #[.int .i64 0, .int .i64 0, .string ⟨#[]⟩]), 3, 32) := by kernel_rfl
theorem Pl.judge_no {a b : Int} (h : ¬ b = a) : (Pl.judge a b == 1) = false := by
  unfold Pl.judge
  rw [if_neg h]
  split <;> rfl
theorem Pl.tlog_same (t : Tell) (x : Told) : (Pl.tlog t x).Texts = t.Texts ∧ (Pl.tlog t x).Heard = t.Heard ∧ (Pl.tlog t x).Line = t.Line ∧ (Pl.tlog t x).Next.length = t.Next.length := by
  unfold Pl.tlog
  split
  · exact ⟨rfl, rfl, rfl, List.length_set⟩
  · exact ⟨rfl, rfl, rfl, rfl⟩
set_option maxRecDepth 100000 in
set_option maxHeartbeats 2000000 in
theorem takeLog_c (t : Tell) (m : Note) (g : Nat) (fp : List Nat) (w : World) (h : (Mm.tptr rTell 31 g t fp).holds w) (hnd : (g :: fp).Nodup) (hm : Mm.I64 m.What.Who ∧ Mm.I64 m.What.No ∧ m.What.Text.size ≤ maxLen) (hw : Pl.TWf t) (hk : Pl.MsgOk t m) (hbk : m.Back = false) :
    Calls Try.prog 91 #[.pointer (some ⟨g, 0, none⟩), .agg #[.bool m.Back, .int .i64 m.What.Who, .int .i64 m.What.No, .string m.What.Text]] w fun e w' => e = .returned (.tuple #[]) ∧ ∃ fp', Mm.Left (g :: fp) w w' (Mm.tptr rTell 31 g (Pl.ttake t m) fp') := by
  have HW1 := Lib.hid (hw.tlog hk hbk)
  have hl80 := hw.log_len
  have HF : Hid (Pl.ttake t m = Pl.tsend (Pl.tlog t m.What) ⟨true, ⟨m.What.Who, Pl.iAt (Pl.tlog t m.What).Next m.What.Who, ByteArray.empty⟩⟩) := if_neg (by rw [hbk]; simp)
  obtain ⟨bk, ⟨who, no, tx⟩⟩ := m
  dsimp only at hm hk hbk HF HW1 ⊢
  subst hbk
  have hk0 := hk.1
  have hk1 := hk.2.1
  have hh := hw.next
  dsimp only at hk0 hk1
  obtain ⟨k, rfl⟩ : ∃ k : Nat, who = k := ⟨who.toNat, by omega⟩
  obtain ⟨A0, n0, c0, A1, n1, c1, A2, n2, c2, A3, n3, c3, A4, n4, c4, f0, f1, f2, f3, f4, rfl, hs⟩ := open_Tell (Mm.SepF.one _ w h hnd)
  obtain ⟨g4, rfl, -, rfl⟩ := Mm.sl_addr (hs.sl 5 rfl) (by omega)
  have hln3 : n3 = t.Log.length := by obtain ⟨A', n', c', hv, h1, _⟩ := (hs.sl 4 rfl).form; injection hv with _ h2 _; omega
  subst hln3
  have hkl : k < t.Next.length := by omega
  have ha : t.Next[k]? = some t.Next[k] := List.getElem?_eq_getElem hkl
  generalize t.Next[k] = a at ha
  have HS := Lib.hid ((hs.alloc' rfl 94 [.bool false, .int .i64 k, .int .i64 no, .string tx]).alloc' (Mm.sz1 _ _) 52 [.int .i64 k, .int .i64 no, .string tx])
  have HI := Lib.hid (show Pl.iAt t.Next (k : Int) = a from Pl.iAt_of (by simpa using ha))
  have HA := Lib.hid ha
  have HNO := Lib.hid hm
  have hcap : t.Next.length ≤ c4 ∧ c4 ≤ maxLen := by obtain ⟨A', n', c', hv, h1, h2, h3, _⟩ := (hs.sl 5 rfl).form; injection hv with _ h4 h5; omega
  have e1 := int_ocell (HS.out.sl 7 rfl) (HS.out.ndat (i := 7) rfl) ha
  have d4 := HS.out.cell (k := 4) 2 rfl rfl
  have b0 := HS.out.cell (k := 0) 1 rfl rfl
  have b1 := HS.out.cell (k := 1) 1 rfl rfl
  have b2 := HS.out.cell (k := 2) 1 rfl rfl
  have b3 := HS.out.cell (k := 3) 1 rfl rfl
  have b4 := HS.out.cell (k := 0) 0 rfl rfl
  have b5 := HS.out.cell (k := 1) 0 rfl rfl
  have b6 := HS.out.cell (k := 2) 0 rfl rfl
  have hab : 0 ≤ a ∧ a ≤ 20 := by
    have hkt : k < t.Texts.length := by omega
    have h1 := hw.nx k a _ ha (List.getElem?_eq_getElem hkt)
    have h2 := hw.texts k _ (List.getElem?_eq_getElem hkt)
    omega
  clear h hs hm hnd ha hh hk hw
  have f1' : ((k : Nat) : Int) < (t.Next.length : Nat) := by omega
  have f2' : (0 : Int) ≤ (k : Nat) := by omega
  have f3' : ((k : Nat) : Int).toNat = k := by omega
  unfold maxLen at hcap
  go_enter Try.func91, Try.ntmps91
  go_wp2
  refine wp_region_und (by kernel_rfl) (by kernel_rfl) ?_
  repeat (go_big_quiet_step ((first | (go_at_call 62; exact und_same _ (judge_c a no _)))))
  refine wpQuiet_nil ?_
  intro X hX
  have HS1 := Lib.hid (HS.out.step hX)
  go_upto_if 38 with fail
  have hys := Pl.tlog_same t ⟨k, no, tx⟩
  obtain ⟨y, hy⟩ : ∃ y, Pl.tlog t ⟨k, no, tx⟩ = y := ⟨_, rfl⟩
  rw [hy] at HW1 HF hys
  have HY := Lib.hid hy
  have HYS := Lib.hid hys
  clear hy hys
  go_cut [] (fun wx => ∃ (A3 : Option Addr) (n3 c3 : Nat) (f3' : List Nat), Mm.SepF (Mm.tptr rTell 31 g t (f0 ++ (f1 ++ (f2 ++ (f3 ++ f4))))).fp w wx [Mm.tblk (w.heap.size + 1) 52 [.int .i64 k, .int .i64 no, .string tx], Mm.tblk w.heap.size 94 [.bool false, .int .i64 k, .int .i64 no, .string tx], Mm.tblk g 31 [.slice A0 n0 c0, .slice A1 n1 c1, .slice A2 n2 c2, .slice A3 n3 c3, .slice (some ⟨g4, 0, none⟩) t.Next.length c4], Mm.tsl strs 40 t.Texts (.slice A0 n0 c0) f0, Mm.tsl Mm.int 3 t.Heard (.slice A1 n1 c1) f1, Mm.tsl rNote 94 t.Line (.slice A2 n2 c2) f2, Mm.tsl rTold 52 y.Log (.slice A3 n3 c3) f3', Mm.tsl Mm.int 3 y.Next (.slice (some ⟨g4, 0, none⟩) t.Next.length c4) f4])
  case first =>
    by_cases hna : no = a
    · subst hna
      have HT : Hid (y = { t with Log := t.Log ++ [⟨k, no, tx⟩], Next := t.Next.set k (no + 1) }) := by
        show _ = _
        rw [← HY.out]
        unfold Pl.tlog
        rw [if_pos (show (⟨k, no, tx⟩ : Told).No = _ from HI.out.symm)]
        dsimp only
        rw [HI.out]
        rfl
      have hjd : (Pl.judge no no == 1) = true := by unfold Pl.judge; rw [if_pos rfl]; rfl
      have d3 := HS1.out.cell (k := 3) 2 rfl rfl
      have z3 := HS1.out.frz (k := 3) 2 rfl
      have v0 := HS1.out.cell (k := 0) 0 rfl rfl
      have v1 := HS1.out.cell (k := 1) 0 rfl rfl
      have v2 := HS1.out.cell (k := 2) 0 rfl rfl
      obtain ⟨i0, hi, hz0, hz1, hz2⟩ := info_parts Try.infoTold
      obtain ⟨l0, ho, hnext⟩ := HS1.out.push0 6 rfl (W2 := (X.alloc (.cells #[.int .i64 k, .int .i64 no, .string tx] 52)).drew) (x := ⟨k, no, tx⟩) (below_new (Below.refl _ _) _).drew (rTold_own_mk HNO.out)
      have HNX := Lib.hid hnext
      have HO := Lib.hid ho
      clear hnext ho
      go_upto_region 5 with fail
      go_cut [] (fun wx => ∃ (gg cap : Nat) (fp' : List Nat), Mm.SepF (Mm.tptr rTell 31 g t (f0 ++ (f1 ++ (f2 ++ (f3 ++ f4))))).fp w wx [Mm.tblk (w.heap.size + 1) 52 [.int .i64 k, .int .i64 no, .string tx], Mm.tblk w.heap.size 94 [.bool false, .int .i64 k, .int .i64 no, .string tx], Mm.tblk g 31 [.slice A0 n0 c0, .slice A1 n1 c1, .slice A2 n2 c2, .slice (some ⟨gg, 0, none⟩) (t.Log.length + 1) cap, .slice (some ⟨g4, 0, none⟩) t.Next.length c4], Mm.tsl strs 40 t.Texts (.slice A0 n0 c0) f0, Mm.tsl Mm.int 3 t.Heard (.slice A1 n1 c1) f1, Mm.tsl rNote 94 t.Line (.slice A2 n2 c2) f2, Mm.tsl rTold 52 (t.Log ++ [⟨k, no, tx⟩]) (.slice (some ⟨gg, 0, none⟩) (t.Log.length + 1) cap) fp', Mm.tsl Mm.int 3 t.Next (.slice (some ⟨g4, 0, none⟩) t.Next.length c4) f4])
      case first =>
        go_region_law (first
        | (refine step_append_lies _ (by rfl) (.tmp 43) (.tmp 45) 29 (by rfl) 0 52 i0 _ 3 32 Try.underlying29 hi hz0 hz1 hz2 rfl (by omega) _ t.Log.length l0 (by rfl) HO.out ⟨X.heap.size, 0, none⟩ 1 1 [.int .i64 k, .int .i64 no, .string tx] (by rfl) (by rfl) (World.news_of_block (B := X.heap.size) (cs := #[.int .i64 k, .int .i64 no, .string tx]) (t := 52) (fr := (0, 0)) (Mm.heap_new X rfl _)) (by simp [Value.oneCell']) (by omega) (by unfold maxLen; omega) (by omega) (Nat.zero_le _) _ rfl ?_; intro gg cap w4 hown1 hgrow hat hlt9; obtain ⟨fp', hs4⟩ := HNX.out gg cap w4 hown1 hgrow hat; (have HS4 := Lib.hid hs4); (have r3 := hs4.cell (k := 3) 2 rfl rfl); (have y3 := hs4.frz (k := 3) 2 rfl); (have HS5 := Lib.hid (hs4.setBlk (k := 3) 2 rfl (.slice (some ⟨gg, 0, none⟩) (t.Log.length + 1) cap))); (have u4 := HS5.out.cell (k := 4) 2 rfl rfl); (have u0 := HS5.out.cell (k := 0) 0 rfl rfl); (have u7 := int_ocell (HS5.out.sl 7 rfl) (HS5.out.ndat (i := 7) rfl) HA.out); clear hs4 hown1 hgrow hat))
        all_goals
          go_wp2
          go_meet
          exact ⟨gg, cap, fp', HS5.out⟩
      case rest =>
        obtain ⟨gg, cap, fp', hc⟩ := hcut
        have HS5 := Lib.hid hc
        clear hc HO HNX
        have u4 := HS5.out.cell (k := 4) 2 rfl rfl
        have u0 := HS5.out.cell (k := 0) 0 rfl rfl
        have u7 := int_ocell (HS5.out.sl 7 rfl) (HS5.out.ndat (i := 7) rfl) HA.out
        go_wp2
        refine wp_region_und_tail 10 (by kernel_rfl) (by kernel_rfl) ?_
        simp only [List.take_succ_cons, List.take_zero, List.drop_succ_cons, List.drop_zero]
        repeat (go_big_quiet_step ((first | fail)))
        refine wpQuiet_nil ?_
        intro X hX
        have HS6 := Lib.hid (HS5.out.step hX)
        have e7 := int_ocell (HS6.out.sl 7 rfl) (HS6.out.ndat (i := 7) rfl) HA.out
        have z7 := (HS6.out.sl 7 rfl).frozen k
        have HS7 := Lib.hid (HS6.out.put1 (k := k) 7 rfl rfl HA.out (x' := no + 1) (u := .int .i64 (no + 1)) (fun cs fx hh => by obtain ⟨rfl, _, rfl⟩ := hh; exact ⟨rfl, by unfold Mm.I64; omega, rfl⟩))
        go_wp2
        go_meet
        exact ⟨_, _, cap, fp', by rw [HT.out]; exact HS7.out⟩
    · have hjd : (Pl.judge a no == 1) = false := Pl.judge_no hna
      have HT : Hid (y = t) := by
        show _ = _
        rw [← HY.out]
        unfold Pl.tlog
        exact if_neg (fun hh => hna (hh.trans HI.out))
      go_wp2
      go_meet
      exact ⟨A3, _, c3, f3, by rw [HT.out]; exact HS1.out⟩
  case rest =>
    obtain ⟨A3, n3, c3, f3', hc⟩ := hcut
    have HC := Lib.hid hc
    have hyn : k < y.Next.length := by have := HYS.out.2.2.2; omega
    have hb : y.Next[k]? = some y.Next[k] := List.getElem?_eq_getElem hyn
    generalize y.Next[k] = b at hb
    have HB := Lib.hid hb
    have HIB : Hid (Pl.iAt y.Next (k : Int) = b) := Pl.iAt_of (by simpa using hb)
    have HBI := Lib.hid (Mm.int_i64 (hc.sl 7 rfl) hb)
    have q0 := HC.out.cell (k := 0) 0 rfl rfl
    have q4 := HC.out.cell (k := 4) 2 rfl rfl
    have q7 := int_ocell (HC.out.sl 7 rfl) (HC.out.ndat (i := 7) rfl) hb
    clear hc hb e1 d4 b0 b1 b2 b3 b4 b5 b6
    go_wp2
    refine wp_region_und_tail 13 (by kernel_rfl) (by kernel_rfl) ?_
    simp only [List.take_succ_cons, List.take_zero, List.drop_succ_cons, List.drop_zero]
    repeat (go_big_quiet_step ((first | fail)))
    refine wpQuiet_nil ?_
    intro X hX
    have HC2 := Lib.hid (HC.out.step hX)
    have HC3 : Hid (Mm.SepF (Mm.tptr rTell 31 g t (f0 ++ (f1 ++ (f2 ++ (f3 ++ f4))))).fp w X [Mm.tptr rTell 31 g y (f0 ++ (f1 ++ (f2 ++ (f3' ++ f4))))]) := by
      have h1 := HC2.out.tail.tail
      rw [← HYS.out.1, ← HYS.out.2.1, ← HYS.out.2.2.1] at h1
      exact shut_Tell (x := y) h1
    have CS := send_c y ⟨true, ⟨k, b, ⟨#[]⟩⟩⟩ g (f0 ++ (f1 ++ (f2 ++ (f3' ++ f4)))) X (HC3.out.at_ 0 rfl) (HC3.out.ndat (i := 0) rfl) ⟨HNO.out.1, HBI.out, Nat.zero_le _⟩
    go_wp2_with (go_at_call 89; refine CS.mono ?_; rintro e w9 ⟨rfl, fp9, hL⟩; (have HC4 := Lib.hid (HC3.out.call 0 rfl hL)); clear hL)
    rw [HF.out, HIB.out]
    go_end0
    exact ⟨rfl, _, HC4.out.left⟩
end Go.Proofs.Ytaepohocabealaa
