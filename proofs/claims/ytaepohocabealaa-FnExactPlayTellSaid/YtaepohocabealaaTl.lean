/-
  Contracts: the teller's steps on the line: take, lose, twice (chapter 10). No conditions.
-/
import Derived.Test.YtaepohocabealaaTv
import Derived.Test.YtaepohocabealaaDl
namespace Go.Proofs.Ytaepohocabealaa
open Go.RowKit
attribute [local go_sem] und_cell cha_cell World.cell?_alloc_some
theorem take_c (t : Tell) (m : Note) (g : Nat) (fp : List Nat) (w : World) (h : (Mm.tptr rTell 31 g t fp).holds w) (hnd : (g :: fp).Nodup) (hm : Mm.I64 m.What.Who ∧ Mm.I64 m.What.No ∧ m.What.Text.size ≤ maxLen) (hw : Pl.TWf t) (hk : Pl.MsgOk t m) :
    Calls Try.prog 91 #[.pointer (some ⟨g, 0, none⟩), .agg #[.bool m.Back, .int .i64 m.What.Who, .int .i64 m.What.No, .string m.What.Text]] w fun e w' => e = .returned (.tuple #[]) ∧ ∃ fp', Mm.Left (g :: fp) w w' (Mm.tptr rTell 31 g (Pl.ttake t m) fp') := by
  cases hb : m.Back with
  | true => exact hb ▸ takeBack_c t m g fp w h hnd hm hw hk hb
  | false => exact hb ▸ takeLog_c t m g fp w h hnd hm hw hk hb
theorem Mm.note_inv {w : World} {xs : List Note} {v : Value} {fp : List Nat} (h : Mm.SlOwn rNote 94 w xs v fp) {k : Nat} {m : Note} (hk : xs[k]? = some m) : Mm.I64 m.What.Who ∧ Mm.I64 m.What.No ∧ m.What.Text.size ≤ maxLen := by
  obtain ⟨es, he, -, -⟩ := h
  have hl := (List.getElem?_eq_some_iff.1 hk).1
  exact (rNote_own (he.2 k _ _ hk (List.getElem?_eq_getElem (show k < es.length by rw [he.1]; exact hl)))).2.1
theorem Pl.tstepL (t : Tell) (kd kk : Int) (h0 : 0 ≤ kk) (hd : 3 ≤ kd ∧ kd ≤ 5) : Pl.tstep t ⟨kd, kk, ⟨#[]⟩⟩ = if kk < t.Line.length then
    (if kd = 5 then (if t.Line.length = 30 then (t, false) else ({ t with Line := t.Line ++ [Pl.noteAt t kk] }, true))
    else if kd = 3 then (Pl.ttake { t with Line := t.Line.eraseIdx kk.toNat } (Pl.noteAt t kk), true)
    else ({ t with Line := t.Line.eraseIdx kk.toNat }, true)) else (t, false) := by
  unfold Pl.tstep
  rw [if_neg (show ¬ kd = 1 by omega), if_neg (show ¬ ((⟨#[]⟩ : ByteArray).size ≠ 0 ∨ kk < 0) by simp [ByteArray.size]; omega), if_neg (show ¬ kd = 2 by omega)]
  by_cases h : kk < t.Line.length
  · rw [if_pos ⟨hd.1, hd.2, h⟩, if_pos h]
  · rw [if_neg (fun hh => h hh.2.2), if_neg h]
set_option maxRecDepth 100000 in
set_option maxHeartbeats 2000000 in
theorem stepTake_c (t : Tell) (kk : Int) (g : Nat) (fp : List Nat) (w : World) (h : (Mm.tptr rTell 31 g t fp).holds w) (hnd : (g :: fp).Nodup) (hm : Mm.I64 kk) (h0 : 0 ≤ kk) (hw : Pl.TWf t) :
    Calls Try.prog 49 #[.pointer (some ⟨g, 0, none⟩), .agg #[.int .i64 3, .int .i64 kk, .string ⟨#[]⟩]] w (StepAns t g fp w (Pl.tstep t ⟨3, kk, ⟨#[]⟩⟩)) := by
  have HF := Lib.hid (Pl.tstepL t 3 kk h0 (by omega))
  obtain ⟨A0, n0, c0, A1, n1, c1, A2, n2, c2, A3, n3, c3, A4, n4, c4, f0, f1, f2, f3, f4, rfl, hs⟩ := open_Tell (Mm.SepF.one _ w h hnd)
  have hln2 : n2 = t.Line.length := by obtain ⟨A', n', c', hv, h1, _⟩ := (hs.sl 3 rfl).form; injection hv with _ h2 _; omega
  subst hln2
  have HS := Lib.hid (hs.alloc' rfl 46 [.int .i64 3, .int .i64 kk, .string ⟨#[]⟩])
  have HM := Lib.hid hm
  have hl30 := hw.line
  have HW := Lib.hid hw
  clear h hs hm hnd hw
  have d2 := HS.out.cell (k := 2) 1 rfl rfl
  have b0 := HS.out.cell (k := 0) 0 rfl rfl
  have b1 := HS.out.cell (k := 1) 0 rfl rfl
  have b2 := HS.out.cell (k := 2) 0 rfl rfl
  obtain ⟨k, rfl⟩ : ∃ k : Nat, kk = k := ⟨kk.toNat, by omega⟩
  by_cases hk : k < t.Line.length
  rotate_left
  · rw [if_neg (by omega)] at HF
    have f1 : ¬ ((k : Nat) : Int) < ((t.Line.length : Nat) : Int) := by omega
    go_enter Try.func49, Try.ntmps49
    go_wp2
    refine wp_region_und (by kernel_rfl) (by kernel_rfl) ?_
    repeat (go_big_quiet_step ((first | fail)))
    refine wpQuiet_nil ?_
    intro X hX
    have HSX := Lib.hid (HS.out.step hX)
    go_wp2
    exact bodyPost_ret (v := .bool false) (by simp [results, Try.results49, go_sem]) rfl ⟨by rw [HF.out], _, by rw [HF.out]; exact (shut_Tell HSX.out.tail).left⟩
  rw [if_pos (by omega)] at HF
  have hx := List.getElem?_eq_getElem hk
  have hna := Pl.noteAt_of (t := t) (k := (k : Int)) (m := t.Line[k]) (by simp)
  have hmk := HW.out.note (k := (k : Int)) (by omega) (by omega)
  rw [hna] at hmk HF
  generalize t.Line[k] = m at hx hna hmk HF
  have HMI := Lib.hid (Mm.note_inv (HS.out.sl 4 rfl) hx)
  obtain ⟨g2, rfl, -, -⟩ := Mm.sl_addr (HS.out.sl 4 rfl) (by omega)
  have hcap : t.Line.length ≤ c2 ∧ c2 ≤ maxLen := by obtain ⟨A', n', c', hv, h1, h2, h3, _⟩ := (HS.out.sl 4 rfl).form; injection hv with _ h4 h5; omega
  unfold maxLen at hcap
  have f1' : ((k : Nat) : Int) < (t.Line.length : Nat) := by omega
  have f2' : (0 : Int) ≤ (k : Nat) := by omega
  have f3' : ((k : Nat) : Int).toNat = k := by omega
  rw [f3'] at HF
  have HX := Lib.hid hx
  have HMK := Lib.hid hmk
  clear hx hmk hna
  obtain ⟨bk, ⟨who, no, tx⟩⟩ := m
  go_enter Try.func49, Try.ntmps49
  go_wp2
  refine wp_region_und (by kernel_rfl) (by kernel_rfl) ?_
  repeat (go_big_quiet_step ((first | fail)))
  refine wpQuiet_nil ?_
  intro X hX
  have HS1 := Lib.hid (HS.out.step hX)
  clear d2 b0 b1 b2
  have d2 := HS1.out.cell (k := 2) 1 rfl rfl
  have b0 := HS1.out.cell (k := 0) 0 rfl rfl
  have b1 := HS1.out.cell (k := 1) 0 rfl rfl
  have b2 := HS1.out.cell (k := 2) 0 rfl rfl
  obtain ⟨e20, e21, e22, e23⟩ := rNote_ocell (HS1.out.sl 4 rfl) (HS1.out.ndat (i := 4) rfl) HX.out
  go_wp2
  refine Mm.wp_region_give 9 (fun i => match i with | 8 => some (Mm.gPtr 94 [.bool false, .int .i64 0, .int .i64 0, .string ⟨#[]⟩]) | _ => none) (fun _ => []) (fun _ => []) (F := []) (D := fun w' => ∃ x : Und X, w' = und X x) (fun X us h => Mm.sep_und h) (by kernel_rfl) (by kernel_rfl) (by kernel_rfl) (Mm.SepF.startDrew _) ?_
  repeat (refine Mm.give_det (by rfl) (by rfl) (by rfl) (fun K hK => ?_); go_big_quiet_op; refine hK _ ?_; clear hK K)
  refine Mm.give_op0 6 (by rfl) rfl (by rfl) (by rfl) (by rfl) (by rfl) Mm.gPtr_in (fun others X2 hX2 => ?_) ?_
  · go_wp2
    exact Mm.gvq_ptr hX2 rfl rfl rfl
  rintro v ds ⟨g6, rfl, rfl⟩
  simp only [Act.put, List.setIfInBounds_toArray, List.set_cons_succ, List.set_cons_zero]
  refine Mm.give_nil ?_
  rintro X2 hX2
  have HS2 := Lib.hid (HS1.out.join (us := [Mm.tblk g6 94 [.bool false, .int .i64 0, .int .i64 0, .string ⟨#[]⟩]]) hX2)
  clear hX2 d2 b0 b1 b2 e20 e21 e22 e23
  have p0 := HS2.out.frz (k := 0) 0 rfl
  have p1 := HS2.out.frz (k := 1) 0 rfl
  have p2 := HS2.out.frz (k := 2) 0 rfl
  have p3 := HS2.out.frz (k := 3) 0 rfl
  have s0 := HS2.out.cell (k := 0) 0 rfl rfl
  have s1 := HS2.out.cell (k := 1) 0 rfl rfl
  have s2 := HS2.out.cell (k := 2) 0 rfl rfl
  have s3 := HS2.out.cell (k := 3) 0 rfl rfl
  have HS3 : Hid (Mm.SepF _ w _ [_, _, _, _, _, _, _, _]) := ((((HS2.out.setBlk (k := 0) 0 rfl (.bool bk)).setBlk (k := 1) 0 rfl (.int .i64 who)).setBlk (k := 2) 0 rfl (.int .i64 no)).setBlk (k := 3) 0 rfl (.string tx))
  have b0 := HS3.out.cell (k := 0) 1 rfl rfl
  go_wp2
  clear p0 p1 p2 p3 s0 s1 s2 s3 b0
  obtain ⟨W3, hW3⟩ : ∃ W3, (((X2.setCell ⟨g6, 0, none⟩ (.bool bk)).setCell ⟨g6, 1, none⟩ (.int .i64 who)).setCell ⟨g6, 2, none⟩ (.int .i64 no)).setCell ⟨g6, 3, none⟩ (.string tx) = W3 := ⟨_, rfl⟩
  rw [hW3] at HS3 ⊢
  clear hW3
  have b0 := HS3.out.cell (k := 0) 1 rfl rfl
  have b1 := HS3.out.cell (k := 1) 1 rfl rfl
  have d2 := HS3.out.cell (k := 2) 2 rfl rfl
  have n0 : g ∉ f2 := HS3.out.apart (i := 2) (j := 5) rfl rfl (by decide) g (by simp [Mm.tblk])
  have n1 : w.heap.size ∉ f2 := HS3.out.apart (i := 1) (j := 5) rfl rfl (by decide) _ (by simp [Mm.tblk])
  refine Mm.wp_region_give 13 (fun i => match i with | 10 => some (Mm.gSl rNote 94 (t.Line.eraseIdx k)) | _ => none) (fun i => match i with | 10 => [14] | _ => []) (fun i => match i with | 14 => [Mm.tsl rNote 94 t.Line (.slice (some ⟨g2, 0, none⟩) t.Line.length c2) f2] | _ => []) (F := f2) (D := fun w' => ∃ x : Cha f2 W3, w' = cha f2 W3 x) (fun X us h => Mm.sep_cha h) (by kernel_rfl) (by kernel_rfl) (by kernel_rfl) (Mm.sep_eq ((Mm.SepF.one (Mm.tsl rNote 94 t.Line (.slice (some ⟨g2, 0, none⟩) t.Line.length c2) f2) W3 (HS3.out.at_ 5 rfl) (HS3.out.ndat (i := 5) rfl)).step (Below.refl _ _).drew) rfl) ?_
  repeat (refine Mm.give_det (by rfl) (by rfl) (by rfl) (fun K hK => ?_); go_big_quiet_op; refine hK _ ?_; clear hK K)
  refine Mm.give_op1 174 14 (by rfl) rfl (by rfl) (by rfl) (by rfl) rfl (by rfl) _ rfl Mm.gSl_in (fun others X4 hX4 => ?_) ?_
  · go_wp2_with (go_at_call 90; refine (delNote_c t.Line g2 _ c2 k f2 X4 (hX4.sl 0 rfl) (by omega) (by omega)).mono ?_; rintro e w5 ⟨rfl, k1, k2⟩)
    exact ⟨rfl, rfl, _, ⟨_, _, _, f2, rfl, rfl, by show _ = _; rw [List.length_eraseIdx_of_lt hk]⟩, hX4.upd (i := 0) (t' := Mm.tsl rNote 94 (t.Line.eraseIdx k) (.slice (some ⟨g2, 0, none⟩) (t.Line.length - 1) c2) f2) rfl k1 k2 (hX4.ndat (i := 0) (t := Mm.tsl rNote 94 t.Line (.slice (some ⟨g2, 0, none⟩) t.Line.length c2) f2) rfl) (fun b hb => .inl hb)⟩
  rintro v ds ⟨A5, n5, c5, f5, rfl, rfl, hn5⟩
  simp only [Act.put, List.setIfInBounds_toArray, List.set_cons_succ, List.set_cons_zero]
  repeat (refine Mm.give_det (by rfl) (by rfl) (by rfl) (fun K hK => ?_); go_big_quiet_op; refine hK _ ?_; clear hK K)
  refine Mm.give_nil ?_
  rintro X4 hX4
  have HS4 := Lib.hid (HS3.out.call 5 rfl (Mm.sep_eq (us := [Mm.tsl rNote 94 (t.Line.eraseIdx k) (.slice A5 n5 c5) f5]) hX4 rfl).left)
  clear hX4 b0 b1 d2
  have d2 := HS4.out.cell (k := 2) 2 rfl rfl
  have p2 := HS4.out.frz (k := 2) 2 rfl
  have HS5 : Hid (Mm.SepF _ w _ [_, _, _, _, _, _, _, _]) := HS4.out.setBlk (k := 2) 2 rfl (.slice A5 n5 c5)
  have b0 := HS5.out.cell (k := 0) 1 rfl rfl
  have m0 := HS5.out.cell (k := 0) 0 rfl rfl
  have m1 := HS5.out.cell (k := 1) 0 rfl rfl
  have m2 := HS5.out.cell (k := 2) 0 rfl rfl
  have m3 := HS5.out.cell (k := 3) 0 rfl rfl
  have HS6 := Lib.hid (shut_Tell (x := { t with Line := t.Line.eraseIdx k }) HS5.out.tail.tail)
  have CT := take_c { t with Line := t.Line.eraseIdx k } ⟨bk, ⟨who, no, tx⟩⟩ g _ _ (HS6.out.at_ 0 rfl) (HS6.out.ndat (i := 0) rfl) HMI.out (HW.out.drop k) HMK.out
  rw [if_neg (show ¬ (3 : Int) = 5 by decide), if_pos trivial] at HF
  go_wp2_with (go_at_call 91; refine CT.mono ?_; rintro e w9 ⟨rfl, fp9, hL⟩; (have HC4 := Lib.hid (HS6.out.call 0 rfl hL)); clear hL)
  exact bodyPost_ret (v := .bool true) (by simp [results, Try.results49, go_sem]) rfl ⟨by rw [HF.out], _, by rw [HF.out]; exact HC4.out.left⟩
set_option maxRecDepth 100000 in
set_option maxHeartbeats 2000000 in
theorem stepLose_c (t : Tell) (kk : Int) (g : Nat) (fp : List Nat) (w : World) (h : (Mm.tptr rTell 31 g t fp).holds w) (hnd : (g :: fp).Nodup) (hm : Mm.I64 kk) (h0 : 0 ≤ kk) (hw : Pl.TWf t) :
    Calls Try.prog 49 #[.pointer (some ⟨g, 0, none⟩), .agg #[.int .i64 4, .int .i64 kk, .string ⟨#[]⟩]] w (StepAns t g fp w (Pl.tstep t ⟨4, kk, ⟨#[]⟩⟩)) := by
  have HF := Lib.hid (Pl.tstepL t 4 kk h0 (by omega))
  obtain ⟨A0, n0, c0, A1, n1, c1, A2, n2, c2, A3, n3, c3, A4, n4, c4, f0, f1, f2, f3, f4, rfl, hs⟩ := open_Tell (Mm.SepF.one _ w h hnd)
  have hln2 : n2 = t.Line.length := by obtain ⟨A', n', c', hv, h1, _⟩ := (hs.sl 3 rfl).form; injection hv with _ h2 _; omega
  subst hln2
  have HS := Lib.hid (hs.alloc' rfl 46 [.int .i64 4, .int .i64 kk, .string ⟨#[]⟩])
  have HM := Lib.hid hm
  have hl30 := hw.line
  have HW := Lib.hid hw
  clear h hs hm hnd hw
  have d2 := HS.out.cell (k := 2) 1 rfl rfl
  have b0 := HS.out.cell (k := 0) 0 rfl rfl
  have b1 := HS.out.cell (k := 1) 0 rfl rfl
  have b2 := HS.out.cell (k := 2) 0 rfl rfl
  obtain ⟨k, rfl⟩ : ∃ k : Nat, kk = k := ⟨kk.toNat, by omega⟩
  by_cases hk : k < t.Line.length
  rotate_left
  · rw [if_neg (by omega)] at HF
    have f1 : ¬ ((k : Nat) : Int) < ((t.Line.length : Nat) : Int) := by omega
    go_enter Try.func49, Try.ntmps49
    go_wp2
    refine wp_region_und (by kernel_rfl) (by kernel_rfl) ?_
    repeat (go_big_quiet_step ((first | fail)))
    refine wpQuiet_nil ?_
    intro X hX
    have HSX := Lib.hid (HS.out.step hX)
    go_wp2
    exact bodyPost_ret (v := .bool false) (by simp [results, Try.results49, go_sem]) rfl ⟨by rw [HF.out], _, by rw [HF.out]; exact (shut_Tell HSX.out.tail).left⟩
  rw [if_pos (by omega)] at HF
  have hx := List.getElem?_eq_getElem hk
  have hna := Pl.noteAt_of (t := t) (k := (k : Int)) (m := t.Line[k]) (by simp)
  have hmk := HW.out.note (k := (k : Int)) (by omega) (by omega)
  rw [hna] at hmk HF
  generalize t.Line[k] = m at hx hna hmk HF
  have HMI := Lib.hid (Mm.note_inv (HS.out.sl 4 rfl) hx)
  obtain ⟨g2, rfl, -, -⟩ := Mm.sl_addr (HS.out.sl 4 rfl) (by omega)
  have hcap : t.Line.length ≤ c2 ∧ c2 ≤ maxLen := by obtain ⟨A', n', c', hv, h1, h2, h3, _⟩ := (HS.out.sl 4 rfl).form; injection hv with _ h4 h5; omega
  unfold maxLen at hcap
  have f1' : ((k : Nat) : Int) < (t.Line.length : Nat) := by omega
  have f2' : (0 : Int) ≤ (k : Nat) := by omega
  have f3' : ((k : Nat) : Int).toNat = k := by omega
  rw [f3'] at HF
  have HX := Lib.hid hx
  have HMK := Lib.hid hmk
  clear hx hmk hna
  obtain ⟨bk, ⟨who, no, tx⟩⟩ := m
  go_enter Try.func49, Try.ntmps49
  go_wp2
  refine wp_region_und (by kernel_rfl) (by kernel_rfl) ?_
  repeat (go_big_quiet_step ((first | fail)))
  refine wpQuiet_nil ?_
  intro X hX
  have HS1 := Lib.hid (HS.out.step hX)
  clear d2 b0 b1 b2
  have d2 := HS1.out.cell (k := 2) 1 rfl rfl
  have b0 := HS1.out.cell (k := 0) 0 rfl rfl
  have b1 := HS1.out.cell (k := 1) 0 rfl rfl
  have b2 := HS1.out.cell (k := 2) 0 rfl rfl
  obtain ⟨e20, e21, e22, e23⟩ := rNote_ocell (HS1.out.sl 4 rfl) (HS1.out.ndat (i := 4) rfl) HX.out
  go_wp2
  refine Mm.wp_region_give 9 (fun i => match i with | 8 => some (Mm.gPtr 94 [.bool false, .int .i64 0, .int .i64 0, .string ⟨#[]⟩]) | _ => none) (fun _ => []) (fun _ => []) (F := []) (D := fun w' => ∃ x : Und X, w' = und X x) (fun X us h => Mm.sep_und h) (by kernel_rfl) (by kernel_rfl) (by kernel_rfl) (Mm.SepF.startDrew _) ?_
  repeat (refine Mm.give_det (by rfl) (by rfl) (by rfl) (fun K hK => ?_); go_big_quiet_op; refine hK _ ?_; clear hK K)
  refine Mm.give_op0 6 (by rfl) rfl (by rfl) (by rfl) (by rfl) (by rfl) Mm.gPtr_in (fun others X2 hX2 => ?_) ?_
  · go_wp2
    exact Mm.gvq_ptr hX2 rfl rfl rfl
  rintro v ds ⟨g6, rfl, rfl⟩
  simp only [Act.put, List.setIfInBounds_toArray, List.set_cons_succ, List.set_cons_zero]
  refine Mm.give_nil ?_
  rintro X2 hX2
  have HS2 := Lib.hid (HS1.out.join (us := [Mm.tblk g6 94 [.bool false, .int .i64 0, .int .i64 0, .string ⟨#[]⟩]]) hX2)
  clear hX2 d2 b0 b1 b2 e20 e21 e22 e23
  have p0 := HS2.out.frz (k := 0) 0 rfl
  have p1 := HS2.out.frz (k := 1) 0 rfl
  have p2 := HS2.out.frz (k := 2) 0 rfl
  have p3 := HS2.out.frz (k := 3) 0 rfl
  have s0 := HS2.out.cell (k := 0) 0 rfl rfl
  have s1 := HS2.out.cell (k := 1) 0 rfl rfl
  have s2 := HS2.out.cell (k := 2) 0 rfl rfl
  have s3 := HS2.out.cell (k := 3) 0 rfl rfl
  have HS3 : Hid (Mm.SepF _ w _ [_, _, _, _, _, _, _, _]) := ((((HS2.out.setBlk (k := 0) 0 rfl (.bool bk)).setBlk (k := 1) 0 rfl (.int .i64 who)).setBlk (k := 2) 0 rfl (.int .i64 no)).setBlk (k := 3) 0 rfl (.string tx))
  have b0 := HS3.out.cell (k := 0) 1 rfl rfl
  go_wp2
  clear p0 p1 p2 p3 s0 s1 s2 s3 b0
  obtain ⟨W3, hW3⟩ : ∃ W3, (((X2.setCell ⟨g6, 0, none⟩ (.bool bk)).setCell ⟨g6, 1, none⟩ (.int .i64 who)).setCell ⟨g6, 2, none⟩ (.int .i64 no)).setCell ⟨g6, 3, none⟩ (.string tx) = W3 := ⟨_, rfl⟩
  rw [hW3] at HS3 ⊢
  clear hW3
  have b0 := HS3.out.cell (k := 0) 1 rfl rfl
  have b1 := HS3.out.cell (k := 1) 1 rfl rfl
  have d2 := HS3.out.cell (k := 2) 2 rfl rfl
  have n0 : g ∉ f2 := HS3.out.apart (i := 2) (j := 5) rfl rfl (by decide) g (by simp [Mm.tblk])
  have n1 : w.heap.size ∉ f2 := HS3.out.apart (i := 1) (j := 5) rfl rfl (by decide) _ (by simp [Mm.tblk])
  refine Mm.wp_region_give 13 (fun i => match i with | 10 => some (Mm.gSl rNote 94 (t.Line.eraseIdx k)) | _ => none) (fun i => match i with | 10 => [14] | _ => []) (fun i => match i with | 14 => [Mm.tsl rNote 94 t.Line (.slice (some ⟨g2, 0, none⟩) t.Line.length c2) f2] | _ => []) (F := f2) (D := fun w' => ∃ x : Cha f2 W3, w' = cha f2 W3 x) (fun X us h => Mm.sep_cha h) (by kernel_rfl) (by kernel_rfl) (by kernel_rfl) (Mm.sep_eq ((Mm.SepF.one (Mm.tsl rNote 94 t.Line (.slice (some ⟨g2, 0, none⟩) t.Line.length c2) f2) W3 (HS3.out.at_ 5 rfl) (HS3.out.ndat (i := 5) rfl)).step (Below.refl _ _).drew) rfl) ?_
  repeat (refine Mm.give_det (by rfl) (by rfl) (by rfl) (fun K hK => ?_); go_big_quiet_op; refine hK _ ?_; clear hK K)
  refine Mm.give_op1 174 14 (by rfl) rfl (by rfl) (by rfl) (by rfl) rfl (by rfl) _ rfl Mm.gSl_in (fun others X4 hX4 => ?_) ?_
  · go_wp2_with (go_at_call 90; refine (delNote_c t.Line g2 _ c2 k f2 X4 (hX4.sl 0 rfl) (by omega) (by omega)).mono ?_; rintro e w5 ⟨rfl, k1, k2⟩)
    exact ⟨rfl, rfl, _, ⟨_, _, _, f2, rfl, rfl, by show _ = _; rw [List.length_eraseIdx_of_lt hk]⟩, hX4.upd (i := 0) (t' := Mm.tsl rNote 94 (t.Line.eraseIdx k) (.slice (some ⟨g2, 0, none⟩) (t.Line.length - 1) c2) f2) rfl k1 k2 (hX4.ndat (i := 0) (t := Mm.tsl rNote 94 t.Line (.slice (some ⟨g2, 0, none⟩) t.Line.length c2) f2) rfl) (fun b hb => .inl hb)⟩
  rintro v ds ⟨A5, n5, c5, f5, rfl, rfl, hn5⟩
  simp only [Act.put, List.setIfInBounds_toArray, List.set_cons_succ, List.set_cons_zero]
  repeat (refine Mm.give_det (by rfl) (by rfl) (by rfl) (fun K hK => ?_); go_big_quiet_op; refine hK _ ?_; clear hK K)
  refine Mm.give_nil ?_
  rintro X4 hX4
  have HS4 := Lib.hid (HS3.out.call 5 rfl (Mm.sep_eq (us := [Mm.tsl rNote 94 (t.Line.eraseIdx k) (.slice A5 n5 c5) f5]) hX4 rfl).left)
  clear hX4 b0 b1 d2
  have d2 := HS4.out.cell (k := 2) 2 rfl rfl
  have p2 := HS4.out.frz (k := 2) 2 rfl
  have HS5 : Hid (Mm.SepF _ w _ [_, _, _, _, _, _, _, _]) := HS4.out.setBlk (k := 2) 2 rfl (.slice A5 n5 c5)
  have b0 := HS5.out.cell (k := 0) 1 rfl rfl
  have m0 := HS5.out.cell (k := 0) 0 rfl rfl
  have m1 := HS5.out.cell (k := 1) 0 rfl rfl
  have m2 := HS5.out.cell (k := 2) 0 rfl rfl
  have m3 := HS5.out.cell (k := 3) 0 rfl rfl
  have HS6 := Lib.hid (shut_Tell (x := { t with Line := t.Line.eraseIdx k }) HS5.out.tail.tail)
  rw [if_neg (show ¬ (4 : Int) = 5 by decide), if_neg (show ¬ (4 : Int) = 3 by decide)] at HF
  go_wp2
  exact bodyPost_ret (v := .bool true) (by simp [results, Try.results49, go_sem]) rfl ⟨by rw [HF.out], _, by rw [HF.out]; exact HS6.out.left⟩
set_option maxRecDepth 100000 in
set_option maxHeartbeats 2000000 in
theorem stepTwice_c (t : Tell) (kk : Int) (g : Nat) (fp : List Nat) (w : World) (h : (Mm.tptr rTell 31 g t fp).holds w) (hnd : (g :: fp).Nodup) (hm : Mm.I64 kk) (h0 : 0 ≤ kk) (hw : Pl.TWf t) :
    Calls Try.prog 49 #[.pointer (some ⟨g, 0, none⟩), .agg #[.int .i64 5, .int .i64 kk, .string ⟨#[]⟩]] w (StepAns t g fp w (Pl.tstep t ⟨5, kk, ⟨#[]⟩⟩)) := by
  have HF := Lib.hid (Pl.tstepL t 5 kk h0 (by omega))
  obtain ⟨A0, n0, c0, A1, n1, c1, A2, n2, c2, A3, n3, c3, A4, n4, c4, f0, f1, f2, f3, f4, rfl, hs⟩ := open_Tell (Mm.SepF.one _ w h hnd)
  have hln2 : n2 = t.Line.length := by obtain ⟨A', n', c', hv, h1, _⟩ := (hs.sl 3 rfl).form; injection hv with _ h2 _; omega
  subst hln2
  have HS := Lib.hid (hs.alloc' rfl 46 [.int .i64 5, .int .i64 kk, .string ⟨#[]⟩])
  have HM := Lib.hid hm
  have hl30 := hw.line
  have HW := Lib.hid hw
  clear h hs hm hnd hw
  have d2 := HS.out.cell (k := 2) 1 rfl rfl
  have b0 := HS.out.cell (k := 0) 0 rfl rfl
  have b1 := HS.out.cell (k := 1) 0 rfl rfl
  have b2 := HS.out.cell (k := 2) 0 rfl rfl
  obtain ⟨k, rfl⟩ : ∃ k : Nat, kk = k := ⟨kk.toNat, by omega⟩
  by_cases hk : k < t.Line.length
  rotate_left
  · rw [if_neg (by omega)] at HF
    have f1 : ¬ ((k : Nat) : Int) < ((t.Line.length : Nat) : Int) := by omega
    go_enter Try.func49, Try.ntmps49
    go_wp2
    refine wp_region_und (by kernel_rfl) (by kernel_rfl) ?_
    repeat (go_big_quiet_step ((first | fail)))
    refine wpQuiet_nil ?_
    intro X hX
    have HSX := Lib.hid (HS.out.step hX)
    go_wp2
    exact bodyPost_ret (v := .bool false) (by simp [results, Try.results49, go_sem]) rfl ⟨by rw [HF.out], _, by rw [HF.out]; exact (shut_Tell HSX.out.tail).left⟩
  rw [if_pos (by omega)] at HF
  have hx := List.getElem?_eq_getElem hk
  have hna := Pl.noteAt_of (t := t) (k := (k : Int)) (m := t.Line[k]) (by simp)
  have hmk := HW.out.note (k := (k : Int)) (by omega) (by omega)
  rw [hna] at hmk HF
  generalize t.Line[k] = m at hx hna hmk HF
  have HMI := Lib.hid (Mm.note_inv (HS.out.sl 4 rfl) hx)
  obtain ⟨g2, rfl, -, -⟩ := Mm.sl_addr (HS.out.sl 4 rfl) (by omega)
  have hcap : t.Line.length ≤ c2 ∧ c2 ≤ maxLen := by obtain ⟨A', n', c', hv, h1, h2, h3, _⟩ := (HS.out.sl 4 rfl).form; injection hv with _ h4 h5; omega
  unfold maxLen at hcap
  have f1' : ((k : Nat) : Int) < (t.Line.length : Nat) := by omega
  have f2' : (0 : Int) ≤ (k : Nat) := by omega
  have f3' : ((k : Nat) : Int).toNat = k := by omega
  rw [f3'] at HF
  have HX := Lib.hid hx
  have HMK := Lib.hid hmk
  clear hx hmk hna
  obtain ⟨bk, ⟨who, no, tx⟩⟩ := m
  go_enter Try.func49, Try.ntmps49
  go_wp2
  refine wp_region_und (by kernel_rfl) (by kernel_rfl) ?_
  repeat (go_big_quiet_step ((first | fail)))
  refine wpQuiet_nil ?_
  intro X hX
  have HS1 := Lib.hid (HS.out.step hX)
  clear d2 b0 b1 b2
  have d2 := HS1.out.cell (k := 2) 1 rfl rfl
  have b0 := HS1.out.cell (k := 0) 0 rfl rfl
  have b1 := HS1.out.cell (k := 1) 0 rfl rfl
  have b2 := HS1.out.cell (k := 2) 0 rfl rfl
  obtain ⟨e20, e21, e22, e23⟩ := rNote_ocell (HS1.out.sl 4 rfl) (HS1.out.ndat (i := 4) rfl) HX.out
  go_wp2
  refine Mm.wp_region_give 9 (fun i => match i with | 8 => some (Mm.gPtr 94 [.bool false, .int .i64 0, .int .i64 0, .string ⟨#[]⟩]) | _ => none) (fun _ => []) (fun _ => []) (F := []) (D := fun w' => ∃ x : Und X, w' = und X x) (fun X us h => Mm.sep_und h) (by kernel_rfl) (by kernel_rfl) (by kernel_rfl) (Mm.SepF.startDrew _) ?_
  repeat (refine Mm.give_det (by rfl) (by rfl) (by rfl) (fun K hK => ?_); go_big_quiet_op; refine hK _ ?_; clear hK K)
  refine Mm.give_op0 6 (by rfl) rfl (by rfl) (by rfl) (by rfl) (by rfl) Mm.gPtr_in (fun others X2 hX2 => ?_) ?_
  · go_wp2
    exact Mm.gvq_ptr hX2 rfl rfl rfl
  rintro v ds ⟨g6, rfl, rfl⟩
  simp only [Act.put, List.setIfInBounds_toArray, List.set_cons_succ, List.set_cons_zero]
  refine Mm.give_nil ?_
  rintro X2 hX2
  have HS2 := Lib.hid (HS1.out.join (us := [Mm.tblk g6 94 [.bool false, .int .i64 0, .int .i64 0, .string ⟨#[]⟩]]) hX2)
  clear hX2 d2 b0 b1 b2 e20 e21 e22 e23
  have p0 := HS2.out.frz (k := 0) 0 rfl
  have p1 := HS2.out.frz (k := 1) 0 rfl
  have p2 := HS2.out.frz (k := 2) 0 rfl
  have p3 := HS2.out.frz (k := 3) 0 rfl
  have s0 := HS2.out.cell (k := 0) 0 rfl rfl
  have s1 := HS2.out.cell (k := 1) 0 rfl rfl
  have s2 := HS2.out.cell (k := 2) 0 rfl rfl
  have s3 := HS2.out.cell (k := 3) 0 rfl rfl
  have HS3 : Hid (Mm.SepF _ w _ [_, _, _, _, _, _, _, _]) := ((((HS2.out.setBlk (k := 0) 0 rfl (.bool bk)).setBlk (k := 1) 0 rfl (.int .i64 who)).setBlk (k := 2) 0 rfl (.int .i64 no)).setBlk (k := 3) 0 rfl (.string tx))
  have b0 := HS3.out.cell (k := 0) 1 rfl rfl
  have d2 := HS3.out.cell (k := 2) 2 rfl rfl
  rw [if_pos trivial] at HF
  by_cases hl : t.Line.length = 30
  · rw [if_pos hl] at HF
    have f4' : (((t.Line.length : Nat) : Int) == 30) = true := by simp [hl]
    have HSX := Lib.hid HS3.out.tail
    go_wp2
    exact bodyPost_ret (v := .bool false) (by simp [results, Try.results49, go_sem]) rfl ⟨by rw [HF.out], _, by rw [HF.out]; exact (shut_Tell HSX.out.tail).left⟩
  · rw [if_neg hl] at HF
    have f4' : (((t.Line.length : Nat) : Int) == 30) = false := by simp; omega
    go_upto_region 25 with fail
    clear p0 p1 p2 p3 s0 s1 s2 s3 b0 d2
    obtain ⟨W3, hW3⟩ : ∃ W3, (((X2.setCell ⟨g6, 0, none⟩ (.bool bk)).setCell ⟨g6, 1, none⟩ (.int .i64 who)).setCell ⟨g6, 2, none⟩ (.int .i64 no)).setCell ⟨g6, 3, none⟩ (.string tx) = W3 := ⟨_, rfl⟩
    rw [hW3] at HS3 ⊢
    clear hW3
    have d2 := HS3.out.cell (k := 2) 2 rfl rfl
    have z2 := HS3.out.frz (k := 2) 2 rfl
    have m0 := HS3.out.cell (k := 0) 0 rfl rfl
    have m1 := HS3.out.cell (k := 1) 0 rfl rfl
    have m2 := HS3.out.cell (k := 2) 0 rfl rfl
    have m3 := HS3.out.cell (k := 3) 0 rfl rfl
    obtain ⟨i0, hi, hz0, hz1, hz2⟩ := info_parts Try.infoNote
    obtain ⟨l0, ho2, hnext⟩ := HS3.out.push0 5 rfl (W2 := (W3.alloc (.cells #[.bool bk, .int .i64 who, .int .i64 no, .string tx] 94)).drew) (x := ⟨bk, ⟨who, no, tx⟩⟩) (below_new (Below.refl _ _) _).drew (rNote_own_mk HMI.out)
    have HNX := Lib.hid hnext
    have HO2 := Lib.hid ho2
    clear hnext ho2
    go_region_law (first
      | (refine step_append_lies _ (by rfl) (.tmp 158) (.tmp 160) 28 (by rfl) 0 94 i0 _ 4 40 Try.underlying28 hi hz0 hz1 hz2 rfl (by omega) _ t.Line.length l0 (by rfl) HO2.out ⟨W3.heap.size, 0, none⟩ 1 1 [.bool bk, .int .i64 who, .int .i64 no, .string tx] (by rfl) (by rfl) (World.news_of_block (B := W3.heap.size) (cs := #[.bool bk, .int .i64 who, .int .i64 no, .string tx]) (t := 94) (fr := (0, 0)) (Mm.heap_new W3 rfl _)) (by simp [Value.oneCell']) (by omega) (by unfold maxLen; omega) (by omega) (Nat.zero_le _) _ rfl ?_; intro gg cap w4 hown1 hgrow hat hlt'; obtain ⟨fp', hs4⟩ := HNX.out gg cap w4 hown1 hgrow hat; (have HS4 := Lib.hid hs4); (have d4 := HS4.out.cell (k := 2) 2 rfl rfl); (have z4 := HS4.out.frz (k := 2) 2 rfl); clear hs4 hown1 hgrow hat))
    all_goals
      go_wp2
      exact bodyPost_ret (v := .bool true) (by simp [results, Try.results49, go_sem]) rfl ⟨by rw [HF.out], _, by rw [HF.out]; exact (shut_Tell (x := { t with Line := t.Line ++ [⟨bk, ⟨who, no, tx⟩⟩] }) (HS4.out.setBlk 2 rfl _).tail.tail).left⟩
end Go.Proofs.Ytaepohocabealaa
