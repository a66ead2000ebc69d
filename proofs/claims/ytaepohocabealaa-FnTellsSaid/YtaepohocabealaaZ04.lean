/-
  Joined texts, in build order: Dl, Tl, Tn, Tw, Sc, Am, Tx, Ta. Each part says what it proves; no conditions beyond those that a part names.
-/
import Derived.Test.YtaepohocabealaaZ01
import Derived.Test.YtaepohocabealaaZ02
import Derived.Test.YtaepohocabealaaZ03
import Derived.Lib.Hide
import Derived.Deep.DeepFit
import Derived.Deep.RegionLaw
/-
  Contracts: slices.Delete of one element at slices of structs. No conditions.
-/
namespace Go.Proofs.Ytaepohocabealaa
open Go.RowKit
def Mm.encNote (m : Note) : List Value := [.bool m.Back, .int .i64 m.What.Who, .int .i64 m.What.No, .string m.What.Text]
def Mm.zNote : Value := .agg #[.bool false, .int .i64 0, .int .i64 0, .string ⟨#[]⟩]
theorem Mm.flat_note : Mm.FlatN rNote Mm.encNote := ⟨by decide, fun h => by
  obtain ⟨rfl, h1, rfl⟩ := rNote_own h
  exact ⟨rfl, rfl, fun w' => rNote_own_mk h1⟩⟩
theorem Try.infoDel_NAME : (Try.prog.info? 94).map (fun i => (i.zero, i.size, i.bytes)) = some (some Mm.zNote, 4, 40) := by kernel_rfl
set_option maxRecDepth 100000 in
set_option maxHeartbeats 2000000 in
theorem delNote_c (xs : List Note) (g n c k : Nat) (fp : List Nat) (w : World) (hs : Mm.SlOwn rNote 94 w xs (.slice (some ⟨g, 0, none⟩) n c) fp) (hk : k < n) (hn : n ≤ 1000000) :
    Calls Try.prog 90 #[.slice (some ⟨g, 0, none⟩) n c, .int .i64 k, .int .i64 (k + 1 : Nat)] w fun e w' => e = .returned (.slice (some ⟨g, 0, none⟩) (n - 1) c) ∧ Mm.Chg fp w w' ∧ Mm.SlOwn rNote 94 w' (xs.eraseIdx k) (.slice (some ⟨g, 0, none⟩) (n - 1) c) fp := by
  obtain ⟨i0, hi, hz0, hz1, hz2⟩ := info_parts Try.infoDel_NAME
  have hF := Mm.flat_note
  obtain ⟨_, _, hown, hlen⟩ := hF.owns hs
  obtain ⟨cur, hb, hcl, ht, hnx, hnc, hcm, rfl⟩ := hF.blk hs
  have herase := hF.erase hs hk (z := (Mm.zNote : Value).cells.toList) (by rfl) (o1 := k * 4) (o2 := (n - 1) * 4) rfl rfl
  obtain ⟨news, hnews⟩ : ∃ news, (xs.drop (k + 1)).flatMap Mm.encNote = news := ⟨_, rfl⟩
  rw [hnews] at herase
  have hln : news.length = (n - (k + 1)) * 4 := by rw [← hnews, Mm.flatMap_len (s := 4) (fun x hx => hlen x (List.mem_of_mem_drop hx)), List.length_drop, hnx]
  have hone : Hid (∀ u ∈ news, u.oneCell' = true) := by
    intro u hu
    rw [← hnews] at hu
    obtain ⟨x, hx, hu⟩ := List.mem_flatMap.1 hu
    exact (rNote).one (hown x (List.mem_of_mem_drop hx) w) u hu
  have hcells : ∀ j u, news[j]? = some u → w.cell? ⟨g, (k + 1) * 4 + j, none⟩ = some u := fun j u hj => by
    refine hF.cells hs (j := (k + 1) * 4 + j) ?_
    rw [← hnews, Mm.flatMap_drop (s := 4) (k + 1) hlen, List.getElem?_drop] at hj
    exact hj
  obtain ⟨A, hA, hsrc⟩ : ∃ A : Addr, (if c = k + 1 then (some ⟨g, 0, none⟩ : Option Addr) else some ⟨g, (k + 1) * 4, none⟩) = some A ∧ Hid (∀ j u, news[j]? = some u → w.drew.cell? (A.add j) = some u) := by
    by_cases h : c = k + 1
    · refine ⟨⟨g, 0, none⟩, by simp [h], fun t u hu => ?_⟩
      have h0 : news.length = 0 := by rw [hln, show n - (k + 1) = 0 by omega, Nat.zero_mul]
      rw [List.length_eq_zero_iff.1 h0] at hu
      simp at hu
    · refine ⟨⟨g, (k + 1) * 4, none⟩, by simp [h], fun t u hu => ?_⟩
      rw [Addr.add_lit]
      exact hcells t u hu
  have s1 : Hid (news.length = (n - (k + 1)) * 4) := hln
  have hroom : Hid (∀ j, j < news.length → (w.drew.cell? ⟨g, 0 + k * 4 + j, none⟩).isSome = true ∧ w.drew.frozen? ⟨g, 0 + k * 4 + j, none⟩ = false) := by
    intro t ht
    have h1 : n * 4 ≤ cur.length := by rw [hcl]; exact Nat.mul_le_mul_right _ hnc
    rw [hln] at ht
    have h2 : 0 + k * 4 + t < cur.length := by omega
    exact ⟨by show (w.cell? _).isSome = true; rw [hb.cell (List.getElem?_eq_getElem h2)]; rfl, hb.frozen _⟩
  obtain ⟨W1, hW1⟩ : ∃ W1, w.drew.setCells g (0 + k * 4) news = W1 := ⟨_, rfl⟩
  have hb1 : Mm.Blk W1 g 94 (Mm.setList cur (0 + k * 4) news) := by rw [← hW1]; exact Mm.setCells_blk news _ _ _ hb
  rw [Nat.zero_add] at hW1
  rw [hW1] at herase
  have hcl1 : ∀ ty, (Builtin.clear_ #[28] ty #[.slice (some ⟨g, (k + (n - (k + 1))) * 4, none⟩) (n - (k + (n - (k + 1)))) (c - (k + (n - (k + 1))))]).run Try.prog W1 = .ok (.tuple #[]) (W1.setCells g ((n - 1) * 4) (Mm.zNote : Value).cells.toList) := fun ty => by
    rw [show k + (n - (k + 1)) = n - 1 by omega, show n - (n - 1) = 1 by omega]
    have hsz : ((Mm.zNote : Value).cells).size = 4 := by rfl
    have h1 : n * 4 ≤ cur.length := by rw [hcl]; exact Nat.mul_le_mul_right _ hnc
    have h2 : ∀ j, j < 4 → (n - 1) * 4 + j < (Mm.setList cur (0 + k * 4) news).length := fun j hj => by rw [Mm.setList_len]; omega
    refine Mm.run_clear_one W1 _ 94 ty Mm.zNote Try.underlying28 (fun w => by simp [zeroValue, typeInfo, hi, hz0]) (by decide) g _ _ (fun j hj => ?_) (fun j hj => hb1.frozen _)
    rw [hsz] at hj
    rw [hb1.cell (List.getElem?_eq_getElem (h2 j hj))]; rfl
  obtain ⟨zl, hzl⟩ : ∃ zl, (Mm.zNote : Value).cells.toList = zl := ⟨_, rfl⟩
  rw [hzl] at herase
  simp only [hzl] at hcl1
  clear hzl
  have HE := Lib.hid herase
  have hW : Hid (w.drew.setCells g (0 + k * 4) news = W1) := by rw [Nat.zero_add]; exact hW1
  have hkc : k ≤ c := by omega
  have hk1c : k + 1 ≤ c := by omega
  have hkn : k + 1 ≤ n := by omega
  have hc2 := hcm
  have hnx2 := Lib.hid hnx
  have f1 : (0 : Int) ≤ (k : Int) + 1 := by omega
  have f2 : (k : Int) + 1 ≤ ((n : Nat) : Int) := by omega
  have f3 : (k : Int) ≤ ((n : Nat) : Int) := by omega
  unfold maxLen at hc2
  clear hnx hW1 herase hcells hb hb1 hcl ht hown hlen hnews hs hln
  go_enter Try.func90, Try.ntmps90
  go_wp2_with fail
  go_region_law (refine step_append_room rfl (.tmp 22) (.tmp 25) 28 rfl 94 i0 4 Try.underlying28 hi hz1 g 0 k c (by simp [Act.eval, Act.put]) A (n - (k + 1)) (c - (k + 1)) news (by simp [Act.eval, Act.put]) s1.out hsrc.out hone.out (by omega) hroom.out ?_; rw [hW.out])
  go_wp2
  exact bodyPost_ret (v := .slice (some ⟨g, 0, none⟩) (k + (n - (k + 1))) c) (by simp [results, Try.results90, go_sem]) rfl ⟨by rw [show k + (n - (k + 1)) = n - 1 by omega], HE.out⟩
end Go.Proofs.Ytaepohocabealaa

/-
  Contracts: the teller's steps on the line: take, lose, twice (chapter 10). No conditions.
-/
namespace Go.Proofs.Ytaepohocabealaa
open Go.RowKit
attribute [local go_sem] und_cell cha_cell World.cell?_alloc_some
theorem take_c (t : Tell) (m : Note) (g : Nat) (fp : List Nat) (w : World) (h : (Mm.tptr rTell 31 g t fp).holds w) (hnd : (g :: fp).Nodup) (hm : Mm.I64 m.What.Who ∧ Mm.I64 m.What.No ∧ m.What.Text.size ≤ maxLen) (hw : Pl.TWf t) (hk : Pl.MsgOk t m) :
    Calls Try.prog 91 #[.pointer (some ⟨g, 0, none⟩), .agg #[.bool m.Back, .int .i64 m.What.Who, .int .i64 m.What.No, .string m.What.Text]] w fun e w' => e = .returned (.tuple #[]) ∧ ∃ fp', Mm.Left (g :: fp) w w' (Mm.tptr rTell 31 g (Pl.ttake t m) fp') := by
  cases hb : m.Back with
  | true => exact hb ▸ takeBack_c t m g fp w h hnd hm hw hk hb
  | false => exact hb ▸ takeLog_c t m g fp w h hnd hm hw hk hb
theorem Mm.note_inv {w : World} {xs : List Note} {v : Value} {fp : List Nat} (h : Mm.SlOwn rNote 94 w xs v fp) {k : Nat} {m : Note} (hk : xs[k]? = some m) : Mm.I64 m.What.Who ∧ Mm.I64 m.What.No ∧ m.What.Text.size ≤ maxLen := by
  obtain ⟨es, he, -, -⟩ := h
  have hl := (List.getElem?_eq_some_iff.1 hk).1
  exact (rNote_own (he.2 k _ _ hk (List.getElem?_eq_getElem (show k < es.length by rw [he.1]; exact hl)))).2.1
theorem Pl.tstepL (t : Tell) (kd kk : Int) (h0 : 0 ≤ kk) (hd : 3 ≤ kd ∧ kd ≤ 5) : Pl.tstep t ⟨kd, kk, ⟨#[]⟩⟩ = if kk < t.Line.length then
    (if kd = 5 then (if t.Line.length = 30 then (t, false) else ({ t with Line := t.Line ++ [Pl.noteAt t kk] }, true))
    else if kd = 3 then (Pl.ttake { t with Line := t.Line.eraseIdx kk.toNat } (Pl.noteAt t kk), true)
    else ({ t with Line := t.Line.eraseIdx kk.toNat }, true)) else (t, false) := by
  unfold Pl.tstep
  rw [if_neg (show ¬ kd = 1 by omega), if_neg (show ¬ ((⟨#[]⟩ : ByteArray).size ≠ 0 ∨ kk < 0) by simp [ByteArray.size]; omega), if_neg (show ¬ kd = 2 by omega)]
  by_cases h : kk < t.Line.length
  · rw [if_pos ⟨hd.1, hd.2, h⟩, if_pos h]
  · rw [if_neg (fun hh => h hh.2.2), if_neg h]
set_option maxRecDepth 100000 in
set_option maxHeartbeats 2000000 in
theorem stepTake_c (t : Tell) (kk : Int) (g : Nat) (fp : List Nat) (w : World) (h : (Mm.tptr rTell 31 g t fp).holds w) (hnd : (g :: fp).Nodup) (hm : Mm.I64 kk) (h0 : 0 ≤ kk) (hw : Pl.TWf t) :
    Calls Try.prog 49 #[.pointer (some ⟨g, 0, none⟩), .agg #[.int .i64 3, .int .i64 kk, .string ⟨#[]⟩]] w (StepAns t g fp w (Pl.tstep t ⟨3, kk, ⟨#[]⟩⟩)) := by
  have HF := Lib.hid (Pl.tstepL t 3 kk h0 (by omega))
  obtain ⟨A0, n0, c0, A1, n1, c1, A2, n2, c2, A3, n3, c3, A4, n4, c4, f0, f1, f2, f3, f4, rfl, hs⟩ := open_Tell (Mm.SepF.one _ w h hnd)
  have hln2 : n2 = t.Line.length := by obtain ⟨A', n', c', hv, h1, _⟩ := (hs.sl 3 rfl).form; injection hv with _ h2 _; omega
  subst hln2
  have HS := Lib.hid (hs.alloc' rfl 46 [.int .i64 3, .int .i64 kk, .string ⟨#[]⟩])
  have HM := Lib.hid hm
  have hl30 := hw.line
  have HW := Lib.hid hw
  clear h hs hm hnd hw
  have d2 := HS.out.cell (k := 2) 1 rfl rfl
  have b0 := HS.out.cell (k := 0) 0 rfl rfl
  have b1 := HS.out.cell (k := 1) 0 rfl rfl
  have b2 := HS.out.cell (k := 2) 0 rfl rfl
  obtain ⟨k, rfl⟩ : ∃ k : Nat, kk = k := ⟨kk.toNat, by omega⟩
  by_cases hk : k < t.Line.length
  rotate_left
  · rw [if_neg (by omega)] at HF
    have f1 : ¬ ((k : Nat) : Int) < ((t.Line.length : Nat) : Int) := by omega
    go_enter Try.func49, Try.ntmps49
    go_wp2
    refine wp_region_und (by kernel_rfl) (by kernel_rfl) ?_
    repeat (go_big_quiet_step ((first | fail)))
    refine wpQuiet_nil ?_
    intro X hX
    have HSX := Lib.hid (HS.out.step hX)
    go_wp2
    exact bodyPost_ret (v := .bool false) (by simp [results, Try.results49, go_sem]) rfl ⟨by rw [HF.out], _, by rw [HF.out]; exact (shut_Tell HSX.out.tail).left⟩
  rw [if_pos (by omega)] at HF
  have hx := List.getElem?_eq_getElem hk
  have hna := Pl.noteAt_of (t := t) (k := (k : Int)) (m := t.Line[k]) (by simp)
  have hmk := HW.out.note (k := (k : Int)) (by omega) (by omega)
  rw [hna] at hmk HF
  generalize t.Line[k] = m at hx hna hmk HF
  have HMI := Lib.hid (Mm.note_inv (HS.out.sl 4 rfl) hx)
  obtain ⟨g2, rfl, -, -⟩ := Mm.sl_addr (HS.out.sl 4 rfl) (by omega)
  have hcap : t.Line.length ≤ c2 ∧ c2 ≤ maxLen := by obtain ⟨A', n', c', hv, h1, h2, h3, _⟩ := (HS.out.sl 4 rfl).form; injection hv with _ h4 h5; omega
  unfold maxLen at hcap
  have f1' : ((k : Nat) : Int) < (t.Line.length : Nat) := by omega
  have f2' : (0 : Int) ≤ (k : Nat) := by omega
  have f3' : ((k : Nat) : Int).toNat = k := by omega
  rw [f3'] at HF
  have HX := Lib.hid hx
  have HMK := Lib.hid hmk
  clear hx hmk hna
  obtain ⟨bk, ⟨who, no, tx⟩⟩ := m
  go_enter Try.func49, Try.ntmps49
  go_wp2
  refine wp_region_und (by kernel_rfl) (by kernel_rfl) ?_
  repeat (go_big_quiet_step ((first | fail)))
  refine wpQuiet_nil ?_
  intro X hX
  have HS1 := Lib.hid (HS.out.step hX)
  clear d2 b0 b1 b2
  have d2 := HS1.out.cell (k := 2) 1 rfl rfl
  have b0 := HS1.out.cell (k := 0) 0 rfl rfl
  have b1 := HS1.out.cell (k := 1) 0 rfl rfl
  have b2 := HS1.out.cell (k := 2) 0 rfl rfl
  obtain ⟨e20, e21, e22, e23⟩ := rNote_ocell (HS1.out.sl 4 rfl) (HS1.out.ndat (i := 4) rfl) HX.out
  go_wp2
  refine Mm.wp_region_give 9 (fun i => match i with | 8 => some (Mm.gPtr 94 [.bool false, .int .i64 0, .int .i64 0, .string ⟨#[]⟩]) | _ => none) (fun _ => []) (fun _ => []) (F := []) (D := fun w' => ∃ x : Und X, w' = und X x) (fun X us h => Mm.sep_und h) (by kernel_rfl) (by kernel_rfl) (by kernel_rfl) (Mm.SepF.startDrew _) ?_
  repeat (refine Mm.give_det (by rfl) (by rfl) (by rfl) (fun K hK => ?_); go_big_quiet_op; refine hK _ ?_; clear hK K)
  refine Mm.give_op0 6 (by rfl) rfl (by rfl) (by rfl) (by rfl) (by rfl) Mm.gPtr_in (fun others X2 hX2 => ?_) ?_
  · go_wp2
    exact Mm.gvq_ptr hX2 rfl rfl rfl
  rintro v ds ⟨g6, rfl, rfl⟩
  simp only [Act.put, List.setIfInBounds_toArray, List.set_cons_succ, List.set_cons_zero]
  refine Mm.give_nil ?_
  rintro X2 hX2
  have HS2 := Lib.hid (HS1.out.join (us := [Mm.tblk g6 94 [.bool false, .int .i64 0, .int .i64 0, .string ⟨#[]⟩]]) hX2)
  clear hX2 d2 b0 b1 b2 e20 e21 e22 e23
  have p0 := HS2.out.frz (k := 0) 0 rfl
  have p1 := HS2.out.frz (k := 1) 0 rfl
  have p2 := HS2.out.frz (k := 2) 0 rfl
  have p3 := HS2.out.frz (k := 3) 0 rfl
  have s0 := HS2.out.cell (k := 0) 0 rfl rfl
  have s1 := HS2.out.cell (k := 1) 0 rfl rfl
  have s2 := HS2.out.cell (k := 2) 0 rfl rfl
  have s3 := HS2.out.cell (k := 3) 0 rfl rfl
  have HS3 : Hid (Mm.SepF _ w _ [_, _, _, _, _, _, _, _]) := ((((HS2.out.setBlk (k := 0) 0 rfl (.bool bk)).setBlk (k := 1) 0 rfl (.int .i64 who)).setBlk (k := 2) 0 rfl (.int .i64 no)).setBlk (k := 3) 0 rfl (.string tx))
  have b0 := HS3.out.cell (k := 0) 1 rfl rfl
  go_wp2
  clear p0 p1 p2 p3 s0 s1 s2 s3 b0
  obtain ⟨W3, hW3⟩ : ∃ W3, (((X2.setCell ⟨g6, 0, none⟩ (.bool bk)).setCell ⟨g6, 1, none⟩ (.int .i64 who)).setCell ⟨g6, 2, none⟩ (.int .i64 no)).setCell ⟨g6, 3, none⟩ (.string tx) = W3 := ⟨_, rfl⟩
  rw [hW3] at HS3 ⊢
  clear hW3
  have b0 := HS3.out.cell (k := 0) 1 rfl rfl
  have b1 := HS3.out.cell (k := 1) 1 rfl rfl
  have d2 := HS3.out.cell (k := 2) 2 rfl rfl
  have n0 : g ∉ f2 := HS3.out.apart (i := 2) (j := 5) rfl rfl (by decide) g (by simp [Mm.tblk])
  have n1 : w.heap.size ∉ f2 := HS3.out.apart (i := 1) (j := 5) rfl rfl (by decide) _ (by simp [Mm.tblk])
  refine Mm.wp_region_give 13 (fun i => match i with | 10 => some (Mm.gSl rNote 94 (t.Line.eraseIdx k)) | _ => none) (fun i => match i with | 10 => [14] | _ => []) (fun i => match i with | 14 => [Mm.tsl rNote 94 t.Line (.slice (some ⟨g2, 0, none⟩) t.Line.length c2) f2] | _ => []) (F := f2) (D := fun w' => ∃ x : Cha f2 W3, w' = cha f2 W3 x) (fun X us h => Mm.sep_cha h) (by kernel_rfl) (by kernel_rfl) (by kernel_rfl) (Mm.sep_eq ((Mm.SepF.one (Mm.tsl rNote 94 t.Line (.slice (some ⟨g2, 0, none⟩) t.Line.length c2) f2) W3 (HS3.out.at_ 5 rfl) (HS3.out.ndat (i := 5) rfl)).step (Below.refl _ _).drew) rfl) ?_
  repeat (refine Mm.give_det (by rfl) (by rfl) (by rfl) (fun K hK => ?_); go_big_quiet_op; refine hK _ ?_; clear hK K)
  refine Mm.give_op1 174 14 (by rfl) rfl (by rfl) (by rfl) (by rfl) rfl (by rfl) _ rfl Mm.gSl_in (fun others X4 hX4 => ?_) ?_
  · go_wp2_with (go_at_call 90; refine (delNote_c t.Line g2 _ c2 k f2 X4 (hX4.sl 0 rfl) (by omega) (by omega)).mono ?_; rintro e w5 ⟨rfl, k1, k2⟩)
    exact ⟨rfl, rfl, _, ⟨_, _, _, f2, rfl, rfl, by show _ = _; rw [List.length_eraseIdx_of_lt hk]⟩, hX4.upd (i := 0) (t' := Mm.tsl rNote 94 (t.Line.eraseIdx k) (.slice (some ⟨g2, 0, none⟩) (t.Line.length - 1) c2) f2) rfl k1 k2 (hX4.ndat (i := 0) (t := Mm.tsl rNote 94 t.Line (.slice (some ⟨g2, 0, none⟩) t.Line.length c2) f2) rfl) (fun b hb => .inl hb)⟩
  rintro v ds ⟨A5, n5, c5, f5, rfl, rfl, hn5⟩
  simp only [Act.put, List.setIfInBounds_toArray, List.set_cons_succ, List.set_cons_zero]
  repeat (refine Mm.give_det (by rfl) (by rfl) (by rfl) (fun K hK => ?_); go_big_quiet_op; refine hK _ ?_; clear hK K)
  refine Mm.give_nil ?_
  rintro X4 hX4
  have HS4 := Lib.hid (HS3.out.call 5 rfl (Mm.sep_eq (us := [Mm.tsl rNote 94 (t.Line.eraseIdx k) (.slice A5 n5 c5) f5]) hX4 rfl).left)
  clear hX4 b0 b1 d2
  have d2 := HS4.out.cell (k := 2) 2 rfl rfl
  have p2 := HS4.out.frz (k := 2) 2 rfl
  have HS5 : Hid (Mm.SepF _ w _ [_, _, _, _, _, _, _, _]) := HS4.out.setBlk (k := 2) 2 rfl (.slice A5 n5 c5)
  have b0 := HS5.out.cell (k := 0) 1 rfl rfl
  have m0 := HS5.out.cell (k := 0) 0 rfl rfl
  have m1 := HS5.out.cell (k := 1) 0 rfl rfl
  have m2 := HS5.out.cell (k := 2) 0 rfl rfl
  have m3 := HS5.out.cell (k := 3) 0 rfl rfl
  have HS6 := Lib.hid (shut_Tell (x := { t with Line := t.Line.eraseIdx k }) HS5.out.tail.tail)
  have CT := take_c { t with Line := t.Line.eraseIdx k } ⟨bk, ⟨who, no, tx⟩⟩ g _ _ (HS6.out.at_ 0 rfl) (HS6.out.ndat (i := 0) rfl) HMI.out (HW.out.drop k) HMK.out
  rw [if_neg (show ¬ (3 : Int) = 5 by decide), if_pos trivial] at HF
  go_wp2_with (go_at_call 91; refine CT.mono ?_; rintro e w9 ⟨rfl, fp9, hL⟩; (have HC4 := Lib.hid (HS6.out.call 0 rfl hL)); clear hL)
  exact bodyPost_ret (v := .bool true) (by simp [results, Try.results49, go_sem]) rfl ⟨by rw [HF.out], _, by rw [HF.out]; exact HC4.out.left⟩
set_option maxRecDepth 100000 in
set_option maxHeartbeats 2000000 in
theorem stepLose_c (t : Tell) (kk : Int) (g : Nat) (fp : List Nat) (w : World) (h : (Mm.tptr rTell 31 g t fp).holds w) (hnd : (g :: fp).Nodup) (hm : Mm.I64 kk) (h0 : 0 ≤ kk) (hw : Pl.TWf t) :
    Calls Try.prog 49 #[.pointer (some ⟨g, 0, none⟩), .agg #[.int .i64 4, .int .i64 kk, .string ⟨#[]⟩]] w (StepAns t g fp w (Pl.tstep t ⟨4, kk, ⟨#[]⟩⟩)) := by
  have HF := Lib.hid (Pl.tstepL t 4 kk h0 (by omega))
  obtain ⟨A0, n0, c0, A1, n1, c1, A2, n2, c2, A3, n3, c3, A4, n4, c4, f0, f1, f2, f3, f4, rfl, hs⟩ := open_Tell (Mm.SepF.one _ w h hnd)
  have hln2 : n2 = t.Line.length := by obtain ⟨A', n', c', hv, h1, _⟩ := (hs.sl 3 rfl).form; injection hv with _ h2 _; omega
  subst hln2
  have HS := Lib.hid (hs.alloc' rfl 46 [.int .i64 4, .int .i64 kk, .string ⟨#[]⟩])
  have HM := Lib.hid hm
  have hl30 := hw.line
  have HW := Lib.hid hw
  clear h hs hm hnd hw
  have d2 := HS.out.cell (k := 2) 1 rfl rfl
  have b0 := HS.out.cell (k := 0) 0 rfl rfl
  have b1 := HS.out.cell (k := 1) 0 rfl rfl
  have b2 := HS.out.cell (k := 2) 0 rfl rfl
  obtain ⟨k, rfl⟩ : ∃ k : Nat, kk = k := ⟨kk.toNat, by omega⟩
  by_cases hk : k < t.Line.length
  rotate_left
  · rw [if_neg (by omega)] at HF
    have f1 : ¬ ((k : Nat) : Int) < ((t.Line.length : Nat) : Int) := by omega
    go_enter Try.func49, Try.ntmps49
    go_wp2
    refine wp_region_und (by kernel_rfl) (by kernel_rfl) ?_
    repeat (go_big_quiet_step ((first | fail)))
    refine wpQuiet_nil ?_
    intro X hX
    have HSX := Lib.hid (HS.out.step hX)
    go_wp2
    exact bodyPost_ret (v := .bool false) (by simp [results, Try.results49, go_sem]) rfl ⟨by rw [HF.out], _, by rw [HF.out]; exact (shut_Tell HSX.out.tail).left⟩
  rw [if_pos (by omega)] at HF
  have hx := List.getElem?_eq_getElem hk
  have hna := Pl.noteAt_of (t := t) (k := (k : Int)) (m := t.Line[k]) (by simp)
  have hmk := HW.out.note (k := (k : Int)) (by omega) (by omega)
  rw [hna] at hmk HF
  generalize t.Line[k] = m at hx hna hmk HF
  have HMI := Lib.hid (Mm.note_inv (HS.out.sl 4 rfl) hx)
  obtain ⟨g2, rfl, -, -⟩ := Mm.sl_addr (HS.out.sl 4 rfl) (by omega)
  have hcap : t.Line.length ≤ c2 ∧ c2 ≤ maxLen := by obtain ⟨A', n', c', hv, h1, h2, h3, _⟩ := (HS.out.sl 4 rfl).form; injection hv with _ h4 h5; omega
  unfold maxLen at hcap
  have f1' : ((k : Nat) : Int) < (t.Line.length : Nat) := by omega
  have f2' : (0 : Int) ≤ (k : Nat) := by omega
  have f3' : ((k : Nat) : Int).toNat = k := by omega
  rw [f3'] at HF
  have HX := Lib.hid hx
  have HMK := Lib.hid hmk
  clear hx hmk hna
  obtain ⟨bk, ⟨who, no, tx⟩⟩ := m
  go_enter Try.func49, Try.ntmps49
  go_wp2
  refine wp_region_und (by kernel_rfl) (by kernel_rfl) ?_
  repeat (go_big_quiet_step ((first | fail)))
  refine wpQuiet_nil ?_
  intro X hX
  have HS1 := Lib.hid (HS.out.step hX)
  clear d2 b0 b1 b2
  have d2 := HS1.out.cell (k := 2) 1 rfl rfl
  have b0 := HS1.out.cell (k := 0) 0 rfl rfl
  have b1 := HS1.out.cell (k := 1) 0 rfl rfl
  have b2 := HS1.out.cell (k := 2) 0 rfl rfl
  obtain ⟨e20, e21, e22, e23⟩ := rNote_ocell (HS1.out.sl 4 rfl) (HS1.out.ndat (i := 4) rfl) HX.out
  go_wp2
  refine Mm.wp_region_give 9 (fun i => match i with | 8 => some (Mm.gPtr 94 [.bool false, .int .i64 0, .int .i64 0, .string ⟨#[]⟩]) | _ => none) (fun _ => []) (fun _ => []) (F := []) (D := fun w' => ∃ x : Und X, w' = und X x) (fun X us h => Mm.sep_und h) (by kernel_rfl) (by kernel_rfl) (by kernel_rfl) (Mm.SepF.startDrew _) ?_
  repeat (refine Mm.give_det (by rfl) (by rfl) (by rfl) (fun K hK => ?_); go_big_quiet_op; refine hK _ ?_; clear hK K)
  refine Mm.give_op0 6 (by rfl) rfl (by rfl) (by rfl) (by rfl) (by rfl) Mm.gPtr_in (fun others X2 hX2 => ?_) ?_
  · go_wp2
    exact Mm.gvq_ptr hX2 rfl rfl rfl
  rintro v ds ⟨g6, rfl, rfl⟩
  simp only [Act.put, List.setIfInBounds_toArray, List.set_cons_succ, List.set_cons_zero]
  refine Mm.give_nil ?_
  rintro X2 hX2
  have HS2 := Lib.hid (HS1.out.join (us := [Mm.tblk g6 94 [.bool false, .int .i64 0, .int .i64 0, .string ⟨#[]⟩]]) hX2)
  clear hX2 d2 b0 b1 b2 e20 e21 e22 e23
  have p0 := HS2.out.frz (k := 0) 0 rfl
  have p1 := HS2.out.frz (k := 1) 0 rfl
  have p2 := HS2.out.frz (k := 2) 0 rfl
  have p3 := HS2.out.frz (k := 3) 0 rfl
  have s0 := HS2.out.cell (k := 0) 0 rfl rfl
  have s1 := HS2.out.cell (k := 1) 0 rfl rfl
  have s2 := HS2.out.cell (k := 2) 0 rfl rfl
  have s3 := HS2.out.cell (k := 3) 0 rfl rfl
  have HS3 : Hid (Mm.SepF _ w _ [_, _, _, _, _, _, _, _]) := ((((HS2.out.setBlk (k := 0) 0 rfl (.bool bk)).setBlk (k := 1) 0 rfl (.int .i64 who)).setBlk (k := 2) 0 rfl (.int .i64 no)).setBlk (k := 3) 0 rfl (.string tx))
  have b0 := HS3.out.cell (k := 0) 1 rfl rfl
  go_wp2
  clear p0 p1 p2 p3 s0 s1 s2 s3 b0
  obtain ⟨W3, hW3⟩ : ∃ W3, (((X2.setCell ⟨g6, 0, none⟩ (.bool bk)).setCell ⟨g6, 1, none⟩ (.int .i64 who)).setCell ⟨g6, 2, none⟩ (.int .i64 no)).setCell ⟨g6, 3, none⟩ (.string tx) = W3 := ⟨_, rfl⟩
  rw [hW3] at HS3 ⊢
  clear hW3
  have b0 := HS3.out.cell (k := 0) 1 rfl rfl
  have b1 := HS3.out.cell (k := 1) 1 rfl rfl
  have d2 := HS3.out.cell (k := 2) 2 rfl rfl
  have n0 : g ∉ f2 := HS3.out.apart (i := 2) (j := 5) rfl rfl (by decide) g (by simp [Mm.tblk])
  have n1 : w.heap.size ∉ f2 := HS3.out.apart (i := 1) (j := 5) rfl rfl (by decide) _ (by simp [Mm.tblk])
  refine Mm.wp_region_give 13 (fun i => match i with | 10 => some (Mm.gSl rNote 94 (t.Line.eraseIdx k)) | _ => none) (fun i => match i with | 10 => [14] | _ => []) (fun i => match i with | 14 => [Mm.tsl rNote 94 t.Line (.slice (some ⟨g2, 0, none⟩) t.Line.length c2) f2] | _ => []) (F := f2) (D := fun w' => ∃ x : Cha f2 W3, w' = cha f2 W3 x) (fun X us h => Mm.sep_cha h) (by kernel_rfl) (by kernel_rfl) (by kernel_rfl) (Mm.sep_eq ((Mm.SepF.one (Mm.tsl rNote 94 t.Line (.slice (some ⟨g2, 0, none⟩) t.Line.length c2) f2) W3 (HS3.out.at_ 5 rfl) (HS3.out.ndat (i := 5) rfl)).step (Below.refl _ _).drew) rfl) ?_
  repeat (refine Mm.give_det (by rfl) (by rfl) (by rfl) (fun K hK => ?_); go_big_quiet_op; refine hK _ ?_; clear hK K)
  refine Mm.give_op1 174 14 (by rfl) rfl (by rfl) (by rfl) (by rfl) rfl (by rfl) _ rfl Mm.gSl_in (fun others X4 hX4 => ?_) ?_
  · go_wp2_with (go_at_call 90; refine (delNote_c t.Line g2 _ c2 k f2 X4 (hX4.sl 0 rfl) (by omega) (by omega)).mono ?_; rintro e w5 ⟨rfl, k1, k2⟩)
    exact ⟨rfl, rfl, _, ⟨_, _, _, f2, rfl, rfl, by show _ = _; rw [List.length_eraseIdx_of_lt hk]⟩, hX4.upd (i := 0) (t' := Mm.tsl rNote 94 (t.Line.eraseIdx k) (.slice (some ⟨g2, 0, none⟩) (t.Line.length - 1) c2) f2) rfl k1 k2 (hX4.ndat (i := 0) (t := Mm.tsl rNote 94 t.Line (.slice (some ⟨g2, 0, none⟩) t.Line.length c2) f2) rfl) (fun b hb => .inl hb)⟩
  rintro v ds ⟨A5, n5, c5, f5, rfl, rfl, hn5⟩
  simp only [Act.put, List.setIfInBounds_toArray, List.set_cons_succ, List.set_cons_zero]
  repeat (refine Mm.give_det (by rfl) (by rfl) (by rfl) (fun K hK => ?_); go_big_quiet_op; refine hK _ ?_; clear hK K)
  refine Mm.give_nil ?_
  rintro X4 hX4
  have HS4 := Lib.hid (HS3.out.call 5 rfl (Mm.sep_eq (us := [Mm.tsl rNote 94 (t.Line.eraseIdx k) (.slice A5 n5 c5) f5]) hX4 rfl).left)
  clear hX4 b0 b1 d2
  have d2 := HS4.out.cell (k := 2) 2 rfl rfl
  have p2 := HS4.out.frz (k := 2) 2 rfl
  have HS5 : Hid (Mm.SepF _ w _ [_, _, _, _, _, _, _, _]) := HS4.out.setBlk (k := 2) 2 rfl (.slice A5 n5 c5)
  have b0 := HS5.out.cell (k := 0) 1 rfl rfl
  have m0 := HS5.out.cell (k := 0) 0 rfl rfl
  have m1 := HS5.out.cell (k := 1) 0 rfl rfl
  have m2 := HS5.out.cell (k := 2) 0 rfl rfl
  have m3 := HS5.out.cell (k := 3) 0 rfl rfl
  have HS6 := Lib.hid (shut_Tell (x := { t with Line := t.Line.eraseIdx k }) HS5.out.tail.tail)
  rw [if_neg (show ¬ (4 : Int) = 5 by decide), if_neg (show ¬ (4 : Int) = 3 by decide)] at HF
  go_wp2
  exact bodyPost_ret (v := .bool true) (by simp [results, Try.results49, go_sem]) rfl ⟨by rw [HF.out], _, by rw [HF.out]; exact HS6.out.left⟩
set_option maxRecDepth 100000 in
set_option maxHeartbeats 2000000 in
theorem stepTwice_c (t : Tell) (kk : Int) (g : Nat) (fp : List Nat) (w : World) (h : (Mm.tptr rTell 31 g t fp).holds w) (hnd : (g :: fp).Nodup) (hm : Mm.I64 kk) (h0 : 0 ≤ kk) (hw : Pl.TWf t) :
    Calls Try.prog 49 #[.pointer (some ⟨g, 0, none⟩), .agg #[.int .i64 5, .int .i64 kk, .string ⟨#[]⟩]] w (StepAns t g fp w (Pl.tstep t ⟨5, kk, ⟨#[]⟩⟩)) := by
  have HF := Lib.hid (Pl.tstepL t 5 kk h0 (by omega))
  obtain ⟨A0, n0, c0, A1, n1, c1, A2, n2, c2, A3, n3, c3, A4, n4, c4, f0, f1, f2, f3, f4, rfl, hs⟩ := open_Tell (Mm.SepF.one _ w h hnd)
  have hln2 : n2 = t.Line.length := by obtain ⟨A', n', c', hv, h1, _⟩ := (hs.sl 3 rfl).form; injection hv with _ h2 _; omega
  subst hln2
  have HS := Lib.hid (hs.alloc' rfl 46 [.int .i64 5, .int .i64 kk, .string ⟨#[]⟩])
  have HM := Lib.hid hm
  have hl30 := hw.line
  have HW := Lib.hid hw
  clear h hs hm hnd hw
  have d2 := HS.out.cell (k := 2) 1 rfl rfl
  have b0 := HS.out.cell (k := 0) 0 rfl rfl
  have b1 := HS.out.cell (k := 1) 0 rfl rfl
  have b2 := HS.out.cell (k := 2) 0 rfl rfl
  obtain ⟨k, rfl⟩ : ∃ k : Nat, kk = k := ⟨kk.toNat, by omega⟩
  by_cases hk : k < t.Line.length
  rotate_left
  · rw [if_neg (by omega)] at HF
    have f1 : ¬ ((k : Nat) : Int) < ((t.Line.length : Nat) : Int) := by omega
    go_enter Try.func49, Try.ntmps49
    go_wp2
    refine wp_region_und (by kernel_rfl) (by kernel_rfl) ?_
    repeat (go_big_quiet_step ((first | fail)))
    refine wpQuiet_nil ?_
    intro X hX
    have HSX := Lib.hid (HS.out.step hX)
    go_wp2
    exact bodyPost_ret (v := .bool false) (by simp [results, Try.results49, go_sem]) rfl ⟨by rw [HF.out], _, by rw [HF.out]; exact (shut_Tell HSX.out.tail).left⟩
  rw [if_pos (by omega)] at HF
  have hx := List.getElem?_eq_getElem hk
  have hna := Pl.noteAt_of (t := t) (k := (k : Int)) (m := t.Line[k]) (by simp)
  have hmk := HW.out.note (k := (k : Int)) (by omega) (by omega)
  rw [hna] at hmk HF
  generalize t.Line[k] = m at hx hna hmk HF
  have HMI := Lib.hid (Mm.note_inv (HS.out.sl 4 rfl) hx)
  obtain ⟨g2, rfl, -, -⟩ := Mm.sl_addr (HS.out.sl 4 rfl) (by omega)
  have hcap : t.Line.length ≤ c2 ∧ c2 ≤ maxLen := by obtain ⟨A', n', c', hv, h1, h2, h3, _⟩ := (HS.out.sl 4 rfl).form; injection hv with _ h4 h5; omega
  unfold maxLen at hcap
  have f1' : ((k : Nat) : Int) < (t.Line.length : Nat) := by omega
  have f2' : (0 : Int) ≤ (k : Nat) := by omega
  have f3' : ((k : Nat) : Int).toNat = k := by omega
  rw [f3'] at HF
  have HX := Lib.hid hx
  have HMK := Lib.hid hmk
  clear hx hmk hna
  obtain ⟨bk, ⟨who, no, tx⟩⟩ := m
  go_enter Try.func49, Try.ntmps49
  go_wp2
  refine wp_region_und (by kernel_rfl) (by kernel_rfl) ?_
  repeat (go_big_quiet_step ((first | fail)))
  refine wpQuiet_nil ?_
  intro X hX
  have HS1 := Lib.hid (HS.out.step hX)
  clear d2 b0 b1 b2
  have d2 := HS1.out.cell (k := 2) 1 rfl rfl
  have b0 := HS1.out.cell (k := 0) 0 rfl rfl
  have b1 := HS1.out.cell (k := 1) 0 rfl rfl
  have b2 := HS1.out.cell (k := 2) 0 rfl rfl
  obtain ⟨e20, e21, e22, e23⟩ := rNote_ocell (HS1.out.sl 4 rfl) (HS1.out.ndat (i := 4) rfl) HX.out
  go_wp2
  refine Mm.wp_region_give 9 (fun i => match i with | 8 => some (Mm.gPtr 94 [.bool false, .int .i64 0, .int .i64 0, .string ⟨#[]⟩]) | _ => none) (fun _ => []) (fun _ => []) (F := []) (D := fun w' => ∃ x : Und X, w' = und X x) (fun X us h => Mm.sep_und h) (by kernel_rfl) (by kernel_rfl) (by kernel_rfl) (Mm.SepF.startDrew _) ?_
  repeat (refine Mm.give_det (by rfl) (by rfl) (by rfl) (fun K hK => ?_); go_big_quiet_op; refine hK _ ?_; clear hK K)
  refine Mm.give_op0 6 (by rfl) rfl (by rfl) (by rfl) (by rfl) (by rfl) Mm.gPtr_in (fun others X2 hX2 => ?_) ?_
  · go_wp2
    exact Mm.gvq_ptr hX2 rfl rfl rfl
  rintro v ds ⟨g6, rfl, rfl⟩
  simp only [Act.put, List.setIfInBounds_toArray, List.set_cons_succ, List.set_cons_zero]
  refine Mm.give_nil ?_
  rintro X2 hX2
  have HS2 := Lib.hid (HS1.out.join (us := [Mm.tblk g6 94 [.bool false, .int .i64 0, .int .i64 0, .string ⟨#[]⟩]]) hX2)
  clear hX2 d2 b0 b1 b2 e20 e21 e22 e23
  have p0 := HS2.out.frz (k := 0) 0 rfl
  have p1 := HS2.out.frz (k := 1) 0 rfl
  have p2 := HS2.out.frz (k := 2) 0 rfl
  have p3 := HS2.out.frz (k := 3) 0 rfl
  have s0 := HS2.out.cell (k := 0) 0 rfl rfl
  have s1 := HS2.out.cell (k := 1) 0 rfl rfl
  have s2 := HS2.out.cell (k := 2) 0 rfl rfl
  have s3 := HS2.out.cell (k := 3) 0 rfl rfl
  have HS3 : Hid (Mm.SepF _ w _ [_, _, _, _, _, _, _, _]) := ((((HS2.out.setBlk (k := 0) 0 rfl (.bool bk)).setBlk (k := 1) 0 rfl (.int .i64 who)).setBlk (k := 2) 0 rfl (.int .i64 no)).setBlk (k := 3) 0 rfl (.string tx))
  have b0 := HS3.out.cell (k := 0) 1 rfl rfl
  have d2 := HS3.out.cell (k := 2) 2 rfl rfl
  rw [if_pos trivial] at HF
  by_cases hl : t.Line.length = 30
  · rw [if_pos hl] at HF
    have f4' : (((t.Line.length : Nat) : Int) == 30) = true := by simp [hl]
    have HSX := Lib.hid HS3.out.tail
    go_wp2
    exact bodyPost_ret (v := .bool false) (by simp [results, Try.results49, go_sem]) rfl ⟨by rw [HF.out], _, by rw [HF.out]; exact (shut_Tell HSX.out.tail).left⟩
  · rw [if_neg hl] at HF
    have f4' : (((t.Line.length : Nat) : Int) == 30) = false := by simp; omega
    go_upto_region 25 with fail
    clear p0 p1 p2 p3 s0 s1 s2 s3 b0 d2
    obtain ⟨W3, hW3⟩ : ∃ W3, (((X2.setCell ⟨g6, 0, none⟩ (.bool bk)).setCell ⟨g6, 1, none⟩ (.int .i64 who)).setCell ⟨g6, 2, none⟩ (.int .i64 no)).setCell ⟨g6, 3, none⟩ (.string tx) = W3 := ⟨_, rfl⟩
    rw [hW3] at HS3 ⊢
    clear hW3
    have d2 := HS3.out.cell (k := 2) 2 rfl rfl
    have z2 := HS3.out.frz (k := 2) 2 rfl
    have m0 := HS3.out.cell (k := 0) 0 rfl rfl
    have m1 := HS3.out.cell (k := 1) 0 rfl rfl
    have m2 := HS3.out.cell (k := 2) 0 rfl rfl
    have m3 := HS3.out.cell (k := 3) 0 rfl rfl
    obtain ⟨i0, hi, hz0, hz1, hz2⟩ := info_parts Try.infoNote
    obtain ⟨l0, ho2, hnext⟩ := HS3.out.push0 5 rfl (W2 := (W3.alloc (.cells #[.bool bk, .int .i64 who, .int .i64 no, .string tx] 94)).drew) (x := ⟨bk, ⟨who, no, tx⟩⟩) (below_new (Below.refl _ _) _).drew (rNote_own_mk HMI.out)
    have HNX := Lib.hid hnext
    have HO2 := Lib.hid ho2
    clear hnext ho2
    go_region_law (first
      | (refine step_append_lies _ (by rfl) (.tmp 158) (.tmp 160) 28 (by rfl) 0 94 i0 _ 4 40 Try.underlying28 hi hz0 hz1 hz2 rfl (by omega) _ t.Line.length l0 (by rfl) HO2.out ⟨W3.heap.size, 0, none⟩ 1 1 [.bool bk, .int .i64 who, .int .i64 no, .string tx] (by rfl) (by rfl) (World.news_of_block (B := W3.heap.size) (cs := #[.bool bk, .int .i64 who, .int .i64 no, .string tx]) (t := 94) (fr := (0, 0)) (Mm.heap_new W3 rfl _)) (by simp [Value.oneCell']) (by omega) (by unfold maxLen; omega) (by omega) (Nat.zero_le _) _ rfl ?_; intro gg cap w4 hown1 hgrow hat hlt'; obtain ⟨fp', hs4⟩ := HNX.out gg cap w4 hown1 hgrow hat; (have HS4 := Lib.hid hs4); (have d4 := HS4.out.cell (k := 2) 2 rfl rfl); (have z4 := HS4.out.frz (k := 2) 2 rfl); clear hs4 hown1 hgrow hat))
    all_goals
      go_wp2
      exact bodyPost_ret (v := .bool true) (by simp [results, Try.results49, go_sem]) rfl ⟨by rw [HF.out], _, by rw [HF.out]; exact (shut_Tell (x := { t with Line := t.Line ++ [⟨bk, ⟨who, no, tx⟩⟩] }) (HS4.out.setBlk 2 rfl _).tail.tail).left⟩
end Go.Proofs.Ytaepohocabealaa

/-
  Contracts: the teller's step, all of it (chapter 10). No conditions.
-/
namespace Go.Proofs.Ytaepohocabealaa
open Go.RowKit
attribute [local go_sem] und_cell cha_cell World.cell?_alloc_some
theorem ba_empty {x : ByteArray} (h : x.size = 0) : x = ⟨#[]⟩ := by
  cases x with
  | mk d => congr; exact Array.eq_empty_of_size_eq_zero h
set_option maxRecDepth 100000 in
set_option maxHeartbeats 2000000 in
theorem stepNo_c (t : Tell) (kd kk : Int) (tx : ByteArray) (g : Nat) (fp : List Nat) (w : World) (h : (Mm.tptr rTell 31 g t fp).holds w) (hnd : (g :: fp).Nodup) (hk1 : kd ≠ 1) (hno : tx.size ≠ 0 ∨ kk < 0 ∨ kd < 2 ∨ 5 < kd) :
    Calls Try.prog 49 #[.pointer (some ⟨g, 0, none⟩), .agg #[.int .i64 kd, .int .i64 kk, .string tx]] w (StepAns t g fp w (Pl.tstep t ⟨kd, kk, tx⟩)) := by
  have HF : Hid (Pl.tstep t ⟨kd, kk, tx⟩ = (t, false)) := by
    show _ = _
    unfold Pl.tstep
    rw [if_neg hk1]
    by_cases h1 : tx.size ≠ 0 ∨ kk < 0
    · rw [if_pos h1]
    · rw [if_neg h1, if_neg (by show ¬ kd = 2; omega), if_neg (by show ¬ (3 ≤ kd ∧ kd ≤ 5 ∧ _); omega)]
  obtain ⟨A0, n0, c0, A1, n1, c1, A2, n2, c2, A3, n3, c3, A4, n4, c4, f0, f1, f2, f3, f4, rfl, hs⟩ := open_Tell (Mm.SepF.one _ w h hnd)
  have HSX := Lib.hid (hs.alloc' rfl 46 [.int .i64 kd, .int .i64 kk, .string tx])
  clear h hs hnd
  have b0 := HSX.out.cell (k := 0) 0 rfl rfl
  have b1 := HSX.out.cell (k := 1) 0 rfl rfl
  have b2 := HSX.out.cell (k := 2) 0 rfl rfl
  have q1 : (kd != 1) = true := by simpa using hk1
  have q1' : (kd == 1) = false := by simpa using hk1
  by_cases h1 : tx.size = 0
  · obtain rfl := ba_empty h1
    by_cases h2 : kk < 0
    · have HH := Lib.hid hno
      clear hno h1 hk1
      go_enter Try.func49, Try.ntmps49
      go_wp2
      exact bodyPost_ret (v := .bool false) (by simp [results, Try.results49, go_sem]) rfl ⟨by rw [HF.out], _, by rw [HF.out]; exact (shut_Tell HSX.out.tail).left⟩
    · have q2 : (kd == 2) = false := by simp; rcases hno with h | h | h | h <;> omega
      have q3 : (kd == 3) = false := by simp; rcases hno with h | h | h | h <;> omega
      have q4 : (kd == 4) = false := by simp; rcases hno with h | h | h | h <;> omega
      have q5 : (kd == 5) = false := by simp; rcases hno with h | h | h | h <;> omega
      have HH := Lib.hid hno
      clear hno h1 hk1
      go_enter Try.func49, Try.ntmps49
      go_wp2
      exact bodyPost_ret (v := .bool false) (by simp [results, Try.results49, go_sem]) rfl ⟨by rw [HF.out], _, by rw [HF.out]; exact (shut_Tell HSX.out.tail).left⟩
  · have q6 : tx.toList.isEmpty = false := by
      cases hh : tx.toList with
      | nil => exact absurd (by rw [Lib.toList_data] at hh; cases tx with | mk a => simp at hh; rw [hh]; rfl) h1
      | cons => rfl
    have HH := Lib.hid hno
    clear hno h1 hk1
    go_enter Try.func49, Try.ntmps49
    go_wp2
    exact bodyPost_ret (v := .bool false) (by simp [results, Try.results49, go_sem]) rfl ⟨by rw [HF.out], _, by rw [HF.out]; exact (shut_Tell HSX.out.tail).left⟩
theorem step_c (t : Tell) (s : TellStep) (g : Nat) (fp : List Nat) (w : World) (h : (Mm.tptr rTell 31 g t fp).holds w) (hnd : (g :: fp).Nodup) (hm : Mm.I64 s.K ∧ s.Text.size ≤ maxLen) (hw : Pl.TWf t) :
    Calls Try.prog 49 #[.pointer (some ⟨g, 0, none⟩), .agg #[.int .i64 s.Kind, .int .i64 s.K, .string s.Text]] w (StepAns t g fp w (Pl.tstep t s)) := by
  obtain ⟨kd, kk, tx⟩ := s
  by_cases h1 : kd = 1
  · subst h1
    have e : Pl.tstep t ⟨1, kk, tx⟩ = Pl.tput t kk tx := by unfold Pl.tstep; rw [if_pos rfl]
    rw [e]
    exact stepPut_c t kk tx g fp w h hnd hm hw
  by_cases hno : tx.size ≠ 0 ∨ kk < 0 ∨ kd < 2 ∨ 5 < kd
  · exact stepNo_c t kd kk tx g fp w h hnd h1 hno
  · obtain rfl := ba_empty (x := tx) (by omega)
    have h0 : 0 ≤ kk := by omega
    rcases (show kd = 2 ∨ kd = 3 ∨ kd = 4 ∨ kd = 5 by omega) with rfl | rfl | rfl | rfl
    · exact stepSend_c t kk g fp w h hnd hm.1 h0 hw
    · exact stepTake_c t kk g fp w h hnd hm.1 h0 hw
    · exact stepLose_c t kk g fp w h hnd hm.1 h0 hw
    · exact stepTwice_c t kk g fp w h hnd hm.1 h0 hw
end Go.Proofs.Ytaepohocabealaa

/-
  Contracts: the reference's teller, by value: write and take (chapter 10). No conditions.
-/
namespace Go.Proofs.Ytaepohocabealaa
open Go.RowKit
attribute [local go_sem] und_cell cha_cell World.cell?_alloc_some
theorem openv_Tell {F : List Nat} {w0 wr : World} {ts : List Mm.Thing} {x : Tell} {cs : List Value} {fp : List Nat} (h : Mm.SepF F w0 wr (Mm.tow rTell x cs fp :: ts)) :
    ∃ A0 c0 A1 c1 A2 c2 A3 c3 A4 c4 f0 f1 f2 f3 f4, cs = [.slice A0 x.Texts.length c0, .slice A1 x.Heard.length c1, .slice A2 x.Line.length c2, .slice A3 x.Log.length c3, .slice A4 x.Next.length c4] ∧ fp = f0 ++ (f1 ++ (f2 ++ (f3 ++ f4))) ∧ Mm.SepF F w0 wr (Mm.tsl strs 40 x.Texts (.slice A0 x.Texts.length c0) f0 :: Mm.tsl Mm.int 3 x.Heard (.slice A1 x.Heard.length c1) f1 :: Mm.tsl rNote 94 x.Line (.slice A2 x.Line.length c2) f2 :: Mm.tsl rTold 52 x.Log (.slice A3 x.Log.length c3) f3 :: Mm.tsl Mm.int 3 x.Next (.slice A4 x.Next.length c4) f4 :: ts) := by
  have ho := h.hold _ (List.mem_cons_self)
  obtain ⟨A0, n0, c0, A1, n1, c1, A2, n2, c2, A3, n3, c3, A4, n4, c4, f0, f1, f2, f3, f4, rfl, rfl, k0, k1, k2, k3, k4⟩ := rTell_own ho
  obtain ⟨_, _, _, e0, g0, _⟩ := k0.form
  obtain ⟨_, _, _, e1, g1, _⟩ := k1.form
  obtain ⟨_, _, _, e2, g2, _⟩ := k2.form
  obtain ⟨_, _, _, e3, g3, _⟩ := k3.form
  obtain ⟨_, _, _, e4, g4, _⟩ := k4.form
  injection e0 with _ e0 _
  injection e1 with _ e1 _
  injection e2 with _ e2 _
  injection e3 with _ e3 _
  injection e4 with _ e4 _
  obtain rfl := e0.trans g0
  obtain rfl := e1.trans g1
  obtain rfl := e2.trans g2
  obtain rfl := e3.trans g3
  obtain rfl := e4.trans g4
  exact ⟨_, _, _, _, _, _, _, _, _, _, _, _, _, _, _, rfl, rfl, h.conv (by simp [Mm.tow, Mm.tsl]) (List.forall_mem_cons.2 ⟨k0, List.forall_mem_cons.2 ⟨k1, List.forall_mem_cons.2 ⟨k2, List.forall_mem_cons.2 ⟨k3, List.forall_mem_cons.2 ⟨k4, fun u hu => h.hold u (List.mem_cons_of_mem _ hu)⟩⟩⟩⟩⟩)⟩
theorem shutv_Tell {F : List Nat} {w0 wr : World} {ts : List Mm.Thing} {x : Tell} {A0 A1 A2 A3 A4 : Option Addr} {n0 c0 n1 c1 n2 c2 n3 c3 n4 c4 : Nat} {f0 f1 f2 f3 f4 : List Nat} (h : Mm.SepF F w0 wr (Mm.tsl strs 40 x.Texts (.slice A0 n0 c0) f0 :: Mm.tsl Mm.int 3 x.Heard (.slice A1 n1 c1) f1 :: Mm.tsl rNote 94 x.Line (.slice A2 n2 c2) f2 :: Mm.tsl rTold 52 x.Log (.slice A3 n3 c3) f3 :: Mm.tsl Mm.int 3 x.Next (.slice A4 n4 c4) f4 :: ts)) :
    Mm.SepF F w0 wr (Mm.tow rTell x [.slice A0 n0 c0, .slice A1 n1 c1, .slice A2 n2 c2, .slice A3 n3 c3, .slice A4 n4 c4] (f0 ++ (f1 ++ (f2 ++ (f3 ++ f4)))) :: ts) :=
  h.conv (by simp [Mm.tow, Mm.tsl]) (List.forall_mem_cons.2 ⟨rTell_own_mk (h.sl 0 rfl) (h.sl 1 rfl) (h.sl 2 rfl) (h.sl 3 rfl) (h.sl 4 rfl), fun u hu => h.hold u (by
    iterate 5 apply List.mem_cons_of_mem
    exact hu)⟩)
theorem Mm.SepF.head {F : List Nat} {w0 wr : World} {ts : List Mm.Thing} {t : Mm.Thing} (h : Mm.SepF F w0 wr (t :: ts)) : Mm.SepF F w0 wr [t] := h.subE (.cons_cons _ (List.nil_sublist _))
def zTell : List Value := [.slice none 0 0, .slice none 0 0, .slice none 0 0, .slice none 0 0, .slice none 0 0]
def TellAns (t : Tell) (fp : List Nat) (w : World) (e : Ending) (w' : World) : Prop :=
  ∃ cs' fp', e = .returned (.agg cs'.toArray) ∧ Mm.Left fp w w' (Mm.tow rTell t cs' fp')
def TellAns2 (r : Tell × Bool) (fp : List Nat) (w : World) (e : Ending) (w' : World) : Prop :=
  ∃ cs' fp', e = .returned (.tuple #[.agg cs'.toArray, .bool r.2]) ∧ Mm.Left fp w w' (Mm.tow rTell r.1 cs' fp')
set_option maxRecDepth 100000 in
set_option maxHeartbeats 2000000 in
theorem l10Write_c (t : Tell) (m : Note) (cs : List Value) (fp : List Nat) (w : World) (h : (Mm.tow rTell t cs fp).holds w) (hnd : fp.Nodup) (hm : Mm.I64 m.What.Who ∧ Mm.I64 m.What.No ∧ m.What.Text.size ≤ maxLen) :
    Calls Try.prog 92 #[.agg cs.toArray, .agg #[.bool m.Back, .int .i64 m.What.Who, .int .i64 m.What.No, .string m.What.Text]] w (TellAns (Pl.tsend t m) fp w) := by
  obtain ⟨A0, c0, A1, c1, A2, c2, A3, c3, A4, c4, f0, f1, f2, f3, f4, rfl, rfl, hs⟩ := openv_Tell (Mm.SepF.one _ w h hnd)
  have HM := Lib.hid hm
  have H0 := Lib.hid hs
  clear h hs hm hnd
  go_enter Try.func92, Try.ntmps92
  go_upto_region 1 with fail
  obtain ⟨gt, hgt⟩ : ∃ gt, w.heap.size = gt := ⟨_, rfl⟩
  obtain ⟨gm, hgm⟩ : ∃ gm, gt + 1 = gm := ⟨_, rfl⟩
  obtain ⟨gr, hgr⟩ : ∃ gr, gm + 1 = gr := ⟨_, rfl⟩
  obtain ⟨W, hW⟩ : ∃ W, ((w.alloc (.cells #[.slice A0 t.Texts.length c0, .slice A1 t.Heard.length c1, .slice A2 t.Line.length c2, .slice A3 t.Log.length c3, .slice A4 t.Next.length c4] 31)).alloc (.cells #[.bool m.Back, .int .i64 m.What.Who, .int .i64 m.What.No, .string m.What.Text] 94)).alloc (.cells #[.slice none 0 0, .slice none 0 0, .slice none 0 0, .slice none 0 0, .slice none 0 0] 31) = W := ⟨_, rfl⟩
  have HS := Lib.hid ((((H0.out.alloc' hgt 31 [.slice A0 t.Texts.length c0, .slice A1 t.Heard.length c1, .slice A2 t.Line.length c2, .slice A3 t.Log.length c3, .slice A4 t.Next.length c4]).alloc' (g := gm) (by rw [Mm.sz1, hgt, hgm]) 94 [.bool m.Back, .int .i64 m.What.Who, .int .i64 m.What.No, .string m.What.Text]).alloc' (g := gr) (by rw [Mm.sz2, hgt]; omega) 31 zTell).atW hW)
  rw [hW, hgt, hgm, hgr]
  clear hW hgt hgm hgr
  have b0 := HS.out.cell (k := 0) 2 rfl rfl
  have b1 := HS.out.cell (k := 1) 2 rfl rfl
  have b2 := HS.out.cell (k := 2) 2 rfl rfl
  have b3 := HS.out.cell (k := 3) 2 rfl rfl
  have b4 := HS.out.cell (k := 4) 2 rfl rfl
  have y2 := HS.out.frz (k := 2) 2 rfl
  by_cases hlt : t.Line.length < 30
  · have HF : Hid (Pl.tsend t m = { t with Line := t.Line ++ [m] }) := if_pos hlt
    have f1' : ((t.Line.length : Nat) : Int) < 30 := by omega
    have m0 := HS.out.cell (k := 0) 1 rfl rfl
    have m1 := HS.out.cell (k := 1) 1 rfl rfl
    have m2 := HS.out.cell (k := 2) 1 rfl rfl
    have m3 := HS.out.cell (k := 3) 1 rfl rfl
    obtain ⟨i0, hi, hz0, hz1, hz2⟩ := info_parts Try.infoNote
    go_wp2_with (at_builtin; refine Mm.app_list HS.out 5 rfl rfl (.tmp 10) (.tmp 12) 28 rfl i0 _ 40 Try.underlying28 hi hz0 hz1 hz2 rfl (by decide) rfl rfl (fun W => rNote_own_mk HM.out) rfl (by unfold maxLen; omega) (by omega) ?_; intro g cap w' fp' hs; (have HS2 := Lib.hid hs); (have HS3 := Lib.hid (hs.setBlk (k := 2) 2 rfl (.slice (some ⟨g, 0, none⟩) (t.Line.length + 1) cap))); clear hs b0 b1 b2 b3 b4 y2; (have y2 := HS2.out.frz (k := 2) 2 rfl); (have y3 := HS2.out.cell (k := 2) 2 rfl rfl); (have b0 := HS3.out.cell (k := 0) 2 rfl rfl); (have b1 := HS3.out.cell (k := 1) 2 rfl rfl); (have b2 := HS3.out.cell (k := 2) 2 rfl rfl); (have b3 := HS3.out.cell (k := 3) 2 rfl rfl); (have b4 := HS3.out.cell (k := 4) 2 rfl rfl); (have z0 := HS3.out.frz (k := 0) 0 rfl); (have z1 := HS3.out.frz (k := 1) 0 rfl); (have z2 := HS3.out.frz (k := 2) 0 rfl); (have z3 := HS3.out.frz (k := 3) 0 rfl); (have z4 := HS3.out.frz (k := 4) 0 rfl); (have r0 := HS3.out.cell (k := 0) 0 rfl rfl); (have r1 := HS3.out.cell (k := 1) 0 rfl rfl); (have r2 := HS3.out.cell (k := 2) 0 rfl rfl); (have r3 := HS3.out.cell (k := 3) 0 rfl rfl); (have r4 := HS3.out.cell (k := 4) 0 rfl rfl))
    have HSR := HS3
    have HSF := Lib.hid (((((HSR.out.setBlk (k := 0) 0 rfl (.slice A0 t.Texts.length c0)).setBlk (k := 1) 0 rfl (.slice A1 t.Heard.length c1)).setBlk (k := 2) 0 rfl (.slice (some ⟨g, 0, none⟩) (t.Line.length + 1) cap)).setBlk (k := 3) 0 rfl (.slice A3 t.Log.length c3)).setBlk (k := 4) 0 rfl (.slice A4 t.Next.length c4))
    have q0 := HSF.out.cell (k := 0) 0 rfl rfl
    have q1 := HSF.out.cell (k := 1) 0 rfl rfl
    have q2 := HSF.out.cell (k := 2) 0 rfl rfl
    have q3 := HSF.out.cell (k := 3) 0 rfl rfl
    have q4 := HSF.out.cell (k := 4) 0 rfl rfl
    exact bodyPost_ret (v := .agg #[.slice A0 t.Texts.length c0, .slice A1 t.Heard.length c1, .slice (some ⟨g, 0, none⟩) (t.Line.length + 1) cap, .slice A3 t.Log.length c3, .slice A4 t.Next.length c4]) (by simp [results, Try.results92, go_sem, q0, q1, q2, q3, q4]) rfl ⟨[.slice A0 t.Texts.length c0, .slice A1 t.Heard.length c1, .slice (some ⟨g, 0, none⟩) (t.Line.length + 1) cap, .slice A3 t.Log.length c3, .slice A4 t.Next.length c4], _, rfl, by rw [HF.out]; exact (shutv_Tell (x := { t with Line := t.Line ++ [m] }) HSF.out.tail.tail.tail).left⟩
  · have HF : Hid (Pl.tsend t m = t) := if_neg hlt
    have f1' : ¬ ((t.Line.length : Nat) : Int) < 30 := by omega
    have HSR := HS
    have z0 := HSR.out.frz (k := 0) 0 rfl
    have z1 := HSR.out.frz (k := 1) 0 rfl
    have z2 := HSR.out.frz (k := 2) 0 rfl
    have z3 := HSR.out.frz (k := 3) 0 rfl
    have z4 := HSR.out.frz (k := 4) 0 rfl
    have r0 := HSR.out.cell (k := 0) 0 rfl rfl
    have r1 := HSR.out.cell (k := 1) 0 rfl rfl
    have r2 := HSR.out.cell (k := 2) 0 rfl rfl
    have r3 := HSR.out.cell (k := 3) 0 rfl rfl
    have r4 := HSR.out.cell (k := 4) 0 rfl rfl
    go_wp2
    have HSF := Lib.hid (((((HSR.out.setBlk (k := 0) 0 rfl (.slice A0 t.Texts.length c0)).setBlk (k := 1) 0 rfl (.slice A1 t.Heard.length c1)).setBlk (k := 2) 0 rfl (.slice A2 t.Line.length c2)).setBlk (k := 3) 0 rfl (.slice A3 t.Log.length c3)).setBlk (k := 4) 0 rfl (.slice A4 t.Next.length c4))
    have q0 := HSF.out.cell (k := 0) 0 rfl rfl
    have q1 := HSF.out.cell (k := 1) 0 rfl rfl
    have q2 := HSF.out.cell (k := 2) 0 rfl rfl
    have q3 := HSF.out.cell (k := 3) 0 rfl rfl
    have q4 := HSF.out.cell (k := 4) 0 rfl rfl
    exact bodyPost_ret (v := .agg #[.slice A0 t.Texts.length c0, .slice A1 t.Heard.length c1, .slice A2 t.Line.length c2, .slice A3 t.Log.length c3, .slice A4 t.Next.length c4]) (by simp [results, Try.results92, go_sem, q0, q1, q2, q3, q4]) rfl ⟨[.slice A0 t.Texts.length c0, .slice A1 t.Heard.length c1, .slice A2 t.Line.length c2, .slice A3 t.Log.length c3, .slice A4 t.Next.length c4], _, rfl, by rw [HF.out]; exact (shutv_Tell HSF.out.tail.tail.tail).left⟩
set_option maxRecDepth 100000 in
set_option maxHeartbeats 2000000 in
theorem l10TakeB_c (t : Tell) (m : Note) (cs : List Value) (fp : List Nat) (w : World) (h : (Mm.tow rTell t cs fp).holds w) (hnd : fp.Nodup) (hm : Mm.I64 m.What.Who ∧ Mm.I64 m.What.No ∧ m.What.Text.size ≤ maxLen) (hw : Pl.TWf t) (hk : Pl.MsgOk t m) (hbk : m.Back = true) :
    Calls Try.prog 93 #[.agg cs.toArray, .agg #[.bool m.Back, .int .i64 m.What.Who, .int .i64 m.What.No, .string m.What.Text]] w (TellAns (Pl.ttake t m) fp w) := by
  have HF : Hid (Pl.ttake t m = Pl.tback t m.What) := if_pos hbk
  obtain ⟨bk, ⟨who, no, tx⟩⟩ := m
  dsimp only at hm hk hbk HF ⊢
  subst hbk
  have hk0 := hk.1
  have hk1 := hk.2.1
  have hh := hw.heard
  dsimp only at hk0 hk1
  obtain ⟨k, rfl⟩ : ∃ k : Nat, who = k := ⟨who.toNat, by omega⟩
  obtain ⟨A0, c0, A1, c1, A2, c2, A3, c3, A4, c4, f0, f1, f2, f3, f4, rfl, rfl, hs⟩ := openv_Tell (Mm.SepF.one _ w h hnd)
  obtain ⟨g1, hA1, -, -⟩ := Mm.sl_addr (hs.sl 1 rfl) (by omega)
  have hkl : k < t.Heard.length := by omega
  have ha : t.Heard[k]? = some t.Heard[k] := List.getElem?_eq_getElem hkl
  generalize t.Heard[k] = a at ha
  have HI := Lib.hid (show Pl.iAt t.Heard (k : Int) = a from Pl.iAt_of (by simpa using ha))
  have HA := Lib.hid ha
  have HNO := Lib.hid hm.2.1
  have hcap : t.Heard.length ≤ c1 ∧ c1 ≤ maxLen := by obtain ⟨A', n', c', hv, h1, h2, h3, _⟩ := (hs.sl 1 rfl).form; injection hv with _ h4 h5; omega
  have f1' : ((k : Nat) : Int) < (t.Heard.length : Nat) := by omega
  have f2' : (0 : Int) ≤ (k : Nat) := by omega
  have f3' : ((k : Nat) : Int).toNat = k := by omega
  have HH := Lib.hid (And.intro hh hw)
  have HK := Lib.hid hk
  unfold maxLen at hcap
  have H0 := Lib.hid hs
  have HA1 := Lib.hid hA1
  clear h hs hm hnd hh hw hk ha hA1
  go_enter Try.func93, Try.ntmps93
  go_upto_region 1 with fail
  obtain ⟨gt, hgt⟩ : ∃ gt, w.heap.size = gt := ⟨_, rfl⟩
  obtain ⟨gm, hgm⟩ : ∃ gm, gt + 1 = gm := ⟨_, rfl⟩
  obtain ⟨gr, hgr⟩ : ∃ gr, gm + 1 = gr := ⟨_, rfl⟩
  obtain ⟨W, hW⟩ : ∃ W, ((w.alloc (.cells #[.slice A0 t.Texts.length c0, .slice A1 t.Heard.length c1, .slice A2 t.Line.length c2, .slice A3 t.Log.length c3, .slice A4 t.Next.length c4] 31)).alloc (.cells #[.bool true, .int .i64 k, .int .i64 no, .string tx] 94)).alloc (.cells #[.slice none 0 0, .slice none 0 0, .slice none 0 0, .slice none 0 0, .slice none 0 0] 31) = W := ⟨_, rfl⟩
  have HS := Lib.hid ((((H0.out.alloc' hgt 31 [.slice A0 t.Texts.length c0, .slice A1 t.Heard.length c1, .slice A2 t.Line.length c2, .slice A3 t.Log.length c3, .slice A4 t.Next.length c4]).alloc' (g := gm) (by rw [Mm.sz1, hgt, hgm]) 94 [.bool true, .int .i64 k, .int .i64 no, .string tx]).alloc' (g := gr) (by rw [Mm.sz2, hgt]; omega) 31 zTell).atW hW)
  rw [hW, hgt, hgm, hgr]
  clear hW hgt hgm hgr
  obtain rfl : A1 = some ⟨g1, 0, none⟩ := HA1.out
  have e1 := int_ocell (HS.out.sl 4 rfl) (HS.out.ndat (i := 4) rfl) HA.out
  have d1 := HS.out.cell (k := 1) 2 rfl rfl
  have m0 := HS.out.cell (k := 0) 1 rfl rfl
  have m1 := HS.out.cell (k := 1) 1 rfl rfl
  have m2 := HS.out.cell (k := 2) 1 rfl rfl
  by_cases hlt : a < no
  · have HB : Hid (Pl.tback t ⟨k, no, tx⟩ = { t with Heard := t.Heard.set k no }) := by
      show _ = _
      unfold Pl.tback
      dsimp only
      rw [HI.out, if_pos hlt]
      rfl
    have f4' : decide (a < no) = true := by simp [hlt]
    go_wp2
    refine wp_region_und (by kernel_rfl) (by kernel_rfl) ?_
    repeat (go_big_quiet_step ((first | fail)))
    refine wpQuiet_nil ?_
    intro X hX
    have HS2 := Lib.hid (HS.out.step hX)
    clear e1 d1 m0 m1 m2
    have e1 := int_ocell (HS2.out.sl 4 rfl) (HS2.out.ndat (i := 4) rfl) HA.out
    have p1 := (HS2.out.sl 4 rfl).frozen k
    have d1 := HS2.out.cell (k := 1) 2 rfl rfl
    have m2 := HS2.out.cell (k := 2) 1 rfl rfl
    have HS3 := Lib.hid (HS2.out.put1 (k := k) 4 rfl rfl HA.out (x' := no) (u := .int .i64 no) (fun cs fx hh => by obtain ⟨rfl, _, rfl⟩ := hh; exact ⟨rfl, HNO.out, rfl⟩))
    have HSR := HS3
    have b0 := HS3.out.cell (k := 0) 2 rfl rfl
    have b1 := HS3.out.cell (k := 1) 2 rfl rfl
    have b2 := HS3.out.cell (k := 2) 2 rfl rfl
    have b3 := HS3.out.cell (k := 3) 2 rfl rfl
    have b4 := HS3.out.cell (k := 4) 2 rfl rfl
    have z0 := HS3.out.frz (k := 0) 0 rfl
    have z1 := HS3.out.frz (k := 1) 0 rfl
    have z2 := HS3.out.frz (k := 2) 0 rfl
    have z3 := HS3.out.frz (k := 3) 0 rfl
    have z4 := HS3.out.frz (k := 4) 0 rfl
    have r0 := HS3.out.cell (k := 0) 0 rfl rfl
    have r1 := HS3.out.cell (k := 1) 0 rfl rfl
    have r2 := HS3.out.cell (k := 2) 0 rfl rfl
    have r3 := HS3.out.cell (k := 3) 0 rfl rfl
    have r4 := HS3.out.cell (k := 4) 0 rfl rfl
    go_wp2
    have HSF := Lib.hid (((((HSR.out.setBlk (k := 0) 0 rfl (.slice A0 t.Texts.length c0)).setBlk (k := 1) 0 rfl (.slice (some ⟨g1, 0, none⟩) t.Heard.length c1)).setBlk (k := 2) 0 rfl (.slice A2 t.Line.length c2)).setBlk (k := 3) 0 rfl (.slice A3 t.Log.length c3)).setBlk (k := 4) 0 rfl (.slice A4 t.Next.length c4))
    have q0 := HSF.out.cell (k := 0) 0 rfl rfl
    have q1 := HSF.out.cell (k := 1) 0 rfl rfl
    have q2 := HSF.out.cell (k := 2) 0 rfl rfl
    have q3 := HSF.out.cell (k := 3) 0 rfl rfl
    have q4 := HSF.out.cell (k := 4) 0 rfl rfl
    exact bodyPost_ret (v := .agg #[.slice A0 t.Texts.length c0, .slice (some ⟨g1, 0, none⟩) t.Heard.length c1, .slice A2 t.Line.length c2, .slice A3 t.Log.length c3, .slice A4 t.Next.length c4]) (by simp [results, Try.results93, go_sem, q0, q1, q2, q3, q4]) rfl ⟨[.slice A0 t.Texts.length c0, .slice (some ⟨g1, 0, none⟩) t.Heard.length c1, .slice A2 t.Line.length c2, .slice A3 t.Log.length c3, .slice A4 t.Next.length c4], _, rfl, by rw [HF.out, HB.out]; exact (shutv_Tell (x := { t with Heard := t.Heard.set k no }) HSF.out.tail.tail.tail).left⟩
  · have HB : Hid (Pl.tback t ⟨k, no, tx⟩ = t) := by
      show _ = _
      unfold Pl.tback
      dsimp only
      rw [HI.out, if_neg hlt]
      have : t.Heard.set k a = t.Heard := by
        apply List.ext_getElem?
        intro j
        by_cases hj : k = j
        · subst hj; rw [List.getElem?_set_self hkl, HA.out]
        · rw [List.getElem?_set_ne hj]
      rw [show ((k : Nat) : Int).toNat = k by omega, this]
    have f4' : decide (a < no) = false := by simp; omega
    go_wp2
    refine wp_region_und (by kernel_rfl) (by kernel_rfl) ?_
    repeat (go_big_quiet_step ((first | fail)))
    refine wpQuiet_nil ?_
    intro X hX
    have HS2 := Lib.hid (HS.out.step hX)
    clear e1 d1 m0 m1 m2
    have HSR := HS2
    have b0 := HS2.out.cell (k := 0) 2 rfl rfl
    have b1 := HS2.out.cell (k := 1) 2 rfl rfl
    have b2 := HS2.out.cell (k := 2) 2 rfl rfl
    have b3 := HS2.out.cell (k := 3) 2 rfl rfl
    have b4 := HS2.out.cell (k := 4) 2 rfl rfl
    have z0 := HS2.out.frz (k := 0) 0 rfl
    have z1 := HS2.out.frz (k := 1) 0 rfl
    have z2 := HS2.out.frz (k := 2) 0 rfl
    have z3 := HS2.out.frz (k := 3) 0 rfl
    have z4 := HS2.out.frz (k := 4) 0 rfl
    have r0 := HS2.out.cell (k := 0) 0 rfl rfl
    have r1 := HS2.out.cell (k := 1) 0 rfl rfl
    have r2 := HS2.out.cell (k := 2) 0 rfl rfl
    have r3 := HS2.out.cell (k := 3) 0 rfl rfl
    have r4 := HS2.out.cell (k := 4) 0 rfl rfl
    go_wp2
    have HSF := Lib.hid (((((HSR.out.setBlk (k := 0) 0 rfl (.slice A0 t.Texts.length c0)).setBlk (k := 1) 0 rfl (.slice (some ⟨g1, 0, none⟩) t.Heard.length c1)).setBlk (k := 2) 0 rfl (.slice A2 t.Line.length c2)).setBlk (k := 3) 0 rfl (.slice A3 t.Log.length c3)).setBlk (k := 4) 0 rfl (.slice A4 t.Next.length c4))
    have q0 := HSF.out.cell (k := 0) 0 rfl rfl
    have q1 := HSF.out.cell (k := 1) 0 rfl rfl
    have q2 := HSF.out.cell (k := 2) 0 rfl rfl
    have q3 := HSF.out.cell (k := 3) 0 rfl rfl
    have q4 := HSF.out.cell (k := 4) 0 rfl rfl
    exact bodyPost_ret (v := .agg #[.slice A0 t.Texts.length c0, .slice (some ⟨g1, 0, none⟩) t.Heard.length c1, .slice A2 t.Line.length c2, .slice A3 t.Log.length c3, .slice A4 t.Next.length c4]) (by simp [results, Try.results93, go_sem, q0, q1, q2, q3, q4]) rfl ⟨[.slice A0 t.Texts.length c0, .slice (some ⟨g1, 0, none⟩) t.Heard.length c1, .slice A2 t.Line.length c2, .slice A3 t.Log.length c3, .slice A4 t.Next.length c4], _, rfl, by rw [HF.out, HB.out]; exact (shutv_Tell (x := t) HSF.out.tail.tail.tail).left⟩
set_option maxRecDepth 100000 in
set_option maxHeartbeats 2000000 in
theorem l10TakeL_c (t : Tell) (m : Note) (cs : List Value) (fp : List Nat) (w : World) (h : (Mm.tow rTell t cs fp).holds w) (hnd : fp.Nodup) (hm : Mm.I64 m.What.Who ∧ Mm.I64 m.What.No ∧ m.What.Text.size ≤ maxLen) (hw : Pl.TWf t) (hk : Pl.MsgOk t m) (hbk : m.Back = false) :
    Calls Try.prog 93 #[.agg cs.toArray, .agg #[.bool m.Back, .int .i64 m.What.Who, .int .i64 m.What.No, .string m.What.Text]] w (TellAns (Pl.ttake t m) fp w) := by
  have HW1 := Lib.hid (hw.tlog hk hbk)
  have hl80 := hw.log_len
  have HF : Hid (Pl.ttake t m = Pl.tsend (Pl.tlog t m.What) ⟨true, ⟨m.What.Who, Pl.iAt (Pl.tlog t m.What).Next m.What.Who, ByteArray.empty⟩⟩) := if_neg (by rw [hbk]; simp)
  obtain ⟨bk, ⟨who, no, tx⟩⟩ := m
  dsimp only at hm hk hbk HF HW1 ⊢
  subst hbk
  have hk0 := hk.1
  have hk1 := hk.2.1
  have hh := hw.next
  dsimp only at hk0 hk1
  obtain ⟨k, rfl⟩ : ∃ k : Nat, who = k := ⟨who.toNat, by omega⟩
  obtain ⟨A0, c0, A1, c1, A2, c2, A3, c3, A4, c4, f0, f1, f2, f3, f4, rfl, rfl, hs⟩ := openv_Tell (Mm.SepF.one _ w h hnd)
  obtain ⟨g4, hA4, -, -⟩ := Mm.sl_addr (hs.sl 4 rfl) (by omega)
  have hkl : k < t.Next.length := by omega
  have ha : t.Next[k]? = some t.Next[k] := List.getElem?_eq_getElem hkl
  generalize t.Next[k] = a at ha
  have HI := Lib.hid (show Pl.iAt t.Next (k : Int) = a from Pl.iAt_of (by simpa using ha))
  have HA := Lib.hid ha
  have HNO := Lib.hid hm
  have hcap : t.Next.length ≤ c4 ∧ c4 ≤ maxLen := by obtain ⟨A', n', c', hv, h1, h2, h3, _⟩ := (hs.sl 4 rfl).form; injection hv with _ h4 h5; omega
  have hab : 0 ≤ a ∧ a ≤ 20 := by
    have hkt : k < t.Texts.length := by omega
    have h1 := hw.nx k a _ ha (List.getElem?_eq_getElem hkt)
    have h2 := hw.texts k _ (List.getElem?_eq_getElem hkt)
    omega
  have f1' : ((k : Nat) : Int) < (t.Next.length : Nat) := by omega
  have f2' : (0 : Int) ≤ (k : Nat) := by omega
  have f3' : ((k : Nat) : Int).toNat = k := by omega
  have HH := Lib.hid (And.intro hh hw)
  have HK := Lib.hid hk
  unfold maxLen at hcap
  have H0 := Lib.hid hs
  have HA4 := Lib.hid hA4
  clear h hs hm hnd hh hw hk ha hA4
  go_enter Try.func93, Try.ntmps93
  go_upto_region 1 with fail
  obtain ⟨gt, hgt⟩ : ∃ gt, w.heap.size = gt := ⟨_, rfl⟩
  obtain ⟨gm, hgm⟩ : ∃ gm, gt + 1 = gm := ⟨_, rfl⟩
  obtain ⟨gr, hgr⟩ : ∃ gr, gm + 1 = gr := ⟨_, rfl⟩
  obtain ⟨W, hW⟩ : ∃ W, ((w.alloc (.cells #[.slice A0 t.Texts.length c0, .slice A1 t.Heard.length c1, .slice A2 t.Line.length c2, .slice A3 t.Log.length c3, .slice A4 t.Next.length c4] 31)).alloc (.cells #[.bool false, .int .i64 k, .int .i64 no, .string tx] 94)).alloc (.cells #[.slice none 0 0, .slice none 0 0, .slice none 0 0, .slice none 0 0, .slice none 0 0] 31) = W := ⟨_, rfl⟩
  have HS := Lib.hid ((((H0.out.alloc' hgt 31 [.slice A0 t.Texts.length c0, .slice A1 t.Heard.length c1, .slice A2 t.Line.length c2, .slice A3 t.Log.length c3, .slice A4 t.Next.length c4]).alloc' (g := gm) (by rw [Mm.sz1, hgt, hgm]) 94 [.bool false, .int .i64 k, .int .i64 no, .string tx]).alloc' (g := gr) (by rw [Mm.sz2, hgt]; omega) 31 zTell).atW hW)
  rw [hW, hgt, hgm, hgr]
  clear hW hgt hgm hgr
  obtain rfl : A4 = some ⟨g4, 0, none⟩ := HA4.out
  have e1 := int_ocell (HS.out.sl 7 rfl) (HS.out.ndat (i := 7) rfl) HA.out
  have d4 := HS.out.cell (k := 4) 2 rfl rfl
  have m0 := HS.out.cell (k := 0) 1 rfl rfl
  have m1 := HS.out.cell (k := 1) 1 rfl rfl
  have m2 := HS.out.cell (k := 2) 1 rfl rfl
  go_wp2
  refine wp_region_und (by kernel_rfl) (by kernel_rfl) ?_
  repeat (go_big_quiet_step ((first | (go_at_call 63; exact und_same _ (l10Judge_c a no _)))))
  refine wpQuiet_nil ?_
  intro X hX
  have HS1 := Lib.hid (HS.out.step hX)
  clear e1 d4 m0 m1 m2
  go_upto_if 37 with fail
  have hys := Pl.tlog_same t ⟨k, no, tx⟩
  obtain ⟨y, hy⟩ : ∃ y, Pl.tlog t ⟨k, no, tx⟩ = y := ⟨_, rfl⟩
  rw [hy] at HW1 HF hys
  have HY := Lib.hid hy
  have HYS := Lib.hid hys
  clear hy hys
  go_cut [] (fun wx => ∃ (A3 : Option Addr) (n3 c3 : Nat) (f3' : List Nat), Mm.SepF (Mm.tow rTell t [.slice A0 t.Texts.length c0, .slice A1 t.Heard.length c1, .slice A2 t.Line.length c2, .slice A3 t.Log.length c3, .slice (some ⟨g4, 0, none⟩) t.Next.length c4] (f0 ++ (f1 ++ (f2 ++ (f3 ++ f4))))).fp w wx [Mm.tblk gr 31 zTell, Mm.tblk gm 94 [.bool false, .int .i64 k, .int .i64 no, .string tx], Mm.tblk gt 31 [.slice A0 t.Texts.length c0, .slice A1 t.Heard.length c1, .slice A2 t.Line.length c2, .slice A3 n3 c3, .slice (some ⟨g4, 0, none⟩) t.Next.length c4], Mm.tsl strs 40 t.Texts (.slice A0 t.Texts.length c0) f0, Mm.tsl Mm.int 3 t.Heard (.slice A1 t.Heard.length c1) f1, Mm.tsl rNote 94 t.Line (.slice A2 t.Line.length c2) f2, Mm.tsl rTold 52 y.Log (.slice A3 n3 c3) f3', Mm.tsl Mm.int 3 y.Next (.slice (some ⟨g4, 0, none⟩) t.Next.length c4) f4])
  case first =>
    by_cases hna : no = a
    · subst hna
      have HT : Hid (y = { t with Log := t.Log ++ [⟨k, no, tx⟩], Next := t.Next.set k (no + 1) }) := by
        show _ = _
        rw [← HY.out]
        unfold Pl.tlog
        rw [if_pos (show (⟨k, no, tx⟩ : Told).No = _ from HI.out.symm)]
        dsimp only
        rw [HI.out]
        rfl
      have hjd : (Pl.judge no no == 1) = true := by unfold Pl.judge; rw [if_pos rfl]; rfl
      have m1 := HS1.out.cell (k := 1) 1 rfl rfl
      have m2 := HS1.out.cell (k := 2) 1 rfl rfl
      have m3 := HS1.out.cell (k := 3) 1 rfl rfl
      have d3 := HS1.out.cell (k := 3) 2 rfl rfl
      obtain ⟨i0, hi, hz0, hz1, hz2⟩ := info_parts Try.infoTold
      go_wp2_with (at_builtin; refine Mm.app_list (x := (⟨k, no, tx⟩ : Told)) HS1.out 6 rfl rfl (.tmp 39) (.tmp 42) 29 rfl i0 _ 32 Try.underlying29 hi hz0 hz1 hz2 rfl (by decide) rfl rfl (fun W => rTold_own_mk (x := ⟨k, no, tx⟩) HNO.out) rfl (by unfold maxLen; omega) (by omega) ?_; intro g cap w' fp' hs; (have HS2 := Lib.hid hs); (have HS3 := Lib.hid (hs.setBlk (k := 3) 2 rfl (.slice (some ⟨g, 0, none⟩) (t.Log.length + 1) cap))); (have HS4 := Lib.hid (HS3.out.put1 (k := k) 7 rfl rfl HA.out (x' := no + 1) (u := .int .i64 (no + 1)) (fun cs fx hh => by obtain ⟨rfl, _, rfl⟩ := hh; exact ⟨rfl, by unfold Mm.I64; omega, rfl⟩))); clear hs; (have y2 := HS2.out.frz (k := 3) 2 rfl); (have y3 := HS2.out.cell (k := 3) 2 rfl rfl); (have v4 := HS3.out.cell (k := 4) 2 rfl rfl); (have e1 := int_ocell (HS3.out.sl 7 rfl) (HS3.out.ndat (i := 7) rfl) HA.out); (have z1 := (HS3.out.sl 7 rfl).frozen k))
      go_meet
      exact ⟨some ⟨g, 0, none⟩, _, cap, fp', by rw [HT.out]; exact HS4.out⟩
    · have hjd : (Pl.judge a no == 1) = false := Pl.judge_no hna
      have HT : Hid (y = t) := by
        show _ = _
        rw [← HY.out]
        unfold Pl.tlog
        exact if_neg (fun hh => hna (hh.trans HI.out))
      go_wp2
      go_meet
      exact ⟨A3, _, c3, f3, by rw [HT.out]; exact HS1.out⟩
  case rest =>
    obtain ⟨A3, n3, c3, f3', hc⟩ := hcut
    have HC := Lib.hid hc
    have hyn : k < y.Next.length := by have := HYS.out.2.2.2; omega
    have hb : y.Next[k]? = some y.Next[k] := List.getElem?_eq_getElem hyn
    generalize y.Next[k] = b at hb
    have HB := Lib.hid hb
    have HIB : Hid (Pl.iAt y.Next (k : Int) = b) := Pl.iAt_of (by simpa using hb)
    have HBI := Lib.hid (Mm.int_i64 (hc.sl 7 rfl) hb)
    have b0 := HC.out.cell (k := 0) 2 rfl rfl
    have b1 := HC.out.cell (k := 1) 2 rfl rfl
    have b2 := HC.out.cell (k := 2) 2 rfl rfl
    have b3 := HC.out.cell (k := 3) 2 rfl rfl
    have b4 := HC.out.cell (k := 4) 2 rfl rfl
    have q7 := int_ocell (HC.out.sl 7 rfl) (HC.out.ndat (i := 7) rfl) hb
    clear hc hb
    go_wp2
    refine wp_region_und_tail 9 (by kernel_rfl) (by kernel_rfl) ?_
    simp only [List.take_succ_cons, List.take_zero, List.drop_succ_cons, List.drop_zero]
    repeat (go_big_quiet_step ((first | fail)))
    refine wpQuiet_nil ?_
    intro X hX
    have HC2 := HC.out.step hX
    have HC3 := Lib.hid (shutv_Tell (x := y) (Mm.sep_eq (us := [Mm.tsl strs 40 y.Texts (.slice A0 t.Texts.length c0) f0, Mm.tsl Mm.int 3 y.Heard (.slice A1 t.Heard.length c1) f1, Mm.tsl rNote 94 y.Line (.slice A2 t.Line.length c2) f2, Mm.tsl rTold 52 y.Log (.slice A3 n3 c3) f3', Mm.tsl Mm.int 3 y.Next (.slice (some ⟨g4, 0, none⟩) t.Next.length c4) f4, Mm.tblk gr 31 zTell, Mm.tblk gm 94 [.bool false, .int .i64 k, .int .i64 no, .string tx], Mm.tblk gt 31 [.slice A0 t.Texts.length c0, .slice A1 t.Heard.length c1, .slice A2 t.Line.length c2, .slice A3 n3 c3, .slice (some ⟨g4, 0, none⟩) t.Next.length c4]]) HC2.rot3 (by rw [HYS.out.1, HYS.out.2.1, HYS.out.2.2.1]; rfl)))
    have CW := l10Write_c y ⟨true, ⟨k, b, ⟨#[]⟩⟩⟩ _ _ X (HC3.out.at_ 0 rfl) (HC3.out.ndat (i := 0) rfl) ⟨HNO.out.1, HBI.out, Nat.zero_le _⟩
    clear b0 b1 b2 b3 b4 q7 HC2
    go_wp2_with (go_at_call 92; refine CW.mono ?_; rintro e w9 ⟨cs9, fp9, rfl, hL⟩; obtain ⟨A10, c10, A11, c11, A12, c12, A13, c13, A14, c14, f10, f11, f12, f13, f14, rfl, rfl, hs9⟩ := openv_Tell (HC3.out.call 0 rfl hL); (have HSR := Lib.hid hs9); clear hL hs9 CW; (have z0 := HSR.out.frz (k := 0) 5 rfl); (have z1 := HSR.out.frz (k := 1) 5 rfl); (have z2 := HSR.out.frz (k := 2) 5 rfl); (have z3 := HSR.out.frz (k := 3) 5 rfl); (have z4 := HSR.out.frz (k := 4) 5 rfl); (have r0 := HSR.out.cell (k := 0) 5 rfl rfl); (have r1 := HSR.out.cell (k := 1) 5 rfl rfl); (have r2 := HSR.out.cell (k := 2) 5 rfl rfl); (have r3 := HSR.out.cell (k := 3) 5 rfl rfl); (have r4 := HSR.out.cell (k := 4) 5 rfl rfl))
    obtain ⟨z, hz⟩ : ∃ z, Pl.tsend y ⟨true, ⟨k, b, ⟨#[]⟩⟩⟩ = z := ⟨_, rfl⟩
    rw [hz] at HSR ⊢
    have HSF := Lib.hid (((((HSR.out.setBlk (k := 0) 5 rfl (.slice A10 z.Texts.length c10)).setBlk (k := 1) 5 rfl (.slice A11 z.Heard.length c11)).setBlk (k := 2) 5 rfl (.slice A12 z.Line.length c12)).setBlk (k := 3) 5 rfl (.slice A13 z.Log.length c13)).setBlk (k := 4) 5 rfl (.slice A14 z.Next.length c14))
    have q0 := HSF.out.cell (k := 0) 5 rfl rfl
    have q1 := HSF.out.cell (k := 1) 5 rfl rfl
    have q2 := HSF.out.cell (k := 2) 5 rfl rfl
    have q3 := HSF.out.cell (k := 3) 5 rfl rfl
    have q4 := HSF.out.cell (k := 4) 5 rfl rfl
    exact bodyPost_ret (v := .agg #[.slice A10 z.Texts.length c10, .slice A11 z.Heard.length c11, .slice A12 z.Line.length c12, .slice A13 z.Log.length c13, .slice A14 z.Next.length c14]) (by simp [results, Try.results93, go_sem, q0, q1, q2, q3, q4]) rfl ⟨[.slice A10 z.Texts.length c10, .slice A11 z.Heard.length c11, .slice A12 z.Line.length c12, .slice A13 z.Log.length c13, .slice A14 z.Next.length c14], _, rfl, by
      rw [HF.out, HIB.out, show ByteArray.empty = ⟨#[]⟩ from rfl, hz]
      exact (shutv_Tell (x := z) HSF.out).head.left⟩
theorem l10Take_c (t : Tell) (m : Note) (cs : List Value) (fp : List Nat) (w : World) (h : (Mm.tow rTell t cs fp).holds w) (hnd : fp.Nodup) (hm : Mm.I64 m.What.Who ∧ Mm.I64 m.What.No ∧ m.What.Text.size ≤ maxLen) (hw : Pl.TWf t) (hk : Pl.MsgOk t m) :
    Calls Try.prog 93 #[.agg cs.toArray, .agg #[.bool m.Back, .int .i64 m.What.Who, .int .i64 m.What.No, .string m.What.Text]] w (TellAns (Pl.ttake t m) fp w) := by
  cases hb : m.Back with
  | true => exact hb ▸ l10TakeB_c t m cs fp w h hnd hm hw hk hb
  | false => exact hb ▸ l10TakeL_c t m cs fp w h hnd hm hw hk hb
end Go.Proofs.Ytaepohocabealaa

/-
  'append([]T{}, l...)' inside a larger statement: the copy becomes one of the things that the call owns. No program in sight. No conditions.
-/
namespace Go.Proofs.Ytaepohocabealaa
open Go.RowKit
namespace Mm
/-- elements that lead nowhere: what they are written as -/
structure Flat {α : Type} (E : Rep α) (enc : α → List Value) : Prop where
  at_ : ∀ {w B x cs}, E.at_ w B x cs → cs = enc x
  own : ∀ {w B x cs}, E.at_ w B x cs → ∀ w', E.own w' x (enc x) []
theorem flat_int : Flat int (fun x => [.int .i64 x]) := ⟨fun h => h.1, fun h w' => ⟨rfl, h.2, rfl⟩⟩
theorem flat_str : Flat str (fun x => [.string x]) := ⟨fun h => h.1, fun h w' => ⟨rfl, h.2, rfl⟩⟩
theorem flat_bool : Flat bool (fun x => [.bool x]) := ⟨fun h => h.1, fun h w' => ⟨rfl, h.2, rfl⟩⟩
section
variable {P : Program} {α : Type} {E : Rep α} {enc : α → List Value} {w0 wr W : World} {ts : List Thing} {xs : List α} {A : Option Addr} {n c g B : Nat} {e : TypeId}
theorem run_clone (hF : Flat E enc) (t ty : TypeId) (i : TypeInfo) (z : Value) (bytes : Nat) (ht : P.underlying t = some (.slice e)) (hi : P.info? e = some i) (hz : i.zero = some z) (hsize : i.size = E.size) (hby : i.bytes = bytes) (hzs : z.cells.size = E.size) (hsz : 0 < E.size)
    (h : Sep w0 wr ts) (hb : Below wr.heap.size wr W) (hg : W.heap[g]? = some (.cells #[] e (0, 0))) (hgn : wr.heap.size ≤ g) (hl : SlAt E W B xs A n c) (hn : n ≤ maxLen) (hbytes : n * bytes ≤ 140737488355328) :
    ∃ A2 c2 fp w1, (Builtin.append_ #[t, t] ty #[.slice (some ⟨g, 0, none⟩) 0 0, .slice A n c]).run P W = .ok (.slice A2 n c2) w1 ∧ Sep w0 w1 (tsl E e xs (.slice A2 n c2) fp :: ts) ∧ Below wr.heap.size wr w1 := by
  have hown : W.ownsRow g e E.size (.slice (some ⟨g, 0, none⟩) 0 0) 0 [] := ⟨by simp, .inr ⟨g, 0, #[], rfl, Nat.le_refl _, hg, Nat.le_refl _, Nat.zero_le _, by simp, by simp⟩⟩
  have hlt : g < W.heap.size := by
    rcases Nat.lt_or_ge g W.heap.size with h1 | h1
    · exact h1
    · rw [Array.getElem?_eq_none h1] at hg; cases hg
  have hE : ∀ w1 x, x ∈ xs → E.own w1 x (enc x) [] := fun w1 x hx => by
    obtain ⟨k, hk, rfl⟩ := List.mem_iff_getElem.1 hx
    obtain ⟨y, b, off, cs, hy, _, _, ha, _⟩ := hl.get (k := k) (by rw [← hl.1]; exact hk)
    rw [List.getElem?_eq_getElem hk] at hy
    injection hy with hy
    subst hy
    exact hF.own ha w1
  have main : ∀ v w1, w1.ownsRow g e E.size v n (xs.flatMap enc) → W.grownBy w1 (some g) → ∃ A2 c2 fp, v = .slice A2 n c2 ∧ Sep w0 w1 (tsl E e xs (.slice A2 n c2) fp :: ts) ∧ Below wr.heap.size wr w1 := fun v w1 k1 k2 => by
    have h0 : w1.ownsRow 0 e E.size v n (xs.flatMap enc) := ⟨k1.1, k1.2.imp id fun ⟨g', cap, cur, h1, _, h3⟩ => ⟨g', cap, cur, h1, Nat.zero_le _, h3⟩⟩
    have hs := SlOwn.of_row h0 (fun x hx => hE w1 x hx) hl.1
    obtain ⟨A2, n2, c2, hv, hn2, _⟩ := hs.form
    have hbl : Below wr.heap.size wr w1 := hb.grown k2 (by have := hb.size; omega) (fun k hk => by injection hk with hk; omega)
    subst hv
    have hn3 : n2 = n := hn2.trans hl.1
    subst hn3
    exact ⟨A2, c2, _, rfl, h.add hbl (t := tsl E e xs (.slice A2 n2 c2) _) hs (by simp only [tsl]; cases (Value.slice A2 n2 c2).ownBlock <;> simp) (fun b hb => by
      simp only [tsl, Option.mem_toList] at hb
      have := (k1.lt b hb).1; omega), hbl⟩
  cases A with
  | none =>
    have hc0 : c = 0 := hl.2.2.2.1 rfl
    have hn0 : n = 0 := by have := hl.2.1; omega
    subst hc0; subst hn0
    have hx0 : xs = [] := List.length_eq_zero_iff.1 hl.1
    have hr := run_append_owned_none (P := P) W g t ty e i E.size ht hi _ _ _ hown
    obtain ⟨A2, c2, fp, hv, hS, hB⟩ := main _ W (by rw [hx0]; exact hown) ⟨rfl, rfl, rfl, Nat.le_refl _, fun _ _ _ => rfl⟩
    exact ⟨A2, c2, fp, W, by rw [hr, hv], hS, hB⟩
  | some a =>
    obtain ⟨v', w1, hr, h2, h3, _, h5⟩ := run_append_own_at (P := P) W g t ty e i z E.size bytes ht hi hz hsize hby hzs hsz _ 0 [] hown a n c (xs.flatMap enc) (flat_len (fun x cs h => hF.at_ h) hl) (flat_cells' (fun x cs h => hF.at_ h) hl) (fun u hu => by
      obtain ⟨x, hx, hu⟩ := List.mem_flatMap.1 hu
      exact E.one (hE W x hx) u hu) (by omega) (by rw [Nat.zero_add]; exact hbytes) (by omega)
    rw [Nat.zero_add, List.nil_append] at h2
    obtain ⟨A2, c2, fp, hv, hS, hB⟩ := main v' w1 h2 h3
    exact ⟨A2, c2, fp, w1, by rw [hr, hv], hS, hB⟩

theorem wp_clone {o : Oper} {a : Act} {K : Act → World → Prop} {Q : Exit → Act → World → Prop} (s x : Operand) (t : TypeId)
    (ho : o.op = .call { callee := .builtin .append, args := #[s, x], argTypes := #[t, t] })
    (hF : Flat E enc) (i : TypeInfo) (z : Value) (bytes : Nat) (ht : P.underlying t = some (.slice e)) (hi : P.info? e = some i) (hz : i.zero = some z) (hsize : i.size = E.size) (hby : i.bytes = bytes) (hzs : z.cells.size = E.size) (hsz : 0 < E.size)
    (h : Sep w0 wr ts) (hb : Below wr.heap.size wr W) (hg : W.heap[g]? = some (.cells #[] e (0, 0))) (hgn : wr.heap.size ≤ g) (hl : SlAt E W B xs A n c) (hn : n ≤ maxLen) (hbytes : n * bytes ≤ 140737488355328)
    (hs : a.eval s = .slice (some ⟨g, 0, none⟩) 0 0) (hx : a.eval x = .slice A n c)
    (hk : ∀ A2 c2 fp w1, Sep w0 w1 (tsl E e xs (.slice A2 n c2) fp :: ts) → Below wr.heap.size wr w1 → K (a.put o.dst (.slice A2 n c2)) w1) : o.wp P a W K Q := by
  obtain ⟨A2, c2, fp, w1, hr, h2, h3⟩ := run_clone (P := P) hF t o.type i z bytes ht hi hz hsize hby hzs hsz h hb hg hgn hl hn hbytes
  unfold Oper.wp execOp
  simp only [ho, resolve, invoke, builtin, Sem.run_bind, Sem.run_pure, Result.andThen_ok, List.map_toArray, List.map_cons, List.map_nil, hs, hx, hr]
  exact hk A2 c2 fp w1 h2 h3
theorem step_clone {ops : Array Oper} {o : Oper} {a : Act} {K : Act → World → Prop} {Q : Exit → Act → World → Prop} {X : Prop} (hgd : o.guard = none) (s x : Operand) (t : TypeId)
    (ho : o.op = .call { callee := .builtin .append, args := #[s, x], argTypes := #[t, t] })
    (hF : Flat E enc) (i : TypeInfo) (z : Value) (bytes : Nat) (ht : P.underlying t = some (.slice e)) (hi : P.info? e = some i) (hz : i.zero = some z) (hsize : i.size = E.size) (hby : i.bytes = bytes) (hzs : z.cells.size = E.size) (hsz : 0 < E.size)
    (h : Sep w0 wr ts) (hb : Below wr.heap.size wr W) (hg : W.heap[g]? = some (.cells #[] e (0, 0))) (hgn : wr.heap.size ≤ g) (hl : SlAt E W B xs A n c) (hn : n ≤ maxLen) (hbytes : n * bytes ≤ 140737488355328)
    (hs : a.eval s = .slice (some ⟨g, 0, none⟩) 0 0) (hx : a.eval x = .slice A n c)
    (hk : ∀ A2 c2 fp w1, Sep w0 w1 (tsl E e xs (.slice A2 n c2) fp :: ts) → Below wr.heap.size wr w1 → K (a.put o.dst (.slice A2 n c2)) w1) :
    if Region.wanted o (yielded ops a.tmps) = true then Oper.wp P o a W K Q else X := by
  have hw : Region.wanted o (yielded ops a.tmps) = true := by simp [Region.wanted, hgd]
  rw [if_pos hw]
  exact wp_clone s x t ho hF i z bytes ht hi hz hsize hby hzs hsz h hb hg hgn hl hn hbytes hs hx hk
theorem wpList_clone {ops : Array Oper} {rest : List Oper} {o : Oper} {a : Act} {Q : Exit → Act → World → Prop} (hgd : o.guard = none) (s x : Operand) (t : TypeId)
    (ho : o.op = .call { callee := .builtin .append, args := #[s, x], argTypes := #[t, t] })
    (hF : Flat E enc) (i : TypeInfo) (z : Value) (bytes : Nat) (ht : P.underlying t = some (.slice e)) (hi : P.info? e = some i) (hz : i.zero = some z) (hsize : i.size = E.size) (hby : i.bytes = bytes) (hzs : z.cells.size = E.size) (hsz : 0 < E.size)
    (h : Sep w0 wr ts) (hb : Below wr.heap.size wr W) (hg : W.heap[g]? = some (.cells #[] e (0, 0))) (hgn : wr.heap.size ≤ g) (hl : SlAt E W B xs A n c) (hn : n ≤ maxLen) (hbytes : n * bytes ≤ 140737488355328)
    (hs : a.eval s = .slice (some ⟨g, 0, none⟩) 0 0) (hx : a.eval x = .slice A n c)
    (hk : ∀ A2 c2 fp w1, Sep w0 w1 (tsl E e xs (.slice A2 n c2) fp :: ts) → Below wr.heap.size wr w1 → wpList P ops Q rest (a.put o.dst (.slice A2 n c2)) w1) : wpList P ops Q (o :: rest) a W :=
  wpList_plain hgd fun K hK => wp_clone s x t ho hF i z bytes ht hi hz hsize hby hzs hsz h hb hg hgn hl hn hbytes hs hx (fun A2 c2 fp w1 h1 h2 => hK _ _ (hk A2 c2 fp w1 h1 h2))
end
end Mm
end Go.Proofs.Ytaepohocabealaa

/-
  append of a whole slice of flat elements to a slice that the call owns; slices cut from the right and from the left. No program in sight. No conditions.
-/
namespace Go.Proofs.Ytaepohocabealaa
open Go.RowKit
namespace Mm
section
variable {P : Program} {α : Type} {E : Rep α} {enc : α → List Value} {F : List Nat} {w0 wr : World} {ts : List Thing} {xs ys : List α} {A : Option Addr} {n c B : Nat} {e : TypeId} {v : Value} {fp : List Nat}
theorem SepF.appMany (hF : Flat E enc) (hN : FlatN E enc) (t ty : TypeId) (i : TypeInfo) (z : Value) (bytes : Nat) (ht : P.underlying t = some (.slice e)) (hi : P.info? e = some i) (hz : i.zero = some z) (hsize : i.size = E.size) (hby : i.bytes = bytes) (hzs : z.cells.size = E.size)
    (h : SepF F w0 wr ts) (k : Nat) (hk : ts[k]? = some (tsl E e ys v fp)) (hl : SlAt E wr B xs A n c) (hn : ys.length + n ≤ maxLen) (hbytes : (ys.length + n) * bytes ≤ 140737488355328) :
    ∃ A2 c2 fp' w1, (Builtin.append_ #[t, t] ty #[v, .slice A n c]).run P wr = .ok (.slice A2 (ys.length + n) c2) w1 ∧ SepF F w0 w1 (ts.set k (tsl E e (ys ++ xs) (.slice A2 (ys.length + n) c2) fp')) := by
  have hs : SlOwn E e wr ys v fp := h.at_ k hk
  obtain ⟨hown, hfp, hys, hlen⟩ := hN.owns hs
  have hE : ∀ w1 x, x ∈ xs → E.own w1 x (enc x) [] := fun w1 x hx => by
    obtain ⟨k, hk, rfl⟩ := List.mem_iff_getElem.1 hx
    obtain ⟨y, b, off, cs, hy, _, _, ha, _⟩ := hl.get (k := k) (by rw [← hl.1]; exact hk)
    rw [List.getElem?_eq_getElem hk] at hy
    injection hy with hy
    subst hy
    exact hF.own ha w1
  have main : ∀ v' w1, w1.ownsRow 0 e E.size v' (ys.length + n) (ys.flatMap enc ++ xs.flatMap enc) → wr.grownBy w1 v.ownBlock → (v'.ownBlock = v.ownBlock ∨ v'.ownBlock = some wr.heap.size) → ∃ A2 c2 fp', v' = .slice A2 (ys.length + n) c2 ∧ SepF F w0 w1 (ts.set k (tsl E e (ys ++ xs) (.slice A2 (ys.length + n) c2) fp')) := fun v' w1 k1 k2 k3 => by
    rw [← List.flatMap_append] at k1
    have hs1 : SlOwn E e w1 (ys ++ xs) v' v'.ownBlock.toList := SlOwn.of_row (enc := enc) (by rw [List.length_append, hl.1]; exact k1) (fun x hx => by
      rcases List.mem_append.1 hx with hx | hx
      · exact hys x hx w1
      · exact hE w1 x hx) rfl
    obtain ⟨A2, n2, c2, hv, hn2, _⟩ := hs1.form
    subst hv
    rw [List.length_append, hl.1] at hn2
    subst hn2
    refine ⟨A2, c2, _, rfl, h.upd hk (Chg.mk k2.os k2.tape k2.output k2.size fun b hb hn => k2.block b hb (fun hh => hn (row_in hs hh.symm))) (t' := tsl E e (ys ++ xs) (.slice A2 (ys.length + n) c2) _) hs1 (by simp only [tsl]; cases (Value.slice A2 (ys.length + n) c2).ownBlock <;> simp) (fun b hb => ?_)⟩
    simp only [tsl, Option.mem_toList] at hb
    rcases k3 with h3 | h3
    · rw [h3] at hb; exact .inl (row_in hs (by rw [Option.mem_def.1 hb]))
    · rw [h3] at hb; injection hb with hb; exact .inr (by omega)
  cases A with
  | none =>
    have hc0 : c = 0 := hl.2.2.2.1 rfl
    have hn0 : n = 0 := by have := hl.2.1; omega
    subst hc0; subst hn0
    have hx0 : xs = [] := List.length_eq_zero_iff.1 hl.1
    have hr := run_append_owned_none (P := P) wr 0 t ty e i E.size ht hi _ _ _ hown
    obtain ⟨A2, c2, fp', hv, hS⟩ := main _ wr (by rw [hx0]; simpa using hown) ⟨rfl, rfl, rfl, Nat.le_refl _, fun _ _ _ => rfl⟩ (.inl rfl)
    exact ⟨A2, c2, fp', wr, by rw [hr, hv], hS⟩
  | some a =>
    obtain ⟨v', w1, hr, h2, h3, _, h5⟩ := run_append_own_at (P := P) wr 0 t ty e i z E.size bytes ht hi hz hsize hby hzs hN.pos _ _ _ hown a n c (xs.flatMap enc) (flat_len (fun x cs h => hF.at_ h) hl) (flat_cells' (fun x cs h => hF.at_ h) hl) (fun u hu => by
      obtain ⟨x, hx, hu⟩ := List.mem_flatMap.1 hu
      exact E.one (hE wr x hx) u hu) hn hbytes (Nat.zero_le _)
    obtain ⟨A2, c2, fp', hv, hS⟩ := main v' w1 h2 h3 h5
    exact ⟨A2, c2, fp', w1, by rw [hr, hv], hS⟩
theorem wpList_appMany {ops : Array Oper} {rest : List Oper} {o : Oper} {a : Act} {Q : Exit → Act → World → Prop} {m : Nat} (hgd : o.guard = none) (s x : Operand) (t : TypeId)
    (ho : o.op = .call { callee := .builtin .append, args := #[s, x], argTypes := #[t, t] })
    (hF : Flat E enc) (hN : FlatN E enc) (i : TypeInfo) (z : Value) (bytes : Nat) (ht : P.underlying t = some (.slice e)) (hi : P.info? e = some i) (hz : i.zero = some z) (hsize : i.size = E.size) (hby : i.bytes = bytes) (hzs : z.cells.size = E.size)
    (h : SepF F w0 wr ts) (k : Nat) (hk : ts[k]? = some (tsl E e ys v fp)) (hl : SlAt E wr B xs A n c) (hm : ys.length + n = m) (hn : m ≤ maxLen) (hbytes : m * bytes ≤ 140737488355328) (hs : a.eval s = v) (hx : a.eval x = .slice A n c)
    (hnext : ∀ A2 c2 fp' w1, SepF F w0 w1 (ts.set k (tsl E e (ys ++ xs) (.slice A2 m c2) fp')) → wpList P ops Q rest (a.put o.dst (.slice A2 m c2)) w1) : wpList P ops Q (o :: rest) a wr := by
  subst hm
  refine wpList_plain hgd fun K hK => ?_
  obtain ⟨A2, c2, fp', w1, hr, h2⟩ := h.appMany (P := P) hF hN t o.type i z bytes ht hi hz hsize hby hzs k hk hl hn hbytes
  unfold Oper.wp execOp
  simp only [ho, resolve, invoke, builtin, Sem.run_bind, Sem.run_pure, Result.andThen_ok, List.map_toArray, List.map_cons, List.map_nil, hs, hx, hr]
  exact hK _ _ (hnext A2 c2 fp' w1 h2)
/-- a slice that is owned, read -/
theorem SepF.rdSl (h : SepF F w0 wr ts) (k : Nat) (hk : ts[k]? = some (tsl E e ys (.slice A n c) fp)) : SlAt E wr wr.heap.size ys A n c := (h.sl k hk).weak fun b hb => (h.sl k hk).olt b hb
/-- cut from the left, as Go lays it -/
theorem SlAt.cut {w : World} {g j : Nat} (h : SlAt E w B xs (some ⟨g, 0, none⟩) n c) (hj : j ≤ n) {s : Nat} (hs : E.size = s) : ∃ A', (if c = j then (some ⟨g, 0, none⟩ : Option Addr) else some ⟨g, j * s, none⟩) = A' ∧ SlAt E w B (xs.drop j) A' (n - j) (c - j) := by
  subst hs
  by_cases hc : c = j
  · rw [if_pos hc]
    have hn : n = j := by have := h.2.1; omega
    subst hn
    have hx : xs.drop n = [] := List.drop_eq_nil_of_le (by rw [h.1]; exact Nat.le_refl _)
    rw [hx, Nat.sub_self]
    exact ⟨_, rfl, SlAt.nil (by have := h.2.2.1; omega) (fun hh => by cases hh)⟩
  · rw [if_neg hc]
    have := h.drop hj
    rw [Nat.zero_add] at this
    exact ⟨_, rfl, this⟩
/-- 's[j:]', the bound an int, as one equation -/
theorem run_cut {P : Program} {t : TypeId} {s : Nat} (ht : P.underlying t = some (.slice (P.elem t))) (hs : ∀ W, (sizeOf (P.elem t)).run P W = .ok s W) {g n c : Nat} {j : Nat} {i : Int} (hi : i = j) (hj : j ≤ n) (W : World) :
    (Instr.slice t (.slice (some ⟨g, 0, none⟩) n c) (some (.int .i64 i)) none none).run P W = .ok (.slice (if c = j then (some ⟨g, 0, none⟩ : Option Addr) else some ⟨g, j * s, none⟩) (n - j) (c - j)) W := by
  subst hi
  rw [run_slice_l W t _ n c ht .i64 (j : Int) (by omega) (by omega), hs]
  simp only [Result.andThen_ok, sliced, Int.toNat_natCast]
  congr 1
  by_cases h : c = j
  · simp [h]
  · simp only [h, if_false, Option.map_some, Addr.add]
    by_cases h0 : j * s = 0
    · simp [h0]
    · simp [h0]
/-- an empty slice, just laid -/
theorem SepF.fresh {g : Nat} (h : SepF F w0 wr ts) (hg : wr.heap.size = g) (E : Rep α) (e : TypeId) : SepF F w0 (wr.alloc (.cells #[] e)) (tsl E e [] (.slice (some ⟨g, 0, none⟩) 0 0) [g] :: ts) := by
  have h1 := h.alloc' hg e []
  refine h1.conv (by simp [tblk, tsl]) (List.forall_mem_cons.2 ⟨?_, fun u hu => h1.hold u (List.mem_cons_of_mem _ hu)⟩)
  have hb : Blk (wr.alloc (.cells #[] e)) g e [] := h1.at_ 0 rfl
  exact ⟨[], ⟨rfl, fun i x y h => by simp at h⟩, ⟨by simp, .inr ⟨g, 0, #[], rfl, Nat.zero_le _, hb, Nat.le_refl _, Nat.zero_le _, by simp, by simp⟩⟩, by simp [Value.ownBlock]⟩
end
end Mm
end Go.Proofs.Ytaepohocabealaa

/-
  Contracts: the reference's teller, by value: the step (chapter 10). No conditions.
-/
namespace Go.Proofs.Ytaepohocabealaa
open Go.RowKit
attribute [local go_sem] und_cell cha_cell World.cell?_alloc_some
theorem l10Who_c (A0 A1 A2 A3 A4 : Option Addr) (n0 n1 n2 n3 n4 c0 c1 c2 c3 c4 : Nat) (k : Int) (w : World) :
    Calls Try.prog 57 #[.agg #[.slice A0 n0 c0, .slice A1 n1 c1, .slice A2 n2 c2, .slice A3 n3 c3, .slice A4 n4 c4], .int .i64 k] w fun e w' => e = .returned (.bool (decide (0 ≤ k) && decide (k < (n0 : Nat)))) ∧ Below w.heap.size w w' := by
  by_cases h0 : 0 ≤ k
  · by_cases h1 : k < (n0 : Nat)
    · go_enter Try.func57, Try.ntmps57
      go_wp2
      exact bodyPost_ret (v := .bool true) (by simp [results, Try.results57, go_sem]) rfl ⟨by simp [h0, h1], below_new (Below.refl _ _) _⟩
    · go_enter Try.func57, Try.ntmps57
      go_wp2
      exact bodyPost_ret (v := .bool false) (by simp [results, Try.results57, go_sem]) rfl ⟨by simp [h1], below_new (Below.refl _ _) _⟩
  · go_enter Try.func57, Try.ntmps57
    go_wp2
    exact bodyPost_ret (v := .bool false) (by simp [results, Try.results57, go_sem]) rfl ⟨by rw [decide_eq_false (show ¬ 0 ≤ k by omega)]; rfl, below_new (Below.refl _ _) _⟩
set_option maxRecDepth 100000 in
set_option maxHeartbeats 2000000 in
theorem l10StepNo_c (t : Tell) (kd kk : Int) (tx : ByteArray) (cs : List Value) (fp : List Nat) (w : World) (h : (Mm.tow rTell t cs fp).holds w) (hnd : fp.Nodup) (hk1 : kd ≠ 1) (hno : tx.size ≠ 0) :
    Calls Try.prog 50 #[.agg cs.toArray, .agg #[.int .i64 kd, .int .i64 kk, .string tx]] w (TellAns2 (Pl.tstep t ⟨kd, kk, tx⟩) fp w) := by
  have HF : Hid (Pl.tstep t ⟨kd, kk, tx⟩ = (t, false)) := by
    show _ = _
    unfold Pl.tstep
    rw [if_neg hk1, if_pos (.inl hno)]
  obtain ⟨A0, c0, A1, c1, A2, c2, A3, c3, A4, c4, f0, f1, f2, f3, f4, rfl, rfl, hs⟩ := openv_Tell (Mm.SepF.one _ w h hnd)
  have q1 : (kd == 1) = false := by simpa using hk1
  have q6 : tx.toList.isEmpty = false := by
    cases hh : tx.toList with
    | nil => exact absurd (by rw [Lib.toList_data] at hh; cases tx with | mk a => simp at hh; rw [hh]; rfl) hno
    | cons => rfl
  have H0 := Lib.hid hs
  clear h hs hnd hk1 hno
  go_enter Try.func50, Try.ntmps50
  go_upto_region 1 with fail
  obtain ⟨gt, hgt⟩ : ∃ gt, w.heap.size = gt := ⟨_, rfl⟩
  obtain ⟨gm, hgm⟩ : ∃ gm, gt + 1 = gm := ⟨_, rfl⟩
  obtain ⟨gr, hgr⟩ : ∃ gr, gm + 1 = gr := ⟨_, rfl⟩
  obtain ⟨W, hW⟩ : ∃ W, ((w.alloc (.cells #[.slice A0 t.Texts.length c0, .slice A1 t.Heard.length c1, .slice A2 t.Line.length c2, .slice A3 t.Log.length c3, .slice A4 t.Next.length c4] 31)).alloc (.cells #[.int .i64 kd, .int .i64 kk, .string tx] 46)).alloc (.cells #[.slice none 0 0, .slice none 0 0, .slice none 0 0, .slice none 0 0, .slice none 0 0] 31) = W := ⟨_, rfl⟩
  have HS := Lib.hid ((((H0.out.alloc' hgt 31 [.slice A0 t.Texts.length c0, .slice A1 t.Heard.length c1, .slice A2 t.Line.length c2, .slice A3 t.Log.length c3, .slice A4 t.Next.length c4]).alloc' (g := gm) (by rw [Mm.sz1, hgt, hgm]) 46 [.int .i64 kd, .int .i64 kk, .string tx]).alloc' (g := gr) (by rw [Mm.sz2, hgt]; omega) 31 zTell).atW hW)
  rw [hW, hgt, hgm, hgr]
  clear hW hgt hgm hgr
  have HSR := HS
  have b0 := HSR.out.cell (k := 0) 2 rfl rfl
  have b1 := HSR.out.cell (k := 1) 2 rfl rfl
  have b2 := HSR.out.cell (k := 2) 2 rfl rfl
  have b3 := HSR.out.cell (k := 3) 2 rfl rfl
  have b4 := HSR.out.cell (k := 4) 2 rfl rfl
  have m0 := HSR.out.cell (k := 0) 1 rfl rfl
  have m1 := HSR.out.cell (k := 1) 1 rfl rfl
  have m2 := HSR.out.cell (k := 2) 1 rfl rfl
  have r0 := HSR.out.cell (k := 0) 0 rfl rfl
  have r1 := HSR.out.cell (k := 1) 0 rfl rfl
  have r2 := HSR.out.cell (k := 2) 0 rfl rfl
  have r3 := HSR.out.cell (k := 3) 0 rfl rfl
  have r4 := HSR.out.cell (k := 4) 0 rfl rfl
  have z0 := HSR.out.frz (k := 0) 0 rfl
  have z1 := HSR.out.frz (k := 1) 0 rfl
  have z2 := HSR.out.frz (k := 2) 0 rfl
  have z3 := HSR.out.frz (k := 3) 0 rfl
  have z4 := HSR.out.frz (k := 4) 0 rfl
  go_wp2
  have HSF := Lib.hid (((((HSR.out.setBlk (k := 0) 0 rfl (.slice A0 t.Texts.length c0)).setBlk (k := 1) 0 rfl (.slice A1 t.Heard.length c1)).setBlk (k := 2) 0 rfl (.slice A2 t.Line.length c2)).setBlk (k := 3) 0 rfl (.slice A3 t.Log.length c3)).setBlk (k := 4) 0 rfl (.slice A4 t.Next.length c4))
  have q0 := HSF.out.cell (k := 0) 0 rfl rfl
  have q1 := HSF.out.cell (k := 1) 0 rfl rfl
  have q2 := HSF.out.cell (k := 2) 0 rfl rfl
  have q3 := HSF.out.cell (k := 3) 0 rfl rfl
  have q4 := HSF.out.cell (k := 4) 0 rfl rfl
  exact bodyPost_ret (v := .tuple #[.agg #[.slice A0 t.Texts.length c0, .slice A1 t.Heard.length c1, .slice A2 t.Line.length c2, .slice A3 t.Log.length c3, .slice A4 t.Next.length c4], .bool false]) (by simp [results, Try.results50, go_sem, q0, q1, q2, q3, q4]) rfl ⟨[.slice A0 t.Texts.length c0, .slice A1 t.Heard.length c1, .slice A2 t.Line.length c2, .slice A3 t.Log.length c3, .slice A4 t.Next.length c4], _, by rw [HF.out], by rw [HF.out]; exact (shutv_Tell (x := t) HSF.out.tail.tail.tail).left⟩
theorem Pl.who_no {t : Tell} {kk : Int} (hb : ¬ (0 ≤ kk ∧ kk < t.Texts.length)) : (decide (0 ≤ kk) && decide (kk < ((t.Texts.length : Nat) : Int))) = false := by
  by_cases h0 : 0 ≤ kk
  · rw [decide_eq_false (show ¬ kk < ((t.Texts.length : Nat) : Int) by omega), Bool.and_false]
  · rw [decide_eq_false h0, Bool.false_and]
theorem Pl.who_yes {n k : Nat} (h : k < n) : (decide (0 ≤ (k : Int)) && decide ((k : Int) < ((n : Nat) : Int))) = true := by
  rw [decide_eq_true (show (0 : Int) ≤ k by omega), decide_eq_true (show (k : Int) < ((n : Nat) : Int) by omega)]; rfl
set_option maxRecDepth 100000 in
set_option maxHeartbeats 2000000 in
theorem l10StepPut_c (t : Tell) (kk : Int) (tx : ByteArray) (cs : List Value) (fp : List Nat) (w : World) (h : (Mm.tow rTell t cs fp).holds w) (hnd : fp.Nodup) (hm : Mm.I64 kk ∧ tx.size ≤ maxLen) (hw : Pl.TWf t) :
    Calls Try.prog 50 #[.agg cs.toArray, .agg #[.int .i64 1, .int .i64 kk, .string tx]] w (TellAns2 (Pl.tput t kk tx) fp w) := by
  obtain ⟨A0, c0, A1, c1, A2, c2, A3, c3, A4, c4, f0, f1, f2, f3, f4, rfl, rfl, hs⟩ := openv_Tell (Mm.SepF.one _ w h hnd)
  have H0 := Lib.hid hs
  have HM := Lib.hid hm
  have h4 := hw.n4
  have HW := Lib.hid hw
  clear h hs hnd hm hw
  by_cases hb : 0 ≤ kk ∧ kk < t.Texts.length
  · obtain ⟨k, rfl⟩ : ∃ k : Nat, kk = k := ⟨kk.toNat, by omega⟩
    have h1 : k < t.Texts.length := by omega
    have f1 := Pl.who_yes h1
    clear hb
    have hy := List.getElem?_eq_getElem h1
    have ht := Pl.tAt_of (t := t) (k := (k : Int)) (l := t.Texts[k]) (by simp)
    have hy20 := HW.out.texts k _ hy
    generalize t.Texts[k] = ys at hy ht hy20
    obtain ⟨g0, hA0, -, -⟩ := Mm.sl_addr (H0.out.sl 0 rfl) (by omega)
    have hcap : t.Texts.length ≤ c0 ∧ c0 ≤ maxLen := by obtain ⟨A', n', c', hv, h1, h2, h3, _⟩ := (H0.out.sl 0 rfl).form; injection hv with _ h4 h5; omega
    unfold maxLen at hcap
    have f1' : ((k : Nat) : Int) < (t.Texts.length : Nat) := by omega
    have f2' : (0 : Int) ≤ (k : Nat) := by omega
    have f3' : ((k : Nat) : Int).toNat = k := by omega
    have HT := Lib.hid ht
    have HY := Lib.hid hy
    have HA0 := Lib.hid hA0
    clear hy ht hA0
    by_cases h3 : tx.size ≤ 20
    · have f5' : decide ((20 : Int) < (tx.size : Nat)) = false := by simp; omega
      by_cases h2 : ys.length = 20
      · have HF : Hid (Pl.tput t k tx = (t, false)) := if_neg (by rw [HT.out]; omega)
        have f4' : ((ys.length : Nat) == (20 : Int)) = true := by simp [h2]
        go_enter Try.func50, Try.ntmps50
        go_upto_region 1 with fail
        obtain ⟨gt, hgt⟩ : ∃ gt, w.heap.size = gt := ⟨_, rfl⟩
        obtain ⟨gm, hgm⟩ : ∃ gm, gt + 1 = gm := ⟨_, rfl⟩
        obtain ⟨gr, hgr⟩ : ∃ gr, gm + 1 = gr := ⟨_, rfl⟩
        obtain ⟨W, hW⟩ : ∃ W, ((w.alloc (.cells #[.slice A0 t.Texts.length c0, .slice A1 t.Heard.length c1, .slice A2 t.Line.length c2, .slice A3 t.Log.length c3, .slice A4 t.Next.length c4] 31)).alloc (.cells #[.int .i64 1, .int .i64 k, .string tx] 46)).alloc (.cells #[.slice none 0 0, .slice none 0 0, .slice none 0 0, .slice none 0 0, .slice none 0 0] 31) = W := ⟨_, rfl⟩
        have HS := Lib.hid ((((H0.out.alloc' hgt 31 [.slice A0 t.Texts.length c0, .slice A1 t.Heard.length c1, .slice A2 t.Line.length c2, .slice A3 t.Log.length c3, .slice A4 t.Next.length c4]).alloc' (g := gm) (by rw [Mm.sz1, hgt, hgm]) 46 [.int .i64 1, .int .i64 k, .string tx]).alloc' (g := gr) (by rw [Mm.sz2, hgt]; omega) 31 zTell).atW hW)
        rw [hW, hgt, hgm, hgr]
        clear hW hgt hgm hgr
        have HSR := HS
        have b0 := HSR.out.cell (k := 0) 2 rfl rfl
        have b1 := HSR.out.cell (k := 1) 2 rfl rfl
        have b2 := HSR.out.cell (k := 2) 2 rfl rfl
        have b3 := HSR.out.cell (k := 3) 2 rfl rfl
        have b4 := HSR.out.cell (k := 4) 2 rfl rfl
        have m0 := HSR.out.cell (k := 0) 1 rfl rfl
        have m1 := HSR.out.cell (k := 1) 1 rfl rfl
        have m2 := HSR.out.cell (k := 2) 1 rfl rfl
        have r0 := HSR.out.cell (k := 0) 0 rfl rfl
        have r1 := HSR.out.cell (k := 1) 0 rfl rfl
        have r2 := HSR.out.cell (k := 2) 0 rfl rfl
        have r3 := HSR.out.cell (k := 3) 0 rfl rfl
        have r4 := HSR.out.cell (k := 4) 0 rfl rfl
        have z0 := HSR.out.frz (k := 0) 0 rfl
        have z1 := HSR.out.frz (k := 1) 0 rfl
        have z2 := HSR.out.frz (k := 2) 0 rfl
        have z3 := HSR.out.frz (k := 3) 0 rfl
        have z4 := HSR.out.frz (k := 4) 0 rfl
        obtain rfl : A0 = some ⟨g0, 0, none⟩ := HA0.out
        go_wp2_with ((go_at_call 57); ((with_reducible refine (l10Who_c _ _ _ _ _ _ _ _ _ _ _ _ _ _ _ _ _).mono ?_)); (rintro e w5 ⟨rfl, hb5⟩); ((have HS5 := Lib.hid (HS.out.step hb5))); (clear hb5); (clear b0 b1 b2 b3 b4 m0 m1 m2 r0 r1 r2 r3 r4 z0 z1 z2 z3 z4); (have b0 := HS5.out.cell (k := 0) 2 rfl rfl); (have b1 := HS5.out.cell (k := 1) 2 rfl rfl); (have b2 := HS5.out.cell (k := 2) 2 rfl rfl); (have b3 := HS5.out.cell (k := 3) 2 rfl rfl); (have b4 := HS5.out.cell (k := 4) 2 rfl rfl); (have m0 := HS5.out.cell (k := 0) 1 rfl rfl); (have m1 := HS5.out.cell (k := 1) 1 rfl rfl); (have m2 := HS5.out.cell (k := 2) 1 rfl rfl); (have r0 := HS5.out.cell (k := 0) 0 rfl rfl); (have r1 := HS5.out.cell (k := 1) 0 rfl rfl); (have r2 := HS5.out.cell (k := 2) 0 rfl rfl); (have r3 := HS5.out.cell (k := 3) 0 rfl rfl); (have r4 := HS5.out.cell (k := 4) 0 rfl rfl); (have z0 := HS5.out.frz (k := 0) 0 rfl); (have z1 := HS5.out.frz (k := 1) 0 rfl); (have z2 := HS5.out.frz (k := 2) 0 rfl); (have z3 := HS5.out.frz (k := 3) 0 rfl); (have z4 := HS5.out.frz (k := 4) 0 rfl); (obtain ⟨A, m, d, fx, e0, rfl, -⟩ := HS5.out.openIn 3 rfl HY.out))
        have HSR := HS5
        have HSF := Lib.hid (((((HSR.out.setBlk (k := 0) 0 rfl (.slice (some ⟨g0, 0, none⟩) t.Texts.length c0)).setBlk (k := 1) 0 rfl (.slice A1 t.Heard.length c1)).setBlk (k := 2) 0 rfl (.slice A2 t.Line.length c2)).setBlk (k := 3) 0 rfl (.slice A3 t.Log.length c3)).setBlk (k := 4) 0 rfl (.slice A4 t.Next.length c4))
        have q0 := HSF.out.cell (k := 0) 0 rfl rfl
        have q1 := HSF.out.cell (k := 1) 0 rfl rfl
        have q2 := HSF.out.cell (k := 2) 0 rfl rfl
        have q3 := HSF.out.cell (k := 3) 0 rfl rfl
        have q4 := HSF.out.cell (k := 4) 0 rfl rfl
        exact bodyPost_ret (v := .tuple #[.agg #[.slice (some ⟨g0, 0, none⟩) t.Texts.length c0, .slice A1 t.Heard.length c1, .slice A2 t.Line.length c2, .slice A3 t.Log.length c3, .slice A4 t.Next.length c4], .bool false]) (by simp [results, Try.results50, go_sem, q0, q1, q2, q3, q4]) rfl ⟨[.slice (some ⟨g0, 0, none⟩) t.Texts.length c0, .slice A1 t.Heard.length c1, .slice A2 t.Line.length c2, .slice A3 t.Log.length c3, .slice A4 t.Next.length c4], _, by rw [HF.out], by rw [HF.out]; exact (shutv_Tell (x := t) HSF.out.tail.tail.tail).left⟩
      · have HF : Hid (Pl.tput t k tx = ({ t with Texts := t.Texts.set k (ys ++ [tx]) }, true)) := by
          show _ = _
          unfold Pl.tput
          rw [if_pos (by rw [HT.out]; omega), HT.out]
          rfl
        have f4' : ((ys.length : Nat) == (20 : Int)) = false := by simp; omega
        obtain ⟨i0, hi, hz0, hz1, hz2⟩ := info_parts Try.infoStr
        go_enter Try.func50, Try.ntmps50
        go_upto_region 1 with fail
        obtain ⟨gt, hgt⟩ : ∃ gt, w.heap.size = gt := ⟨_, rfl⟩
        obtain ⟨gm, hgm⟩ : ∃ gm, gt + 1 = gm := ⟨_, rfl⟩
        obtain ⟨gr, hgr⟩ : ∃ gr, gm + 1 = gr := ⟨_, rfl⟩
        obtain ⟨W, hW⟩ : ∃ W, ((w.alloc (.cells #[.slice A0 t.Texts.length c0, .slice A1 t.Heard.length c1, .slice A2 t.Line.length c2, .slice A3 t.Log.length c3, .slice A4 t.Next.length c4] 31)).alloc (.cells #[.int .i64 1, .int .i64 k, .string tx] 46)).alloc (.cells #[.slice none 0 0, .slice none 0 0, .slice none 0 0, .slice none 0 0, .slice none 0 0] 31) = W := ⟨_, rfl⟩
        have HS := Lib.hid ((((H0.out.alloc' hgt 31 [.slice A0 t.Texts.length c0, .slice A1 t.Heard.length c1, .slice A2 t.Line.length c2, .slice A3 t.Log.length c3, .slice A4 t.Next.length c4]).alloc' (g := gm) (by rw [Mm.sz1, hgt, hgm]) 46 [.int .i64 1, .int .i64 k, .string tx]).alloc' (g := gr) (by rw [Mm.sz2, hgt]; omega) 31 zTell).atW hW)
        rw [hW, hgt, hgm, hgr]
        clear hW hgt hgm hgr
        have HSR := HS
        have b0 := HSR.out.cell (k := 0) 2 rfl rfl
        have b1 := HSR.out.cell (k := 1) 2 rfl rfl
        have b2 := HSR.out.cell (k := 2) 2 rfl rfl
        have b3 := HSR.out.cell (k := 3) 2 rfl rfl
        have b4 := HSR.out.cell (k := 4) 2 rfl rfl
        have m0 := HSR.out.cell (k := 0) 1 rfl rfl
        have m1 := HSR.out.cell (k := 1) 1 rfl rfl
        have m2 := HSR.out.cell (k := 2) 1 rfl rfl
        have r0 := HSR.out.cell (k := 0) 0 rfl rfl
        have r1 := HSR.out.cell (k := 1) 0 rfl rfl
        have r2 := HSR.out.cell (k := 2) 0 rfl rfl
        have r3 := HSR.out.cell (k := 3) 0 rfl rfl
        have r4 := HSR.out.cell (k := 4) 0 rfl rfl
        have z0 := HSR.out.frz (k := 0) 0 rfl
        have z1 := HSR.out.frz (k := 1) 0 rfl
        have z2 := HSR.out.frz (k := 2) 0 rfl
        have z3 := HSR.out.frz (k := 3) 0 rfl
        have z4 := HSR.out.frz (k := 4) 0 rfl
        obtain rfl : A0 = some ⟨g0, 0, none⟩ := HA0.out
        go_wp2_with ((go_at_call 57); ((with_reducible refine (l10Who_c _ _ _ _ _ _ _ _ _ _ _ _ _ _ _ _ _).mono ?_)); (rintro e w5 ⟨rfl, hb5⟩); ((have HS5 := Lib.hid (HS.out.step hb5))); (clear hb5); (clear b0 b1 b2 b3 b4 m0 m1 m2 r0 r1 r2 r3 r4 z0 z1 z2 z3 z4); (have b0 := HS5.out.cell (k := 0) 2 rfl rfl); (have b1 := HS5.out.cell (k := 1) 2 rfl rfl); (have b2 := HS5.out.cell (k := 2) 2 rfl rfl); (have b3 := HS5.out.cell (k := 3) 2 rfl rfl); (have b4 := HS5.out.cell (k := 4) 2 rfl rfl); (have m0 := HS5.out.cell (k := 0) 1 rfl rfl); (have m1 := HS5.out.cell (k := 1) 1 rfl rfl); (have m2 := HS5.out.cell (k := 2) 1 rfl rfl); (have r0 := HS5.out.cell (k := 0) 0 rfl rfl); (have r1 := HS5.out.cell (k := 1) 0 rfl rfl); (have r2 := HS5.out.cell (k := 2) 0 rfl rfl); (have r3 := HS5.out.cell (k := 3) 0 rfl rfl); (have r4 := HS5.out.cell (k := 4) 0 rfl rfl); (have z0 := HS5.out.frz (k := 0) 0 rfl); (have z1 := HS5.out.frz (k := 1) 0 rfl); (have z2 := HS5.out.frz (k := 2) 0 rfl); (have z3 := HS5.out.frz (k := 3) 0 rfl); (have z4 := HS5.out.frz (k := 4) 0 rfl); (obtain ⟨A, m, d, fx, e0, rfl, ho, hfx, hgx, hap, -, hnext⟩ := HS5.out.openIn 3 rfl HY.out); (have HNX := Lib.hid hnext); (have HO := Lib.hid ho); (have n0 : gt ∉ fx := hap 2 _ (by decide) rfl _ (by simp [Mm.tblk])); (have n1 : gm ∉ fx := hap 1 _ (by decide) rfl _ (by simp [Mm.tblk])); (have n2 : gr ∉ fx := hap 0 _ (by decide) rfl _ (by simp [Mm.tblk])); (have HFX := Lib.hid hfx); clear hnext ho hap hfx)
        refine Mm.wp_region_give 15 (fun i => match i with | 12 => some (Mm.gBs 9 [.string tx]) | 13 => some (Mm.gSl Mm.str 9 (ys ++ [tx])) | _ => none) (fun i => match i with | 13 => [12, 16] | _ => []) (fun i => match i with | 16 => [Mm.tsl Mm.str 9 ys (.slice A ys.length d) fx] | _ => []) (F := fx) (D := fun w' => ∃ x : Cha fx w5, w' = cha fx w5 x) (fun X us h => Mm.sep_cha h) (by kernel_rfl) (by kernel_rfl) (by kernel_rfl) (Mm.sep_eq ((Mm.SepF.one (Mm.tsl Mm.str 9 ys (.slice A ys.length d) fx) w5 HO.out HFX.out).step (Below.refl _ _).drew) rfl) ?_
        repeat (refine Mm.give_det (by rfl) (by rfl) (by rfl) (fun K hK => ?_); go_big_quiet_op; refine hK _ ?_; clear hK K)
        refine Mm.give_op0 46 (by rfl) rfl (by rfl) (by rfl) (by rfl) (by rfl) Mm.gBs_in (fun others X2 hX2 => ?_) ?_
        · go_wp2
          exact Mm.gvq_bs hX2 rfl rfl rfl
        rintro v ds ⟨gb, rfl, rfl⟩
        simp only [Act.put, List.setIfInBounds_toArray, List.set_cons_succ, List.set_cons_zero]
        refine Mm.give_op2 47 12 16 (by rfl) rfl (by rfl) (by rfl) (by rfl) rfl (by rfl) (by rfl) (by rfl) _ _ rfl rfl Mm.gSl_in (fun others X2 hX2 => Mm.app_gvq rfl (.tmp 43) (.tmp 46) 40 rfl 47 rfl (by rfl) i0 _ 16 Try.underlying40 hi hz0 hz1 hz2 rfl (by decide) rfl rfl (fun W => ⟨rfl, HM.out.2, rfl⟩) (by unfold maxLen; omega) (by omega) hX2) ?_
        rintro v ds ⟨A2', n2', c2', f2', rfl, rfl, hn2⟩
        simp only [Act.put, List.setIfInBounds_toArray, List.set_cons_succ, List.set_cons_zero]
        repeat (refine Mm.give_det (by rfl) (by rfl) (by rfl) (fun K hK => ?_); go_big_quiet_op; refine hK _ ?_; clear hK K)
        refine Mm.give_nil ?_
        rintro X3 hX3
        obtain ⟨q0, q1, -, fp', hs4⟩ := HNX.out X3 (ys ++ [tx]) A2' n2' c2' f2' (Mm.sep_eq hX3 rfl)
        have HSR := Lib.hid hs4
        clear hs4 hX3
        clear b0 b1 b2 b3 b4 m0 m1 m2 r0 r1 r2 r3 r4 z0 z1 z2 z3 z4
        have b0 := HSR.out.cell (k := 0) 2 rfl rfl
        have b1 := HSR.out.cell (k := 1) 2 rfl rfl
        have b2 := HSR.out.cell (k := 2) 2 rfl rfl
        have b3 := HSR.out.cell (k := 3) 2 rfl rfl
        have b4 := HSR.out.cell (k := 4) 2 rfl rfl
        have m0 := HSR.out.cell (k := 0) 1 rfl rfl
        have m1 := HSR.out.cell (k := 1) 1 rfl rfl
        have m2 := HSR.out.cell (k := 2) 1 rfl rfl
        have r0 := HSR.out.cell (k := 0) 0 rfl rfl
        have r1 := HSR.out.cell (k := 1) 0 rfl rfl
        have r2 := HSR.out.cell (k := 2) 0 rfl rfl
        have r3 := HSR.out.cell (k := 3) 0 rfl rfl
        have r4 := HSR.out.cell (k := 4) 0 rfl rfl
        have z0 := HSR.out.frz (k := 0) 0 rfl
        have z1 := HSR.out.frz (k := 1) 0 rfl
        have z2 := HSR.out.frz (k := 2) 0 rfl
        have z3 := HSR.out.frz (k := 3) 0 rfl
        have z4 := HSR.out.frz (k := 4) 0 rfl
        go_wp2
        have HSF := Lib.hid (((((HSR.out.setBlk (k := 0) 0 rfl (.slice (some ⟨g0, 0, none⟩) t.Texts.length c0)).setBlk (k := 1) 0 rfl (.slice A1 t.Heard.length c1)).setBlk (k := 2) 0 rfl (.slice A2 t.Line.length c2)).setBlk (k := 3) 0 rfl (.slice A3 t.Log.length c3)).setBlk (k := 4) 0 rfl (.slice A4 t.Next.length c4))
        have q0 := HSF.out.cell (k := 0) 0 rfl rfl
        have q1 := HSF.out.cell (k := 1) 0 rfl rfl
        have q2 := HSF.out.cell (k := 2) 0 rfl rfl
        have q3 := HSF.out.cell (k := 3) 0 rfl rfl
        have q4 := HSF.out.cell (k := 4) 0 rfl rfl
        exact bodyPost_ret (v := .tuple #[.agg #[.slice (some ⟨g0, 0, none⟩) t.Texts.length c0, .slice A1 t.Heard.length c1, .slice A2 t.Line.length c2, .slice A3 t.Log.length c3, .slice A4 t.Next.length c4], .bool true]) (by simp [results, Try.results50, go_sem, q0, q1, q2, q3, q4]) rfl ⟨[.slice (some ⟨g0, 0, none⟩) t.Texts.length c0, .slice A1 t.Heard.length c1, .slice A2 t.Line.length c2, .slice A3 t.Log.length c3, .slice A4 t.Next.length c4], _, by rw [HF.out], by rw [HF.out]; exact (shutv_Tell (x := { t with Texts := t.Texts.set k (ys ++ [tx]) }) HSF.out.tail.tail.tail).left⟩
    · have HF : Hid (Pl.tput t k tx = (t, false)) := if_neg (by omega)
      have f5' : decide ((20 : Int) < (tx.size : Nat)) = true := by simp; omega
      go_enter Try.func50, Try.ntmps50
      go_upto_region 1 with fail
      obtain ⟨gt, hgt⟩ : ∃ gt, w.heap.size = gt := ⟨_, rfl⟩
      obtain ⟨gm, hgm⟩ : ∃ gm, gt + 1 = gm := ⟨_, rfl⟩
      obtain ⟨gr, hgr⟩ : ∃ gr, gm + 1 = gr := ⟨_, rfl⟩
      obtain ⟨W, hW⟩ : ∃ W, ((w.alloc (.cells #[.slice A0 t.Texts.length c0, .slice A1 t.Heard.length c1, .slice A2 t.Line.length c2, .slice A3 t.Log.length c3, .slice A4 t.Next.length c4] 31)).alloc (.cells #[.int .i64 1, .int .i64 k, .string tx] 46)).alloc (.cells #[.slice none 0 0, .slice none 0 0, .slice none 0 0, .slice none 0 0, .slice none 0 0] 31) = W := ⟨_, rfl⟩
      have HS := Lib.hid ((((H0.out.alloc' hgt 31 [.slice A0 t.Texts.length c0, .slice A1 t.Heard.length c1, .slice A2 t.Line.length c2, .slice A3 t.Log.length c3, .slice A4 t.Next.length c4]).alloc' (g := gm) (by rw [Mm.sz1, hgt, hgm]) 46 [.int .i64 1, .int .i64 k, .string tx]).alloc' (g := gr) (by rw [Mm.sz2, hgt]; omega) 31 zTell).atW hW)
      rw [hW, hgt, hgm, hgr]
      clear hW hgt hgm hgr
      have HSR := HS
      have b0 := HSR.out.cell (k := 0) 2 rfl rfl
      have b1 := HSR.out.cell (k := 1) 2 rfl rfl
      have b2 := HSR.out.cell (k := 2) 2 rfl rfl
      have b3 := HSR.out.cell (k := 3) 2 rfl rfl
      have b4 := HSR.out.cell (k := 4) 2 rfl rfl
      have m0 := HSR.out.cell (k := 0) 1 rfl rfl
      have m1 := HSR.out.cell (k := 1) 1 rfl rfl
      have m2 := HSR.out.cell (k := 2) 1 rfl rfl
      have r0 := HSR.out.cell (k := 0) 0 rfl rfl
      have r1 := HSR.out.cell (k := 1) 0 rfl rfl
      have r2 := HSR.out.cell (k := 2) 0 rfl rfl
      have r3 := HSR.out.cell (k := 3) 0 rfl rfl
      have r4 := HSR.out.cell (k := 4) 0 rfl rfl
      have z0 := HSR.out.frz (k := 0) 0 rfl
      have z1 := HSR.out.frz (k := 1) 0 rfl
      have z2 := HSR.out.frz (k := 2) 0 rfl
      have z3 := HSR.out.frz (k := 3) 0 rfl
      have z4 := HSR.out.frz (k := 4) 0 rfl
      go_wp2_with ((go_at_call 57); ((with_reducible refine (l10Who_c _ _ _ _ _ _ _ _ _ _ _ _ _ _ _ _ _).mono ?_)); (rintro e w5 ⟨rfl, hb5⟩); ((have HS5 := Lib.hid (HS.out.step hb5))); (clear hb5); (clear b0 b1 b2 b3 b4 m0 m1 m2 r0 r1 r2 r3 r4 z0 z1 z2 z3 z4); (have b0 := HS5.out.cell (k := 0) 2 rfl rfl); (have b1 := HS5.out.cell (k := 1) 2 rfl rfl); (have b2 := HS5.out.cell (k := 2) 2 rfl rfl); (have b3 := HS5.out.cell (k := 3) 2 rfl rfl); (have b4 := HS5.out.cell (k := 4) 2 rfl rfl); (have m0 := HS5.out.cell (k := 0) 1 rfl rfl); (have m1 := HS5.out.cell (k := 1) 1 rfl rfl); (have m2 := HS5.out.cell (k := 2) 1 rfl rfl); (have r0 := HS5.out.cell (k := 0) 0 rfl rfl); (have r1 := HS5.out.cell (k := 1) 0 rfl rfl); (have r2 := HS5.out.cell (k := 2) 0 rfl rfl); (have r3 := HS5.out.cell (k := 3) 0 rfl rfl); (have r4 := HS5.out.cell (k := 4) 0 rfl rfl); (have z0 := HS5.out.frz (k := 0) 0 rfl); (have z1 := HS5.out.frz (k := 1) 0 rfl); (have z2 := HS5.out.frz (k := 2) 0 rfl); (have z3 := HS5.out.frz (k := 3) 0 rfl); (have z4 := HS5.out.frz (k := 4) 0 rfl))
      have HSR := HS5
      have HSF := Lib.hid (((((HSR.out.setBlk (k := 0) 0 rfl (.slice A0 t.Texts.length c0)).setBlk (k := 1) 0 rfl (.slice A1 t.Heard.length c1)).setBlk (k := 2) 0 rfl (.slice A2 t.Line.length c2)).setBlk (k := 3) 0 rfl (.slice A3 t.Log.length c3)).setBlk (k := 4) 0 rfl (.slice A4 t.Next.length c4))
      have q0 := HSF.out.cell (k := 0) 0 rfl rfl
      have q1 := HSF.out.cell (k := 1) 0 rfl rfl
      have q2 := HSF.out.cell (k := 2) 0 rfl rfl
      have q3 := HSF.out.cell (k := 3) 0 rfl rfl
      have q4 := HSF.out.cell (k := 4) 0 rfl rfl
      exact bodyPost_ret (v := .tuple #[.agg #[.slice A0 t.Texts.length c0, .slice A1 t.Heard.length c1, .slice A2 t.Line.length c2, .slice A3 t.Log.length c3, .slice A4 t.Next.length c4], .bool false]) (by simp [results, Try.results50, go_sem, q0, q1, q2, q3, q4]) rfl ⟨[.slice A0 t.Texts.length c0, .slice A1 t.Heard.length c1, .slice A2 t.Line.length c2, .slice A3 t.Log.length c3, .slice A4 t.Next.length c4], _, by rw [HF.out], by rw [HF.out]; exact (shutv_Tell (x := t) HSF.out.tail.tail.tail).left⟩
  · have HF : Hid (Pl.tput t kk tx = (t, false)) := if_neg (by omega)
    have f1 := Pl.who_no hb
    have HB := Lib.hid hb
    clear hb
    go_enter Try.func50, Try.ntmps50
    go_upto_region 1 with fail
    obtain ⟨gt, hgt⟩ : ∃ gt, w.heap.size = gt := ⟨_, rfl⟩
    obtain ⟨gm, hgm⟩ : ∃ gm, gt + 1 = gm := ⟨_, rfl⟩
    obtain ⟨gr, hgr⟩ : ∃ gr, gm + 1 = gr := ⟨_, rfl⟩
    obtain ⟨W, hW⟩ : ∃ W, ((w.alloc (.cells #[.slice A0 t.Texts.length c0, .slice A1 t.Heard.length c1, .slice A2 t.Line.length c2, .slice A3 t.Log.length c3, .slice A4 t.Next.length c4] 31)).alloc (.cells #[.int .i64 1, .int .i64 kk, .string tx] 46)).alloc (.cells #[.slice none 0 0, .slice none 0 0, .slice none 0 0, .slice none 0 0, .slice none 0 0] 31) = W := ⟨_, rfl⟩
    have HS := Lib.hid ((((H0.out.alloc' hgt 31 [.slice A0 t.Texts.length c0, .slice A1 t.Heard.length c1, .slice A2 t.Line.length c2, .slice A3 t.Log.length c3, .slice A4 t.Next.length c4]).alloc' (g := gm) (by rw [Mm.sz1, hgt, hgm]) 46 [.int .i64 1, .int .i64 kk, .string tx]).alloc' (g := gr) (by rw [Mm.sz2, hgt]; omega) 31 zTell).atW hW)
    rw [hW, hgt, hgm, hgr]
    clear hW hgt hgm hgr
    have HSR := HS
    have b0 := HSR.out.cell (k := 0) 2 rfl rfl
    have b1 := HSR.out.cell (k := 1) 2 rfl rfl
    have b2 := HSR.out.cell (k := 2) 2 rfl rfl
    have b3 := HSR.out.cell (k := 3) 2 rfl rfl
    have b4 := HSR.out.cell (k := 4) 2 rfl rfl
    have m0 := HSR.out.cell (k := 0) 1 rfl rfl
    have m1 := HSR.out.cell (k := 1) 1 rfl rfl
    have m2 := HSR.out.cell (k := 2) 1 rfl rfl
    have r0 := HSR.out.cell (k := 0) 0 rfl rfl
    have r1 := HSR.out.cell (k := 1) 0 rfl rfl
    have r2 := HSR.out.cell (k := 2) 0 rfl rfl
    have r3 := HSR.out.cell (k := 3) 0 rfl rfl
    have r4 := HSR.out.cell (k := 4) 0 rfl rfl
    have z0 := HSR.out.frz (k := 0) 0 rfl
    have z1 := HSR.out.frz (k := 1) 0 rfl
    have z2 := HSR.out.frz (k := 2) 0 rfl
    have z3 := HSR.out.frz (k := 3) 0 rfl
    have z4 := HSR.out.frz (k := 4) 0 rfl
    go_wp2_with ((go_at_call 57); ((with_reducible refine (l10Who_c _ _ _ _ _ _ _ _ _ _ _ _ _ _ _ _ _).mono ?_)); (rintro e w5 ⟨rfl, hb5⟩); ((have HS5 := Lib.hid (HS.out.step hb5))); (clear hb5); (clear b0 b1 b2 b3 b4 m0 m1 m2 r0 r1 r2 r3 r4 z0 z1 z2 z3 z4); (have b0 := HS5.out.cell (k := 0) 2 rfl rfl); (have b1 := HS5.out.cell (k := 1) 2 rfl rfl); (have b2 := HS5.out.cell (k := 2) 2 rfl rfl); (have b3 := HS5.out.cell (k := 3) 2 rfl rfl); (have b4 := HS5.out.cell (k := 4) 2 rfl rfl); (have m0 := HS5.out.cell (k := 0) 1 rfl rfl); (have m1 := HS5.out.cell (k := 1) 1 rfl rfl); (have m2 := HS5.out.cell (k := 2) 1 rfl rfl); (have r0 := HS5.out.cell (k := 0) 0 rfl rfl); (have r1 := HS5.out.cell (k := 1) 0 rfl rfl); (have r2 := HS5.out.cell (k := 2) 0 rfl rfl); (have r3 := HS5.out.cell (k := 3) 0 rfl rfl); (have r4 := HS5.out.cell (k := 4) 0 rfl rfl); (have z0 := HS5.out.frz (k := 0) 0 rfl); (have z1 := HS5.out.frz (k := 1) 0 rfl); (have z2 := HS5.out.frz (k := 2) 0 rfl); (have z3 := HS5.out.frz (k := 3) 0 rfl); (have z4 := HS5.out.frz (k := 4) 0 rfl))
    have HSR := HS5
    have HSF := Lib.hid (((((HSR.out.setBlk (k := 0) 0 rfl (.slice A0 t.Texts.length c0)).setBlk (k := 1) 0 rfl (.slice A1 t.Heard.length c1)).setBlk (k := 2) 0 rfl (.slice A2 t.Line.length c2)).setBlk (k := 3) 0 rfl (.slice A3 t.Log.length c3)).setBlk (k := 4) 0 rfl (.slice A4 t.Next.length c4))
    have q0 := HSF.out.cell (k := 0) 0 rfl rfl
    have q1 := HSF.out.cell (k := 1) 0 rfl rfl
    have q2 := HSF.out.cell (k := 2) 0 rfl rfl
    have q3 := HSF.out.cell (k := 3) 0 rfl rfl
    have q4 := HSF.out.cell (k := 4) 0 rfl rfl
    exact bodyPost_ret (v := .tuple #[.agg #[.slice A0 t.Texts.length c0, .slice A1 t.Heard.length c1, .slice A2 t.Line.length c2, .slice A3 t.Log.length c3, .slice A4 t.Next.length c4], .bool false]) (by simp [results, Try.results50, go_sem, q0, q1, q2, q3, q4]) rfl ⟨[.slice A0 t.Texts.length c0, .slice A1 t.Heard.length c1, .slice A2 t.Line.length c2, .slice A3 t.Log.length c3, .slice A4 t.Next.length c4], _, by rw [HF.out], by rw [HF.out]; exact (shutv_Tell (x := t) HSF.out.tail.tail.tail).left⟩
end Go.Proofs.Ytaepohocabealaa

/-
  Contracts: the reference's teller, by value: the step that sends, and the steps that do nothing (chapter 10). No conditions.
-/
namespace Go.Proofs.Ytaepohocabealaa
open Go.RowKit
attribute [local go_sem] und_cell cha_cell World.cell?_alloc_some
set_option maxRecDepth 100000 in
set_option maxHeartbeats 2000000 in
theorem l10StepSend_c (t : Tell) (kk : Int) (cs : List Value) (fp : List Nat) (w : World) (h : (Mm.tow rTell t cs fp).holds w) (hnd : fp.Nodup) (hm : Mm.I64 kk) (hw : Pl.TWf t) :
    Calls Try.prog 50 #[.agg cs.toArray, .agg #[.int .i64 2, .int .i64 kk, .string ⟨#[]⟩]] w (TellAns2 (Pl.tstep t ⟨2, kk, ⟨#[]⟩⟩) fp w) := by
  obtain ⟨A0, c0, A1, c1, A2, c2, A3, c3, A4, c4, f0, f1, f2, f3, f4, rfl, rfl, hs⟩ := openv_Tell (Mm.SepF.one _ w h hnd)
  have H0 := Lib.hid hs
  have HM := Lib.hid hm
  have h4 := hw.n4
  have HW := Lib.hid hw
  clear h hs hnd hm hw
  by_cases hb : 0 ≤ kk ∧ kk < t.Texts.length
  · have HF := Lib.hid (Pl.tstep2 t kk hb.1)
    obtain ⟨k, rfl⟩ : ∃ k : Nat, kk = k := ⟨kk.toNat, by omega⟩
    have h1 : k < t.Texts.length := by omega
    have hhl := HW.out.heard
    have fw := Pl.who_yes h1
    clear hb
    have hy := List.getElem?_eq_getElem h1
    have ht := Pl.tAt_of (t := t) (k := (k : Int)) (l := t.Texts[k]) (by simp)
    have hy20 := HW.out.texts k _ hy
    have hkh : k < t.Heard.length := by omega
    have ha := List.getElem?_eq_getElem hkh
    have hab := HW.out.hd k _ _ ha hy
    have hai := Pl.iAt_of (l := t.Heard) (k := (k : Int)) (a := t.Heard[k]) (by simp)
    generalize t.Texts[k] = ys at hy ht hy20 hab
    generalize t.Heard[k] = a at ha hab hai
    rw [ht, hai] at HF
    obtain ⟨a, rfl⟩ : ∃ n : Nat, a = n := ⟨a.toNat, by omega⟩
    obtain ⟨g0, hA0, -, -⟩ := Mm.sl_addr (H0.out.sl 0 rfl) (by omega)
    obtain ⟨g1, hA1, -, -⟩ := Mm.sl_addr (H0.out.sl 1 rfl) (by omega)
    have hcap : t.Texts.length ≤ c0 ∧ c0 ≤ maxLen := by obtain ⟨A', n', c', hv, h1, h2, h3, _⟩ := (H0.out.sl 0 rfl).form; injection hv with _ h4 h5; omega
    have hcap1 : t.Heard.length ≤ c1 ∧ c1 ≤ maxLen := by obtain ⟨A', n', c', hv, h1, h2, h3, _⟩ := (H0.out.sl 1 rfl).form; injection hv with _ h4 h5; omega
    unfold maxLen at hcap hcap1
    have f1' : ((k : Nat) : Int) < (t.Texts.length : Nat) := by omega
    have f1'' : ((k : Nat) : Int) < (t.Heard.length : Nat) := by omega
    have f2' : (0 : Int) ≤ (k : Nat) := by omega
    have f3' : ((k : Nat) : Int).toNat = k := by omega
    have HT := Lib.hid ht
    have HY := Lib.hid hy
    have HA := Lib.hid ha
    have HAI := Lib.hid hai
    have HA0 := Lib.hid hA0
    have HA1 := Lib.hid hA1
    have HHL := Lib.hid hhl
    clear hy ht ha hai hA0 hA1 hhl
    go_enter Try.func50, Try.ntmps50
    go_upto_region 1 with fail
    obtain ⟨gt, hgt⟩ : ∃ gt, w.heap.size = gt := ⟨_, rfl⟩
    obtain ⟨gm, hgm⟩ : ∃ gm, gt + 1 = gm := ⟨_, rfl⟩
    obtain ⟨gr, hgr⟩ : ∃ gr, gm + 1 = gr := ⟨_, rfl⟩
    obtain ⟨W, hW⟩ : ∃ W, ((w.alloc (.cells #[.slice A0 t.Texts.length c0, .slice A1 t.Heard.length c1, .slice A2 t.Line.length c2, .slice A3 t.Log.length c3, .slice A4 t.Next.length c4] 31)).alloc (.cells #[.int .i64 2, .int .i64 k, .string ⟨#[]⟩] 46)).alloc (.cells #[.slice none 0 0, .slice none 0 0, .slice none 0 0, .slice none 0 0, .slice none 0 0] 31) = W := ⟨_, rfl⟩
    have HS := Lib.hid ((((H0.out.alloc' hgt 31 [.slice A0 t.Texts.length c0, .slice A1 t.Heard.length c1, .slice A2 t.Line.length c2, .slice A3 t.Log.length c3, .slice A4 t.Next.length c4]).alloc' (g := gm) (by rw [Mm.sz1, hgt, hgm]) 46 [.int .i64 2, .int .i64 k, .string ⟨#[]⟩]).alloc' (g := gr) (by rw [Mm.sz2, hgt]; omega) 31 zTell).atW hW)
    rw [hW, hgt, hgm, hgr]
    clear hW hgt hgm hgr
    have HSR := HS
    have b0 := HSR.out.cell (k := 0) 2 rfl rfl
    have b1 := HSR.out.cell (k := 1) 2 rfl rfl
    have b2 := HSR.out.cell (k := 2) 2 rfl rfl
    have b3 := HSR.out.cell (k := 3) 2 rfl rfl
    have b4 := HSR.out.cell (k := 4) 2 rfl rfl
    have m0 := HSR.out.cell (k := 0) 1 rfl rfl
    have m1 := HSR.out.cell (k := 1) 1 rfl rfl
    have m2 := HSR.out.cell (k := 2) 1 rfl rfl
    have r0 := HSR.out.cell (k := 0) 0 rfl rfl
    have r1 := HSR.out.cell (k := 1) 0 rfl rfl
    have r2 := HSR.out.cell (k := 2) 0 rfl rfl
    have r3 := HSR.out.cell (k := 3) 0 rfl rfl
    have r4 := HSR.out.cell (k := 4) 0 rfl rfl
    have z0 := HSR.out.frz (k := 0) 0 rfl
    have z1 := HSR.out.frz (k := 1) 0 rfl
    have z2 := HSR.out.frz (k := 2) 0 rfl
    have z3 := HSR.out.frz (k := 3) 0 rfl
    have z4 := HSR.out.frz (k := 4) 0 rfl
    obtain rfl : A0 = some ⟨g0, 0, none⟩ := HA0.out
    obtain rfl : A1 = some ⟨g1, 0, none⟩ := HA1.out
    obtain ⟨A, m, d, fx, e0, rfl, ho, hfx, -⟩ := HS.out.openIn 3 rfl HY.out
    have e1 := int_ocell (HS.out.sl 4 rfl) (HS.out.ndat (i := 4) rfl) HA.out
    have hcap2 : ys.length ≤ d ∧ d ≤ maxLen := by obtain ⟨A', n', c', hv, h1, h2, h3, _⟩ := ho.form; injection hv with _ h4 h5; omega
    unfold maxLen at hcap2
    have HO := Lib.hid ho
    have HFX := Lib.hid hfx
    clear ho hfx
    by_cases h2 : a = ys.length
    · subst h2
      rw [if_neg (by omega)] at HF
      have f4' : (((ys.length : Nat) : Int) == ((ys.length : Nat) : Int)) = true := by simp
      go_wp2
      refine wp_region_und (by kernel_rfl) (by kernel_rfl) ?_
      repeat (go_big_quiet_step ((first | (go_at_call 57; exact und_call _ (l10Who_c _ _ _ _ _ _ _ _ _ _ _ _ _ _ _ _ _)))))
      refine wpQuiet_nil ?_
      intro X hX
      have HSR := Lib.hid (HS.out.step hX)
      clear b0 b1 b2 b3 b4 m0 m1 m2 r0 r1 r2 r3 r4 z0 z1 z2 z3 z4
      clear e0 e1
      have b0 := HSR.out.cell (k := 0) 2 rfl rfl
      have b1 := HSR.out.cell (k := 1) 2 rfl rfl
      have b2 := HSR.out.cell (k := 2) 2 rfl rfl
      have b3 := HSR.out.cell (k := 3) 2 rfl rfl
      have b4 := HSR.out.cell (k := 4) 2 rfl rfl
      have m0 := HSR.out.cell (k := 0) 1 rfl rfl
      have m1 := HSR.out.cell (k := 1) 1 rfl rfl
      have m2 := HSR.out.cell (k := 2) 1 rfl rfl
      have r0 := HSR.out.cell (k := 0) 0 rfl rfl
      have r1 := HSR.out.cell (k := 1) 0 rfl rfl
      have r2 := HSR.out.cell (k := 2) 0 rfl rfl
      have r3 := HSR.out.cell (k := 3) 0 rfl rfl
      have r4 := HSR.out.cell (k := 4) 0 rfl rfl
      have z0 := HSR.out.frz (k := 0) 0 rfl
      have z1 := HSR.out.frz (k := 1) 0 rfl
      have z2 := HSR.out.frz (k := 2) 0 rfl
      have z3 := HSR.out.frz (k := 3) 0 rfl
      have z4 := HSR.out.frz (k := 4) 0 rfl
      go_wp2
      have HSF := Lib.hid (((((HSR.out.setBlk (k := 0) 0 rfl (.slice (some ⟨g0, 0, none⟩) t.Texts.length c0)).setBlk (k := 1) 0 rfl (.slice (some ⟨g1, 0, none⟩) t.Heard.length c1)).setBlk (k := 2) 0 rfl (.slice A2 t.Line.length c2)).setBlk (k := 3) 0 rfl (.slice A3 t.Log.length c3)).setBlk (k := 4) 0 rfl (.slice A4 t.Next.length c4))
      have q0 := HSF.out.cell (k := 0) 0 rfl rfl
      have q1 := HSF.out.cell (k := 1) 0 rfl rfl
      have q2 := HSF.out.cell (k := 2) 0 rfl rfl
      have q3 := HSF.out.cell (k := 3) 0 rfl rfl
      have q4 := HSF.out.cell (k := 4) 0 rfl rfl
      exact bodyPost_ret (v := .tuple #[.agg #[.slice (some ⟨g0, 0, none⟩) t.Texts.length c0, .slice (some ⟨g1, 0, none⟩) t.Heard.length c1, .slice A2 t.Line.length c2, .slice A3 t.Log.length c3, .slice A4 t.Next.length c4], .bool false]) (by simp [results, Try.results50, go_sem, q0, q1, q2, q3, q4]) rfl ⟨[.slice (some ⟨g0, 0, none⟩) t.Texts.length c0, .slice (some ⟨g1, 0, none⟩) t.Heard.length c1, .slice A2 t.Line.length c2, .slice A3 t.Log.length c3, .slice A4 t.Next.length c4], _, by rw [HF.out], by rw [HF.out]; exact (shutv_Tell (x := t) HSF.out.tail.tail.tail).left⟩
    · rw [if_pos (by omega)] at HF
      have f4' : (((a : Nat) : Int) == ((ys.length : Nat) : Int)) = false := by simp; omega
      have hal : a < ys.length := by omega
      obtain ⟨gi, rfl, -, -⟩ := Mm.sl_addr HO.out (by omega)
      have hx := List.getElem?_eq_getElem hal
      have hd : ys.getD a ByteArray.empty = ys[a] := by rw [List.getD_eq_getElem?_getD, hx]; rfl
      generalize ys[a] = x at hx hd
      have e2 := str_ocell HO.out HFX.out hx
      have hxs : x.size ≤ maxLen := by
        obtain ⟨es, he, -, -⟩ := HO.out
        have := he.2 a _ _ hx (List.getElem?_eq_getElem (show a < es.length by rw [he.1]; exact hal))
        exact this.2.1
      rw [show ((a : Nat) : Int).toNat = a by omega, hd] at HF
      have HD := Lib.hid hd
      have HX := Lib.hid hx
      have HXS := Lib.hid hxs
      clear hd hx hxs
      have f7' : ((a : Nat) : Int) < (ys.length : Nat) := by omega
      have f8' : (0 : Int) ≤ (a : Nat) := by omega
      have f9' : ((a : Nat) : Int).toNat = a := by omega
      go_wp2
      refine wp_region_und (by kernel_rfl) (by kernel_rfl) ?_
      repeat (go_big_quiet_step ((first | (go_at_call 57; exact und_call _ (l10Who_c _ _ _ _ _ _ _ _ _ _ _ _ _ _ _ _ _)))))
      refine wpQuiet_nil ?_
      intro X hX
      have HSR := Lib.hid (HS.out.step hX)
      clear b0 b1 b2 b3 b4 m0 m1 m2 r0 r1 r2 r3 r4 z0 z1 z2 z3 z4
      have b0 := HSR.out.cell (k := 0) 2 rfl rfl
      have b1 := HSR.out.cell (k := 1) 2 rfl rfl
      have b2 := HSR.out.cell (k := 2) 2 rfl rfl
      have b3 := HSR.out.cell (k := 3) 2 rfl rfl
      have b4 := HSR.out.cell (k := 4) 2 rfl rfl
      have m0 := HSR.out.cell (k := 0) 1 rfl rfl
      have m1 := HSR.out.cell (k := 1) 1 rfl rfl
      have m2 := HSR.out.cell (k := 2) 1 rfl rfl
      have r0 := HSR.out.cell (k := 0) 0 rfl rfl
      have r1 := HSR.out.cell (k := 1) 0 rfl rfl
      have r2 := HSR.out.cell (k := 2) 0 rfl rfl
      have r3 := HSR.out.cell (k := 3) 0 rfl rfl
      have r4 := HSR.out.cell (k := 4) 0 rfl rfl
      have z0 := HSR.out.frz (k := 0) 0 rfl
      have z1 := HSR.out.frz (k := 1) 0 rfl
      have z2 := HSR.out.frz (k := 2) 0 rfl
      have z3 := HSR.out.frz (k := 3) 0 rfl
      have z4 := HSR.out.frz (k := 4) 0 rfl
      replace e0 := below_some hX e0
      replace e1 := below_some hX e1
      replace e2 := below_some hX e2
      go_wp2
      refine wp_region_und_tail 15 (by kernel_rfl) (by kernel_rfl) ?_
      simp only [List.take_succ_cons, List.take_zero, List.drop_succ_cons, List.drop_zero]
      repeat (go_big_quiet_step ((first | fail)))
      refine wpQuiet_nil ?_
      intro X hX
      have HC1 := Lib.hid (HSR.out.step hX)
      have HC2 := HC1.out
      have HC3 := Lib.hid (shutv_Tell (x := t) (Mm.sep_eq (us := [Mm.tsl strs 40 t.Texts (.slice (some ⟨g0, 0, none⟩) t.Texts.length c0) f0, Mm.tsl Mm.int 3 t.Heard (.slice (some ⟨g1, 0, none⟩) t.Heard.length c1) f1, Mm.tsl rNote 94 t.Line (.slice A2 t.Line.length c2) f2, Mm.tsl rTold 52 t.Log (.slice A3 t.Log.length c3) f3, Mm.tsl Mm.int 3 t.Next (.slice A4 t.Next.length c4) f4, Mm.tblk gr 31 zTell, Mm.tblk gm 46 [.int .i64 2, .int .i64 k, .string ⟨#[]⟩], Mm.tblk gt 31 [.slice (some ⟨g0, 0, none⟩) t.Texts.length c0, .slice (some ⟨g1, 0, none⟩) t.Heard.length c1, .slice A2 t.Line.length c2, .slice A3 t.Log.length c3, .slice A4 t.Next.length c4]]) HC2.rot3 rfl))
      clear HC2
      have CW := l10Write_c t ⟨false, ⟨k, a, x⟩⟩ _ _ X (HC3.out.at_ 0 rfl) (HC3.out.ndat (i := 0) rfl) ⟨HM.out, by show Mm.I64 ((a : Nat) : Int); unfold Mm.I64; omega, HXS.out⟩
      clear b0 b1 b2 b3 b4 m0 m1 m2 r0 r1 r2 r3 r4 z0 z1 z2 z3 z4
      go_wp2_with (go_at_call 92; refine CW.mono ?_; (rintro e w9 ⟨cs9, fp9, rfl, hL⟩); (obtain ⟨A10, c10, A11, c11, A12, c12, A13, c13, A14, c14, f10, f11, f12, f13, f14, rfl, rfl, hs9⟩ := openv_Tell (HC3.out.call 0 rfl hL)); ((have HSR := Lib.hid hs9)); (clear hL hs9 CW); (have r0 := HSR.out.cell (k := 0) 5 rfl rfl); (have r1 := HSR.out.cell (k := 1) 5 rfl rfl); (have r2 := HSR.out.cell (k := 2) 5 rfl rfl); (have r3 := HSR.out.cell (k := 3) 5 rfl rfl); (have r4 := HSR.out.cell (k := 4) 5 rfl rfl); (have z0 := HSR.out.frz (k := 0) 5 rfl); (have z1 := HSR.out.frz (k := 1) 5 rfl); (have z2 := HSR.out.frz (k := 2) 5 rfl); (have z3 := HSR.out.frz (k := 3) 5 rfl); (have z4 := HSR.out.frz (k := 4) 5 rfl))
      obtain ⟨z, hz⟩ : ∃ z, Pl.tsend t ⟨false, ⟨k, a, x⟩⟩ = z := ⟨_, rfl⟩
      rw [hz] at HSR HF ⊢
      have HSF := Lib.hid (((((HSR.out.setBlk (k := 0) 5 rfl (.slice A10 z.Texts.length c10)).setBlk (k := 1) 5 rfl (.slice A11 z.Heard.length c11)).setBlk (k := 2) 5 rfl (.slice A12 z.Line.length c12)).setBlk (k := 3) 5 rfl (.slice A13 z.Log.length c13)).setBlk (k := 4) 5 rfl (.slice A14 z.Next.length c14))
      have q0 := HSF.out.cell (k := 0) 5 rfl rfl
      have q1 := HSF.out.cell (k := 1) 5 rfl rfl
      have q2 := HSF.out.cell (k := 2) 5 rfl rfl
      have q3 := HSF.out.cell (k := 3) 5 rfl rfl
      have q4 := HSF.out.cell (k := 4) 5 rfl rfl
      exact bodyPost_ret (v := .tuple #[.agg #[.slice A10 z.Texts.length c10, .slice A11 z.Heard.length c11, .slice A12 z.Line.length c12, .slice A13 z.Log.length c13, .slice A14 z.Next.length c14], .bool true]) (by simp [results, Try.results50, go_sem, q0, q1, q2, q3, q4]) rfl ⟨[.slice A10 z.Texts.length c10, .slice A11 z.Heard.length c11, .slice A12 z.Line.length c12, .slice A13 z.Log.length c13, .slice A14 z.Next.length c14], _, by rw [HF.out], by rw [HF.out]; exact (shutv_Tell (x := z) HSF.out).head.left⟩
  · have HF : Hid (Pl.tstep t ⟨2, kk, ⟨#[]⟩⟩ = (t, false)) := by
      show _ = _
      by_cases h0 : 0 ≤ kk
      · rw [Pl.tstep2 t kk h0, if_neg (by omega)]
      · unfold Pl.tstep
        rw [if_neg (show ¬ (2 : Int) = 1 by omega), if_pos (.inr (by show kk < 0; omega))]
    have fw := Pl.who_no hb
    have HB := Lib.hid hb
    clear hb
    go_enter Try.func50, Try.ntmps50
    go_upto_region 1 with fail
    obtain ⟨gt, hgt⟩ : ∃ gt, w.heap.size = gt := ⟨_, rfl⟩
    obtain ⟨gm, hgm⟩ : ∃ gm, gt + 1 = gm := ⟨_, rfl⟩
    obtain ⟨gr, hgr⟩ : ∃ gr, gm + 1 = gr := ⟨_, rfl⟩
    obtain ⟨W, hW⟩ : ∃ W, ((w.alloc (.cells #[.slice A0 t.Texts.length c0, .slice A1 t.Heard.length c1, .slice A2 t.Line.length c2, .slice A3 t.Log.length c3, .slice A4 t.Next.length c4] 31)).alloc (.cells #[.int .i64 2, .int .i64 kk, .string ⟨#[]⟩] 46)).alloc (.cells #[.slice none 0 0, .slice none 0 0, .slice none 0 0, .slice none 0 0, .slice none 0 0] 31) = W := ⟨_, rfl⟩
    have HS := Lib.hid ((((H0.out.alloc' hgt 31 [.slice A0 t.Texts.length c0, .slice A1 t.Heard.length c1, .slice A2 t.Line.length c2, .slice A3 t.Log.length c3, .slice A4 t.Next.length c4]).alloc' (g := gm) (by rw [Mm.sz1, hgt, hgm]) 46 [.int .i64 2, .int .i64 kk, .string ⟨#[]⟩]).alloc' (g := gr) (by rw [Mm.sz2, hgt]; omega) 31 zTell).atW hW)
    rw [hW, hgt, hgm, hgr]
    clear hW hgt hgm hgr
    have HSR := HS
    have b0 := HSR.out.cell (k := 0) 2 rfl rfl
    have b1 := HSR.out.cell (k := 1) 2 rfl rfl
    have b2 := HSR.out.cell (k := 2) 2 rfl rfl
    have b3 := HSR.out.cell (k := 3) 2 rfl rfl
    have b4 := HSR.out.cell (k := 4) 2 rfl rfl
    have m0 := HSR.out.cell (k := 0) 1 rfl rfl
    have m1 := HSR.out.cell (k := 1) 1 rfl rfl
    have m2 := HSR.out.cell (k := 2) 1 rfl rfl
    have r0 := HSR.out.cell (k := 0) 0 rfl rfl
    have r1 := HSR.out.cell (k := 1) 0 rfl rfl
    have r2 := HSR.out.cell (k := 2) 0 rfl rfl
    have r3 := HSR.out.cell (k := 3) 0 rfl rfl
    have r4 := HSR.out.cell (k := 4) 0 rfl rfl
    have z0 := HSR.out.frz (k := 0) 0 rfl
    have z1 := HSR.out.frz (k := 1) 0 rfl
    have z2 := HSR.out.frz (k := 2) 0 rfl
    have z3 := HSR.out.frz (k := 3) 0 rfl
    have z4 := HSR.out.frz (k := 4) 0 rfl
    go_wp2
    refine wp_region_und (by kernel_rfl) (by kernel_rfl) ?_
    repeat (go_big_quiet_step ((first | (go_at_call 57; exact und_call _ (l10Who_c _ _ _ _ _ _ _ _ _ _ _ _ _ _ _ _ _)))))
    refine wpQuiet_nil ?_
    intro X hX
    have HSR := Lib.hid (HS.out.step hX)
    clear b0 b1 b2 b3 b4 m0 m1 m2 r0 r1 r2 r3 r4 z0 z1 z2 z3 z4
    have b0 := HSR.out.cell (k := 0) 2 rfl rfl
    have b1 := HSR.out.cell (k := 1) 2 rfl rfl
    have b2 := HSR.out.cell (k := 2) 2 rfl rfl
    have b3 := HSR.out.cell (k := 3) 2 rfl rfl
    have b4 := HSR.out.cell (k := 4) 2 rfl rfl
    have m0 := HSR.out.cell (k := 0) 1 rfl rfl
    have m1 := HSR.out.cell (k := 1) 1 rfl rfl
    have m2 := HSR.out.cell (k := 2) 1 rfl rfl
    have r0 := HSR.out.cell (k := 0) 0 rfl rfl
    have r1 := HSR.out.cell (k := 1) 0 rfl rfl
    have r2 := HSR.out.cell (k := 2) 0 rfl rfl
    have r3 := HSR.out.cell (k := 3) 0 rfl rfl
    have r4 := HSR.out.cell (k := 4) 0 rfl rfl
    have z0 := HSR.out.frz (k := 0) 0 rfl
    have z1 := HSR.out.frz (k := 1) 0 rfl
    have z2 := HSR.out.frz (k := 2) 0 rfl
    have z3 := HSR.out.frz (k := 3) 0 rfl
    have z4 := HSR.out.frz (k := 4) 0 rfl
    go_wp2
    have HSF := Lib.hid (((((HSR.out.setBlk (k := 0) 0 rfl (.slice A0 t.Texts.length c0)).setBlk (k := 1) 0 rfl (.slice A1 t.Heard.length c1)).setBlk (k := 2) 0 rfl (.slice A2 t.Line.length c2)).setBlk (k := 3) 0 rfl (.slice A3 t.Log.length c3)).setBlk (k := 4) 0 rfl (.slice A4 t.Next.length c4))
    have q0 := HSF.out.cell (k := 0) 0 rfl rfl
    have q1 := HSF.out.cell (k := 1) 0 rfl rfl
    have q2 := HSF.out.cell (k := 2) 0 rfl rfl
    have q3 := HSF.out.cell (k := 3) 0 rfl rfl
    have q4 := HSF.out.cell (k := 4) 0 rfl rfl
    exact bodyPost_ret (v := .tuple #[.agg #[.slice A0 t.Texts.length c0, .slice A1 t.Heard.length c1, .slice A2 t.Line.length c2, .slice A3 t.Log.length c3, .slice A4 t.Next.length c4], .bool false]) (by simp [results, Try.results50, go_sem, q0, q1, q2, q3, q4]) rfl ⟨[.slice A0 t.Texts.length c0, .slice A1 t.Heard.length c1, .slice A2 t.Line.length c2, .slice A3 t.Log.length c3, .slice A4 t.Next.length c4], _, by rw [HF.out], by rw [HF.out]; exact (shutv_Tell (x := t) HSF.out.tail.tail.tail).left⟩
end Go.Proofs.Ytaepohocabealaa
