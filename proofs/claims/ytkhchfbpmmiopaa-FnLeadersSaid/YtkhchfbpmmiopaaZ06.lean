/-
  Joined texts, in build order: V7, Vc, Wg, Ve, Vf, Vd, Vg. Each part says what it proves; no conditions beyond those that a part names.
-/
import Derived.Test.YtkhchfbpmmiopaaZ01
import Derived.Test.YtkhchfbpmmiopaaZ02
import Derived.Test.YtkhchfbpmmiopaaZ03
import Derived.Test.YtkhchfbpmmiopaaZ04
import Derived.Test.YtkhchfbpmmiopaaZ05
import Derived.Lib.Hide
import Derived.Deep.LoopGhost
import Derived.Deep.DeepFit
/-
  Contracts: a step of an election: a letter is delivered, lost, doubled (chapter 8). No conditions beyond those named.
-/
namespace Go.Proofs.Ytkhchfbpmmiopaa
open Go.RowKit
attribute [local go_sem] und_cell cha_cell World.cell?_alloc_some
def Mm.encLetter (m : Letter) : List Value := [.int .i64 m.From, .int .i64 m.To, .int .i64 m.Term, .bool m.Ask, .int .i64 m.Age]
def Mm.zLetter : Value := .agg #[.int .i64 0, .int .i64 0, .int .i64 0, .bool false, .int .i64 0]
theorem Mm.flat_letter : Mm.FlatN rLetter Mm.encLetter := ⟨by decide, fun h => by
  obtain ⟨rfl, h1, rfl⟩ := rLetter_own h
  exact ⟨rfl, rfl, fun w' => rLetter_own_mk h1⟩⟩
theorem Try.infoDel_NAME : (Try.prog.info? 84).map (fun i => (i.zero, i.size, i.bytes)) = some (some Mm.zLetter, 5, 40) := by kernel_rfl
set_option maxRecDepth 100000 in
set_option maxHeartbeats 2000000 in
theorem delLetter_c (xs : List Letter) (g n c k : Nat) (fp : List Nat) (w : World) (hs : Mm.SlOwn rLetter 84 w xs (.slice (some ⟨g, 0, none⟩) n c) fp) (hk : k < n) (hn : n ≤ 1000000) :
    Calls Try.prog 80 #[.slice (some ⟨g, 0, none⟩) n c, .int .i64 k, .int .i64 (k + 1 : Nat)] w fun e w' => e = .returned (.slice (some ⟨g, 0, none⟩) (n - 1) c) ∧ Mm.Chg fp w w' ∧ Mm.SlOwn rLetter 84 w' (xs.eraseIdx k) (.slice (some ⟨g, 0, none⟩) (n - 1) c) fp := by
  obtain ⟨i0, hi, hz0, hz1, hz2⟩ := info_parts Try.infoDel_NAME
  have hF := Mm.flat_letter
  obtain ⟨_, _, hown, hlen⟩ := hF.owns hs
  obtain ⟨cur, hb, hcl, ht, hnx, hnc, hcm, rfl⟩ := hF.blk hs
  have herase := hF.erase hs hk (z := (Mm.zLetter : Value).cells.toList) (by rfl) (o1 := k * 5) (o2 := (n - 1) * 5) rfl rfl
  obtain ⟨news, hnews⟩ : ∃ news, (xs.drop (k + 1)).flatMap Mm.encLetter = news := ⟨_, rfl⟩
  rw [hnews] at herase
  have hln : news.length = (n - (k + 1)) * 5 := by rw [← hnews, Mm.flatMap_len (s := 5) (fun x hx => hlen x (List.mem_of_mem_drop hx)), List.length_drop, hnx]
  have hone : Hid (∀ u ∈ news, u.oneCell' = true) := by
    intro u hu
    rw [← hnews] at hu
    obtain ⟨x, hx, hu⟩ := List.mem_flatMap.1 hu
    exact (rLetter).one (hown x (List.mem_of_mem_drop hx) w) u hu
  have hcells : ∀ j u, news[j]? = some u → w.cell? ⟨g, (k + 1) * 5 + j, none⟩ = some u := fun j u hj => by
    refine hF.cells hs (j := (k + 1) * 5 + j) ?_
    rw [← hnews, Mm.flatMap_drop (s := 5) (k + 1) hlen, List.getElem?_drop] at hj
    exact hj
  obtain ⟨A, hA, hsrc⟩ : ∃ A : Addr, (if c = k + 1 then (some ⟨g, 0, none⟩ : Option Addr) else some ⟨g, (k + 1) * 5, none⟩) = some A ∧ Hid (∀ j u, news[j]? = some u → w.drew.cell? (A.add j) = some u) := by
    by_cases h : c = k + 1
    · refine ⟨⟨g, 0, none⟩, by simp [h], fun t u hu => ?_⟩
      have h0 : news.length = 0 := by rw [hln, show n - (k + 1) = 0 by omega, Nat.zero_mul]
      rw [List.length_eq_zero_iff.1 h0] at hu
      simp at hu
    · refine ⟨⟨g, (k + 1) * 5, none⟩, by simp [h], fun t u hu => ?_⟩
      rw [Addr.add_lit]
      exact hcells t u hu
  have s1 : Hid (news.length = (n - (k + 1)) * 5) := hln
  have hroom : Hid (∀ j, j < news.length → (w.drew.cell? ⟨g, 0 + k * 5 + j, none⟩).isSome = true ∧ w.drew.frozen? ⟨g, 0 + k * 5 + j, none⟩ = false) := by
    intro t ht
    have h1 : n * 5 ≤ cur.length := by rw [hcl]; exact Nat.mul_le_mul_right _ hnc
    rw [hln] at ht
    have h2 : 0 + k * 5 + t < cur.length := by omega
    exact ⟨by show (w.cell? _).isSome = true; rw [hb.cell (List.getElem?_eq_getElem h2)]; rfl, hb.frozen _⟩
  obtain ⟨W1, hW1⟩ : ∃ W1, w.drew.setCells g (0 + k * 5) news = W1 := ⟨_, rfl⟩
  have hb1 : Mm.Blk W1 g 84 (Mm.setList cur (0 + k * 5) news) := by rw [← hW1]; exact Mm.setCells_blk news _ _ _ hb
  rw [Nat.zero_add] at hW1
  rw [hW1] at herase
  have hcl1 : ∀ ty, (Builtin.clear_ #[28] ty #[.slice (some ⟨g, (k + (n - (k + 1))) * 5, none⟩) (n - (k + (n - (k + 1)))) (c - (k + (n - (k + 1))))]).run Try.prog W1 = .ok (.tuple #[]) (W1.setCells g ((n - 1) * 5) (Mm.zLetter : Value).cells.toList) := fun ty => by
    rw [show k + (n - (k + 1)) = n - 1 by omega, show n - (n - 1) = 1 by omega]
    have hsz : ((Mm.zLetter : Value).cells).size = 5 := by rfl
    have h1 : n * 5 ≤ cur.length := by rw [hcl]; exact Nat.mul_le_mul_right _ hnc
    have h2 : ∀ j, j < 5 → (n - 1) * 5 + j < (Mm.setList cur (0 + k * 5) news).length := fun j hj => by rw [Mm.setList_len]; omega
    refine Mm.run_clear_one W1 _ 84 ty Mm.zLetter Try.underlying28 (fun w => by simp [zeroValue, typeInfo, hi, hz0]) (by decide) g _ _ (fun j hj => ?_) (fun j hj => hb1.frozen _)
    rw [hsz] at hj
    rw [hb1.cell (List.getElem?_eq_getElem (h2 j hj))]; rfl
  obtain ⟨zl, hzl⟩ : ∃ zl, (Mm.zLetter : Value).cells.toList = zl := ⟨_, rfl⟩
  rw [hzl] at herase
  simp only [hzl] at hcl1
  clear hzl
  have HE := Lib.hid herase
  have hW : Hid (w.drew.setCells g (0 + k * 5) news = W1) := by rw [Nat.zero_add]; exact hW1
  have hkc : k ≤ c := by omega
  have hk1c : k + 1 ≤ c := by omega
  have hkn : k + 1 ≤ n := by omega
  have hc2 := hcm
  have hnx2 := Lib.hid hnx
  have f1 : (0 : Int) ≤ (k : Int) + 1 := by omega
  have f2 : (k : Int) + 1 ≤ ((n : Nat) : Int) := by omega
  have f3 : (k : Int) ≤ ((n : Nat) : Int) := by omega
  unfold maxLen at hc2
  clear hnx hW1 herase hcells hb hb1 hcl ht hown hlen hnews hs hln
  go_enter Try.func80, Try.ntmps80
  go_wp2_with fail
  go_region_law (refine step_append_room rfl (.tmp 22) (.tmp 25) 28 rfl 84 i0 5 Try.underlying28 hi hz1 g 0 k c (by simp [Act.eval, Act.put]) A (n - (k + 1)) (c - (k + 1)) news (by simp [Act.eval, Act.put]) s1.out hsrc.out hone.out (by omega) hroom.out ?_; rw [hW.out])
  go_wp2
  exact bodyPost_ret (v := .slice (some ⟨g, 0, none⟩) (k + (n - (k + 1))) c) (by simp [results, Try.results80, go_sem]) rfl ⟨by rw [show k + (n - (k + 1)) = n - 1 by omega], HE.out⟩
theorem Mm.letter_inv {w : World} {xs : List Letter} {v : Value} {fp : List Nat} (h : Mm.SlOwn rLetter 84 w xs v fp) {k : Nat} {m : Letter} (hk : xs[k]? = some m) : Mm.I64 m.From ∧ Mm.I64 m.To ∧ Mm.I64 m.Term ∧ Mm.I64 m.Age := by
  obtain ⟨es, he, -, -⟩ := h
  have hl := (List.getElem?_eq_some_iff.1 hk).1
  exact (rLetter_own (he.2 k _ _ hk (List.getElem?_eq_getElem (show k < es.length by rw [he.1]; exact hl)))).2.1
theorem Pl.pstepL (p : Poll) (kd kk : Int) (hd : 2 ≤ kd ∧ kd ≤ 4) : Pl.pstep p ⟨kd, kk⟩ = if 0 ≤ kk ∧ kk < p.Letters.length then
    (if kd = 4 then (if p.Letters.length = 60 then (p, false) else ({ p with Letters := p.Letters ++ [Pl.letAt p kk] }, true))
    else if kd = 2 then (Pl.ptake (Pl.pdrop p kk) (Pl.letAt p kk), true)
    else (Pl.pdrop p kk, true)) else (p, false) := by
  have hkd : kd = 2 ∨ kd = 3 ∨ kd = 4 := by omega
  by_cases h : 0 ≤ kk ∧ kk < p.Letters.length
  · by_cases h4 : p.Letters.length = 60
    · rcases hkd with rfl | rfl | rfl <;> simp [Pl.pstep, h, h4] <;> omega
    · rcases hkd with rfl | rfl | rfl <;> simp [Pl.pstep, h, h4]
  · have h' : ¬ (0 ≤ kk ∧ kk < (p.Letters.length : Int) ∧ p.Letters.length ≠ 60) := fun hh => h ⟨hh.1, hh.2.1⟩
    rcases hkd with rfl | rfl | rfl
    · rw [if_neg h]; exact (if_neg (show ¬ (2 : Int) = 1 by decide)).trans ((if_neg (show ¬ (2 : Int) = 5 by decide)).trans ((if_pos rfl).trans (if_neg h)))
    · rw [if_neg h]; exact (if_neg (show ¬ (3 : Int) = 1 by decide)).trans ((if_neg (show ¬ (3 : Int) = 5 by decide)).trans ((if_neg (show ¬ (3 : Int) = 2 by decide)).trans ((if_pos rfl).trans (if_neg h))))
    · rw [if_neg h]; exact (if_neg (show ¬ (4 : Int) = 1 by decide)).trans ((if_neg (show ¬ (4 : Int) = 5 by decide)).trans ((if_neg (show ¬ (4 : Int) = 2 by decide)).trans ((if_neg (show ¬ (4 : Int) = 3 by decide)).trans ((if_pos rfl).trans (if_neg h')))))
theorem Pl.PW.drop {p : Poll} (h : Pl.PW p) (k : Int) : Pl.PW (Pl.pdrop p k) :=
  ⟨h.n1, h.n5, Nat.le_trans (List.length_eraseIdx_le _ _) h.lets, h.leads, h.node, fun x hx => h.letr x (List.mem_of_mem_eraseIdx hx), h.lead⟩
set_option maxRecDepth 100000 in
set_option maxHeartbeats 4000000 in
theorem stepTake_c (p : Poll) (kk : Int) (g : Nat) (fp : List Nat) (w : World) (h : (Mm.tptr rPoll 31 g p fp).holds w) (hnd : (g :: fp).Nodup) (hw : Pl.PW p) :
    Calls Try.prog 48 #[.pointer (some ⟨g, 0, none⟩), .agg #[.int .i64 2, .int .i64 kk]] w (PAns g fp w (Pl.pstep p ⟨2, kk⟩)) := by
  obtain ⟨A0, n0, c0, A1, n1, c1, A2, n2, c2, f0, f1, f2, rfl, hs⟩ := open_Poll (Mm.SepF.one _ w h hnd)
  obtain ⟨g0, rfl, -, -⟩ := Mm.sl_addr (hs.sl 1 rfl) (by have := hw.n1; omega)
  have hln0 : n0 = p.Nodes.length := by obtain ⟨A', n', c', hv, h1, _⟩ := (hs.sl 1 rfl).form; injection hv with _ h2 _; omega
  have hln1 : n1 = p.Letters.length := by obtain ⟨A', n', c', hv, h1, _⟩ := (hs.sl 2 rfl).form; injection hv with _ h2 _; omega
  have hn5 := hw.n5
  have hl60 := hw.lets
  have hn05 : n0 ≤ 5 := by omega
  have hn160 : n1 ≤ 60 := by omega
  obtain ⟨gs, hgs⟩ : ∃ g, w.heap.size = g := ⟨_, rfl⟩
  obtain ⟨W0, hW0⟩ : ∃ W, w.alloc (.cells #[.int .i64 2, .int .i64 kk] 56) = W := ⟨_, rfl⟩
  have HS := Lib.hid ((hs.alloc' hgs 56 [.int .i64 2, .int .i64 kk]).atW hW0)
  have HW := Lib.hid hw
  have HN0 := Lib.hid hln0
  have HN1 := Lib.hid hln1
  clear h hs hnd hw hln0 hln1
  have fw0 : IntKind.i64.wrap ((n0 : Int) - 1) = (n0 : Int) - 1 := IntWalk.i64_in _ (by omega)
  have fw1 : IntKind.i64.wrap ((n1 : Int) - 1) = (n1 : Int) - 1 := IntWalk.i64_in _ (by omega)
  go_enter Try.func48, Try.ntmps48
  go_upto_region 1 with fail
  clear hW0 hgs
  have s0 := HS.out.cell (k := 0) 0 rfl rfl
  have s1 := HS.out.cell (k := 1) 0 rfl rfl
  have b0 := HS.out.cell (k := 0) 1 rfl rfl
  have b1 := HS.out.cell (k := 1) 1 rfl rfl
  have HP := Lib.hid (Pl.pstepL p 2 kk (by omega))
  by_cases hin : 0 ≤ kk ∧ kk ≤ (n1 : Int) - 1
  rotate_left
  · have CW := fun z : Und W0 => und_same z (within_is8 (Pl.isIn_not hin) (und W0 z))
    have HF : Hid (Pl.pstep p ⟨2, kk⟩ = (p, false)) := Lib.hid (by rw [HP.out, if_neg (fun hh => hin ⟨hh.1, by have := hh.2; have := HN1.out; omega⟩)])
    clear hin
    go_wp2
    refine wp_region_und (by kernel_rfl) (by kernel_rfl) ?_
    repeat (go_big_quiet_step ((first | (go_at_call 43; with_reducible exact CW _))))
    refine wpQuiet_nil ?_
    intro X hX
    replace HS := Lib.hid (HS.out.step hX)
    go_wp2
    exact bodyPost_ret (v := .bool false) (by simp [results, Try.results48, go_sem]) rfl ⟨by rw [HF.out], _, by rw [HF.out]; exact (shut_Poll HS.out.tail).left⟩
  have CW := fun z : Und W0 => und_same z (within_is8 (Pl.isIn_iff.2 hin) (und W0 z))
  obtain ⟨k, rfl⟩ : ∃ k : Nat, kk = k := ⟨kk.toNat, by omega⟩
  have hk : k < p.Letters.length := by have := HN1.out; omega
  have hkn : (k : Int) < (n1 : Nat) := by omega
  have hk0 : (0 : Int) ≤ (k : Nat) := by omega
  have hkt : ((k : Nat) : Int).toNat = k := by omega
  rw [if_pos ⟨hk0, by omega⟩] at HP
  have hx := HW.out.lat (k := (k : Int)) (by omega) (by omega)
  have hmk := HW.out.lok (k := (k : Int)) (by omega) (by omega)
  rw [hkt] at hx
  obtain ⟨m, hm⟩ : ∃ m, Pl.letAt p (k : Int) = m := ⟨_, rfl⟩
  rw [hm] at hx hmk HP
  have HX := Lib.hid hx
  have HMK := Lib.hid hmk
  have HK := Lib.hid hk
  clear hin hk hx hmk hm
  go_wp2
  refine wp_region_und (by kernel_rfl) (by kernel_rfl) ?_
  repeat (go_big_quiet_step ((first | (go_at_call 43; with_reducible exact CW _))))
  refine wpQuiet_nil ?_
  intro X hX
  replace HS := Lib.hid (HS.out.step hX)
  clear CW hX s0 s1 b0 b1
  obtain ⟨g2, rfl, -, -⟩ := Mm.sl_addr (HS.out.sl 3 rfl) (by have := HK.out; omega)
  have HMI := Lib.hid (Mm.letter_inv (HS.out.sl 3 rfl) HX.out)
  have hcap : n1 ≤ c1 ∧ c1 ≤ maxLen := by obtain ⟨A', n', c', hv, h1, h2, h3, _⟩ := (HS.out.sl 3 rfl).form; injection hv with _ h4 h5; omega
  unfold maxLen at hcap
  have s0 := HS.out.cell (k := 0) 0 rfl rfl
  have s1 := HS.out.cell (k := 1) 0 rfl rfl
  have b0 := HS.out.cell (k := 0) 1 rfl rfl
  have b1 := HS.out.cell (k := 1) 1 rfl rfl
  go_upto_region 23 with fail
  obtain ⟨q0, q1, q2, q3, q4⟩ := rLetter_ocell (HS.out.sl 3 rfl) (HS.out.ndat (i := 3) rfl) HX.out
  refine Mm.wp_region_give 9 (fun i => match i with | 8 => some (Mm.gPtr 84 [.int .i64 0, .int .i64 0, .int .i64 0, .bool false, .int .i64 0]) | _ => none) (fun _ => []) (fun _ => []) (F := []) (D := fun w' => ∃ x : Und X, w' = und X x) (fun X us h => Mm.sep_und h) (by kernel_rfl) (by kernel_rfl) (by kernel_rfl) (Mm.SepF.startDrew _) ?_
  repeat (refine Mm.give_det (by rfl) (by rfl) (by rfl) (fun K hK => ?_); go_big_quiet_op; refine hK _ ?_; clear hK K)
  refine Mm.give_op0 5 (by rfl) rfl (by rfl) (by rfl) (by rfl) (by rfl) Mm.gPtr_in (fun others X2 hX2 => ?_) ?_
  · go_wp2
    exact Mm.gvq_ptr hX2 rfl rfl rfl
  rintro v ds ⟨g6, rfl, rfl⟩
  simp only [Act.put, List.setIfInBounds_toArray, List.set_cons_succ, List.set_cons_zero]
  refine Mm.give_nil ?_
  rintro X2 hX2
  have HS2 := Lib.hid (HS.out.join (us := [Mm.tblk g6 84 [.int .i64 0, .int .i64 0, .int .i64 0, .bool false, .int .i64 0]]) hX2)
  clear hX2 s0 s1 b0 b1 q0 q1 q2 q3 q4
  have p0 := HS2.out.frz (k := 0) 0 rfl
  have p1 := HS2.out.frz (k := 1) 0 rfl
  have p2 := HS2.out.frz (k := 2) 0 rfl
  have p3 := HS2.out.frz (k := 3) 0 rfl
  have p4 := HS2.out.frz (k := 4) 0 rfl
  have s0 := HS2.out.cell (k := 0) 0 rfl rfl
  have s1 := HS2.out.cell (k := 1) 0 rfl rfl
  have s2 := HS2.out.cell (k := 2) 0 rfl rfl
  have s3 := HS2.out.cell (k := 3) 0 rfl rfl
  have s4 := HS2.out.cell (k := 4) 0 rfl rfl
  have HS3 : Hid (Mm.SepF _ w _ [_, _, _, _, _, _]) := (((((HS2.out.setBlk (k := 0) 0 rfl (.int .i64 m.From)).setBlk (k := 1) 0 rfl (.int .i64 m.To)).setBlk (k := 2) 0 rfl (.int .i64 m.Term)).setBlk (k := 3) 0 rfl (.bool m.Ask)).setBlk (k := 4) 0 rfl (.int .i64 m.Age))
  go_upto_region 24 with fail
  clear p0 p1 p2 p3 p4 s0 s1 s2 s3 s4
  obtain ⟨W3, hW3⟩ : ∃ W3, ((((X2.setCell ⟨g6, 0, none⟩ (.int .i64 m.From)).setCell ⟨g6, 1, none⟩ (.int .i64 m.To)).setCell ⟨g6, 2, none⟩ (.int .i64 m.Term)).setCell ⟨g6, 3, none⟩ (.bool m.Ask)).setCell ⟨g6, 4, none⟩ (.int .i64 m.Age) = W3 := ⟨_, rfl⟩
  rw [hW3] at HS3 ⊢
  clear hW3
  have s0 := HS3.out.cell (k := 0) 1 rfl rfl
  have s1 := HS3.out.cell (k := 1) 1 rfl rfl
  have b1 := HS3.out.cell (k := 1) 2 rfl rfl
  have n0 : g ∉ f1 := HS3.out.apart (i := 2) (j := 4) rfl rfl (by decide) g (by simp [Mm.tblk])
  have n1' : gs ∉ f1 := HS3.out.apart (i := 1) (j := 4) rfl rfl (by decide) _ (by simp [Mm.tblk])
  refine Mm.wp_region_give 13 (fun i => match i with | 10 => some (Mm.gSl rLetter 84 (p.Letters.eraseIdx k)) | _ => none) (fun i => match i with | 10 => [14] | _ => []) (fun i => match i with | 14 => [Mm.tsl rLetter 84 p.Letters (.slice (some ⟨g2, 0, none⟩) n1 c1) f1] | _ => []) (F := f1) (D := fun w' => ∃ x : Cha f1 W3, w' = cha f1 W3 x) (fun X us h => Mm.sep_cha h) (by kernel_rfl) (by kernel_rfl) (by kernel_rfl) (Mm.sep_eq ((Mm.SepF.one (Mm.tsl rLetter 84 p.Letters (.slice (some ⟨g2, 0, none⟩) n1 c1) f1) W3 (HS3.out.at_ 4 rfl) (HS3.out.ndat (i := 4) rfl)).step (Below.refl _ _).drew) rfl) ?_
  repeat (refine Mm.give_det (by rfl) (by rfl) (by rfl) (fun K hK => ?_); go_big_quiet_op; refine hK _ ?_; clear hK K)
  refine Mm.give_op1 104 14 (by rfl) rfl (by rfl) (by rfl) (by rfl) rfl (by rfl) _ rfl Mm.gSl_in (fun others X4 hX4 => ?_) ?_
  · go_wp2_with (go_at_call 80; refine (delLetter_c p.Letters g2 _ c1 k f1 X4 (hX4.sl 0 rfl) (by omega) (by omega)).mono ?_; rintro e w5 ⟨rfl, k1, k2⟩)
    exact ⟨rfl, rfl, _, ⟨_, _, _, f1, rfl, rfl, by show _ = _; rw [List.length_eraseIdx_of_lt HK.out, HN1.out]⟩, hX4.upd (i := 0) (t' := Mm.tsl rLetter 84 (p.Letters.eraseIdx k) (.slice (some ⟨g2, 0, none⟩) (n1 - 1) c1) f1) rfl k1 k2 (hX4.ndat (i := 0) (t := Mm.tsl rLetter 84 p.Letters (.slice (some ⟨g2, 0, none⟩) n1 c1) f1) rfl) (fun b hb => .inl hb)⟩
  rintro v ds ⟨A5, n5, c5, f5, rfl, rfl, hn5⟩
  simp only [Act.put, List.setIfInBounds_toArray, List.set_cons_succ, List.set_cons_zero]
  repeat (refine Mm.give_det (by rfl) (by rfl) (by rfl) (fun K hK => ?_); go_big_quiet_op; refine hK _ ?_; clear hK K)
  refine Mm.give_nil ?_
  rintro X4 hX4
  have HS4 := Lib.hid (HS3.out.call 4 rfl (Mm.sep_eq (us := [Mm.tsl rLetter 84 (p.Letters.eraseIdx k) (.slice A5 n5 c5) f5]) hX4 rfl).left)
  clear hX4 s0 s1 b1
  have b1 := HS4.out.cell (k := 1) 2 rfl rfl
  have z1 := HS4.out.frz (k := 1) 2 rfl
  have HS5 : Hid (Mm.SepF _ w _ [_, _, _, _, _, _]) := HS4.out.setBlk (k := 1) 2 rfl (.slice A5 n5 c5)
  go_upto_region 25 with fail
  clear b1 z1
  obtain ⟨W5, hW5⟩ : ∃ W5, X4.setCell ⟨g, 1, none⟩ (.slice A5 n5 c5) = W5 := ⟨_, rfl⟩
  rw [hW5] at HS5 ⊢
  clear hW5
  have s0 := HS5.out.cell (k := 0) 1 rfl rfl
  have m0 := HS5.out.cell (k := 0) 0 rfl rfl
  have m1 := HS5.out.cell (k := 1) 0 rfl rfl
  have m2 := HS5.out.cell (k := 2) 0 rfl rfl
  have m3 := HS5.out.cell (k := 3) 0 rfl rfl
  have m4 := HS5.out.cell (k := 4) 0 rfl rfl
  have HS6 := Lib.hid (shut_Poll (x := Pl.pdrop p (k : Int)) (by have h := HS5.out.sel [2, 3, 4, 5, 0, 1] (by decide) rfl; unfold Pl.pdrop; rw [hkt]; exact h))
  have CT := deliver_c (Pl.pdrop p (k : Int)) m g _ W5 (HS6.out.at_ 0 rfl) (HS6.out.ndat (i := 0) rfl) (HW.out.drop _) HMK.out
  rw [if_neg (show ¬ (2 : Int) = 4 by decide), if_pos trivial] at HP
  go_wp2_with (go_at_call 81; (with_reducible refine CT.mono ?_); clear CT; rintro e w9 ⟨rfl, fp9, hL⟩; (have HC4 := Lib.hid (HS6.out.call 0 rfl hL)); clear hL)
  exact bodyPost_ret (v := .bool true) (by simp [results, Try.results48, go_sem]) rfl ⟨by rw [HP.out], _, by rw [HP.out]; exact (HC4.out.sel [0] (by decide) rfl).left⟩
set_option maxRecDepth 100000 in
set_option maxHeartbeats 4000000 in
theorem stepLose_c (p : Poll) (kk : Int) (g : Nat) (fp : List Nat) (w : World) (h : (Mm.tptr rPoll 31 g p fp).holds w) (hnd : (g :: fp).Nodup) (hw : Pl.PW p) :
    Calls Try.prog 48 #[.pointer (some ⟨g, 0, none⟩), .agg #[.int .i64 3, .int .i64 kk]] w (PAns g fp w (Pl.pstep p ⟨3, kk⟩)) := by
  obtain ⟨A0, n0, c0, A1, n1, c1, A2, n2, c2, f0, f1, f2, rfl, hs⟩ := open_Poll (Mm.SepF.one _ w h hnd)
  obtain ⟨g0, rfl, -, -⟩ := Mm.sl_addr (hs.sl 1 rfl) (by have := hw.n1; omega)
  have hln0 : n0 = p.Nodes.length := by obtain ⟨A', n', c', hv, h1, _⟩ := (hs.sl 1 rfl).form; injection hv with _ h2 _; omega
  have hln1 : n1 = p.Letters.length := by obtain ⟨A', n', c', hv, h1, _⟩ := (hs.sl 2 rfl).form; injection hv with _ h2 _; omega
  have hn5 := hw.n5
  have hl60 := hw.lets
  have hn05 : n0 ≤ 5 := by omega
  have hn160 : n1 ≤ 60 := by omega
  obtain ⟨gs, hgs⟩ : ∃ g, w.heap.size = g := ⟨_, rfl⟩
  obtain ⟨W0, hW0⟩ : ∃ W, w.alloc (.cells #[.int .i64 3, .int .i64 kk] 56) = W := ⟨_, rfl⟩
  have HS := Lib.hid ((hs.alloc' hgs 56 [.int .i64 3, .int .i64 kk]).atW hW0)
  have HW := Lib.hid hw
  have HN0 := Lib.hid hln0
  have HN1 := Lib.hid hln1
  clear h hs hnd hw hln0 hln1
  have fw0 : IntKind.i64.wrap ((n0 : Int) - 1) = (n0 : Int) - 1 := IntWalk.i64_in _ (by omega)
  have fw1 : IntKind.i64.wrap ((n1 : Int) - 1) = (n1 : Int) - 1 := IntWalk.i64_in _ (by omega)
  go_enter Try.func48, Try.ntmps48
  go_upto_region 1 with fail
  clear hW0 hgs
  have s0 := HS.out.cell (k := 0) 0 rfl rfl
  have s1 := HS.out.cell (k := 1) 0 rfl rfl
  have b0 := HS.out.cell (k := 0) 1 rfl rfl
  have b1 := HS.out.cell (k := 1) 1 rfl rfl
  have HP := Lib.hid (Pl.pstepL p 3 kk (by omega))
  by_cases hin : 0 ≤ kk ∧ kk ≤ (n1 : Int) - 1
  rotate_left
  · have CW := fun z : Und W0 => und_same z (within_is8 (Pl.isIn_not hin) (und W0 z))
    have HF : Hid (Pl.pstep p ⟨3, kk⟩ = (p, false)) := Lib.hid (by rw [HP.out, if_neg (fun hh => hin ⟨hh.1, by have := hh.2; have := HN1.out; omega⟩)])
    clear hin
    go_wp2
    refine wp_region_und (by kernel_rfl) (by kernel_rfl) ?_
    repeat (go_big_quiet_step ((first | (go_at_call 43; with_reducible exact CW _))))
    refine wpQuiet_nil ?_
    intro X hX
    replace HS := Lib.hid (HS.out.step hX)
    go_wp2
    exact bodyPost_ret (v := .bool false) (by simp [results, Try.results48, go_sem]) rfl ⟨by rw [HF.out], _, by rw [HF.out]; exact (shut_Poll HS.out.tail).left⟩
  have CW := fun z : Und W0 => und_same z (within_is8 (Pl.isIn_iff.2 hin) (und W0 z))
  obtain ⟨k, rfl⟩ : ∃ k : Nat, kk = k := ⟨kk.toNat, by omega⟩
  have hk : k < p.Letters.length := by have := HN1.out; omega
  have hkn : (k : Int) < (n1 : Nat) := by omega
  have hk0 : (0 : Int) ≤ (k : Nat) := by omega
  have hkt : ((k : Nat) : Int).toNat = k := by omega
  rw [if_pos ⟨hk0, by omega⟩] at HP
  have hx := HW.out.lat (k := (k : Int)) (by omega) (by omega)
  have hmk := HW.out.lok (k := (k : Int)) (by omega) (by omega)
  rw [hkt] at hx
  obtain ⟨m, hm⟩ : ∃ m, Pl.letAt p (k : Int) = m := ⟨_, rfl⟩
  rw [hm] at hx hmk HP
  have HX := Lib.hid hx
  have HMK := Lib.hid hmk
  have HK := Lib.hid hk
  clear hin hk hx hmk hm
  go_wp2
  refine wp_region_und (by kernel_rfl) (by kernel_rfl) ?_
  repeat (go_big_quiet_step ((first | (go_at_call 43; with_reducible exact CW _))))
  refine wpQuiet_nil ?_
  intro X hX
  replace HS := Lib.hid (HS.out.step hX)
  clear CW hX s0 s1 b0 b1
  obtain ⟨g2, rfl, -, -⟩ := Mm.sl_addr (HS.out.sl 3 rfl) (by have := HK.out; omega)
  have HMI := Lib.hid (Mm.letter_inv (HS.out.sl 3 rfl) HX.out)
  have hcap : n1 ≤ c1 ∧ c1 ≤ maxLen := by obtain ⟨A', n', c', hv, h1, h2, h3, _⟩ := (HS.out.sl 3 rfl).form; injection hv with _ h4 h5; omega
  unfold maxLen at hcap
  have s0 := HS.out.cell (k := 0) 0 rfl rfl
  have s1 := HS.out.cell (k := 1) 0 rfl rfl
  have b0 := HS.out.cell (k := 0) 1 rfl rfl
  have b1 := HS.out.cell (k := 1) 1 rfl rfl
  go_upto_region 23 with fail
  obtain ⟨q0, q1, q2, q3, q4⟩ := rLetter_ocell (HS.out.sl 3 rfl) (HS.out.ndat (i := 3) rfl) HX.out
  refine Mm.wp_region_give 9 (fun i => match i with | 8 => some (Mm.gPtr 84 [.int .i64 0, .int .i64 0, .int .i64 0, .bool false, .int .i64 0]) | _ => none) (fun _ => []) (fun _ => []) (F := []) (D := fun w' => ∃ x : Und X, w' = und X x) (fun X us h => Mm.sep_und h) (by kernel_rfl) (by kernel_rfl) (by kernel_rfl) (Mm.SepF.startDrew _) ?_
  repeat (refine Mm.give_det (by rfl) (by rfl) (by rfl) (fun K hK => ?_); go_big_quiet_op; refine hK _ ?_; clear hK K)
  refine Mm.give_op0 5 (by rfl) rfl (by rfl) (by rfl) (by rfl) (by rfl) Mm.gPtr_in (fun others X2 hX2 => ?_) ?_
  · go_wp2
    exact Mm.gvq_ptr hX2 rfl rfl rfl
  rintro v ds ⟨g6, rfl, rfl⟩
  simp only [Act.put, List.setIfInBounds_toArray, List.set_cons_succ, List.set_cons_zero]
  refine Mm.give_nil ?_
  rintro X2 hX2
  have HS2 := Lib.hid (HS.out.join (us := [Mm.tblk g6 84 [.int .i64 0, .int .i64 0, .int .i64 0, .bool false, .int .i64 0]]) hX2)
  clear hX2 s0 s1 b0 b1 q0 q1 q2 q3 q4
  have p0 := HS2.out.frz (k := 0) 0 rfl
  have p1 := HS2.out.frz (k := 1) 0 rfl
  have p2 := HS2.out.frz (k := 2) 0 rfl
  have p3 := HS2.out.frz (k := 3) 0 rfl
  have p4 := HS2.out.frz (k := 4) 0 rfl
  have s0 := HS2.out.cell (k := 0) 0 rfl rfl
  have s1 := HS2.out.cell (k := 1) 0 rfl rfl
  have s2 := HS2.out.cell (k := 2) 0 rfl rfl
  have s3 := HS2.out.cell (k := 3) 0 rfl rfl
  have s4 := HS2.out.cell (k := 4) 0 rfl rfl
  have HS3 : Hid (Mm.SepF _ w _ [_, _, _, _, _, _]) := (((((HS2.out.setBlk (k := 0) 0 rfl (.int .i64 m.From)).setBlk (k := 1) 0 rfl (.int .i64 m.To)).setBlk (k := 2) 0 rfl (.int .i64 m.Term)).setBlk (k := 3) 0 rfl (.bool m.Ask)).setBlk (k := 4) 0 rfl (.int .i64 m.Age))
  go_upto_region 24 with fail
  clear p0 p1 p2 p3 p4 s0 s1 s2 s3 s4
  obtain ⟨W3, hW3⟩ : ∃ W3, ((((X2.setCell ⟨g6, 0, none⟩ (.int .i64 m.From)).setCell ⟨g6, 1, none⟩ (.int .i64 m.To)).setCell ⟨g6, 2, none⟩ (.int .i64 m.Term)).setCell ⟨g6, 3, none⟩ (.bool m.Ask)).setCell ⟨g6, 4, none⟩ (.int .i64 m.Age) = W3 := ⟨_, rfl⟩
  rw [hW3] at HS3 ⊢
  clear hW3
  have s0 := HS3.out.cell (k := 0) 1 rfl rfl
  have s1 := HS3.out.cell (k := 1) 1 rfl rfl
  have b1 := HS3.out.cell (k := 1) 2 rfl rfl
  have n0 : g ∉ f1 := HS3.out.apart (i := 2) (j := 4) rfl rfl (by decide) g (by simp [Mm.tblk])
  have n1' : gs ∉ f1 := HS3.out.apart (i := 1) (j := 4) rfl rfl (by decide) _ (by simp [Mm.tblk])
  refine Mm.wp_region_give 13 (fun i => match i with | 10 => some (Mm.gSl rLetter 84 (p.Letters.eraseIdx k)) | _ => none) (fun i => match i with | 10 => [14] | _ => []) (fun i => match i with | 14 => [Mm.tsl rLetter 84 p.Letters (.slice (some ⟨g2, 0, none⟩) n1 c1) f1] | _ => []) (F := f1) (D := fun w' => ∃ x : Cha f1 W3, w' = cha f1 W3 x) (fun X us h => Mm.sep_cha h) (by kernel_rfl) (by kernel_rfl) (by kernel_rfl) (Mm.sep_eq ((Mm.SepF.one (Mm.tsl rLetter 84 p.Letters (.slice (some ⟨g2, 0, none⟩) n1 c1) f1) W3 (HS3.out.at_ 4 rfl) (HS3.out.ndat (i := 4) rfl)).step (Below.refl _ _).drew) rfl) ?_
  repeat (refine Mm.give_det (by rfl) (by rfl) (by rfl) (fun K hK => ?_); go_big_quiet_op; refine hK _ ?_; clear hK K)
  refine Mm.give_op1 104 14 (by rfl) rfl (by rfl) (by rfl) (by rfl) rfl (by rfl) _ rfl Mm.gSl_in (fun others X4 hX4 => ?_) ?_
  · go_wp2_with (go_at_call 80; refine (delLetter_c p.Letters g2 _ c1 k f1 X4 (hX4.sl 0 rfl) (by omega) (by omega)).mono ?_; rintro e w5 ⟨rfl, k1, k2⟩)
    exact ⟨rfl, rfl, _, ⟨_, _, _, f1, rfl, rfl, by show _ = _; rw [List.length_eraseIdx_of_lt HK.out, HN1.out]⟩, hX4.upd (i := 0) (t' := Mm.tsl rLetter 84 (p.Letters.eraseIdx k) (.slice (some ⟨g2, 0, none⟩) (n1 - 1) c1) f1) rfl k1 k2 (hX4.ndat (i := 0) (t := Mm.tsl rLetter 84 p.Letters (.slice (some ⟨g2, 0, none⟩) n1 c1) f1) rfl) (fun b hb => .inl hb)⟩
  rintro v ds ⟨A5, n5, c5, f5, rfl, rfl, hn5⟩
  simp only [Act.put, List.setIfInBounds_toArray, List.set_cons_succ, List.set_cons_zero]
  repeat (refine Mm.give_det (by rfl) (by rfl) (by rfl) (fun K hK => ?_); go_big_quiet_op; refine hK _ ?_; clear hK K)
  refine Mm.give_nil ?_
  rintro X4 hX4
  have HS4 := Lib.hid (HS3.out.call 4 rfl (Mm.sep_eq (us := [Mm.tsl rLetter 84 (p.Letters.eraseIdx k) (.slice A5 n5 c5) f5]) hX4 rfl).left)
  clear hX4 s0 s1 b1
  have b1 := HS4.out.cell (k := 1) 2 rfl rfl
  have z1 := HS4.out.frz (k := 1) 2 rfl
  have HS5 : Hid (Mm.SepF _ w _ [_, _, _, _, _, _]) := HS4.out.setBlk (k := 1) 2 rfl (.slice A5 n5 c5)
  go_upto_region 25 with fail
  clear b1 z1
  obtain ⟨W5, hW5⟩ : ∃ W5, X4.setCell ⟨g, 1, none⟩ (.slice A5 n5 c5) = W5 := ⟨_, rfl⟩
  rw [hW5] at HS5 ⊢
  clear hW5
  have s0 := HS5.out.cell (k := 0) 1 rfl rfl
  have m0 := HS5.out.cell (k := 0) 0 rfl rfl
  have m1 := HS5.out.cell (k := 1) 0 rfl rfl
  have m2 := HS5.out.cell (k := 2) 0 rfl rfl
  have m3 := HS5.out.cell (k := 3) 0 rfl rfl
  have m4 := HS5.out.cell (k := 4) 0 rfl rfl
  have HS6 := Lib.hid (shut_Poll (x := Pl.pdrop p (k : Int)) (by have h := HS5.out.sel [2, 3, 4, 5, 0, 1] (by decide) rfl; unfold Pl.pdrop; rw [hkt]; exact h))
  rw [if_neg (show ¬ (3 : Int) = 4 by decide), if_neg (show ¬ (3 : Int) = 2 by decide)] at HP
  go_wp2
  exact bodyPost_ret (v := .bool true) (by simp [results, Try.results48, go_sem]) rfl ⟨by rw [HP.out], _, by rw [HP.out]; exact (HS6.out.sel [0] (by decide) rfl).left⟩
set_option maxRecDepth 100000 in
set_option maxHeartbeats 4000000 in
theorem stepTwice_c (p : Poll) (kk : Int) (g : Nat) (fp : List Nat) (w : World) (h : (Mm.tptr rPoll 31 g p fp).holds w) (hnd : (g :: fp).Nodup) (hw : Pl.PW p) :
    Calls Try.prog 48 #[.pointer (some ⟨g, 0, none⟩), .agg #[.int .i64 4, .int .i64 kk]] w (PAns g fp w (Pl.pstep p ⟨4, kk⟩)) := by
  obtain ⟨A0, n0, c0, A1, n1, c1, A2, n2, c2, f0, f1, f2, rfl, hs⟩ := open_Poll (Mm.SepF.one _ w h hnd)
  obtain ⟨g0, rfl, -, -⟩ := Mm.sl_addr (hs.sl 1 rfl) (by have := hw.n1; omega)
  have hln0 : n0 = p.Nodes.length := by obtain ⟨A', n', c', hv, h1, _⟩ := (hs.sl 1 rfl).form; injection hv with _ h2 _; omega
  have hln1 : n1 = p.Letters.length := by obtain ⟨A', n', c', hv, h1, _⟩ := (hs.sl 2 rfl).form; injection hv with _ h2 _; omega
  have hn5 := hw.n5
  have hl60 := hw.lets
  have hn05 : n0 ≤ 5 := by omega
  have hn160 : n1 ≤ 60 := by omega
  obtain ⟨gs, hgs⟩ : ∃ g, w.heap.size = g := ⟨_, rfl⟩
  obtain ⟨W0, hW0⟩ : ∃ W, w.alloc (.cells #[.int .i64 4, .int .i64 kk] 56) = W := ⟨_, rfl⟩
  have HS := Lib.hid ((hs.alloc' hgs 56 [.int .i64 4, .int .i64 kk]).atW hW0)
  have HW := Lib.hid hw
  have HN0 := Lib.hid hln0
  have HN1 := Lib.hid hln1
  clear h hs hnd hw hln0 hln1
  have fw0 : IntKind.i64.wrap ((n0 : Int) - 1) = (n0 : Int) - 1 := IntWalk.i64_in _ (by omega)
  have fw1 : IntKind.i64.wrap ((n1 : Int) - 1) = (n1 : Int) - 1 := IntWalk.i64_in _ (by omega)
  go_enter Try.func48, Try.ntmps48
  go_upto_region 1 with fail
  clear hW0 hgs
  have s0 := HS.out.cell (k := 0) 0 rfl rfl
  have s1 := HS.out.cell (k := 1) 0 rfl rfl
  have b0 := HS.out.cell (k := 0) 1 rfl rfl
  have b1 := HS.out.cell (k := 1) 1 rfl rfl
  have HP := Lib.hid (Pl.pstepL p 4 kk (by omega))
  by_cases hin : 0 ≤ kk ∧ kk ≤ (n1 : Int) - 1
  rotate_left
  · have CW := fun z : Und W0 => und_same z (within_is8 (Pl.isIn_not hin) (und W0 z))
    have HF : Hid (Pl.pstep p ⟨4, kk⟩ = (p, false)) := Lib.hid (by rw [HP.out, if_neg (fun hh => hin ⟨hh.1, by have := hh.2; have := HN1.out; omega⟩)])
    clear hin
    go_wp2
    refine wp_region_und (by kernel_rfl) (by kernel_rfl) ?_
    repeat (go_big_quiet_step ((first | (go_at_call 43; with_reducible exact CW _))))
    refine wpQuiet_nil ?_
    intro X hX
    replace HS := Lib.hid (HS.out.step hX)
    go_wp2
    exact bodyPost_ret (v := .bool false) (by simp [results, Try.results48, go_sem]) rfl ⟨by rw [HF.out], _, by rw [HF.out]; exact (shut_Poll HS.out.tail).left⟩
  have CW := fun z : Und W0 => und_same z (within_is8 (Pl.isIn_iff.2 hin) (und W0 z))
  obtain ⟨k, rfl⟩ : ∃ k : Nat, kk = k := ⟨kk.toNat, by omega⟩
  have hk : k < p.Letters.length := by have := HN1.out; omega
  have hkn : (k : Int) < (n1 : Nat) := by omega
  have hk0 : (0 : Int) ≤ (k : Nat) := by omega
  have hkt : ((k : Nat) : Int).toNat = k := by omega
  rw [if_pos ⟨hk0, by omega⟩] at HP
  have hx := HW.out.lat (k := (k : Int)) (by omega) (by omega)
  have hmk := HW.out.lok (k := (k : Int)) (by omega) (by omega)
  rw [hkt] at hx
  obtain ⟨m, hm⟩ : ∃ m, Pl.letAt p (k : Int) = m := ⟨_, rfl⟩
  rw [hm] at hx hmk HP
  have HX := Lib.hid hx
  have HMK := Lib.hid hmk
  have HK := Lib.hid hk
  clear hin hk hx hmk hm
  go_wp2
  refine wp_region_und (by kernel_rfl) (by kernel_rfl) ?_
  repeat (go_big_quiet_step ((first | (go_at_call 43; with_reducible exact CW _))))
  refine wpQuiet_nil ?_
  intro X hX
  replace HS := Lib.hid (HS.out.step hX)
  clear CW hX s0 s1 b0 b1
  obtain ⟨g2, rfl, -, -⟩ := Mm.sl_addr (HS.out.sl 3 rfl) (by have := HK.out; omega)
  have HMI := Lib.hid (Mm.letter_inv (HS.out.sl 3 rfl) HX.out)
  have hcap : n1 ≤ c1 ∧ c1 ≤ maxLen := by obtain ⟨A', n', c', hv, h1, h2, h3, _⟩ := (HS.out.sl 3 rfl).form; injection hv with _ h4 h5; omega
  unfold maxLen at hcap
  have s0 := HS.out.cell (k := 0) 0 rfl rfl
  have s1 := HS.out.cell (k := 1) 0 rfl rfl
  have b0 := HS.out.cell (k := 0) 1 rfl rfl
  have b1 := HS.out.cell (k := 1) 1 rfl rfl
  rw [if_pos trivial] at HP
  by_cases hl : p.Letters.length = 60
  · have HF : Hid (Pl.pstep p ⟨4, (k : Int)⟩ = (p, false)) := Lib.hid (by rw [HP.out, if_pos hl])
    have f4' : ((n1 : Int) == 60) = true := by have := HN1.out; simp; omega
    go_wp2
    exact bodyPost_ret (v := .bool false) (by simp [results, Try.results48, go_sem]) rfl ⟨by rw [HF.out], _, by rw [HF.out]; exact (shut_Poll HS.out.tail).left⟩
  · have HF : Hid (Pl.pstep p ⟨4, (k : Int)⟩ = ({ p with Letters := p.Letters ++ [m] }, true)) := Lib.hid (by rw [HP.out, if_neg hl])
    have f4' : ((n1 : Int) == 60) = false := by have := HN1.out; simp; omega
    have hn59 : n1 < 60 := by have := HN1.out; omega
    go_upto_region 21 with fail
    obtain ⟨q0, q1, q2, q3, q4⟩ := rLetter_ocell (HS.out.sl 3 rfl) (HS.out.ndat (i := 3) rfl) HX.out
    have z1 := HS.out.frz (k := 1) 1 rfl
    obtain ⟨i0, hi, hz0, hz1, hz2⟩ := info_parts Try.infoLetter
    obtain ⟨l0, ho2, hnext⟩ := HS.out.push0 3 rfl (W2 := (X.alloc (.cells #[.int .i64 m.From, .int .i64 m.To, .int .i64 m.Term, .bool m.Ask, .int .i64 m.Age] 84)).drew) (x := m) (below_new (Below.refl _ _) _).drew (rLetter_own_mk HMI.out)
    rw [← HN1.out] at ho2 hnext
    have HNX := Lib.hid hnext
    have HO2 := Lib.hid ho2
    clear hnext ho2
    go_region_law (first
      | (refine step_append_lies _ (by rfl) (.tmp 73) (.tmp 82) 28 (by rfl) 0 84 i0 _ 5 40 Try.underlying28 hi hz0 hz1 hz2 rfl (by omega) _ n1 l0 (by rfl) HO2.out ⟨X.heap.size, 0, none⟩ 1 1 [.int .i64 m.From, .int .i64 m.To, .int .i64 m.Term, .bool m.Ask, .int .i64 m.Age] (by rfl) (by rfl) (World.news_of_block (B := X.heap.size) (cs := #[.int .i64 m.From, .int .i64 m.To, .int .i64 m.Term, .bool m.Ask, .int .i64 m.Age]) (t := 84) (fr := (0, 0)) (Mm.heap_new X rfl _)) (by simp [Value.oneCell']) (by omega) (by unfold maxLen; omega) (by omega) (Nat.zero_le _) _ rfl ?_; intro gg cap w4 hown1 hgrow hat hlt'; obtain ⟨fp', hs4⟩ := HNX.out gg cap w4 hown1 hgrow hat; (have HS4 := Lib.hid hs4); (have d4 := HS4.out.cell (k := 1) 1 rfl rfl); (have z4 := HS4.out.frz (k := 1) 1 rfl); clear hs4 hown1 hgrow hat))
    all_goals
      go_wp2
      exact bodyPost_ret (v := .bool true) (by simp [results, Try.results48, go_sem]) rfl ⟨by rw [HF.out], _, by rw [HF.out]; exact (shut_Poll (x := { p with Letters := p.Letters ++ [m] }) (HS4.out.setBlk 1 rfl _).tail).left⟩
theorem step8_c (p : Poll) (s : VoteStep) (g : Nat) (fp : List Nat) (w : World) (h : (Mm.tptr rPoll 31 g p fp).holds w) (hnd : (g :: fp).Nodup) (hw : Pl.PW p) :
    Calls Try.prog 48 #[.pointer (some ⟨g, 0, none⟩), .agg #[.int .i64 s.Kind, .int .i64 s.K]] w (PAns g fp w (Pl.pstep p s)) := by
  obtain ⟨kd, kk⟩ := s
  by_cases h1 : kd = 1
  · subst h1; exact stepStand_c p kk g fp w h hnd hw
  by_cases h2 : kd = 2
  · subst h2; exact stepTake_c p kk g fp w h hnd hw
  by_cases h3 : kd = 3
  · subst h3; exact stepLose_c p kk g fp w h hnd hw
  by_cases h4 : kd = 4
  · subst h4; exact stepTwice_c p kk g fp w h hnd hw
  by_cases h5 : kd = 5
  · subst h5; exact stepStop_c p kk g fp w h hnd hw
  exact stepNone_c p kd kk g fp w h hnd hw (by omega)
end Go.Proofs.Ytkhchfbpmmiopaa

/-
  Contracts: the reference's election, by value: a step (chapter 8). No conditions beyond those named.
-/
namespace Go.Proofs.Ytkhchfbpmmiopaa
open Go.RowKit
attribute [local go_sem] und_cell cha_cell World.cell?_alloc_some
def PVA2 (r : Poll × Bool) (fp : List Nat) (w : World) (e : Ending) (w' : World) : Prop := ∃ cs' fp', e = .returned (.tuple #[.agg cs'.toArray, .bool r.2]) ∧ Mm.Left fp w w' (Mm.tow rPoll r.1 cs' fp')
theorem Mm.flatA_letter : Mm.Flat rLetter Mm.encLetter := ⟨fun h => (rLetter_at h).1, fun h w' => rLetter_own_mk (rLetter_at h).2⟩
theorem l8NodeIn_c (k : Int) (A0 : Option Addr) (n0 c0 : Nat) (v1 v2 : Value) (w : World) (h : 0 ≤ k ∧ k < n0) : Calls Try.prog 69 #[.agg #[.slice A0 n0 c0, v1, v2], .int .i64 k] w fun e w' => e = .returned (.bool true) ∧ Below w.heap.size w w' := by
  have f1 : (0 : Int) ≤ k := h.1
  have f2 : k < (n0 : Nat) := h.2
  have f3 : decide ((0 : Int) ≤ k) = true := by simpa using h.1
  have f4 : decide (k < (n0 : Int)) = true := by simpa using h.2
  clear h
  have HB := Lib.hid (below_new (Below.refl w.heap.size w) (.cells #[.slice A0 n0 c0, v1, v2] 31))
  go_enter Try.func69, Try.ntmps69
  go_wp2
  go_ret
  exact ⟨rfl, HB.out⟩
theorem l8NodeOut_c (k : Int) (A0 : Option Addr) (n0 c0 : Nat) (v1 v2 : Value) (w : World) (h : ¬ (0 ≤ k ∧ k < n0)) : Calls Try.prog 69 #[.agg #[.slice A0 n0 c0, v1, v2], .int .i64 k] w fun e w' => e = .returned (.bool false) ∧ Below w.heap.size w w' := by
  have HB := Lib.hid (below_new (Below.refl w.heap.size w) (.cells #[.slice A0 n0 c0, v1, v2] 31))
  by_cases h1 : 0 ≤ k
  · have f1 : (0 : Int) ≤ k := h1
    have f2 : ¬ k < (n0 : Nat) := fun h2 => h ⟨h1, h2⟩
    have f3 : decide ((0 : Int) ≤ k) = true := by simpa using h1
    have f4 : decide (k < (n0 : Int)) = false := by simpa using f2
    clear h h1
    go_enter Try.func69, Try.ntmps69
    go_wp2
    go_ret
    exact ⟨rfl, HB.out⟩
  · have f3 : decide ((0 : Int) ≤ k) = false := by simpa using h1
    clear h
    go_enter Try.func69, Try.ntmps69
    go_wp2
    go_ret
    exact ⟨rfl, HB.out⟩
set_option maxRecDepth 100000 in
set_option maxHeartbeats 4000000 in
theorem l8StepStand_c (p : Poll) (kk : Int) (cs : List Value) (fp : List Nat) (w : World) (h : (Mm.tow rPoll p cs fp).holds w) (hnd : fp.Nodup) (hw : Pl.PW p) :
    Calls Try.prog 49 #[.agg cs.toArray, .agg #[.int .i64 1, .int .i64 kk]] w (PVA2 (Pl.pstep p ⟨1, kk⟩) fp w) := by
  obtain ⟨A0, n0, c0, A1, n1, c1, A2, n2, c2, f0, f1, f2, rfl, rfl, hs⟩ := openv_Poll (Mm.SepF.one _ w h hnd)
  obtain ⟨g0, rfl, -, -⟩ := Mm.sl_addr (hs.sl 0 rfl) (by have := hw.n1; omega)
  have hln0 : n0 = p.Nodes.length := by obtain ⟨A', n', c', hv, h1, _⟩ := (hs.sl 0 rfl).form; injection hv with _ h2 _; omega
  have hln1 : n1 = p.Letters.length := by obtain ⟨A', n', c', hv, h1, _⟩ := (hs.sl 1 rfl).form; injection hv with _ h2 _; omega
  have hn5 := hw.n5
  have hl60 := hw.lets
  have hn05 : n0 ≤ 5 := by omega
  have hn160 : n1 ≤ 60 := by omega
  obtain ⟨ga, hga⟩ : ∃ g, w.heap.size = g := ⟨_, rfl⟩
  obtain ⟨gs, hgs⟩ : ∃ g, ga + 1 = g := ⟨_, rfl⟩
  obtain ⟨gc, hgc⟩ : ∃ g, gs + 1 = g := ⟨_, rfl⟩
  obtain ⟨W0, hW0⟩ : ∃ W, ((w.alloc (.cells #[.slice (some ⟨g0, 0, none⟩) n0 c0, .slice A1 n1 c1, .slice A2 n2 c2] 31)).alloc (.cells #[.int .i64 1, .int .i64 kk] 56)).alloc (.cells #[.slice none 0 0, .slice none 0 0, .slice none 0 0] 31) = W := ⟨_, rfl⟩
  have HS := Lib.hid ((((hs.alloc' hga 31 [.slice (some ⟨g0, 0, none⟩) n0 c0, .slice A1 n1 c1, .slice A2 n2 c2]).alloc' (g := gs) (by rw [Mm.sz1, hga, hgs]) 56 [.int .i64 1, .int .i64 kk]).alloc' (g := gc) (by rw [Mm.sz2, hga]; omega) 31 zPoll).atW hW0)
  have HW := Lib.hid hw
  have HN0 := Lib.hid hln0
  have HN1 := Lib.hid hln1
  clear h hs hnd hw hln0 hln1
  go_enter Try.func49, Try.ntmps49
  go_upto_region 1 with fail
  clear hW0 hga hgs hgc
  have s0 := HS.out.cell (k := 0) 1 rfl rfl
  have s1 := HS.out.cell (k := 1) 1 rfl rfl
  have b0 := HS.out.cell (k := 0) 2 rfl rfl
  have b1 := HS.out.cell (k := 1) 2 rfl rfl
  have b2 := HS.out.cell (k := 2) 2 rfl rfl
  have HP : Hid (Pl.pstep p ⟨1, kk⟩ = if 0 ≤ kk ∧ kk < p.Nodes.length ∧ (Pl.nodeAt p kk).Term ≠ 200 then (Pl.pstand p kk, true) else (p, false)) := Lib.hid (if_pos rfl)
  by_cases hin : 0 ≤ kk ∧ kk < (n0 : Int)
  rotate_left
  · have CW := l8NodeOut_c kk (some ⟨g0, 0, none⟩) n0 c0 (.slice A1 n1 c1) (.slice A2 n2 c2) W0 hin
    have HF : Hid (Pl.pstep p ⟨1, kk⟩ = (p, false)) := Lib.hid (by rw [HP.out, if_neg (fun hh => hin ⟨hh.1, by have := hh.2.1; have := HN0.out; omega⟩)])
    clear hin
    go_upto_region 5 with ((go_at_call 69); ((with_reducible refine CW.mono ?_)); (clear CW); (rintro e wn ⟨rfl, hbn⟩); ((replace HS := Lib.hid (HS.out.step hbn))); (clear hbn); ((clear s0 s1 b0 b1 b2)); ((have s0 := HS.out.cell (k := 0) 1 rfl rfl); (have s1 := HS.out.cell (k := 1) 1 rfl rfl); (have b0 := HS.out.cell (k := 0) 2 rfl rfl); (have b1 := HS.out.cell (k := 1) 2 rfl rfl); (have b2 := HS.out.cell (k := 2) 2 rfl rfl)))
    have r0 := HS.out.cell (k := 0) 0 rfl rfl
    have r1 := HS.out.cell (k := 1) 0 rfl rfl
    have r2 := HS.out.cell (k := 2) 0 rfl rfl
    have z0 := HS.out.frz (k := 0) 0 rfl
    have z1 := HS.out.frz (k := 1) 0 rfl
    have z2 := HS.out.frz (k := 2) 0 rfl
    go_wp2
    have HSF := Lib.hid (((HS.out.setBlk (k := 0) 0 rfl (.slice (some ⟨g0, 0, none⟩) n0 c0)).setBlk (k := 1) 0 rfl (.slice A1 n1 c1)).setBlk (k := 2) 0 rfl (.slice A2 n2 c2))
    have u0 := HSF.out.cell (k := 0) 0 rfl rfl
    have u1 := HSF.out.cell (k := 1) 0 rfl rfl
    have u2 := HSF.out.cell (k := 2) 0 rfl rfl
    exact bodyPost_ret (v := .tuple #[.agg #[(.slice (some ⟨g0, 0, none⟩) n0 c0), (.slice A1 n1 c1), (.slice A2 n2 c2)], .bool false]) (by simp [results, Try.results49, go_sem, u0, u1, u2]) rfl ⟨[(.slice (some ⟨g0, 0, none⟩) n0 c0), (.slice A1 n1 c1), (.slice A2 n2 c2)], _, by rw [HF.out], by rw [HF.out]; exact (shutv_Poll (x := p) (HSF.out.sel [3, 4, 5] (by decide) rfl)).left⟩
  have CW := l8NodeIn_c kk (some ⟨g0, 0, none⟩) n0 c0 (.slice A1 n1 c1) (.slice A2 n2 c2) W0 hin
  obtain ⟨k, rfl⟩ : ∃ k : Nat, kk = k := ⟨kk.toNat, by omega⟩
  have hk : k < p.Nodes.length := by have := HN0.out; omega
  have HK := Lib.hid hk
  have hkn : (k : Int) < (n0 : Nat) := by omega
  have hk0 : (0 : Int) ≤ (k : Nat) := by omega
  have hkt : ((k : Nat) : Int).toNat = k := by omega
  have hx := HW.out.at_ (k := (k : Int)) (by omega) (by omega)
  rw [hkt] at hx
  obtain ⟨nd, hnd'⟩ : ∃ nd, Pl.nodeAt p (k : Int) = nd := ⟨_, rfl⟩
  rw [hnd'] at hx
  have HX := Lib.hid hx
  have HND := Lib.hid hnd'
  clear hin hk hx hnd'
  obtain ⟨A3, m3, d3, e0, -, -, -, -, -, -, -, -, -⟩ := node_cells (HS.out.sl 3 rfl) (HS.out.ndat (i := 3) rfl) HX.out
  by_cases ht : nd.Term = 200
  · have HF : Hid (Pl.pstep p ⟨1, (k : Int)⟩ = (p, false)) := Lib.hid (by rw [HP.out, if_neg (fun hh => hh.2.2 (by rw [HND.out]; exact ht))])
    have fa : (nd.Term == 200) = true := by rw [ht]; rfl
    clear ht
    go_upto_region 5 with ((go_at_call 69); ((with_reducible refine CW.mono ?_)); (clear CW); (rintro e wn ⟨rfl, hbn⟩); ((replace HS := Lib.hid (HS.out.step hbn))); (clear hbn); ((clear s0 s1 b0 b1 b2)); ((have s0 := HS.out.cell (k := 0) 1 rfl rfl); (have s1 := HS.out.cell (k := 1) 1 rfl rfl); (have b0 := HS.out.cell (k := 0) 2 rfl rfl); (have b1 := HS.out.cell (k := 1) 2 rfl rfl); (have b2 := HS.out.cell (k := 2) 2 rfl rfl)); (replace e0 := (node_cells (HS.out.sl 3 rfl) (HS.out.ndat (i := 3) rfl) HX.out).choose_spec.choose_spec.choose_spec.1))
    clear e0
    have r0 := HS.out.cell (k := 0) 0 rfl rfl
    have r1 := HS.out.cell (k := 1) 0 rfl rfl
    have r2 := HS.out.cell (k := 2) 0 rfl rfl
    have z0 := HS.out.frz (k := 0) 0 rfl
    have z1 := HS.out.frz (k := 1) 0 rfl
    have z2 := HS.out.frz (k := 2) 0 rfl
    go_wp2
    have HSF := Lib.hid (((HS.out.setBlk (k := 0) 0 rfl (.slice (some ⟨g0, 0, none⟩) n0 c0)).setBlk (k := 1) 0 rfl (.slice A1 n1 c1)).setBlk (k := 2) 0 rfl (.slice A2 n2 c2))
    have u0 := HSF.out.cell (k := 0) 0 rfl rfl
    have u1 := HSF.out.cell (k := 1) 0 rfl rfl
    have u2 := HSF.out.cell (k := 2) 0 rfl rfl
    exact bodyPost_ret (v := .tuple #[.agg #[(.slice (some ⟨g0, 0, none⟩) n0 c0), (.slice A1 n1 c1), (.slice A2 n2 c2)], .bool false]) (by simp [results, Try.results49, go_sem, u0, u1, u2]) rfl ⟨[(.slice (some ⟨g0, 0, none⟩) n0 c0), (.slice A1 n1 c1), (.slice A2 n2 c2)], _, by rw [HF.out], by rw [HF.out]; exact (shutv_Poll (x := p) (HSF.out.sel [3, 4, 5] (by decide) rfl)).left⟩
  · have HF : Hid (Pl.pstep p ⟨1, (k : Int)⟩ = (Pl.pstand p (k : Int), true)) := Lib.hid (by rw [HP.out, if_pos ⟨by omega, by have := HK.out; show (k : Int) < _; omega, by rw [HND.out]; exact ht⟩])
    have fa : (nd.Term == 200) = false := by simpa using ht
    have HTT := Lib.hid ht
    clear ht
    go_upto_region 7 with ((go_at_call 69); ((with_reducible refine CW.mono ?_)); (clear CW); (rintro e wn ⟨rfl, hbn⟩); ((replace HS := Lib.hid (HS.out.step hbn))); (clear hbn); ((clear s0 s1 b0 b1 b2)); ((have s0 := HS.out.cell (k := 0) 1 rfl rfl); (have s1 := HS.out.cell (k := 1) 1 rfl rfl); (have b0 := HS.out.cell (k := 0) 2 rfl rfl); (have b1 := HS.out.cell (k := 1) 2 rfl rfl); (have b2 := HS.out.cell (k := 2) 2 rfl rfl)); (replace e0 := (node_cells (HS.out.sl 3 rfl) (HS.out.ndat (i := 3) rfl) HX.out).choose_spec.choose_spec.choose_spec.1))
    clear e0
    have HT := Lib.hid (shutv_Poll (x := p) (HS.out.sel [3, 4, 5, 2, 1, 0] (by decide) rfl))
    have CS := l8Stand_c p k _ _ _ (HT.out.at_ 0 rfl) (HT.out.ndat (i := 0) rfl) HW.out HK.out (by rw [HND.out]; exact HTT.out)
    go_wp2_with (go_at_call 82; (with_reducible refine CS.mono ?_); clear CS; (rintro e w6 ⟨cq, fq, rfl, hL⟩); (obtain ⟨C0, x0, y0, C1, x1, y1, C2, x2, y2, rfl⟩ := own_formP hL.2.2.2); ((have HS7 := Lib.hid (HT.out.call 0 rfl hL))); (clear hL); (clear s0 s1 b0 b1 b2); (have r0 := HS7.out.cell (k := 0) 3 rfl rfl); (have r1 := HS7.out.cell (k := 1) 3 rfl rfl); (have r2 := HS7.out.cell (k := 2) 3 rfl rfl); (have z0 := HS7.out.frz (k := 0) 3 rfl); (have z1 := HS7.out.frz (k := 1) 3 rfl); (have z2 := HS7.out.frz (k := 2) 3 rfl))
    have HSF := Lib.hid (((HS7.out.setBlk (k := 0) 3 rfl (.slice C0 x0 y0)).setBlk (k := 1) 3 rfl (.slice C1 x1 y1)).setBlk (k := 2) 3 rfl (.slice C2 x2 y2))
    have u0 := HSF.out.cell (k := 0) 3 rfl rfl
    have u1 := HSF.out.cell (k := 1) 3 rfl rfl
    have u2 := HSF.out.cell (k := 2) 3 rfl rfl
    exact bodyPost_ret (v := .tuple #[.agg #[(.slice C0 x0 y0), (.slice C1 x1 y1), (.slice C2 x2 y2)], .bool true]) (by simp [results, Try.results49, go_sem, u0, u1, u2]) rfl ⟨[(.slice C0 x0 y0), (.slice C1 x1 y1), (.slice C2 x2 y2)], _, by rw [HF.out], by rw [HF.out]; exact (HSF.out.sel [0] (by decide) rfl).left⟩
set_option maxRecDepth 100000 in
set_option maxHeartbeats 4000000 in
theorem l8StepStop_c (p : Poll) (kk : Int) (cs : List Value) (fp : List Nat) (w : World) (h : (Mm.tow rPoll p cs fp).holds w) (hnd : fp.Nodup) (hw : Pl.PW p) :
    Calls Try.prog 49 #[.agg cs.toArray, .agg #[.int .i64 5, .int .i64 kk]] w (PVA2 (Pl.pstep p ⟨5, kk⟩) fp w) := by
  obtain ⟨A0, n0, c0, A1, n1, c1, A2, n2, c2, f0, f1, f2, rfl, rfl, hs⟩ := openv_Poll (Mm.SepF.one _ w h hnd)
  obtain ⟨g0, rfl, -, -⟩ := Mm.sl_addr (hs.sl 0 rfl) (by have := hw.n1; omega)
  have hln0 : n0 = p.Nodes.length := by obtain ⟨A', n', c', hv, h1, _⟩ := (hs.sl 0 rfl).form; injection hv with _ h2 _; omega
  have hln1 : n1 = p.Letters.length := by obtain ⟨A', n', c', hv, h1, _⟩ := (hs.sl 1 rfl).form; injection hv with _ h2 _; omega
  have hn5 := hw.n5
  have hl60 := hw.lets
  have hn05 : n0 ≤ 5 := by omega
  have hn160 : n1 ≤ 60 := by omega
  obtain ⟨ga, hga⟩ : ∃ g, w.heap.size = g := ⟨_, rfl⟩
  obtain ⟨gs, hgs⟩ : ∃ g, ga + 1 = g := ⟨_, rfl⟩
  obtain ⟨gc, hgc⟩ : ∃ g, gs + 1 = g := ⟨_, rfl⟩
  obtain ⟨W0, hW0⟩ : ∃ W, ((w.alloc (.cells #[.slice (some ⟨g0, 0, none⟩) n0 c0, .slice A1 n1 c1, .slice A2 n2 c2] 31)).alloc (.cells #[.int .i64 5, .int .i64 kk] 56)).alloc (.cells #[.slice none 0 0, .slice none 0 0, .slice none 0 0] 31) = W := ⟨_, rfl⟩
  have HS := Lib.hid ((((hs.alloc' hga 31 [.slice (some ⟨g0, 0, none⟩) n0 c0, .slice A1 n1 c1, .slice A2 n2 c2]).alloc' (g := gs) (by rw [Mm.sz1, hga, hgs]) 56 [.int .i64 5, .int .i64 kk]).alloc' (g := gc) (by rw [Mm.sz2, hga]; omega) 31 zPoll).atW hW0)
  have HW := Lib.hid hw
  have HN0 := Lib.hid hln0
  have HN1 := Lib.hid hln1
  clear h hs hnd hw hln0 hln1
  go_enter Try.func49, Try.ntmps49
  go_upto_region 1 with fail
  clear hW0 hga hgs hgc
  have s0 := HS.out.cell (k := 0) 1 rfl rfl
  have s1 := HS.out.cell (k := 1) 1 rfl rfl
  have b0 := HS.out.cell (k := 0) 2 rfl rfl
  have b1 := HS.out.cell (k := 1) 2 rfl rfl
  have b2 := HS.out.cell (k := 2) 2 rfl rfl
  have HP : Hid (Pl.pstep p ⟨5, kk⟩ = if 0 ≤ kk ∧ kk < p.Nodes.length then (Pl.pstop p kk, true) else (p, false)) := Lib.hid ((if_neg (show ¬ (5 : Int) = 1 by omega)).trans (if_pos rfl))
  by_cases hin : 0 ≤ kk ∧ kk < (n0 : Int)
  rotate_left
  · have CW := l8NodeOut_c kk (some ⟨g0, 0, none⟩) n0 c0 (.slice A1 n1 c1) (.slice A2 n2 c2) W0 hin
    have HF : Hid (Pl.pstep p ⟨5, kk⟩ = (p, false)) := Lib.hid (by rw [HP.out, if_neg (fun hh => hin ⟨hh.1, by have := hh.2; have := HN0.out; omega⟩)])
    clear hin
    go_upto_region 5 with ((go_at_call 69); ((with_reducible refine CW.mono ?_)); (clear CW); (rintro e wn ⟨rfl, hbn⟩); ((replace HS := Lib.hid (HS.out.step hbn))); (clear hbn); ((clear s0 s1 b0 b1 b2)); ((have s0 := HS.out.cell (k := 0) 1 rfl rfl); (have s1 := HS.out.cell (k := 1) 1 rfl rfl); (have b0 := HS.out.cell (k := 0) 2 rfl rfl); (have b1 := HS.out.cell (k := 1) 2 rfl rfl); (have b2 := HS.out.cell (k := 2) 2 rfl rfl)))
    have r0 := HS.out.cell (k := 0) 0 rfl rfl
    have r1 := HS.out.cell (k := 1) 0 rfl rfl
    have r2 := HS.out.cell (k := 2) 0 rfl rfl
    have z0 := HS.out.frz (k := 0) 0 rfl
    have z1 := HS.out.frz (k := 1) 0 rfl
    have z2 := HS.out.frz (k := 2) 0 rfl
    go_wp2
    have HSF := Lib.hid (((HS.out.setBlk (k := 0) 0 rfl (.slice (some ⟨g0, 0, none⟩) n0 c0)).setBlk (k := 1) 0 rfl (.slice A1 n1 c1)).setBlk (k := 2) 0 rfl (.slice A2 n2 c2))
    have u0 := HSF.out.cell (k := 0) 0 rfl rfl
    have u1 := HSF.out.cell (k := 1) 0 rfl rfl
    have u2 := HSF.out.cell (k := 2) 0 rfl rfl
    exact bodyPost_ret (v := .tuple #[.agg #[(.slice (some ⟨g0, 0, none⟩) n0 c0), (.slice A1 n1 c1), (.slice A2 n2 c2)], .bool false]) (by simp [results, Try.results49, go_sem, u0, u1, u2]) rfl ⟨[(.slice (some ⟨g0, 0, none⟩) n0 c0), (.slice A1 n1 c1), (.slice A2 n2 c2)], _, by rw [HF.out], by rw [HF.out]; exact (shutv_Poll (x := p) (HSF.out.sel [3, 4, 5] (by decide) rfl)).left⟩
  have CW := l8NodeIn_c kk (some ⟨g0, 0, none⟩) n0 c0 (.slice A1 n1 c1) (.slice A2 n2 c2) W0 hin
  obtain ⟨k, rfl⟩ : ∃ k : Nat, kk = k := ⟨kk.toNat, by omega⟩
  have hk : k < p.Nodes.length := by have := HN0.out; omega
  have HK := Lib.hid hk
  have hkn : (k : Int) < (n0 : Nat) := by omega
  have hk0 : (0 : Int) ≤ (k : Nat) := by omega
  have hkt : ((k : Nat) : Int).toNat = k := by omega
  have hx := HW.out.at_ (k := (k : Int)) (by omega) (by omega)
  rw [hkt] at hx
  obtain ⟨nd, hnd'⟩ : ∃ nd, Pl.nodeAt p (k : Int) = nd := ⟨_, rfl⟩
  rw [hnd'] at hx
  have HX := Lib.hid hx
  have HF : Hid (Pl.pstep p ⟨5, (k : Int)⟩ = (Pl.setNode p (k : Int) ⟨nd.Term, nd.Voted, nd.Age, [], 0⟩, true)) := Lib.hid (by
    rw [HP.out, if_pos ⟨by omega, by have := HK.out; show (k : Int) < _; omega⟩]
    unfold Pl.pstop
    rw [hnd'])
  clear hin hk hx hnd'
  go_upto_region 8 with ((go_at_call 69); ((with_reducible refine CW.mono ?_)); (clear CW); (rintro e wn ⟨rfl, hbn⟩); ((replace HS := Lib.hid (HS.out.step hbn))); (clear hbn); ((clear s0 s1 b0 b1 b2)); ((have s0 := HS.out.cell (k := 0) 1 rfl rfl); (have s1 := HS.out.cell (k := 1) 1 rfl rfl); (have b0 := HS.out.cell (k := 0) 2 rfl rfl); (have b1 := HS.out.cell (k := 1) 2 rfl rfl); (have b2 := HS.out.cell (k := 2) 2 rfl rfl)))
  obtain ⟨A3, m3, d3, e0, e1, e2, e3, e4, -, -, -, -, -⟩ := node_cells (HS.out.sl 3 rfl) (HS.out.ndat (i := 3) rfl) HX.out
  have y3 := (HS.out.sl 3 rfl).frozen (k * 5 + 3)
  have y4 := (HS.out.sl 3 rfl).frozen (k * 5 + 4)
  have hx1 : ∀ y : Node, (p.Nodes.set k y)[k]? = some y := fun y => List.getElem?_set_self HK.out
  have ha := HS.out.nodeNum (k := k) (m := 4) (v := 0) 3 rfl HX.out (by omega) (fun cs fx hh => rNode_set4 hh (by unfold Mm.I64; omega))
  simp only [List.set_cons_succ, List.set_cons_zero, List.set_set] at ha
  obtain ⟨A5, m5, d5, fx5, -, -, -, -, -, hnext⟩ := ha.nodeHeard 3 rfl (hx1 _)
  obtain ⟨fp1, hd⟩ := hnext _ [] none 0 0 [] (((Mm.SepF.start _).add (Below.refl _ _) (t := Mm.tsl Mm.int 3 [] (.slice none 0 0) []) Mm.SlOwn.nil List.nodup_nil (fun b hb => by cases hb)).widen)
  simp only [List.set_cons_succ, List.set_cons_zero, List.set_set] at hd
  have HD := Lib.hid hd
  clear ha hnext hd hx1
  go_upto_region 10 with fail
  clear s0 s1 b0 b1 b2
  clear e0 e1 e2 e3 e4 y3 y4 HS
  obtain ⟨W5, hW5⟩ : ∃ V, (wn.setCell ⟨g0, k * 5 + 4, none⟩ (.int .i64 0)).setCell ⟨g0, k * 5 + 3, none⟩ (.slice none 0 0) = V := ⟨_, rfl⟩
  rw [hW5] at HD ⊢
  clear hW5
  have HS := HD
  clear HD
  have s0 := HS.out.cell (k := 0) 1 rfl rfl
  have s1 := HS.out.cell (k := 1) 1 rfl rfl
  have b0 := HS.out.cell (k := 0) 2 rfl rfl
  have b1 := HS.out.cell (k := 1) 2 rfl rfl
  have b2 := HS.out.cell (k := 2) 2 rfl rfl
  have r0 := HS.out.cell (k := 0) 0 rfl rfl
  have r1 := HS.out.cell (k := 1) 0 rfl rfl
  have r2 := HS.out.cell (k := 2) 0 rfl rfl
  have z0 := HS.out.frz (k := 0) 0 rfl
  have z1 := HS.out.frz (k := 1) 0 rfl
  have z2 := HS.out.frz (k := 2) 0 rfl
  go_wp2
  have HSF := Lib.hid (((HS.out.setBlk (k := 0) 0 rfl (.slice (some ⟨g0, 0, none⟩) n0 c0)).setBlk (k := 1) 0 rfl (.slice A1 n1 c1)).setBlk (k := 2) 0 rfl (.slice A2 n2 c2))
  have u0 := HSF.out.cell (k := 0) 0 rfl rfl
  have u1 := HSF.out.cell (k := 1) 0 rfl rfl
  have u2 := HSF.out.cell (k := 2) 0 rfl rfl
  exact bodyPost_ret (v := .tuple #[.agg #[(.slice (some ⟨g0, 0, none⟩) n0 c0), (.slice A1 n1 c1), (.slice A2 n2 c2)], .bool true]) (by simp [results, Try.results49, go_sem, u0, u1, u2]) rfl ⟨[(.slice (some ⟨g0, 0, none⟩) n0 c0), (.slice A1 n1 c1), (.slice A2 n2 c2)], _, by rw [HF.out], by rw [HF.out]; exact (shutv_Poll (x := Pl.setNode p (k : Int) ⟨nd.Term, nd.Voted, nd.Age, [], 0⟩) (by have h := HSF.out.sel [3, 4, 5] (by decide) rfl; unfold Pl.setNode; rw [hkt]; exact h)).left⟩
set_option maxRecDepth 100000 in
set_option maxHeartbeats 4000000 in
theorem l8StepNone_c (p : Poll) (kd kk : Int) (cs : List Value) (fp : List Nat) (w : World) (h : (Mm.tow rPoll p cs fp).holds w) (hnd : fp.Nodup) (hw : Pl.PW p) (h1 : kd < 1 ∨ 5 < kd) :
    Calls Try.prog 49 #[.agg cs.toArray, .agg #[.int .i64 kd, .int .i64 kk]] w (PVA2 (Pl.pstep p ⟨kd, kk⟩) fp w) := by
  have HF : Hid (Pl.pstep p ⟨kd, kk⟩ = (p, false)) := Lib.hid (by
    unfold Pl.pstep
    rw [if_neg (show ¬ kd = 1 by omega), if_neg (show ¬ kd = 5 by omega), if_neg (show ¬ kd = 2 by omega), if_neg (show ¬ kd = 3 by omega), if_neg (show ¬ kd = 4 by omega)])
  have g1 : (kd == 1) = false := by simp; omega
  have g5 : (kd == 5) = false := by simp; omega
  have g2 : (kd == 2) = false := by simp; omega
  have g3 : (kd == 3) = false := by simp; omega
  have g4 : (kd == 4) = false := by simp; omega
  clear h1
  obtain ⟨A0, n0, c0, A1, n1, c1, A2, n2, c2, f0, f1, f2, rfl, rfl, hs⟩ := openv_Poll (Mm.SepF.one _ w h hnd)
  obtain ⟨g0, rfl, -, -⟩ := Mm.sl_addr (hs.sl 0 rfl) (by have := hw.n1; omega)
  have hln0 : n0 = p.Nodes.length := by obtain ⟨A', n', c', hv, h1, _⟩ := (hs.sl 0 rfl).form; injection hv with _ h2 _; omega
  have hln1 : n1 = p.Letters.length := by obtain ⟨A', n', c', hv, h1, _⟩ := (hs.sl 1 rfl).form; injection hv with _ h2 _; omega
  have hn5 := hw.n5
  have hl60 := hw.lets
  have hn05 : n0 ≤ 5 := by omega
  have hn160 : n1 ≤ 60 := by omega
  obtain ⟨ga, hga⟩ : ∃ g, w.heap.size = g := ⟨_, rfl⟩
  obtain ⟨gs, hgs⟩ : ∃ g, ga + 1 = g := ⟨_, rfl⟩
  obtain ⟨gc, hgc⟩ : ∃ g, gs + 1 = g := ⟨_, rfl⟩
  obtain ⟨W0, hW0⟩ : ∃ W, ((w.alloc (.cells #[.slice (some ⟨g0, 0, none⟩) n0 c0, .slice A1 n1 c1, .slice A2 n2 c2] 31)).alloc (.cells #[.int .i64 kd, .int .i64 kk] 56)).alloc (.cells #[.slice none 0 0, .slice none 0 0, .slice none 0 0] 31) = W := ⟨_, rfl⟩
  have HS := Lib.hid ((((hs.alloc' hga 31 [.slice (some ⟨g0, 0, none⟩) n0 c0, .slice A1 n1 c1, .slice A2 n2 c2]).alloc' (g := gs) (by rw [Mm.sz1, hga, hgs]) 56 [.int .i64 kd, .int .i64 kk]).alloc' (g := gc) (by rw [Mm.sz2, hga]; omega) 31 zPoll).atW hW0)
  have HW := Lib.hid hw
  have HN0 := Lib.hid hln0
  have HN1 := Lib.hid hln1
  clear h hs hnd hw hln0 hln1
  go_enter Try.func49, Try.ntmps49
  go_upto_region 1 with fail
  clear hW0 hga hgs hgc
  have s0 := HS.out.cell (k := 0) 1 rfl rfl
  have s1 := HS.out.cell (k := 1) 1 rfl rfl
  have b0 := HS.out.cell (k := 0) 2 rfl rfl
  have b1 := HS.out.cell (k := 1) 2 rfl rfl
  have b2 := HS.out.cell (k := 2) 2 rfl rfl
  have r0 := HS.out.cell (k := 0) 0 rfl rfl
  have r1 := HS.out.cell (k := 1) 0 rfl rfl
  have r2 := HS.out.cell (k := 2) 0 rfl rfl
  have z0 := HS.out.frz (k := 0) 0 rfl
  have z1 := HS.out.frz (k := 1) 0 rfl
  have z2 := HS.out.frz (k := 2) 0 rfl
  go_wp2
  have HSF := Lib.hid (((HS.out.setBlk (k := 0) 0 rfl (.slice (some ⟨g0, 0, none⟩) n0 c0)).setBlk (k := 1) 0 rfl (.slice A1 n1 c1)).setBlk (k := 2) 0 rfl (.slice A2 n2 c2))
  have u0 := HSF.out.cell (k := 0) 0 rfl rfl
  have u1 := HSF.out.cell (k := 1) 0 rfl rfl
  have u2 := HSF.out.cell (k := 2) 0 rfl rfl
  exact bodyPost_ret (v := .tuple #[.agg #[(.slice (some ⟨g0, 0, none⟩) n0 c0), (.slice A1 n1 c1), (.slice A2 n2 c2)], .bool false]) (by simp [results, Try.results49, go_sem, u0, u1, u2]) rfl ⟨[(.slice (some ⟨g0, 0, none⟩) n0 c0), (.slice A1 n1 c1), (.slice A2 n2 c2)], _, by rw [HF.out], by rw [HF.out]; exact (shutv_Poll (x := p) (HSF.out.sel [3, 4, 5] (by decide) rfl)).left⟩
end Go.Proofs.Ytkhchfbpmmiopaa

/-
  Contracts on sketches: the functions that only read. No conditions.
-/
namespace Go.Proofs.Ytkhchfbpmmiopaa
open Go.RowKit
attribute [local go_sem] und_cell World.cell?_alloc_some
theorem l1All_c (l : List Int) (A : Option Addr) (n c : Nat) (a b : Int) (w : World) (B : Nat) (hl : Mm.SlAt Mm.int w B l A n c) :
    Calls Try.prog 76 #[.slice A n c, .int .i64 a, .int .i64 b] w fun e w' => e = .returned (.bool (Pl.allIn a b l)) ∧ w = w' := by
  have hlen : Hid (l.length = n) := hl.1
  have hn : n ≤ 9223372036854775807 := by have := hl.2.1; have := hl.2.2.1; unfold maxLen at this; omega
  have HL : Hid (Mm.SlAt Mm.int w B l A n c) := hl
  clear hl
  go_enter Try.func76, Try.ntmps76
  go_wp2
  go_loop [8, 11] (fun _ i => ∃ k : Nat, k ≤ n ∧ i = .int .i64 k ∧ Hid (Pl.upTo (fun x => Pl.isIn x a b) l k)) (fun _ i => n - (intOf i).toNat)
  case atStart => exact ⟨0, Nat.zero_le _, rfl, Pl.upTo0⟩
  case round =>
    obtain ⟨k, hk, rfl, HU⟩ := hrel
    by_cases hlt : k < n
    · obtain ⟨x, b0, off, hx, rfl, hb, b1, c1⟩ := int_get HL.out hlt
      have HX := Lib.hid hx
      clear hx
      cases hs : Pl.isIn x a b
      · go_wp2_with (go_at_call 67; refine (l1In_c _ _ _ _).mono ?_; rintro e w' ⟨rfl, rfl⟩)
        go_ret
        exact ⟨ret_bool (Pl.upToB HX.out hs).symm, rfl⟩
      · go_wp2_with (go_at_call 67; refine (l1In_c _ _ _ _).mono ?_; rintro e w' ⟨rfl, rfl⟩)
        go_round
        case rel => exact ⟨k + 1, by omega, by go_num, Pl.upTo1 HU.out HX.out hs⟩
        case measure => simp [intOf]; omega
    · go_wp2
      go_ret
      exact ⟨ret_bool (Pl.upToE HU.out (by rw [hlen.out]; omega)).symm, rfl⟩
end Go.Proofs.Ytkhchfbpmmiopaa

/-
  Contracts: new elections, both sides; the reference's copy (chapter 8). No conditions beyond those named.
-/
namespace Go.Proofs.Ytkhchfbpmmiopaa
open Go.RowKit
attribute [local go_sem] und_cell cha_cell World.cell?_alloc_some
theorem Try.infoNode : (Try.prog.info? 42).map (fun i => (i.zero, i.size, i.bytes)) = some (some (.agg #[.int .i64 0, .int .i64 0, .int .i64 0, .slice none 0 0, .int .i64 0]), 5, 56) := by kernel_rfl
theorem Try.infoIntP : (Try.prog.info? 3).map (fun i => (i.zero, i.size, i.bytes)) = some (some (.int .i64 0), 1, 8) := by kernel_rfl
def Pl.ageOk (a : Int) : Bool := Pl.isIn a 0 9
def Pl.agesOk (l : List Int) : Bool := Pl.isIn l.length 1 5 && l.all Pl.ageOk
def Pl.zPo : Poll := ⟨[], [], []⟩
def Pl.newPoll (l : List Int) : Poll × Bool := if Pl.agesOk l = true then (Pl.newPo l, true) else (Pl.zPo, false)
theorem Pl.agesOk_book {l : List Int} (h : Pl.agesOk l = true) : ∃ V, Pl.PBook V (Pl.newPo l) := by
  unfold Pl.agesOk at h
  rw [Bool.and_eq_true, List.all_eq_true] at h
  have h1 := Pl.isIn_iff.1 h.1
  exact ⟨_, Pl.newPo_book (by omega) (by omega) (fun a ha => Pl.isIn_iff.1 (h.2 a ha))⟩
theorem Pl.any_snoc {α : Type} {p : α → Bool} {l : List α} {k : Nat} {x : α} (h : l[k]? = some x) : (l.take (k + 1)).any p = ((l.take k).any p || p x) := by
  rw [Mm.take_succ_some h, List.any_append]; simp
theorem Pl.newPo_take {l : List Int} {k : Nat} {x : Int} (h : l[k]? = some x) : (Pl.newPo (l.take (k + 1))).Nodes = (Pl.newPo (l.take k)).Nodes ++ [⟨0, -1, x, [], 0⟩] := by
  unfold Pl.newPo
  rw [Mm.take_succ_some h, List.map_append]; rfl
theorem zPo_own {w : World} : rPoll.own w Pl.zPo zPoll [] := rPoll_own_mk (x := Pl.zPo) (f0 := []) (f1 := []) (f2 := []) Mm.SlOwn.nil Mm.SlOwn.nil Mm.SlOwn.nil
theorem poll_ret {w wr : World} {x : Poll} {cs : List Value} {fp : List Nat} {ts : List Mm.Thing} (h : Mm.SepF [] w wr (Mm.tow rPoll x cs fp :: ts)) : Mm.NewAg rPoll w x (.returned (.agg cs.toArray)) wr :=
  ⟨cs, fp, rfl, h.at_ 0 rfl, h.ndat (i := 0) rfl, fun b hb => (h.new b (Mm.SepF.mem (i := 0) rfl hb)).resolve_left (fun h => by cases h), h.bel0⟩
theorem poll_ret2 {w wr : World} {x : Poll} {b : Bool} {cs : List Value} {fp : List Nat} {ts : List Mm.Thing} (h : Mm.SepF [] w wr (Mm.tow rPoll x cs fp :: ts)) : Mm.Ret2 rPoll w x b (.returned (.tuple #[.agg cs.toArray, .bool b])) wr :=
  ⟨cs, fp, rfl, h.at_ 0 rfl, h.ndat (i := 0) rfl, fun b hb => (h.new b (Mm.SepF.mem (i := 0) rfl hb)).resolve_left (fun h => by cases h), h.bel0⟩
theorem zPo_ret2 {w w' : World} (h : Below w.heap.size w w') : Mm.Ret2 rPoll w Pl.zPo false (.returned (.tuple #[.agg zPoll.toArray, .bool false])) w' :=
  ⟨zPoll, [], rfl, zPo_own, List.nodup_nil, (fun b hb => by cases hb), h⟩
set_option maxRecDepth 100000 in
set_option maxHeartbeats 1000000 in
theorem newPoll_c (ages : List Int) (A : Option Addr) (n c : Nat) (w : World) (B : Nat) (hl : Mm.SlAt Mm.int w B ages A n c) (hB : B ≤ w.heap.size) (hn : n ≤ 5) : Calls Try.prog 47 #[.slice A n c] w (Mm.NewAg rPoll w (Pl.newPo ages)) := by
  have HL := Lib.hid hl
  clear hl
  obtain ⟨gz, hgz⟩ : ∃ g, w.heap.size = g := ⟨_, rfl⟩
  obtain ⟨gp, hgp⟩ : ∃ g, gz + 1 = g := ⟨_, rfl⟩
  obtain ⟨i0, hi, hz0, hz1, hz2⟩ := info_parts Try.infoNode
  have KS2 := Lib.hid ((((Mm.SepF.start w).alloc' hgz 31 zPoll).alloc' (g := gp) (by rw [Mm.sz1, hgz, hgp]) 31 zPoll).add (Below.refl _ _) (t := Mm.tsl rNode 42 [] (.slice none 0 0) []) Mm.SlOwn.nil List.nodup_nil (fun b hb => by cases hb))
  go_enter Try.func47, Try.ntmps47
  go_wp2
  clear hgz hgp
  go_loopg [8] n (fun g i wr => ∃ (k : Nat) (A' : Option Addr) (c' : Nat) (fp : List Nat), n - k ≤ g ∧ k ≤ n ∧ i = .int .i64 k ∧ Hid (Mm.SepF [] w wr [Mm.tsl rNode 42 (Pl.newPo (ages.take k)).Nodes (.slice A' k c') fp, Mm.tblk gp 31 [.slice A' k c', .slice none 0 0, .slice none 0 0], Mm.tblk gz 31 zPoll]))
  case atStart => exact ⟨0, none, 0, [], Nat.le_refl _, Nat.zero_le _, rfl, KS2.out⟩
  case round =>
    obtain ⟨k, A', c', fp, hgk, hk', rfl, HS⟩ := hrel
    clear KS2
    by_cases hlt : k < n
    · obtain ⟨x, b0', off, hx, rfl, hb, ix, e0⟩ := int_get (HL.out.keep (w' := wr) fun b hb => HS.out.bel0.block b (by omega)) hlt
      have HN := Lib.hid (Pl.newPo_take hx)
      have HIX := Lib.hid ix
      have hlk : (Pl.newPo (ages.take k)).Nodes.length = k := by unfold Pl.newPo; rw [List.length_map, List.length_take]; have := HL.out.1; omega
      have HLK := Lib.hid hlk
      have f1 : ((k : Nat) : Int) < (n : Nat) := by omega
      have d0 := HS.out.cell (k := 0) 1 rfl rfl
      have z0 := HS.out.frz (k := 0) 1 rfl
      clear hx ix hlk
      go_upto_region 6 with (at_builtin; refine Mm.app_list (x := (⟨0, -1, x, [], 0⟩ : Node)) HS.out 0 rfl rfl (.tmp 13) (.tmp 16) 27 rfl i0 _ 56 Try.underlying27 hi hz0 hz1 hz2 rfl (by decide) rfl rfl (fun W => rNode_own_mk (x := ⟨0, -1, x, [], 0⟩) (by unfold Mm.I64; show _ ≤ (0:Int) ∧ (0:Int) ≤ _; omega) (by unfold Mm.I64; show _ ≤ (-1:Int) ∧ (-1:Int) ≤ _; omega) HIX.out Mm.SlOwn.nil (by unfold Mm.I64; show _ ≤ (0:Int) ∧ (0:Int) ≤ _; omega)) HLK.out (by unfold maxLen; omega) (by omega) ?_; intro gg cap w4 fp4 hs4; (have HS4 := Lib.hid hs4); clear d0 z0; (have d0 := HS4.out.cell (k := 0) 1 rfl rfl); (have z0 := HS4.out.frz (k := 0) 1 rfl); clear hs4)
      go_wp2
      go_roundg (n - (k + 1))
      case measure => omega
      case rel => exact ⟨k + 1, _, cap, fp4, Nat.le_refl _, by omega, by go_num, by rw [HN.out]; exact HS4.out.setBlk (k := 0) 1 rfl _⟩
    · obtain rfl : k = n := by omega
      have HE : Hid (ages.take k = ages) := Lib.hid (List.take_of_length_le (by have := HL.out.1; omega))
      rw [HE.out] at HS
      have f1 : ¬ ((k : Nat) : Int) < (k : Nat) := by omega
      have b0 := HS.out.cell (k := 0) 1 rfl rfl
      have b1 := HS.out.cell (k := 1) 1 rfl rfl
      have b2 := HS.out.cell (k := 2) 1 rfl rfl
      have r0 := HS.out.cell (k := 0) 2 rfl rfl
      have r1 := HS.out.cell (k := 1) 2 rfl rfl
      have r2 := HS.out.cell (k := 2) 2 rfl rfl
      have z0 := HS.out.frz (k := 0) 2 rfl
      have z1 := HS.out.frz (k := 1) 2 rfl
      have z2 := HS.out.frz (k := 2) 2 rfl
      have HSF := Lib.hid (((HS.out.setBlk (k := 0) 2 rfl (.slice A' k c')).setBlk (k := 1) 2 rfl (.slice none 0 0)).setBlk (k := 2) 2 rfl (.slice none 0 0))
      have u0 := HSF.out.cell (k := 0) 2 rfl rfl
      have u1 := HSF.out.cell (k := 1) 2 rfl rfl
      have u2 := HSF.out.cell (k := 2) 2 rfl rfl
      have HFI := Lib.hid (shutv_Poll (x := Pl.newPo ages) (((HSF.out.addEnd (Below.refl _ _) (t := Mm.tsl rLetter 84 [] (.slice none 0 0) []) Mm.SlOwn.nil List.nodup_nil (fun b hb => by cases hb)).addEnd (Below.refl _ _) (t := Mm.tsl ints 23 [] (.slice none 0 0) []) Mm.SlOwn.nil List.nodup_nil (fun b hb => by cases hb)).sel [0, 3, 4] (by decide) rfl))
      go_wp2
      exact bodyPost_ret (v := .agg #[.slice A' k c', .slice none 0 0, .slice none 0 0]) (by simp [results, Try.results47, go_sem, u0, u1, u2]) rfl (poll_ret HFI.out)
set_option maxRecDepth 100000 in
set_option maxHeartbeats 1000000 in
theorem specNewPoll_c (ages : List Int) (A : Option Addr) (n c : Nat) (w : World) (B : Nat) (hl : Mm.SlAt Mm.int w B ages A n c) (hB : B ≤ w.heap.size) : Calls Try.prog 36 #[.slice A n c] w (Mm.Ret2 rPoll w (Pl.newPoll ages).1 (Pl.newPoll ages).2) := by
  have hlen := hl.1
  have hcap : n ≤ 9223372036854775807 := by have := hl.2.1; have := hl.2.2.1; unfold maxLen at this; omega
  have HL := Lib.hid hl
  have HOK : Hid (Pl.agesOk ages = (Pl.isIn (n : Int) 1 5 && Pl.allIn 0 9 ages)) := Lib.hid (by unfold Pl.agesOk; rw [hlen]; rfl)
  clear hl hlen
  cases h1 : Pl.isIn (n : Int) 1 5 with
  | false =>
    have HF : Hid (Pl.newPoll ages = (Pl.zPo, false)) := Lib.hid (if_neg (by rw [HOK.out, h1]; simp))
    go_enter Try.func36, Try.ntmps36
    go_wp2_with (go_at_call 67; (with_reducible refine (l1In_c _ _ _ _).mono ?_); rintro e w' ⟨rfl, rfl⟩)
    rw [HF.out]
    exact bodyPost_ret (v := .tuple #[.agg zPoll.toArray, .bool false]) (by simp [results, Try.results36, go_sem, zPoll]) rfl (zPo_ret2 (below_new (Below.refl _ _) _))
  | true =>
  have hn5 := Pl.isIn_iff.1 h1
  cases h2 : Pl.allIn 0 9 ages with
  | false =>
    have HF : Hid (Pl.newPoll ages = (Pl.zPo, false)) := Lib.hid (if_neg (by rw [HOK.out, h1, h2]; simp))
    go_enter Try.func36, Try.ntmps36
    go_wp2_with first
      | (go_at_call 67; (with_reducible refine (l1In_c _ _ _ _).mono ?_); rintro e w' ⟨rfl, rfl⟩)
      | (go_at_call 76; (with_reducible refine (l1All_c ages A n c _ _ _ _ (HL.out.keep fun b hb => (below_new (Below.refl w.heap.size w) _).block b (by omega))).mono ?_); rintro e w' ⟨rfl, rfl⟩)
    rw [HF.out]
    exact bodyPost_ret (v := .tuple #[.agg zPoll.toArray, .bool false]) (by simp [results, Try.results36, go_sem, zPoll]) rfl (zPo_ret2 (below_new (Below.refl _ _) _))
  | true =>
  have HF : Hid (Pl.newPoll ages = (Pl.newPo ages, true)) := Lib.hid (if_pos (by rw [HOK.out, h1, h2]; rfl))
  obtain ⟨gz, hgz⟩ : ∃ g, w.heap.size = g := ⟨_, rfl⟩
  obtain ⟨gp, hgp⟩ : ∃ g, gz + 1 = g := ⟨_, rfl⟩
  obtain ⟨i0, hi, hz0, hz1, hz2⟩ := info_parts Try.infoNode
  have KS2 := Lib.hid ((((Mm.SepF.start w).alloc' hgz 31 zPoll).alloc' (g := gp) (by rw [Mm.sz1, hgz, hgp]) 31 zPoll).add (Below.refl _ _) (t := Mm.tsl rNode 42 [] (.slice none 0 0) []) Mm.SlOwn.nil List.nodup_nil (fun b hb => by cases hb))
  go_enter Try.func36, Try.ntmps36
  go_wp2_with first
    | (go_at_call 67; (with_reducible refine (l1In_c _ _ _ _).mono ?_); rintro e w' ⟨rfl, rfl⟩)
    | (go_at_call 76; (with_reducible refine (l1All_c ages A n c _ _ _ _ (HL.out.keep fun b hb => (below_new (Below.refl w.heap.size w) _).block b (by omega))).mono ?_); rintro e w' ⟨rfl, rfl⟩)
  clear hgz hgp
  go_loopg [19] n (fun g i wr => ∃ (k : Nat) (A' : Option Addr) (c' : Nat) (fp : List Nat), n - k ≤ g ∧ k ≤ n ∧ i = .int .i64 k ∧ Hid (Mm.SepF [] w wr [Mm.tsl rNode 42 (Pl.newPo (ages.take k)).Nodes (.slice A' k c') fp, Mm.tblk gp 31 [.slice A' k c', .slice none 0 0, .slice none 0 0], Mm.tblk gz 31 zPoll]))
  case atStart => exact ⟨0, none, 0, [], Nat.le_refl _, Nat.zero_le _, rfl, KS2.out⟩
  case round =>
    obtain ⟨k, A', c', fp, hgk, hk', rfl, HS⟩ := hrel
    clear KS2
    by_cases hlt : k < n
    · obtain ⟨x, b0', off, hx, rfl, hb, ix, e0⟩ := int_get (HL.out.keep (w' := wr) fun b hb => HS.out.bel0.block b (by omega)) hlt
      have HN := Lib.hid (Pl.newPo_take hx)
      have HIX := Lib.hid ix
      have hlk : (Pl.newPo (ages.take k)).Nodes.length = k := by unfold Pl.newPo; rw [List.length_map, List.length_take]; have := HL.out.1; omega
      have HLK := Lib.hid hlk
      have f1 : ((k : Nat) : Int) < (n : Nat) := by omega
      have d0 := HS.out.cell (k := 0) 1 rfl rfl
      have z0 := HS.out.frz (k := 0) 1 rfl
      clear hx ix hlk
      go_upto_region 8 with (at_builtin; refine Mm.app_list (x := (⟨0, -1, x, [], 0⟩ : Node)) HS.out 0 rfl rfl (.tmp 24) (.tmp 27) 27 rfl i0 _ 56 Try.underlying27 hi hz0 hz1 hz2 rfl (by decide) rfl rfl (fun W => rNode_own_mk (x := ⟨0, -1, x, [], 0⟩) (by unfold Mm.I64; show _ ≤ (0:Int) ∧ (0:Int) ≤ _; omega) (by unfold Mm.I64; show _ ≤ (-1:Int) ∧ (-1:Int) ≤ _; omega) HIX.out Mm.SlOwn.nil (by unfold Mm.I64; show _ ≤ (0:Int) ∧ (0:Int) ≤ _; omega)) HLK.out (by unfold maxLen; omega) (by omega) ?_; intro gg cap w4 fp4 hs4; (have HS4 := Lib.hid hs4); clear d0 z0; (have d0 := HS4.out.cell (k := 0) 1 rfl rfl); (have z0 := HS4.out.frz (k := 0) 1 rfl); clear hs4)
      go_wp2
      go_roundg (n - (k + 1))
      case measure => omega
      case rel => exact ⟨k + 1, _, cap, fp4, Nat.le_refl _, by omega, by go_num, by rw [HN.out]; exact HS4.out.setBlk (k := 0) 1 rfl _⟩
    · obtain rfl : k = n := by omega
      have HE : Hid (ages.take k = ages) := Lib.hid (List.take_of_length_le (by have := HL.out.1; omega))
      rw [HE.out] at HS
      have f1 : ¬ ((k : Nat) : Int) < (k : Nat) := by omega
      have b0 := HS.out.cell (k := 0) 1 rfl rfl
      have b1 := HS.out.cell (k := 1) 1 rfl rfl
      have b2 := HS.out.cell (k := 2) 1 rfl rfl
      have r0 := HS.out.cell (k := 0) 2 rfl rfl
      have r1 := HS.out.cell (k := 1) 2 rfl rfl
      have r2 := HS.out.cell (k := 2) 2 rfl rfl
      have z0 := HS.out.frz (k := 0) 2 rfl
      have z1 := HS.out.frz (k := 1) 2 rfl
      have z2 := HS.out.frz (k := 2) 2 rfl
      have HSF := Lib.hid (((HS.out.setBlk (k := 0) 2 rfl (.slice A' k c')).setBlk (k := 1) 2 rfl (.slice none 0 0)).setBlk (k := 2) 2 rfl (.slice none 0 0))
      have u0 := HSF.out.cell (k := 0) 2 rfl rfl
      have u1 := HSF.out.cell (k := 1) 2 rfl rfl
      have u2 := HSF.out.cell (k := 2) 2 rfl rfl
      have HFI := Lib.hid (shutv_Poll (x := Pl.newPo ages) (((HSF.out.addEnd (Below.refl _ _) (t := Mm.tsl rLetter 84 [] (.slice none 0 0) []) Mm.SlOwn.nil List.nodup_nil (fun b hb => by cases hb)).addEnd (Below.refl _ _) (t := Mm.tsl ints 23 [] (.slice none 0 0) []) Mm.SlOwn.nil List.nodup_nil (fun b hb => by cases hb)).sel [0, 3, 4] (by decide) rfl))
      go_wp2
      rw [HF.out]
      exact bodyPost_ret (v := .tuple #[.agg #[.slice A' k c', .slice none 0 0, .slice none 0 0], .bool true]) (by simp [results, Try.results36, go_sem, u0, u1, u2]) rfl (poll_ret2 HFI.out)
theorem isAge_c (a : Int) (w : World) : Calls Try.prog 46 #[.int .i64 a] w fun e w' => e = .returned (.bool (Pl.ageOk a)) ∧ w = w' := by
  go_enter Try.func46, Try.ntmps46
  go_wp2_with (go_at_call 43; (with_reducible refine (within_c _ _ _ _).mono ?_); rintro e w' ⟨rfl, rfl⟩)
  go_ret
  exact ⟨rfl, rfl⟩
theorem agesPlay1_c (a : Int) (w : World) : Calls Try.prog 45 #[.int .i64 a] w fun e w' => e = .returned (.bool (!Pl.ageOk a)) ∧ Below w.heap.size w w' := by
  have C := isAge_c a w
  obtain ⟨b, hb⟩ : ∃ b, Pl.ageOk a = b := ⟨_, rfl⟩
  rw [hb] at C ⊢
  clear hb
  go_enter Try.func45, Try.ntmps45
  go_wp2_with (go_at_call 46; (with_reducible refine C.mono ?_); clear C; rintro e w1 ⟨rfl, rfl⟩)
  cases b <;> (go_ret; exact ⟨rfl, Below.refl _ _⟩)
set_option maxRecDepth 100000 in
set_option maxHeartbeats 1000000 in
theorem agesPlay2_c (l : List Int) (A : Option Addr) (n c : Nat) (w : World) (B : Nat) (hl : Mm.SlAt Mm.int w B l A n c) (hB : B ≤ w.heap.size) :
    Calls Try.prog 78 #[.slice A n c, .func (Fn.func 45) #[] #[]] w fun e w' => ∃ i : Int, e = .returned (.int .i64 i) ∧ decide (0 ≤ i) = l.any (fun x => !Pl.ageOk x) ∧ Below w.heap.size w w' := by
  have hn : n ≤ 9223372036854775807 := by have := hl.2.1; have := hl.2.2.1; unfold maxLen at this; omega
  have hlen : Hid (l.length = n) := hl.1
  have HL := Lib.hid hl
  clear hl
  go_enter Try.func78, Try.ntmps78
  go_wp2
  go_loopg [5, 8] n (fun g _ i wr => ∃ k : Nat, n - k ≤ g ∧ k ≤ n ∧ i = .int .i64 k ∧ Hid ((l.take k).any (fun x => !Pl.ageOk x) = false) ∧ Hid (Below w.heap.size w wr))
  case atStart => exact ⟨0, Nat.le_refl _, Nat.zero_le _, rfl, rfl, Below.refl _ _⟩
  case round =>
    obtain ⟨k, hgk, hk, rfl, HA, HB⟩ := hrel
    obtain ⟨W, rfl⟩ : ∃ W : World, W = wr := ⟨_, rfl⟩
    have hsz := HB.out.size
    by_cases hlt : k < n
    · (obtain ⟨x, b, off, hx, rfl, hb, ix, e0⟩ := int_get (HL.out.keep (w' := W) fun b hb => HB.out.block b (by omega)) hlt);(have C := agesPlay1_c x W);(clear ix)
      have HN : Hid ((l.take (k + 1)).any (fun x => !Pl.ageOk x) = ((l.take k).any (fun x => !Pl.ageOk x) || (fun x => !Pl.ageOk x) x)) := Lib.hid (Pl.any_snoc hx)
      have HX := Lib.hid hx
      have f1 : (k : Int) < (n : Nat) := by omega
      have f2 : (0 : Int) ≤ (k : Nat) := by omega
      have f3 : ((k : Nat) : Int).toNat = k := by omega
      clear hx
      obtain ⟨pb, hs⟩ : ∃ pb, (fun x => !Pl.ageOk x) x = pb := ⟨_, rfl⟩
      have hs2 : (!Pl.ageOk x) = pb := hs
      rw [hs2] at C
      clear hs2
      cases pb with
      | false =>
        rw [hs, HA.out] at HN
        clear hs
        go_wp2_with (go_at_call 45; (with_reducible refine C.mono ?_); clear C; rintro e w1 ⟨rfl, hb1⟩)
        go_roundg (n - (k + 1))
        case measure => omega
        case rel => exact ⟨k + 1, Nat.le_refl _, by omega, by go_num, HN.out, below_step HB.out hb1⟩
      | true =>
        have HF : Hid (l.any (fun x => !Pl.ageOk x) = true) := Lib.hid (List.any_eq_true.2 ⟨x, List.mem_of_getElem? HX.out, hs⟩)
        clear hs
        go_wp2_with (go_at_call 45; (with_reducible refine C.mono ?_); clear C; rintro e w1 ⟨rfl, hb1⟩)
        go_ret
        exact ⟨k, rfl, by rw [HF.out]; exact decide_eq_true (by omega), below_step HB.out hb1⟩
    · have HF : Hid (l.any (fun x => !Pl.ageOk x) = false) := Lib.hid (by rw [← List.take_of_length_le (show l.length ≤ k by rw [hlen.out]; omega)]; exact HA.out)
      have f1 : ¬ (k : Int) < (n : Nat) := by omega
      go_wp2
      go_ret
      exact ⟨-1, rfl, by rw [HF.out]; rfl, HB.out⟩
set_option maxRecDepth 100000 in
theorem agesPlay_c (l : List Int) (A : Option Addr) (n c : Nat) (w : World) (B : Nat) (hl : Mm.SlAt Mm.int w B l A n c) (hB : B ≤ w.heap.size) :
    Calls Try.prog 44 #[.slice A n c, .func (Fn.func 45) #[] #[]] w fun e w' => e = .returned (.bool (l.any (fun x => !Pl.ageOk x))) ∧ Below w.heap.size w w' := by
  have C := agesPlay2_c l A n c w B hl hB
  clear hl
  obtain ⟨b, hb⟩ : ∃ b, l.any (fun x => !Pl.ageOk x) = b := ⟨_, rfl⟩
  rw [hb] at C ⊢
  clear hb
  cases b with
  | false =>
    go_enter Try.func44, Try.ntmps44
    go_wp2_with (go_at_call 78; (with_reducible refine C.mono ?_); clear C; rintro e w1 ⟨i, rfl, hi, hb1⟩)
    go_ret
    exact ⟨rfl, hb1⟩
  | true =>
    go_enter Try.func44, Try.ntmps44
    go_wp2_with (go_at_call 78; (with_reducible refine C.mono ?_); clear C; rintro e w1 ⟨i, rfl, hi, hb1⟩)
    go_ret
    exact ⟨rfl, hb1⟩
theorem agesNew1_c (a : Int) (w : World) : Calls Try.prog 75 #[.int .i64 a] w fun e w' => e = .returned (.bool (!Pl.ageOk a)) ∧ Below w.heap.size w w' := by
  have C := isAge_c a w
  obtain ⟨b, hb⟩ : ∃ b, Pl.ageOk a = b := ⟨_, rfl⟩
  rw [hb] at C ⊢
  clear hb
  go_enter Try.func75, Try.ntmps75
  go_wp2_with (go_at_call 46; (with_reducible refine C.mono ?_); clear C; rintro e w1 ⟨rfl, rfl⟩)
  cases b <;> (go_ret; exact ⟨rfl, Below.refl _ _⟩)
set_option maxRecDepth 100000 in
set_option maxHeartbeats 1000000 in
theorem agesNew2_c (l : List Int) (A : Option Addr) (n c : Nat) (w : World) (B : Nat) (hl : Mm.SlAt Mm.int w B l A n c) (hB : B ≤ w.heap.size) :
    Calls Try.prog 78 #[.slice A n c, .func (Fn.func 75) #[] #[]] w fun e w' => ∃ i : Int, e = .returned (.int .i64 i) ∧ decide (0 ≤ i) = l.any (fun x => !Pl.ageOk x) ∧ Below w.heap.size w w' := by
  have hn : n ≤ 9223372036854775807 := by have := hl.2.1; have := hl.2.2.1; unfold maxLen at this; omega
  have hlen : Hid (l.length = n) := hl.1
  have HL := Lib.hid hl
  clear hl
  go_enter Try.func78, Try.ntmps78
  go_wp2
  go_loopg [5, 8] n (fun g _ i wr => ∃ k : Nat, n - k ≤ g ∧ k ≤ n ∧ i = .int .i64 k ∧ Hid ((l.take k).any (fun x => !Pl.ageOk x) = false) ∧ Hid (Below w.heap.size w wr))
  case atStart => exact ⟨0, Nat.le_refl _, Nat.zero_le _, rfl, rfl, Below.refl _ _⟩
  case round =>
    obtain ⟨k, hgk, hk, rfl, HA, HB⟩ := hrel
    obtain ⟨W, rfl⟩ : ∃ W : World, W = wr := ⟨_, rfl⟩
    have hsz := HB.out.size
    by_cases hlt : k < n
    · (obtain ⟨x, b, off, hx, rfl, hb, ix, e0⟩ := int_get (HL.out.keep (w' := W) fun b hb => HB.out.block b (by omega)) hlt);(have C := agesNew1_c x W);(clear ix)
      have HN : Hid ((l.take (k + 1)).any (fun x => !Pl.ageOk x) = ((l.take k).any (fun x => !Pl.ageOk x) || (fun x => !Pl.ageOk x) x)) := Lib.hid (Pl.any_snoc hx)
      have HX := Lib.hid hx
      have f1 : (k : Int) < (n : Nat) := by omega
      have f2 : (0 : Int) ≤ (k : Nat) := by omega
      have f3 : ((k : Nat) : Int).toNat = k := by omega
      clear hx
      obtain ⟨pb, hs⟩ : ∃ pb, (fun x => !Pl.ageOk x) x = pb := ⟨_, rfl⟩
      have hs2 : (!Pl.ageOk x) = pb := hs
      rw [hs2] at C
      clear hs2
      cases pb with
      | false =>
        rw [hs, HA.out] at HN
        clear hs
        go_wp2_with (go_at_call 75; (with_reducible refine C.mono ?_); clear C; rintro e w1 ⟨rfl, hb1⟩)
        go_roundg (n - (k + 1))
        case measure => omega
        case rel => exact ⟨k + 1, Nat.le_refl _, by omega, by go_num, HN.out, below_step HB.out hb1⟩
      | true =>
        have HF : Hid (l.any (fun x => !Pl.ageOk x) = true) := Lib.hid (List.any_eq_true.2 ⟨x, List.mem_of_getElem? HX.out, hs⟩)
        clear hs
        go_wp2_with (go_at_call 75; (with_reducible refine C.mono ?_); clear C; rintro e w1 ⟨rfl, hb1⟩)
        go_ret
        exact ⟨k, rfl, by rw [HF.out]; exact decide_eq_true (by omega), below_step HB.out hb1⟩
    · have HF : Hid (l.any (fun x => !Pl.ageOk x) = false) := Lib.hid (by rw [← List.take_of_length_le (show l.length ≤ k by rw [hlen.out]; omega)]; exact HA.out)
      have f1 : ¬ (k : Int) < (n : Nat) := by omega
      go_wp2
      go_ret
      exact ⟨-1, rfl, by rw [HF.out]; rfl, HB.out⟩
set_option maxRecDepth 100000 in
theorem agesNew_c (l : List Int) (A : Option Addr) (n c : Nat) (w : World) (B : Nat) (hl : Mm.SlAt Mm.int w B l A n c) (hB : B ≤ w.heap.size) :
    Calls Try.prog 44 #[.slice A n c, .func (Fn.func 75) #[] #[]] w fun e w' => e = .returned (.bool (l.any (fun x => !Pl.ageOk x))) ∧ Below w.heap.size w w' := by
  have C := agesNew2_c l A n c w B hl hB
  clear hl
  obtain ⟨b, hb⟩ : ∃ b, l.any (fun x => !Pl.ageOk x) = b := ⟨_, rfl⟩
  rw [hb] at C ⊢
  clear hb
  cases b with
  | false =>
    go_enter Try.func44, Try.ntmps44
    go_wp2_with (go_at_call 78; (with_reducible refine C.mono ?_); clear C; rintro e w1 ⟨i, rfl, hi, hb1⟩)
    go_ret
    exact ⟨rfl, hb1⟩
  | true =>
    go_enter Try.func44, Try.ntmps44
    go_wp2_with (go_at_call 78; (with_reducible refine C.mono ?_); clear C; rintro e w1 ⟨i, rfl, hi, hb1⟩)
    go_ret
    exact ⟨rfl, hb1⟩
theorem Pl.ages_any (l : List Int) : l.any (fun x => !Pl.ageOk x) = !l.all Pl.ageOk := by rw [List.all_eq_not_any_not, Bool.not_not]
end Go.Proofs.Ytkhchfbpmmiopaa

/-
  Contracts: the reference's copy of an election (chapter 8). No conditions beyond those named.
-/
namespace Go.Proofs.Ytkhchfbpmmiopaa
open Go.RowKit
attribute [local go_sem] und_cell cha_cell World.cell?_alloc_some
set_option maxRecDepth 100000 in
set_option maxHeartbeats 4000000 in
theorem l8Own_c (p : Poll) (cs : List Value) (w : World) (B : Nat) (hh : rPoll.at_ w B p cs) (hB : B ≤ w.heap.size) (hw : Pl.PW p) :
    Calls Try.prog 50 #[.agg cs.toArray] w (Mm.NewAg rPoll w p) := by
  obtain ⟨A0, n0, c0, A1, n1, c1, A2, n2, c2, rfl, r0, r1, r2⟩ := rPoll_at hh
  have g0 := r0.1
  have g1 := r1.1
  have g2 := r2.1
  have hn05 : n0 ≤ 5 := by have := hw.n5; omega
  have hn160 : n1 ≤ 60 := by have := hw.lets; omega
  have hn2300 : n2 ≤ 300 := by have := hw.leads; omega
  have HW := Lib.hid hw
  have G0 := Lib.hid g0
  have G1 := Lib.hid g1
  have G2 := Lib.hid g2
  have R0 := Lib.hid r0
  have R1 := Lib.hid r1
  have R2 := Lib.hid r2
  have HBW := Lib.hid hB
  obtain ⟨iN, qN, qN0, qN1, qN2⟩ := info_parts Try.infoNode
  obtain ⟨iI, qI, qI0, qI1, qI2⟩ := info_parts Try.infoIntP
  obtain ⟨iT, qT, qT0, qT1, qT2⟩ := info_parts Try.infoLetter
  obtain ⟨iL, qL, qL0, qL1, qL2⟩ := info_parts Try.infoIntsP
  clear hh r0 r1 r2 hw g0 g1 g2
  obtain ⟨ga, hga⟩ : ∃ g, w.heap.size = g := ⟨_, rfl⟩
  obtain ⟨gc, hgc⟩ : ∃ g, ga + 1 = g := ⟨_, rfl⟩
  obtain ⟨W0, hW0⟩ : ∃ W, (w.alloc (.cells #[.slice A0 n0 c0, .slice A1 n1 c1, .slice A2 n2 c2] 31)).alloc (.cells #[.slice none 0 0, .slice none 0 0, .slice none 0 0] 31) = W := ⟨_, rfl⟩
  have HS := Lib.hid ((((Mm.SepF.start w).alloc' hga 31 [.slice A0 n0 c0, .slice A1 n1 c1, .slice A2 n2 c2]).alloc' (g := gc) (by rw [Mm.sz1, hga, hgc]) 31 zPoll).atW hW0)
  go_enter Try.func50, Try.ntmps50
  go_upto_region 1 with fail
  clear hW0 hga hgc
  have b0 := HS.out.cell (k := 0) 1 rfl rfl
  have b1 := HS.out.cell (k := 1) 1 rfl rfl
  have b2 := HS.out.cell (k := 2) 1 rfl rfl
  have HS3 := Lib.hid (HS.out.fresh (g := W0.heap.size) rfl rLetter 84)
  have hbw0 := HS.out.bel0
  have hsz0 := HS3.out.bel0.size
  go_upto_region 2 with (at_builtin; refine Mm.wpList_appMany rfl (.tmp 8) (.tmp 10) 28 rfl Mm.flatA_letter Mm.flat_letter iT _ 40 Try.underlying28 qT qT0 qT1 qT2 rfl HS3.out 0 rfl (R1.out.keep (fun b hb => HS3.out.bel0.block b (by omega))) (m := n1) (by simp) (by unfold maxLen; omega) (by omega) rfl rfl ?_; intro A5 c5 f5 w5 hs5; (have HS5 := Lib.hid hs5); clear hs5)
  clear HS3 b0 b1 b2 HS hbw0 hsz0
  obtain ⟨gp, hgp⟩ : ∃ g, w5.heap.size = g := ⟨_, rfl⟩
  obtain ⟨W6, hW6⟩ : ∃ W, w5.alloc (.cells #[.slice none 0 0, .slice A5 n1 c5, .slice none 0 0] 31) = W := ⟨_, rfl⟩
  have HS6 := Lib.hid ((HS5.out.alloc' hgp 31 [.slice none 0 0, .slice A5 n1 c5, .slice none 0 0]).atW hW6)
  rw [hW6, hgp]
  clear hW6 hgp HS5
  rw [List.nil_append] at HS6
  have KS := Lib.hid (HS6.out.add (Below.refl _ _) (t := Mm.tsl rNode 42 [] (.slice none 0 0) []) Mm.SlOwn.nil List.nodup_nil (fun b hb => by cases hb))
  have b0 := HS6.out.cell (k := 0) 3 rfl rfl
  have b1 := HS6.out.cell (k := 1) 3 rfl rfl
  have b2 := HS6.out.cell (k := 2) 3 rfl rfl
  go_upto_region 3 with fail
  clear b0 b1 b2 HS6
  go_loopg [16] n0 (fun gg i wr => ∃ (k : Nat) (A' : Option Addr) (c' : Nat) (fp : List Nat), n0 - k ≤ gg ∧ k ≤ n0 ∧ i = .int .i64 k ∧ Hid (Mm.SepF [] w wr [Mm.tsl rNode 42 (p.Nodes.take k) (.slice A' k c') fp, Mm.tblk gp 31 [.slice A' k c', .slice A5 n1 c5, .slice none 0 0], Mm.tsl rLetter 84 p.Letters (.slice A5 n1 c5) f5, Mm.tblk gc 31 zPoll, Mm.tblk ga 31 [.slice A0 n0 c0, .slice A1 n1 c1, .slice A2 n2 c2]]))
  case atStart => exact ⟨0, none, 0, [], Nat.le_refl _, Nat.zero_le _, rfl, KS.out⟩
  case round =>
    clear KS
    obtain ⟨k, A', c', fp, hgk, hk', rfl, HS⟩ := hrel
    obtain ⟨W, rfl⟩ : ∃ W : World, W = wr := ⟨_, rfl⟩
    by_cases hlt : k < n0
    · have fc : (k : Int) < (n0 : Nat) := by omega
      obtain ⟨x, b, off, AH, mH, dH, hx, rfl, hb, i0', i1', i2', hrd, i4', e0, e1, e2, e3, e4⟩ := rNode_get (R0.out.keep (w' := W) fun b hb => HS.out.bel0.block b (by have := HBW.out; omega)) hlt
      have HIX := Lib.hid (And.intro i0' (And.intro i1' (And.intro i2' i4')))
      have HRD := Lib.hid hrd
      have HNX := Lib.hid (Mm.take_succ_some hx)
      have hmH : mH ≤ 5 := by
        have hno := HW.out.node k x hx
        have h5 := Pl.rising_bound x.Heard 0 n0 hno.heard (fun i hi => by have := hno.hin i hi; have := G0.out; omega)
        rw [hrd.1, if_pos (by omega)] at h5
        omega
      have hlk : (p.Nodes.take k).length = k := by rw [List.length_take]; have := G0.out; omega
      have HLK := Lib.hid hlk
      have hBW : B ≤ W.heap.size := by have := HBW.out; have := HS.out.bel0.size; omega
      clear hx i0' i1' i2' i4' hrd hlk
      go_upto_region 5 with fail
      obtain ⟨gn, hgn⟩ : ∃ g, W.heap.size = g := ⟨_, rfl⟩
      obtain ⟨W1, hW1⟩ : ∃ V, W.alloc (.cells #[.int .i64 x.Term, .int .i64 x.Voted, .int .i64 x.Age, .slice AH mH dH, .int .i64 x.Role] 42) = V := ⟨_, rfl⟩
      have HS1 := Lib.hid ((HS.out.alloc' hgn 42 [.int .i64 x.Term, .int .i64 x.Voted, .int .i64 x.Age, .slice AH mH dH, .int .i64 x.Role]).atW hW1)
      have hb1 : Below W.heap.size W W1 := by rw [← hW1]; exact below_new (Below.refl _ _) _
      rw [hW1, hgn]
      have HB1 := Lib.hid hb1
      have HGN := Lib.hid hgn
      clear hW1 e0 e1 e2 e3 e4 hb1 HS hgn
      have HS2 := Lib.hid (HS1.out.fresh (g := W1.heap.size) rfl Mm.int 3)
      have hb2 : Below W.heap.size W (W1.alloc (.cells #[] 3)) := below_step HB1.out (below_new (Below.refl _ _) _)
      have HB2 := Lib.hid hb2
      clear hb2
      have q3 := HS1.out.cell (k := 3) 0 rfl rfl
      go_upto_region 6 with (at_builtin; refine Mm.wpList_appMany rfl (.tmp 20) (.tmp 22) 23 rfl Mm.flat_int Mm.flatN_int' iI _ 8 Try.underlying23 qI qI0 qI1 qI2 rfl HS2.out 0 rfl (HRD.out.keep (fun b hb => HB2.out.block b (by omega))) (m := mH) (by simp) (by unfold maxLen; omega) (by omega) rfl rfl ?_; intro A6 c6 f6 w6 hs6; rw [List.nil_append] at hs6; (have HS3 := Lib.hid hs6); clear hs6; clear q3; (have q3 := HS3.out.cell (k := 3) 1 rfl rfl); (have y3 := HS3.out.frz (k := 3) 1 rfl))
      clear q3 y3 HS2 HB2 HB1 HS1 HRD
      obtain ⟨W7, hW7⟩ : ∃ V, w6.setCell ⟨gn, 3, none⟩ (.slice A6 mH c6) = V := ⟨_, rfl⟩
      have HS4 := Lib.hid ((HS3.out.setBlk (k := 3) 1 rfl (.slice A6 mH c6)).atW hW7)
      rw [hW7]
      clear hW7 HS3
      have q0 := HS4.out.cell (k := 0) 1 rfl rfl
      have q1 := HS4.out.cell (k := 1) 1 rfl rfl
      have q2 := HS4.out.cell (k := 2) 1 rfl rfl
      have q3 := HS4.out.cell (k := 3) 1 rfl rfl
      have q4 := HS4.out.cell (k := 4) 1 rfl rfl
      have b0 := HS4.out.cell (k := 0) 3 rfl rfl
      go_wp2_with (at_builtin; refine Mm.app_thing (x := x) (cx := [.int .i64 x.Term, .int .i64 x.Voted, .int .i64 x.Age, .slice A6 mH c6, .int .i64 x.Role]) HS4.out 2 0 (by decide) rfl rfl rfl (.tmp 26) (.tmp 28) 27 rfl iN _ 56 Try.underlying27 qN qN0 qN1 qN2 rfl (by decide) rfl rfl (fun W hh => rNode_own_mk HIX.out.1 HIX.out.2.1 HIX.out.2.2.1 hh HIX.out.2.2.2) HLK.out (by unfold maxLen; omega) (by omega) ?_; intro gg cap w' fp' hs; (have HS8 := Lib.hid hs); clear hs; clear q0 q1 q2 q3 q4 b0; (have b0 := HS8.out.cell (k := 0) 3 rfl rfl); (have y0 := HS8.out.frz (k := 0) 3 rfl))
      go_roundg (n0 - (k + 1))
      case measure => omega
      case rel => exact ⟨k + 1, _, cap, fp', Nat.le_refl _, by omega, by go_num, by rw [HNX.out]; exact (HS8.out.setBlk (k := 0) 3 rfl _).sel [2, 3, 4, 5, 6] (by decide) rfl⟩
    · obtain rfl : k = n0 := by omega
      have HE : Hid (p.Nodes.take k = p.Nodes) := Lib.hid (List.take_of_length_le (by have := G0.out; omega))
      rw [HE.out] at HS
      have fc : ¬ ((k : Nat) : Int) < (k : Nat) := by omega
      obtain ⟨AN, rfl⟩ : ∃ q, q = A' := ⟨_, rfl⟩
      obtain ⟨cN, rfl⟩ : ∃ q, q = c' := ⟨_, rfl⟩
      have b0 := HS.out.cell (k := 0) 4 rfl rfl
      have b1 := HS.out.cell (k := 1) 4 rfl rfl
      have b2 := HS.out.cell (k := 2) 4 rfl rfl
      have KS2 := Lib.hid ((HS.out.sel [1, 0, 2, 3, 4] (by decide) rfl).add (Below.refl _ _) (t := Mm.tsl ints 23 [] (.slice none 0 0) []) Mm.SlOwn.nil List.nodup_nil (fun b hb => by cases hb)).toSep
      go_wp2
      clear b0 b1 b2 HS
      go_loopg [35] n2 (fun gg i wr => ∃ (j : Nat) (A' : Option Addr) (c' : Nat) (fq : List Nat), n2 - j ≤ gg ∧ j ≤ n2 ∧ i = .int .i64 j ∧ Hid (Mm.Sep w wr [Mm.tsl ints 23 (p.Leaders.take j) (.slice A' j c') fq, Mm.tblk gp 31 [.slice AN k cN, .slice A5 n1 c5, .slice A' j c'], Mm.tsl rNode 42 p.Nodes (.slice AN k cN) fp, Mm.tsl rLetter 84 p.Letters (.slice A5 n1 c5) f5, Mm.tblk gc 31 zPoll]))
      case atStart => exact ⟨0, none, 0, [], Nat.le_refl _, Nat.zero_le _, rfl, (KS2.out.toF.sel [0, 1, 2, 3, 4] (by decide) rfl).toSep⟩
      case round =>
        clear KS2
        obtain ⟨j, A', c', fq, hgj, hj, rfl, HS⟩ := hrel
        have hbel := HS.out.bel
        have hsw := hbel.size
        have hBw : B ≤ w.heap.size := HBW.out
        by_cases hlt : j < n2
        · obtain ⟨x, b0, off, A1', n1', c1', hx, rfl, hb, hr, e0⟩ := ints_get R2.out hlt
          have hxl := HW.out.lead x (List.mem_of_getElem? hx)
          have hn2' : n1' = 2 := by obtain ⟨t, q, rfl, _⟩ := hxl; exact hr.1.symm
          have y0 := HS.out.cell (k := 2) 1 rfl rfl
          have z0 := HS.out.frz (k := 2) 1 rfl
          have e0' := below_some hbel e0
          have HRW := Lib.hid (show Mm.SlAt Mm.int (wr.alloc (.cells #[] 3)).drew B x A1' n1' c1' from hr.keep fun b' hb' => (Below.heap_alloc wr _ b' (by omega)).trans (hbel.block b' (by omega)))
          have HN := Lib.hid (Mm.take_succ_some hx)
          have htl := List.length_take_of_le (l := p.Leaders) (i := j) (by rw [G2.out]; omega)
          have HTL := Lib.hid htl
          have fd : (j : Int) < (n2 : Nat) := by omega
          have HN2 := Lib.hid hn2'
          clear hx hr e0 htl hxl hn2'
          have hn1'5 : n1' ≤ 5 := by have := HN2.out; omega
          go_wp2
          go_region_law (first
            | (refine Mm.step_clone (by rfl) (.tmp 41) (.tmp 42) 23 (by rfl) Mm.flat_int iI _ 8 Try.underlying23 qI qI0 qI1 qI2 rfl (by decide) HS.out ((below_new (Below.refl wr.heap.size wr) (.cells #[] 3)).drew) (heap_alloc_new wr _) (Nat.le_refl _) HRW.out (by unfold maxLen; omega) (by omega) (by rfl) (by rfl) ?_; intro A2 c2 fp2 w1 hs1 hb1; obtain ⟨l0, ho3, hnext⟩ := hs1.push (W2 := w1.alloc (.cells #[.slice A2 n1' c2] 23)) 1 0 (by decide) rfl rfl (below_new (Below.refl _ _) _) (x := x) (cx := [.slice A2 n1' c2]) (fun W h => ⟨_, rfl, h⟩); rw [HTL.out] at ho3 hnext; (have HNX := Lib.hid hnext); (have HS1 := Lib.hid hs1); (have y1 := hs1.cell (k := 2) 2 rfl rfl); (have z1 := hs1.frz (k := 2) 2 rfl); clear hnext hs1 hb1)
            | (refine step_append_lies _ (by rfl) (.tmp 40) (.tmp 44) 29 (by rfl) 0 23 iL _ 1 24 Try.underlying29 qL qL0 qL1 qL2 rfl (by omega) (.slice A' j c') j l0 (by rfl) ho3 ⟨w1.heap.size, 0, none⟩ 1 1 [.slice A2 n1' c2] (by rfl) (by rfl) (World.news_of_block (B := w1.heap.size) (cs := #[.slice A2 n1' c2]) (t := 23) (fr := (0, 0)) (heap_alloc_new w1 _)) (by simp [Value.oneCell']) (by omega) (by unfold maxLen; omega) (by omega) (Nat.zero_le _) _ rfl ?_; intro gg cap w4 hown1 hgrow hat hlt'; obtain ⟨fp', hs4⟩ := HNX.out gg cap w4 hown1 hgrow hat; (have HS4 := Lib.hid hs4); (have y0' := HS4.out.cell (k := 2) 2 rfl rfl); (have z0' := HS4.out.frz (k := 2) 2 rfl); clear hs4 hown1 hgrow hat))
          all_goals
            go_wp2
            go_roundg (n2 - (j + 1))
            case measure => omega
            case rel => exact ⟨j + 1, _, cap, fp', Nat.le_refl _, by omega, by go_num, by rw [HN.out]; exact (HS4.out.setBlk 2 rfl _).tail⟩
        · obtain rfl : j = n2 := by omega
          have HE2 : Hid (p.Leaders.take j = p.Leaders) := List.take_of_length_le (by rw [G2.out]; exact Nat.le_refl _)
          have fd : ¬ ((j : Nat) : Int) < (j : Nat) := by omega
          rw [HE2.out] at HS
          have HSR := Lib.hid HS.out.toF
          have b0 := HSR.out.cell (k := 0) 1 rfl rfl
          have b1 := HSR.out.cell (k := 1) 1 rfl rfl
          have b2 := HSR.out.cell (k := 2) 1 rfl rfl
          have r0 := HSR.out.cell (k := 0) 4 rfl rfl
          have r1 := HSR.out.cell (k := 1) 4 rfl rfl
          have r2 := HSR.out.cell (k := 2) 4 rfl rfl
          have z0 := HSR.out.frz (k := 0) 4 rfl
          have z1 := HSR.out.frz (k := 1) 4 rfl
          have z2 := HSR.out.frz (k := 2) 4 rfl
          have HSF := Lib.hid (((HSR.out.setBlk (k := 0) 4 rfl (.slice AN k cN)).setBlk (k := 1) 4 rfl (.slice A5 n1 c5)).setBlk (k := 2) 4 rfl (.slice A' j c'))
          have u0 := HSF.out.cell (k := 0) 4 rfl rfl
          have u1 := HSF.out.cell (k := 1) 4 rfl rfl
          have u2 := HSF.out.cell (k := 2) 4 rfl rfl
          have HFI := Lib.hid (shutv_Poll (x := p) (HSF.out.sel [2, 3, 0] (by decide) rfl))
          go_wp2
          exact bodyPost_ret (v := .agg #[.slice AN k cN, .slice A5 n1 c5, .slice A' j c']) (by simp [results, Try.results50, go_sem, u0, u1, u2]) rfl (poll_ret HFI.out)
end Go.Proofs.Ytkhchfbpmmiopaa

/-
  Contracts: the reference's election, by value: a step on a letter, a step whole (chapter 8). No conditions beyond those named.
-/
namespace Go.Proofs.Ytkhchfbpmmiopaa
open Go.RowKit
attribute [local go_sem] und_cell cha_cell World.cell?_alloc_some
set_option maxRecDepth 100000 in
set_option maxHeartbeats 4000000 in
theorem l8StepTwice_c (p : Poll) (kk : Int) (cs : List Value) (fp : List Nat) (w : World) (h : (Mm.tow rPoll p cs fp).holds w) (hnd : fp.Nodup) (hw : Pl.PW p) :
    Calls Try.prog 49 #[.agg cs.toArray, .agg #[.int .i64 4, .int .i64 kk]] w (PVA2 (Pl.pstep p ⟨4, kk⟩) fp w) := by
  obtain ⟨A0, n0, c0, A1, n1, c1, A2, n2, c2, f0, f1, f2, rfl, rfl, hs⟩ := openv_Poll (Mm.SepF.one _ w h hnd)
  obtain ⟨g0, rfl, -, -⟩ := Mm.sl_addr (hs.sl 0 rfl) (by have := hw.n1; omega)
  have hln0 : n0 = p.Nodes.length := by obtain ⟨A', n', c', hv, h1, _⟩ := (hs.sl 0 rfl).form; injection hv with _ h2 _; omega
  have hln1 : n1 = p.Letters.length := by obtain ⟨A', n', c', hv, h1, _⟩ := (hs.sl 1 rfl).form; injection hv with _ h2 _; omega
  have hn5 := hw.n5
  have hl60 := hw.lets
  have hn05 : n0 ≤ 5 := by omega
  have hn160 : n1 ≤ 60 := by omega
  obtain ⟨ga, hga⟩ : ∃ g, w.heap.size = g := ⟨_, rfl⟩
  obtain ⟨gs, hgs⟩ : ∃ g, ga + 1 = g := ⟨_, rfl⟩
  obtain ⟨gc, hgc⟩ : ∃ g, gs + 1 = g := ⟨_, rfl⟩
  obtain ⟨W0, hW0⟩ : ∃ W, ((w.alloc (.cells #[.slice (some ⟨g0, 0, none⟩) n0 c0, .slice A1 n1 c1, .slice A2 n2 c2] 31)).alloc (.cells #[.int .i64 4, .int .i64 kk] 56)).alloc (.cells #[.slice none 0 0, .slice none 0 0, .slice none 0 0] 31) = W := ⟨_, rfl⟩
  have HS := Lib.hid ((((hs.alloc' hga 31 [.slice (some ⟨g0, 0, none⟩) n0 c0, .slice A1 n1 c1, .slice A2 n2 c2]).alloc' (g := gs) (by rw [Mm.sz1, hga, hgs]) 56 [.int .i64 4, .int .i64 kk]).alloc' (g := gc) (by rw [Mm.sz2, hga]; omega) 31 zPoll).atW hW0)
  have HW := Lib.hid hw
  have HN0 := Lib.hid hln0
  have HN1 := Lib.hid hln1
  clear h hs hnd hw hln0 hln1
  go_enter Try.func49, Try.ntmps49
  go_upto_region 1 with fail
  clear hW0 hga hgs hgc
  have s0 := HS.out.cell (k := 0) 1 rfl rfl
  have s1 := HS.out.cell (k := 1) 1 rfl rfl
  have b0 := HS.out.cell (k := 0) 2 rfl rfl
  have b1 := HS.out.cell (k := 1) 2 rfl rfl
  have b2 := HS.out.cell (k := 2) 2 rfl rfl
  have HP := Lib.hid (Pl.pstepL p 4 kk (by omega))
  by_cases hin : 0 ≤ kk ∧ kk < (n1 : Int)
  rotate_left
  · have HF : Hid (Pl.pstep p ⟨4, kk⟩ = (p, false)) := Lib.hid (by rw [HP.out, if_neg (fun hh => hin ⟨hh.1, by have := hh.2; have := HN1.out; omega⟩)])
    by_cases h0 : kk < 0
    · clear hin
      have r0 := HS.out.cell (k := 0) 0 rfl rfl
      have r1 := HS.out.cell (k := 1) 0 rfl rfl
      have r2 := HS.out.cell (k := 2) 0 rfl rfl
      have z0 := HS.out.frz (k := 0) 0 rfl
      have z1 := HS.out.frz (k := 1) 0 rfl
      have z2 := HS.out.frz (k := 2) 0 rfl
      go_wp2
      have HSF := Lib.hid (((HS.out.setBlk (k := 0) 0 rfl (.slice (some ⟨g0, 0, none⟩) n0 c0)).setBlk (k := 1) 0 rfl (.slice A1 n1 c1)).setBlk (k := 2) 0 rfl (.slice A2 n2 c2))
      have u0 := HSF.out.cell (k := 0) 0 rfl rfl
      have u1 := HSF.out.cell (k := 1) 0 rfl rfl
      have u2 := HSF.out.cell (k := 2) 0 rfl rfl
      exact bodyPost_ret (v := .tuple #[.agg #[(.slice (some ⟨g0, 0, none⟩) n0 c0), (.slice A1 n1 c1), (.slice A2 n2 c2)], .bool false]) (by simp [results, Try.results49, go_sem, u0, u1, u2]) rfl ⟨[(.slice (some ⟨g0, 0, none⟩) n0 c0), (.slice A1 n1 c1), (.slice A2 n2 c2)], _, by rw [HF.out], by rw [HF.out]; exact (shutv_Poll (x := p) (HSF.out.sel [3, 4, 5] (by decide) rfl)).left⟩
    · have h1 : (n1 : Int) ≤ kk := by omega
      clear hin
      have r0 := HS.out.cell (k := 0) 0 rfl rfl
      have r1 := HS.out.cell (k := 1) 0 rfl rfl
      have r2 := HS.out.cell (k := 2) 0 rfl rfl
      have z0 := HS.out.frz (k := 0) 0 rfl
      have z1 := HS.out.frz (k := 1) 0 rfl
      have z2 := HS.out.frz (k := 2) 0 rfl
      go_wp2
      have HSF := Lib.hid (((HS.out.setBlk (k := 0) 0 rfl (.slice (some ⟨g0, 0, none⟩) n0 c0)).setBlk (k := 1) 0 rfl (.slice A1 n1 c1)).setBlk (k := 2) 0 rfl (.slice A2 n2 c2))
      have u0 := HSF.out.cell (k := 0) 0 rfl rfl
      have u1 := HSF.out.cell (k := 1) 0 rfl rfl
      have u2 := HSF.out.cell (k := 2) 0 rfl rfl
      exact bodyPost_ret (v := .tuple #[.agg #[(.slice (some ⟨g0, 0, none⟩) n0 c0), (.slice A1 n1 c1), (.slice A2 n2 c2)], .bool false]) (by simp [results, Try.results49, go_sem, u0, u1, u2]) rfl ⟨[(.slice (some ⟨g0, 0, none⟩) n0 c0), (.slice A1 n1 c1), (.slice A2 n2 c2)], _, by rw [HF.out], by rw [HF.out]; exact (shutv_Poll (x := p) (HSF.out.sel [3, 4, 5] (by decide) rfl)).left⟩
  obtain ⟨k, rfl⟩ : ∃ k : Nat, kk = k := ⟨kk.toNat, by omega⟩
  have hk : k < p.Letters.length := by have := HN1.out; omega
  have hkn : (k : Int) < (n1 : Nat) := by omega
  have hkn' : ¬ (n1 : Int) ≤ (k : Nat) := by omega
  have hk0 : (0 : Int) ≤ (k : Nat) := by omega
  have hk0' : ¬ ((k : Nat) : Int) < 0 := by omega
  have hkt : ((k : Nat) : Int).toNat = k := by omega
  rw [if_pos ⟨hk0, by omega⟩] at HP
  have hx := HW.out.lat (k := (k : Int)) (by omega) (by omega)
  have hmk := HW.out.lok (k := (k : Int)) (by omega) (by omega)
  rw [hkt] at hx
  obtain ⟨m, hm⟩ : ∃ m, Pl.letAt p (k : Int) = m := ⟨_, rfl⟩
  rw [hm] at hx hmk HP
  have HX := Lib.hid hx
  have HMK := Lib.hid hmk
  have HK := Lib.hid hk
  obtain ⟨g2, rfl, -, -⟩ := Mm.sl_addr (HS.out.sl 4 rfl) (by omega)
  have HMI := Lib.hid (Mm.letter_inv (HS.out.sl 4 rfl) HX.out)
  have hcap : n1 ≤ c1 ∧ c1 ≤ maxLen := by obtain ⟨A', n', c', hv, h1, h2, h3, _⟩ := (HS.out.sl 4 rfl).form; injection hv with _ h4 h5; omega
  unfold maxLen at hcap
  clear hin hk hx hmk hm
  obtain ⟨q0, q1, q2, q3, q4⟩ := rLetter_ocell (HS.out.sl 4 rfl) (HS.out.ndat (i := 4) rfl) HX.out
  go_upto_region 17 with fail
  clear q0 q1 q2 q3 q4
  clear s0 s1 b0 b1 b2
  obtain ⟨gx, hgx⟩ : ∃ g, W0.heap.size = g := ⟨_, rfl⟩
  obtain ⟨W2, hW2⟩ : ∃ V, W0.alloc (.cells #[.int .i64 m.From, .int .i64 m.To, .int .i64 m.Term, .bool m.Ask, .int .i64 m.Age] 84) = V := ⟨_, rfl⟩
  have HS2 := Lib.hid ((HS.out.alloc' hgx 84 [.int .i64 m.From, .int .i64 m.To, .int .i64 m.Term, .bool m.Ask, .int .i64 m.Age]).atW hW2)
  rw [hW2, hgx]
  clear hW2 hgx HS
  have HS := Lib.hid HS2.out.tail
  have s0 := HS.out.cell (k := 0) 1 rfl rfl
  have s1 := HS.out.cell (k := 1) 1 rfl rfl
  have b0 := HS.out.cell (k := 0) 2 rfl rfl
  have b1 := HS.out.cell (k := 1) 2 rfl rfl
  have b2 := HS.out.cell (k := 2) 2 rfl rfl
  rw [if_pos rfl] at HP
  by_cases hl : p.Letters.length = 60
  · have HF : Hid (Pl.pstep p ⟨4, (k : Int)⟩ = (p, false)) := Lib.hid (by rw [HP.out, if_pos hl])
    have f4' : ((n1 : Int) == 60) = true := by have := HN1.out; simp; omega
    clear hl
    have r0 := HS.out.cell (k := 0) 0 rfl rfl
    have r1 := HS.out.cell (k := 1) 0 rfl rfl
    have r2 := HS.out.cell (k := 2) 0 rfl rfl
    have z0 := HS.out.frz (k := 0) 0 rfl
    have z1 := HS.out.frz (k := 1) 0 rfl
    have z2 := HS.out.frz (k := 2) 0 rfl
    go_wp2
    have HSF := Lib.hid (((HS.out.setBlk (k := 0) 0 rfl (.slice (some ⟨g0, 0, none⟩) n0 c0)).setBlk (k := 1) 0 rfl (.slice (some ⟨g2, 0, none⟩) n1 c1)).setBlk (k := 2) 0 rfl (.slice A2 n2 c2))
    have u0 := HSF.out.cell (k := 0) 0 rfl rfl
    have u1 := HSF.out.cell (k := 1) 0 rfl rfl
    have u2 := HSF.out.cell (k := 2) 0 rfl rfl
    exact bodyPost_ret (v := .tuple #[.agg #[(.slice (some ⟨g0, 0, none⟩) n0 c0), (.slice (some ⟨g2, 0, none⟩) n1 c1), (.slice A2 n2 c2)], .bool false]) (by simp [results, Try.results49, go_sem, u0, u1, u2]) rfl ⟨[(.slice (some ⟨g0, 0, none⟩) n0 c0), (.slice (some ⟨g2, 0, none⟩) n1 c1), (.slice A2 n2 c2)], _, by rw [HF.out], by rw [HF.out]; exact (shutv_Poll (x := p) (HSF.out.sel [3, 4, 5] (by decide) rfl)).left⟩
  · have HF : Hid (Pl.pstep p ⟨4, (k : Int)⟩ = (Pl.psend p m, true)) := Lib.hid (by
      rw [HP.out, if_neg hl]
      have h5 : Pl.psend p m = { p with Letters := p.Letters ++ [m] } := if_pos (by have := HN1.out; omega)
      rw [h5])
    have f4' : ((n1 : Int) == 60) = false := by have := HN1.out; simp; omega
    clear hl
    have HT := Lib.hid (shutv_Poll (x := p) (HS2.out.sel [4, 5, 6, 3, 2, 1, 0] (by decide) rfl))
    have CS := l8Write_c p m _ _ W2 (HT.out.at_ 0 rfl) (HT.out.ndat (i := 0) rfl) HMI.out HW.out.lets
    have x0 := HT.out.cell (k := 0) 4 rfl rfl
    have x1 := HT.out.cell (k := 1) 4 rfl rfl
    have x2 := HT.out.cell (k := 2) 4 rfl rfl
    have x3 := HT.out.cell (k := 3) 4 rfl rfl
    have x4 := HT.out.cell (k := 4) 4 rfl rfl
    go_wp2_with (go_at_call 83; (with_reducible refine CS.mono ?_); clear CS; clear x0 x1 x2 x3 x4; (rintro e w6 ⟨cq, fq, rfl, hL⟩); (obtain ⟨C0, x0, y0, C1, x1, y1, C2, x2, y2, rfl⟩ := own_formP hL.2.2.2); ((have HS7 := Lib.hid (HT.out.call 0 rfl hL))); (clear hL); (clear s0 s1 b0 b1 b2); (have r0 := HS7.out.cell (k := 0) 3 rfl rfl); (have r1 := HS7.out.cell (k := 1) 3 rfl rfl); (have r2 := HS7.out.cell (k := 2) 3 rfl rfl); (have z0 := HS7.out.frz (k := 0) 3 rfl); (have z1 := HS7.out.frz (k := 1) 3 rfl); (have z2 := HS7.out.frz (k := 2) 3 rfl))
    have HSF := Lib.hid (((HS7.out.setBlk (k := 0) 3 rfl (.slice C0 x0 y0)).setBlk (k := 1) 3 rfl (.slice C1 x1 y1)).setBlk (k := 2) 3 rfl (.slice C2 x2 y2))
    have u0 := HSF.out.cell (k := 0) 3 rfl rfl
    have u1 := HSF.out.cell (k := 1) 3 rfl rfl
    have u2 := HSF.out.cell (k := 2) 3 rfl rfl
    exact bodyPost_ret (v := .tuple #[.agg #[(.slice C0 x0 y0), (.slice C1 x1 y1), (.slice C2 x2 y2)], .bool true]) (by simp [results, Try.results49, go_sem, u0, u1, u2]) rfl ⟨[(.slice C0 x0 y0), (.slice C1 x1 y1), (.slice C2 x2 y2)], _, by rw [HF.out], by rw [HF.out]; exact (HSF.out.sel [0] (by decide) rfl).left⟩
set_option maxRecDepth 100000 in
set_option maxHeartbeats 4000000 in
theorem l8StepTake_c (p : Poll) (kk : Int) (cs : List Value) (fp : List Nat) (w : World) (h : (Mm.tow rPoll p cs fp).holds w) (hnd : fp.Nodup) (hw : Pl.PW p) :
    Calls Try.prog 49 #[.agg cs.toArray, .agg #[.int .i64 2, .int .i64 kk]] w (PVA2 (Pl.pstep p ⟨2, kk⟩) fp w) := by
  obtain ⟨A0, n0, c0, A1, n1, c1, A2, n2, c2, f0, f1, f2, rfl, rfl, hs⟩ := openv_Poll (Mm.SepF.one _ w h hnd)
  obtain ⟨g0, rfl, -, -⟩ := Mm.sl_addr (hs.sl 0 rfl) (by have := hw.n1; omega)
  have hln0 : n0 = p.Nodes.length := by obtain ⟨A', n', c', hv, h1, _⟩ := (hs.sl 0 rfl).form; injection hv with _ h2 _; omega
  have hln1 : n1 = p.Letters.length := by obtain ⟨A', n', c', hv, h1, _⟩ := (hs.sl 1 rfl).form; injection hv with _ h2 _; omega
  have hn5 := hw.n5
  have hl60 := hw.lets
  have hn05 : n0 ≤ 5 := by omega
  have hn160 : n1 ≤ 60 := by omega
  obtain ⟨ga, hga⟩ : ∃ g, w.heap.size = g := ⟨_, rfl⟩
  obtain ⟨gs, hgs⟩ : ∃ g, ga + 1 = g := ⟨_, rfl⟩
  obtain ⟨gc, hgc⟩ : ∃ g, gs + 1 = g := ⟨_, rfl⟩
  obtain ⟨W0, hW0⟩ : ∃ W, ((w.alloc (.cells #[.slice (some ⟨g0, 0, none⟩) n0 c0, .slice A1 n1 c1, .slice A2 n2 c2] 31)).alloc (.cells #[.int .i64 2, .int .i64 kk] 56)).alloc (.cells #[.slice none 0 0, .slice none 0 0, .slice none 0 0] 31) = W := ⟨_, rfl⟩
  have HS := Lib.hid ((((hs.alloc' hga 31 [.slice (some ⟨g0, 0, none⟩) n0 c0, .slice A1 n1 c1, .slice A2 n2 c2]).alloc' (g := gs) (by rw [Mm.sz1, hga, hgs]) 56 [.int .i64 2, .int .i64 kk]).alloc' (g := gc) (by rw [Mm.sz2, hga]; omega) 31 zPoll).atW hW0)
  have HW := Lib.hid hw
  have HN0 := Lib.hid hln0
  have HN1 := Lib.hid hln1
  clear h hs hnd hw hln0 hln1
  go_enter Try.func49, Try.ntmps49
  go_upto_region 1 with fail
  clear hW0 hga hgs hgc
  have s0 := HS.out.cell (k := 0) 1 rfl rfl
  have s1 := HS.out.cell (k := 1) 1 rfl rfl
  have b0 := HS.out.cell (k := 0) 2 rfl rfl
  have b1 := HS.out.cell (k := 1) 2 rfl rfl
  have b2 := HS.out.cell (k := 2) 2 rfl rfl
  have HP := Lib.hid (Pl.pstepL p 2 kk (by omega))
  by_cases hin : 0 ≤ kk ∧ kk < (n1 : Int)
  rotate_left
  · have HF : Hid (Pl.pstep p ⟨2, kk⟩ = (p, false)) := Lib.hid (by rw [HP.out, if_neg (fun hh => hin ⟨hh.1, by have := hh.2; have := HN1.out; omega⟩)])
    by_cases h0 : kk < 0
    · clear hin
      have r0 := HS.out.cell (k := 0) 0 rfl rfl
      have r1 := HS.out.cell (k := 1) 0 rfl rfl
      have r2 := HS.out.cell (k := 2) 0 rfl rfl
      have z0 := HS.out.frz (k := 0) 0 rfl
      have z1 := HS.out.frz (k := 1) 0 rfl
      have z2 := HS.out.frz (k := 2) 0 rfl
      go_wp2
      have HSF := Lib.hid (((HS.out.setBlk (k := 0) 0 rfl (.slice (some ⟨g0, 0, none⟩) n0 c0)).setBlk (k := 1) 0 rfl (.slice A1 n1 c1)).setBlk (k := 2) 0 rfl (.slice A2 n2 c2))
      have u0 := HSF.out.cell (k := 0) 0 rfl rfl
      have u1 := HSF.out.cell (k := 1) 0 rfl rfl
      have u2 := HSF.out.cell (k := 2) 0 rfl rfl
      exact bodyPost_ret (v := .tuple #[.agg #[(.slice (some ⟨g0, 0, none⟩) n0 c0), (.slice A1 n1 c1), (.slice A2 n2 c2)], .bool false]) (by simp [results, Try.results49, go_sem, u0, u1, u2]) rfl ⟨[(.slice (some ⟨g0, 0, none⟩) n0 c0), (.slice A1 n1 c1), (.slice A2 n2 c2)], _, by rw [HF.out], by rw [HF.out]; exact (shutv_Poll (x := p) (HSF.out.sel [3, 4, 5] (by decide) rfl)).left⟩
    · have h1 : (n1 : Int) ≤ kk := by omega
      clear hin
      have r0 := HS.out.cell (k := 0) 0 rfl rfl
      have r1 := HS.out.cell (k := 1) 0 rfl rfl
      have r2 := HS.out.cell (k := 2) 0 rfl rfl
      have z0 := HS.out.frz (k := 0) 0 rfl
      have z1 := HS.out.frz (k := 1) 0 rfl
      have z2 := HS.out.frz (k := 2) 0 rfl
      go_wp2
      have HSF := Lib.hid (((HS.out.setBlk (k := 0) 0 rfl (.slice (some ⟨g0, 0, none⟩) n0 c0)).setBlk (k := 1) 0 rfl (.slice A1 n1 c1)).setBlk (k := 2) 0 rfl (.slice A2 n2 c2))
      have u0 := HSF.out.cell (k := 0) 0 rfl rfl
      have u1 := HSF.out.cell (k := 1) 0 rfl rfl
      have u2 := HSF.out.cell (k := 2) 0 rfl rfl
      exact bodyPost_ret (v := .tuple #[.agg #[(.slice (some ⟨g0, 0, none⟩) n0 c0), (.slice A1 n1 c1), (.slice A2 n2 c2)], .bool false]) (by simp [results, Try.results49, go_sem, u0, u1, u2]) rfl ⟨[(.slice (some ⟨g0, 0, none⟩) n0 c0), (.slice A1 n1 c1), (.slice A2 n2 c2)], _, by rw [HF.out], by rw [HF.out]; exact (shutv_Poll (x := p) (HSF.out.sel [3, 4, 5] (by decide) rfl)).left⟩
  obtain ⟨k, rfl⟩ : ∃ k : Nat, kk = k := ⟨kk.toNat, by omega⟩
  have hk : k < p.Letters.length := by have := HN1.out; omega
  have hkn : (k : Int) < (n1 : Nat) := by omega
  have hkn' : ¬ (n1 : Int) ≤ (k : Nat) := by omega
  have hk0 : (0 : Int) ≤ (k : Nat) := by omega
  have hk0' : ¬ ((k : Nat) : Int) < 0 := by omega
  have hkt : ((k : Nat) : Int).toNat = k := by omega
  rw [if_pos ⟨hk0, by omega⟩] at HP
  have hx := HW.out.lat (k := (k : Int)) (by omega) (by omega)
  have hmk := HW.out.lok (k := (k : Int)) (by omega) (by omega)
  rw [hkt] at hx
  obtain ⟨m, hm⟩ : ∃ m, Pl.letAt p (k : Int) = m := ⟨_, rfl⟩
  rw [hm] at hx hmk HP
  have HX := Lib.hid hx
  have HMK := Lib.hid hmk
  have HK := Lib.hid hk
  obtain ⟨g2, rfl, -, -⟩ := Mm.sl_addr (HS.out.sl 4 rfl) (by omega)
  have HMI := Lib.hid (Mm.letter_inv (HS.out.sl 4 rfl) HX.out)
  have hcap : n1 ≤ c1 ∧ c1 ≤ maxLen := by obtain ⟨A', n', c', hv, h1, h2, h3, _⟩ := (HS.out.sl 4 rfl).form; injection hv with _ h4 h5; omega
  unfold maxLen at hcap
  clear hin hk hx hmk hm
  obtain ⟨q0, q1, q2, q3, q4⟩ := rLetter_ocell (HS.out.sl 4 rfl) (HS.out.ndat (i := 4) rfl) HX.out
  go_upto_region 17 with fail
  clear q0 q1 q2 q3 q4
  clear s0 s1 b0 b1 b2
  obtain ⟨gx, hgx⟩ : ∃ g, W0.heap.size = g := ⟨_, rfl⟩
  obtain ⟨W2, hW2⟩ : ∃ V, W0.alloc (.cells #[.int .i64 m.From, .int .i64 m.To, .int .i64 m.Term, .bool m.Ask, .int .i64 m.Age] 84) = V := ⟨_, rfl⟩
  have HS2 := Lib.hid ((HS.out.alloc' hgx 84 [.int .i64 m.From, .int .i64 m.To, .int .i64 m.Term, .bool m.Ask, .int .i64 m.Age]).atW hW2)
  rw [hW2, hgx]
  clear hW2 hgx HS
  have HS := Lib.hid HS2.out.tail
  have s0 := HS.out.cell (k := 0) 1 rfl rfl
  have s1 := HS.out.cell (k := 1) 1 rfl rfl
  have b0 := HS.out.cell (k := 0) 2 rfl rfl
  have b1 := HS.out.cell (k := 1) 2 rfl rfl
  have b2 := HS.out.cell (k := 2) 2 rfl rfl
  rw [if_neg (show ¬ (2 : Int) = 4 by decide), if_pos rfl] at HP
  have HF := HP
  obtain ⟨i0, hi, hz0, hz1, hz2⟩ := info_parts Try.infoLetter
  have HS3 := Lib.hid (HS2.out.fresh (g := W2.heap.size) rfl rLetter 84)
  have hcut := Mm.run_cut (P := Try.prog) (t := 28) (s := 5) (by kernel_rfl) (fun W => by kernel_rfl) (g := g2) (n := n1) (c := c1) (j := k + 1) (i := (k : Int) + 1) (by omega) (by omega)
  obtain ⟨AC, hAC⟩ : ∃ AC, (if c1 = k + 1 then (some ⟨g2, 0, none⟩ : Option Addr) else some ⟨g2, (k + 1) * 5, none⟩) = AC := ⟨_, rfl⟩
  rw [hAC] at hcut
  have HAC := Lib.hid hAC
  clear hAC
  have hw1 : IntKind.i64.wrap ((k : Int) + 1) = (k : Int) + 1 := IntWalk.i64_in _ (by omega)
  have HRD : ∀ W, Hid (Mm.SlAt rLetter W W.heap.size p.Letters (some ⟨g2, 0, none⟩) n1 c1 → Mm.SlAt rLetter W W.heap.size (p.Letters.drop (k + 1)) AC (n1 - (k + 1)) (c1 - (k + 1))) := fun W => Lib.hid (fun h => by
    obtain ⟨A', h1, h2⟩ := h.cut (j := k + 1) (by omega) (s := 5) rfl
    rw [HAC.out] at h1
    subst h1
    exact h2)
  have HER : Hid ([] ++ p.Letters.take k ++ p.Letters.drop (k + 1) = p.Letters.eraseIdx k) := Lib.hid (by rw [List.nil_append, List.eraseIdx_eq_take_drop_succ])
  have HLE : Hid ((p.Letters.take k).length = k ∧ (p.Letters.drop (k + 1)).length = n1 - (k + 1)) := Lib.hid (by rw [List.length_take, List.length_drop]; have := HN1.out; have := HK.out; omega)
  go_upto_region 22 with (at_builtin; refine Mm.wpList_appMany rfl (.tmp 87) (.tmp 92) 28 rfl Mm.flatA_letter Mm.flat_letter i0 _ 40 Try.underlying28 hi hz0 hz1 hz2 rfl HS3.out 0 rfl ((HS3.out.rdSl 6 rfl).take (k := k) (by omega)) (m := k) (by simp) (by unfold maxLen; omega) (by omega) rfl rfl ?_; intro A5 c5 f5 w5 hs5; (have HS5 := Lib.hid hs5); clear hs5; (clear s0 s1 b0 b1 b2); (have HSX := Lib.hid HS5.out.tail.tail); (have s0 := HSX.out.cell (k := 0) 1 rfl rfl); (have s1 := HSX.out.cell (k := 1) 1 rfl rfl); (have b0 := HSX.out.cell (k := 0) 2 rfl rfl); (have b1 := HSX.out.cell (k := 1) 2 rfl rfl); (have b2 := HSX.out.cell (k := 2) 2 rfl rfl))
  go_upto_region 23 with (at_builtin; refine Mm.wpList_appMany rfl (.tmp 94) (.tmp 100) 28 rfl Mm.flatA_letter Mm.flat_letter i0 _ 40 Try.underlying28 hi hz0 hz1 hz2 rfl HS5.out 0 rfl ((HRD _).out (HS5.out.rdSl 6 rfl)) (m := n1 - 1) (by simp only [List.nil_append]; have := HLE.out; omega) (by unfold maxLen; omega) (by omega) rfl rfl ?_; intro A6 c6 f6 w6 hs6; rw [HER.out] at hs6; (have HS6 := Lib.hid hs6); clear hs6; (clear s0 s1 b0 b1 b2); (have b1 := HS6.out.cell (k := 1) 4 rfl rfl); (have y1 := HS6.out.frz (k := 1) 4 rfl))
  clear b1 y1 HSX hcut
  obtain ⟨W7, hW7⟩ : ∃ V, w6.setCell ⟨ga, 1, none⟩ (.slice A6 (n1 - 1) c6) = V := ⟨_, rfl⟩
  have HS7 := Lib.hid ((HS6.out.setBlk (k := 1) 4 rfl (.slice A6 (n1 - 1) c6)).atW hW7)
  rw [hW7]
  clear hW7 HS
  have HT := Lib.hid (shutv_Poll (x := Pl.pdrop p (k : Int)) (by have h := HS7.out.sel [5, 0, 7, 4, 3, 2, 1] (by decide) rfl; unfold Pl.pdrop; rw [hkt]; exact h))
  have s0 := HT.out.cell (k := 0) 2 rfl rfl
  have x0 := HT.out.cell (k := 0) 4 rfl rfl
  have x1 := HT.out.cell (k := 1) 4 rfl rfl
  have x2 := HT.out.cell (k := 2) 4 rfl rfl
  have x3 := HT.out.cell (k := 3) 4 rfl rfl
  have x4 := HT.out.cell (k := 4) 4 rfl rfl
  have b0 := HT.out.cell (k := 0) 1 rfl rfl
  have b1 := HT.out.cell (k := 1) 1 rfl rfl
  have b2 := HT.out.cell (k := 2) 1 rfl rfl
  have CS := l8Take_c (Pl.pdrop p (k : Int)) m _ _ W7 (HT.out.at_ 0 rfl) (HT.out.ndat (i := 0) rfl) (HW.out.drop _) HMK.out
  go_wp2_with (go_at_call 84; (with_reducible refine CS.mono ?_); clear CS; clear x0 x1 x2 x3 x4 s0; clear HS7; (rintro e w6 ⟨cq, fq, rfl, hL⟩); (obtain ⟨C0, x0, y0, C1, x1, y1, C2, x2, y2, rfl⟩ := own_formP hL.2.2.2); ((have HS7 := Lib.hid (HT.out.call 0 rfl hL))); (clear hL); (clear b0 b1 b2); (have r0 := HS7.out.cell (k := 0) 3 rfl rfl); (have r1 := HS7.out.cell (k := 1) 3 rfl rfl); (have r2 := HS7.out.cell (k := 2) 3 rfl rfl); (have z0 := HS7.out.frz (k := 0) 3 rfl); (have z1 := HS7.out.frz (k := 1) 3 rfl); (have z2 := HS7.out.frz (k := 2) 3 rfl))
  have HSF := Lib.hid (((HS7.out.setBlk (k := 0) 3 rfl (.slice C0 x0 y0)).setBlk (k := 1) 3 rfl (.slice C1 x1 y1)).setBlk (k := 2) 3 rfl (.slice C2 x2 y2))
  have u0 := HSF.out.cell (k := 0) 3 rfl rfl
  have u1 := HSF.out.cell (k := 1) 3 rfl rfl
  have u2 := HSF.out.cell (k := 2) 3 rfl rfl
  exact bodyPost_ret (v := .tuple #[.agg #[(.slice C0 x0 y0), (.slice C1 x1 y1), (.slice C2 x2 y2)], .bool true]) (by simp [results, Try.results49, go_sem, u0, u1, u2]) rfl ⟨[(.slice C0 x0 y0), (.slice C1 x1 y1), (.slice C2 x2 y2)], _, by rw [HF.out], by rw [HF.out]; exact (HSF.out.sel [0] (by decide) rfl).left⟩
set_option maxRecDepth 100000 in
set_option maxHeartbeats 4000000 in
theorem l8StepLose_c (p : Poll) (kk : Int) (cs : List Value) (fp : List Nat) (w : World) (h : (Mm.tow rPoll p cs fp).holds w) (hnd : fp.Nodup) (hw : Pl.PW p) :
    Calls Try.prog 49 #[.agg cs.toArray, .agg #[.int .i64 3, .int .i64 kk]] w (PVA2 (Pl.pstep p ⟨3, kk⟩) fp w) := by
  obtain ⟨A0, n0, c0, A1, n1, c1, A2, n2, c2, f0, f1, f2, rfl, rfl, hs⟩ := openv_Poll (Mm.SepF.one _ w h hnd)
  obtain ⟨g0, rfl, -, -⟩ := Mm.sl_addr (hs.sl 0 rfl) (by have := hw.n1; omega)
  have hln0 : n0 = p.Nodes.length := by obtain ⟨A', n', c', hv, h1, _⟩ := (hs.sl 0 rfl).form; injection hv with _ h2 _; omega
  have hln1 : n1 = p.Letters.length := by obtain ⟨A', n', c', hv, h1, _⟩ := (hs.sl 1 rfl).form; injection hv with _ h2 _; omega
  have hn5 := hw.n5
  have hl60 := hw.lets
  have hn05 : n0 ≤ 5 := by omega
  have hn160 : n1 ≤ 60 := by omega
  obtain ⟨ga, hga⟩ : ∃ g, w.heap.size = g := ⟨_, rfl⟩
  obtain ⟨gs, hgs⟩ : ∃ g, ga + 1 = g := ⟨_, rfl⟩
  obtain ⟨gc, hgc⟩ : ∃ g, gs + 1 = g := ⟨_, rfl⟩
  obtain ⟨W0, hW0⟩ : ∃ W, ((w.alloc (.cells #[.slice (some ⟨g0, 0, none⟩) n0 c0, .slice A1 n1 c1, .slice A2 n2 c2] 31)).alloc (.cells #[.int .i64 3, .int .i64 kk] 56)).alloc (.cells #[.slice none 0 0, .slice none 0 0, .slice none 0 0] 31) = W := ⟨_, rfl⟩
  have HS := Lib.hid ((((hs.alloc' hga 31 [.slice (some ⟨g0, 0, none⟩) n0 c0, .slice A1 n1 c1, .slice A2 n2 c2]).alloc' (g := gs) (by rw [Mm.sz1, hga, hgs]) 56 [.int .i64 3, .int .i64 kk]).alloc' (g := gc) (by rw [Mm.sz2, hga]; omega) 31 zPoll).atW hW0)
  have HW := Lib.hid hw
  have HN0 := Lib.hid hln0
  have HN1 := Lib.hid hln1
  clear h hs hnd hw hln0 hln1
  go_enter Try.func49, Try.ntmps49
  go_upto_region 1 with fail
  clear hW0 hga hgs hgc
  have s0 := HS.out.cell (k := 0) 1 rfl rfl
  have s1 := HS.out.cell (k := 1) 1 rfl rfl
  have b0 := HS.out.cell (k := 0) 2 rfl rfl
  have b1 := HS.out.cell (k := 1) 2 rfl rfl
  have b2 := HS.out.cell (k := 2) 2 rfl rfl
  have HP := Lib.hid (Pl.pstepL p 3 kk (by omega))
  by_cases hin : 0 ≤ kk ∧ kk < (n1 : Int)
  rotate_left
  · have HF : Hid (Pl.pstep p ⟨3, kk⟩ = (p, false)) := Lib.hid (by rw [HP.out, if_neg (fun hh => hin ⟨hh.1, by have := hh.2; have := HN1.out; omega⟩)])
    by_cases h0 : kk < 0
    · clear hin
      have r0 := HS.out.cell (k := 0) 0 rfl rfl
      have r1 := HS.out.cell (k := 1) 0 rfl rfl
      have r2 := HS.out.cell (k := 2) 0 rfl rfl
      have z0 := HS.out.frz (k := 0) 0 rfl
      have z1 := HS.out.frz (k := 1) 0 rfl
      have z2 := HS.out.frz (k := 2) 0 rfl
      go_wp2
      have HSF := Lib.hid (((HS.out.setBlk (k := 0) 0 rfl (.slice (some ⟨g0, 0, none⟩) n0 c0)).setBlk (k := 1) 0 rfl (.slice A1 n1 c1)).setBlk (k := 2) 0 rfl (.slice A2 n2 c2))
      have u0 := HSF.out.cell (k := 0) 0 rfl rfl
      have u1 := HSF.out.cell (k := 1) 0 rfl rfl
      have u2 := HSF.out.cell (k := 2) 0 rfl rfl
      exact bodyPost_ret (v := .tuple #[.agg #[(.slice (some ⟨g0, 0, none⟩) n0 c0), (.slice A1 n1 c1), (.slice A2 n2 c2)], .bool false]) (by simp [results, Try.results49, go_sem, u0, u1, u2]) rfl ⟨[(.slice (some ⟨g0, 0, none⟩) n0 c0), (.slice A1 n1 c1), (.slice A2 n2 c2)], _, by rw [HF.out], by rw [HF.out]; exact (shutv_Poll (x := p) (HSF.out.sel [3, 4, 5] (by decide) rfl)).left⟩
    · have h1 : (n1 : Int) ≤ kk := by omega
      clear hin
      have r0 := HS.out.cell (k := 0) 0 rfl rfl
      have r1 := HS.out.cell (k := 1) 0 rfl rfl
      have r2 := HS.out.cell (k := 2) 0 rfl rfl
      have z0 := HS.out.frz (k := 0) 0 rfl
      have z1 := HS.out.frz (k := 1) 0 rfl
      have z2 := HS.out.frz (k := 2) 0 rfl
      go_wp2
      have HSF := Lib.hid (((HS.out.setBlk (k := 0) 0 rfl (.slice (some ⟨g0, 0, none⟩) n0 c0)).setBlk (k := 1) 0 rfl (.slice A1 n1 c1)).setBlk (k := 2) 0 rfl (.slice A2 n2 c2))
      have u0 := HSF.out.cell (k := 0) 0 rfl rfl
      have u1 := HSF.out.cell (k := 1) 0 rfl rfl
      have u2 := HSF.out.cell (k := 2) 0 rfl rfl
      exact bodyPost_ret (v := .tuple #[.agg #[(.slice (some ⟨g0, 0, none⟩) n0 c0), (.slice A1 n1 c1), (.slice A2 n2 c2)], .bool false]) (by simp [results, Try.results49, go_sem, u0, u1, u2]) rfl ⟨[(.slice (some ⟨g0, 0, none⟩) n0 c0), (.slice A1 n1 c1), (.slice A2 n2 c2)], _, by rw [HF.out], by rw [HF.out]; exact (shutv_Poll (x := p) (HSF.out.sel [3, 4, 5] (by decide) rfl)).left⟩
  obtain ⟨k, rfl⟩ : ∃ k : Nat, kk = k := ⟨kk.toNat, by omega⟩
  have hk : k < p.Letters.length := by have := HN1.out; omega
  have hkn : (k : Int) < (n1 : Nat) := by omega
  have hkn' : ¬ (n1 : Int) ≤ (k : Nat) := by omega
  have hk0 : (0 : Int) ≤ (k : Nat) := by omega
  have hk0' : ¬ ((k : Nat) : Int) < 0 := by omega
  have hkt : ((k : Nat) : Int).toNat = k := by omega
  rw [if_pos ⟨hk0, by omega⟩] at HP
  have hx := HW.out.lat (k := (k : Int)) (by omega) (by omega)
  have hmk := HW.out.lok (k := (k : Int)) (by omega) (by omega)
  rw [hkt] at hx
  obtain ⟨m, hm⟩ : ∃ m, Pl.letAt p (k : Int) = m := ⟨_, rfl⟩
  rw [hm] at hx hmk HP
  have HX := Lib.hid hx
  have HMK := Lib.hid hmk
  have HK := Lib.hid hk
  obtain ⟨g2, rfl, -, -⟩ := Mm.sl_addr (HS.out.sl 4 rfl) (by omega)
  have HMI := Lib.hid (Mm.letter_inv (HS.out.sl 4 rfl) HX.out)
  have hcap : n1 ≤ c1 ∧ c1 ≤ maxLen := by obtain ⟨A', n', c', hv, h1, h2, h3, _⟩ := (HS.out.sl 4 rfl).form; injection hv with _ h4 h5; omega
  unfold maxLen at hcap
  clear hin hk hx hmk hm
  obtain ⟨q0, q1, q2, q3, q4⟩ := rLetter_ocell (HS.out.sl 4 rfl) (HS.out.ndat (i := 4) rfl) HX.out
  go_upto_region 17 with fail
  clear q0 q1 q2 q3 q4
  clear s0 s1 b0 b1 b2
  obtain ⟨gx, hgx⟩ : ∃ g, W0.heap.size = g := ⟨_, rfl⟩
  obtain ⟨W2, hW2⟩ : ∃ V, W0.alloc (.cells #[.int .i64 m.From, .int .i64 m.To, .int .i64 m.Term, .bool m.Ask, .int .i64 m.Age] 84) = V := ⟨_, rfl⟩
  have HS2 := Lib.hid ((HS.out.alloc' hgx 84 [.int .i64 m.From, .int .i64 m.To, .int .i64 m.Term, .bool m.Ask, .int .i64 m.Age]).atW hW2)
  rw [hW2, hgx]
  clear hW2 hgx HS
  have HS := Lib.hid HS2.out.tail
  have s0 := HS.out.cell (k := 0) 1 rfl rfl
  have s1 := HS.out.cell (k := 1) 1 rfl rfl
  have b0 := HS.out.cell (k := 0) 2 rfl rfl
  have b1 := HS.out.cell (k := 1) 2 rfl rfl
  have b2 := HS.out.cell (k := 2) 2 rfl rfl
  rw [if_neg (show ¬ (3 : Int) = 4 by decide), if_neg (show ¬ (3 : Int) = 2 by decide)] at HP
  have HF := HP
  obtain ⟨i0, hi, hz0, hz1, hz2⟩ := info_parts Try.infoLetter
  have HS3 := Lib.hid (HS2.out.fresh (g := W2.heap.size) rfl rLetter 84)
  have hcut := Mm.run_cut (P := Try.prog) (t := 28) (s := 5) (by kernel_rfl) (fun W => by kernel_rfl) (g := g2) (n := n1) (c := c1) (j := k + 1) (i := (k : Int) + 1) (by omega) (by omega)
  obtain ⟨AC, hAC⟩ : ∃ AC, (if c1 = k + 1 then (some ⟨g2, 0, none⟩ : Option Addr) else some ⟨g2, (k + 1) * 5, none⟩) = AC := ⟨_, rfl⟩
  rw [hAC] at hcut
  have HAC := Lib.hid hAC
  clear hAC
  have hw1 : IntKind.i64.wrap ((k : Int) + 1) = (k : Int) + 1 := IntWalk.i64_in _ (by omega)
  have HRD : ∀ W, Hid (Mm.SlAt rLetter W W.heap.size p.Letters (some ⟨g2, 0, none⟩) n1 c1 → Mm.SlAt rLetter W W.heap.size (p.Letters.drop (k + 1)) AC (n1 - (k + 1)) (c1 - (k + 1))) := fun W => Lib.hid (fun h => by
    obtain ⟨A', h1, h2⟩ := h.cut (j := k + 1) (by omega) (s := 5) rfl
    rw [HAC.out] at h1
    subst h1
    exact h2)
  have HER : Hid ([] ++ p.Letters.take k ++ p.Letters.drop (k + 1) = p.Letters.eraseIdx k) := Lib.hid (by rw [List.nil_append, List.eraseIdx_eq_take_drop_succ])
  have HLE : Hid ((p.Letters.take k).length = k ∧ (p.Letters.drop (k + 1)).length = n1 - (k + 1)) := Lib.hid (by rw [List.length_take, List.length_drop]; have := HN1.out; have := HK.out; omega)
  go_upto_region 22 with (at_builtin; refine Mm.wpList_appMany rfl (.tmp 87) (.tmp 92) 28 rfl Mm.flatA_letter Mm.flat_letter i0 _ 40 Try.underlying28 hi hz0 hz1 hz2 rfl HS3.out 0 rfl ((HS3.out.rdSl 6 rfl).take (k := k) (by omega)) (m := k) (by simp) (by unfold maxLen; omega) (by omega) rfl rfl ?_; intro A5 c5 f5 w5 hs5; (have HS5 := Lib.hid hs5); clear hs5; (clear s0 s1 b0 b1 b2); (have HSX := Lib.hid HS5.out.tail.tail); (have s0 := HSX.out.cell (k := 0) 1 rfl rfl); (have s1 := HSX.out.cell (k := 1) 1 rfl rfl); (have b0 := HSX.out.cell (k := 0) 2 rfl rfl); (have b1 := HSX.out.cell (k := 1) 2 rfl rfl); (have b2 := HSX.out.cell (k := 2) 2 rfl rfl))
  go_upto_region 23 with (at_builtin; refine Mm.wpList_appMany rfl (.tmp 94) (.tmp 100) 28 rfl Mm.flatA_letter Mm.flat_letter i0 _ 40 Try.underlying28 hi hz0 hz1 hz2 rfl HS5.out 0 rfl ((HRD _).out (HS5.out.rdSl 6 rfl)) (m := n1 - 1) (by simp only [List.nil_append]; have := HLE.out; omega) (by unfold maxLen; omega) (by omega) rfl rfl ?_; intro A6 c6 f6 w6 hs6; rw [HER.out] at hs6; (have HS6 := Lib.hid hs6); clear hs6; (clear s0 s1 b0 b1 b2); (have b1 := HS6.out.cell (k := 1) 4 rfl rfl); (have y1 := HS6.out.frz (k := 1) 4 rfl))
  clear b1 y1 HSX hcut
  obtain ⟨W7, hW7⟩ : ∃ V, w6.setCell ⟨ga, 1, none⟩ (.slice A6 (n1 - 1) c6) = V := ⟨_, rfl⟩
  have HS7 := Lib.hid ((HS6.out.setBlk (k := 1) 4 rfl (.slice A6 (n1 - 1) c6)).atW hW7)
  rw [hW7]
  clear hW7 HS
  have HT := Lib.hid (shutv_Poll (x := Pl.pdrop p (k : Int)) (by have h := HS7.out.sel [5, 0, 7, 4, 3, 2, 1] (by decide) rfl; unfold Pl.pdrop; rw [hkt]; exact h))
  have s0 := HT.out.cell (k := 0) 2 rfl rfl
  have x0 := HT.out.cell (k := 0) 4 rfl rfl
  have x1 := HT.out.cell (k := 1) 4 rfl rfl
  have x2 := HT.out.cell (k := 2) 4 rfl rfl
  have x3 := HT.out.cell (k := 3) 4 rfl rfl
  have x4 := HT.out.cell (k := 4) 4 rfl rfl
  have b0 := HT.out.cell (k := 0) 1 rfl rfl
  have b1 := HT.out.cell (k := 1) 1 rfl rfl
  have b2 := HT.out.cell (k := 2) 1 rfl rfl
  have r0 := HT.out.cell (k := 0) 3 rfl rfl
  have r1 := HT.out.cell (k := 1) 3 rfl rfl
  have r2 := HT.out.cell (k := 2) 3 rfl rfl
  have z0 := HT.out.frz (k := 0) 3 rfl
  have z1 := HT.out.frz (k := 1) 3 rfl
  have z2 := HT.out.frz (k := 2) 3 rfl
  go_wp2
  have HSF := Lib.hid (((HT.out.setBlk (k := 0) 3 rfl (.slice (some ⟨g0, 0, none⟩) n0 c0)).setBlk (k := 1) 3 rfl (.slice A6 (n1 - 1) c6)).setBlk (k := 2) 3 rfl (.slice A2 n2 c2))
  have u0 := HSF.out.cell (k := 0) 3 rfl rfl
  have u1 := HSF.out.cell (k := 1) 3 rfl rfl
  have u2 := HSF.out.cell (k := 2) 3 rfl rfl
  exact bodyPost_ret (v := .tuple #[.agg #[(.slice (some ⟨g0, 0, none⟩) n0 c0), (.slice A6 (n1 - 1) c6), (.slice A2 n2 c2)], .bool true]) (by simp [results, Try.results49, go_sem, u0, u1, u2]) rfl ⟨[(.slice (some ⟨g0, 0, none⟩) n0 c0), (.slice A6 (n1 - 1) c6), (.slice A2 n2 c2)], _, by rw [HF.out], by rw [HF.out]; exact (HSF.out.sel [0] (by decide) rfl).left⟩
theorem l8Step_c (p : Poll) (s : VoteStep) (cs : List Value) (fp : List Nat) (w : World) (h : (Mm.tow rPoll p cs fp).holds w) (hnd : fp.Nodup) (hw : Pl.PW p) :
    Calls Try.prog 49 #[.agg cs.toArray, .agg #[.int .i64 s.Kind, .int .i64 s.K]] w (PVA2 (Pl.pstep p s) fp w) := by
  obtain ⟨kd, kk⟩ := s
  by_cases h1 : kd = 1
  · subst h1; exact l8StepStand_c p kk cs fp w h hnd hw
  by_cases h2 : kd = 2
  · subst h2; exact l8StepTake_c p kk cs fp w h hnd hw
  by_cases h3 : kd = 3
  · subst h3; exact l8StepLose_c p kk cs fp w h hnd hw
  by_cases h4 : kd = 4
  · subst h4; exact l8StepTwice_c p kk cs fp w h hnd hw
  by_cases h5 : kd = 5
  · subst h5; exact l8StepStop_c p kk cs fp w h hnd hw
  exact l8StepNone_c p kd kk cs fp w h hnd hw (by omega)
end Go.Proofs.Ytkhchfbpmmiopaa

/-
  Contracts: an election played, both sides (chapter 8). No conditions.
-/
namespace Go.Proofs.Ytkhchfbpmmiopaa
open Go.RowKit
attribute [local go_sem] und_cell cha_cell World.cell?_alloc_some
namespace Mm
theorem SepF.toPtrP {F : List Nat} {w0 wr : World} {ts : List Thing} {α : Type} {R : Rep α} {T : TypeId} {g : Nat} {x : α} {cs : List Value} {fp : List Nat} (h : SepF F w0 wr (tblk g T cs :: tow R x cs fp :: ts)) : SepF F w0 wr (tptr R T g x fp :: ts) :=
  h.conv (by simp [tblk, tow, tptr]) (List.forall_mem_cons.2 ⟨⟨cs, h.at_ 0 rfl, h.at_ 1 rfl⟩, fun u hu => h.hold u (List.mem_cons_of_mem _ (List.mem_cons_of_mem _ hu))⟩)
theorem own_boolP {w : World} {b : Bool} : bool.own w b [.bool b] [] := ⟨rfl, trivial, rfl⟩
end Mm
def Pl.playPoll (ages : List Int) (l : List VoteStep) : Poll × List Bool × Bool :=
  if Pl.agesOk ages = true ∧ l.length ≤ 200 then ((Pl.playP (Pl.newPo ages) l).1, (Pl.playP (Pl.newPo ages) l).2, true) else (Pl.zPo, [], false)
def PlayAnsP (r : Poll × List Bool × Bool) (w : World) (e : Ending) (w' : World) : Prop :=
  ∃ cs A n c fp0 fp1, e = .returned (.tuple #[.agg cs.toArray, .slice A n c, .bool r.2.2]) ∧ Mm.SepF [] w w' [Mm.tow rPoll r.1 cs fp0, Mm.tsl Mm.bool 4 r.2.1 (.slice A n c) fp1]
theorem playNoP {w w' : World} (h : Below w.heap.size w w') : PlayAnsP (Pl.zPo, [], false) w (.returned (.tuple #[.agg zPoll.toArray, .slice none 0 0, .bool false])) w' :=
  ⟨zPoll, none, 0, 0, [], [], rfl, ⟨Mm.Chg.of_below h, by simp [Mm.tow, Mm.tsl], by simp [Mm.tow, Mm.tsl], List.forall_mem_cons.2 ⟨zPo_own, List.forall_mem_cons.2 ⟨Mm.SlOwn.nil, fun u hu => by cases hu⟩⟩⟩⟩
theorem Try.infoBoolP : (Try.prog.info? 4).map (fun i => (i.zero, i.size, i.bytes)) = some (some (.bool false), 1, 1) := by kernel_rfl
theorem Pl.playP_pw {ages : List Int} (h : Pl.agesOk ages = true) (l : List VoteStep) : Pl.PW (Pl.playP (Pl.newPo ages) l).1 ∧ (Pl.playP (Pl.newPo ages) l).2.length = l.length := by
  obtain ⟨⟨V, hV⟩, h2⟩ := Pl.playP_book (Pl.agesOk_book h) _ l rfl
  exact ⟨hV.pw, h2⟩
set_option maxRecDepth 100000 in
set_option maxHeartbeats 2000000 in
theorem implPlayPoll_c (ages : List Int) (l : List VoteStep) (A' : Option Addr) (n' c' : Nat) (A : Option Addr) (n c : Nat) (w : World) (B : Nat) (ha : Mm.SlAt Mm.int w B ages A' n' c') (hl : Mm.SlAt rVoteStep w B l A n c) (hB : B ≤ w.heap.size) :
    Calls Try.prog 7 #[.slice A' n' c', .slice A n c] w (PlayAnsP (Pl.playPoll ages l) w) := by
  have hn : n ≤ maxLen := Nat.le_trans hl.2.1 hl.2.2.1
  have hn' : n' ≤ maxLen := Nat.le_trans ha.2.1 ha.2.2.1
  have hlen := hl.1
  have HL := Lib.hid hl
  have HA := Lib.hid ha
  have HOK : Hid (Pl.agesOk ages = (Pl.isIn (n' : Int) 1 5 && ages.all Pl.ageOk)) := Lib.hid (by unfold Pl.agesOk; rw [ha.1])
  clear hl ha
  unfold maxLen at hn hn'
  obtain ⟨gz, hgz⟩ : ∃ g, w.heap.size = g := ⟨_, rfl⟩
  obtain ⟨W0, hW0⟩ : ∃ V, w.alloc (.cells #[.slice none 0 0, .slice none 0 0, .slice none 0 0] 31) = V := ⟨_, rfl⟩
  have KS := Lib.hid (((Mm.SepF.start w).alloc' hgz 31 zPoll).atW hW0)
  have CA := agesPlay_c ages A' n' c' W0 B (HA.out.keep fun b hb => KS.out.bel0.block b (by omega)) (Nat.le_trans hB KS.out.bel0.size)
  rw [Pl.ages_any] at CA
  go_enter Try.func7, Try.ntmps7
  go_upto_region 1 with fail
  have HGZ := Lib.hid hgz
  clear hW0 hgz
  cases h1 : Pl.isIn (n' : Int) 1 5 with
  | false =>
    have HF : Hid (Pl.playPoll ages l = (Pl.zPo, [], false)) := Lib.hid (if_neg (fun hh => by have := hh.1; rw [HOK.out, h1] at this; cases this))
    have r0 := KS.out.cell (k := 0) 0 rfl rfl
    have r1 := KS.out.cell (k := 1) 0 rfl rfl
    have r2 := KS.out.cell (k := 2) 0 rfl rfl
    have z0 := KS.out.frz (k := 0) 0 rfl
    have z1 := KS.out.frz (k := 1) 0 rfl
    have z2 := KS.out.frz (k := 2) 0 rfl
    go_wp2_with (go_at_call 43; (with_reducible refine (within_c _ _ _ _).mono ?_); rintro e w5 ⟨rfl, rfl⟩)
    rw [HF.out]
    have HSF := Lib.hid (((KS.out.setBlk (k := 0) 0 rfl (.slice none 0 0)).setBlk (k := 1) 0 rfl (.slice none 0 0)).setBlk (k := 2) 0 rfl (.slice none 0 0))
    have u0 := HSF.out.cell (k := 0) 0 rfl rfl
    have u1 := HSF.out.cell (k := 1) 0 rfl rfl
    have u2 := HSF.out.cell (k := 2) 0 rfl rfl
    exact bodyPost_ret (v := .tuple #[.agg zPoll.toArray, .slice none 0 0, .bool false]) (by simp [results, Try.results7, go_sem, zPoll, u0, u1, u2]) rfl (playNoP HSF.out.bel0)
  | true =>
  have hn15 := Pl.isIn_iff.1 h1
  cases h2 : ages.all Pl.ageOk with
  | false =>
    rw [h2] at CA
    have HF : Hid (Pl.playPoll ages l = (Pl.zPo, [], false)) := Lib.hid (if_neg (fun hh => by have := hh.1; rw [HOK.out, h1, h2] at this; cases this))
    go_wp2_with first
      | (go_at_call 43; (with_reducible refine (within_c _ _ _ _).mono ?_); rintro e w5 ⟨rfl, rfl⟩)
      | (go_at_call 44; (with_reducible refine CA.mono ?_); clear CA; rintro e w6 ⟨rfl, hb6⟩; (replace KS := Lib.hid (KS.out.step hb6)); clear hb6; (have r0 := KS.out.cell (k := 0) 0 rfl rfl); (have r1 := KS.out.cell (k := 1) 0 rfl rfl); (have r2 := KS.out.cell (k := 2) 0 rfl rfl); (have z0 := KS.out.frz (k := 0) 0 rfl); (have z1 := KS.out.frz (k := 1) 0 rfl); (have z2 := KS.out.frz (k := 2) 0 rfl))
    rw [HF.out]
    have HSF := Lib.hid (((KS.out.setBlk (k := 0) 0 rfl (.slice none 0 0)).setBlk (k := 1) 0 rfl (.slice none 0 0)).setBlk (k := 2) 0 rfl (.slice none 0 0))
    have u0 := HSF.out.cell (k := 0) 0 rfl rfl
    have u1 := HSF.out.cell (k := 1) 0 rfl rfl
    have u2 := HSF.out.cell (k := 2) 0 rfl rfl
    exact bodyPost_ret (v := .tuple #[.agg zPoll.toArray, .slice none 0 0, .bool false]) (by simp [results, Try.results7, go_sem, zPoll, u0, u1, u2]) rfl (playNoP HSF.out.bel0)
  | true =>
  rw [h2] at CA
  by_cases h3 : n ≤ 200
  rotate_left
  · have HF : Hid (Pl.playPoll ages l = (Pl.zPo, [], false)) := Lib.hid (if_neg (fun hh => by have := hh.2; omega))
    have fa : (200 : Int) < (n : Nat) := by omega
    go_wp2_with first
      | (go_at_call 43; (with_reducible refine (within_c _ _ _ _).mono ?_); rintro e w5 ⟨rfl, rfl⟩)
      | (go_at_call 44; (with_reducible refine CA.mono ?_); clear CA; rintro e w6 ⟨rfl, hb6⟩; (replace KS := Lib.hid (KS.out.step hb6)); clear hb6; (have r0 := KS.out.cell (k := 0) 0 rfl rfl); (have r1 := KS.out.cell (k := 1) 0 rfl rfl); (have r2 := KS.out.cell (k := 2) 0 rfl rfl); (have z0 := KS.out.frz (k := 0) 0 rfl); (have z1 := KS.out.frz (k := 1) 0 rfl); (have z2 := KS.out.frz (k := 2) 0 rfl))
    rw [HF.out]
    have HSF := Lib.hid (((KS.out.setBlk (k := 0) 0 rfl (.slice none 0 0)).setBlk (k := 1) 0 rfl (.slice none 0 0)).setBlk (k := 2) 0 rfl (.slice none 0 0))
    have u0 := HSF.out.cell (k := 0) 0 rfl rfl
    have u1 := HSF.out.cell (k := 1) 0 rfl rfl
    have u2 := HSF.out.cell (k := 2) 0 rfl rfl
    exact bodyPost_ret (v := .tuple #[.agg zPoll.toArray, .slice none 0 0, .bool false]) (by simp [results, Try.results7, go_sem, zPoll, u0, u1, u2]) rfl (playNoP HSF.out.bel0)
  have hok : Pl.agesOk ages = true := by rw [HOK.out, h1, h2]; rfl
  have HF : Hid (Pl.playPoll ages l = ((Pl.playP (Pl.newPo ages) l).1, (Pl.playP (Pl.newPo ages) l).2, true)) := Lib.hid (if_pos ⟨hok, by omega⟩)
  have fa : ¬ (200 : Int) < (n : Nat) := by omega
  have HPW := fun l => Lib.hid (Pl.playP_pw hok l)
  have HLN := Lib.hid hlen
  have HBR := Lib.hid hB
  have hbw0 := KS.out.bel0
  have CN := fun W (hb : Below W0.heap.size W0 W) => newPoll_c ages A' n' c' W B (HA.out.keep fun b hb' => (hb.block b (by have := hbw0.size; omega)).trans (hbw0.block b (by omega))) (Nat.le_trans hB (Nat.le_trans hbw0.size hb.size)) (by omega)
  have HCN := Lib.hid CN
  clear CN hok hlen hbw0
  obtain ⟨i0, hi, hz0, hz1, hz2⟩ := info_parts Try.infoBoolP
  go_upto_region 4 with first
    | (go_at_call 43; (with_reducible refine (within_c _ _ _ _).mono ?_); rintro e w5 ⟨rfl, rfl⟩)
    | (go_at_call 44; (with_reducible refine CA.mono ?_); clear CA; rintro e w6 ⟨rfl, hb6⟩; (replace KS := Lib.hid (KS.out.step hb6)); (have CN := HCN.out w6 hb6); clear hb6 HCN)
    | (go_at_call 47; (with_reducible refine CN.mono ?_); clear CN; rintro e w1 ⟨cs1, fp1, rfl, ho, hnd, hnew, hb⟩; obtain ⟨B0, m0, d0, B1, m1, d1, B2, m2, d2, rfl⟩ := own_formP ho; (have KS1 := Lib.hid (KS.out.add hb (t := Mm.tow rPoll (Pl.newPo ages) _ _) ho hnd hnew)); clear ho hnd hnew hb)
  clear h1 h2 hn15
  obtain ⟨gt, hgt⟩ : ∃ gt, w1.heap.size = gt := ⟨_, rfl⟩
  have KS2 := Lib.hid (((KS1.out.alloc' hgt 31 [.slice B0 m0 d0, .slice B1 m1 d1, .slice B2 m2 d2]).toPtrP).add (Below.refl _ _) (t := Mm.tsl Mm.bool 4 [] (.slice none 0 0) []) Mm.SlOwn.nil List.nodup_nil (fun b hb => by cases hb))
  rw [hgt]
  clear hgt KS KS1 hB
  go_wp2
  go_loopg [8, 29] n (fun g d i wr => ∃ (k : Nat) (A2 : Option Addr) (c2 : Nat) (fpt fpd : List Nat), n - k ≤ g ∧ k ≤ n ∧ d = .slice A2 k c2 ∧ i = .int .i64 k ∧ Hid (Mm.SepF [] w wr [Mm.tsl Mm.bool 4 (Pl.playP (Pl.newPo ages) (l.take k)).2 (.slice A2 k c2) fpd, Mm.tptr rPoll 31 gt (Pl.playP (Pl.newPo ages) (l.take k)).1 fpt, Mm.tblk gz 31 zPoll]))
  case atStart => exact ⟨0, none, 0, _, _, Nat.le_refl _, Nat.zero_le _, rfl, rfl, KS2.out⟩
  case round =>
    obtain ⟨k, A2, c2, fpt, fpd, hgk, hk', rfl, rfl, HS⟩ := hrel
    have hbel := HS.out.bel0
    have hwf := HPW (l.take k)
    have hlk := List.length_take_of_le (l := l) (i := k) (by rw [HLN.out]; omega)
    have HWF := Lib.hid hwf.out.1
    have HPL := Lib.hid (hwf.out.2.trans hlk)
    clear hwf hlk
    obtain ⟨p, hp⟩ : ∃ p, Pl.playP (Pl.newPo ages) (l.take k) = p := ⟨_, rfl⟩
    rw [hp] at HS HWF HPL
    have HP := Lib.hid hp
    clear hp KS2
    by_cases hlt : k < n
    · obtain ⟨s, b0, off, hx, rfl, hb, g0', g1', e0, e1⟩ := rVoteStep_get HL.out hlt
      have HN : Hid (Pl.playP (Pl.newPo ages) (l.take (k + 1)) = ((Pl.pstep p.1 s).1, p.2 ++ [(Pl.pstep p.1 s).2])) := by
        show _ = _
        rw [Mm.take_succ_some hx, Pl.playP_snoc, HP.out]
      have hlt' : ((k : Nat) : Int) < ((n : Nat) : Int) := by omega
      have hb0 : b0 < w.heap.size := by have := HBR.out; omega
      replace e0 := below_some hbel e0
      replace e1 := below_some hbel e1
      have HS2 := Lib.hid (HS.out.alloc' rfl 56 [.int .i64 s.Kind, .int .i64 s.K])
      clear hx g0' g1'
      go_wp2_with (first
        | (go_at_call 48; refine (step8_c p.1 s gt fpt _ (HS2.out.at_ 2 rfl) (HS2.out.ndat (i := 2) rfl) HWF.out).mono ?_; rintro e w9 ⟨rfl, fp9, hL⟩; (have HS3 := Lib.hid (HS2.out.call 2 rfl hL)); clear hL)
        | (at_builtin; refine Mm.app_list HS3.out 1 rfl rfl (.tmp 33) (.tmp 36) 32 rfl i0 _ 1 Try.underlying32 hi hz0 hz1 hz2 rfl (by decide) rfl rfl (fun W => Mm.own_boolP) HPL.out (by unfold maxLen; omega) (by omega) ?_; intro g cap w' fp' hs; (have HS4 := Lib.hid hs); clear hs))
      go_roundg (n - (k + 1))
      case measure => omega
      case rel => exact ⟨k + 1, _, cap, fp9, fp', Nat.le_refl _, by omega, rfl, by go_num, by rw [HN.out]; exact HS4.out.sel [1, 2, 3] (by decide) rfl⟩
    · obtain rfl : k = n := by omega
      have HE : Hid (l.take k = l) := List.take_of_length_le (by rw [HLN.out]; exact Nat.le_refl _)
      have hlt' : ¬ ((k : Nat) : Int) < ((k : Nat) : Int) := by omega
      rw [HE.out] at HP
      rw [HP.out] at HF
      obtain ⟨C0, x0, y0, C1, x1, y1, C2, x2, y2, f0, f1', f2, rfl, hs⟩ := open_Poll (HS.out.sel [1, 0, 2] (by decide) rfl)
      have HSR := Lib.hid hs
      clear hs
      have b0 := HSR.out.cell (k := 0) 0 rfl rfl
      have b1 := HSR.out.cell (k := 1) 0 rfl rfl
      have b2 := HSR.out.cell (k := 2) 0 rfl rfl
      have r0 := HSR.out.cell (k := 0) 5 rfl rfl
      have r1 := HSR.out.cell (k := 1) 5 rfl rfl
      have r2 := HSR.out.cell (k := 2) 5 rfl rfl
      have z0 := HSR.out.frz (k := 0) 5 rfl
      have z1 := HSR.out.frz (k := 1) 5 rfl
      have z2 := HSR.out.frz (k := 2) 5 rfl
      go_wp2
      have HSF := Lib.hid (((HSR.out.setBlk (k := 0) 5 rfl (.slice C0 x0 y0)).setBlk (k := 1) 5 rfl (.slice C1 x1 y1)).setBlk (k := 2) 5 rfl (.slice C2 x2 y2))
      have u0 := HSF.out.cell (k := 0) 5 rfl rfl
      have u1 := HSF.out.cell (k := 1) 5 rfl rfl
      have u2 := HSF.out.cell (k := 2) 5 rfl rfl
      exact bodyPost_ret (v := .tuple #[.agg #[.slice C0 x0 y0, .slice C1 x1 y1, .slice C2 x2 y2], .slice A2 k c2, .bool true]) (by simp [results, Try.results7, go_sem, u0, u1, u2]) rfl ⟨[.slice C0 x0 y0, .slice C1 x1 y1, .slice C2 x2 y2], A2, k, c2, _, _, by rw [HF.out], by rw [HF.out]; exact shutv_Poll (x := p.1) (HSF.out.sel [1, 2, 3, 4] (by decide) rfl)⟩
end Go.Proofs.Ytkhchfbpmmiopaa
