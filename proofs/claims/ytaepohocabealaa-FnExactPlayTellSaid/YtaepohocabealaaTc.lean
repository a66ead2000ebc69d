/-
  Contracts: new tellers, and the reference's copy of a teller (chapter 10). No conditions.
-/
import Derived.Test.YtaepohocabealaaTb
import Derived.Test.YtaepohocabealaaCg
namespace Go.Proofs.Ytaepohocabealaa
open Go.RowKit
attribute [local go_sem] und_cell cha_cell World.cell?_alloc_some
def Pl.newTe (n : Nat) : Tell := ⟨List.replicate n [], List.replicate n 0, [], [], List.replicate n 0⟩
def Pl.zTe : Tell := ⟨[], [], [], [], []⟩
def Pl.newTell (n : Int) : Tell × Bool := if Pl.isIn n 1 4 = true then (Pl.newTe n.toNat, true) else (Pl.zTe, false)
theorem upto4 {p : Nat → Prop} (h1 : p 1) (h2 : p 2) (h3 : p 3) (h4 : p 4) (n : Nat) (a : 1 ≤ n) (b : n ≤ 4) : p n := by
  have : n = 1 ∨ n = 2 ∨ n = 3 ∨ n = 4 := by omega
  rcases this with rfl | rfl | rfl | rfl <;> assumption
theorem zTe_own {w : World} : rTell.own w Pl.zTe zTell [] := rTell_own_mk (x := Pl.zTe) (f0 := []) (f1 := []) (f2 := []) (f3 := []) (f4 := []) Mm.SlOwn.nil Mm.SlOwn.nil Mm.SlOwn.nil Mm.SlOwn.nil Mm.SlOwn.nil
theorem make_texts (n : Nat) (h1 : 1 ≤ n) (h3 : n ≤ 4) (W : World) : (Instr.makeSlice 26 (.int .i64 n) (.int .i64 n)).run Try.prog W = .ok (.slice (some ⟨W.heap.size, 0, none⟩) n n) (W.alloc (.cells (List.replicate n (Value.slice none 0 0)).toArray 40)) :=
  upto4 (p := fun n => (Instr.makeSlice 26 (.int .i64 n) (.int .i64 n)).run Try.prog W = .ok (.slice (some ⟨W.heap.size, 0, none⟩) n n) (W.alloc (.cells (List.replicate n (Value.slice none 0 0)).toArray 40))) (by kernel_rfl) (by kernel_rfl) (by kernel_rfl) (by kernel_rfl) n h1 h3
theorem make_nums (n : Nat) (h1 : 1 ≤ n) (h3 : n ≤ 4) (W : World) : (Instr.makeSlice 27 (.int .i64 n) (.int .i64 n)).run Try.prog W = .ok (.slice (some ⟨W.heap.size, 0, none⟩) n n) (W.alloc (.cells (List.replicate n (Value.int .i64 0)).toArray 3)) :=
  upto4 (p := fun n => (Instr.makeSlice 27 (.int .i64 n) (.int .i64 n)).run Try.prog W = .ok (.slice (some ⟨W.heap.size, 0, none⟩) n n) (W.alloc (.cells (List.replicate n (Value.int .i64 0)).toArray 3))) (by kernel_rfl) (by kernel_rfl) (by kernel_rfl) (by kernel_rfl) n h1 h3
theorem texts_own {X : World} {n : Nat} (h : n ≤ 4) : Mm.SlOwn strs 40 (X.alloc (.cells (List.replicate n (Value.slice none 0 0)).toArray 40)) (List.replicate n []) (.slice (some ⟨X.heap.size, 0, none⟩) n n) [X.heap.size] := by
  have e : (List.replicate n ([] : List ByteArray)).flatMap (fun _ => [Value.slice none 0 0]) = List.replicate n (Value.slice none 0 0) := by rw [Mm.flatMap_rep]; simp
  exact Mm.SlOwn.of_blk (fun _ => [.slice none 0 0]) (by rw [e]; exact Mm.Blk.new X 40 (List.replicate n (Value.slice none 0 0))) (fun x hx => by rw [(List.mem_replicate.1 hx).2]; exact ⟨_, rfl, Mm.SlOwn.nil⟩) (by simp) (by unfold maxLen; omega)
theorem nums_own {X : World} {n : Nat} (h : n ≤ 4) : Mm.SlOwn Mm.int 3 (X.alloc (.cells (List.replicate n (Value.int .i64 0)).toArray 3)) (List.replicate n 0) (.slice (some ⟨X.heap.size, 0, none⟩) n n) [X.heap.size] := by
  have e : (List.replicate n (0 : Int)).flatMap (fun x => [Value.int .i64 x]) = List.replicate n (Value.int .i64 0) := by rw [Mm.flatMap_rep]; simp
  exact Mm.SlOwn.of_blk (fun x => [.int .i64 x]) (by rw [e]; exact Mm.Blk.new X 3 (List.replicate n (Value.int .i64 0))) (fun x hx => by rw [(List.mem_replicate.1 hx).2]; exact ⟨rfl, by unfold Mm.I64; omega, rfl⟩) (by simp) (by unfold maxLen; omega)
theorem tell_ret {w wr : World} {x : Tell} {cs : List Value} {fp : List Nat} {ts : List Mm.Thing} (h : Mm.SepF [] w wr (Mm.tow rTell x cs fp :: ts)) : Mm.NewAg rTell w x (.returned (.agg cs.toArray)) wr :=
  ⟨cs, fp, rfl, h.at_ 0 rfl, h.ndat (i := 0) rfl, fun b hb => (h.new b (Mm.SepF.mem (i := 0) rfl hb)).resolve_left (fun h => by cases h), h.bel0⟩
theorem tell_ret2 {w wr : World} {x : Tell} {b : Bool} {cs : List Value} {fp : List Nat} {ts : List Mm.Thing} (h : Mm.SepF [] w wr (Mm.tow rTell x cs fp :: ts)) : Mm.Ret2 rTell w x b (.returned (.tuple #[.agg cs.toArray, .bool b])) wr :=
  ⟨cs, fp, rfl, h.at_ 0 rfl, h.ndat (i := 0) rfl, fun b hb => (h.new b (Mm.SepF.mem (i := 0) rfl hb)).resolve_left (fun h => by cases h), h.bel0⟩
set_option maxRecDepth 100000 in
set_option maxHeartbeats 1000000 in
theorem newTell_c (n : Nat) (w : World) (h1 : 1 ≤ n) (h3 : n ≤ 4) : Calls Try.prog 48 #[.int .i64 n] w (Mm.NewAg rTell w (Pl.newTe n)) := by
  have hmk := make_texts n h1 h3
  have hmn := make_nums n h1 h3
  have KS0 := Lib.hid ((Mm.SepF.start w).alloc' rfl 31 zTell)
  go_enter Try.func48, Try.ntmps48
  go_wp2
  obtain ⟨W1, hW1⟩ : ∃ W1, W1 = w.alloc (.cells #[.slice none 0 0, .slice none 0 0, .slice none 0 0, .slice none 0 0, .slice none 0 0] 31) := ⟨_, rfl⟩
  rw [show zTell.toArray = #[.slice none 0 0, .slice none 0 0, .slice none 0 0, .slice none 0 0, .slice none 0 0] from rfl, ← hW1] at KS0
  rw [← hW1]
  clear hW1
  refine Mm.wp_region_give 6 (fun i => match i with | 1 => some (Mm.gSl strs 40 (List.replicate n [])) | 3 => some (Mm.gSl Mm.int 3 (List.replicate n 0)) | 5 => some (Mm.gSl Mm.int 3 (List.replicate n 0)) | _ => none) (fun _ => []) (fun _ => []) (F := []) (D := fun w' => ∃ x : Und W1, w' = und W1 x) (fun X us h => Mm.sep_und h) (by kernel_rfl) (by kernel_rfl) (by kernel_rfl) (Mm.SepF.startDrew _) ?_
  repeat (refine Mm.give_det (by rfl) (by rfl) (by rfl) (fun K hK => ?_); go_big_quiet_op; refine hK _ ?_; clear hK K)
  refine Mm.give_op0 4 (by rfl) rfl (by rfl) (by rfl) (by rfl) (by rfl) Mm.gSl_in (fun others X hX => ?_) ?_
  · go_wp2
    exact Mm.gvq_sl hX (below_new (Below.refl _ _) _) (texts_own h3) (by simp) (by simp) rfl rfl
  rintro v ds ⟨A2, n2, c2, f2, rfl, rfl, hn2⟩
  simp only [Act.put, List.setIfInBounds_toArray, List.set_cons_succ, List.set_cons_zero]
  repeat (refine Mm.give_det (by rfl) (by rfl) (by rfl) (fun K hK => ?_); go_big_quiet_op; refine hK _ ?_; clear hK K)
  refine Mm.give_op0 6 (by rfl) rfl (by rfl) (by rfl) (by rfl) (by rfl) Mm.gSl_in (fun others X hX => ?_) ?_
  · go_wp2
    exact Mm.gvq_sl hX (below_new (Below.refl _ _) _) (nums_own h3) (by simp) (by simp) rfl rfl
  rintro v ds ⟨A3, n3, c3, f3, rfl, rfl, hn3⟩
  simp only [Act.put, List.setIfInBounds_toArray, List.set_cons_succ, List.set_cons_zero]
  repeat (refine Mm.give_det (by rfl) (by rfl) (by rfl) (fun K hK => ?_); go_big_quiet_op; refine hK _ ?_; clear hK K)
  refine Mm.give_op0 8 (by rfl) rfl (by rfl) (by rfl) (by rfl) (by rfl) Mm.gSl_in (fun others X hX => ?_) ?_
  · go_wp2
    exact Mm.gvq_sl hX (below_new (Below.refl _ _) _) (nums_own h3) (by simp) (by simp) rfl rfl
  rintro v ds ⟨A4, n4, c4, f4, rfl, rfl, hn4⟩
  simp only [Act.put, List.setIfInBounds_toArray, List.set_cons_succ, List.set_cons_zero]
  refine Mm.give_nil ?_
  rintro X hX
  have HX := Lib.hid (KS0.out.join (us := [Mm.tsl strs 40 (List.replicate n []) (.slice A2 n2 c2) f2, Mm.tsl Mm.int 3 (List.replicate n 0) (.slice A3 n3 c3) f3, Mm.tsl Mm.int 3 (List.replicate n 0) (.slice A4 n4 c4) f4]) hX)
  clear hX
  have p0 := HX.out.frz (k := 0) 3 rfl
  have p1 := HX.out.frz (k := 1) 3 rfl
  have p2 := HX.out.frz (k := 2) 3 rfl
  have p3 := HX.out.frz (k := 3) 3 rfl
  have p4 := HX.out.frz (k := 4) 3 rfl
  have s0 := HX.out.cell (k := 0) 3 rfl rfl
  have s1 := HX.out.cell (k := 1) 3 rfl rfl
  have s2 := HX.out.cell (k := 2) 3 rfl rfl
  have s3 := HX.out.cell (k := 3) 3 rfl rfl
  have s4 := HX.out.cell (k := 4) 3 rfl rfl
  have HX2 := Lib.hid ((((((HX.out.setBlk (k := 0) 3 rfl (.slice A2 n2 c2)).setBlk (k := 1) 3 rfl (.slice A3 n3 c3)).setBlk (k := 2) 3 rfl (.slice none 0 0)).setBlk (k := 3) 3 rfl (.slice none 0 0)).setBlk (k := 4) 3 rfl (.slice A4 n4 c4)))
  have HX3 := Lib.hid (((HX2.out.sel [2, 3] (by decide) rfl).add (Below.refl _ _) (t := Mm.tsl rTold 52 [] (.slice none 0 0) []) Mm.SlOwn.nil List.nodup_nil (fun b hb => by cases hb)).add (Below.refl _ _) (t := Mm.tsl rNote 94 [] (.slice none 0 0) []) Mm.SlOwn.nil List.nodup_nil (fun b hb => by cases hb))
  have HX4 : Hid (Mm.SepF [] w _ [Mm.tsl strs 40 (Pl.newTe n).Texts (.slice A2 n2 c2) f2, Mm.tsl Mm.int 3 (Pl.newTe n).Heard (.slice A3 n3 c3) f3, Mm.tsl rNote 94 (Pl.newTe n).Line (.slice none 0 0) [], Mm.tsl rTold 52 (Pl.newTe n).Log (.slice none 0 0) [], Mm.tsl Mm.int 3 (Pl.newTe n).Next (.slice A4 n4 c4) f4]) := Lib.hid (((((HX2.out.add (Below.refl _ _) (t := Mm.tsl rTold 52 [] (.slice none 0 0) []) Mm.SlOwn.nil List.nodup_nil (fun b hb => by cases hb)).add (Below.refl _ _) (t := Mm.tsl rNote 94 [] (.slice none 0 0) []) Mm.SlOwn.nil List.nodup_nil (fun b hb => by cases hb))).sel [2, 3, 0, 1, 4] (by decide) rfl))
  clear HX3
  have q0 := HX2.out.cell (k := 0) 3 rfl rfl
  have q1 := HX2.out.cell (k := 1) 3 rfl rfl
  have q2 := HX2.out.cell (k := 2) 3 rfl rfl
  have q3 := HX2.out.cell (k := 3) 3 rfl rfl
  have q4 := HX2.out.cell (k := 4) 3 rfl rfl
  go_wp2
  exact bodyPost_ret (v := .agg #[.slice A2 n2 c2, .slice A3 n3 c3, .slice none 0 0, .slice none 0 0, .slice A4 n4 c4]) (by simp [results, Try.results48, go_sem, q0, q1, q2, q3, q4]) rfl (tell_ret (shutv_Tell (x := Pl.newTe n) HX4.out))
set_option maxRecDepth 100000 in
set_option maxHeartbeats 1000000 in
theorem specNewTell_c (m : Int) (w : World) : Calls Try.prog 28 #[.int .i64 m] w (Mm.Ret2 rTell w (Pl.newTell m).1 (Pl.newTell m).2) := by
  by_cases hin : Pl.isIn m 1 4 = true
  · have HF : Hid (Pl.newTell m = (Pl.newTe m.toNat, true)) := if_pos hin
    have hin' := hin
    unfold Pl.isIn at hin'
    simp only [Bool.and_eq_true, decide_eq_true_eq] at hin'
    obtain ⟨n, rfl⟩ : ∃ n : Nat, m = n := ⟨m.toNat, by omega⟩
    have h1 : 1 ≤ n := by omega
    have h3 : n ≤ 4 := by omega
    clear hin'
    rw [show ((n : Nat) : Int).toNat = n by omega] at HF
    have hmk := make_texts n h1 h3
    have hmn := make_nums n h1 h3
    have KS0 := Lib.hid ((Mm.SepF.start w).alloc' rfl 31 zTell)
    go_enter Try.func28, Try.ntmps28
    go_wp2_with (go_at_call 56; (with_reducible refine (l1In_c _ _ _ _).mono ?_); rintro e w' ⟨rfl, rfl⟩)
    obtain ⟨W1, hW1⟩ : ∃ W1, W1 = w.alloc (.cells #[.slice none 0 0, .slice none 0 0, .slice none 0 0, .slice none 0 0, .slice none 0 0] 31) := ⟨_, rfl⟩
    rw [show zTell.toArray = #[.slice none 0 0, .slice none 0 0, .slice none 0 0, .slice none 0 0, .slice none 0 0] from rfl, ← hW1] at KS0
    rw [← hW1]
    clear hW1
    refine Mm.wp_region_give 6 (fun i => match i with | 1 => some (Mm.gSl strs 40 (List.replicate n [])) | 3 => some (Mm.gSl Mm.int 3 (List.replicate n 0)) | 5 => some (Mm.gSl Mm.int 3 (List.replicate n 0)) | _ => none) (fun _ => []) (fun _ => []) (F := []) (D := fun w' => ∃ x : Und W1, w' = und W1 x) (fun X us h => Mm.sep_und h) (by kernel_rfl) (by kernel_rfl) (by kernel_rfl) (Mm.SepF.startDrew _) ?_
    repeat (refine Mm.give_det (by rfl) (by rfl) (by rfl) (fun K hK => ?_); go_big_quiet_op; refine hK _ ?_; clear hK K)
    refine Mm.give_op0 9 (by rfl) rfl (by rfl) (by rfl) (by rfl) (by rfl) Mm.gSl_in (fun others X hX => ?_) ?_
    · go_wp2
      exact Mm.gvq_sl hX (below_new (Below.refl _ _) _) (texts_own h3) (by simp) (by simp) rfl rfl
    rintro v ds ⟨A2, n2, c2, f2, rfl, rfl, hn2⟩
    simp only [Act.put, List.setIfInBounds_toArray, List.set_cons_succ, List.set_cons_zero]
    repeat (refine Mm.give_det (by rfl) (by rfl) (by rfl) (fun K hK => ?_); go_big_quiet_op; refine hK _ ?_; clear hK K)
    refine Mm.give_op0 11 (by rfl) rfl (by rfl) (by rfl) (by rfl) (by rfl) Mm.gSl_in (fun others X hX => ?_) ?_
    · go_wp2
      exact Mm.gvq_sl hX (below_new (Below.refl _ _) _) (nums_own h3) (by simp) (by simp) rfl rfl
    rintro v ds ⟨A3, n3, c3, f3, rfl, rfl, hn3⟩
    simp only [Act.put, List.setIfInBounds_toArray, List.set_cons_succ, List.set_cons_zero]
    repeat (refine Mm.give_det (by rfl) (by rfl) (by rfl) (fun K hK => ?_); go_big_quiet_op; refine hK _ ?_; clear hK K)
    refine Mm.give_op0 13 (by rfl) rfl (by rfl) (by rfl) (by rfl) (by rfl) Mm.gSl_in (fun others X hX => ?_) ?_
    · go_wp2
      exact Mm.gvq_sl hX (below_new (Below.refl _ _) _) (nums_own h3) (by simp) (by simp) rfl rfl
    rintro v ds ⟨A4, n4, c4, f4, rfl, rfl, hn4⟩
    simp only [Act.put, List.setIfInBounds_toArray, List.set_cons_succ, List.set_cons_zero]
    refine Mm.give_nil ?_
    rintro X hX
    have HX := Lib.hid (KS0.out.join (us := [Mm.tsl strs 40 (List.replicate n []) (.slice A2 n2 c2) f2, Mm.tsl Mm.int 3 (List.replicate n 0) (.slice A3 n3 c3) f3, Mm.tsl Mm.int 3 (List.replicate n 0) (.slice A4 n4 c4) f4]) hX)
    clear hX
    have p0 := HX.out.frz (k := 0) 3 rfl
    have p1 := HX.out.frz (k := 1) 3 rfl
    have p2 := HX.out.frz (k := 2) 3 rfl
    have p3 := HX.out.frz (k := 3) 3 rfl
    have p4 := HX.out.frz (k := 4) 3 rfl
    have s0 := HX.out.cell (k := 0) 3 rfl rfl
    have s1 := HX.out.cell (k := 1) 3 rfl rfl
    have s2 := HX.out.cell (k := 2) 3 rfl rfl
    have s3 := HX.out.cell (k := 3) 3 rfl rfl
    have s4 := HX.out.cell (k := 4) 3 rfl rfl
    have HX2 := Lib.hid ((((((HX.out.setBlk (k := 0) 3 rfl (.slice A2 n2 c2)).setBlk (k := 1) 3 rfl (.slice A3 n3 c3)).setBlk (k := 2) 3 rfl (.slice none 0 0)).setBlk (k := 3) 3 rfl (.slice none 0 0)).setBlk (k := 4) 3 rfl (.slice A4 n4 c4)))
    have HX3 := Lib.hid (((HX2.out.sel [2, 3] (by decide) rfl).add (Below.refl _ _) (t := Mm.tsl rTold 52 [] (.slice none 0 0) []) Mm.SlOwn.nil List.nodup_nil (fun b hb => by cases hb)).add (Below.refl _ _) (t := Mm.tsl rNote 94 [] (.slice none 0 0) []) Mm.SlOwn.nil List.nodup_nil (fun b hb => by cases hb))
    have HX4 : Hid (Mm.SepF [] w _ [Mm.tsl strs 40 (Pl.newTe n).Texts (.slice A2 n2 c2) f2, Mm.tsl Mm.int 3 (Pl.newTe n).Heard (.slice A3 n3 c3) f3, Mm.tsl rNote 94 (Pl.newTe n).Line (.slice none 0 0) [], Mm.tsl rTold 52 (Pl.newTe n).Log (.slice none 0 0) [], Mm.tsl Mm.int 3 (Pl.newTe n).Next (.slice A4 n4 c4) f4]) := Lib.hid (((((HX2.out.add (Below.refl _ _) (t := Mm.tsl rTold 52 [] (.slice none 0 0) []) Mm.SlOwn.nil List.nodup_nil (fun b hb => by cases hb)).add (Below.refl _ _) (t := Mm.tsl rNote 94 [] (.slice none 0 0) []) Mm.SlOwn.nil List.nodup_nil (fun b hb => by cases hb))).sel [2, 3, 0, 1, 4] (by decide) rfl))
    clear HX3
    have q0 := HX2.out.cell (k := 0) 3 rfl rfl
    have q1 := HX2.out.cell (k := 1) 3 rfl rfl
    have q2 := HX2.out.cell (k := 2) 3 rfl rfl
    have q3 := HX2.out.cell (k := 3) 3 rfl rfl
    have q4 := HX2.out.cell (k := 4) 3 rfl rfl
    go_wp2
    rw [HF.out]
    exact bodyPost_ret (v := .tuple #[.agg #[.slice A2 n2 c2, .slice A3 n3 c3, .slice none 0 0, .slice none 0 0, .slice A4 n4 c4], .bool true]) (by simp [results, Try.results28, go_sem, q0, q1, q2, q3, q4]) rfl (tell_ret2 (shutv_Tell (x := Pl.newTe n) HX4.out))
  · have HF : Hid (Pl.newTell m = (Pl.zTe, false)) := if_neg hin
    have hin' : Pl.isIn m 1 4 = false := by simpa using hin
    clear hin
    go_enter Try.func28, Try.ntmps28
    go_wp2_with (go_at_call 56; (with_reducible refine (l1In_c _ _ _ _).mono ?_); rintro e w' ⟨rfl, rfl⟩)
    rw [HF.out]
    exact bodyPost_ret (v := .tuple #[.agg zTell.toArray, .bool false]) (by simp [results, Try.results28, go_sem, zTell]) rfl ⟨zTell, [], rfl, zTe_own, List.nodup_nil, (fun b hb => by cases hb), below_new (Below.refl _ _) _⟩
end Go.Proofs.Ytaepohocabealaa
