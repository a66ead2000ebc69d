/-
  Joined texts, in build order: Uh, Op, Cu, J1, J2, J3, J4, J5, J6, J7, Er, Sc, Ap, Ra, Am. Each part says what it proves; no conditions beyond those that a part names.
-/
import Derived.Test.YtbhmdnjammnlnaaGreatDoorZ01
import Derived.Test.YtbhmdnjammnlnaaGreatDoorZ02
import Derived.Deep.DeepCutAuto
import Derived.ProofKit
import Derived.OpenShut
import Derived.Deep.Slices
import Derived.Lib.Hide
import Derived.Deep.DeepFit
import Derived.Deep.RegionLaw
import Derived.Deep.LoopGhost
import Derived.Laws.Bits64b
import Derived.WalkSmall
import Derived.Laws.BitsAllLaws
import Derived.Laws.IdiomStrings
import Derived.Deep.AppendLies
set_option linter.unusedVariables false
set_option linter.unusedSimpArgs false
namespace Go.Proofs.YtbhmdnjammnlnaaGreatDoor
open Go.RowKit
attribute [local go_sem] und_cell World.cell?_alloc_some
theorem setC_size (w : World) (a : Addr) (v : Value) : (w.setCell a v).heap.size = w.heap.size := by simp [World.setCell]
def Pl.log0 : Log := ⟨[⟨0, ⟨#[]⟩, []⟩], 0⟩
def Pl.head0 : Head := ⟨[], 0⟩
def Pl.newHo (n : Nat) : House := ⟨List.replicate n Pl.log0, List.replicate n Pl.head0, List.replicate n Pl.head0⟩
def Pl.newHouse (n : Int) : House × Bool := if Pl.isIn n 1 3 = true then (Pl.newHo n.toNat, true) else (⟨[], [], []⟩, false)
theorem rHead0_own {w : World} : rHead.own w Pl.head0 [.slice none 0 0, .int .i64 0] [] := rHead_own_mk (x := Pl.head0) Mm.SlOwn.nil (by show Mm.I64 0; unfold Mm.I64; simp)
theorem upto3 {p : Nat → Prop} (h1 : p 1) (h2 : p 2) (h3 : p 3) (n : Nat) (a : 1 ≤ n) (b : n ≤ 3) : p n := by
  have : n = 1 ∨ n = 2 ∨ n = 3 := by omega
  rcases this with rfl | rfl | rfl <;> assumption
def Pl.hd0s (n : Nat) : List Value := (List.replicate n Pl.head0).flatMap fun _ => [.slice none 0 0, .int .i64 0]
theorem make_heads (n : Nat) (h1 : 1 ≤ n) (h3 : n ≤ 3) (W : World) : (Instr.makeSlice 25 (.int .i64 n) (.int .i64 n)).run Tryz.prog W = .ok (.slice (some ⟨W.heap.size, 0, none⟩) n n) (W.alloc (.cells (Pl.hd0s n).toArray 73)) :=
  upto3 (p := fun n => (Instr.makeSlice 25 (.int .i64 n) (.int .i64 n)).run Tryz.prog W = .ok (.slice (some ⟨W.heap.size, 0, none⟩) n n) (W.alloc (.cells (Pl.hd0s n).toArray 73))) (by kernel_rfl) (by kernel_rfl) (by kernel_rfl) n h1 h3
theorem heads_own {X : World} {n : Nat} (h : n ≤ 3) : Mm.SlOwn rHead 73 (X.alloc (.cells (Pl.hd0s n).toArray 73)) (List.replicate n Pl.head0) (.slice (some ⟨X.heap.size, 0, none⟩) n n) [X.heap.size] :=
  Mm.SlOwn.of_blk (fun _ => [.slice none 0 0, .int .i64 0]) (Mm.Blk.new X 73 (Pl.hd0s n)) (fun x hx => by rw [(List.mem_replicate.1 hx).2]; exact rHead0_own) (by simp) (by unfold maxLen; omega)
theorem Tryz.infoHo1 : (Tryz.prog.info? 80).map (fun i => (i.zero, i.size, i.bytes)) = some (some (.agg #[.slice none 0 0, .int .i64 0]), 2, 32) := by kernel_rfl
theorem Tryz.infoHo2 : (Tryz.prog.info? 73).map (fun i => (i.zero, i.size, i.bytes)) = some (some (.agg #[.slice none 0 0, .int .i64 0]), 2, 32) := by kernel_rfl
theorem piece0_own {w : World} {g : Nat} (h : Mm.Blk w g 164 [.int .i64 0, .string ⟨#[]⟩, .slice none 0 0]) : Mm.SlOwn rPiece 164 w [⟨0, ⟨#[]⟩, []⟩] (.slice (some ⟨g, 0, none⟩) 1 1) [g] :=
  Mm.SlOwn.of_blk (fun _ => [.int .i64 0, .string ⟨#[]⟩, .slice none 0 0]) h (fun x hx => by rw [List.mem_singleton.1 hx]; exact rPiece_own_mk (x := ⟨0, ⟨#[]⟩, []⟩) (by show Mm.I64 0; unfold Mm.I64; simp) (by show (0 : Nat) ≤ _; exact Nat.zero_le _) Mm.SlOwn.nil) rfl (by unfold maxLen; omega)
def NewLogC (w : World) (e : Ending) (w' : World) : Prop := ∃ g f, e = .returned (.agg #[.slice (some ⟨g, 0, none⟩) 1 1, .int .i64 0]) ∧ rLog.own w' Pl.log0 [.slice (some ⟨g, 0, none⟩) 1 1, .int .i64 0] f ∧ f.Nodup ∧ (∀ b, b ∈ f → w.heap.size ≤ b) ∧ Below w.heap.size w w'
theorem implNewLog_c (w : World) : Calls Tryz.prog 109 #[] w (NewLogC w) := by
  have HB := Lib.hid ((Mm.Blk.new' (w.alloc (.cells #[.slice none 0 0, .int .i64 0] 80)) 164 [.int .i64 0, .string ⟨#[]⟩, .slice none 0 0] (Mm.sz1 _ _)))
  have HL := Lib.hid (show Below w.heap.size w ((w.alloc (.cells #[.slice none 0 0, .int .i64 0] 80)).alloc (.cells #[.int .i64 0, .string ⟨#[]⟩, .slice none 0 0] 164)) from below_new (below_new (Below.refl _ _) _) _)
  have KR := Lib.hid ((Mm.Blk.new w 80 [.slice none 0 0, .int .i64 0]).alloc (.cells #[.int .i64 0, .string ⟨#[]⟩, .slice none 0 0] 164))
  go_enter Tryz.func109, Tryz.ntmps109
  go_wp2
  refine bodyPost_ret (v := .agg #[.slice (some ⟨w.heap.size + 1, 0, none⟩) 1 1, .int .i64 0]) (by simp [results, Tryz.results109, go_sem]) rfl ⟨w.heap.size + 1, [w.heap.size + 1], rfl, rLog_own_mk (x := Pl.log0) (piece0_own ?_) (by show Mm.I64 0; unfold Mm.I64; simp), by simp, fun b hb => by simp at hb; omega, ?_⟩
  · exact (Mm.Blk.new' _ 164 [.int .i64 0, .string ⟨#[]⟩, .slice none 0 0] (Mm.sz1 _ _))
  · exact below_new (below_new (Below.refl _ _) _) _
theorem specNewLog_c (w : World) : Calls Tryz.prog 103 #[] w (NewLogC w) := by
  have HB := Lib.hid ((Mm.Blk.new' (w.alloc (.cells #[.slice none 0 0, .int .i64 0] 80)) 164 [.int .i64 0, .string ⟨#[]⟩, .slice none 0 0] (Mm.sz1 _ _)))
  have HL := Lib.hid (show Below w.heap.size w ((w.alloc (.cells #[.slice none 0 0, .int .i64 0] 80)).alloc (.cells #[.int .i64 0, .string ⟨#[]⟩, .slice none 0 0] 164)) from below_new (below_new (Below.refl _ _) _) _)
  have KR := Lib.hid ((Mm.Blk.new w 80 [.slice none 0 0, .int .i64 0]).alloc (.cells #[.int .i64 0, .string ⟨#[]⟩, .slice none 0 0] 164))
  go_enter Tryz.func103, Tryz.ntmps103
  go_wp2
  refine bodyPost_ret (v := .agg #[.slice (some ⟨w.heap.size + 1, 0, none⟩) 1 1, .int .i64 0]) (by simp [results, Tryz.results103, go_sem]) rfl ⟨w.heap.size + 1, [w.heap.size + 1], rfl, rLog_own_mk (x := Pl.log0) (piece0_own ?_) (by show Mm.I64 0; unfold Mm.I64; simp), by simp, fun b hb => by simp at hb; omega, ?_⟩
  · exact (Mm.Blk.new' _ 164 [.int .i64 0, .string ⟨#[]⟩, .slice none 0 0] (Mm.sz1 _ _))
  · exact below_new (below_new (Below.refl _ _) _) _
theorem lg_snoc (k : Nat) : List.replicate k Pl.log0 ++ [Pl.log0] = List.replicate (k + 1) Pl.log0 := by rw [List.replicate_succ']
theorem hd_snoc (k : Nat) : List.replicate k Pl.head0 ++ [Pl.head0] = List.replicate (k + 1) Pl.head0 := by rw [List.replicate_succ']
theorem house_ret {w wr : World} {x : House} {A0 A1 A2 : Option Addr} {n0 c0 n1 c1 n2 c2 : Nat} {f0 f1 f2 : List Nat} (h : Mm.SepF [] w wr [Mm.tsl rLog 80 x.Logs (.slice A0 n0 c0) f0, Mm.tsl rHead 73 x.Heads (.slice A1 n1 c1) f1, Mm.tsl rHead 73 x.Kept (.slice A2 n2 c2) f2]) :
    Mm.NewAg rHouse w x (.returned (.agg #[.slice A0 n0 c0, .slice A1 n1 c1, .slice A2 n2 c2])) wr := by
  refine ⟨[.slice A0 n0 c0, .slice A1 n1 c1, .slice A2 n2 c2], f0 ++ (f1 ++ f2), rfl, rHouse_own_mk (h.sl 0 rfl) (h.sl 1 rfl) (h.sl 2 rfl), ?_, fun b hb => ?_, h.bel0⟩
  · have := h.nd; simpa [Mm.tsl] using this
  · have := h.new b (by simpa [Mm.tsl] using hb)
    rcases this with h | h
    · cases h
    · exact h
set_option maxRecDepth 100000 in
set_option maxHeartbeats 1000000 in
theorem newHouse_c (n : Nat) (w : World) (h1 : 1 ≤ n) (h3 : n ≤ 3) : Calls Tryz.prog 56 #[.int .i64 n] w (Mm.NewAg rHouse w (Pl.newHo n)) := by
  have hmk := make_heads n h1 h3
  have KS0 := Lib.hid ((Mm.SepF.start w).alloc' rfl 27 [.slice none 0 0, .slice none 0 0, .slice none 0 0])
  go_enter Tryz.func56, Tryz.ntmps56
  go_wp2
  obtain ⟨W1, hW1⟩ : ∃ W1, W1 = w.alloc (.cells #[.slice none 0 0, .slice none 0 0, .slice none 0 0] 27) := ⟨_, rfl⟩
  rw [show [Value.slice none 0 0, .slice none 0 0, .slice none 0 0].toArray = #[.slice none 0 0, .slice none 0 0, .slice none 0 0] from rfl, ← hW1] at KS0
  rw [← hW1]
  clear hW1
  refine Mm.wp_region_give 6 (fun i => match i with | 1 => some (Mm.gSl rHead 73 (List.replicate n Pl.head0)) | 3 => some (Mm.gSl rHead 73 (List.replicate n Pl.head0)) | 5 => some (Mm.gPtr 27 [.slice none 0 0, .slice none 0 0, .slice none 0 0]) | _ => none) (fun _ => []) (fun _ => []) (F := []) (D := fun w' => ∃ x : Und W1, w' = und W1 x) (fun X us h => Mm.sep_und h) (by kernel_rfl) (by kernel_rfl) (by kernel_rfl) (Mm.SepF.startDrew _) ?_
  repeat (refine Mm.give_det (by rfl) (by rfl) (by rfl) (fun K hK => ?_); go_big_quiet_op; refine hK _ ?_; clear hK K)
  refine Mm.give_op0 5 (by rfl) rfl (by rfl) (by rfl) (by rfl) (by rfl) Mm.gSl_in (fun others X hX => ?_) ?_
  · go_wp2
    exact Mm.gvq_sl hX (below_new (Below.refl _ _) _) (heads_own h3) (by simp) (by simp) rfl rfl
  rintro v ds ⟨A2, n2, c2, f2, rfl, rfl, hn2⟩
  simp only [Act.put, List.setIfInBounds_toArray, List.set_cons_succ, List.set_cons_zero]
  repeat (refine Mm.give_det (by rfl) (by rfl) (by rfl) (fun K hK => ?_); go_big_quiet_op; refine hK _ ?_; clear hK K)
  refine Mm.give_op0 7 (by rfl) rfl (by rfl) (by rfl) (by rfl) (by rfl) Mm.gSl_in (fun others X hX => ?_) ?_
  · go_wp2
    exact Mm.gvq_sl hX (below_new (Below.refl _ _) _) (heads_own h3) (by simp) (by simp) rfl rfl
  rintro v ds ⟨A3, n3, c3, f3, rfl, rfl, hn3⟩
  simp only [Act.put, List.setIfInBounds_toArray, List.set_cons_succ, List.set_cons_zero]
  repeat (refine Mm.give_det (by rfl) (by rfl) (by rfl) (fun K hK => ?_); go_big_quiet_op; refine hK _ ?_; clear hK K)
  refine Mm.give_op0 3 (by rfl) rfl (by rfl) (by rfl) (by rfl) (by rfl) Mm.gPtr_in (fun others X hX => ?_) ?_
  · go_wp2
    exact Mm.gvq_ptr hX rfl rfl rfl
  rintro v ds ⟨g6, rfl, rfl⟩
  simp only [Act.put, List.setIfInBounds_toArray, List.set_cons_succ, List.set_cons_zero]
  refine Mm.give_nil ?_
  rintro X hX
  have HX := Lib.hid (KS0.out.join (us := [Mm.tsl rHead 73 (List.replicate n Pl.head0) (.slice A2 n2 c2) f2, Mm.tsl rHead 73 (List.replicate n Pl.head0) (.slice A3 n3 c3) f3, Mm.tblk g6 27 [.slice none 0 0, .slice none 0 0, .slice none 0 0]]) hX)
  clear hX
  have p0 := HX.out.frz (k := 0) 2 rfl
  have p1 := HX.out.frz (k := 1) 2 rfl
  have p2 := HX.out.frz (k := 2) 2 rfl
  have s0 := HX.out.cell (k := 0) 2 rfl rfl
  have s1 := HX.out.cell (k := 1) 2 rfl rfl
  have s2 := HX.out.cell (k := 2) 2 rfl rfl
  have HX2 := Lib.hid (((((HX.out.setBlk (k := 0) 2 rfl (.slice none 0 0)).setBlk (k := 1) 2 rfl (.slice A2 n2 c2)).setBlk (k := 2) 2 rfl (.slice A3 n3 c3)).sel [2, 0, 1, 3] (by decide) rfl).add (Below.refl _ _) (t := Mm.tsl rLog 80 [] (.slice none 0 0) []) Mm.SlOwn.nil List.nodup_nil (fun b hb => by cases hb))
  go_wp2
  clear p0 p1 p2 s0 s1 s2 KS0 hmk
  go_loopg [10] n (fun g i wx => ∃ (k : Nat) (A : Option Addr) (c : Nat) (f : List Nat), n - k ≤ g ∧ k ≤ n ∧ i = .int .i64 k ∧ Hid (Mm.SepF [] w wx [Mm.tsl rLog 80 (List.replicate k Pl.log0) (.slice A k c) f, Mm.tblk g6 27 [.slice A k c, .slice A2 n2 c2, .slice A3 n3 c3], Mm.tsl rHead 73 (List.replicate n Pl.head0) (.slice A2 n2 c2) f2, Mm.tsl rHead 73 (List.replicate n Pl.head0) (.slice A3 n3 c3) f3, Mm.tblk w.heap.size 27 [.slice none 0 0, .slice none 0 0, .slice none 0 0]]))
  case atStart => exact ⟨0, none, 0, [], Nat.le_refl _, Nat.zero_le _, rfl, HX2.out⟩
  case round =>
    clear HX HX2
    obtain ⟨k, A, c, f, hgk, hk, rfl, HS⟩ := hrel
    obtain ⟨W, rfl⟩ : ∃ W : World, W = wr := ⟨_, rfl⟩
    have d0 := HS.out.cell (k := 0) 1 rfl rfl
    have d1 := HS.out.cell (k := 1) 1 rfl rfl
    have d2 := HS.out.cell (k := 2) 1 rfl rfl
    have z0 := HS.out.frz (k := 0) 1 rfl
    by_cases hlt : k < n
    · have hlt' : (k : Int) < (n : Nat) := by omega
      obtain ⟨i0, hi, hz0, hz1, hz2⟩ := info_parts Tryz.infoHo1
      go_wp2
      go_region_law (first
        | (go_simp; go_at_call 109; (with_reducible refine (implNewLog_c _).mono ?_); rintro e w1 ⟨gl, fl, rfl, ho, hnd, hnew, hb⟩; (have HS1 := Lib.hid (HS.out.addEnd (below_step (Below.refl _ _).drew hb) (t := Mm.tow rLog Pl.log0 [.slice (some ⟨gl, 0, none⟩) 1 1, .int .i64 0] fl) ho hnd hnew)); obtain ⟨l0, ho3, hnext⟩ := HS1.out.push (W2 := w1.alloc (.cells #[.slice (some ⟨gl, 0, none⟩) 1 1, .int .i64 0] 80)) 0 5 (by decide) rfl rfl (below_new (Below.refl _ _) _) (x := Pl.log0) (cx := [.slice (some ⟨gl, 0, none⟩) 1 1, .int .i64 0]) (fun W h => h); rw [List.length_replicate] at ho3 hnext; (have HNX := Lib.hid hnext); (have e0 := HS1.out.cell (k := 0) 1 rfl rfl); (have y0 := HS1.out.frz (k := 0) 1 rfl); clear hnext ho hnd hnew hb)
        | (refine step_append_lies _ (by rfl) (.tmp 13) (.tmp 15) 24 (by rfl) 0 80 i0 _ 2 32 Tryz.underlying24 hi hz0 hz1 hz2 rfl (by omega) (.slice A k c) k l0 (by rfl) ho3 ⟨w1.heap.size, 0, none⟩ 1 1 [.slice (some ⟨gl, 0, none⟩) 1 1, .int .i64 0] (by rfl) (by rfl) (World.news_of_block (B := w1.heap.size) (cs := #[.slice (some ⟨gl, 0, none⟩) 1 1, .int .i64 0]) (t := 80) (fr := (0, 0)) (heap_alloc_new w1 _)) (by simp [Value.oneCell']) (by omega) (by unfold maxLen; omega) (by omega) (Nat.zero_le _) _ rfl ?_; intro gg cap w4 hown1 hgrow hat hlt9; obtain ⟨fp', hs4⟩ := HNX.out gg cap w4 hown1 hgrow hat; (have HS4 := Lib.hid hs4); (have d0' := HS4.out.cell (k := 0) 1 rfl rfl); (have z0' := HS4.out.frz (k := 0) 1 rfl); clear hs4 hown1 hgrow hat))
      all_goals
        go_wp2
        go_roundg (n - (k + 1))
        case measure => omega
        case rel => exact ⟨k + 1, _, cap, fp', Nat.le_refl _, by omega, by go_num, by rw [← lg_snoc]; exact (HS4.out.setBlk (k := 0) 1 rfl _).sel [0, 1, 2, 3, 4] (by decide) rfl⟩
    · obtain rfl : k = n := by omega
      have r0 := HS.out.cell (k := 0) 4 rfl rfl
      have r1 := HS.out.cell (k := 1) 4 rfl rfl
      have r2 := HS.out.cell (k := 2) 4 rfl rfl
      have y0 := HS.out.frz (k := 0) 4 rfl
      have y1 := HS.out.frz (k := 1) 4 rfl
      have y2 := HS.out.frz (k := 2) 4 rfl
      have HS6 := Lib.hid ((((HS.out.setBlk (k := 0) 4 rfl (.slice A k c)).setBlk (k := 1) 4 rfl (.slice A2 n2 c2)).setBlk (k := 2) 4 rfl (.slice A3 n3 c3)).sel [0, 2, 3] (by decide) rfl)
      go_wp2
      exact bodyPost_ret (v := .agg #[.slice A k c, .slice A2 n2 c2, .slice A3 n3 c3]) (by simp [results, Tryz.results56, go_sem, r0, r1, r2]) rfl (house_ret HS6.out)
theorem house_ret2 {w wr : World} {x : House} {A0 A1 A2 : Option Addr} {n0 c0 n1 c1 n2 c2 : Nat} {f0 f1 f2 : List Nat} (h : Mm.SepF [] w wr [Mm.tsl rLog 80 x.Logs (.slice A0 n0 c0) f0, Mm.tsl rHead 73 x.Heads (.slice A1 n1 c1) f1, Mm.tsl rHead 73 x.Kept (.slice A2 n2 c2) f2]) :
    Mm.Ret2 rHouse w x true (.returned (.tuple #[.agg #[.slice A0 n0 c0, .slice A1 n1 c1, .slice A2 n2 c2], .bool true])) wr := by
  refine ⟨[.slice A0 n0 c0, .slice A1 n1 c1, .slice A2 n2 c2], f0 ++ (f1 ++ f2), rfl, rHouse_own_mk (h.sl 0 rfl) (h.sl 1 rfl) (h.sl 2 rfl), ?_, fun b hb => ?_, h.bel0⟩
  · have := h.nd; simpa [Mm.tsl] using this
  · have := h.new b (by simpa [Mm.tsl] using hb)
    rcases this with h | h
    · cases h
    · exact h
theorem house0_ret {w wr : World} (h : Below w.heap.size w wr) : Mm.Ret2 rHouse w ⟨[], [], []⟩ false (.returned (.tuple #[.agg #[.slice none 0 0, .slice none 0 0, .slice none 0 0], .bool false])) wr :=
  ⟨[.slice none 0 0, .slice none 0 0, .slice none 0 0], [], rfl, rHouse_own_mk (x := ⟨[], [], []⟩) Mm.SlOwn.nil Mm.SlOwn.nil Mm.SlOwn.nil, List.nodup_nil, (fun b hb => by cases hb), h⟩
set_option maxHeartbeats 1000000 in
theorem implNewHouse_c (n : Int) (w : World) : Calls Tryz.prog 51 #[.int .i64 n] w (Mm.Ret2 rHouse w (Pl.newHouse n).1 (Pl.newHouse n).2) := by
  cases h : Pl.isIn n 1 3
  · have e : Pl.newHouse n = (⟨[], [], []⟩, false) := if_neg (by rw [h]; simp)
    rw [e]
    go_enter Tryz.func51, Tryz.ntmps51
    go_wp2_with (go_at_call 55; refine (within_c _ _ _ _).mono ?_; rintro e w' ⟨rfl, rfl⟩)
    exact bodyPost_ret (v := .tuple #[.agg #[.slice none 0 0, .slice none 0 0, .slice none 0 0], .bool false]) (by simp [results, Tryz.results51, go_sem]) rfl (house0_ret (below_new (Below.refl _ _) _))
  · have e : Pl.newHouse n = (Pl.newHo n.toNat, true) := if_pos h
    rw [e]
    have hb : 1 ≤ n ∧ n ≤ 3 := by unfold Pl.isIn at h; simpa using h
    obtain ⟨p, rfl⟩ : ∃ p : Nat, n = (p : Int) := ⟨n.toNat, by omega⟩
    rw [Int.toNat_natCast]
    have KS := Lib.hid ((Mm.SepF.start w).alloc' rfl 27 [.slice none 0 0, .slice none 0 0, .slice none 0 0])
    have h1 : 1 ≤ p := by omega
    have h3 : p ≤ 3 := by omega
    go_enter Tryz.func51, Tryz.ntmps51
    go_wp2_with first
      | (go_at_call 55; refine (within_c _ _ _ _).mono ?_; rintro e w' ⟨rfl, rfl⟩)
      | (go_at_call 56; (have C1 := newHouse_c p (w.alloc (.cells #[.slice none 0 0, .slice none 0 0, .slice none 0 0] 27)) h1 h3); (with_reducible refine C1.mono ?_); clear C1; rintro e w1 ⟨cs, fp, rfl, ho, hnd, hnw, hb1⟩; obtain ⟨A0, n0, c0, A1, n1, c1, A2, n2, c2, f0, f1, f2, rfl, rfl, k0, k1, k2⟩ := rHouse_own ho; (have KS1 := Lib.hid (KS.out.step hb1)); (have r0 := KS1.out.cell (k := 0) 0 rfl rfl); (have r1 := KS1.out.cell (k := 1) 0 rfl rfl); (have r2 := KS1.out.cell (k := 2) 0 rfl rfl); (have x0 := KS1.out.frz (k := 0) 0 rfl); (have x1 := KS1.out.frz (k := 1) 0 rfl); (have x2 := KS1.out.frz (k := 2) 0 rfl); (have KS2 := Lib.hid ((((KS.out.addEnd hb1 (t := Mm.tow rHouse (Pl.newHo p) _ _) ho hnd hnw).setBlk (k := 0) 0 rfl (.slice A0 n0 c0)).setBlk (k := 1) 0 rfl (.slice A1 n1 c1)).setBlk (k := 2) 0 rfl (.slice A2 n2 c2))); clear ho hnd hnw hb1 k0 k1 k2)
    exact bodyPost_ret (v := .tuple #[.agg #[.slice A0 n0 c0, .slice A1 n1 c1, .slice A2 n2 c2], .bool true]) (by simp [results, Tryz.results51, go_sem, r0, r1, r2]) rfl ⟨[.slice A0 n0 c0, .slice A1 n1 c1, .slice A2 n2 c2], f0 ++ (f1 ++ f2), rfl, KS2.out.at_ 1 rfl, KS2.out.ndat (i := 1) rfl, fun b hb => (by have := KS2.out.new b (Mm.SepF.mem (i := 1) rfl hb); rcases this with h | h; (cases h); exact h), KS2.out.bel0⟩
set_option maxRecDepth 100000 in
set_option maxHeartbeats 1000000 in
theorem specNewHouse_yes (n : Nat) (w : World) (h1 : 1 ≤ n) (h3 : n ≤ 3) : Calls Tryz.prog 52 #[.int .i64 n] w (Mm.Ret2 rHouse w (Pl.newHo n) true) := by
  have hin : Pl.isIn n 1 3 = true := by unfold Pl.isIn; simp; omega
  have KS0 := Lib.hid ((((((Mm.SepF.start w).alloc' rfl 27 [.slice none 0 0, .slice none 0 0, .slice none 0 0]).alloc' (Mm.sz1 _ _) 27 [.slice none 0 0, .slice none 0 0, .slice none 0 0]).add (Below.refl _ _) (t := Mm.tsl rHead 73 [] (.slice none 0 0) []) Mm.SlOwn.nil List.nodup_nil (fun b hb => by cases hb)).add (Below.refl _ _) (t := Mm.tsl rHead 73 [] (.slice none 0 0) []) Mm.SlOwn.nil List.nodup_nil (fun b hb => by cases hb)).add (Below.refl _ _) (t := Mm.tsl rLog 80 [] (.slice none 0 0) []) Mm.SlOwn.nil List.nodup_nil (fun b hb => by cases hb))
  go_enter Tryz.func52, Tryz.ntmps52
  go_wp2_with (go_at_call 68; refine (l1In_c _ _ _ _).mono ?_; rintro e w' ⟨rfl, rfl⟩)
  go_loopg [0] n (fun g i wx => ∃ (k : Nat) (A A2 A3 : Option Addr) (c c2 c3 : Nat) (f f2 f3 : List Nat), n - k ≤ g ∧ k ≤ n ∧ i = .int .i64 ((n : Int) - k) ∧ Hid (Mm.SepF [] w wx [Mm.tsl rLog 80 (List.replicate k Pl.log0) (.slice A k c) f, Mm.tsl rHead 73 (List.replicate k Pl.head0) (.slice A2 k c2) f2, Mm.tsl rHead 73 (List.replicate k Pl.head0) (.slice A3 k c3) f3, Mm.tblk (w.heap.size + 1) 27 [.slice A k c, .slice A2 k c2, .slice A3 k c3], Mm.tblk w.heap.size 27 [.slice none 0 0, .slice none 0 0, .slice none 0 0]]))
  case atStart => exact ⟨0, none, none, none, 0, 0, 0, [], [], [], Nat.le_refl _, Nat.zero_le _, by go_num, KS0.out⟩
  case round =>
    clear KS0
    obtain ⟨k, A, A2, A3, c, c2, c3, f, f2, f3, hgk, hk, rfl, HS⟩ := hrel
    obtain ⟨W, rfl⟩ : ∃ W : World, W = wr := ⟨_, rfl⟩
    have d0 := HS.out.cell (k := 0) 3 rfl rfl
    have d1 := HS.out.cell (k := 1) 3 rfl rfl
    have d2 := HS.out.cell (k := 2) 3 rfl rfl
    have z0 := HS.out.frz (k := 0) 3 rfl
    by_cases hlt : k < n
    · have hlt' : 0 < (n : Int) - k := by omega
      obtain ⟨i0, hi, hz0, hz1, hz2⟩ := info_parts Tryz.infoHo1
      obtain ⟨i1, hi1, hy0, hy1, hy2⟩ := info_parts Tryz.infoHo2
      go_wp2
      go_region_law (first
        | (go_simp; go_at_call 103; (with_reducible refine (specNewLog_c _).mono ?_); rintro e w1 ⟨gl, fl, rfl, ho, hnd, hnew, hb⟩; (have HS1 := Lib.hid (HS.out.addEnd (below_step (Below.refl _ _).drew hb) (t := Mm.tow rLog Pl.log0 [.slice (some ⟨gl, 0, none⟩) 1 1, .int .i64 0] fl) ho hnd hnew)); obtain ⟨l0, ho3, hnext⟩ := HS1.out.push (W2 := w1.alloc (.cells #[.slice (some ⟨gl, 0, none⟩) 1 1, .int .i64 0] 80)) 0 5 (by decide) rfl rfl (below_new (Below.refl _ _) _) (x := Pl.log0) (cx := [.slice (some ⟨gl, 0, none⟩) 1 1, .int .i64 0]) (fun W h => h); rw [List.length_replicate] at ho3 hnext; (have HNX := Lib.hid hnext); (have e0 := HS1.out.cell (k := 0) 3 rfl rfl); (have y0 := HS1.out.frz (k := 0) 3 rfl); clear hnext ho hnd hnew hb)
        | (refine step_append_lies _ (by rfl) (.tmp 14) (.tmp 16) 24 (by rfl) 0 80 i0 _ 2 32 Tryz.underlying24 hi hz0 hz1 hz2 rfl (by omega) (.slice A k c) k l0 (by rfl) ho3 ⟨w1.heap.size, 0, none⟩ 1 1 [.slice (some ⟨gl, 0, none⟩) 1 1, .int .i64 0] (by rfl) (by rfl) (World.news_of_block (B := w1.heap.size) (cs := #[.slice (some ⟨gl, 0, none⟩) 1 1, .int .i64 0]) (t := 80) (fr := (0, 0)) (heap_alloc_new w1 _)) (by simp [Value.oneCell']) (by omega) (by unfold maxLen; omega) (by omega) (Nat.zero_le _) _ rfl ?_; intro gg cap w4 hown1 hgrow hat hlt9; obtain ⟨fp', hs4⟩ := HNX.out gg cap w4 hown1 hgrow hat; (have HS4 := Lib.hid hs4); (have d0' := HS4.out.cell (k := 0) 3 rfl rfl); (have z0' := HS4.out.frz (k := 0) 3 rfl); clear hs4 hown1 hgrow hat))
      all_goals
        have HS5 := Lib.hid ((HS4.out.setBlk (k := 0) 3 rfl (.slice (some ⟨gg, 0, none⟩) (k + 1) cap)).sel [0, 1, 2, 3, 4] (by decide) rfl)
        obtain ⟨l1, ho1, hnx1⟩ := HS5.out.push0 (W2 := (w4.setCell ⟨w.heap.size + 1, 0, none⟩ (.slice (some ⟨gg, 0, none⟩) (k + 1) cap)).alloc (.cells #[.slice none 0 0, .int .i64 0] 73)) 1 rfl (below_new (Below.refl _ _) _) (x := Pl.head0) (cx := [.slice none 0 0, .int .i64 0]) rHead0_own
        rw [List.length_replicate] at ho1 hnx1
        have HNX1 := Lib.hid hnx1
        have HO1 := Lib.hid ho1
        have v1 := HS5.out.cell (k := 1) 3 rfl rfl
        clear hnx1 ho1 HS4 d0 d1 d2 z0
        go_wp2_with first
          | (at_builtin; refine wpList_append_lies _ (by rfl) _ _ _ (by rfl) 0 73 i1 _ 2 32 Tryz.underlying25 hi1 hy0 hy1 hy2 rfl (by omega) (.slice A2 k c2) k l1 (by rfl) HO1.out ⟨w4.heap.size, 0, none⟩ 1 1 [.slice none 0 0, .int .i64 0] (by rfl) (by rfl) (World.news_of_block (B := w4.heap.size) (cs := #[.slice none 0 0, .int .i64 0]) (t := 73) (fr := (0, 0)) (Mm.heap_new _ (setC_size _ _ _) _)) (by simp [Value.oneCell']) (by omega) (by unfold maxLen; omega) (by omega) (Nat.zero_le _) _ rfl ?_; intro g5 cap5 w5 hownA hgrowA hatA hltA; obtain ⟨f5, hs5⟩ := HNX1.out g5 cap5 w5 hownA hgrowA hatA; (have HS6 := Lib.hid (hs5.setBlk (k := 1) 3 rfl (.slice (some ⟨g5, 0, none⟩) (k + 1) cap5))); obtain ⟨l2, ho2, hnx2⟩ := HS6.out.push0 (W2 := (w5.setCell ⟨w.heap.size + 1, 1, none⟩ (.slice (some ⟨g5, 0, none⟩) (k + 1) cap5)).alloc (.cells #[.slice none 0 0, .int .i64 0] 73)) 2 rfl (below_new (Below.refl _ _) _) (x := Pl.head0) (cx := [.slice none 0 0, .int .i64 0]) rHead0_own; rw [List.length_replicate] at ho2 hnx2; (have HNX2 := Lib.hid hnx2); (have HO2 := Lib.hid ho2); (have q1 := hs5.cell (k := 1) 3 rfl rfl); (have q2 := hs5.cell (k := 2) 3 rfl rfl); (have q3 := hs5.frz (k := 1) 3 rfl); (have q4 := HS6.out.cell (k := 2) 3 rfl rfl); clear hs5 hownA hgrowA hatA hltA hnx2 ho2)
          | (at_builtin; refine wpList_append_lies _ (by rfl) _ _ _ (by rfl) 0 73 i1 _ 2 32 Tryz.underlying25 hi1 hy0 hy1 hy2 rfl (by omega) (.slice A3 k c3) k l2 (by rfl) HO2.out ⟨w5.heap.size, 0, none⟩ 1 1 [.slice none 0 0, .int .i64 0] (by rfl) (by rfl) (World.news_of_block (B := w5.heap.size) (cs := #[.slice none 0 0, .int .i64 0]) (t := 73) (fr := (0, 0)) (Mm.heap_new _ (setC_size _ _ _) _)) (by simp [Value.oneCell']) (by omega) (by unfold maxLen; omega) (by omega) (Nat.zero_le _) _ rfl ?_; intro g6 cap6 w6 hownA hgrowA hatA hltA; obtain ⟨f6, hs6⟩ := HNX2.out g6 cap6 w6 hownA hgrowA hatA; (have HS7 := Lib.hid hs6); (have q5 := hs6.cell (k := 2) 3 rfl rfl); (have q6 := hs6.frz (k := 2) 3 rfl); clear hs6 hownA hgrowA hatA hltA)
        go_roundg (n - (k + 1))
        case measure => omega
        case rel => exact ⟨k + 1, _, _, _, cap, cap5, cap6, fp', f5, f6, Nat.le_refl _, by omega, by go_num, by rw [← lg_snoc, ← hd_snoc]; exact (HS7.out.setBlk (k := 2) 3 rfl _).sel [0, 1, 2, 3, 4] (by decide) rfl⟩
    · obtain rfl : k = n := by omega
      have r0 := HS.out.cell (k := 0) 4 rfl rfl
      have r1 := HS.out.cell (k := 1) 4 rfl rfl
      have r2 := HS.out.cell (k := 2) 4 rfl rfl
      have y0 := HS.out.frz (k := 0) 4 rfl
      have y1 := HS.out.frz (k := 1) 4 rfl
      have y2 := HS.out.frz (k := 2) 4 rfl
      have hlt' : ¬ 0 < (k : Int) - k := by omega
      have HS6 := Lib.hid ((((HS.out.setBlk (k := 0) 4 rfl (.slice A k c)).setBlk (k := 1) 4 rfl (.slice A2 k c2)).setBlk (k := 2) 4 rfl (.slice A3 k c3)).sel [0, 1, 2] (by decide) rfl)
      go_wp2
      exact bodyPost_ret (v := .tuple #[.agg #[.slice A k c, .slice A2 k c2, .slice A3 k c3], .bool true]) (by simp [results, Tryz.results52, go_sem, r0, r1, r2]) rfl (house_ret2 HS6.out)
set_option maxHeartbeats 1000000 in
theorem specNewHouse_c (n : Int) (w : World) : Calls Tryz.prog 52 #[.int .i64 n] w (Mm.Ret2 rHouse w (Pl.newHouse n).1 (Pl.newHouse n).2) := by
  cases h : Pl.isIn n 1 3
  · have e : Pl.newHouse n = (⟨[], [], []⟩, false) := if_neg (by rw [h]; simp)
    rw [e]
    go_enter Tryz.func52, Tryz.ntmps52
    go_wp2_with (go_at_call 68; refine (l1In_c _ _ _ _).mono ?_; rintro e w' ⟨rfl, rfl⟩)
    exact bodyPost_ret (v := .tuple #[.agg #[.slice none 0 0, .slice none 0 0, .slice none 0 0], .bool false]) (by simp [results, Tryz.results52, go_sem]) rfl (house0_ret (below_new (Below.refl _ _) _))
  · have e : Pl.newHouse n = (Pl.newHo n.toNat, true) := if_pos h
    rw [e]
    have hb : 1 ≤ n ∧ n ≤ 3 := by unfold Pl.isIn at h; simpa using h
    have := specNewHouse_yes n.toNat w (by omega) (by omega)
    rwa [show ((n.toNat : Nat) : Int) = n by omega] at this
end Go.Proofs.YtbhmdnjammnlnaaGreatDoor

namespace Go.Proofs.YtbhmdnjammnlnaaGreatDoor
open Go.ChangeShapes Go.WideShapes Go.RowKit Go.Deep
namespace Mm
def Opens {α : Type} (P : Program) (t : TypeId) (E : Rep α) : Prop :=
  P.cellsOf t = E.size ∧ ∀ (H : Type) (enc : TypeId × Value → H) (w : World) (base : Nat) (spare : Nat → Bool) (held : Bool) (fuel : Nat) (cs : List Value) (x : DataW H × List MemPlace),
    DataW.trod enc P w base spare held fuel t cs = some x → ∃ y, E.at_ w w.heap.size y cs
variable {P : Program} {t e : TypeId}
theorem opens_slice {α : Type} {E : Rep α} (ht : P.underlying t = some (.slice e)) (hc : P.cellsOf t = 1) (h0 : 0 < E.size) (hE : Opens P e E) : Opens P t (slice E e) := ⟨hc, fun H enc w base spare held fuel cs x h => by
  rcases open_slice ht h with ⟨rfl, _⟩ | ⟨a, len, cap, m, n, D, Pl, rfl, hb, hl, hm, hmm, _, hi⟩
  · exact ⟨[], none, 0, 0, rfl, SlAt.nil (Nat.zero_le _) (fun _ => rfl)⟩
  · have hle : len ≤ m := by rw [hmm]; split <;> omega
    have hex : ∀ i : Fin len, ∃ y : α, ∃ cs', E.at_ w w.heap.size y cs' ∧ cs'.length = E.size ∧ ∀ j, j < E.size → w.cell? (a.add (i.1 * E.size + j)) = cs'[j]? := by
      intro i
      obtain ⟨cs', h1, h2⟩ := hi i.1 (by have := i.2; omega)
      obtain ⟨y, hy⟩ := hE.2 H enc w base spare held n cs' _ h2
      obtain ⟨_, hln, hcell⟩ := World.cells?_some h1
      rw [hE.1] at hln hcell
      exact ⟨y, cs', hy, hln, fun j hj => by rw [← Go.Deep.add_add]; exact hcell j hj⟩
    refine ⟨List.ofFn fun i : Fin len => Classical.choose (hex i), some a, len, cap, rfl, by simp, hl, hm, (fun h => by cases h), fun i y hy => ?_⟩
    have hil : i < len := by
      have := (List.getElem?_eq_some_iff.1 hy).1
      simpa using this
    obtain ⟨cs', h1, h2, h3⟩ := Classical.choose_spec (hex ⟨i, hil⟩)
    have hey : Classical.choose (hex ⟨i, hil⟩) = y := by
      rw [List.getElem?_ofFn] at hy
      simpa [hil] using hy
    rw [hey] at h1
    obtain ⟨cs0, _, h20, h30⟩ := Classical.choose_spec (hex ⟨0, by omega⟩)
    have hc0 := h30 0 h0
    rw [List.getElem?_eq_getElem (by omega)] at hc0
    obtain ⟨b, off, spot⟩ := a
    have hsp : spot = none := by
      have := World.cell?_spot hc0
      simpa [Addr.add] using this
    subst hsp
    have hadd : ∀ k : Nat, (⟨b, off, none⟩ : Addr).add k = ⟨b, off + k, none⟩ := fun k => by unfold Addr.add; split <;> simp_all
    refine ⟨b, off, cs', rfl, ?_, h1, fun j u hu => ?_⟩
    · have := World.block_lt_of_cell? w _ hc0
      rw [hadd] at this
      exact this
    · have hj : j < cs'.length := (List.getElem?_eq_some_iff.1 hu).1
      have := h3 j (by omega)
      rw [hu, hadd] at this
      rw [Nat.add_assoc]
      exact this⟩
theorem open_sl {H : Type} {enc : TypeId × Value → H} {w : World} {base : Nat} {spare : Nat → Bool} {held : Bool} {r : Reach} {b0 : Nat} {v : Value} {d : DataW H} {p : List MemPlace} {α : Type} {E : Rep α}
    (ho : Opens P t (slice E e)) (ht : P.underlying t = some (.slice e)) (hv : Value.okWide P w r b0 t v) (h : DataW.Trod enc P w base spare held t v d p) :
    ∃ A n c xs, v = .slice A n c ∧ SlAt E w w.heap.size xs A n c := by
  obtain ⟨A, n, c, rfl⟩ := okWide_slice ht hv
  obtain ⟨fuel, hf⟩ := h
  obtain ⟨xs, A', n', c', he, hx⟩ := ho.2 H enc w base spare held fuel _ _ hf
  simp [Value.cells] at he
  obtain ⟨rfl, rfl, rfl⟩ := he
  exact ⟨A, n, c, xs, rfl, hx⟩
end Mm
end Go.Proofs.YtbhmdnjammnlnaaGreatDoor

namespace Go.Proofs.YtbhmdnjammnlnaaGreatDoor
open Go.RowKit
attribute [local go_sem] und_cell World.cell?_alloc_some
namespace Mm
def U8 (n : Int) : Prop := 0 ≤ n ∧ n ≤ 255
def u8 : Rep Int := flat 1 (fun n => [.int .u8 n]) U8 (fun _ => rfl) (fun _ u hu => by rw [List.mem_singleton.1 hu]; rfl)
theorem opens_u8 {P : Program} {t : TypeId} (ht : P.underlying t = some (.int .u8)) (hc : P.cellsOf t = 1) : Opens P t u8 := ⟨hc, fun H enc w base spare held fuel cs x h => by
  obtain ⟨n, rfl, _, hw⟩ := DataW.trod_int ht h
  refine ⟨n, rfl, ?_⟩
  simp [Lit.wf, IntKind.min, IntKind.max, IntKind.signed, IntKind.bits] at hw
  unfold U8
  omega⟩
def tcur (T : TypeId) (A : Option Addr) (n c g K : Nat) : Thing :=
  ⟨[g], fun w => ∃ at_ seed : Int, Blk w g T [.slice A n c, .int .i64 at_, .int .u64 seed] ∧ 0 ≤ at_ ∧ at_ ≤ K, fun ⟨a, s, h1, h2⟩ k => ⟨a, s, h1.keep (k g (by simp)), h2⟩, fun ⟨a, s, h1, h2⟩ b hb => by rw [List.mem_singleton.1 hb]; exact h1.lt⟩
theorem tcur_more {T : TypeId} {A : Option Addr} {n c g K K' : Nat} {w : World} (h : (tcur T A n c g K).holds w) (hk : K ≤ K') : (tcur T A n c g K').holds w := by
  obtain ⟨a, s, h1, h2, h3⟩ := h
  exact ⟨a, s, h1, h2, by omega⟩
theorem SepF.swapFor {F : List Nat} {w0 wr : World} {ts : List Thing} {t t' : Thing} (h : SepF F w0 wr ts) (i : Nat) (hi : ts[i]? = some t) (hf : t'.fp = t.fp) (hh : t.holds wr → t'.holds wr) : SepF F w0 wr (ts.set i t') :=
  h.upd hi (Chg.refl _ _) (hh (h.at_ i hi)) (by rw [hf]; exact h.ndat hi) (fun b hb => .inl (hf ▸ hb))
theorem SepF.more {F : List Nat} {w0 wr : World} {ts : List Thing} {T : TypeId} {A : Option Addr} {n c g K K' : Nat} (h : SepF F w0 wr ts) (i : Nat) (hi : ts[i]? = some (tcur T A n c g K)) (hk : K ≤ K') : SepF F w0 wr (ts.set i (tcur T A n c g K')) :=
  h.swapFor i hi rfl fun h => tcur_more h hk
end Mm
theorem opens_u8S : Mm.Opens Tryz.prog 68 (Mm.slice Mm.u8 5) := Mm.opens_slice Tryz.underlying68 (by kernel_rfl) (by decide) (Mm.opens_u8 Tryz.underlying5 (by kernel_rfl))
theorem next_left {T : TypeId} {A : Option Addr} {n c g K p q : Nat} {a s a' s' : Int} {w : World} (hb : Mm.Blk w g T [.slice A n c, .int .i64 a, .int .u64 s]) (h0 : 0 ≤ a') (h1 : a' ≤ K) :
    Mm.Left [g] w ((((w.drewN p).setCell ⟨g, 1, none⟩ (.int .i64 a')).setCell ⟨g, 2, none⟩ (.int .u64 s')).drewN q) (Mm.tcur T A n c g K) := by
  have h2 := (((hb.bel (Go.below_drewN (Below.refl _ w) p)).set_ 1 (.int .i64 a')).set_ 2 (.int .u64 s'))
  have h3 := h2.bel (Go.below_drewN (Below.refl _ _) q)
  have h4 : Mm.Chg [g] w (((w.drewN p).setCell ⟨g, 1, none⟩ (.int .i64 a')).setCell ⟨g, 2, none⟩ (.int .u64 s')) := ((Mm.Chg.of_below (Go.below_drewN (Below.refl _ w) p)).setCell (by simp) _).setCell (by simp) _
  exact ⟨h4.trans (Mm.Chg.of_below (Go.below_drewN (Below.refl _ _) q)), by simp [Mm.tcur], fun b hb => .inl (by simpa [Mm.tcur] using hb), a', s', h3, h0, h1⟩
theorem u64_bd (z : Int) : 0 ≤ IntKind.u64.wrap z ∧ IntKind.u64.wrap z < 18446744073709551616 := by rw [IntKind.wrap_u64]; omega
theorem and255 (z : Int) : 0 ≤ wrap64 (bits .and .u64 (IntKind.u64.wrap z / 1099511627776) 255) ∧ wrap64 (bits .and .u64 (IntKind.u64.wrap z / 1099511627776) 255) ≤ 255 := by
  have h := u64_bd z
  obtain ⟨m, hm⟩ : ∃ m : Nat, IntKind.u64.wrap z / 1099511627776 = m := ⟨(IntKind.u64.wrap z / 1099511627776).toNat, by omega⟩
  rw [hm, show (255 : Int) = ((255 : Nat) : Int) from rfl, bits_and_u64_nat m 255 (by omega) (by omega)]
  have h2 : m &&& 255 ≤ 255 := Nat.and_le_right
  rw [IntWalk.wrap64_in _ (by omega)]
  omega
set_option maxRecDepth 100000 in
set_option maxHeartbeats 1000000 in
theorem next_c (code : List Int) (A : Option Addr) (n c g K : Nat) (w : World) (B : Nat) (hc : Mm.SlAt Mm.u8 w B code A n c) (hB : B ≤ g) (h : (Mm.tcur 128 A n c g K).holds w) (hK : K < 4611686018427387904) :
    Calls Tryz.prog 134 #[.pointer (some ⟨g, 0, none⟩)] w fun e w' => ∃ b : Int, e = .returned (.int .i64 b) ∧ 0 ≤ b ∧ b ≤ 255 ∧ Mm.Left [g] w w' (Mm.tcur 128 A n c g (K + 1)) := by
  obtain ⟨a, s, hb, h0, h1⟩ := h
  have hlen : n ≤ maxLen := Nat.le_trans hc.2.1 hc.2.2.1
  unfold maxLen at hlen
  have KB := Lib.hid hb
  have c0 := hb.cell (i := 0) rfl
  have c1 := hb.cell (i := 1) rfl
  have c2 := hb.cell (i := 2) rfl
  have z0 := hb.frozen 0
  have z1 := hb.frozen 1
  have z2 := hb.frozen 2
  obtain ⟨k, rfl⟩ : ∃ k : Nat, a = k := ⟨a.toNat, by omega⟩
  clear hb
  by_cases hlt : k < n
  · obtain ⟨x, b, off, cs, hx, rfl, hbB, hat, hcell⟩ := hc.get hlt
    obtain ⟨rfl, hx0, hx1⟩ := hat
    have hcc := hcell 0 _ rfl
    rw [Nat.add_zero, show Mm.u8.size = 1 from rfl, Nat.mul_one] at hcc
    have hgb : b ≠ g := by omega
    have e1 : ((k : Nat) : Int) < (n : Nat) := by omega
    have e2 : (0 : Int) ≤ (k : Nat) := by omega
    have e3 : ((k : Nat) : Int).toNat = k := by omega
    clear hcell hx hc
    go_enter Tryz.func134, Tryz.ntmps134
    go_wp2
    go_quiet (fail)
    go_wp2
    go_quiet (fail)
    go_wp2
    go_quiet (fail)
    go_wp2
    go_ret
    exact ⟨x, rfl, hx0, hx1, next_left KB.out (by omega) (by omega)⟩
  · have e1 : ¬ ((k : Nat) : Int) < (n : Nat) := by omega
    have e2 : ¬ ((k : Nat) : Int) + 1 ≤ (n : Nat) := by omega
    clear hc
    go_enter Tryz.func134, Tryz.ntmps134
    go_wp2
    go_quiet (fail)
    go_wp2
    go_quiet (fail)
    go_wp2
    go_ret
    exact ⟨_, rfl, (and255 _).1, (and255 _).2, next_left KB.out (by omega) (by omega)⟩
set_option maxRecDepth 100000 in
theorem pick_c (code : List Int) (A : Option Addr) (n c g K : Nat) (N : Int) (w : World) (B : Nat) (hc : Mm.SlAt Mm.u8 w B code A n c) (hB : B ≤ g) (h : (Mm.tcur 128 A n c g K).holds w) (hK : K < 4611686018427387000) (hN : N ≤ 200) :
    Calls Tryz.prog 88 #[.pointer (some ⟨g, 0, none⟩), .int .i64 N] w fun e w' => ∃ b : Int, e = .returned (.int .i64 b) ∧ 0 ≤ b ∧ b ≤ 199 ∧ (1 ≤ N → b < N) ∧ Mm.Left [g] w w' (Mm.tcur 128 A n c g (K + 1)) := by
  by_cases h1 : N ≤ 1
  · go_enter Tryz.func88, Tryz.ntmps88
    go_wp2
    go_ret
    exact ⟨0, rfl, by omega, by omega, by omega, Mm.Chg.refl _ _, by simp [Mm.tcur], fun b hb => .inl (by simpa [Mm.tcur] using hb), Mm.tcur_more h (by omega)⟩
  · have h2 : ¬ 200 < N := by omega
    have h3 : N ≠ 0 := by omega
    go_enter Tryz.func88, Tryz.ntmps88
    go_wp2_with (go_at_call 134; refine (next_c code A n c g K _ B hc hB h (by omega)).mono ?_; rintro e w1 ⟨b, rfl, hb0, hb1, hL⟩)
    go_ret
    have hm0 : 0 ≤ b % N := Int.emod_nonneg _ h3
    have hm1 : b % N < N := Int.emod_lt_of_pos _ (by omega)
    exact ⟨_, rfl, hm0, by omega, fun _ => hm1, hL⟩
theorem one_c (code : List Int) (A : Option Addr) (n c g K : Nat) (N : Int) (w : World) (B : Nat) (hc : Mm.SlAt Mm.u8 w B code A n c) (hB : B ≤ g) (h : (Mm.tcur 128 A n c g K).holds w) (hK : K < 4611686018427387000) (hN : N ≤ 200) :
    Calls Tryz.prog 135 #[.pointer (some ⟨g, 0, none⟩), .int .i64 N] w fun e w' => ∃ b : Bool, e = .returned (.bool b) ∧ Mm.Left [g] w w' (Mm.tcur 128 A n c g (K + 1)) := by
  go_enter Tryz.func135, Tryz.ntmps135
  go_wp2_with (go_at_call 88; refine (pick_c code A n c g K N _ B hc hB h hK hN).mono ?_; rintro e w1 ⟨b, rfl, hb0, hb1, -, hL⟩)
  go_ret
  exact ⟨_, rfl, hL⟩
set_option maxRecDepth 100000 in
theorem among_c (code : List Int) (A : Option Addr) (n c g K : Nat) (xs : List Int) (bl m : Nat) (w : World) (B : Nat) (hc : Mm.SlAt Mm.u8 w B code A n c) (hB : B ≤ g) (h : (Mm.tcur 128 A n c g K).holds w) (hK : K < 4611686018427387000)
    (hbl : Mm.Blk w bl 3 (xs.map fun x => .int .i64 x)) (hne : bl ≠ g) (hm : xs.length = m) (h1 : 1 ≤ m) (h2 : m ≤ 200) :
    Calls Tryz.prog 101 #[.pointer (some ⟨g, 0, none⟩), .slice (some ⟨bl, 0, none⟩) m m] w fun e w' => ∃ v : Int, e = .returned (.int .i64 v) ∧ v ∈ xs ∧ Mm.Left [g] w w' (Mm.tcur 128 A n c g (K + 1)) := by
  go_enter Tryz.func101, Tryz.ntmps101
  have arm : ∀ (w1 : World) (b : Int), 0 ≤ b → (1 ≤ (m : Int) → b < m) → Mm.Left [g] w w1 (Mm.tcur 128 A n c g (K + 1)) → ∃ v : Int, v ∈ xs ∧ w1.cell? ⟨bl, b.toNat, none⟩ = some (.int .i64 v) ∧ 0 ≤ b ∧ b < m := fun w1 b hb0 hb1 hL => by
    have hlt := hb1 (by omega)
    have hk : b.toNat < xs.length := by omega
    have hx := List.getElem?_eq_getElem hk
    refine ⟨xs[b.toNat], List.getElem_mem hk, ?_, hb0, hlt⟩
    exact (hbl.keep (w' := w1) (hL.1.block bl hbl.lt (by simpa using hne))).cell (by rw [List.getElem?_map, hx]; rfl)
  go_wp2_with (go_at_call 88; refine (pick_c code A n c g K m _ B hc hB h hK (by omega)).mono ?_; rintro e w1 ⟨b, rfl, hb0, -, hb2, hL⟩; obtain ⟨v, hv, hcell, hb3, hb4⟩ := arm w1 b hb0 hb2 hL)
  go_ret
  exact ⟨v, rfl, hv, hL⟩
set_option maxRecDepth 100000 in
theorem of_c (code : List Int) (A : Option Addr) (n c g K : Nat) (xs : List ByteArray) (bl m : Nat) (w : World) (B : Nat) (hc : Mm.SlAt Mm.u8 w B code A n c) (hB : B ≤ g) (h : (Mm.tcur 128 A n c g K).holds w) (hK : K < 4611686018427387000)
    (hbl : Mm.Blk w bl 9 (xs.map fun x => .string x)) (hne : bl ≠ g) (hm : xs.length = m) (h1 : 1 ≤ m) (h2 : m ≤ 200) :
    Calls Tryz.prog 100 #[.pointer (some ⟨g, 0, none⟩), .slice (some ⟨bl, 0, none⟩) m m] w fun e w' => ∃ v : ByteArray, e = .returned (.string v) ∧ v ∈ xs ∧ Mm.Left [g] w w' (Mm.tcur 128 A n c g (K + 1)) := by
  go_enter Tryz.func100, Tryz.ntmps100
  have arm : ∀ (w1 : World) (b : Int), 0 ≤ b → (1 ≤ (m : Int) → b < m) → Mm.Left [g] w w1 (Mm.tcur 128 A n c g (K + 1)) → ∃ v : ByteArray, v ∈ xs ∧ w1.cell? ⟨bl, b.toNat, none⟩ = some (.string v) ∧ 0 ≤ b ∧ b < m := fun w1 b hb0 hb1 hL => by
    have hlt := hb1 (by omega)
    have hk : b.toNat < xs.length := by omega
    have hx := List.getElem?_eq_getElem hk
    refine ⟨xs[b.toNat], List.getElem_mem hk, ?_, hb0, hlt⟩
    exact (hbl.keep (w' := w1) (hL.1.block bl hbl.lt (by simpa using hne))).cell (by rw [List.getElem?_map, hx]; rfl)
  go_wp2_with (go_at_call 88; refine (pick_c code A n c g K m _ B hc hB h hK (by omega)).mono ?_; rintro e w1 ⟨b, rfl, hb0, -, hb2, hL⟩; obtain ⟨v, hv, hcell, hb3, hb4⟩ := arm w1 b hb0 hb2 hL)
  go_ret
  exact ⟨v, rfl, hv, hL⟩
end Go.Proofs.YtbhmdnjammnlnaaGreatDoor

namespace Go.Proofs.YtbhmdnjammnlnaaGreatDoor
open Go.RowKit
attribute [local go_sem] World.cell?_alloc_some
theorem i64_or_nat (a b : Nat) (ha : a < 9223372036854775808) (hb : b < 9223372036854775808) : bits .or .i64 (a : Int) (b : Int) = ((a ||| b : Nat) : Int) := by
  have hx : a ||| b < 2 ^ 63 := Nat.or_lt_two_pow (by omega) (by omega)
  have h1 : (BitVec.ofInt 64 (a : Int)).toNat = a := by
    rw [BitVec.ofInt_natCast, BitVec.toNat_ofNat]; exact Nat.mod_eq_of_lt (by omega)
  have h2 : (BitVec.ofInt 64 (b : Int)).toNat = b := by
    rw [BitVec.ofInt_natCast, BitVec.toNat_ofNat]; exact Nat.mod_eq_of_lt (by omega)
  show IntKind.i64.wrap ((BitVec.ofInt 64 (a : Int) ||| BitVec.ofInt 64 (b : Int)).toNat : Int) = _
  rw [BitVec.toNat_or, h1, h2]
  exact IntWalk.i64_in _ (by omega)
def Pl.vb (n : Nat) : UInt8 := UInt8.ofNat (2 * n)
def Pl.vtxt (n : Nat) : ByteArray := ⟨#[Pl.vb n]⟩
def Pl.rtext (s : ByteArray) : ByteArray := Pl.vtxt s.size ++ s
def Pl.unz (z : Int) : Int := if z.tmod 2 = 1 then (-(z + 1)).tdiv 2 else z.tdiv 2
theorem Pl.unz_nat (z : Nat) : Pl.unz z = if z % 2 = 1 then -(((z + 1) / 2 : Nat) : Int) else ((z / 2 : Nat) : Int) := by
  have h1 : ((z : Int).tmod 2) = ((z % 2 : Nat) : Int) := rfl
  have h2 : ((z : Int).tdiv 2) = ((z / 2 : Nat) : Int) := rfl
  have h3 : (-((z : Int) + 1)).tdiv 2 = -(((z + 1) / 2 : Nat) : Int) := by
    rw [Int.neg_tdiv]; rfl
  unfold Pl.unz
  rw [h1, h2, h3]
  by_cases h : z % 2 = 1
  · rw [if_pos (by omega), if_pos h]
  · rw [if_neg (by omega), if_neg h]
theorem zigZag_c (n : Nat) (hn : n ≤ 20) (w : World) : Calls Tryz.prog 194 #[.int .i64 n] w fun e w' => e = .returned (.int .i64 (2 * n : Nat)) ∧ w' = w := by
  have h0 : ¬ ((n : Int) < 0) := by omega
  go_enter Tryz.func194, Tryz.ntmps194
  go_wp2
  go_ret
  exact ⟨by go_num, rfl⟩
theorem unZigZag_c (z : Nat) (hz : z < 9223372036854775807) (w : World) : Calls Tryz.prog 193 #[.int .i64 z] w fun e w' => e = .returned (.int .i64 (Pl.unz z)) ∧ w' = w := by
  have hm : (z : Int).tmod 2 = ((z % 2 : Nat) : Int) := rfl
  have h2 : ((z : Int).tdiv 2) = ((z / 2 : Nat) : Int) := rfl
  have h3 : (-((z : Int) + 1)).tdiv 2 = -(((z + 1) / 2 : Nat) : Int) := by
    rw [Int.neg_tdiv]; rfl
  by_cases h : z % 2 = 1
  · have HF : Hid (Pl.unz z = -(((z + 1) / 2 : Nat) : Int)) := by show _ = _; rw [Pl.unz_nat, if_pos h]
    go_enter Tryz.func193, Tryz.ntmps193
    go_wp2
    go_ret
    rw [HF.out]
    exact ⟨by go_num, rfl⟩
  · have HF : Hid (Pl.unz z = ((z / 2 : Nat) : Int)) := by show _ = _; rw [Pl.unz_nat, if_neg h]
    have h0 : z % 2 = 0 := by omega
    go_enter Tryz.func193, Tryz.ntmps193
    go_wp2
    go_ret
    rw [HF.out]
    exact ⟨by go_num, rfl⟩
theorem Tryz.infoU8 : (Tryz.prog.info? 5).map (fun i => (i.zero, i.size, i.bytes)) = some (some (.int .u8 0), 1, 1) := by kernel_rfl
theorem acc_str {w wr : World} {l : List UInt8} {g n cap : Nat} (h : Mm.Acc Mm.u8 5 w (l.map (fun b => (b.toNat : Int))) (.slice (some ⟨g, 0, none⟩) n cap) wr) :
    (convert 68 9 (.slice (some ⟨g, 0, none⟩) n cap)).run Tryz.prog wr = .ok (.string ⟨l.toArray⟩) wr := by
  have ha := h.at_
  obtain rfl : l.length = n := by have := ha.1; simpa using this
  refine run_convert_bytes_back wr 68 9 5 ⟨g, 0, none⟩ cap l Tryz.underlying68 Tryz.underlying5 Tryz.underlying9 fun j hj => ?_
  obtain ⟨b, off, cs, hA, hb, hat, hc⟩ := ha.2.2.2.2 j (l[j].toNat : Int) (by simp [hj])
  injection hA with hA
  injection hA with h1 h2
  subst h1; subst h2
  obtain ⟨rfl, _⟩ := hat
  have := hc 0 _ rfl
  rw [Mm.add0]
  have h3 : 0 + j * Mm.u8.size + 0 = j := by show 0 + j * 1 + 0 = j; omega
  rw [h3] at this
  exact this
theorem vb_int (n : Nat) (hn : n ≤ 20) : ((Pl.vb n).toNat : Int) = ((2 * n : Nat) : Int) := by
  unfold Pl.vb
  rw [UInt8.toNat_ofNat']
  omega
set_option maxRecDepth 100000 in
theorem putVarint_c (n : Nat) (hn : n ≤ 20) (w : World) : Calls Tryz.prog 177 #[.int .i64 n] w fun e w' => e = .returned (.string (Pl.vtxt n)) ∧ Below w.heap.size w w' := by
  obtain ⟨i0, hi, hz0, hz1, hz2⟩ := info_parts Tryz.infoU8
  have h0 : ¬ ((127 : Int) < ((2 * n : Nat) : Int)) := by omega
  go_enter Tryz.func177, Tryz.ntmps177
  go_wp2_with (go_at_call 194; (with_reducible refine (zigZag_c n hn _).mono ?_); rintro e w1 ⟨rfl, rfl⟩)
  go_loopg [3, 4] 0 (fun g out z wr => out = .slice none 0 0 ∧ z = .int .i64 ((2 * n : Nat) : Int) ∧ wr = w1)
  case atStart => exact ⟨rfl, rfl, rfl⟩
  case round =>
    obtain ⟨rfl, rfl, rfl⟩ := hrel
    have hc : IntKind.u8.wrap ((2 * n : Nat) : Int) = ((2 * n : Nat) : Int) := by rw [IntKind.wrap_u8']; omega
    have hb : Below wr.heap.size wr (wr.alloc (.cells #[.int .u8 ((2 * n : Nat) : Int)] 5)) := below_new (Below.refl _ _) _
    obtain ⟨l0, ho, hnext⟩ := (Mm.Acc.nil (E := Mm.u8) (t := 5) (Below.refl wr.heap.size wr)).push hb (x := ((2 * n : Nat) : Int)) (cx := [.int .u8 ((2 * n : Nat) : Int)]) (fx := []) ⟨rfl, by unfold Mm.U8; omega, rfl⟩ List.nodup_nil (fun b hb => by cases hb)
    have HNX := Lib.hid hnext
    clear hnext
    have HV := Lib.hid (vb_int n hn)
    go_wp2_with (((at_builtin; refine wpList_append_lies _ (by rfl) _ _ _ (by rfl) 0 5 i0 _ 1 1 Tryz.underlying68 hi hz0 hz1 hz2 rfl (by omega) _ 0 l0 (by rfl) ho ⟨wr.heap.size, 0, none⟩ 1 1 [.int .u8 (((2 * n : Nat) : Int))] (by rfl) (by rfl) (World.news_of_block (B := wr.heap.size) (cs := #[.int .u8 (((2 * n : Nat) : Int))]) (t := 5) (fr := (0, 0)) (Mm.heap_new _ rfl _)) (by simp [Value.oneCell']) (by omega) (by unfold maxLen; omega) (by omega) (Nat.zero_le _) _ rfl ?_; intro gg cap w2 hown1 hgrow hat hlt9; have HAC := Lib.hid (HNX.out gg cap w2 hown1 hgrow hat); clear hown1 hgrow hat hlt9)); have hcv : (convert 68 9 (.slice (some ⟨gg, 0, none⟩) 1 cap)).run Tryz.prog w2 = .ok (.string (Pl.vtxt n)) w2 := acc_str (l := [Pl.vb n]) (by show Mm.Acc _ _ _ [((Pl.vb n).toNat : Int)] _ _; rw [HV.out]; exact HAC.out))
    go_ret
    exact ⟨rfl, HAC.out.bel⟩
def Pl.zig (n : Int) : Nat := if n < 0 then (-2 * n - 1).toNat else (2 * n).toNat
theorem l1Zig_c (n : Int) (h0 : -10000000000000 ≤ n) (h1 : n ≤ 10000000000000) (w : World) : Calls Tryz.prog 176 #[.int .i64 n] w fun e w' => e = .returned (.int .i64 (Pl.zig n : Nat)) ∧ w' = w := by
  by_cases h : n < 0
  · have HF : Hid (((Pl.zig n : Nat) : Int) = -2 * n - 1) := by show _ = _; unfold Pl.zig; rw [if_pos h]; omega
    go_enter Tryz.func176, Tryz.ntmps176
    go_wp2
    go_ret
    rw [HF.out]
    exact ⟨by go_num, rfl⟩
  · have HF : Hid (((Pl.zig n : Nat) : Int) = 2 * n) := by show _ = _; unfold Pl.zig; rw [if_neg h]; omega
    go_enter Tryz.func176, Tryz.ntmps176
    go_wp2
    go_ret
    rw [HF.out]
    exact ⟨by go_num, rfl⟩
theorem l1Zag_c (z : Nat) (hz : z < 9223372036854775807) (w : World) : Calls Tryz.prog 202 #[.int .i64 z] w fun e w' => e = .returned (.int .i64 (Pl.unz z)) ∧ w' = w := by
  have hm : (z : Int).tmod 2 = ((z % 2 : Nat) : Int) := rfl
  have h2 : ((z : Int).tdiv 2) = ((z / 2 : Nat) : Int) := rfl
  have h3 : (-((z : Int) + 1)).tdiv 2 = -(((z + 1) / 2 : Nat) : Int) := by
    rw [Int.neg_tdiv]; rfl
  by_cases h : z % 2 = 1
  · have HF : Hid (Pl.unz z = -(((z + 1) / 2 : Nat) : Int)) := by show _ = _; rw [Pl.unz_nat, if_pos h]
    go_enter Tryz.func202, Tryz.ntmps202
    go_wp2
    go_ret
    rw [HF.out]
    exact ⟨by go_num, rfl⟩
  · have HF : Hid (Pl.unz z = ((z / 2 : Nat) : Int)) := by show _ = _; rw [Pl.unz_nat, if_neg h]
    have h0 : z % 2 = 0 := by omega
    go_enter Tryz.func202, Tryz.ntmps202
    go_wp2
    go_ret
    rw [HF.out]
    exact ⟨by go_num, rfl⟩
def Pl.bts (l : List UInt8) : List Int := l.map (fun b => (b.toNat : Int))
def VarAns (n : Int) (w : World) (e : Ending) (w' : World) : Prop := ∃ s : ByteArray, e = .returned (.string s) ∧ s.size ≤ 140000000000000 ∧ (0 ≤ n → n ≤ 20 → s = Pl.vtxt n.toNat) ∧ Below w.heap.size w w'
theorem u8_of (m : Nat) (h : m < 256) : ((UInt8.ofNat m).toNat : Int) = (m : Int) := by
  rw [UInt8.toNat_ofNat']
  omega
set_option maxRecDepth 100000 in
set_option maxHeartbeats 1000000 in
theorem l1Varint_c (n : Int) (h0 : -10000000000000 ≤ n) (h1 : n ≤ 10000000000000) (w : World) : Calls Tryz.prog 148 #[.int .i64 n] w (VarAns n w) := by
  obtain ⟨i0, hi, hz0, hz1, hz2⟩ := info_parts Tryz.infoU8
  have hz : Pl.zig n ≤ 20000000000000 := by unfold Pl.zig; split <;> omega
  have hz3 : 0 ≤ n → Pl.zig n = 2 * n.toNat := fun h => by unfold Pl.zig; rw [if_neg (by omega)]; omega
  have CZ := l1Zig_c n h0 h1
  obtain ⟨zn, hzn⟩ : ∃ zn, Pl.zig n = zn := ⟨_, rfl⟩
  rw [hzn] at hz hz3 CZ
  have HZ3 := Lib.hid hz3
  clear hzn hz3
  go_enter Tryz.func148, Tryz.ntmps148
  go_wp2_with (go_at_call 176; (with_reducible refine (CZ _).mono ?_); rintro e w1 ⟨rfl, rfl⟩)
  obtain ⟨W0, rfl⟩ : ∃ W0 : World, W0 = w1 := ⟨_, rfl⟩
  go_loopg [3, 4] zn (fun g z out wr => ∃ (l : List UInt8) (m : Nat) (A : Option Addr) (k c : Nat), m ≤ g ∧ z = .int .i64 (m : Nat) ∧ out = .slice A k c ∧ l.length = k ∧ k + m ≤ 20000000000000 ∧ Hid ((0 ≤ n → n ≤ 20 → l = [] ∧ m = 2 * n.toNat) ∧ Mm.Acc Mm.u8 5 W0 (Pl.bts l) out wr))
  case atStart => exact ⟨[], zn, none, 0, 0, Nat.le_refl _, rfl, rfl, rfl, by omega, fun a b => ⟨rfl, HZ3.out a⟩, Mm.Acc.nil (Below.refl _ _)⟩
  case round =>
    obtain ⟨l, m, A, k, c, hgm, rfl, rfl, hlk, hkm, HS⟩ := hrel
    have hm : (m : Int).tmod 128 = ((m % 128 : Nat) : Int) := rfl
    have hd : (m : Int).tdiv 128 = ((m / 128 : Nat) : Int) := rfl
    obtain ⟨A', k', c', hsl, hk', hkc, hcm, -⟩ := HS.out.2.form
    injection hsl with e1 e2 e3
    subst e1; subst e2; subst e3
    have HLK := Lib.hid hlk
    clear hlk hk'
    unfold maxLen at hcm
    by_cases hlt : 128 ≤ m
    · have hc : IntKind.u8.wrap ((128 : Int) + ((m % 128 : Nat) : Int)) = ((128 + m % 128 : Nat) : Int) := by rw [IntKind.wrap_u8']; omega
      have hb : Below wr.heap.size wr (wr.alloc (.cells #[.int .u8 ((128 + m % 128 : Nat) : Int)] 5)) := below_new (Below.refl _ _) _
      obtain ⟨l0, ho, hnext⟩ := HS.out.2.push hb (x := ((128 + m % 128 : Nat) : Int)) (cx := [.int .u8 ((128 + m % 128 : Nat) : Int)]) (fx := []) ⟨rfl, by unfold Mm.U8; omega, rfl⟩ List.nodup_nil (fun b hb => by cases hb)
      have hlen : (Pl.bts l).length = k := by unfold Pl.bts; rw [List.length_map]; exact HLK.out
      rw [hlen] at hnext ho
      have HNX := Lib.hid hnext
      clear hnext hlen
      go_wp2_with (((at_builtin; refine wpList_append_lies _ (by rfl) _ _ _ (by rfl) 0 5 i0 _ 1 1 Tryz.underlying68 hi hz0 hz1 hz2 rfl (by omega) _ k l0 (by rfl) ho ⟨wr.heap.size, 0, none⟩ 1 1 [.int .u8 (((128 + m % 128 : Nat) : Int))] (by rfl) (by rfl) (World.news_of_block (B := wr.heap.size) (cs := #[.int .u8 (((128 + m % 128 : Nat) : Int))]) (t := 5) (fr := (0, 0)) (Mm.heap_new _ rfl _)) (by simp [Value.oneCell']) (by omega) (by unfold maxLen; omega) (by omega) (Nat.zero_le _) _ rfl ?_; intro gg cap w2 hown1 hgrow hat hlt9; have HAC := Lib.hid (HNX.out gg cap w2 hown1 hgrow hat); clear hown1 hgrow hat hlt9)))
      go_roundg (m / 128)
      case measure => omega
      case rel => exact ⟨l ++ [UInt8.ofNat (128 + m % 128)], m / 128, _, k + 1, cap, Nat.le_refl _, by go_num, rfl, by rw [List.length_append, HLK.out]; rfl, by omega, fun a b => absurd (HS.out.1 a b).2 (by omega), by
        have e : Pl.bts (l ++ [UInt8.ofNat (128 + m % 128)]) = Pl.bts l ++ [((128 + m % 128 : Nat) : Int)] := by unfold Pl.bts; rw [List.map_append, List.map_singleton, u8_of _ (by omega)]
        rw [e]; exact HAC.out⟩
    · have hlt' : ¬ ((128 : Int) ≤ (m : Nat)) := by omega
      have hc : IntKind.u8.wrap ((m : Nat) : Int) = ((m : Nat) : Int) := by rw [IntKind.wrap_u8']; omega
      have hb : Below wr.heap.size wr (wr.alloc (.cells #[.int .u8 ((m : Nat) : Int)] 5)) := below_new (Below.refl _ _) _
      obtain ⟨l0, ho, hnext⟩ := HS.out.2.push hb (x := ((m : Nat) : Int)) (cx := [.int .u8 ((m : Nat) : Int)]) (fx := []) ⟨rfl, by unfold Mm.U8; omega, rfl⟩ List.nodup_nil (fun b hb => by cases hb)
      have hlen : (Pl.bts l).length = k := by unfold Pl.bts; rw [List.length_map]; exact HLK.out
      rw [hlen] at hnext ho
      have HNX := Lib.hid hnext
      clear hnext hlen
      have HV : Hid (Pl.bts (l ++ [UInt8.ofNat m]) = Pl.bts l ++ [((m : Nat) : Int)]) := by show _ = _; unfold Pl.bts; rw [List.map_append, List.map_singleton, u8_of _ (by omega)]
      have HE : Hid (0 ≤ n → n ≤ 20 → (⟨(l ++ [UInt8.ofNat m]).toArray⟩ : ByteArray) = Pl.vtxt n.toNat) := by
        show 0 ≤ n → n ≤ 20 → _
        intro a b
        obtain ⟨rfl, rfl⟩ := HS.out.1 a b
        rfl
      have HSZ : Hid ((⟨(l ++ [UInt8.ofNat m]).toArray⟩ : ByteArray).size ≤ 140000000000000) := by
        show (l ++ [UInt8.ofNat m]).toArray.size ≤ _
        rw [List.size_toArray, List.length_append, HLK.out, List.length_singleton]
        omega
      obtain ⟨st, hst⟩ : ∃ st : ByteArray, ⟨(l ++ [UInt8.ofNat m]).toArray⟩ = st := ⟨_, rfl⟩
      rw [hst] at HE HSZ
      have HST := Lib.hid hst
      clear hst
      go_wp2_with (((at_builtin; refine wpList_append_lies _ (by rfl) _ _ _ (by rfl) 0 5 i0 _ 1 1 Tryz.underlying68 hi hz0 hz1 hz2 rfl (by omega) _ k l0 (by rfl) ho ⟨wr.heap.size, 0, none⟩ 1 1 [.int .u8 (((m : Nat) : Int))] (by rfl) (by rfl) (World.news_of_block (B := wr.heap.size) (cs := #[.int .u8 (((m : Nat) : Int))]) (t := 5) (fr := (0, 0)) (Mm.heap_new _ rfl _)) (by simp [Value.oneCell']) (by omega) (by unfold maxLen; omega) (by omega) (Nat.zero_le _) _ rfl ?_; intro gg cap w2 hown1 hgrow hat hlt9; have HAC := Lib.hid (HNX.out gg cap w2 hown1 hgrow hat); clear hown1 hgrow hat hlt9)); have hcv : (convert 68 9 (.slice (some ⟨gg, 0, none⟩) (k + 1) cap)).run Tryz.prog w2 = .ok (.string st) w2 := by rw [← HST.out]; exact acc_str (l := l ++ [UInt8.ofNat m]) (by show Mm.Acc _ _ _ (Pl.bts (l ++ [UInt8.ofNat m])) _ _; rw [HV.out]; exact HAC.out))
      go_ret
      exact ⟨st, rfl, HSZ.out, HE.out, HAC.out.bel⟩
end Go.Proofs.YtbhmdnjammnlnaaGreatDoor

namespace Go.Proofs.YtbhmdnjammnlnaaGreatDoor
open Go.RowKit
attribute [local go_sem] World.cell?_alloc_some
theorem Pl.recLen_byte {s : ByteArray} {k : Nat} (hk : k < s.size) : Pl.recLen s k = if s[k].toNat ≤ 40 ∧ s[k].toNat % 2 = 0 ∧ k + 1 + s[k].toNat / 2 ≤ s.size then some (s[k].toNat / 2) else none := by
  have h : s.data.toList[k]? = some s[k] := by
    rw [List.getElem?_eq_getElem (by simpa using hk)]
    rfl
  unfold Pl.recLen
  rw [h]
def Pl.GetA (s : ByteArray) (k : Nat) (n nx : Int) (ok : Bool) : Prop :=
  Mm.I64 n ∧ 0 ≤ nx ∧ nx ≤ s.size ∧ ((∃ m : Nat, Pl.recLen s k = some m ∧ ok = true ∧ n = m ∧ nx = k + 1) ∨ (Pl.recLen s k = none ∧ (ok = false ∨ n < 0 ∨ 20 < n ∨ (s.size : Int) - nx < n)))
theorem Pl.GetA.no {s : ByteArray} {k : Nat} (h : Pl.recLen s k = none) : Pl.GetA s k 0 0 false := ⟨by unfold Mm.I64; omega, by omega, by omega, .inr ⟨h, .inl rfl⟩⟩
theorem Pl.GetA.one {s : ByteArray} {k : Nat} (hk : k < s.size) (hb : s[k].toNat < 128) : Pl.GetA s k (Pl.unz (s[k].toNat : Nat)) (k + 1) true := by
  have h0 := Pl.recLen_byte hk
  generalize s[k].toNat = b at hb h0
  refine ⟨?_, by omega, by omega, ?_⟩
  · rw [Pl.unz_nat]; unfold Mm.I64; split <;> omega
  · split at h0
    · rename_i h
      refine .inl ⟨b / 2, h0, rfl, ?_, rfl⟩
      rw [Pl.unz_nat, if_neg (by omega)]
    · rename_i h
      refine .inr ⟨h0, .inr ?_⟩
      rw [Pl.unz_nat]
      split <;> omega
theorem Pl.GetA.many {s : ByteArray} {k : Nat} (h : Pl.recLen s k = none) {z j : Nat} (hz : 128 ≤ z) (hz' : z < 9223372036854775807) (hj : j ≤ s.size) : Pl.GetA s k (Pl.unz z) j true := by
  refine ⟨?_, by omega, by omega, .inr ⟨h, .inr ?_⟩⟩
  · rw [Pl.unz_nat]; unfold Mm.I64; split <;> omega
  · rw [Pl.unz_nat]; split <;> omega
theorem Pl.recLen_big {s : ByteArray} {k : Nat} (hk : k < s.size) (hb : 128 ≤ s[k].toNat) : Pl.recLen s k = none := by
  rw [Pl.recLen_byte hk, if_neg (by omega)]
def GetAns (s : ByteArray) (k : Nat) (w : World) (e : Ending) (w' : World) : Prop := ∃ n nx ok, e = .returned (.tuple #[.int .i64 n, .int .i64 nx, .bool ok]) ∧ Pl.GetA s k n nx ok ∧ w' = w
theorem or_join {z a j : Nat} (hz : z < 128 ^ j) (ha : a < 128) : z ||| a * 2 ^ (7 * j) = z + a * 2 ^ (7 * j) ∧ z + a * 2 ^ (7 * j) < 128 ^ (j + 1) := by
  have e : (128 : Nat) ^ j = 2 ^ (7 * j) := by rw [Nat.pow_mul]
  rw [e] at hz
  constructor
  · rw [Nat.or_comm, nat_join (7 * j) (a * 2 ^ (7 * j)) z (Nat.mul_mod_left _ _) hz, Nat.add_comm]
  · rw [Nat.pow_succ, e]
    have : a * 2 ^ (7 * j) ≤ 127 * 2 ^ (7 * j) := Nat.mul_le_mul_right _ (by omega)
    omega
set_option maxRecDepth 100000 in
set_option maxHeartbeats 1000000 in
theorem getVarint_c (s : ByteArray) (k : Nat) (hs : s.size ≤ 140000000000000) (hk : k ≤ s.size) (w : World) : Calls Tryz.prog 175 #[.string s, .int .i64 k] w (GetAns s k w) := by
  have hk0 : ¬ ((k : Int) < 0) := by omega
  go_enter Tryz.func175, Tryz.ntmps175
  go_wp2
  go_loopg [7, 8] 6 (fun g z i wr => ∃ (j m : Nat), j ≤ 6 ∧ 6 - j ≤ g ∧ k + j ≤ s.size ∧ z = .int .i64 (m : Nat) ∧ i = .int .i64 ((k + j : Nat) : Int) ∧ wr = w ∧ Hid (m < 128 ^ j ∧ (0 < j → Pl.recLen s k = none)))
  case atStart => exact ⟨0, 0, by omega, by omega, by omega, rfl, rfl, rfl, by decide, fun h => absurd h (by omega)⟩
  case round =>
    obtain ⟨j, m, hj, hgj, hkj, rfl, rfl, rfl, HS⟩ := hrel
    by_cases hend : k + j < s.size
    · obtain ⟨b, hb⟩ : ∃ b, s[k + j].toNat = b := ⟨_, rfl⟩
      have hb8 : b < 256 := by have := s[k + j].toNat_lt; omega
      by_cases hj6 : j < 6
      · have hand : bits .and .u8 ((b : Nat) : Int) 127 = ((b % 128 : Nat) : Int) := (u8_and_nat b 127 hb8 (by decide)).trans (by rw [nat_mask7])
        have ha : b % 128 < 128 := Nat.mod_lt _ (by decide)
        obtain ⟨a, hab⟩ : ∃ a, b % 128 = a := ⟨_, rfl⟩
        rw [hab] at hand ha
        have HAB := Lib.hid hab
        clear hab
        have hp : a * 2 ^ (7 * j) < 4398046511104 := by
          have : a * 2 ^ (7 * j) < 128 * 2 ^ (7 * j) := Nat.mul_lt_mul_of_pos_right ha (Nat.two_pow_pos _)
          have h2 : (128 : Nat) * 2 ^ (7 * j) = 2 ^ (7 * j + 7) := by rw [Nat.pow_add, Nat.mul_comm]
          have h3 : 2 ^ (7 * j + 7) ≤ 2 ^ 42 := Nat.pow_le_pow_right (by decide) (by omega)
          omega
        have hor := or_join HS.out.1 ha
        have hm42 : m + a * 2 ^ (7 * j) < 4398046511104 := Nat.lt_of_lt_of_le hor.2 (by
          have : (128 : Nat) ^ (j + 1) ≤ 128 ^ 6 := Nat.pow_le_pow_right (by decide) (by omega)
          exact Nat.le_trans this (by decide))
        obtain ⟨x, hx⟩ : ∃ x, a * 2 ^ (7 * j) = x := ⟨_, rfl⟩
        rw [hx] at hp hor hm42
        have hsh : (a : Int) * 2 ^ (7 * j) = (x : Int) := by
          rw [← hx]; push_cast; rfl
        have hbit : bits .or .i64 (m : Int) (x : Int) = ((m + x : Nat) : Int) := by rw [i64_or_nat m x (by omega) (by omega), hor.1]
        have hwx : RowKit.wrap64 (x : Int) = (x : Int) := IntWalk.wrap64_in _ (by omega)
        have HOR := Lib.hid hor.2
        have HX := Lib.hid hx
        clear hor hx
        obtain ⟨y, hy⟩ : ∃ y, m + x = y := ⟨_, rfl⟩
        rw [hy] at hbit hm42
        have HY := Lib.hid hy
        clear hy
        by_cases h128 : 128 ≤ b
        · go_wp2
          go_roundg (6 - (j + 1))
          case measure => omega
          case rel => exact ⟨j + 1, y, by omega, Nat.le_refl _, by omega, rfl, by go_num, rfl, by rw [← HY.out]; exact HOR.out, fun _ => by
            by_cases hj0 : 0 < j
            · exact HS.out.2 hj0
            · obtain rfl : j = 0 := by omega
              exact Pl.recLen_big (k := k) (by omega) (by show 128 ≤ s[k + 0].toNat; rw [hb]; exact h128)⟩
        · have h127 : ¬ ((127 : Int) < (b : Nat)) := by omega
          by_cases hj0 : j = 0
          · have HR : Hid (Pl.GetA s k (Pl.unz (y : Nat)) ((k : Int) + (j : Nat) + 1) true) := by
              show Pl.GetA s k (Pl.unz (y : Nat)) ((k : Int) + (j : Nat) + 1) true
              subst hj0
              have e1 : y = b := by
                have h1 := HS.out.1
                have h2 := HX.out
                have h3 := HAB.out
                have h4 := HY.out
                simp at h1 h2
                omega
              have := Pl.GetA.one (k := k) (s := s) (by omega) (by show s[k + 0].toNat < 128; rw [hb]; omega)
              rw [e1, ← hb]
              have e2 : (k : Int) + ((0 : Nat) : Int) + 1 = (k : Int) + 1 := by omega
              rw [e2]
              exact this
            have hyb : y < 128 := by
              have h1 := HS.out.1
              have h2 := HX.out
              have h4 := HY.out
              subst hj0
              simp at h1 h2
              omega
            have hkk : ¬ ((k : Int) < (k : Int) + (j : Nat)) := by omega
            have hkj : ¬ (0 < j) := by omega
            have hbig : ¬ (2000000000000 < y) := by omega
            have HJ0 := Lib.hid hj0
            clear hj0
            go_wp2_with (go_at_call 193; (with_reducible refine (unZigZag_c y (by omega) _).mono ?_); rintro e w1 ⟨rfl, rfl⟩)
            go_ret3
            exact ⟨_, _, _, rfl, HR.out, rfl⟩
          · have HN : Hid (Pl.recLen s k = none) := HS.out.2 (by omega)
            have hkk : (k : Int) < (k : Int) + (j : Nat) := by omega
            by_cases hb0 : b = 0
            · have hb0' : (((b : Nat) : Int) == 0) = true := by rw [hb0]; rfl
              go_wp2
              go_ret3
              exact ⟨_, _, _, rfl, Pl.GetA.no HN.out, rfl⟩
            · have hb0' : (((b : Nat) : Int) == 0) = false := by simpa using hb0
              by_cases hbig : 2000000000000 < y
              · go_wp2
                go_ret3
                exact ⟨_, _, _, rfl, Pl.GetA.no HN.out, rfl⟩
              · have HR : Hid (Pl.GetA s k (Pl.unz (y : Nat)) ((k + j + 1 : Nat) : Int) true) := by
                  refine Pl.GetA.many HN.out ?_ (by omega) (by omega)
                  have h1 := HX.out
                  have h2 := HAB.out
                  have h3 := HY.out
                  have h4 : 2 ^ 7 ≤ 2 ^ (7 * j) := Nat.pow_le_pow_right (by decide) (by omega)
                  have h5 : 1 * 2 ^ (7 * j) ≤ a * 2 ^ (7 * j) := Nat.mul_le_mul_right _ (by omega)
                  rw [h1] at h5
                  have h6 : 128 ≤ 2 ^ (7 * j) := h4
                  clear h4 h1
                  generalize 2 ^ (7 * j) = P at h5 h6
                  clear hsh hp
                  omega
                rw [show ((k + j + 1 : Nat) : Int) = (k : Int) + (j : Nat) + 1 by omega] at HR
                go_wp2_with (go_at_call 193; (with_reducible refine (unZigZag_c y (by omega) _).mono ?_); rintro e w1 ⟨rfl, rfl⟩)
                go_ret3
                exact ⟨_, _, _, rfl, HR.out, rfl⟩
      · obtain rfl : j = 6 := by omega
        have HN : Hid (Pl.recLen s k = none) := HS.out.2 (by omega)
        go_wp2
        go_ret3
        exact ⟨_, _, _, rfl, Pl.GetA.no HN.out, rfl⟩
    · have HN : Hid (Pl.recLen s k = none) := by
        by_cases hj0 : 0 < j
        · exact HS.out.2 hj0
        · exact Pl.recLen_end (by omega)
      go_wp2
      go_ret3
      exact ⟨_, _, _, rfl, Pl.GetA.no HN.out, rfl⟩
end Go.Proofs.YtbhmdnjammnlnaaGreatDoor

namespace Go.Proofs.YtbhmdnjammnlnaaGreatDoor
open Go.RowKit
attribute [local go_sem] und_cell World.cell?_alloc_some
def Pl.GetB (s : ByteArray) (k : Nat) (n nx : Int) : Prop :=
  Mm.I64 n ∧ -1 ≤ nx ∧ nx ≤ s.size ∧ ((∃ m : Nat, Pl.recLen s k = some m ∧ n = m ∧ nx = k + 1) ∨ (Pl.recLen s k = none ∧ (nx < 0 ∨ n < 0 ∨ 20 < n ∨ (s.size : Int) - nx < n)))
def GetBns (s : ByteArray) (k : Nat) (w : World) (e : Ending) (w' : World) : Prop := ∃ n nx, e = .returned (.tuple #[.int .i64 n, .int .i64 nx]) ∧ Pl.GetB s k n nx ∧ Below w.heap.size w w'
theorem Pl.GetB.no {s : ByteArray} {k : Nat} (h : Pl.recLen s k = none) : Pl.GetB s k 0 (-1) := ⟨by unfold Mm.I64; omega, by omega, by omega, .inr ⟨h, .inl (by omega)⟩⟩
theorem Pl.GetB.one {s : ByteArray} {k : Nat} (hk : k < s.size) (hb : s[k].toNat < 128) : Pl.GetB s k (Pl.unz (s[k].toNat : Nat)) (k + 1) := by
  obtain ⟨h1, h2, h3, h4⟩ := Pl.GetA.one hk hb
  refine ⟨h1, by omega, h3, ?_⟩
  rcases h4 with ⟨m, a, b, c, d⟩ | ⟨a, b⟩
  · exact .inl ⟨m, a, c, d⟩
  · refine .inr ⟨a, ?_⟩
    rcases b with b | b
    · cases b
    · exact .inr b
theorem Pl.GetB.many {s : ByteArray} {k : Nat} (h : Pl.recLen s k = none) {n j : Int} (hn : Mm.I64 n) (hz : n < 0 ∨ 20 < n) (hj : j ≤ s.size) (hj0 : 0 ≤ j) : Pl.GetB s k n j :=
  ⟨hn, by omega, hj, .inr ⟨h, by omega⟩⟩
namespace Mm
def gStr (p : ByteArray → Prop) : Rel := fun _ _ v ds => ∃ s, v = .string s ∧ ds = [] ∧ Hid (p s)
theorem gStr_in {p : ByteArray → Prop} {s : ByteArray} (h : p s) {vals : List Value} {tk : List Thing} : ∃ v ds, gStr p vals tk v ds := ⟨_, _, s, rfl, rfl, h⟩
theorem gvq_str {F : List Nat} {w X W : World} {others : List Thing} {vals : List Value} {tk : List Thing} {d : Nat} {df : List Deferred} {a' : Act} {p : ByteArray → Prop} {s : ByteArray} (h : SepF F w X others) (hb : Below X.heap.size X W) (hp : p s) (hv : a'.tmps.getD d undef = .string s) (hdf : a'.defers = df) : GvQ F w (gStr p vals tk) d df others .normal a' W :=
  ⟨rfl, hdf, [], ⟨s, hv, rfl, hp⟩, h.step hb⟩
end Mm
def VarP (n : Int) (s : ByteArray) : Prop := s.size ≤ 140000000000000 ∧ (0 ≤ n → n ≤ 20 → s = Pl.vtxt n.toNat)
theorem varP_in (n : Int) : ∃ s, VarP n s := by
  by_cases h : 0 ≤ n ∧ n ≤ 20
  · exact ⟨Pl.vtxt n.toNat, by show (1 : Nat) ≤ _; omega, fun _ _ => rfl⟩
  · exact ⟨⟨#[]⟩, by show (0 : Nat) ≤ _; omega, fun a b => absurd ⟨a, b⟩ h⟩
theorem unz_bd (z : Nat) (h : z ≤ 2000000000000) : -10000000000000 ≤ Pl.unz z ∧ Pl.unz z ≤ 10000000000000 := by
  rw [Pl.unz_nat]; split <;> omega
theorem ba_ext {a b : ByteArray} (h : a.data.toList = b.data.toList) : a = b := by cases a; cases b; congr 1; exact Array.toList_inj.1 h
theorem ext1 {s : ByteArray} {k : Nat} (hk : k < s.size) : s.extract k (k + 1) = ⟨#[s[k]]⟩ := by
  apply ba_ext
  rw [Lib.extract_data]
  have h : k < s.data.toList.length := by simpa using hk
  have h1 : s.data.toList.drop k = s.data.toList[k] :: s.data.toList.drop (k + 1) := List.drop_eq_getElem_cons h
  simp [List.take_drop, h1]
  rfl
theorem Pl.get_fin {s : ByteArray} {k j : Nat} {n : Int} {st : ByteArray} (hend : k + j < s.size) (hb : s[k + j].toNat < 128) (hN : 0 < j → Pl.recLen s k = none) (h0 : (hj : j = 0) → Pl.unz ((s[k]'(by omega)).toNat : Nat) = n)
    (hn : -10000000000000 ≤ n ∧ n ≤ 10000000000000) (hst : VarP n st) :
    (st.toList = (s.extract k (k + j + 1)).toList → Pl.GetB s k n ((k + j + 1 : Nat) : Int)) ∧ (st.toList ≠ (s.extract k (k + j + 1)).toList → Pl.GetB s k 0 (-1)) := by
  have hI : Mm.I64 n := by unfold Mm.I64; omega
  by_cases hj : j = 0
  · subst hj
    have hk : k < s.size := by omega
    have h1 := Pl.GetB.one hk (show s[k].toNat < 128 from hb)
    rw [h0 rfl] at h1
    have e : ((k + 0 + 1 : Nat) : Int) = (k : Int) + 1 := by omega
    refine ⟨fun _ => by rw [e]; exact h1, fun hne => ?_⟩
    refine Pl.GetB.no ?_
    obtain ⟨_, _, _, h4⟩ := h1
    rcases h4 with ⟨m, a, b, c⟩ | ⟨a, _⟩
    · exfalso
      apply hne
      have hm := recLen_le a
      have := hst.2 (by omega) (by omega)
      rw [this]
      show _ = (s.extract k (k + 1)).toList
      rw [ext1 hk]
      congr 1
      unfold Pl.vtxt Pl.vb
      have hr := Pl.recLen_byte hk
      rw [a] at hr
      split at hr
      · injection hr with hr
        congr 1
        congr 1
        congr 1
        apply UInt8.toNat_inj.1
        rw [UInt8.toNat_ofNat', b]
        omega
      · cases hr
    · exact a
  · have hN' := hN (by omega)
    refine ⟨fun he => ?_, fun _ => Pl.GetB.no hN'⟩
    refine Pl.GetB.many hN' hI ?_ (by omega) (by omega)
    by_cases hs : 0 ≤ n ∧ n ≤ 20
    · exfalso
      have h1 := hst.2 hs.1 hs.2
      rw [h1] at he
      have h2 := congrArg List.length he
      rw [Lib.toList_data, Lib.toList_data, Array.length_toList, Array.length_toList] at h2
      have h3 : (s.extract k (k + j + 1)).size = j + 1 := by rw [ByteArray.size_extract]; omega
      have h4 : (Pl.vtxt n.toNat).data.size = 1 := rfl
      rw [h4] at h2
      have h5 : (s.extract k (k + j + 1)).data.size = j + 1 := h3
      omega
    · omega
set_option maxRecDepth 100000 in
set_option maxHeartbeats 2000000 in
theorem l1Get_c (s : ByteArray) (k : Nat) (hs : s.size ≤ 140000000000000) (hk : k ≤ s.size) (w : World) : Calls Tryz.prog 185 #[.string s, .int .i64 k] w (GetBns s k w) := by
  go_enter Tryz.func185, Tryz.ntmps185
  go_wp2
  go_loopg [6, 7, 8] 7 (fun g z by_ i wr => ∃ (j m p : Nat), j ≤ 7 ∧ 7 - j ≤ g ∧ k + j ≤ s.size ∧ z = .int .i64 (m : Nat) ∧ by_ = .int .i64 (p : Nat) ∧ i = .int .i64 ((k + j : Nat) : Int) ∧ wr = w ∧ Hid (m < 128 ^ j ∧ p = 128 ^ j ∧ (0 < j → Pl.recLen s k = none)))
  case atStart => exact ⟨0, 0, 1, by omega, by omega, by omega, rfl, rfl, rfl, rfl, by decide, by decide, fun h => absurd h (by omega)⟩
  case round =>
    obtain ⟨j, m, p, hj, hgj, hkj, rfl, rfl, rfl, rfl, HS⟩ := hrel
    by_cases hend : k + j < s.size
    · obtain ⟨b, hb⟩ : ∃ b, s[k + j].toNat = b := ⟨_, rfl⟩
      have hb8 : b < 256 := by have := s[k + j].toNat_lt; omega
      by_cases hj6 : j < 7
      · have hand : bits .and .u8 ((b : Nat) : Int) 127 = ((b % 128 : Nat) : Int) := (u8_and_nat b 127 hb8 (by decide)).trans (by rw [nat_mask7])
        have ha : b % 128 < 128 := Nat.mod_lt _ (by decide)
        obtain ⟨a, hab⟩ : ∃ a, b % 128 = a := ⟨_, rfl⟩
        rw [hab] at hand ha
        have HAB := Lib.hid hab
        clear hab
        have hp128 : p ≤ 4398046511104 := by
          rw [HS.out.2.1]
          exact Nat.le_trans (Nat.pow_le_pow_right (n := 128) (by decide) (show j ≤ 6 by omega)) (by decide)
        have HPJ : Hid (p * 128 = 128 ^ (j + 1)) := by show _ = _; rw [HS.out.2.1, Nat.pow_succ]
        have hx1 : a * p ≤ 127 * p := Nat.mul_le_mul_right _ (by omega)
        obtain ⟨x, hx⟩ : ∃ x, a * p = x := ⟨_, rfl⟩
        rw [hx] at hx1
        have hsh : (a : Int) * (p : Int) = (x : Int) := by rw [← hx]; push_cast; rfl
        have hmp : m < p := by rw [HS.out.2.1]; exact HS.out.1
        have HX := Lib.hid hx
        clear hx
        have hy0 : m + x < p * 128 := by omega
        obtain ⟨y, hy⟩ : ∃ y, m + x = y := ⟨_, rfl⟩
        rw [hy] at hy0
        have hyi : (m : Int) + (x : Int) = (y : Int) := by omega
        have HY := Lib.hid hy
        clear hy
        by_cases h128 : 128 ≤ b
        · go_wp2
          go_roundg (7 - (j + 1))
          case measure => omega
          case rel => exact ⟨j + 1, y, p * 128, by omega, Nat.le_refl _, by omega, rfl, by go_num, by go_num, rfl, by rw [← HPJ.out]; exact hy0, HPJ.out, fun _ => by
            by_cases hj0 : 0 < j
            · exact HS.out.2.2 hj0
            · obtain rfl : j = 0 := by omega
              exact Pl.recLen_big (k := k) (by omega) (by show 128 ≤ s[k + 0].toNat; rw [hb]; exact h128)⟩
        · have h127 : (b : Int) < 128 := by omega
          have hy49 : y < 562949953421312 := by
            have h2 := HPJ.out
            have : (128 : Nat) ^ (j + 1) ≤ 128 ^ 7 := Nat.pow_le_pow_right (by decide) (by omega)
            have h3 : (128 : Nat) ^ 7 = 562949953421312 := by decide
            omega
          by_cases hbig : 2000000000000 < y
          · have hbd : decide ((2000000000000 : Int) < (y : Nat)) = true := decide_eq_true (by omega)
            go_wp2_with (go_at_call 202; (with_reducible refine (l1Zag_c y (by omega) _).mono ?_); rintro e w1 ⟨rfl, rfl⟩)
            have HR : Hid (Pl.GetB s k 0 (-1)) := by
              refine Pl.GetB.no ?_
              by_cases hj0 : 0 < j
              · exact HS.out.2.2 hj0
              · exfalso
                obtain rfl : j = 0 := by omega
                have h1 := HS.out.1
                have h2 := HS.out.2.1
                have h3 := HX.out
                have h4 := HY.out
                have h5 := HAB.out
                simp only [Nat.pow_zero] at h1 h2
                subst h2
                omega
            refine wp_region_und (by kernel_rfl) (by kernel_rfl) ?_
            repeat (go_big_quiet_step ((first | fail)))
            refine wpQuiet_nil ?_
            intro X hX
            go_wp2
            go_ret2
            exact ⟨_, _, rfl, HR.out, hX⟩
          · have hbd : decide ((2000000000000 : Int) < (y : Nat)) = false := decide_eq_false (by omega)
            have hun := unz_bd y (by omega)
            obtain ⟨n, hn⟩ : ∃ n, Pl.unz y = n := ⟨_, rfl⟩
            have CZ := l1Zag_c y (by omega)
            rw [hn] at hun CZ
            have HN := Lib.hid hn
            clear hn
            go_wp2_with (go_at_call 202; (with_reducible refine (CZ _).mono ?_); rintro e w1 ⟨rfl, rfl⟩)
            refine Mm.wp_region_give_all (fun i => match i with | 4 => some (Mm.gStr (VarP n)) | _ => none) (fun _ => []) (fun _ => []) (F := []) (D := fun w' => ∃ z : Und w1, w' = und w1 z) (fun X us h => Mm.sep_und h) (by kernel_rfl) (by kernel_rfl) (by kernel_rfl) (Mm.SepF.startDrew _) ?_
            repeat (refine Mm.give_det (by rfl) (by rfl) (by rfl) (fun K hK => ?_); go_big_quiet_op; refine hK _ ?_; clear hK K)
            obtain ⟨s0, hs0⟩ := varP_in n
            refine Mm.give_op0 44 (by rfl) rfl (by rfl) (by rfl) (by rfl) (by rfl) (Mm.gStr_in hs0) (fun others X hX => ?_) ?_
            · go_wp2_with (go_at_call 148; (with_reducible refine (l1Varint_c n hun.1 hun.2 _).mono ?_); rintro e w5 ⟨st, rfl, h1, h2, h3⟩)
              exact Mm.gvq_str hX h3 ⟨h1, h2⟩ rfl rfl
            clear hs0 s0
            rintro v ds ⟨st, rfl, rfl, HST⟩
            simp only [Act.put, List.setIfInBounds_toArray, List.set_cons_succ, List.set_cons_zero]
            repeat (refine Mm.give_det (by rfl) (by rfl) (by rfl) (fun K hK => ?_); go_big_quiet_op; refine hK _ ?_; clear hK K)
            refine Mm.give_nil ?_
            rintro X hX
            have HXX := Lib.hid hX.bel0
            clear hX
            have HEX := Lib.hid (Pl.get_fin hend (by rw [hb]; omega) HS.out.2.2 (fun hj0 => by
              subst hj0
              have h1 := HS.out.1
              have h2 := HS.out.2.1
              have h3 := HX.out
              have h4 := HY.out
              have h5 := HAB.out
              simp only [Nat.pow_zero] at h1 h2
              subst h2
              show Pl.unz (s[k].toNat : Nat) = n
              rw [← HN.out, ← h4, show s[k].toNat = b from hb]
              congr 2
              omega) hun HST.out)
            go_wp2
            · rename_i hne
              have HR := HEX.out.2 (by simpa using hne)
              go_ret2
              exact ⟨_, _, rfl, HR, HXX.out⟩
            · rename_i hne
              have HR := Lib.hid (HEX.out.1 (by simpa using hne))
              rw [show ((k + j + 1 : Nat) : Int) = (k : Int) + (j : Nat) + 1 by omega] at HR
              go_ret2
              exact ⟨_, _, rfl, HR.out, HXX.out⟩
      · obtain rfl : j = 7 := by omega
        have HN : Hid (Pl.recLen s k = none) := HS.out.2.2 (by omega)
        go_wp2
        go_ret2
        exact ⟨_, _, rfl, Pl.GetB.no HN.out, Below.refl _ _⟩
    · have HN : Hid (Pl.recLen s k = none) := by
        by_cases hj0 : 0 < j
        · exact HS.out.2.2 hj0
        · exact Pl.recLen_end (by omega)
      go_wp2
      go_ret2
      exact ⟨_, _, rfl, Pl.GetB.no HN.out, Below.refl _ _⟩
end Go.Proofs.YtbhmdnjammnlnaaGreatDoor

namespace Go.Proofs.YtbhmdnjammnlnaaGreatDoor
open Go.RowKit
attribute [local go_sem] und_cell World.cell?_alloc_some
theorem Tryz.infoSt4 : (Tryz.prog.info? 9).map (fun i => (i.zero, i.size, i.bytes)) = some (some (.string ⟨#[]⟩), 1, 16) := by kernel_rfl
theorem within_isJ {n a b : Int} {r : Bool} (h : Pl.isIn n a b = r) (w : World) : Calls Tryz.prog 55 #[.int .i64 n, .int .i64 a, .int .i64 b] w fun e w' => e = .returned (.bool r) ∧ w = w' := h ▸ within_c n a b w
theorem l1In_isJ {n a b : Int} {r : Bool} (h : Pl.isIn n a b = r) (w : World) : Calls Tryz.prog 68 #[.int .i64 n, .int .i64 a, .int .i64 b] w fun e w' => e = .returned (.bool r) ∧ w = w' := h ▸ l1In_c n a b w
theorem Pl.rtext_size (s : ByteArray) : (Pl.rtext s).size = s.size + 1 := by
  unfold Pl.rtext
  rw [ByteArray.size_append]
  show 1 + s.size = _
  omega
theorem recordText_c (s : ByteArray) (hs : s.size ≤ 20) (w : World) : Calls Tryz.prog 152 #[.string s] w fun e w' => e = .returned (.string (Pl.rtext s)) ∧ Below w.heap.size w w' := by
  have hsz : (Pl.vtxt s.size).size + s.size ≤ 100 := by show 1 + s.size ≤ 100; omega
  go_enter Tryz.func152, Tryz.ntmps152
  go_wp2_with (go_at_call 177; (with_reducible refine (putVarint_c s.size hs _).mono ?_); rintro e w1 ⟨rfl, hb⟩)
  go_ret
  exact ⟨rfl, hb⟩
def RecAns (s : ByteArray) (w : World) (e : Ending) (w' : World) : Prop := ∃ A n c, e = .returned (.tuple #[.slice A n c, .int .i64 ((Pl.whole s : Nat) : Int)]) ∧ Mm.Acc Mm.str 9 w (Pl.records s) (.slice A n c) w'
theorem recTxt_snoc (s : ByteArray) (done : List (Nat × Nat)) (k m : Nat) : (done ++ [(k, m)]).map (Pl.recTxt s) = done.map (Pl.recTxt s) ++ [s.extract (k + 1) (k + 1 + m)] := by rw [List.map_append]; rfl
set_option maxRecDepth 100000 in
set_option maxHeartbeats 2000000 in
theorem recordsIn_c (s : ByteArray) (hs : s.size ≤ 1000) (w : World) : Calls Tryz.prog 145 #[.string s] w (RecAns s w) := by
  obtain ⟨i0, hi, hz0, hz1, hz2⟩ := info_parts Tryz.infoSt4
  go_enter Tryz.func145, Tryz.ntmps145
  go_wp2
  go_loopg [4, 5] s.size (fun g o at_ wr => ∃ (k : Nat) (n c : Nat) (A : Option Addr), s.size - k ≤ g ∧ k ≤ s.size ∧ at_ = .int .i64 (k : Nat) ∧ o = .slice A n c ∧ n ≤ k ∧ Hid (∃ done : List (Nat × Nat), Pl.RecW s done k ∧ n = done.length ∧ Mm.Acc Mm.str 9 w (done.map (Pl.recTxt s)) (.slice A n c) wr))
  case atStart => exact ⟨0, 0, 0, none, by omega, by omega, rfl, rfl, by omega, [], Pl.RecW.start s, rfl, Mm.Acc.nil (Below.refl _ _)⟩
  case round =>
    obtain ⟨k, n, c, A, hgk, hk, rfl, rfl, hnk, HS⟩ := hrel
    go_wp2_with fail
    refine (getVarint_c s k (by omega) hk _).mono ?_
    rintro e w1 ⟨x, nx, ok, rfl, hG, rfl⟩
    obtain ⟨W, rfl⟩ : ∃ W : World, W = w1 := ⟨_, rfl⟩
    obtain ⟨hI, hnx0, hnx1, hG⟩ := hG
    unfold Mm.I64 at hI
    rcases hG with ⟨m, hr, rfl, rfl, rfl⟩ | ⟨hr, hbad⟩
    · have hle := Pl.recLen_le hr
      have HR := Lib.hid hr
      clear hr
      have hin : Pl.isIn (m : Int) 0 (min 20 ((s.size : Int) - ((k : Int) + 1))) = true := by unfold Pl.isIn; simp; omega
      have hn' := HS.out
      obtain ⟨done, HW, hnd, hacc⟩ := hn'
      have HWN := Lib.hid (HW.next HR.out)
      have HL := Lib.hid hnd
      obtain ⟨A', n', c', hsl, -, hkc, hcm, -⟩ := hacc.form
      injection hsl with e1 e2 e3
      subst e1; subst e2; subst e3
      have hlen : (done.map (Pl.recTxt s)).length = n := by rw [List.length_map]; exact hnd.symm
      obtain ⟨tx, htx⟩ : ∃ tx, s.extract (k + 1) (k + 1 + m) = tx := ⟨_, rfl⟩
      have htl : tx.size ≤ maxLen := by rw [← htx, ByteArray.size_extract]; unfold maxLen; omega
      have hb : Below W.heap.size W (W.alloc (.cells #[.string tx] 9)) := below_new (Below.refl _ _) _
      obtain ⟨l0, ho, hnext⟩ := hacc.push hb (x := tx) (cx := [.string tx]) (fx := []) ⟨rfl, htl, rfl⟩ List.nodup_nil (fun b hb => by cases hb)
      rw [hlen] at ho hnext
      have HNX := Lib.hid hnext
      have HTX := Lib.hid htx
      clear hnext hlen hacc hnd HW HS
      go_wp2_with (first
        | (go_at_call 55; refine (within_isJ hin _).mono ?_; rintro e w' ⟨rfl, rfl⟩)
        | (at_builtin; refine wpList_append_lies _ (by rfl) _ _ _ (by rfl) 0 9 i0 _ 1 16 Tryz.underlying142 hi hz0 hz1 hz2 rfl (by omega) _ n l0 (by rfl) ho ⟨W.heap.size, 0, none⟩ 1 1 [.string tx] (by rfl) (by rfl) (World.news_of_block (B := W.heap.size) (cs := #[.string tx]) (t := 9) (fr := (0, 0)) (Mm.heap_new _ rfl _)) (by simp [Value.oneCell']) (by omega) (by unfold maxLen; omega) (by omega) (Nat.zero_le _) _ rfl ?_; intro gg cap w2 hown1 hgrow hat hlt9; have HAC := Lib.hid (HNX.out gg cap w2 hown1 hgrow hat); clear hown1 hgrow hat hlt9))
      go_roundg (s.size - (k + 1 + m))
      case measure => omega
      case rel => exact ⟨k + 1 + m, n + 1, cap, _, Nat.le_refl _, by omega, by go_num, rfl, by omega, done ++ [(k, m)], HWN.out, by rw [List.length_append, ← HL.out]; rfl, by rw [recTxt_snoc, HTX.out]; exact HAC.out⟩
    · have HE : Hid (RecAns s w (.returned (.tuple #[.slice A n c, .int .i64 (k : Nat)])) W) := by
        obtain ⟨done, HW, hnd, hacc⟩ := HS.out
        obtain ⟨h1, h2⟩ := HW.stop hr
        refine ⟨A, n, c, by rw [h2], ?_⟩
        show Mm.Acc _ _ _ ((Pl.recs s).map _) _ _
        rw [h1]
        exact hacc
      cases ok with
      | false =>
        go_wp2
        go_ret2
        exact HE.out
      | true =>
        have hin : Pl.isIn x 0 (min 20 ((s.size : Int) - nx)) = false := by
          unfold Pl.isIn
          rcases hbad with h | h | h | h
          · cases h
          · simp; omega
          · simp; omega
          · simp; omega
        go_wp2_with (go_at_call 55; refine (within_isJ hin _).mono ?_; rintro e w' ⟨rfl, rfl⟩)
        go_ret2
        exact HE.out
end Go.Proofs.YtbhmdnjammnlnaaGreatDoor

namespace Go.Proofs.YtbhmdnjammnlnaaGreatDoor
open Go.RowKit
attribute [local go_sem] und_cell World.cell?_alloc_some
theorem Mm.Acc.sep {α : Type} {E : Mm.Rep α} {t : TypeId} {w wr : World} {xs : List α} {v : Value} (h : Mm.Acc E t w xs v wr) : ∃ fp, Mm.SepF [] w wr [Mm.tsl E t xs v fp] := by
  obtain ⟨fp, h1, h2, h3, h4⟩ := h
  exact ⟨fp, (Mm.SepF.start w).add h4 h1 h2 h3⟩
theorem Pl.starts_next {s : ByteArray} {k : Nat} {p : Nat × Nat} (h : (Pl.recs s)[k]? = some p) : (Pl.starts s).take (k + 1) = (Pl.starts s).take k ++ [(p.1 : Int)] := by
  unfold Pl.starts
  rw [← List.map_take, ← List.map_take, Mm.take_succ_some h, List.map_append]
  rfl
theorem Pl.idx_next {s : ByteArray} {k : Nat} {p : Nat × Nat} (h : (Pl.recs s)[k]? = some p) : Pl.idx3 ((Pl.starts s).take (k + 1)) = if k % 3 = 0 then Pl.idx3 ((Pl.starts s).take k) ++ [(p.1 : Int)] else Pl.idx3 ((Pl.starts s).take k) := by
  rw [Pl.starts_next h, Pl.idx3_snoc]
  have hk : ((Pl.starts s).take k).length = k := by
    unfold Pl.starts
    have := (List.getElem?_eq_some_iff.1 h).1
    rw [List.length_take, List.length_map]; omega
  rw [hk]
theorem Pl.recs_bound {s : ByteArray} {p : Nat × Nat} (h : p ∈ Pl.recs s) : p.1 + 1 + p.2 ≤ s.size ∧ p.2 ≤ 20 := Pl.recLen_le (Pl.recs_mem h)
def PieceAns (from_ : Int) (s : ByteArray) (w : World) (e : Ending) (w' : World) : Prop := ∃ A n c fp, e = .returned (.agg #[.int .i64 from_, .string s, .slice A n c]) ∧ n = (Pl.idx3 (Pl.starts s)).length ∧ Mm.SepF [] w w' [Mm.tsl Mm.int 3 (Pl.idx3 (Pl.starts s)) (.slice A n c) fp]
theorem Tryz.infoI5 : (Tryz.prog.info? 3).map (fun i => (i.zero, i.size, i.bytes)) = some (some (.int .i64 0), 1, 8) := by kernel_rfl
set_option maxRecDepth 100000 in
set_option maxHeartbeats 2000000 in
theorem pieceOf_c (from_ : Int) (s : ByteArray) (hs : s.size ≤ 1000) (w : World) : Calls Tryz.prog 153 #[.int .i64 from_, .string s] w (PieceAns from_ s w) := by
  obtain ⟨i0, hi, hz0, hz1, hz2⟩ := info_parts Tryz.infoI5
  have hr0 := Pl.recs_len s
  have KS0 := Lib.hid (((Mm.SepF.start w).alloc' rfl 164 [.int .i64 0, .string ⟨#[]⟩, .slice none 0 0]).alloc' (Mm.sz1 _ _) 164 [.int .i64 from_, .string s, .slice none 0 0])
  go_enter Tryz.func153, Tryz.ntmps153
  go_wp2_with fail
  refine (recordsIn_c s hs _).mono ?_
  rintro e w1 ⟨RA, rn, rc, rfl, hac⟩
  obtain ⟨W, rfl⟩ : ∃ W : World, W = w1 := ⟨_, rfl⟩
  obtain ⟨RA', rn', rc', hsl, hrn, hrc, hrm, -⟩ := hac.form
  injection hsl with e1 e2 e3
  subst e1; subst e2; subst e3
  obtain ⟨rf, hrs⟩ := hac.sep
  have HX := Lib.hid ((KS0.out.join hrs).add (Below.refl _ _) (t := Mm.tsl Mm.int 3 [] (.slice none 0 0) []) Mm.SlOwn.nil List.nodup_nil (fun b hb => by cases hb))
  have HRN : Hid (rn = (Pl.recs s).length) := by show _ = _; rw [hrn]; unfold Pl.records; rw [List.length_map]
  have hrn1 : rn ≤ 1000 := by have := HRN.out; omega
  obtain ⟨gp, hgp⟩ : ∃ gp, w.heap.size + 1 = gp := ⟨_, rfl⟩
  rw [hgp] at HX
  clear KS0 hac hrs hrn
  go_wp2_with fail
  go_loopg [8, 21] rn (fun g at_ i wr => ∃ (k a : Nat) (A : Option Addr) (n c : Nat) (f : List Nat), rn - k ≤ g ∧ k ≤ rn ∧ i = .int .i64 (k : Nat) ∧ at_ = .int .i64 (a : Nat) ∧ a ≤ s.size ∧ Hid (a = Pl.rsum ((Pl.recs s).take k) ∧ n = (Pl.idx3 ((Pl.starts s).take k)).length ∧ n ≤ k ∧ n ≤ c ∧ c ≤ maxLen) ∧ Hid (Mm.SepF [] w wr [Mm.tsl Mm.int 3 (Pl.idx3 ((Pl.starts s).take k)) (.slice A n c) f, Mm.tsl Mm.str 9 (Pl.records s) (.slice RA rn rc) rf, Mm.tblk gp 164 [.int .i64 from_, .string s, .slice A n c], Mm.tblk w.heap.size 164 [.int .i64 0, .string ⟨#[]⟩, .slice none 0 0]]))
  case atStart => exact ⟨0, 0, none, 0, 0, [], by omega, by omega, rfl, rfl, by omega, ⟨rfl, rfl, by omega, by omega, by omega⟩, HX.out⟩
  case round =>
    clear HX
    obtain ⟨k, a, A, n, c, f, hgk, hk, rfl, rfl, has, HA, HS⟩ := hrel
    obtain ⟨W, rfl⟩ : ∃ W : World, W = wr := ⟨_, rfl⟩
    have d0 := HS.out.cell (k := 0) 2 rfl rfl
    have d1 := HS.out.cell (k := 1) 2 rfl rfl
    have d2 := HS.out.cell (k := 2) 2 rfl rfl
    have z0 := HS.out.frz (k := 2) 2 rfl
    by_cases hlt : k < rn
    · have hlt' : (k : Int) < (rn : Nat) := by omega
      obtain ⟨p, hp⟩ : ∃ p, (Pl.recs s)[k]? = some p := ⟨_, List.getElem?_eq_getElem (by have := HRN.out; omega)⟩
      have HP := Lib.hid hp
      have hmem : p ∈ Pl.recs s := List.mem_of_getElem? hp
      have hpb := Pl.recs_bound hmem
      have hpl := Pl.recTxt_len hmem
      have HP1 : Hid (p.1 = a) := by show _ = _; rw [Pl.recs_sum hp, HA.out.1]
      have hsl := ((HS.out.sl 1 rfl).weak (HS.out.sl 1 rfl).olt)
      obtain ⟨x, b, off, cs, hx, hA, hb, hat, hcell⟩ := hsl.get hlt
      have hxe : x = Pl.recTxt s p := by
        have h2 : (Pl.records s)[k]? = some (Pl.recTxt s p) := by unfold Pl.records; rw [List.getElem?_map, hp]; rfl
        rw [hx] at h2
        injection h2
      obtain ⟨tx, htx⟩ : ∃ tx, Pl.recTxt s p = tx := ⟨_, rfl⟩
      rw [htx] at hxe hpl
      subst hxe
      obtain ⟨rfl, -⟩ := hat
      have c0 := hcell 0 _ rfl
      have e0 : off + k * Mm.str.size + 0 = off + k := by show off + k * 1 + 0 = _; omega
      rw [e0] at c0
      subst hA
      have hp1 : p.1 = a := HP1.out
      rw [hp1] at hpb
      clear hcell hsl hp hp1 hx
      have hrs := Pl.rtext_size x
      have htl : (Pl.rtext x).size ≤ 1000 := by omega
      have hmod : ((k : Int)).tmod 3 = ((k % 3 : Nat) : Int) := rfl
      by_cases h3 : k % 3 = 0
      · have HN : Hid (Pl.idx3 ((Pl.starts s).take (k + 1)) = Pl.idx3 ((Pl.starts s).take k) ++ [(a : Int)]) := by show _ = _; rw [Pl.idx_next HP.out, if_pos h3, HP1.out]
        obtain ⟨hA1, hA2, hnk, hnc, hcm⟩ := HA.out
        unfold maxLen at hcm
        obtain ⟨l0, ho, hnext⟩ := HS.out.push0 (W2 := W.alloc (.cells #[.int .i64 (a : Nat)] 3)) 0 rfl (below_new (Below.refl _ _) _) (x := (a : Int)) (cx := [.int .i64 (a : Nat)]) ⟨rfl, by unfold Mm.I64; omega, rfl⟩
        rw [← hA2] at ho hnext
        have HNX := Lib.hid hnext
        have HAS : Hid (a + 1 + p.2 = Pl.rsum ((Pl.recs s).take (k + 1)) ∧ n + 1 = (Pl.idx3 ((Pl.starts s).take (k + 1))).length) := by
          refine ⟨?_, ?_⟩
          · rw [Mm.take_succ_some HP.out, Pl.rsum_snoc, ← HA.out.1]
          · rw [HN.out, List.length_append, ← HA.out.2.1]; rfl
        clear hnext hA1 hA2
        go_wp2_with (first
          | (go_at_call 152; refine (recordText_c x (by omega) _).mono ?_; rintro e w3 ⟨rfl, hb3⟩)
          | (at_builtin; refine wpList_append_lies _ (by rfl) _ _ _ (by rfl) 0 3 i0 _ 1 8 Tryz.underlying133 hi hz0 hz1 hz2 rfl (by omega) _ n l0 (by rfl) ho ⟨W.heap.size, 0, none⟩ 1 1 [.int .i64 (a : Nat)] (by rfl) (by rfl) (World.news_of_block (B := W.heap.size) (cs := #[.int .i64 (a : Nat)]) (t := 3) (fr := (0, 0)) (Mm.heap_new _ rfl _)) (by simp [Value.oneCell']) (by omega) (by unfold maxLen; omega) (by omega) (Nat.zero_le _) _ rfl ?_; intro gg cap w2 hown1 hgrow hat hlt9; (obtain ⟨fp', hs4⟩ := HNX.out gg cap w2 hown1 hgrow hat); (have HS4 := Lib.hid hs4); (have z0' := HS4.out.frz (k := 2) 2 rfl); (have d2' := HS4.out.cell (k := 2) 2 rfl rfl); (have hcap := (HS4.out.sl 0 rfl).form); clear hs4 hown1 hgrow hat))
        go_roundg (rn - (k + 1))
        case measure => omega
        case rel =>
          obtain ⟨A4, n4, c4, hs4, -, hnc4, hcm4, -⟩ := hcap
          injection hs4 with q1 q2 q3
          subst q1; subst q2; subst q3
          exact ⟨k + 1, a + 1 + p.2, _, n + 1, cap, fp', Nat.le_refl _, by omega, by go_num, by go_num, by omega, ⟨HAS.out.1, HAS.out.2, by omega, hnc4, hcm4⟩, by rw [HN.out]; exact (HS4.out.setBlk (k := 2) 2 rfl _).step hb3⟩
      · have HN : Hid (Pl.idx3 ((Pl.starts s).take (k + 1)) = Pl.idx3 ((Pl.starts s).take k)) := by show _ = _; rw [Pl.idx_next HP.out, if_neg h3]
        have HAS : Hid (a + 1 + p.2 = Pl.rsum ((Pl.recs s).take (k + 1))) := by
          show _ = _
          rw [Mm.take_succ_some HP.out, Pl.rsum_snoc, ← HA.out.1]
        go_wp2_with (go_at_call 152; refine (recordText_c x (by omega) _).mono ?_; rintro e w3 ⟨rfl, hb3⟩)
        go_roundg (rn - (k + 1))
        case measure => omega
        case rel => exact ⟨k + 1, a + 1 + p.2, A, n, c, f, Nat.le_refl _, by omega, by go_num, by go_num, by omega, ⟨HAS.out, by rw [HN.out]; exact HA.out.2.1, by have := HA.out.2.2.1; omega, HA.out.2.2.2.1, HA.out.2.2.2.2⟩, by rw [HN.out]; exact HS.out.step hb3⟩
    · obtain rfl : k = rn := by omega
      have r0 := HS.out.cell (k := 0) 3 rfl rfl
      have r1 := HS.out.cell (k := 1) 3 rfl rfl
      have r2 := HS.out.cell (k := 2) 3 rfl rfl
      have y0 := HS.out.frz (k := 0) 3 rfl
      have y1 := HS.out.frz (k := 1) 3 rfl
      have y2 := HS.out.frz (k := 2) 3 rfl
      have hfull : (Pl.starts s).take k = Pl.starts s := List.take_of_length_le (by unfold Pl.starts; rw [List.length_map]; have := HRN.out; omega)
      rw [hfull] at HS HA
      have HS6 := Lib.hid ((((HS.out.setBlk (k := 0) 3 rfl (.int .i64 from_)).setBlk (k := 1) 3 rfl (.string s)).setBlk (k := 2) 3 rfl (.slice A n c)).sel [0] (by decide) rfl)
      clear hfull
      go_wp2
      exact bodyPost_ret (v := .agg #[.int .i64 from_, .string s, .slice A n c]) (by simp [results, Tryz.results153, go_sem, r0, r1, r2]) rfl ⟨A, n, c, f, rfl, HA.out.2.1, HS6.out⟩
end Go.Proofs.YtbhmdnjammnlnaaGreatDoor

namespace Go.Proofs.YtbhmdnjammnlnaaGreatDoor
open Go.RowKit
attribute [local go_sem] und_cell World.cell?_alloc_some
def StAns (s : ByteArray) (w : World) (e : Ending) (w' : World) : Prop := ∃ A n c fp, e = .returned (.tuple #[.slice A n c, .int .i64 ((Pl.whole s : Nat) : Int)]) ∧ n = (Pl.recs s).length ∧ Mm.SepF [] w w' [Mm.tsl Mm.int 3 (Pl.starts s) (.slice A n c) fp]
def Pl.stOf (l : List (Nat × Nat)) : List Int := l.map (fun p => (p.1 : Int))
set_option maxRecDepth 100000 in
set_option maxHeartbeats 2000000 in
theorem l6Starts_c (s : ByteArray) (hs : s.size ≤ 2000000) (w : World) : Calls Tryz.prog 162 #[.string s] w (StAns s w) := by
  obtain ⟨i0, hi, hz0, hz1, hz2⟩ := info_parts Tryz.infoI5
  go_enter Tryz.func162, Tryz.ntmps162
  go_wp2
  go_loopg [4, 5] s.size (fun g o at_ wr => ∃ (k : Nat) (n c : Nat) (A : Option Addr), s.size - k ≤ g ∧ k ≤ s.size ∧ at_ = .int .i64 (k : Nat) ∧ o = .slice A n c ∧ n ≤ k ∧ Hid (∃ (done : List (Nat × Nat)) (f : List Nat), Pl.RecW s done k ∧ n = done.length ∧ n ≤ c ∧ c ≤ maxLen ∧ Mm.SepF [] w wr [Mm.tsl Mm.int 3 (Pl.stOf done) (.slice A n c) f]))
  case atStart => exact ⟨0, 0, 0, none, by omega, by omega, rfl, rfl, by omega, [], [], Pl.RecW.start s, rfl, by omega, by omega, (Mm.SepF.start w).add (Below.refl _ _) (t := Mm.tsl Mm.int 3 [] (.slice none 0 0) []) Mm.SlOwn.nil List.nodup_nil (fun b hb => by cases hb)⟩
  case round =>
    obtain ⟨k, n, c, A, hgk, hk, rfl, rfl, hnk, HS⟩ := hrel
    have HEND : Hid (Pl.recLen s k = none → StAns s w (.returned (.tuple #[.slice A n c, .int .i64 (k : Nat)])) wr) := by
      intro hr
      obtain ⟨done, f, HW, hnd, -, -, hsep⟩ := HS.out
      obtain ⟨h1, h2⟩ := HW.stop hr
      refine ⟨A, n, c, f, by rw [h2], by rw [h1]; exact hnd, ?_⟩
      show Mm.SepF _ _ _ [Mm.tsl _ _ ((Pl.recs s).map _) _ _]
      rw [h1]
      exact hsep
    by_cases hlt : k < s.size
    · go_wp2_with fail
      refine (l1Get_c s k (by omega) hk _).mono ?_
      rintro e w1 ⟨x, nx, rfl, hG, hbel⟩
      obtain ⟨W, rfl⟩ : ∃ W : World, W = w1 := ⟨_, rfl⟩
      obtain ⟨hI, hnx0, hnx1, hG⟩ := hG
      unfold Mm.I64 at hI
      rcases hG with ⟨m, hr, rfl, rfl⟩ | ⟨hr, hbad⟩
      · have hle := Pl.recLen_le hr
        have HR := Lib.hid hr
        clear hr HEND
        have hin : Pl.isIn (m : Int) 0 20 = true := by unfold Pl.isIn; simp; omega
        have hng : ¬ ((k : Int) + 1 < 0) := by omega
        have hngt : ¬ ((s.size : Int) - ((k : Int) + 1) < (m : Int)) := by omega
        obtain ⟨done, f, HW, hnd, hnc, hcm, hsep⟩ := HS.out
        have HWN := Lib.hid (HW.next HR.out)
        have HL := Lib.hid hnd
        have hsep1 := hsep.step hbel
        have hlen : (Pl.stOf done).length = n := by unfold Pl.stOf; rw [List.length_map]; exact hnd.symm
        obtain ⟨l0, ho, hnext⟩ := hsep1.push0 (W2 := W.alloc (.cells #[.int .i64 (k : Nat)] 3)) 0 rfl (below_new (Below.refl _ _) _) (x := (k : Int)) (cx := [.int .i64 (k : Nat)]) ⟨rfl, by unfold Mm.I64; omega, rfl⟩
        rw [hlen] at ho hnext
        have HNX := Lib.hid hnext
        unfold maxLen at hcm
        clear hnext hlen hsep hsep1 hnd HW HS
        go_wp2_with (first
          | (go_at_call 68; refine (l1In_isJ hin _).mono ?_; rintro e w' ⟨rfl, rfl⟩)
          | (at_builtin; refine wpList_append_lies _ (by rfl) _ _ _ (by rfl) 0 3 i0 _ 1 8 Tryz.underlying133 hi hz0 hz1 hz2 rfl (by omega) _ n l0 (by rfl) ho ⟨W.heap.size, 0, none⟩ 1 1 [.int .i64 (k : Nat)] (by rfl) (by rfl) (World.news_of_block (B := W.heap.size) (cs := #[.int .i64 (k : Nat)]) (t := 3) (fr := (0, 0)) (Mm.heap_new _ rfl _)) (by simp [Value.oneCell']) (by omega) (by unfold maxLen; omega) (by omega) (Nat.zero_le _) _ rfl ?_; intro gg cap w2 hown1 hgrow hat hlt9; (obtain ⟨fp', hs4⟩ := HNX.out gg cap w2 hown1 hgrow hat); (have HS4 := Lib.hid hs4); (have hcap := (HS4.out.sl 0 rfl).form); clear hs4 hown1 hgrow hat hlt9))
        go_roundg (s.size - (k + 1 + m))
        case measure => omega
        case rel =>
          obtain ⟨A4, n4, c4, hs4, -, hnc4, hcm4, -⟩ := hcap
          injection hs4 with q1 q2 q3
          subst q1; subst q2; subst q3
          exact ⟨k + 1 + m, n + 1, cap, _, Nat.le_refl _, by omega, by go_num, rfl, by omega, done ++ [(k, m)], fp', HWN.out, by rw [List.length_append, ← HL.out]; rfl, hnc4, hcm4, by
            have e : Pl.stOf (done ++ [(k, m)]) = Pl.stOf done ++ [(k : Int)] := by unfold Pl.stOf; rw [List.map_append]; rfl
            rw [e]; exact HS4.out⟩
      · have HE : Hid (StAns s w (.returned (.tuple #[.slice A n c, .int .i64 (k : Nat)])) W) := by
          obtain ⟨A1, n1, c1, f1, e1, e2, hs1⟩ := HEND.out hr
          exact ⟨A1, n1, c1, f1, e1, e2, hs1.step hbel⟩
        by_cases h1 : nx < 0
        · go_wp2
          go_ret2
          exact HE.out
        · by_cases h2 : 0 ≤ x ∧ x ≤ 20
          · have hin : Pl.isIn x 0 20 = true := by unfold Pl.isIn; simp; omega
            have h3 : (s.size : Int) - nx < x := by omega
            go_wp2_with (go_at_call 68; refine (l1In_isJ hin _).mono ?_; rintro e w' ⟨rfl, rfl⟩)
            go_ret2
            exact HE.out
          · have hin : Pl.isIn x 0 20 = false := by unfold Pl.isIn; simp; omega
            clear h2
            go_wp2_with (go_at_call 68; refine (l1In_isJ hin _).mono ?_; rintro e w' ⟨rfl, rfl⟩)
            go_ret2
            exact HE.out
    · have HE := Lib.hid (HEND.out (Pl.recLen_end (by omega)))
      go_wp2
      go_ret2
      exact HE.out
def IxAns (l : List Int) (w : World) (e : Ending) (w' : World) : Prop := ∃ A n c fp, e = .returned (.slice A n c) ∧ n = (Pl.idx3 l).length ∧ Mm.SepF [] w w' [Mm.tsl Mm.int 3 (Pl.idx3 l) (.slice A n c) fp]
set_option maxRecDepth 100000 in
set_option maxHeartbeats 2000000 in
theorem l6Index_c (l : List Int) (A : Option Addr) (n c : Nat) (w : World) (B : Nat) (hr : Mm.SlAt Mm.int w B l A n c) (hB : B ≤ w.heap.size) (hn : n ≤ 2000000) : Calls Tryz.prog 164 #[.slice A n c] w (IxAns l w) := by
  obtain ⟨i0, hi, hz0, hz1, hz2⟩ := info_parts Tryz.infoI5
  have HR := Lib.hid hr
  clear hr
  go_enter Tryz.func164, Tryz.ntmps164
  go_wp2
  go_loopg [3, 8] n (fun g o i wr => ∃ (k m cc : Nat) (A1 : Option Addr) (f : List Nat), n - k ≤ g ∧ k ≤ n ∧ i = .int .i64 (k : Nat) ∧ o = .slice A1 m cc ∧ m ≤ k ∧ m ≤ cc ∧ cc ≤ maxLen ∧ Hid (m = (Pl.idx3 (l.take k)).length ∧ Mm.SepF [] w wr [Mm.tsl Mm.int 3 (Pl.idx3 (l.take k)) (.slice A1 m cc) f]))
  case atStart => exact ⟨0, 0, 0, none, [], by omega, by omega, rfl, rfl, by omega, by omega, by omega, rfl, (Mm.SepF.start w).add (Below.refl _ _) (t := Mm.tsl Mm.int 3 [] (.slice none 0 0) []) Mm.SlOwn.nil List.nodup_nil (fun b hb => by cases hb)⟩
  case round =>
    obtain ⟨k, m, cc, A1, f, hgk, hk, rfl, rfl, hmk, hmc, hcm, HS⟩ := hrel
    obtain ⟨W, rfl⟩ : ∃ W : World, W = wr := ⟨_, rfl⟩
    unfold maxLen at hcm
    by_cases hlt : k < n
    · have hlt' : (k : Int) < (n : Nat) := by omega
      have hsl := HR.out.keep (w' := W) fun b hb => HS.out.2.bel0.block b (by omega)
      obtain ⟨x, b, off, cs, hx, hA, hb, hat, hcell⟩ := hsl.get hlt
      obtain ⟨rfl, hxi⟩ := hat
      have c0 := hcell 0 _ rfl
      have e0 : off + k * Mm.int.size + 0 = off + k := by show off + k * 1 + 0 = _; omega
      rw [e0] at c0
      subst hA
      have hlk : (l.take k).length = k := by rw [List.length_take]; have := HR.out.1; omega
      have hmod : ((k : Int)).tmod 3 = ((k % 3 : Nat) : Int) := rfl
      have HN : Hid (Pl.idx3 (l.take (k + 1)) = if k % 3 = 0 then Pl.idx3 (l.take k) ++ [x] else Pl.idx3 (l.take k)) := by show _ = _; rw [Mm.take_succ_some hx, Pl.idx3_snoc, hlk]
      clear hcell hsl hx hlk
      by_cases h3 : k % 3 = 0
      · rw [if_pos h3] at HN
        obtain ⟨hm1, hsep⟩ := HS.out
        obtain ⟨l0, ho, hnext⟩ := hsep.push0 (W2 := W.alloc (.cells #[.int .i64 x] 3)) 0 rfl (below_new (Below.refl _ _) _) (x := x) (cx := [.int .i64 x]) ⟨rfl, hxi, rfl⟩
        rw [← hm1] at ho hnext
        have HNX := Lib.hid hnext
        have HM := Lib.hid hm1
        have HXI := Lib.hid hxi
        clear hnext hsep hm1 hxi
        go_wp2_with (at_builtin; refine wpList_append_lies _ (by rfl) _ _ _ (by rfl) 0 3 i0 _ 1 8 Tryz.underlying133 hi hz0 hz1 hz2 rfl (by omega) _ m l0 (by rfl) ho ⟨W.heap.size, 0, none⟩ 1 1 [.int .i64 x] (by rfl) (by rfl) (World.news_of_block (B := W.heap.size) (cs := #[.int .i64 x]) (t := 3) (fr := (0, 0)) (Mm.heap_new _ rfl _)) (by simp [Value.oneCell']) (by omega) (by unfold maxLen; omega) (by omega) (Nat.zero_le _) _ rfl ?_; intro gg cap w2 hown1 hgrow hat hlt9; (obtain ⟨fp', hs4⟩ := HNX.out gg cap w2 hown1 hgrow hat); (have HS4 := Lib.hid hs4); (have hcap := (HS4.out.sl 0 rfl).form); clear hs4 hown1 hgrow hat hlt9)
        go_roundg (n - (k + 1))
        case measure => omega
        case rel =>
          obtain ⟨A4, n4, c4, hs4, -, hnc4, hcm4, -⟩ := hcap
          injection hs4 with q1 q2 q3
          subst q1; subst q2; subst q3
          exact ⟨k + 1, m + 1, cap, _, fp', Nat.le_refl _, by omega, by go_num, rfl, by omega, hnc4, hcm4, by rw [HN.out, List.length_append, ← HM.out]; rfl, by rw [HN.out]; exact HS4.out⟩
      · rw [if_neg h3] at HN
        go_wp2
        go_roundg (n - (k + 1))
        case measure => omega
        case rel => exact ⟨k + 1, m, cc, A1, f, Nat.le_refl _, by omega, by go_num, rfl, by omega, hmc, hcm, by rw [HN.out]; exact HS.out⟩
    · obtain rfl : k = n := by omega
      have hlt' : ¬ ((k : Int) < (k : Nat)) := by omega
      have hfull : l.take k = l := List.take_of_length_le (by have := HR.out.1; omega)
      rw [hfull] at HS
      clear hfull
      go_wp2
      go_ret
      exact ⟨A1, m, cc, f, rfl, HS.out.1, HS.out.2⟩
set_option maxRecDepth 100000 in
set_option maxHeartbeats 2000000 in
theorem l6Piece_c (from_ : Int) (s : ByteArray) (hs : s.size ≤ 1000) (w : World) : Calls Tryz.prog 149 #[.int .i64 from_, .string s] w (PieceAns from_ s w) := by
  have KS0 := Lib.hid ((Mm.SepF.start w).alloc' rfl 164 [.int .i64 0, .string ⟨#[]⟩, .slice none 0 0])
  have hr0 := Pl.recs_len s
  go_enter Tryz.func149, Tryz.ntmps149
  go_wp2_with fail
  refine (l6Starts_c s (by omega) _).mono ?_
  rintro e w1 ⟨SA, sn, sc, sf, rfl, hsn, hss⟩
  obtain ⟨W, rfl⟩ : ∃ W : World, W = w1 := ⟨_, rfl⟩
  have HX := Lib.hid (KS0.out.join hss)
  have HR := Lib.hid ((hss.sl 0 rfl).weak (hss.sl 0 rfl).olt)
  have hsn' : sn ≤ 2000000 := by omega
  clear hss KS0 hsn hr0
  go_wp2_with fail
  refine (l6Index_c (Pl.starts s) SA sn sc _ _ HR.out (Nat.le_refl _) hsn').mono ?_
  rintro e w1 ⟨A, n, c, f, rfl, hn, hss⟩
  obtain ⟨W1, rfl⟩ : ∃ W : World, W = w1 := ⟨_, rfl⟩
  have HS := Lib.hid (HX.out.join hss)
  have HN := Lib.hid hn
  clear hss HX HR hn
  have r0 := HS.out.cell (k := 0) 2 rfl rfl
  have r1 := HS.out.cell (k := 1) 2 rfl rfl
  have r2 := HS.out.cell (k := 2) 2 rfl rfl
  have y0 := HS.out.frz (k := 0) 2 rfl
  have y1 := HS.out.frz (k := 1) 2 rfl
  have y2 := HS.out.frz (k := 2) 2 rfl
  have HS6 := Lib.hid ((((HS.out.setBlk (k := 0) 2 rfl (.int .i64 from_)).setBlk (k := 1) 2 rfl (.string s)).setBlk (k := 2) 2 rfl (.slice A n c)).sel [0] (by decide) rfl)
  go_wp2
  exact bodyPost_ret (v := .agg #[.int .i64 from_, .string s, .slice A n c]) (by simp [results, Tryz.results149, go_sem, r0, r1, r2]) rfl ⟨A, n, c, f, rfl, HN.out, HS6.out⟩
end Go.Proofs.YtbhmdnjammnlnaaGreatDoor

namespace Go.Proofs.YtbhmdnjammnlnaaGreatDoor
open Go.RowKit
attribute [local go_sem] und_cell World.cell?_alloc_some
set_option maxHeartbeats 1000000 in
theorem equalIntsJ_c (l l' : List Int) (A A' : Option Addr) (n n' c c' : Nat) (w : World) (B : Nat) (hl : Mm.SlAt Mm.int w B l A n c) (hl' : Mm.SlAt Mm.int w B l' A' n' c') (hB : B ≤ w.heap.size) :
    Calls Tryz.prog 174 #[.slice A n c, .slice A' n' c'] w fun e w' => e = .returned (.bool (decide (l = l'))) ∧ Below w.heap.size w w' := by
  have hn : n ≤ maxLen := Nat.le_trans hl.2.1 hl.2.2.1
  have hn' : n' ≤ maxLen := Nat.le_trans hl'.2.1 hl'.2.2.1
  have hq := hl.1
  have hq' := hl'.1
  have HL := Lib.hid (And.intro hl hl')
  clear hl hl'
  unfold maxLen at hn hn'
  by_cases he : n = n'
  · subst he
    have f1 : (((n : Nat) : Int) != ((n : Nat) : Int)) = false := by simp
    have HQ := Lib.hid (And.intro hq hq')
    clear hq hq'
    go_enter Tryz.func174, Tryz.ntmps174
    go_wp2
    go_loopw [5, 13] (fun _ i wr => ∃ k : Nat, k ≤ n ∧ i = .int .i64 k ∧ Below w.heap.size w wr ∧ ∀ i x, i < k → l[i]? = some x → l'[i]? = some x) (fun _ i _ => n - (intOf i).toNat)
    case atStart => exact ⟨0, Nat.zero_le _, rfl, Below.refl _ _, fun i x hi => absurd hi (Nat.not_lt_zero _)⟩
    case round =>
      obtain ⟨k, hk, rfl, hbel, hall⟩ := hrel
      rename_i wr _
      have HA : Hid (∀ (i : Nat) (x : Int), i < k → l[i]? = some x → l'[i]? = some x) := hall
      clear hall
      by_cases hlt : k < n
      · obtain ⟨x, b, off, hx, rfl, hb, hxi, c1⟩ := int_get HL.out.1 hlt
        obtain ⟨x', b', off', hx', rfl, hb', hxi', c1'⟩ := int_get HL.out.2 hlt
        replace c1 := below_some hbel c1
        replace c1' := below_some hbel c1'
        have HX := Lib.hid (And.intro hx hx')
        have f3 : ((k : Nat) : Int) < (n : Nat) := by omega
        have f4 : (0 : Int) ≤ (k : Nat) := by omega
        clear hx hx'
        by_cases hs : x = x'
        · subst hs
          have f2 : (x != x) = false := by simp
          go_wp2
          refine wp_region_und (by kernel_rfl) (by kernel_rfl) ?_
          repeat (go_big_quiet_step ((first | fail)))
          refine wpQuiet_nil ?_
          intro X hX
          go_wp2
          go_roundw
          case rel => exact ⟨k + 1, by omega, by go_num, below_step hbel hX, fun i y hi hy => by
            rcases Nat.lt_succ_iff_lt_or_eq.1 hi with h1 | rfl
            · exact HA.out i y h1 hy
            · rw [HX.out.1] at hy; injection hy with hy; rw [← hy]; exact HX.out.2⟩
          case measure => simp [intOf]; omega
        · have f2 : (x != x') = true := by simpa using hs
          have HF : Hid (decide (l = l') = false) := by
            show _ = _
            rw [decide_eq_false]
            rintro rfl
            have h5 := HX.out.1.symm.trans HX.out.2
            injection h5 with h5
            exact hs h5
          have HS := Lib.hid hs
          clear hs
          go_wp2
          refine wp_region_und (by kernel_rfl) (by kernel_rfl) ?_
          repeat (go_big_quiet_step ((first | fail)))
          refine wpQuiet_nil ?_
          intro X hX
          go_wp2
          go_ret
          exact ⟨ret_bool HF.out.symm, below_step hbel hX⟩
      · have HF : Hid (decide (l = l') = true) := by
          show _ = _
          rw [decide_eq_true]
          apply List.ext_getElem?
          intro i
          rcases Nat.lt_or_ge i n with hi | hi
          · have hy := List.getElem?_eq_getElem (show i < l.length by have := HQ.out.1; omega)
            rw [hy, HA.out i _ (by omega) hy]
          · rw [List.getElem?_eq_none (by have := HQ.out.1; omega), List.getElem?_eq_none (by have := HQ.out.2; omega)]
        go_wp2
        go_ret
        exact ⟨ret_bool HF.out.symm, hbel⟩
  · have f1 : (((n : Nat) : Int) != ((n' : Nat) : Int)) = true := by simp; omega
    have HF : Hid (decide (l = l') = false) := by
      show _ = _
      rw [decide_eq_false]
      rintro rfl
      omega
    have HQ := Lib.hid (And.intro hq hq')
    have HE := Lib.hid he
    clear hq hq' he
    go_enter Tryz.func174, Tryz.ntmps174
    go_wp2
    go_ret
    exact ⟨ret_bool HF.out.symm, Below.refl _ _⟩
set_option maxHeartbeats 1000000 in
theorem l1SameJ_c (l l' : List Int) (A A' : Option Addr) (n n' c c' : Nat) (w : World) (B : Nat) (hl : Mm.SlAt Mm.int w B l A n c) (hl' : Mm.SlAt Mm.int w B l' A' n' c') (hB : B ≤ w.heap.size) :
    Calls Tryz.prog 163 #[.slice A n c, .slice A' n' c'] w fun e w' => e = .returned (.bool (decide (l = l'))) ∧ Below w.heap.size w w' := by
  have hn : n ≤ maxLen := Nat.le_trans hl.2.1 hl.2.2.1
  have hn' : n' ≤ maxLen := Nat.le_trans hl'.2.1 hl'.2.2.1
  have hq := hl.1
  have hq' := hl'.1
  have HL := Lib.hid (And.intro hl hl')
  clear hl hl'
  unfold maxLen at hn hn'
  by_cases he : n = n'
  · subst he
    have f1 : (((n : Nat) : Int) != ((n : Nat) : Int)) = false := by simp
    have HQ := Lib.hid (And.intro hq hq')
    clear hq hq'
    go_enter Tryz.func163, Tryz.ntmps163
    go_wp2
    go_loopw [5, 13] (fun _ i wr => ∃ k : Nat, k ≤ n ∧ i = .int .i64 k ∧ Below w.heap.size w wr ∧ ∀ i x, i < k → l[i]? = some x → l'[i]? = some x) (fun _ i _ => n - (intOf i).toNat)
    case atStart => exact ⟨0, Nat.zero_le _, rfl, Below.refl _ _, fun i x hi => absurd hi (Nat.not_lt_zero _)⟩
    case round =>
      obtain ⟨k, hk, rfl, hbel, hall⟩ := hrel
      rename_i wr _
      have HA : Hid (∀ (i : Nat) (x : Int), i < k → l[i]? = some x → l'[i]? = some x) := hall
      clear hall
      by_cases hlt : k < n
      · obtain ⟨x, b, off, hx, rfl, hb, hxi, c1⟩ := int_get HL.out.1 hlt
        obtain ⟨x', b', off', hx', rfl, hb', hxi', c1'⟩ := int_get HL.out.2 hlt
        replace c1 := below_some hbel c1
        replace c1' := below_some hbel c1'
        have HX := Lib.hid (And.intro hx hx')
        have f3 : ((k : Nat) : Int) < (n : Nat) := by omega
        have f4 : (0 : Int) ≤ (k : Nat) := by omega
        clear hx hx'
        by_cases hs : x = x'
        · subst hs
          have f2 : (x != x) = false := by simp
          go_wp2
          refine wp_region_und (by kernel_rfl) (by kernel_rfl) ?_
          repeat (go_big_quiet_step ((first | fail)))
          refine wpQuiet_nil ?_
          intro X hX
          go_wp2
          go_roundw
          case rel => exact ⟨k + 1, by omega, by go_num, below_step hbel hX, fun i y hi hy => by
            rcases Nat.lt_succ_iff_lt_or_eq.1 hi with h1 | rfl
            · exact HA.out i y h1 hy
            · rw [HX.out.1] at hy; injection hy with hy; rw [← hy]; exact HX.out.2⟩
          case measure => simp [intOf]; omega
        · have f2 : (x != x') = true := by simpa using hs
          have HF : Hid (decide (l = l') = false) := by
            show _ = _
            rw [decide_eq_false]
            rintro rfl
            have h5 := HX.out.1.symm.trans HX.out.2
            injection h5 with h5
            exact hs h5
          have HS := Lib.hid hs
          clear hs
          go_wp2
          refine wp_region_und (by kernel_rfl) (by kernel_rfl) ?_
          repeat (go_big_quiet_step ((first | fail)))
          refine wpQuiet_nil ?_
          intro X hX
          go_wp2
          go_ret
          exact ⟨ret_bool HF.out.symm, below_step hbel hX⟩
      · have HF : Hid (decide (l = l') = true) := by
          show _ = _
          rw [decide_eq_true]
          apply List.ext_getElem?
          intro i
          rcases Nat.lt_or_ge i n with hi | hi
          · have hy := List.getElem?_eq_getElem (show i < l.length by have := HQ.out.1; omega)
            rw [hy, HA.out i _ (by omega) hy]
          · rw [List.getElem?_eq_none (by have := HQ.out.1; omega), List.getElem?_eq_none (by have := HQ.out.2; omega)]
        go_wp2
        go_ret
        exact ⟨ret_bool HF.out.symm, hbel⟩
  · have f1 : (((n : Nat) : Int) != ((n' : Nat) : Int)) = true := by simp; omega
    have HF : Hid (decide (l = l') = false) := by
      show _ = _
      rw [decide_eq_false]
      rintro rfl
      omega
    have HQ := Lib.hid (And.intro hq hq')
    have HE := Lib.hid he
    clear hq hq' he
    go_enter Tryz.func163, Tryz.ntmps163
    go_wp2
    go_ret
    exact ⟨ret_bool HF.out.symm, Below.refl _ _⟩
def gPiece (from_ : Int) (s : ByteArray) (l : List Int) : Mm.Rel := fun _ _ v ds => ∃ A n c f, v = .agg #[.int .i64 from_, .string s, .slice A n c] ∧ ds = [Mm.tsl Mm.int 3 l (.slice A n c) f]
theorem gPiece_in {from_ : Int} {s : ByteArray} {l : List Int} {vals : List Value} {tk : List Mm.Thing} : ∃ v ds, gPiece from_ s l vals tk v ds := ⟨_, _, none, 0, 0, [], rfl, rfl⟩
set_option maxRecDepth 100000 in
set_option maxHeartbeats 2000000 in
theorem isPiece_c (fr : Int) (s : ByteArray) (l : List Int) (A : Option Addr) (n c : Nat) (w : World) (B : Nat) (hr : Mm.SlAt Mm.int w B l A n c) (hB : B ≤ w.heap.size) (hs : s.size ≤ maxLen) :
    Calls Tryz.prog 144 #[.agg #[.int .i64 fr, .string s, .slice A n c]] w fun e w' => e = .returned (.bool (Pl.pieceOk ⟨fr, s, l⟩)) ∧ Below w.heap.size w w' := by
  have KS0 := Lib.hid ((Mm.SepF.start w).alloc' rfl 164 [.int .i64 fr, .string s, .slice A n c])
  have HR := Lib.hid hr
  clear hr
  obtain ⟨W0, hW0⟩ : ∃ W0, w.alloc (.cells [.int .i64 fr, .string s, .slice A n c].toArray 164) = W0 := ⟨_, rfl⟩
  rw [hW0] at KS0
  have HRn : n = l.length := HR.out.1.symm
  have HRN := Lib.hid HRn
  clear HRn
  have hnm : n ≤ maxLen := Nat.le_trans HR.out.2.1 HR.out.2.2.1
  go_enter Tryz.func144, Tryz.ntmps144
  by_cases h60 : s.size ≤ 60
  · have d1 := KS0.out.cell (k := 1) 0 rfl rfl
    go_wp2_with fail
    refine (recordsIn_c s (by omega) _).mono ?_
    rintro e w1 ⟨RA, rn, rc, rfl, hac⟩
    obtain ⟨W, rfl⟩ : ∃ W : World, W = w1 := ⟨_, rfl⟩
    have HX := Lib.hid (KS0.out.step hac.bel)
    clear hac
    have HBX := Lib.hid HX.out.bel0
    obtain ⟨gb, hgb⟩ : ∃ gb, w.heap.size = gb := ⟨_, rfl⟩
    rw [hgb] at HX ⊢
    have HGB := Lib.hid hgb
    clear hgb d1 KS0
    have d0 := HX.out.cell (k := 0) 0 rfl rfl
    have d1 := HX.out.cell (k := 1) 0 rfl rfl
    have d2 := HX.out.cell (k := 2) 0 rfl rfl
    by_cases hw : Pl.whole s = s.size
    · have heq : (((Pl.whole s : Nat) : Int) == ((s.size : Nat) : Int)) = true := by rw [hw]; simp
      have HF : Hid (Pl.pieceOk ⟨fr, s, l⟩ = decide (Pl.idx3 (Pl.starts s) = l)) := by
        show _ = _
        unfold Pl.pieceOk
        rw [decide_eq_true (show s.size ≤ 60 from h60), decide_eq_true (show Pl.whole s = s.size from hw)]
        rw [Bool.true_and, Bool.true_and]
        exact decide_eq_decide.2 ⟨Eq.symm, Eq.symm⟩
      clear hw
      go_wp2_with fail
      refine Mm.wp_region_give_all (fun i => match i with | 10 => some (gPiece fr s (Pl.idx3 (Pl.starts s))) | 14 => some (Mm.gVal (.bool (decide (Pl.idx3 (Pl.starts s) = l)))) | _ => none) (fun i => match i with | 14 => [10] | _ => []) (fun _ => []) (F := []) (D := fun w' => ∃ z : Und W, w' = und W z) (fun X us h => Mm.sep_und h) (by kernel_rfl) (by kernel_rfl) (by kernel_rfl) (Mm.SepF.startDrew _) ?_
      repeat (refine Mm.give_det (by rfl) (by rfl) (by rfl) (fun K hK => ?_); go_big_quiet_op; refine hK _ ?_; clear hK K)
      refine Mm.give_op0 25 (by rfl) rfl (by rfl) (by rfl) (by rfl) (by rfl) gPiece_in (fun others X hX => ?_) ?_
      · go_wp2_with (go_at_call 153; refine (pieceOf_c fr s (by omega) _).mono ?_; rintro e w5 ⟨A5, n5, c5, f5, rfl, -, hs5⟩)
        exact ⟨rfl, rfl, _, ⟨A5, n5, c5, f5, rfl, rfl⟩, hX.join hs5⟩
      rintro v ds ⟨A5, n5, c5, f5, rfl, rfl⟩
      simp only [Act.put, List.setIfInBounds_toArray, List.set_cons_succ, List.set_cons_zero]
      have hfd : ∀ W', (Instr.field 164 (.agg #[.int .i64 fr, .string s, .slice A5 n5 c5]) 2).run Tryz.prog W' = .ok (.slice A5 n5 c5) W' := fun _ => by kernel_rfl
      repeat (refine Mm.give_det (by rfl) (by rfl) (by rfl) (fun K hK => ?_); go_big_quiet_op; refine hK _ ?_; clear hK K)
      refine Mm.give_op1 29 10 (by rfl) rfl (by rfl) (by rfl) (by rfl) rfl (by rfl) _ rfl Mm.gVal_in (fun others X hX => ?_) ?_
      · have hl1 := (hX.sl 0 rfl).weak (hX.sl 0 rfl).olt
        have hl2 := (HR.out.keep fun b hb => (hX.bel0.block b (Nat.lt_of_lt_of_le (Nat.lt_of_lt_of_le hb hB) HBX.out.size)).trans (HBX.out.block b (Nat.lt_of_lt_of_le hb hB))).more (B' := X.heap.size) (by have := hX.chg.size; have := HBX.out.size; omega)
        go_wp2_with (go_at_call 174; refine (equalIntsJ_c _ _ _ _ _ _ _ _ X X.heap.size hl1 hl2 (Nat.le_refl _)).mono ?_; rintro e w5 ⟨rfl, hb5⟩)
        exact Mm.gvq_val hX.tail hb5 rfl rfl
      rintro v ds ⟨rfl, rfl⟩
      simp only [Act.put, List.setIfInBounds_toArray, List.set_cons_succ, List.set_cons_zero]
      repeat (refine Mm.give_det (by rfl) (by rfl) (by rfl) (fun K hK => ?_); go_big_quiet_op; refine hK _ ?_; clear hK K)
      refine Mm.give_nil ?_
      rintro X hX
      have HXX := Lib.hid (below_step HBX.out hX.bel0)
      clear hX
      go_wp2
      go_ret
      exact ⟨ret_bool HF.out.symm, HXX.out⟩
    · have heq : (((Pl.whole s : Nat) : Int) == ((s.size : Nat) : Int)) = false := by simp; omega
      have HF : Hid (Pl.pieceOk ⟨fr, s, l⟩ = false) := by
        show _ = _
        unfold Pl.pieceOk
        rw [decide_eq_false (show ¬ Pl.whole s = s.size from hw)]
        simp
      clear hw
      go_wp2_with fail
      refine wp_region_und (by kernel_rfl) (by kernel_rfl) ?_
      repeat (go_big_quiet_step ((first | fail)))
      refine wpQuiet_nil ?_
      intro X hX
      go_wp2
      go_ret
      exact ⟨ret_bool HF.out.symm, below_step HBX.out hX⟩
  · have HF : Hid (Pl.pieceOk ⟨fr, s, l⟩ = false) := by
      show _ = _
      unfold Pl.pieceOk
      rw [decide_eq_false h60]; rfl
    have d1 := KS0.out.cell (k := 1) 0 rfl rfl
    have HBE := Lib.hid KS0.out.bel0
    go_wp2
    go_ret
    exact ⟨ret_bool HF.out.symm, HBE.out⟩
end Go.Proofs.YtbhmdnjammnlnaaGreatDoor

namespace Go.Proofs.YtbhmdnjammnlnaaGreatDoor
open Go.RowKit
namespace Mm
structure FlatN {α : Type} (E : Rep α) (enc : α → List Value) : Prop where
  pos : 0 < E.size
  inv : ∀ {w x cs fx}, E.own w x cs fx → cs = enc x ∧ fx = [] ∧ ∀ w', E.own w' x (enc x) []
theorem flatMap_len {α : Type} {s : Nat} {enc : α → List Value} : ∀ {xs : List α}, (∀ x, x ∈ xs → (enc x).length = s) → (xs.flatMap enc).length = xs.length * s
  | [], _ => by simp
  | a :: t, h => by
    rw [List.flatMap_cons, List.length_append, h a (by simp), flatMap_len (fun x hx => h x (List.mem_cons_of_mem _ hx)), List.length_cons, Nat.succ_mul]; omega
section
variable {α : Type} {E : Rep α} {enc : α → List Value} {e : TypeId} {w w' : World} {xs : List α} {v : Value} {fp : List Nat} {g n c : Nat}
theorem FlatN.owns (hF : FlatN E enc) (h : SlOwn E e w xs v fp) : w.ownsRow 0 e E.size v xs.length (xs.flatMap enc) ∧ fp = v.ownBlock.toList ∧ (∀ x, x ∈ xs → ∀ w', E.own w' x (enc x) []) ∧ ∀ x, x ∈ xs → (enc x).length = E.size := by
  obtain ⟨es, he, ho, rfl⟩ := h
  have h1 : es = xs.map fun x => (enc x, ([] : List Nat)) := by
    apply List.ext_getElem?
    intro i
    rw [List.getElem?_map]
    rcases Nat.lt_or_ge i xs.length with hi | hi
    · have hx := List.getElem?_eq_getElem hi
      have hy := List.getElem?_eq_getElem (show i < es.length by rw [he.1]; exact hi)
      have h2 := hF.inv (he.2 i _ _ hx hy)
      rw [hx, hy]
      exact congrArg some (Prod.ext h2.1 h2.2.1)
    · rw [List.getElem?_eq_none hi, List.getElem?_eq_none (by rw [he.1]; exact hi)]
      rfl
  have h3 : (xs.map fun x => (enc x, ([] : List Nat))).flatMap (·.1) = xs.flatMap enc := by rw [List.flatMap_map]
  have h4 : (xs.map fun x => (enc x, ([] : List Nat))).flatMap (·.2) = [] := by simp [List.flatMap_map]
  have h5 : ∀ x, x ∈ xs → ∀ w', E.own w' x (enc x) [] := fun x hx w' => by
    obtain ⟨i, hi, rfl⟩ := List.mem_iff_getElem.1 hx
    exact (hF.inv (he.2 i _ _ (List.getElem?_eq_getElem hi) (List.getElem?_eq_getElem (show i < es.length by rw [he.1]; exact hi)))).2.2 w'
  refine ⟨?_, by rw [h1, h4]; simp, h5, fun x hx => E.olen (h5 x hx w)⟩
  rw [h1, h3] at ho
  exact ho
theorem FlatN.blk (hF : FlatN E enc) (h : SlOwn E e w xs (.slice (some ⟨g, 0, none⟩) n c) fp) : ∃ cur, Blk w g e cur ∧ cur.length = c * E.size ∧ cur.take (n * E.size) = xs.flatMap enc ∧ n = xs.length ∧ n ≤ c ∧ c ≤ maxLen ∧ fp = [g] := by
  obtain ⟨h1, h2, _⟩ := hF.owns h
  rcases h1.2 with ⟨h3, _⟩ | ⟨g', cap, cur, h3, _, hg, hnc, hcm, hcs, htake⟩
  · simp at h3
  · simp only [Value.slice.injEq, Option.some.injEq, Addr.mk.injEq, and_true] at h3
    obtain ⟨rfl, rfl, rfl⟩ := h3
    refine ⟨cur.toList, by unfold Blk; rw [Array.toArray_toList]; exact hg, by simpa using hcs, by simpa using htake, rfl, hnc, hcm, by rw [h2]; simp [Value.ownBlock]⟩
theorem FlatN.of_blk (_hF : FlatN E enc) {cur : List Value} (h : Blk w g e cur) (hl : cur.length = c * E.size) (ht : cur.take (n * E.size) = xs.flatMap enc) (hn : xs.length = n) (hnc : n ≤ c) (hc : c ≤ maxLen) (hE : ∀ x, x ∈ xs → E.own w x (enc x) []) : SlOwn E e w xs (.slice (some ⟨g, 0, none⟩) n c) [g] := by
  subst hn
  refine SlOwn.of_row (enc := enc) ⟨by simp [flatMap_len fun x hx => E.olen (hE x hx)], .inr ⟨g, c, cur.toArray, rfl, Nat.zero_le _, h, hnc, hc, by simpa using hl, by simpa using ht⟩⟩ hE ?_
  simp
theorem FlatN.cells (hF : FlatN E enc) (h : SlOwn E e w xs (.slice (some ⟨g, 0, none⟩) n c) fp) {j : Nat} {u : Value} (hj : (xs.flatMap enc)[j]? = some u) : w.cell? ⟨g, j, none⟩ = some u := by
  obtain ⟨cur, hb, hcl, ht, rfl, hnc, hcm, rfl⟩ := hF.blk h
  refine hb.cell ?_
  rw [← ht, List.getElem?_take] at hj
  split at hj
  · exact hj
  · cases hj
end
end Mm
end Go.Proofs.YtbhmdnjammnlnaaGreatDoor

namespace Go.Proofs.YtbhmdnjammnlnaaGreatDoor
open Go.RowKit
namespace Mm
structure Flat {α : Type} (E : Rep α) (enc : α → List Value) : Prop where
  at_ : ∀ {w B x cs}, E.at_ w B x cs → cs = enc x
  own : ∀ {w B x cs}, E.at_ w B x cs → ∀ w', E.own w' x (enc x) []
theorem flat_int : Flat int (fun x => [.int .i64 x]) := ⟨fun h => h.1, fun h _ => ⟨rfl, h.2, rfl⟩⟩
theorem flat_str : Flat str (fun x => [.string x]) := ⟨fun h => h.1, fun h _ => ⟨rfl, h.2, rfl⟩⟩
section
variable {P : Program} {α : Type} {E : Rep α} {enc : α → List Value} {w0 wr W : World} {ts : List Thing} {xs : List α} {A : Option Addr} {n c g B : Nat} {e : TypeId}
theorem run_clone (hF : Flat E enc) (t ty : TypeId) (i : TypeInfo) (z : Value) (bytes : Nat) (ht : P.underlying t = some (.slice e)) (hi : P.info? e = some i) (hz : i.zero = some z) (hsize : i.size = E.size) (hby : i.bytes = bytes) (hzs : z.cells.size = E.size) (hsz : 0 < E.size)
    (h : Sep w0 wr ts) (hb : Below wr.heap.size wr W) (hg : W.heap[g]? = some (.cells #[] e (0, 0))) (hgn : wr.heap.size ≤ g) (hl : SlAt E W B xs A n c) (hn : n ≤ maxLen) (hbytes : n * bytes ≤ 140737488355328) :
    ∃ A2 c2 fp w1, (Builtin.append_ #[t, t] ty #[.slice (some ⟨g, 0, none⟩) 0 0, .slice A n c]).run P W = .ok (.slice A2 n c2) w1 ∧ Sep w0 w1 (tsl E e xs (.slice A2 n c2) fp :: ts) ∧ Below wr.heap.size wr w1 := by
  have hown : W.ownsRow g e E.size (.slice (some ⟨g, 0, none⟩) 0 0) 0 [] := ⟨by simp, .inr ⟨g, 0, #[], rfl, Nat.le_refl _, hg, Nat.le_refl _, Nat.zero_le _, by simp, by simp⟩⟩
  have hlt : g < W.heap.size := by
    rcases Nat.lt_or_ge g W.heap.size with h1 | h1
    · exact h1
    · rw [Array.getElem?_eq_none h1] at hg; cases hg
  have hE : ∀ w1 x, x ∈ xs → E.own w1 x (enc x) [] := fun w1 x hx => by
    obtain ⟨k, hk, rfl⟩ := List.mem_iff_getElem.1 hx
    obtain ⟨y, b, off, cs, hy, _, _, ha, _⟩ := hl.get (k := k) (by rw [← hl.1]; exact hk)
    rw [List.getElem?_eq_getElem hk] at hy
    injection hy with hy
    subst hy
    exact hF.own ha w1
  have main : ∀ v w1, w1.ownsRow g e E.size v n (xs.flatMap enc) → W.grownBy w1 (some g) → ∃ A2 c2 fp, v = .slice A2 n c2 ∧ Sep w0 w1 (tsl E e xs (.slice A2 n c2) fp :: ts) ∧ Below wr.heap.size wr w1 := fun v w1 k1 k2 => by
    have h0 : w1.ownsRow 0 e E.size v n (xs.flatMap enc) := ⟨k1.1, k1.2.imp id fun ⟨g', cap, cur, h1, _, h3⟩ => ⟨g', cap, cur, h1, Nat.zero_le _, h3⟩⟩
    have hs := SlOwn.of_row h0 (fun x hx => hE w1 x hx) hl.1
    obtain ⟨A2, n2, c2, hv, hn2, _⟩ := hs.form
    have hbl : Below wr.heap.size wr w1 := hb.grown k2 (by have := hb.size; omega) (fun k hk => by injection hk with hk; omega)
    subst hv
    have hn3 : n2 = n := hn2.trans hl.1
    subst hn3
    exact ⟨A2, c2, _, rfl, h.add hbl (t := tsl E e xs (.slice A2 n2 c2) _) hs (by simp only [tsl]; cases (Value.slice A2 n2 c2).ownBlock <;> simp) (fun b hb => by
      simp only [tsl, Option.mem_toList] at hb
      have := (k1.lt b hb).1; omega), hbl⟩
  cases A with
  | none =>
    have hc0 : c = 0 := hl.2.2.2.1 rfl
    have hn0 : n = 0 := by have := hl.2.1; omega
    subst hc0; subst hn0
    have hx0 : xs = [] := List.length_eq_zero_iff.1 hl.1
    have hr := run_append_owned_none (P := P) W g t ty e i E.size ht hi _ _ _ hown
    obtain ⟨A2, c2, fp, hv, hS, hB⟩ := main _ W (by rw [hx0]; exact hown) ⟨rfl, rfl, rfl, Nat.le_refl _, fun _ _ _ => rfl⟩
    exact ⟨A2, c2, fp, W, by rw [hr, hv], hS, hB⟩
  | some a =>
    obtain ⟨v', w1, hr, h2, h3, _, h5⟩ := run_append_own_at (P := P) W g t ty e i z E.size bytes ht hi hz hsize hby hzs hsz _ 0 [] hown a n c (xs.flatMap enc) (flat_len (fun x cs h => hF.at_ h) hl) (flat_cells' (fun x cs h => hF.at_ h) hl) (fun u hu => by
      obtain ⟨x, hx, hu⟩ := List.mem_flatMap.1 hu
      exact E.one (hE W x hx) u hu) (by omega) (by rw [Nat.zero_add]; exact hbytes) (by omega)
    rw [Nat.zero_add, List.nil_append] at h2
    obtain ⟨A2, c2, fp, hv, hS, hB⟩ := main v' w1 h2 h3
    exact ⟨A2, c2, fp, w1, by rw [hr, hv], hS, hB⟩
theorem wp_clone {o : Oper} {a : Act} {K : Act → World → Prop} {Q : Exit → Act → World → Prop} (s x : Operand) (t : TypeId)
    (ho : o.op = .call { callee := .builtin .append, args := #[s, x], argTypes := #[t, t] })
    (hF : Flat E enc) (i : TypeInfo) (z : Value) (bytes : Nat) (ht : P.underlying t = some (.slice e)) (hi : P.info? e = some i) (hz : i.zero = some z) (hsize : i.size = E.size) (hby : i.bytes = bytes) (hzs : z.cells.size = E.size) (hsz : 0 < E.size)
    (h : Sep w0 wr ts) (hb : Below wr.heap.size wr W) (hg : W.heap[g]? = some (.cells #[] e (0, 0))) (hgn : wr.heap.size ≤ g) (hl : SlAt E W B xs A n c) (hn : n ≤ maxLen) (hbytes : n * bytes ≤ 140737488355328)
    (hs : a.eval s = .slice (some ⟨g, 0, none⟩) 0 0) (hx : a.eval x = .slice A n c)
    (hk : ∀ A2 c2 fp w1, Sep w0 w1 (tsl E e xs (.slice A2 n c2) fp :: ts) → Below wr.heap.size wr w1 → K (a.put o.dst (.slice A2 n c2)) w1) : o.wp P a W K Q := by
  obtain ⟨A2, c2, fp, w1, hr, h2, h3⟩ := run_clone (P := P) hF t o.type i z bytes ht hi hz hsize hby hzs hsz h hb hg hgn hl hn hbytes
  unfold Oper.wp execOp
  simp only [ho, resolve, invoke, builtin, Sem.run_bind, Sem.run_pure, Result.andThen_ok, List.map_toArray, List.map_cons, List.map_nil, hs, hx, hr]
  exact hk A2 c2 fp w1 h2 h3
theorem step_clone {ops : Array Oper} {o : Oper} {a : Act} {K : Act → World → Prop} {Q : Exit → Act → World → Prop} {X : Prop} (hgd : o.guard = none) (s x : Operand) (t : TypeId)
    (ho : o.op = .call { callee := .builtin .append, args := #[s, x], argTypes := #[t, t] })
    (hF : Flat E enc) (i : TypeInfo) (z : Value) (bytes : Nat) (ht : P.underlying t = some (.slice e)) (hi : P.info? e = some i) (hz : i.zero = some z) (hsize : i.size = E.size) (hby : i.bytes = bytes) (hzs : z.cells.size = E.size) (hsz : 0 < E.size)
    (h : Sep w0 wr ts) (hb : Below wr.heap.size wr W) (hg : W.heap[g]? = some (.cells #[] e (0, 0))) (hgn : wr.heap.size ≤ g) (hl : SlAt E W B xs A n c) (hn : n ≤ maxLen) (hbytes : n * bytes ≤ 140737488355328)
    (hs : a.eval s = .slice (some ⟨g, 0, none⟩) 0 0) (hx : a.eval x = .slice A n c)
    (hk : ∀ A2 c2 fp w1, Sep w0 w1 (tsl E e xs (.slice A2 n c2) fp :: ts) → Below wr.heap.size wr w1 → K (a.put o.dst (.slice A2 n c2)) w1) :
    if Region.wanted o (yielded ops a.tmps) = true then Oper.wp P o a W K Q else X := by
  have hw : Region.wanted o (yielded ops a.tmps) = true := by simp [Region.wanted, hgd]
  rw [if_pos hw]
  exact wp_clone s x t ho hF i z bytes ht hi hz hsize hby hzs hsz h hb hg hgn hl hn hbytes hs hx hk
theorem wpList_clone {ops : Array Oper} {rest : List Oper} {o : Oper} {a : Act} {Q : Exit → Act → World → Prop} (hgd : o.guard = none) (s x : Operand) (t : TypeId)
    (ho : o.op = .call { callee := .builtin .append, args := #[s, x], argTypes := #[t, t] })
    (hF : Flat E enc) (i : TypeInfo) (z : Value) (bytes : Nat) (ht : P.underlying t = some (.slice e)) (hi : P.info? e = some i) (hz : i.zero = some z) (hsize : i.size = E.size) (hby : i.bytes = bytes) (hzs : z.cells.size = E.size) (hsz : 0 < E.size)
    (h : Sep w0 wr ts) (hb : Below wr.heap.size wr W) (hg : W.heap[g]? = some (.cells #[] e (0, 0))) (hgn : wr.heap.size ≤ g) (hl : SlAt E W B xs A n c) (hn : n ≤ maxLen) (hbytes : n * bytes ≤ 140737488355328)
    (hs : a.eval s = .slice (some ⟨g, 0, none⟩) 0 0) (hx : a.eval x = .slice A n c)
    (hk : ∀ A2 c2 fp w1, Sep w0 w1 (tsl E e xs (.slice A2 n c2) fp :: ts) → Below wr.heap.size wr w1 → wpList P ops Q rest (a.put o.dst (.slice A2 n c2)) w1) : wpList P ops Q (o :: rest) a W :=
  wpList_plain hgd fun _ hK => wp_clone s x t ho hF i z bytes ht hi hz hsize hby hzs hsz h hb hg hgn hl hn hbytes hs hx (fun A2 c2 fp w1 h1 h2 => hK _ _ (hk A2 c2 fp w1 h1 h2))
end
end Mm
end Go.Proofs.YtbhmdnjammnlnaaGreatDoor

namespace Go.Proofs.YtbhmdnjammnlnaaGreatDoor
open Go.RowKit
namespace Mm
section
variable {α : Type} {E : Rep α} {e : TypeId} {w : World} {xs : List α} {fp : List Nat}
end
end Mm
end Go.Proofs.YtbhmdnjammnlnaaGreatDoor

namespace Go.Proofs.YtbhmdnjammnlnaaGreatDoor
open Go.RowKit
structure Cha (F : List Nat) (w : World) where
  X : World
  h : Mm.Chg F w X
def cha (F : List Nat) (w : World) (x : Cha F w) : World := x.X
instance (F : List Nat) (w : World) : Nonempty (Cha F w) := ⟨⟨w, Mm.Chg.refl _ _⟩⟩
theorem cha_cell {F : List Nat} {w : World} (x : Cha F w) (a : Addr) (hn : a.block ∉ F) (h : (w.cell? a).isSome = true) : (cha F w x).cell? a = w.cell? a := by
  obtain ⟨u, hu⟩ := Option.isSome_iff_exists.1 h
  exact World.cell?_of_block (x.h.block a.block (World.block_lt_of_cell? w a hu) hn)
namespace Mm
theorem SepF.atW {F : List Nat} {w0 wr W : World} {ts : List Thing} (h : SepF F w0 wr ts) (e : wr = W) : SepF F w0 W ts := e ▸ h
theorem sep_cha {F : List Nat} {w X : World} {us : List Thing} (h : SepF F w X us) : ∃ x : Cha F w, X = cha F w x := ⟨⟨X, h.chg⟩, rfl⟩
section
variable {P : Program} {F : List Nat} {w X : World} {ops : Array Oper} {o : Oper} {a : Act} {others tk : List Thing} {vals : List Value}
theorem app_gvq {α : Type} {E : Rep α} {e : TypeId} {xs : List α} {x : α} {cx : List Value} {v : Value} {fp : List Nat} {gb : Nat} (hgd : o.guard = none) (s y : Operand) (t : TypeId)
    (ho : o.op = .call { callee := .builtin .append, args := #[s, y], argTypes := #[t, t] }) (d : Nat) (hd : o.dst = some d) (hs : Nat.blt d a.tmps.size = true) (i : TypeInfo) (z : Value) (bytes : Nat)
    (ht : P.underlying t = some (.slice e)) (hi : P.info? e = some i) (hz : i.zero = some z) (hsize : i.size = E.size) (hby : i.bytes = bytes) (hzs : z.cells.size = E.size) (h0 : 0 < E.size)
    (hsv : a.eval s = v) (hyv : a.eval y = .slice (some ⟨gb, 0, none⟩) 1 1) (hx : ∀ W, E.own W x cx []) (h63 : xs.length + 1 ≤ maxLen) (hbytes : (xs.length + 1) * bytes ≤ 140737488355328)
    (hS : SepF F w X ([tblk gb e cx, tsl E e xs v fp] ++ others)) : wpList P ops (GvQ F w (gSl E e (xs ++ [x]) vals tk) d a.defers others) [o] a X := by
  obtain ⟨l0, ho1, hnext⟩ := hS.push0 1 rfl (Below.refl _ _) (x := x) (hx _)
  have hb : Blk X gb e cx := hS.at_ 0 rfl
  unfold wpList
  rw [if_pos (by simp [Region.wanted, hgd])]
  refine .inl (wp_append_lies _ s y t ho 0 e i z E.size bytes ht hi hz hsize hby hzs h0 v xs.length l0 hsv ho1 ⟨gb, 0, none⟩ 1 1 cx hyv (by rw [Nat.one_mul]; exact E.olen (hx X)) ?_ (E.one (hx X)) (by omega) h63 hbytes (Nat.zero_le _) _ rfl ?_)
  · have h1 := World.news_of_block hb
    simpa using h1
  · intro gg cap w4 hown1 hgrow hat hlt
    obtain ⟨fp', hs4⟩ := hnext gg cap w4 hown1 hgrow hat
    have e1 : ((a.put o.dst (.slice (some ⟨gg, 0, none⟩) (xs.length + 1) cap)).tmps.getD d undef) = .slice (some ⟨gg, 0, none⟩) (xs.length + 1) cap := by
      rw [hd]; exact put_get (by simpa [Nat.blt_eq] using hs) _
    exact ⟨rfl, by rw [hd]; rfl, _, ⟨some ⟨gg, 0, none⟩, xs.length + 1, cap, fp', e1, rfl, by show _ = _; simp⟩, hs4.tail⟩
def gBs (e : TypeId) (cx : List Value) : Rel := fun _ _ v ds => ∃ g, v = .slice (some ⟨g, 0, none⟩) 1 1 ∧ ds = [tblk g e cx]
theorem gBs_in {e : TypeId} {cx : List Value} {vals : List Value} {tk : List Thing} : ∃ v ds, gBs e cx vals tk v ds := ⟨_, _, 0, rfl, rfl⟩
theorem gvq_bs {e : TypeId} {cx : List Value} {g d : Nat} {df : List Deferred} {a' : Act} (h : SepF F w X others) (hg : X.heap.size = g) (hv : a'.tmps.getD d undef = .slice (some ⟨g, 0, none⟩) 1 1) (hdf : a'.defers = df) : GvQ F w (gBs e cx vals tk) d df others .normal a' (X.alloc (.cells cx.toArray e)) :=
  ⟨rfl, hdf, _, ⟨_, hv, rfl⟩, h.alloc' hg e cx⟩
end
section
variable {P : Program} {F : List Nat} {w : World} {N : Nat} {ops : Array Oper} {D : World → Prop} {rel : Nat → Option Rel} {takes : Nat → List Nat} {Q : Act → Sig → Prop} {i : Nat} {o : Oper} {rest : List Oper} {a : Act} {σ : Sig}
theorem give_op2 {R : Rel} (d j k : Nat) (hw : Region.wanted o (yielded ops a.tmps) = true) (hr : rel i = some R) (hd : o.dst = some d) (hs : Nat.blt d a.tmps.size = true) (hi : Nat.ble i N = true) (ht : takes i = [j, k]) (hjk : (j == k) = false) (hj : Nat.ble j N = true) (hk : Nat.ble k N = true)
    (tj tk : List Thing) (htj : σ j = tj) (htk : σ k = tk)
    (hin : ∃ v ds, R (o.op.operands.toList.map a.eval) (tj ++ tk) v ds)
    (h : ∀ others X, SepF F w X ((tj ++ tk) ++ others) → wpList P ops (GvQ F w (R (o.op.operands.toList.map a.eval) (tj ++ tk)) d a.defers others) [o] a X)
    (hnext : ∀ v ds, R (o.op.operands.toList.map a.eval) (tj ++ tk) v ds → wpGive P ops (GC F w N) D rel takes Q (i + 1) rest (a.put (some d) v) (sigUpd takes σ i ds)) : wpGive P ops (GC F w N) D rel takes Q i (o :: rest) a σ := by
  have e : (takes i).flatMap σ = tj ++ tk := by rw [ht, ← htj, ← htk]; simp
  refine give_op d hw hr hd (by simpa [Nat.blt_eq] using hs) (Nat.le_of_ble_eq_true hi) (by rw [ht]; exact List.nodup_cons.2 ⟨fun h => by rw [List.mem_singleton.1 h] at hjk; simp at hjk, by simp⟩) (by
      rw [ht]; intro x hx
      rcases List.mem_cons.1 hx with rfl | hx
      · exact Nat.le_of_ble_eq_true hj
      · rw [List.mem_singleton.1 hx]; exact Nat.le_of_ble_eq_true hk) ?_ ?_ ?_
  · rw [e]; exact hin
  · rw [e]; exact h
  · rw [e]; exact hnext
end
theorem app_list {P : Program} {F : List Nat} {w0 wr : World} {ts : List Thing} {ops : Array Oper} {rest : List Oper} {o : Oper} {a : Act} {Q : Exit → Act → World → Prop} {α : Type} {E : Rep α} {e : TypeId} {xs : List α} {x : α} {cx : List Value} {v : Value} {fp : List Nat} {m : Nat}
    (hS : SepF F w0 wr ts) (k : Nat) (hk : ts[k]? = some (tsl E e xs v fp)) (hgd : o.guard = none) (s y : Operand) (t : TypeId)
    (ho : o.op = .call { callee := .builtin .append, args := #[s, y], argTypes := #[t, t] }) (i : TypeInfo) (z : Value) (bytes : Nat)
    (ht : P.underlying t = some (.slice e)) (hi : P.info? e = some i) (hz : i.zero = some z) (hsize : i.size = E.size) (hby : i.bytes = bytes) (hzs : z.cells.size = E.size) (h0 : 0 < E.size)
    (hsv : a.eval s = v) (hyv : a.eval y = .slice (some ⟨wr.heap.size, 0, none⟩) 1 1) (hx : ∀ W, E.own W x cx []) (hm : xs.length = m) (h63 : m + 1 ≤ maxLen) (hbytes : (m + 1) * bytes ≤ 140737488355328)
    (h : ∀ g cap w' fp', SepF F w0 w' (ts.set k (tsl E e (xs ++ [x]) (.slice (some ⟨g, 0, none⟩) (m + 1) cap) fp')) → wpList P ops Q rest (a.put o.dst (.slice (some ⟨g, 0, none⟩) (m + 1) cap)) w') :
    wpList P ops Q (o :: rest) a (wr.alloc (.cells cx.toArray e)) := by
  subst hm
  obtain ⟨l0, ho1, hnext⟩ := hS.push0 k hk (W2 := wr.alloc (.cells cx.toArray e)) (below_new (Below.refl _ _) _) (x := x) (hx _)
  have hb : Blk (wr.alloc (.cells cx.toArray e)) wr.heap.size e cx := Blk.new _ _ _
  refine wpList_append_lies _ hgd s y t ho 0 e i z E.size bytes ht hi hz hsize hby hzs h0 v xs.length l0 hsv ho1 ⟨wr.heap.size, 0, none⟩ 1 1 cx hyv (by rw [Nat.one_mul]; exact E.olen (hx wr)) ?_ (E.one (hx wr)) (by omega) h63 hbytes (Nat.zero_le _) _ rfl ?_
  · have h1 := World.news_of_block hb
    simpa using h1
  · intro gg cap w4 hown1 hgrow hat hlt
    obtain ⟨fp', hs4⟩ := hnext gg cap w4 hown1 hgrow hat
    exact h gg cap w4 fp' hs4
end Mm
end Go.Proofs.YtbhmdnjammnlnaaGreatDoor

namespace Go.Proofs.YtbhmdnjammnlnaaGreatDoor
open Go.RowKit
namespace Mm
section
variable {P : Program} {α : Type} {E : Rep α} {enc : α → List Value} {F : List Nat} {w0 wr : World} {ts : List Thing} {xs ys : List α} {A : Option Addr} {n c B : Nat} {e : TypeId} {v : Value} {fp : List Nat}
theorem SepF.appMany (hF : Flat E enc) (hN : FlatN E enc) (t ty : TypeId) (i : TypeInfo) (z : Value) (bytes : Nat) (ht : P.underlying t = some (.slice e)) (hi : P.info? e = some i) (hz : i.zero = some z) (hsize : i.size = E.size) (hby : i.bytes = bytes) (hzs : z.cells.size = E.size)
    (h : SepF F w0 wr ts) (k : Nat) (hk : ts[k]? = some (tsl E e ys v fp)) (hl : SlAt E wr B xs A n c) (hn : ys.length + n ≤ maxLen) (hbytes : (ys.length + n) * bytes ≤ 140737488355328) :
    ∃ A2 c2 fp' w1, (Builtin.append_ #[t, t] ty #[v, .slice A n c]).run P wr = .ok (.slice A2 (ys.length + n) c2) w1 ∧ SepF F w0 w1 (ts.set k (tsl E e (ys ++ xs) (.slice A2 (ys.length + n) c2) fp')) := by
  have hs : SlOwn E e wr ys v fp := h.at_ k hk
  obtain ⟨hown, hfp, hys, hlen⟩ := hN.owns hs
  have hE : ∀ w1 x, x ∈ xs → E.own w1 x (enc x) [] := fun w1 x hx => by
    obtain ⟨k, hk, rfl⟩ := List.mem_iff_getElem.1 hx
    obtain ⟨y, b, off, cs, hy, _, _, ha, _⟩ := hl.get (k := k) (by rw [← hl.1]; exact hk)
    rw [List.getElem?_eq_getElem hk] at hy
    injection hy with hy
    subst hy
    exact hF.own ha w1
  have main : ∀ v' w1, w1.ownsRow 0 e E.size v' (ys.length + n) (ys.flatMap enc ++ xs.flatMap enc) → wr.grownBy w1 v.ownBlock → (v'.ownBlock = v.ownBlock ∨ v'.ownBlock = some wr.heap.size) → ∃ A2 c2 fp', v' = .slice A2 (ys.length + n) c2 ∧ SepF F w0 w1 (ts.set k (tsl E e (ys ++ xs) (.slice A2 (ys.length + n) c2) fp')) := fun v' w1 k1 k2 k3 => by
    rw [← List.flatMap_append] at k1
    have hs1 : SlOwn E e w1 (ys ++ xs) v' v'.ownBlock.toList := SlOwn.of_row (enc := enc) (by rw [List.length_append, hl.1]; exact k1) (fun x hx => by
      rcases List.mem_append.1 hx with hx | hx
      · exact hys x hx w1
      · exact hE w1 x hx) rfl
    obtain ⟨A2, n2, c2, hv, hn2, _⟩ := hs1.form
    subst hv
    rw [List.length_append, hl.1] at hn2
    subst hn2
    refine ⟨A2, c2, _, rfl, h.upd hk (Chg.mk k2.os k2.tape k2.output k2.size fun b hb hn => k2.block b hb (fun hh => hn (row_in hs hh.symm))) (t' := tsl E e (ys ++ xs) (.slice A2 (ys.length + n) c2) _) hs1 (by simp only [tsl]; cases (Value.slice A2 (ys.length + n) c2).ownBlock <;> simp) (fun b hb => ?_)⟩
    simp only [tsl, Option.mem_toList] at hb
    rcases k3 with h3 | h3
    · rw [h3] at hb; exact .inl (row_in hs (by rw [Option.mem_def.1 hb]))
    · rw [h3] at hb; injection hb with hb; exact .inr (by omega)
  cases A with
  | none =>
    have hc0 : c = 0 := hl.2.2.2.1 rfl
    have hn0 : n = 0 := by have := hl.2.1; omega
    subst hc0; subst hn0
    have hx0 : xs = [] := List.length_eq_zero_iff.1 hl.1
    have hr := run_append_owned_none (P := P) wr 0 t ty e i E.size ht hi _ _ _ hown
    obtain ⟨A2, c2, fp', hv, hS⟩ := main _ wr (by rw [hx0]; simpa using hown) ⟨rfl, rfl, rfl, Nat.le_refl _, fun _ _ _ => rfl⟩ (.inl rfl)
    exact ⟨A2, c2, fp', wr, by rw [hr, hv], hS⟩
  | some a =>
    obtain ⟨v', w1, hr, h2, h3, _, h5⟩ := run_append_own_at (P := P) wr 0 t ty e i z E.size bytes ht hi hz hsize hby hzs hN.pos _ _ _ hown a n c (xs.flatMap enc) (flat_len (fun x cs h => hF.at_ h) hl) (flat_cells' (fun x cs h => hF.at_ h) hl) (fun u hu => by
      obtain ⟨x, hx, hu⟩ := List.mem_flatMap.1 hu
      exact E.one (hE wr x hx) u hu) hn hbytes (Nat.zero_le _)
    obtain ⟨A2, c2, fp', hv, hS⟩ := main v' w1 h2 h3 h5
    exact ⟨A2, c2, fp', w1, by rw [hr, hv], hS⟩
theorem wpList_appMany {ops : Array Oper} {rest : List Oper} {o : Oper} {a : Act} {Q : Exit → Act → World → Prop} {m : Nat} (hgd : o.guard = none) (s x : Operand) (t : TypeId)
    (ho : o.op = .call { callee := .builtin .append, args := #[s, x], argTypes := #[t, t] })
    (hF : Flat E enc) (hN : FlatN E enc) (i : TypeInfo) (z : Value) (bytes : Nat) (ht : P.underlying t = some (.slice e)) (hi : P.info? e = some i) (hz : i.zero = some z) (hsize : i.size = E.size) (hby : i.bytes = bytes) (hzs : z.cells.size = E.size)
    (h : SepF F w0 wr ts) (k : Nat) (hk : ts[k]? = some (tsl E e ys v fp)) (hl : SlAt E wr B xs A n c) (hm : ys.length + n = m) (hn : m ≤ maxLen) (hbytes : m * bytes ≤ 140737488355328) (hs : a.eval s = v) (hx : a.eval x = .slice A n c)
    (hnext : ∀ A2 c2 fp' w1, SepF F w0 w1 (ts.set k (tsl E e (ys ++ xs) (.slice A2 m c2) fp')) → wpList P ops Q rest (a.put o.dst (.slice A2 m c2)) w1) : wpList P ops Q (o :: rest) a wr := by
  subst hm
  refine wpList_plain hgd fun K hK => ?_
  obtain ⟨A2, c2, fp', w1, hr, h2⟩ := h.appMany (P := P) hF hN t o.type i z bytes ht hi hz hsize hby hzs k hk hl hn hbytes
  unfold Oper.wp execOp
  simp only [ho, resolve, invoke, builtin, Sem.run_bind, Sem.run_pure, Result.andThen_ok, List.map_toArray, List.map_cons, List.map_nil, hs, hx, hr]
  exact hK _ _ (hnext A2 c2 fp' w1 h2)
theorem SepF.rdSl (h : SepF F w0 wr ts) (k : Nat) (hk : ts[k]? = some (tsl E e ys (.slice A n c) fp)) : SlAt E wr wr.heap.size ys A n c := (h.sl k hk).weak fun b hb => (h.sl k hk).olt b hb
theorem SlAt.cut {w : World} {g j : Nat} (h : SlAt E w B xs (some ⟨g, 0, none⟩) n c) (hj : j ≤ n) {s : Nat} (hs : E.size = s) : ∃ A', (if c = j then (some ⟨g, 0, none⟩ : Option Addr) else some ⟨g, j * s, none⟩) = A' ∧ SlAt E w B (xs.drop j) A' (n - j) (c - j) := by
  subst hs
  by_cases hc : c = j
  · rw [if_pos hc]
    have hn : n = j := by have := h.2.1; omega
    subst hn
    have hx : xs.drop n = [] := List.drop_eq_nil_of_le (by rw [h.1]; exact Nat.le_refl _)
    rw [hx, Nat.sub_self]
    exact ⟨_, rfl, SlAt.nil (by have := h.2.2.1; omega) (fun hh => by cases hh)⟩
  · rw [if_neg hc]
    have := h.drop hj
    rw [Nat.zero_add] at this
    exact ⟨_, rfl, this⟩
theorem SepF.fresh {g : Nat} (h : SepF F w0 wr ts) (hg : wr.heap.size = g) (E : Rep α) (e : TypeId) : SepF F w0 (wr.alloc (.cells #[] e)) (tsl E e [] (.slice (some ⟨g, 0, none⟩) 0 0) [g] :: ts) := by
  have h1 := h.alloc' hg e []
  refine h1.conv (by simp [tblk, tsl]) (List.forall_mem_cons.2 ⟨?_, fun u hu => h1.hold u (List.mem_cons_of_mem _ hu)⟩)
  have hb : Blk (wr.alloc (.cells #[] e)) g e [] := h1.at_ 0 rfl
  exact ⟨[], ⟨rfl, fun i x y h => by simp at h⟩, ⟨by simp, .inr ⟨g, 0, #[], rfl, Nat.zero_le _, hb, Nat.le_refl _, Nat.zero_le _, by simp, by simp⟩⟩, by simp [Value.ownBlock]⟩
end
end Mm
end Go.Proofs.YtbhmdnjammnlnaaGreatDoor

