/-
  Contracts on new stores. No conditions.
-/
import Derived.Test.YtkodfflnpalbbaaWa
import Derived.Test.YtkodfflnpalbbaaTy
import Derived.Test.YtkodfflnpalbbaaSx
import Derived.Test.YtkodfflnpalbbaaRg
import Derived.Deep.DeepCutAuto
import Derived.Test.YtkodfflnpalbbaaWc
namespace Go.Proofs.Ytkodfflnpalbbaa
open Go.RowKit
attribute [local go_sem] und_cell World.cell?_alloc_some
theorem setC_size (w : World) (a : Addr) (v : Value) : (w.setCell a v).heap.size = w.heap.size := by simp [World.setCell]
def Pl.log0 : Log := ⟨[⟨0, ⟨#[]⟩, []⟩], 0⟩
def Pl.head0 : Head := ⟨[], 0⟩
def Pl.newHo (n : Nat) : House := ⟨List.replicate n Pl.log0, List.replicate n Pl.head0, List.replicate n Pl.head0⟩
def Pl.newHouse (n : Int) : House × Bool := if Pl.isIn n 1 3 = true then (Pl.newHo n.toNat, true) else (⟨[], [], []⟩, false)
theorem rHead0_own {w : World} : rHead.own w Pl.head0 [.slice none 0 0, .int .i64 0] [] := rHead_own_mk (x := Pl.head0) Mm.SlOwn.nil (by show Mm.I64 0; unfold Mm.I64; simp)
theorem upto3 {p : Nat → Prop} (h1 : p 1) (h2 : p 2) (h3 : p 3) (n : Nat) (a : 1 ≤ n) (b : n ≤ 3) : p n := by
  have : n = 1 ∨ n = 2 ∨ n = 3 := by omega
  rcases this with rfl | rfl | rfl <;> assumption
def Pl.hd0s (n : Nat) : List Value := (List.replicate n Pl.head0).flatMap fun _ => [.slice none 0 0, .int .i64 0]
theorem make_heads (n : Nat) (h1 : 1 ≤ n) (h3 : n ≤ 3) (W : World) : (Instr.makeSlice 23 (.int .i64 n) (.int .i64 n)).run Try.prog W = .ok (.slice (some ⟨W.heap.size, 0, none⟩) n n) (W.alloc (.cells (Pl.hd0s n).toArray 35)) :=
  upto3 (p := fun n => (Instr.makeSlice 23 (.int .i64 n) (.int .i64 n)).run Try.prog W = .ok (.slice (some ⟨W.heap.size, 0, none⟩) n n) (W.alloc (.cells (Pl.hd0s n).toArray 35))) (by kernel_rfl) (by kernel_rfl) (by kernel_rfl) n h1 h3
theorem heads_own {X : World} {n : Nat} (h : n ≤ 3) : Mm.SlOwn rHead 35 (X.alloc (.cells (Pl.hd0s n).toArray 35)) (List.replicate n Pl.head0) (.slice (some ⟨X.heap.size, 0, none⟩) n n) [X.heap.size] :=
  Mm.SlOwn.of_blk (fun _ => [.slice none 0 0, .int .i64 0]) (Mm.Blk.new X 35 (Pl.hd0s n)) (fun x hx => by rw [(List.mem_replicate.1 hx).2]; exact rHead0_own) (by simp) (by unfold maxLen; omega)
theorem Try.infoHo1 : (Try.prog.info? 48).map (fun i => (i.zero, i.size, i.bytes)) = some (some (.agg #[.slice none 0 0, .int .i64 0]), 2, 32) := by kernel_rfl
theorem Try.infoHo2 : (Try.prog.info? 35).map (fun i => (i.zero, i.size, i.bytes)) = some (some (.agg #[.slice none 0 0, .int .i64 0]), 2, 32) := by kernel_rfl
theorem piece0_own {w : World} {g : Nat} (h : Mm.Blk w g 76 [.int .i64 0, .string ⟨#[]⟩, .slice none 0 0]) : Mm.SlOwn rPiece 76 w [⟨0, ⟨#[]⟩, []⟩] (.slice (some ⟨g, 0, none⟩) 1 1) [g] :=
  Mm.SlOwn.of_blk (fun _ => [.int .i64 0, .string ⟨#[]⟩, .slice none 0 0]) h (fun x hx => by rw [List.mem_singleton.1 hx]; exact rPiece_own_mk (x := ⟨0, ⟨#[]⟩, []⟩) (by show Mm.I64 0; unfold Mm.I64; simp) (by show (0 : Nat) ≤ _; exact Nat.zero_le _) Mm.SlOwn.nil) rfl (by unfold maxLen; omega)
def NewLogC (w : World) (e : Ending) (w' : World) : Prop := ∃ g f, e = .returned (.agg #[.slice (some ⟨g, 0, none⟩) 1 1, .int .i64 0]) ∧ rLog.own w' Pl.log0 [.slice (some ⟨g, 0, none⟩) 1 1, .int .i64 0] f ∧ f.Nodup ∧ (∀ b, b ∈ f → w.heap.size ≤ b) ∧ Below w.heap.size w w'
theorem implNewLog_c (w : World) : Calls Try.prog 41 #[] w (NewLogC w) := by
  have HB := Lib.hid ((Mm.Blk.new' (w.alloc (.cells #[.slice none 0 0, .int .i64 0] 48)) 76 [.int .i64 0, .string ⟨#[]⟩, .slice none 0 0] (Mm.sz1 _ _)))
  have HL := Lib.hid (show Below w.heap.size w ((w.alloc (.cells #[.slice none 0 0, .int .i64 0] 48)).alloc (.cells #[.int .i64 0, .string ⟨#[]⟩, .slice none 0 0] 76)) from below_new (below_new (Below.refl _ _) _) _)
  have KR := Lib.hid ((Mm.Blk.new w 48 [.slice none 0 0, .int .i64 0]).alloc (.cells #[.int .i64 0, .string ⟨#[]⟩, .slice none 0 0] 76))
  go_enter Try.func41, Try.ntmps41
  go_wp2
  refine bodyPost_ret (v := .agg #[.slice (some ⟨w.heap.size + 1, 0, none⟩) 1 1, .int .i64 0]) (by simp [results, Try.results41, go_sem]) rfl ⟨w.heap.size + 1, [w.heap.size + 1], rfl, rLog_own_mk (x := Pl.log0) (piece0_own ?_) (by show Mm.I64 0; unfold Mm.I64; simp), by simp, fun b hb => by simp at hb; omega, ?_⟩
  · exact (Mm.Blk.new' _ 76 [.int .i64 0, .string ⟨#[]⟩, .slice none 0 0] (Mm.sz1 _ _))
  · exact below_new (below_new (Below.refl _ _) _) _
theorem specNewLog_c (w : World) : Calls Try.prog 20 #[] w (NewLogC w) := by
  have HB := Lib.hid ((Mm.Blk.new' (w.alloc (.cells #[.slice none 0 0, .int .i64 0] 48)) 76 [.int .i64 0, .string ⟨#[]⟩, .slice none 0 0] (Mm.sz1 _ _)))
  have HL := Lib.hid (show Below w.heap.size w ((w.alloc (.cells #[.slice none 0 0, .int .i64 0] 48)).alloc (.cells #[.int .i64 0, .string ⟨#[]⟩, .slice none 0 0] 76)) from below_new (below_new (Below.refl _ _) _) _)
  have KR := Lib.hid ((Mm.Blk.new w 48 [.slice none 0 0, .int .i64 0]).alloc (.cells #[.int .i64 0, .string ⟨#[]⟩, .slice none 0 0] 76))
  go_enter Try.func20, Try.ntmps20
  go_wp2
  refine bodyPost_ret (v := .agg #[.slice (some ⟨w.heap.size + 1, 0, none⟩) 1 1, .int .i64 0]) (by simp [results, Try.results20, go_sem]) rfl ⟨w.heap.size + 1, [w.heap.size + 1], rfl, rLog_own_mk (x := Pl.log0) (piece0_own ?_) (by show Mm.I64 0; unfold Mm.I64; simp), by simp, fun b hb => by simp at hb; omega, ?_⟩
  · exact (Mm.Blk.new' _ 76 [.int .i64 0, .string ⟨#[]⟩, .slice none 0 0] (Mm.sz1 _ _))
  · exact below_new (below_new (Below.refl _ _) _) _
theorem lg_snoc (k : Nat) : List.replicate k Pl.log0 ++ [Pl.log0] = List.replicate (k + 1) Pl.log0 := by rw [List.replicate_succ']
theorem hd_snoc (k : Nat) : List.replicate k Pl.head0 ++ [Pl.head0] = List.replicate (k + 1) Pl.head0 := by rw [List.replicate_succ']
theorem house_ret {w wr : World} {x : House} {A0 A1 A2 : Option Addr} {n0 c0 n1 c1 n2 c2 : Nat} {f0 f1 f2 : List Nat} (h : Mm.SepF [] w wr [Mm.tsl rLog 48 x.Logs (.slice A0 n0 c0) f0, Mm.tsl rHead 35 x.Heads (.slice A1 n1 c1) f1, Mm.tsl rHead 35 x.Kept (.slice A2 n2 c2) f2]) :
    Mm.NewAg rHouse w x (.returned (.agg #[.slice A0 n0 c0, .slice A1 n1 c1, .slice A2 n2 c2])) wr := by
  refine ⟨[.slice A0 n0 c0, .slice A1 n1 c1, .slice A2 n2 c2], f0 ++ (f1 ++ f2), rfl, rHouse_own_mk (h.sl 0 rfl) (h.sl 1 rfl) (h.sl 2 rfl), ?_, fun b hb => ?_, h.bel0⟩
  · have := h.nd; simpa [Mm.tsl] using this
  · have := h.new b (by simpa [Mm.tsl] using hb)
    rcases this with h | h
    · cases h
    · exact h
set_option maxRecDepth 100000 in
set_option maxHeartbeats 1000000 in
theorem newHouse_c (n : Nat) (w : World) (h1 : 1 ≤ n) (h3 : n ≤ 3) : Calls Try.prog 22 #[.int .i64 n] w (Mm.NewAg rHouse w (Pl.newHo n)) := by
  have hmk := make_heads n h1 h3
  have KS0 := Lib.hid ((Mm.SepF.start w).alloc' rfl 25 [.slice none 0 0, .slice none 0 0, .slice none 0 0])
  go_enter Try.func22, Try.ntmps22
  go_wp2
  obtain ⟨W1, hW1⟩ : ∃ W1, W1 = w.alloc (.cells #[.slice none 0 0, .slice none 0 0, .slice none 0 0] 25) := ⟨_, rfl⟩
  rw [show [Value.slice none 0 0, .slice none 0 0, .slice none 0 0].toArray = #[.slice none 0 0, .slice none 0 0, .slice none 0 0] from rfl, ← hW1] at KS0
  rw [← hW1]
  clear hW1
  refine Mm.wp_region_give 6 (fun i => match i with | 1 => some (Mm.gSl rHead 35 (List.replicate n Pl.head0)) | 3 => some (Mm.gSl rHead 35 (List.replicate n Pl.head0)) | 5 => some (Mm.gPtr 25 [.slice none 0 0, .slice none 0 0, .slice none 0 0]) | _ => none) (fun _ => []) (fun _ => []) (F := []) (D := fun w' => ∃ x : Und W1, w' = und W1 x) (fun X us h => Mm.sep_und h) (by kernel_rfl) (by kernel_rfl) (by kernel_rfl) (Mm.SepF.startDrew _) ?_
  repeat (refine Mm.give_det (by rfl) (by rfl) (by rfl) (fun K hK => ?_); go_big_quiet_op; refine hK _ ?_; clear hK K)
  refine Mm.give_op0 5 (by rfl) rfl (by rfl) (by rfl) (by rfl) (by rfl) Mm.gSl_in (fun others X hX => ?_) ?_
  · go_wp2
    exact Mm.gvq_sl hX (below_new (Below.refl _ _) _) (heads_own h3) (by simp) (by simp) rfl rfl
  rintro v ds ⟨A2, n2, c2, f2, rfl, rfl, hn2⟩
  simp only [Act.put, List.setIfInBounds_toArray, List.set_cons_succ, List.set_cons_zero]
  repeat (refine Mm.give_det (by rfl) (by rfl) (by rfl) (fun K hK => ?_); go_big_quiet_op; refine hK _ ?_; clear hK K)
  refine Mm.give_op0 7 (by rfl) rfl (by rfl) (by rfl) (by rfl) (by rfl) Mm.gSl_in (fun others X hX => ?_) ?_
  · go_wp2
    exact Mm.gvq_sl hX (below_new (Below.refl _ _) _) (heads_own h3) (by simp) (by simp) rfl rfl
  rintro v ds ⟨A3, n3, c3, f3, rfl, rfl, hn3⟩
  simp only [Act.put, List.setIfInBounds_toArray, List.set_cons_succ, List.set_cons_zero]
  repeat (refine Mm.give_det (by rfl) (by rfl) (by rfl) (fun K hK => ?_); go_big_quiet_op; refine hK _ ?_; clear hK K)
  refine Mm.give_op0 3 (by rfl) rfl (by rfl) (by rfl) (by rfl) (by rfl) Mm.gPtr_in (fun others X hX => ?_) ?_
  · go_wp2
    exact Mm.gvq_ptr hX rfl rfl rfl
  rintro v ds ⟨g6, rfl, rfl⟩
  simp only [Act.put, List.setIfInBounds_toArray, List.set_cons_succ, List.set_cons_zero]
  refine Mm.give_nil ?_
  rintro X hX
  have HX := Lib.hid (KS0.out.join (us := [Mm.tsl rHead 35 (List.replicate n Pl.head0) (.slice A2 n2 c2) f2, Mm.tsl rHead 35 (List.replicate n Pl.head0) (.slice A3 n3 c3) f3, Mm.tblk g6 25 [.slice none 0 0, .slice none 0 0, .slice none 0 0]]) hX)
  clear hX
  have p0 := HX.out.frz (k := 0) 2 rfl
  have p1 := HX.out.frz (k := 1) 2 rfl
  have p2 := HX.out.frz (k := 2) 2 rfl
  have s0 := HX.out.cell (k := 0) 2 rfl rfl
  have s1 := HX.out.cell (k := 1) 2 rfl rfl
  have s2 := HX.out.cell (k := 2) 2 rfl rfl
  have HX2 := Lib.hid (((((HX.out.setBlk (k := 0) 2 rfl (.slice none 0 0)).setBlk (k := 1) 2 rfl (.slice A2 n2 c2)).setBlk (k := 2) 2 rfl (.slice A3 n3 c3)).sel [2, 0, 1, 3] (by decide) rfl).add (Below.refl _ _) (t := Mm.tsl rLog 48 [] (.slice none 0 0) []) Mm.SlOwn.nil List.nodup_nil (fun b hb => by cases hb))
  go_wp2
  clear p0 p1 p2 s0 s1 s2 KS0 hmk
  go_loopg [10] n (fun g i wx => ∃ (k : Nat) (A : Option Addr) (c : Nat) (f : List Nat), n - k ≤ g ∧ k ≤ n ∧ i = .int .i64 k ∧ Hid (Mm.SepF [] w wx [Mm.tsl rLog 48 (List.replicate k Pl.log0) (.slice A k c) f, Mm.tblk g6 25 [.slice A k c, .slice A2 n2 c2, .slice A3 n3 c3], Mm.tsl rHead 35 (List.replicate n Pl.head0) (.slice A2 n2 c2) f2, Mm.tsl rHead 35 (List.replicate n Pl.head0) (.slice A3 n3 c3) f3, Mm.tblk w.heap.size 25 [.slice none 0 0, .slice none 0 0, .slice none 0 0]]))
  case atStart => exact ⟨0, none, 0, [], Nat.le_refl _, Nat.zero_le _, rfl, HX2.out⟩
  case round =>
    clear HX HX2
    obtain ⟨k, A, c, f, hgk, hk, rfl, HS⟩ := hrel
    obtain ⟨W, rfl⟩ : ∃ W : World, W = wr := ⟨_, rfl⟩
    have d0 := HS.out.cell (k := 0) 1 rfl rfl
    have d1 := HS.out.cell (k := 1) 1 rfl rfl
    have d2 := HS.out.cell (k := 2) 1 rfl rfl
    have z0 := HS.out.frz (k := 0) 1 rfl
    by_cases hlt : k < n
    · have hlt' : (k : Int) < (n : Nat) := by omega
      obtain ⟨i0, hi, hz0, hz1, hz2⟩ := info_parts Try.infoHo1
      go_wp2
      go_region_law (first
        | (go_simp; go_at_call 41; (with_reducible refine (implNewLog_c _).mono ?_); rintro e w1 ⟨gl, fl, rfl, ho, hnd, hnew, hb⟩; (have HS1 := Lib.hid (HS.out.addEnd (below_step (Below.refl _ _).drew hb) (t := Mm.tow rLog Pl.log0 [.slice (some ⟨gl, 0, none⟩) 1 1, .int .i64 0] fl) ho hnd hnew)); obtain ⟨l0, ho3, hnext⟩ := HS1.out.push (W2 := w1.alloc (.cells #[.slice (some ⟨gl, 0, none⟩) 1 1, .int .i64 0] 48)) 0 5 (by decide) rfl rfl (below_new (Below.refl _ _) _) (x := Pl.log0) (cx := [.slice (some ⟨gl, 0, none⟩) 1 1, .int .i64 0]) (fun W h => h); rw [List.length_replicate] at ho3 hnext; (have HNX := Lib.hid hnext); (have e0 := HS1.out.cell (k := 0) 1 rfl rfl); (have y0 := HS1.out.frz (k := 0) 1 rfl); clear hnext ho hnd hnew hb)
        | (refine step_append_lies _ (by rfl) (.tmp 13) (.tmp 15) 22 (by rfl) 0 48 i0 _ 2 32 Try.underlying22 hi hz0 hz1 hz2 rfl (by omega) (.slice A k c) k l0 (by rfl) ho3 ⟨w1.heap.size, 0, none⟩ 1 1 [.slice (some ⟨gl, 0, none⟩) 1 1, .int .i64 0] (by rfl) (by rfl) (World.news_of_block (B := w1.heap.size) (cs := #[.slice (some ⟨gl, 0, none⟩) 1 1, .int .i64 0]) (t := 48) (fr := (0, 0)) (heap_alloc_new w1 _)) (by simp [Value.oneCell']) (by omega) (by unfold maxLen; omega) (by omega) (Nat.zero_le _) _ rfl ?_; intro gg cap w4 hown1 hgrow hat hlt9; obtain ⟨fp', hs4⟩ := HNX.out gg cap w4 hown1 hgrow hat; (have HS4 := Lib.hid hs4); (have d0' := HS4.out.cell (k := 0) 1 rfl rfl); (have z0' := HS4.out.frz (k := 0) 1 rfl); clear hs4 hown1 hgrow hat))
      all_goals
        go_wp2
        go_roundg (n - (k + 1))
        case measure => omega
        case rel => exact ⟨k + 1, _, cap, fp', Nat.le_refl _, by omega, by go_num, by rw [← lg_snoc]; exact (HS4.out.setBlk (k := 0) 1 rfl _).sel [0, 1, 2, 3, 4] (by decide) rfl⟩
    · obtain rfl : k = n := by omega
      have r0 := HS.out.cell (k := 0) 4 rfl rfl
      have r1 := HS.out.cell (k := 1) 4 rfl rfl
      have r2 := HS.out.cell (k := 2) 4 rfl rfl
      have y0 := HS.out.frz (k := 0) 4 rfl
      have y1 := HS.out.frz (k := 1) 4 rfl
      have y2 := HS.out.frz (k := 2) 4 rfl
      have HS6 := Lib.hid ((((HS.out.setBlk (k := 0) 4 rfl (.slice A k c)).setBlk (k := 1) 4 rfl (.slice A2 n2 c2)).setBlk (k := 2) 4 rfl (.slice A3 n3 c3)).sel [0, 2, 3] (by decide) rfl)
      go_wp2
      exact bodyPost_ret (v := .agg #[.slice A k c, .slice A2 n2 c2, .slice A3 n3 c3]) (by simp [results, Try.results22, go_sem, r0, r1, r2]) rfl (house_ret HS6.out)
theorem house_ret2 {w wr : World} {x : House} {A0 A1 A2 : Option Addr} {n0 c0 n1 c1 n2 c2 : Nat} {f0 f1 f2 : List Nat} (h : Mm.SepF [] w wr [Mm.tsl rLog 48 x.Logs (.slice A0 n0 c0) f0, Mm.tsl rHead 35 x.Heads (.slice A1 n1 c1) f1, Mm.tsl rHead 35 x.Kept (.slice A2 n2 c2) f2]) :
    Mm.Ret2 rHouse w x true (.returned (.tuple #[.agg #[.slice A0 n0 c0, .slice A1 n1 c1, .slice A2 n2 c2], .bool true])) wr := by
  refine ⟨[.slice A0 n0 c0, .slice A1 n1 c1, .slice A2 n2 c2], f0 ++ (f1 ++ f2), rfl, rHouse_own_mk (h.sl 0 rfl) (h.sl 1 rfl) (h.sl 2 rfl), ?_, fun b hb => ?_, h.bel0⟩
  · have := h.nd; simpa [Mm.tsl] using this
  · have := h.new b (by simpa [Mm.tsl] using hb)
    rcases this with h | h
    · cases h
    · exact h
theorem house0_ret {w wr : World} (h : Below w.heap.size w wr) : Mm.Ret2 rHouse w ⟨[], [], []⟩ false (.returned (.tuple #[.agg #[.slice none 0 0, .slice none 0 0, .slice none 0 0], .bool false])) wr :=
  ⟨[.slice none 0 0, .slice none 0 0, .slice none 0 0], [], rfl, rHouse_own_mk (x := ⟨[], [], []⟩) Mm.SlOwn.nil Mm.SlOwn.nil Mm.SlOwn.nil, List.nodup_nil, (fun b hb => by cases hb), h⟩
set_option maxHeartbeats 1000000 in
theorem implNewHouse_c (n : Int) (w : World) : Calls Try.prog 6 #[.int .i64 n] w (Mm.Ret2 rHouse w (Pl.newHouse n).1 (Pl.newHouse n).2) := by
  cases h : Pl.isIn n 1 3
  · have e : Pl.newHouse n = (⟨[], [], []⟩, false) := if_neg (by rw [h]; simp)
    rw [e]
    go_enter Try.func6, Try.ntmps6
    go_wp2_with (go_at_call 21; refine (within_c _ _ _ _).mono ?_; rintro e w' ⟨rfl, rfl⟩)
    exact bodyPost_ret (v := .tuple #[.agg #[.slice none 0 0, .slice none 0 0, .slice none 0 0], .bool false]) (by simp [results, Try.results6, go_sem]) rfl (house0_ret (below_new (Below.refl _ _) _))
  · have e : Pl.newHouse n = (Pl.newHo n.toNat, true) := if_pos h
    rw [e]
    have hb : 1 ≤ n ∧ n ≤ 3 := by unfold Pl.isIn at h; simpa using h
    obtain ⟨p, rfl⟩ : ∃ p : Nat, n = (p : Int) := ⟨n.toNat, by omega⟩
    rw [Int.toNat_natCast]
    have KS := Lib.hid ((Mm.SepF.start w).alloc' rfl 25 [.slice none 0 0, .slice none 0 0, .slice none 0 0])
    have h1 : 1 ≤ p := by omega
    have h3 : p ≤ 3 := by omega
    go_enter Try.func6, Try.ntmps6
    go_wp2_with first
      | (go_at_call 21; refine (within_c _ _ _ _).mono ?_; rintro e w' ⟨rfl, rfl⟩)
      | (go_at_call 22; (have C1 := newHouse_c p (w.alloc (.cells #[.slice none 0 0, .slice none 0 0, .slice none 0 0] 25)) h1 h3); (with_reducible refine C1.mono ?_); clear C1; rintro e w1 ⟨cs, fp, rfl, ho, hnd, hnw, hb1⟩; obtain ⟨A0, n0, c0, A1, n1, c1, A2, n2, c2, f0, f1, f2, rfl, rfl, k0, k1, k2⟩ := rHouse_own ho; (have KS1 := Lib.hid (KS.out.step hb1)); (have r0 := KS1.out.cell (k := 0) 0 rfl rfl); (have r1 := KS1.out.cell (k := 1) 0 rfl rfl); (have r2 := KS1.out.cell (k := 2) 0 rfl rfl); (have x0 := KS1.out.frz (k := 0) 0 rfl); (have x1 := KS1.out.frz (k := 1) 0 rfl); (have x2 := KS1.out.frz (k := 2) 0 rfl); (have KS2 := Lib.hid ((((KS.out.addEnd hb1 (t := Mm.tow rHouse (Pl.newHo p) _ _) ho hnd hnw).setBlk (k := 0) 0 rfl (.slice A0 n0 c0)).setBlk (k := 1) 0 rfl (.slice A1 n1 c1)).setBlk (k := 2) 0 rfl (.slice A2 n2 c2))); clear ho hnd hnw hb1 k0 k1 k2)
    exact bodyPost_ret (v := .tuple #[.agg #[.slice A0 n0 c0, .slice A1 n1 c1, .slice A2 n2 c2], .bool true]) (by simp [results, Try.results6, go_sem, r0, r1, r2]) rfl ⟨[.slice A0 n0 c0, .slice A1 n1 c1, .slice A2 n2 c2], f0 ++ (f1 ++ f2), rfl, KS2.out.at_ 1 rfl, KS2.out.ndat (i := 1) rfl, fun b hb => (by have := KS2.out.new b (Mm.SepF.mem (i := 1) rfl hb); rcases this with h | h; (cases h); exact h), KS2.out.bel0⟩
set_option maxRecDepth 100000 in
set_option maxHeartbeats 1000000 in
theorem specNewHouse_yes (n : Nat) (w : World) (h1 : 1 ≤ n) (h3 : n ≤ 3) : Calls Try.prog 5 #[.int .i64 n] w (Mm.Ret2 rHouse w (Pl.newHo n) true) := by
  have hin : Pl.isIn n 1 3 = true := by unfold Pl.isIn; simp; omega
  have KS0 := Lib.hid ((((((Mm.SepF.start w).alloc' rfl 25 [.slice none 0 0, .slice none 0 0, .slice none 0 0]).alloc' (Mm.sz1 _ _) 25 [.slice none 0 0, .slice none 0 0, .slice none 0 0]).add (Below.refl _ _) (t := Mm.tsl rHead 35 [] (.slice none 0 0) []) Mm.SlOwn.nil List.nodup_nil (fun b hb => by cases hb)).add (Below.refl _ _) (t := Mm.tsl rHead 35 [] (.slice none 0 0) []) Mm.SlOwn.nil List.nodup_nil (fun b hb => by cases hb)).add (Below.refl _ _) (t := Mm.tsl rLog 48 [] (.slice none 0 0) []) Mm.SlOwn.nil List.nodup_nil (fun b hb => by cases hb))
  go_enter Try.func5, Try.ntmps5
  go_wp2_with (go_at_call 19; refine (l1In_c _ _ _ _).mono ?_; rintro e w' ⟨rfl, rfl⟩)
  go_loopg [0] n (fun g i wx => ∃ (k : Nat) (A A2 A3 : Option Addr) (c c2 c3 : Nat) (f f2 f3 : List Nat), n - k ≤ g ∧ k ≤ n ∧ i = .int .i64 ((n : Int) - k) ∧ Hid (Mm.SepF [] w wx [Mm.tsl rLog 48 (List.replicate k Pl.log0) (.slice A k c) f, Mm.tsl rHead 35 (List.replicate k Pl.head0) (.slice A2 k c2) f2, Mm.tsl rHead 35 (List.replicate k Pl.head0) (.slice A3 k c3) f3, Mm.tblk (w.heap.size + 1) 25 [.slice A k c, .slice A2 k c2, .slice A3 k c3], Mm.tblk w.heap.size 25 [.slice none 0 0, .slice none 0 0, .slice none 0 0]]))
  case atStart => exact ⟨0, none, none, none, 0, 0, 0, [], [], [], Nat.le_refl _, Nat.zero_le _, by go_num, KS0.out⟩
  case round =>
    clear KS0
    obtain ⟨k, A, A2, A3, c, c2, c3, f, f2, f3, hgk, hk, rfl, HS⟩ := hrel
    obtain ⟨W, rfl⟩ : ∃ W : World, W = wr := ⟨_, rfl⟩
    have d0 := HS.out.cell (k := 0) 3 rfl rfl
    have d1 := HS.out.cell (k := 1) 3 rfl rfl
    have d2 := HS.out.cell (k := 2) 3 rfl rfl
    have z0 := HS.out.frz (k := 0) 3 rfl
    by_cases hlt : k < n
    · have hlt' : 0 < (n : Int) - k := by omega
      obtain ⟨i0, hi, hz0, hz1, hz2⟩ := info_parts Try.infoHo1
      obtain ⟨i1, hi1, hy0, hy1, hy2⟩ := info_parts Try.infoHo2
      go_wp2
      go_region_law (first
        | (go_simp; go_at_call 20; (with_reducible refine (specNewLog_c _).mono ?_); rintro e w1 ⟨gl, fl, rfl, ho, hnd, hnew, hb⟩; (have HS1 := Lib.hid (HS.out.addEnd (below_step (Below.refl _ _).drew hb) (t := Mm.tow rLog Pl.log0 [.slice (some ⟨gl, 0, none⟩) 1 1, .int .i64 0] fl) ho hnd hnew)); obtain ⟨l0, ho3, hnext⟩ := HS1.out.push (W2 := w1.alloc (.cells #[.slice (some ⟨gl, 0, none⟩) 1 1, .int .i64 0] 48)) 0 5 (by decide) rfl rfl (below_new (Below.refl _ _) _) (x := Pl.log0) (cx := [.slice (some ⟨gl, 0, none⟩) 1 1, .int .i64 0]) (fun W h => h); rw [List.length_replicate] at ho3 hnext; (have HNX := Lib.hid hnext); (have e0 := HS1.out.cell (k := 0) 3 rfl rfl); (have y0 := HS1.out.frz (k := 0) 3 rfl); clear hnext ho hnd hnew hb)
        | (refine step_append_lies _ (by rfl) (.tmp 14) (.tmp 16) 22 (by rfl) 0 48 i0 _ 2 32 Try.underlying22 hi hz0 hz1 hz2 rfl (by omega) (.slice A k c) k l0 (by rfl) ho3 ⟨w1.heap.size, 0, none⟩ 1 1 [.slice (some ⟨gl, 0, none⟩) 1 1, .int .i64 0] (by rfl) (by rfl) (World.news_of_block (B := w1.heap.size) (cs := #[.slice (some ⟨gl, 0, none⟩) 1 1, .int .i64 0]) (t := 48) (fr := (0, 0)) (heap_alloc_new w1 _)) (by simp [Value.oneCell']) (by omega) (by unfold maxLen; omega) (by omega) (Nat.zero_le _) _ rfl ?_; intro gg cap w4 hown1 hgrow hat hlt9; obtain ⟨fp', hs4⟩ := HNX.out gg cap w4 hown1 hgrow hat; (have HS4 := Lib.hid hs4); (have d0' := HS4.out.cell (k := 0) 3 rfl rfl); (have z0' := HS4.out.frz (k := 0) 3 rfl); clear hs4 hown1 hgrow hat))
      all_goals
        have HS5 := Lib.hid ((HS4.out.setBlk (k := 0) 3 rfl (.slice (some ⟨gg, 0, none⟩) (k + 1) cap)).sel [0, 1, 2, 3, 4] (by decide) rfl)
        obtain ⟨l1, ho1, hnx1⟩ := HS5.out.push0 (W2 := (w4.setCell ⟨w.heap.size + 1, 0, none⟩ (.slice (some ⟨gg, 0, none⟩) (k + 1) cap)).alloc (.cells #[.slice none 0 0, .int .i64 0] 35)) 1 rfl (below_new (Below.refl _ _) _) (x := Pl.head0) (cx := [.slice none 0 0, .int .i64 0]) rHead0_own
        rw [List.length_replicate] at ho1 hnx1
        have HNX1 := Lib.hid hnx1
        have HO1 := Lib.hid ho1
        have v1 := HS5.out.cell (k := 1) 3 rfl rfl
        clear hnx1 ho1 HS4 d0 d1 d2 z0
        go_wp2_with first
          | (at_builtin; refine wpList_append_lies _ (by rfl) _ _ _ (by rfl) 0 35 i1 _ 2 32 Try.underlying23 hi1 hy0 hy1 hy2 rfl (by omega) (.slice A2 k c2) k l1 (by rfl) HO1.out ⟨w4.heap.size, 0, none⟩ 1 1 [.slice none 0 0, .int .i64 0] (by rfl) (by rfl) (World.news_of_block (B := w4.heap.size) (cs := #[.slice none 0 0, .int .i64 0]) (t := 35) (fr := (0, 0)) (Mm.heap_new _ (setC_size _ _ _) _)) (by simp [Value.oneCell']) (by omega) (by unfold maxLen; omega) (by omega) (Nat.zero_le _) _ rfl ?_; intro g5 cap5 w5 hownA hgrowA hatA hltA; obtain ⟨f5, hs5⟩ := HNX1.out g5 cap5 w5 hownA hgrowA hatA; (have HS6 := Lib.hid (hs5.setBlk (k := 1) 3 rfl (.slice (some ⟨g5, 0, none⟩) (k + 1) cap5))); obtain ⟨l2, ho2, hnx2⟩ := HS6.out.push0 (W2 := (w5.setCell ⟨w.heap.size + 1, 1, none⟩ (.slice (some ⟨g5, 0, none⟩) (k + 1) cap5)).alloc (.cells #[.slice none 0 0, .int .i64 0] 35)) 2 rfl (below_new (Below.refl _ _) _) (x := Pl.head0) (cx := [.slice none 0 0, .int .i64 0]) rHead0_own; rw [List.length_replicate] at ho2 hnx2; (have HNX2 := Lib.hid hnx2); (have HO2 := Lib.hid ho2); (have q1 := hs5.cell (k := 1) 3 rfl rfl); (have q2 := hs5.cell (k := 2) 3 rfl rfl); (have q3 := hs5.frz (k := 1) 3 rfl); (have q4 := HS6.out.cell (k := 2) 3 rfl rfl); clear hs5 hownA hgrowA hatA hltA hnx2 ho2)
          | (at_builtin; refine wpList_append_lies _ (by rfl) _ _ _ (by rfl) 0 35 i1 _ 2 32 Try.underlying23 hi1 hy0 hy1 hy2 rfl (by omega) (.slice A3 k c3) k l2 (by rfl) HO2.out ⟨w5.heap.size, 0, none⟩ 1 1 [.slice none 0 0, .int .i64 0] (by rfl) (by rfl) (World.news_of_block (B := w5.heap.size) (cs := #[.slice none 0 0, .int .i64 0]) (t := 35) (fr := (0, 0)) (Mm.heap_new _ (setC_size _ _ _) _)) (by simp [Value.oneCell']) (by omega) (by unfold maxLen; omega) (by omega) (Nat.zero_le _) _ rfl ?_; intro g6 cap6 w6 hownA hgrowA hatA hltA; obtain ⟨f6, hs6⟩ := HNX2.out g6 cap6 w6 hownA hgrowA hatA; (have HS7 := Lib.hid hs6); (have q5 := hs6.cell (k := 2) 3 rfl rfl); (have q6 := hs6.frz (k := 2) 3 rfl); clear hs6 hownA hgrowA hatA hltA)
        go_roundg (n - (k + 1))
        case measure => omega
        case rel => exact ⟨k + 1, _, _, _, cap, cap5, cap6, fp', f5, f6, Nat.le_refl _, by omega, by go_num, by rw [← lg_snoc, ← hd_snoc]; exact (HS7.out.setBlk (k := 2) 3 rfl _).sel [0, 1, 2, 3, 4] (by decide) rfl⟩
    · obtain rfl : k = n := by omega
      have r0 := HS.out.cell (k := 0) 4 rfl rfl
      have r1 := HS.out.cell (k := 1) 4 rfl rfl
      have r2 := HS.out.cell (k := 2) 4 rfl rfl
      have y0 := HS.out.frz (k := 0) 4 rfl
      have y1 := HS.out.frz (k := 1) 4 rfl
      have y2 := HS.out.frz (k := 2) 4 rfl
      have hlt' : ¬ 0 < (k : Int) - k := by omega
      have HS6 := Lib.hid ((((HS.out.setBlk (k := 0) 4 rfl (.slice A k c)).setBlk (k := 1) 4 rfl (.slice A2 k c2)).setBlk (k := 2) 4 rfl (.slice A3 k c3)).sel [0, 1, 2] (by decide) rfl)
      go_wp2
      exact bodyPost_ret (v := .tuple #[.agg #[.slice A k c, .slice A2 k c2, .slice A3 k c3], .bool true]) (by simp [results, Try.results5, go_sem, r0, r1, r2]) rfl (house_ret2 HS6.out)
set_option maxHeartbeats 1000000 in
theorem specNewHouse_c (n : Int) (w : World) : Calls Try.prog 5 #[.int .i64 n] w (Mm.Ret2 rHouse w (Pl.newHouse n).1 (Pl.newHouse n).2) := by
  cases h : Pl.isIn n 1 3
  · have e : Pl.newHouse n = (⟨[], [], []⟩, false) := if_neg (by rw [h]; simp)
    rw [e]
    go_enter Try.func5, Try.ntmps5
    go_wp2_with (go_at_call 19; refine (l1In_c _ _ _ _).mono ?_; rintro e w' ⟨rfl, rfl⟩)
    exact bodyPost_ret (v := .tuple #[.agg #[.slice none 0 0, .slice none 0 0, .slice none 0 0], .bool false]) (by simp [results, Try.results5, go_sem]) rfl (house0_ret (below_new (Below.refl _ _) _))
  · have e : Pl.newHouse n = (Pl.newHo n.toNat, true) := if_pos h
    rw [e]
    have hb : 1 ≤ n ∧ n ≤ 3 := by unfold Pl.isIn at h; simpa using h
    have := specNewHouse_yes n.toNat w (by omega) (by omega)
    rwa [show ((n.toNat : Nat) : Int) = n by omega] at this
end Go.Proofs.Ytkodfflnpalbbaa
