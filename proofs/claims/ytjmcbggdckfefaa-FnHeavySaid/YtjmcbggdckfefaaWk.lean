/-
  Contracts on new sketches. No conditions.
-/
import Derived.Test.YtjmcbggdckfefaaWa
import Derived.Test.YtjmcbggdckfefaaTy
import Derived.Deep.RegionLaw
import Derived.Lib.Hide
namespace Go.Proofs.Ytjmcbggdckfefaa
open Go.RowKit
attribute [local go_sem] und_cell World.cell?_alloc_some
theorem Try.infoInts : (Try.prog.info? 34).map (fun i => (i.zero, i.size, i.bytes)) = some (some (.slice none 0 0), 1, 24) := by kernel_rfl
theorem Try.infoInt : (Try.prog.info? 3).map (fun i => (i.zero, i.size, i.bytes)) = some (some (.int .i64 0), 1, 8) := by kernel_rfl
def zrow : List Int := List.replicate 11 0
def Pl.newSk (n : Nat) : Sketch := ⟨List.replicate n zrow, 0⟩
def zcells : List Value := [.int .i64 0, .int .i64 0, .int .i64 0, .int .i64 0, .int .i64 0, .int .i64 0, .int .i64 0, .int .i64 0, .int .i64 0, .int .i64 0, .int .i64 0]
def Pl.newSketch (n : Int) : Sketch × Bool := if Pl.isIn n 1 3 = true then (Pl.newSk n.toNat, true) else (⟨[], 0⟩, false)
theorem make_row (W : World) : (Instr.makeSlice 34 (.int .i64 11) (.int .i64 11)).run Try.prog W = .ok (.slice (some ⟨W.heap.size, 0, none⟩) 11 11) (W.alloc (.cells #[.int .i64 0, .int .i64 0, .int .i64 0, .int .i64 0, .int .i64 0, .int .i64 0, .int .i64 0, .int .i64 0, .int .i64 0, .int .i64 0, .int .i64 0] 3)) := by kernel_rfl
theorem zero_int (w : World) : Mm.int.own w 0 [.int .i64 0] [] := ⟨rfl, by unfold Mm.I64; simp, rfl⟩
theorem zrow_own {w : World} {g : Nat} (h : Mm.Blk w g 3 zcells) : ints.own w zrow [.slice (some ⟨g, 0, none⟩) 11 11] [g] :=
  ⟨_, rfl, Mm.SlOwn.of_blk (fun n => [.int .i64 n]) h (fun x hx => by
    have : x = 0 := by unfold zrow at hx; exact (List.mem_replicate.1 hx).2
    subst this; exact zero_int w) rfl (by unfold maxLen; omega)⟩
/-- k rows have been appended -/
def RowsAt (w : World) (gs k : Nat) (wr : World) : Prop :=
  Mm.Blk wr w.heap.size 26 [.slice none 0 0, .int .i64 0] ∧ ∃ A c fp, Mm.Blk wr gs 26 [.slice A k c, .int .i64 0] ∧ Mm.SlOwn ints 34 wr (List.replicate k zrow) (.slice A k c) fp ∧ fp.Nodup ∧ (∀ b, b ∈ fp → gs < b) ∧ Below w.heap.size w wr
theorem RowsAt.start {w wr : World} {gs : Nat} (h0 : Mm.Blk wr w.heap.size 26 [.slice none 0 0, .int .i64 0]) (h : Mm.Blk wr gs 26 [.slice none 0 0, .int .i64 0]) (hb : Below w.heap.size w wr) : RowsAt w gs 0 wr :=
  ⟨h0, none, 0, [], h, Mm.SlOwn.nil, List.nodup_nil, (fun b hb => by cases hb), hb⟩
theorem RowsAt.next {w wr wf : World} {gs k cap : Nat} {gg : Nat} {fp : List Nat}
    (h : ∃ fp', Mm.Blk wf gs 26 [.slice (some ⟨gg, 0, none⟩) (k + 1) cap, .int .i64 0] ∧ Mm.SlOwn ints 34 wf (List.replicate k zrow ++ [zrow]) (.slice (some ⟨gg, 0, none⟩) (k + 1) cap) fp' ∧ fp'.Nodup ∧ (∀ b, b ∈ fp' → b ∈ fp ∨ wr.heap.size ≤ b) ∧
      (∀ (B : Nat) (w : World), Below B w wr → B ≤ wr.heap.size → B ≤ gs → (∀ b, b ∈ fp → B ≤ b) → Below B w wf) ∧ (∀ b, b < wr.heap.size → b ≠ gs → b ∉ fp → wf.heap[b]? = wr.heap[b]?))
    (hgt : ∀ b, b ∈ fp → gs < b) (hbel : Below w.heap.size w wr) (hres : Mm.Blk wr w.heap.size 26 [.slice none 0 0, .int .i64 0]) (hgs : gs < wr.heap.size) (hw : w.heap.size < gs) : RowsAt w gs (k + 1) wf := by
  obtain ⟨fp', h1, h2, h3, h4, h5, h6⟩ := h
  refine ⟨hres.keep (h6 _ hres.lt (by omega) (fun hm => by have := hgt _ hm; omega)), _, _, fp', h1, ?_, h3, fun b hb => ?_, h5 _ _ hbel hbel.size (by omega) (fun b hb => by have := hgt b hb; omega)⟩
  · rw [List.replicate_succ']; exact h2
  · rcases h4 b hb with h | h
    · exact hgt b h
    · omega
theorem RowsAt.done {w wr : World} {k c : Nat} {A : Option Addr} {fp : List Nat} {u v : Value}
    (h : Mm.SlOwn ints 34 wr (List.replicate k zrow) (.slice A k c) fp ∧ fp.Nodup ∧ (∀ b, b ∈ fp → w.heap.size + 1 < b) ∧ Below w.heap.size w wr) :
    Mm.Ret2 sk w (Pl.newSk k) true (.returned (.tuple #[.agg #[.slice A k c, .int .i64 0], .bool true])) ((wr.setCell ⟨w.heap.size, 0, none⟩ u).setCell ⟨w.heap.size, 1, none⟩ v) := by
  obtain ⟨h1, h2, h3, h4⟩ := h
  refine ⟨[.slice A k c, .int .i64 0], fp, rfl, sk_own_mk (x := Pl.newSk k) (h1.okeep fun b hb => ?_) (by show Mm.I64 0; unfold Mm.I64; simp), h2, fun b hb => by have := h3 b hb; omega, (h4.setCell (Nat.le_refl _) _).setCell (Nat.le_refl _) _⟩
  have := h3 b hb
  exact (Below.heap_setCell _ _ _ _ (by show b ≠ w.heap.size; omega)).trans (Below.heap_setCell _ _ _ _ (by show b ≠ w.heap.size; omega))
set_option maxHeartbeats 1000000 in
theorem implNewSketch_yes (n : Nat) (w : World) (h1 : 1 ≤ n) (h3 : n ≤ 3) :
    Calls Try.prog 29 #[.int .i64 n] w (Mm.Ret2 sk w (Pl.newSk n) true) := by
  have hin : Pl.isIn n 1 3 = true := by unfold Pl.isIn; simp; omega
  have HS0 := Lib.hid (RowsAt.start (w := w) ((Mm.Blk.new w 26 [.slice none 0 0, .int .i64 0]).alloc _) (Mm.Blk.new' (w.alloc (.cells #[.slice none 0 0, .int .i64 0] 26)) 26 [.slice none 0 0, .int .i64 0] (Mm.sz1 _ _)) (below_new (below_new (Below.refl _ _) _) _))
  go_enter Try.func29, Try.ntmps29
  go_wp2_with (go_at_call 78; refine (within_c _ _ _ _).mono ?_; rintro e w' ⟨rfl, rfl⟩)
  go_loopw [10] (fun i wr => ∃ k : Nat, k ≤ n ∧ i = .int .i64 k ∧ RowsAt w (w.heap.size + 1) k wr) (fun i _ => n - (intOf i).toNat)
  case atStart => exact ⟨0, Nat.zero_le _, rfl, HS0.out⟩
  case round =>
    clear HS0
    obtain ⟨k, hk, rfl, hrows⟩ := hrel
    rename_i wr _
    obtain ⟨hres, A, c, fp, hblk, hown, hnd, hgt, hbel⟩ := hrows
    by_cases hlt : k < n
    · have hlt' := hlt
      obtain ⟨i0, hi, hz0, hz1, hz2⟩ := info_parts Try.infoInts
      have d0 := hblk.cell (i := 0) rfl
      have z0 := hblk.frozen 0
      have hW2 : Below wr.heap.size wr ((wr.alloc (.cells #[.int .i64 0, .int .i64 0, .int .i64 0, .int .i64 0, .int .i64 0, .int .i64 0, .int .i64 0, .int .i64 0, .int .i64 0, .int .i64 0, .int .i64 0] 3)).alloc (.cells #[.slice (some ⟨wr.heap.size, 0, none⟩) 11 11] 34)).drew := (below_new (below_new (Below.refl _ _) _) _).drew
      obtain ⟨l0, ho2, hnext⟩ := Mm.field_push (i := 0) hblk hown hnd (fun h => by have := hgt _ h; omega) hW2 (zrow_own (((Mm.Blk.new wr 3 zcells).alloc _))) (by simp) (fun b hb => by simp at hb; omega)
      rw [List.length_replicate] at ho2 hnext
      have HN := Lib.hid hnext
      have HS := Lib.hid (And.intro hgt (And.intro hbel hres))
      have hnews := Lib.hid (World.news_of_block (B := wr.heap.size + 1) (cs := #[.slice (some ⟨wr.heap.size, 0, none⟩) 11 11]) (t := 34) (fr := (0, 0)) (w := ((wr.alloc (.cells #[.int .i64 0, .int .i64 0, .int .i64 0, .int .i64 0, .int .i64 0, .int .i64 0, .int .i64 0, .int .i64 0, .int .i64 0, .int .i64 0, .int .i64 0] 3)).alloc (.cells #[.slice (some ⟨wr.heap.size, 0, none⟩) 11 11] 34)).drew) (Mm.heap_new _ (Mm.sz1 _ _) _))
      have hmk := make_row
      have hgs := hblk.lt
      clear hblk hown hnd hnext hgt hbel hW2 hres
      go_wp2
      go_region_law (refine step_append_lies _ (by rfl) _ _ _ (by rfl) 0 34 i0 _ 1 24 Try.underlying22 hi hz0 hz1 hz2 rfl (by omega) (.slice A k c) k l0 (by rfl) ho2 ⟨wr.heap.size + 1, 0, none⟩ 1 1 [.slice (some ⟨wr.heap.size, 0, none⟩) 11 11] (by rfl) (by rfl) hnews.out (by simp [Value.oneCell']) (by omega) (by unfold maxLen; omega) (by omega) (Nat.zero_le _) _ rfl ?_; intro gg cap w1 hown1 hgrow hat hlt; (have hb1 := Lib.hid (HN.out gg cap w1 hown1 hgrow hat)); have d0' := hb1.out.1.cell (i := 0) rfl; have z0' := hb1.out.1.frozen 0; clear hown1 hgrow hat hlt)
      all_goals
        go_wp2
        go_roundw
        case rel => exact ⟨k + 1, by omega, by go_num, RowsAt.next hb1.out.2 HS.out.1 HS.out.2.1 HS.out.2.2 hgs (by omega)⟩
        case measure => simp [intOf]; omega
    · obtain rfl : k = n := by omega
      have d0 := hblk.cell (i := 0) rfl
      have d1 := hblk.cell (i := 1) rfl
      have r0 := hres.cell (i := 0) rfl
      have r1 := hres.cell (i := 1) rfl
      have y0 := hres.frozen 0
      have y1 := hres.frozen 1
      have HS := Lib.hid (And.intro hown (And.intro hnd (And.intro hgt hbel)))
      have hgs := hblk.lt
      have hsz := hbel.size
      clear hblk hown hnd hgt hbel hres
      go_wp2
      exact bodyPost_ret (v := .tuple #[.agg #[.slice A k c, .int .i64 0], .bool true]) (by simp [results, Try.results29, go_sem, r0, r1]) rfl (RowsAt.done HS.out)
set_option maxHeartbeats 1000000 in
theorem specNewSketch_yes (n : Nat) (w : World) (h1 : 1 ≤ n) (h3 : n ≤ 3) :
    Calls Try.prog 54 #[.int .i64 n] w (Mm.Ret2 sk w (Pl.newSk n) true) := by
  have hin : Pl.isIn n 1 3 = true := by unfold Pl.isIn; simp; omega
  have HS0 := Lib.hid (RowsAt.start (w := w) ((Mm.Blk.new w 26 [.slice none 0 0, .int .i64 0]).alloc _) (Mm.Blk.new' (w.alloc (.cells #[.slice none 0 0, .int .i64 0] 26)) 26 [.slice none 0 0, .int .i64 0] (Mm.sz1 _ _)) (below_new (below_new (Below.refl _ _) _) _))
  go_enter Try.func54, Try.ntmps54
  go_wp2_with (go_at_call 87; refine (l1In_c _ _ _ _).mono ?_; rintro e w' ⟨rfl, rfl⟩)
  go_loopw [0] (fun i wr => ∃ k : Nat, k ≤ n ∧ i = .int .i64 ((n : Int) - k) ∧ RowsAt w (w.heap.size + 1) k wr) (fun i _ => (intOf i).toNat)
  case atStart => exact ⟨0, Nat.zero_le _, by go_num, HS0.out⟩
  case round =>
    clear HS0
    obtain ⟨k, hk, rfl, hrows⟩ := hrel
    rename_i wr _
    obtain ⟨hres, A, c, fp, hblk, hown, hnd, hgt, hbel⟩ := hrows
    by_cases hlt : k < n
    · have hlt' := hlt
      obtain ⟨i0, hi, hz0, hz1, hz2⟩ := info_parts Try.infoInts
      have d0 := hblk.cell (i := 0) rfl
      have z0 := hblk.frozen 0
      have hW2 : Below wr.heap.size wr ((wr.alloc (.cells #[.int .i64 0, .int .i64 0, .int .i64 0, .int .i64 0, .int .i64 0, .int .i64 0, .int .i64 0, .int .i64 0, .int .i64 0, .int .i64 0, .int .i64 0] 3)).alloc (.cells #[.slice (some ⟨wr.heap.size, 0, none⟩) 11 11] 34)).drew := (below_new (below_new (Below.refl _ _) _) _).drew
      obtain ⟨l0, ho2, hnext⟩ := Mm.field_push (i := 0) hblk hown hnd (fun h => by have := hgt _ h; omega) hW2 (zrow_own (((Mm.Blk.new wr 3 zcells).alloc _))) (by simp) (fun b hb => by simp at hb; omega)
      rw [List.length_replicate] at ho2 hnext
      have HN := Lib.hid hnext
      have HS := Lib.hid (And.intro hgt (And.intro hbel hres))
      have hnews := Lib.hid (World.news_of_block (B := wr.heap.size + 1) (cs := #[.slice (some ⟨wr.heap.size, 0, none⟩) 11 11]) (t := 34) (fr := (0, 0)) (w := ((wr.alloc (.cells #[.int .i64 0, .int .i64 0, .int .i64 0, .int .i64 0, .int .i64 0, .int .i64 0, .int .i64 0, .int .i64 0, .int .i64 0, .int .i64 0, .int .i64 0] 3)).alloc (.cells #[.slice (some ⟨wr.heap.size, 0, none⟩) 11 11] 34)).drew) (Mm.heap_new _ (Mm.sz1 _ _) _))
      have hmk := make_row
      have hgs := hblk.lt
      clear hblk hown hnd hnext hgt hbel hW2 hres
      go_wp2
      go_region_law (refine step_append_lies _ (by rfl) _ _ _ (by rfl) 0 34 i0 _ 1 24 Try.underlying22 hi hz0 hz1 hz2 rfl (by omega) (.slice A k c) k l0 (by rfl) ho2 ⟨wr.heap.size + 1, 0, none⟩ 1 1 [.slice (some ⟨wr.heap.size, 0, none⟩) 11 11] (by rfl) (by rfl) hnews.out (by simp [Value.oneCell']) (by omega) (by unfold maxLen; omega) (by omega) (Nat.zero_le _) _ rfl ?_; intro gg cap w1 hown1 hgrow hat hlt; (have hb1 := Lib.hid (HN.out gg cap w1 hown1 hgrow hat)); have d0' := hb1.out.1.cell (i := 0) rfl; have z0' := hb1.out.1.frozen 0; clear hown1 hgrow hat hlt)
      all_goals
        go_wp2
        go_roundw
        case rel => exact ⟨k + 1, by omega, by go_num, RowsAt.next hb1.out.2 HS.out.1 HS.out.2.1 HS.out.2.2 hgs (by omega)⟩
        case measure => simp [intOf]; omega
    · obtain rfl : k = n := by omega
      have d0 := hblk.cell (i := 0) rfl
      have d1 := hblk.cell (i := 1) rfl
      have r0 := hres.cell (i := 0) rfl
      have r1 := hres.cell (i := 1) rfl
      have y0 := hres.frozen 0
      have y1 := hres.frozen 1
      have HS := Lib.hid (And.intro hown (And.intro hnd (And.intro hgt hbel)))
      have hgs := hblk.lt
      have hsz := hbel.size
      clear hblk hown hnd hgt hbel hres
      go_wp2
      exact bodyPost_ret (v := .tuple #[.agg #[.slice A k c, .int .i64 0], .bool true]) (by simp [results, Try.results54, go_sem, r0, r1]) rfl (RowsAt.done HS.out)
theorem implNewSketch_no (n : Int) (w : World) (h : Pl.isIn n 1 3 = false) :
    Calls Try.prog 29 #[.int .i64 n] w (Mm.Ret2 sk w ⟨[], 0⟩ false) := by
  go_enter Try.func29, Try.ntmps29
  go_wp2_with (go_at_call 78; refine (within_c _ _ _ _).mono ?_; rintro e w' ⟨rfl, rfl⟩)
  exact bodyPost_ret (v := .tuple #[.agg #[.slice none 0 0, .int .i64 0], .bool false]) (by simp [results, Try.results29, go_sem]) rfl
    ⟨[.slice none 0 0, .int .i64 0], [], rfl, sk_own_mk (x := ⟨[], 0⟩) Mm.SlOwn.nil (by show Mm.I64 0; unfold Mm.I64; simp), List.nodup_nil, (fun b hb => by cases hb), below_new (Below.refl _ _) _⟩
theorem implNewSketch_c (n : Int) (w : World) : Calls Try.prog 29 #[.int .i64 n] w (Mm.Ret2 sk w (Pl.newSketch n).1 (Pl.newSketch n).2) := by
  cases h : Pl.isIn n 1 3
  · have e : Pl.newSketch n = (⟨[], 0⟩, false) := if_neg (by rw [h]; simp)
    rw [e]
    exact implNewSketch_no n w h
  · have e : Pl.newSketch n = (Pl.newSk n.toNat, true) := if_pos h
    rw [e]
    have hb : 1 ≤ n ∧ n ≤ 3 := by unfold Pl.isIn at h; simpa using h
    have := implNewSketch_yes n.toNat w (by omega) (by omega)
    rwa [show ((n.toNat : Nat) : Int) = n by omega] at this
theorem specNewSketch_no (n : Int) (w : World) (h : Pl.isIn n 1 3 = false) :
    Calls Try.prog 54 #[.int .i64 n] w (Mm.Ret2 sk w ⟨[], 0⟩ false) := by
  go_enter Try.func54, Try.ntmps54
  go_wp2_with (go_at_call 87; refine (l1In_c _ _ _ _).mono ?_; rintro e w' ⟨rfl, rfl⟩)
  exact bodyPost_ret (v := .tuple #[.agg #[.slice none 0 0, .int .i64 0], .bool false]) (by simp [results, Try.results54, go_sem]) rfl
    ⟨[.slice none 0 0, .int .i64 0], [], rfl, sk_own_mk (x := ⟨[], 0⟩) Mm.SlOwn.nil (by show Mm.I64 0; unfold Mm.I64; simp), List.nodup_nil, (fun b hb => by cases hb), below_new (Below.refl _ _) _⟩
theorem specNewSketch_c (n : Int) (w : World) : Calls Try.prog 54 #[.int .i64 n] w (Mm.Ret2 sk w (Pl.newSketch n).1 (Pl.newSketch n).2) := by
  cases h : Pl.isIn n 1 3
  · have e : Pl.newSketch n = (⟨[], 0⟩, false) := if_neg (by rw [h]; simp)
    rw [e]
    exact specNewSketch_no n w h
  · have e : Pl.newSketch n = (Pl.newSk n.toNat, true) := if_pos h
    rw [e]
    have hb : 1 ≤ n ∧ n ≤ 3 := by unfold Pl.isIn at h; simpa using h
    have := specNewSketch_yes n.toNat w (by omega) (by omega)
    rwa [show ((n.toNat : Nat) : Int) = n by omega] at this
end Go.Proofs.Ytjmcbggdckfefaa
