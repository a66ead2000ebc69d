/-
  Joined texts, in build order: Ht, Os, Jw. Each part says what it proves; no conditions beyond those that a part names.
-/
import Derived.Test.YtbhmdnjammnlnaaGreatDoorZ01
import Derived.Test.YtbhmdnjammnlnaaGreatDoorZ03
import Derived.Test.YtbhmdnjammnlnaaGreatDoorZ04
import Derived.Lib.Hide
import Derived.Deep.DeepFit
import Derived.Test.YtbhmdnjammnlnaaGreatDoorRows
import Derived.WalkKit
import Derived.ProofKit
import Derived.HandedShaped
import Derived.Handed
import Derived.Lay
import Derived.LaidOnce
import Derived.PinnedBridge
import Derived.Stop.LaidErr
import Derived.Stop.Joined
import Derived.Shelf.Vars
/-
  The laws' own copies of arguments. No conditions.
-/
namespace Go.Proofs.YtbhmdnjammnlnaaGreatDoor
open Go.RowKit
attribute [local go_sem] und_cell
theorem Tryz.info_Int : (Tryz.prog.info? 3).map (fun i => (i.zero, i.size, i.bytes)) = some (some (.int .i64 0), 1, 8) := by kernel_rfl
set_option maxHeartbeats 1000000 in
theorem toIntS_c (l : List Int) (A : Option Addr) (n c : Nat) (w : World) (B : Nat) (hl : Mm.SlAt Mm.int w B l A n c) (hB : B ≤ w.heap.size) (hsz : Pl.szl Pl.sz0 l ≤ 1048576) :
    Calls Tryz.prog 203 #[.slice A n c] w (Mm.NewSl Mm.int 3 w l) := by
  have hlen : Hid (l.length = n) := hl.1
  have HL := Lib.hid hl
  have HN : Hid (∀ x : Int, 0 ≤ Pl.sz0 x) := Pl.sz0_nn
  have HSZ := Lib.hid hsz
  have hn : n ≤ 1048576 := by have := Pl.szl_len HN.out l; have := hlen.out; omega
  clear hl hsz
  obtain ⟨i0, hi, hz0, hz1, hz2⟩ := info_parts Tryz.info_Int
  go_enter Tryz.func203, Tryz.ntmps203
  go_wp2_with (at_make; refine wpList_make_full _ rfl _ _ 133 rfl 0 3 i0 _ 1 Tryz.underlying133 hi hz0 hz1 _ _ _ _ n rfl rfl rfl rfl (by rw [hz2]; omega) (by unfold maxLen; omega) (Nat.zero_le _) ?_; intro w1 hown hgrow)
  go_loopw [4] (fun i wr => ∃ k : Nat, k ≤ n ∧ i = .int .i64 k ∧ Mm.Filled Mm.int 3 w l 0 n k wr) (fun i _ => n - (intOf i).toNat)
  case atStart => exact ⟨0, Nat.zero_le _, rfl, Mm.Filled.start (zv := .int .i64 0) hlen.out hown hgrow ⟨rfl, (by unfold Mm.I64; simp), rfl⟩ (by decide)⟩
  case round =>
    obtain ⟨k, hk, rfl, hfil⟩ := hrel
    rename_i wr _
    have HF : Hid (Mm.Filled Mm.int 3 w l 0 n k wr) := hfil
    clear hfil hown hgrow
    by_cases hlt : k < n
    · obtain ⟨x, b, off, hx, rfl, hb, f0, d0⟩ := int_get (HL.out.keep (w' := wr) (fun b hb => HF.out.below.block b (by omega))) hlt
      have hBw : B ≤ wr.heap.size := Nat.le_trans hB HF.out.below.size
      have hxs := Pl.szl_mem HN.out (List.mem_of_getElem? hx)
      have HX := Lib.hid (And.intro hx (And.intro hxs f0))
      have hw := HF.out.lt
      clear hx hxs f0
      obtain ⟨u0, t0⟩ := HF.out.cell hlt (j := 0) (by decide)
      have d0' : wr.cell? ⟨w.heap.size, k, none⟩ = some u0 := by have e0 : k * (Mm.int).size + 0 = k := (by show k * 1 + 0 = k; omega); rwa [e0] at t0
      have z0 := HF.out.frozen (k)
      clear t0
      go_wp2
      go_roundw
      case rel => exact ⟨k + 1, by omega, by go_num, by have e0 : k * (Mm.int).size = k := (by show k * 1 = k; omega); have hst := HF.out.step hlt HX.out.1 (Below.refl _ _) (cs := [.int .i64 x]) (show (Mm.int).own _ x _ [] from ⟨rfl, HX.out.2.2, rfl⟩) List.nodup_nil (fun b hb => by cases hb); rwa [e0] at hst⟩
      case measure => simp [intOf]; omega
    · go_wp2
      go_ret
      exact HF.out.done (by omega)
theorem toSample_c (x : Sample) (w : World) :
    Calls Tryz.prog 219 #[.agg #[.int .i64 x.At, .int .i64 x.Value]] w fun e w' => e = .returned (.agg #[.int .i64 x.At, .int .i64 x.Value]) ∧ Below w.heap.size w w' := by
  go_enter Tryz.func219, Tryz.ntmps219
  go_wp2
  exact bodyPost_ret (v := .agg #[.int .i64 x.At, .int .i64 x.Value]) (by simp [results, Tryz.results219, go_sem]) rfl ⟨rfl, below_new (below_new (below_new (Below.refl _ _) _) _) _⟩
theorem Tryz.info_Sample : (Tryz.prog.info? 124).map (fun i => (i.zero, i.size, i.bytes)) = some (some (.agg #[.int .i64 0, .int .i64 0]), 2, 16) := by kernel_rfl
set_option maxHeartbeats 1000000 in
theorem toSampleS_c (l : List Sample) (A : Option Addr) (n c : Nat) (w : World) (B : Nat) (hl : Mm.SlAt smp w B l A n c) (hB : B ≤ w.heap.size) (hsz : Pl.szl Pl.sz0 l ≤ 1048576) :
    Calls Tryz.prog 204 #[.slice A n c] w (Mm.NewSl smp 124 w l) := by
  have hlen : Hid (l.length = n) := hl.1
  have HL := Lib.hid hl
  have HN : Hid (∀ x : Sample, 0 ≤ Pl.sz0 x) := Pl.sz0_nn
  have HSZ := Lib.hid hsz
  have hn : n ≤ 1048576 := by have := Pl.szl_len HN.out l; have := hlen.out; omega
  clear hl hsz
  obtain ⟨i0, hi, hz0, hz1, hz2⟩ := info_parts Tryz.info_Sample
  go_enter Tryz.func204, Tryz.ntmps204
  go_wp2_with (at_make; refine wpList_make_full _ rfl _ _ 62 rfl 0 124 i0 _ 2 Tryz.underlying62 hi hz0 hz1 _ _ _ _ n rfl rfl rfl rfl (by rw [hz2]; omega) (by unfold maxLen; omega) (Nat.zero_le _) ?_; intro w1 hown hgrow)
  go_loopw [4] (fun i wr => ∃ k : Nat, k ≤ n ∧ i = .int .i64 k ∧ Mm.Filled smp 124 w l ⟨0, 0⟩ n k wr) (fun i _ => n - (intOf i).toNat)
  case atStart => exact ⟨0, Nat.zero_le _, rfl, Mm.Filled.start (zv := .agg #[.int .i64 0, .int .i64 0]) hlen.out hown hgrow ⟨rfl, ⟨(by unfold Mm.I64; simp), (by unfold Mm.I64; simp)⟩, rfl⟩ (by decide)⟩
  case round =>
    obtain ⟨k, hk, rfl, hfil⟩ := hrel
    rename_i wr _
    have HF : Hid (Mm.Filled smp 124 w l ⟨0, 0⟩ n k wr) := hfil
    clear hfil hown hgrow
    by_cases hlt : k < n
    · obtain ⟨x, b, off, hx, rfl, hb, f0, f1, d0, d1⟩ := smp_get (HL.out.keep (w' := wr) (fun b hb => HF.out.below.block b (by omega))) hlt
      have hBw : B ≤ wr.heap.size := Nat.le_trans hB HF.out.below.size
      have hxs := Pl.szl_mem HN.out (List.mem_of_getElem? hx)
      have HX := Lib.hid (And.intro hx (And.intro hxs (And.intro f0 f1)))
      have hw := HF.out.lt
      clear hx hxs f0 f1
      go_wp2_with fail
      refine (toSample_c x _).mono ?_
      rintro e w2 ⟨rfl, hb2⟩
      have HK := Lib.hid (HF.out.keep hb2)
      obtain ⟨u0, t0⟩ := HK.out.cell hlt (j := 0) (by decide)
      have d0' : w2.cell? ⟨w.heap.size, k * 2, none⟩ = some u0 := t0
      have z0 := HK.out.frozen (k * 2)
      clear t0
      obtain ⟨u1, t1⟩ := HK.out.cell hlt (j := 1) (by decide)
      have d1' : w2.cell? ⟨w.heap.size, k * 2 + 1, none⟩ = some u1 := t1
      have z1 := HK.out.frozen (k * 2 + 1)
      clear t1
      go_wp2
      go_roundw
      case rel => exact ⟨k + 1, by omega, by go_num, HF.out.step hlt HX.out.1 hb2 (cs := [.int .i64 x.At, .int .i64 x.Value]) (fx := []) ⟨rfl, ⟨HX.out.2.2.1, HX.out.2.2.2⟩, rfl⟩ List.nodup_nil (fun b hb => by cases hb)⟩
      case measure => simp [intOf]; omega
    · go_wp2
      go_ret
      exact HF.out.done (by omega)
theorem toSay_c (x : Say) (w : World) :
    Calls Tryz.prog 78 #[.agg #[.string x.Name, .int .i64 x.At, .int .i64 x.Value]] w fun e w' => e = .returned (.agg #[.string x.Name, .int .i64 x.At, .int .i64 x.Value]) ∧ Below w.heap.size w w' := by
  go_enter Tryz.func78, Tryz.ntmps78
  go_wp2
  exact bodyPost_ret (v := .agg #[.string x.Name, .int .i64 x.At, .int .i64 x.Value]) (by simp [results, Tryz.results78, go_sem]) rfl ⟨rfl, below_new (below_new (below_new (Below.refl _ _) _) _) _⟩
theorem toHouseStep_c (x : HouseStep) (w : World) :
    Calls Tryz.prog 28 #[.agg #[.int .i64 x.Kind, .int .i64 x.Part, .string x.What.Name, .int .i64 x.What.At, .int .i64 x.What.Value]] w fun e w' => e = .returned (.agg #[.int .i64 x.Kind, .int .i64 x.Part, .string x.What.Name, .int .i64 x.What.At, .int .i64 x.What.Value]) ∧ Below w.heap.size w w' := by
  have KA := Lib.hid (((Mm.Blk.new w 51 [.int .i64 x.Kind, .int .i64 x.Part, .string x.What.Name, .int .i64 x.What.At, .int .i64 x.What.Value]).alloc (.cells #[.int .i64 0, .int .i64 0, .string ⟨#[]⟩, .int .i64 0, .int .i64 0] 57)).alloc (.cells #[.int .i64 x.Kind, .int .i64 x.Part, .string ⟨#[]⟩, .int .i64 0, .int .i64 0] 57))
  have KR := Lib.hid ((Mm.Blk.new' (w.alloc (.cells #[.int .i64 x.Kind, .int .i64 x.Part, .string x.What.Name, .int .i64 x.What.At, .int .i64 x.What.Value] 51)) 57 [.int .i64 0, .int .i64 0, .string ⟨#[]⟩, .int .i64 0, .int .i64 0] (Mm.sz1 _ _)).alloc (.cells #[.int .i64 x.Kind, .int .i64 x.Part, .string ⟨#[]⟩, .int .i64 0, .int .i64 0] 57))
  have KO := Lib.hid (Mm.Blk.new' ((w.alloc (.cells #[.int .i64 x.Kind, .int .i64 x.Part, .string x.What.Name, .int .i64 x.What.At, .int .i64 x.What.Value] 51)).alloc (.cells #[.int .i64 0, .int .i64 0, .string ⟨#[]⟩, .int .i64 0, .int .i64 0] 57)) 57 [.int .i64 x.Kind, .int .i64 x.Part, .string ⟨#[]⟩, .int .i64 0, .int .i64 0] (Mm.sz2 _ _ _))
  have hb0 : Below w.heap.size w (((w.alloc (.cells #[.int .i64 x.Kind, .int .i64 x.Part, .string x.What.Name, .int .i64 x.What.At, .int .i64 x.What.Value] 51)).alloc (.cells #[.int .i64 0, .int .i64 0, .string ⟨#[]⟩, .int .i64 0, .int .i64 0] 57)).alloc (.cells #[.int .i64 x.Kind, .int .i64 x.Part, .string ⟨#[]⟩, .int .i64 0, .int .i64 0] 57)) := below_new (below_new (below_new (Below.refl _ _) _) _) _
  have HB := Lib.hid hb0
  have hlt0 := KO.out.lt
  clear hb0
  go_enter Tryz.func28, Tryz.ntmps28
  go_wp2_with fail
  refine (toSay_c x.What _).mono ?_
  rintro e w1 ⟨rfl, hb1⟩
  have KA := Lib.hid (KA.out.bel hb1)
  have KR := Lib.hid (KR.out.bel hb1)
  have KO := Lib.hid (KO.out.bel hb1)
  have HB := Lib.hid (below_step HB.out hb1)
  have o1_0 := KO.out.cell (i := 0) rfl
  have r1_0 := KR.out.cell (i := 0) rfl
  have x1_0 := KO.out.frozen 0
  have y1_0 := KR.out.frozen 0
  have o1_1 := KO.out.cell (i := 1) rfl
  have r1_1 := KR.out.cell (i := 1) rfl
  have x1_1 := KO.out.frozen 1
  have y1_1 := KR.out.frozen 1
  have o1_2 := KO.out.cell (i := 2) rfl
  have r1_2 := KR.out.cell (i := 2) rfl
  have x1_2 := KO.out.frozen 2
  have y1_2 := KR.out.frozen 2
  have o1_3 := KO.out.cell (i := 3) rfl
  have r1_3 := KR.out.cell (i := 3) rfl
  have x1_3 := KO.out.frozen 3
  have y1_3 := KR.out.frozen 3
  have o1_4 := KO.out.cell (i := 4) rfl
  have r1_4 := KR.out.cell (i := 4) rfl
  have x1_4 := KO.out.frozen 4
  have y1_4 := KR.out.frozen 4
  clear hb1
  have KA := Lib.hid (KA.out.far (p := ⟨w.heap.size + 2, 2, none⟩) (by show w.heap.size ≠ w.heap.size + 2; omega) (.string x.What.Name))
  have KR := Lib.hid (KR.out.far (p := ⟨w.heap.size + 2, 2, none⟩) (by show w.heap.size + 1 ≠ w.heap.size + 2; omega) (.string x.What.Name))
  have KO := Lib.hid (KO.out.set_ 2 (.string x.What.Name))
  have HB := Lib.hid (HB.out.setCell (p := ⟨w.heap.size + 2, 2, none⟩) (by show w.heap.size ≤ w.heap.size + 2; omega) (.string x.What.Name))
  have KA := Lib.hid (KA.out.far (p := ⟨w.heap.size + 2, 3, none⟩) (by show w.heap.size ≠ w.heap.size + 2; omega) (.int .i64 x.What.At))
  have KR := Lib.hid (KR.out.far (p := ⟨w.heap.size + 2, 3, none⟩) (by show w.heap.size + 1 ≠ w.heap.size + 2; omega) (.int .i64 x.What.At))
  have KO := Lib.hid (KO.out.set_ 3 (.int .i64 x.What.At))
  have HB := Lib.hid (HB.out.setCell (p := ⟨w.heap.size + 2, 3, none⟩) (by show w.heap.size ≤ w.heap.size + 2; omega) (.int .i64 x.What.At))
  have KA := Lib.hid (KA.out.far (p := ⟨w.heap.size + 2, 4, none⟩) (by show w.heap.size ≠ w.heap.size + 2; omega) (.int .i64 x.What.Value))
  have KR := Lib.hid (KR.out.far (p := ⟨w.heap.size + 2, 4, none⟩) (by show w.heap.size + 1 ≠ w.heap.size + 2; omega) (.int .i64 x.What.Value))
  have KO := Lib.hid (KO.out.set_ 4 (.int .i64 x.What.Value))
  have HB := Lib.hid (HB.out.setCell (p := ⟨w.heap.size + 2, 4, none⟩) (by show w.heap.size ≤ w.heap.size + 2; omega) (.int .i64 x.What.Value))
  go_wp2
  have HB := Lib.hid (HB.out.setCell (p := ⟨w.heap.size + 1, 0, none⟩) (by show w.heap.size ≤ w.heap.size + 1; omega) (.int .i64 x.Kind))
  have HB := Lib.hid (HB.out.setCell (p := ⟨w.heap.size + 1, 1, none⟩) (by show w.heap.size ≤ w.heap.size + 1; omega) (.int .i64 x.Part))
  have HB := Lib.hid (HB.out.setCell (p := ⟨w.heap.size + 1, 2, none⟩) (by show w.heap.size ≤ w.heap.size + 1; omega) (.string x.What.Name))
  have HB := Lib.hid (HB.out.setCell (p := ⟨w.heap.size + 1, 3, none⟩) (by show w.heap.size ≤ w.heap.size + 1; omega) (.int .i64 x.What.At))
  have HB := Lib.hid (HB.out.setCell (p := ⟨w.heap.size + 1, 4, none⟩) (by show w.heap.size ≤ w.heap.size + 1; omega) (.int .i64 x.What.Value))
  exact bodyPost_ret (v := .agg #[.int .i64 x.Kind, .int .i64 x.Part, .string x.What.Name, .int .i64 x.What.At, .int .i64 x.What.Value]) (by simp [results, Tryz.results28, go_sem, r1_0, r1_1, r1_2, r1_3, r1_4]) rfl ⟨rfl, HB.out⟩
theorem Tryz.info_HouseStep : (Tryz.prog.info? 57).map (fun i => (i.zero, i.size, i.bytes)) = some (some (.agg #[.int .i64 0, .int .i64 0, .string ⟨#[]⟩, .int .i64 0, .int .i64 0]), 5, 48) := by kernel_rfl
set_option maxHeartbeats 1000000 in
theorem toHouseStepS_c (l : List HouseStep) (A : Option Addr) (n c : Nat) (w : World) (B : Nat) (hl : Mm.SlAt rHouseStep w B l A n c) (hB : B ≤ w.heap.size) (hsz : Pl.szl Pl.szHouseStep l ≤ 1048576) :
    Calls Tryz.prog 12 #[.slice A n c] w (Mm.NewSl rHouseStep 57 w l) := by
  have hlen : Hid (l.length = n) := hl.1
  have HL := Lib.hid hl
  have HN : Hid (∀ x : HouseStep, 0 ≤ Pl.szHouseStep x) := Pl.szHouseStep_nn
  have HSZ := Lib.hid hsz
  have hn : n ≤ 1048576 := by have := Pl.szl_len HN.out l; have := hlen.out; omega
  clear hl hsz
  obtain ⟨i0, hi, hz0, hz1, hz2⟩ := info_parts Tryz.info_HouseStep
  go_enter Tryz.func12, Tryz.ntmps12
  go_wp2_with (at_make; refine wpList_make_full _ rfl _ _ 31 rfl 0 57 i0 _ 5 Tryz.underlying31 hi hz0 hz1 _ _ _ _ n rfl rfl rfl rfl (by rw [hz2]; omega) (by unfold maxLen; omega) (Nat.zero_le _) ?_; intro w1 hown hgrow)
  go_loopw [4] (fun i wr => ∃ k : Nat, k ≤ n ∧ i = .int .i64 k ∧ Mm.Filled rHouseStep 57 w l ⟨0, 0, ⟨⟨#[]⟩, 0, 0⟩⟩ n k wr) (fun i _ => n - (intOf i).toNat)
  case atStart => exact ⟨0, Nat.zero_le _, rfl, Mm.Filled.start (zv := .agg #[.int .i64 0, .int .i64 0, .string ⟨#[]⟩, .int .i64 0, .int .i64 0]) hlen.out hown hgrow ⟨rfl, ⟨(by unfold Mm.I64; simp), (by unfold Mm.I64; simp), (by show 0 ≤ _; exact Nat.zero_le _), (by unfold Mm.I64; simp), (by unfold Mm.I64; simp)⟩, rfl⟩ (by decide)⟩
  case round =>
    obtain ⟨k, hk, rfl, hfil⟩ := hrel
    rename_i wr _
    have HF : Hid (Mm.Filled rHouseStep 57 w l ⟨0, 0, ⟨⟨#[]⟩, 0, 0⟩⟩ n k wr) := hfil
    clear hfil hown hgrow
    by_cases hlt : k < n
    · obtain ⟨x, b, off, hx, rfl, hb, f0, f1, f2, f3, f4, d0, d1, d2, d3, d4⟩ := rHouseStep_get (HL.out.keep (w' := wr) (fun b hb => HF.out.below.block b (by omega))) hlt
      have hBw : B ≤ wr.heap.size := Nat.le_trans hB HF.out.below.size
      have hxs := Pl.szl_mem HN.out (List.mem_of_getElem? hx)
      have HX := Lib.hid (And.intro hx (And.intro hxs (And.intro f0 (And.intro f1 (And.intro f2 (And.intro f3 f4))))))
      have hw := HF.out.lt
      clear hx hxs f0 f1 f2 f3 f4
      go_wp2_with fail
      refine (toHouseStep_c x _).mono ?_
      rintro e w2 ⟨rfl, hb2⟩
      have HK := Lib.hid (HF.out.keep hb2)
      obtain ⟨u0, t0⟩ := HK.out.cell hlt (j := 0) (by decide)
      have d0' : w2.cell? ⟨w.heap.size, k * 5, none⟩ = some u0 := t0
      have z0 := HK.out.frozen (k * 5)
      clear t0
      obtain ⟨u1, t1⟩ := HK.out.cell hlt (j := 1) (by decide)
      have d1' : w2.cell? ⟨w.heap.size, k * 5 + 1, none⟩ = some u1 := t1
      have z1 := HK.out.frozen (k * 5 + 1)
      clear t1
      obtain ⟨u2, t2⟩ := HK.out.cell hlt (j := 2) (by decide)
      have d2' : w2.cell? ⟨w.heap.size, k * 5 + 2, none⟩ = some u2 := t2
      have z2 := HK.out.frozen (k * 5 + 2)
      clear t2
      obtain ⟨u3, t3⟩ := HK.out.cell hlt (j := 3) (by decide)
      have d3' : w2.cell? ⟨w.heap.size, k * 5 + 3, none⟩ = some u3 := t3
      have z3 := HK.out.frozen (k * 5 + 3)
      clear t3
      obtain ⟨u4, t4⟩ := HK.out.cell hlt (j := 4) (by decide)
      have d4' : w2.cell? ⟨w.heap.size, k * 5 + 4, none⟩ = some u4 := t4
      have z4 := HK.out.frozen (k * 5 + 4)
      clear t4
      go_wp2
      go_roundw
      case rel => exact ⟨k + 1, by omega, by go_num, HF.out.step hlt HX.out.1 hb2 (cs := [.int .i64 x.Kind, .int .i64 x.Part, .string x.What.Name, .int .i64 x.What.At, .int .i64 x.What.Value]) (fx := []) ⟨rfl, ⟨HX.out.2.2.1, HX.out.2.2.2.1, HX.out.2.2.2.2.1, HX.out.2.2.2.2.2.1, HX.out.2.2.2.2.2.2⟩, rfl⟩ List.nodup_nil (fun b hb => by cases hb)⟩
      case measure => simp [intOf]; omega
    · go_wp2
      go_ret
      exact HF.out.done (by omega)
set_option maxHeartbeats 2000000 in
theorem toRow_c (x : Row) (A : Option Addr) (n c : Nat) (w : World) (B : Nat) (g0 : Mm.SlAt smp w B x.Samples A n c) (s0 : x.Name.size ≤ maxLen) (hB : B ≤ w.heap.size) (hsz : Pl.szRow x ≤ 1048576) :
    Calls Tryz.prog 187 #[.agg #[.string x.Name, .slice A n c]] w (Mm.NewAg rRow w x) := by
  have HG := Lib.hid (And.intro hB g0)
  have HSZ := Lib.hid hsz
  clear hsz g0
  have HS := Lib.hid s0
  clear s0
  have zn_Name := Pl.szStr_nn x.Name
  have zn_Samples := Pl.szl_nn (f := Pl.sz0) (Pl.sz0_nn) x.Samples
  have hz : Pl.szRow x = Pl.szStr x.Name + (Pl.szl Pl.sz0) x.Samples := rfl
  have HZ := Lib.hid hz
  clear hz
  have KA := Lib.hid (((Mm.Blk.new w 221 [.string x.Name, .slice A n c]).alloc (.cells #[.string ⟨#[]⟩, .slice none 0 0] 139)).alloc (.cells #[.string x.Name, .slice none 0 0] 139))
  have KR := Lib.hid ((Mm.Blk.new' (w.alloc (.cells #[.string x.Name, .slice A n c] 221)) 139 [.string ⟨#[]⟩, .slice none 0 0] (Mm.sz1 _ _)).alloc (.cells #[.string x.Name, .slice none 0 0] 139))
  have KO := Lib.hid (Mm.Blk.new' ((w.alloc (.cells #[.string x.Name, .slice A n c] 221)).alloc (.cells #[.string ⟨#[]⟩, .slice none 0 0] 139)) 139 [.string x.Name, .slice none 0 0] (Mm.sz2 _ _ _))
  have hb0 : Below w.heap.size w (((w.alloc (.cells #[.string x.Name, .slice A n c] 221)).alloc (.cells #[.string ⟨#[]⟩, .slice none 0 0] 139)).alloc (.cells #[.string x.Name, .slice none 0 0] 139)) := below_new (below_new (below_new (Below.refl _ _) _) _) _
  have HB := Lib.hid hb0
  have hlt0 := KO.out.lt
  clear hb0
  go_enter Tryz.func187, Tryz.ntmps187
  go_wp2_with fail
  refine (toSampleS_c x.Samples _ _ _ _ B (HG.out.2.keep fun b hb => HB.out.block b (Nat.lt_of_lt_of_le hb HG.out.1)) (Nat.le_trans HG.out.1 HB.out.size) (by have h1 := HZ.out; have h2 := HSZ.out; omega)).mono ?_
  rintro e w1 ⟨P1, p1, q1, fp1, rfl, ho1, hnd1, hf1, hb1⟩
  have hfb1 : ∀ b, b ∈ fp1 → b ≠ w.heap.size + 1 ∧ b ≠ w.heap.size + 2 := fun b hb => by have := hf1 b hb; have := KO.out.lt; have := KR.out.lt; omega
  have CS1 := Lib.hid ho1.olt
  have OS1 := Lib.hid (And.intro ho1 (And.intro hnd1 (And.intro hfb1 hf1)))
  have HF1 := Lib.hid (show ∀ b, b ∈ fp1 → w.heap.size ≤ b from fun b hb => Nat.le_trans HB.out.size (hf1 b hb))
  have KA := Lib.hid (KA.out.bel hb1)
  have KR := Lib.hid (KR.out.bel hb1)
  have KO := Lib.hid (KO.out.bel hb1)
  have HB := Lib.hid (below_step HB.out hb1)
  have CH1 := Lib.hid (Mm.Chg.refl [w.heap.size + 1, w.heap.size + 2] w1)
  have o1_0 := KO.out.cell (i := 0) rfl
  have r1_0 := KR.out.cell (i := 0) rfl
  have x1_0 := KO.out.frozen 0
  have y1_0 := KR.out.frozen 0
  have o1_1 := KO.out.cell (i := 1) rfl
  have r1_1 := KR.out.cell (i := 1) rfl
  have x1_1 := KO.out.frozen 1
  have y1_1 := KR.out.frozen 1
  clear hb1 ho1 hnd1 hf1 hfb1
  have KA := Lib.hid (KA.out.far (p := ⟨w.heap.size + 2, 1, none⟩) (by show w.heap.size ≠ w.heap.size + 2; omega) (.slice P1 p1 q1))
  have KR := Lib.hid (KR.out.far (p := ⟨w.heap.size + 2, 1, none⟩) (by show w.heap.size + 1 ≠ w.heap.size + 2; omega) (.slice P1 p1 q1))
  have KO := Lib.hid (KO.out.set_ 1 (.slice P1 p1 q1))
  have HB := Lib.hid (HB.out.setCell (p := ⟨w.heap.size + 2, 1, none⟩) (by show w.heap.size ≤ w.heap.size + 2; omega) (.slice P1 p1 q1))
  have CH1 := Lib.hid (CH1.out.setCell (p := ⟨w.heap.size + 2, 1, none⟩) (by simp) (.slice P1 p1 q1))
  go_wp2
  have HB := Lib.hid (HB.out.setCell (p := ⟨w.heap.size + 1, 0, none⟩) (by show w.heap.size ≤ w.heap.size + 1; omega) (.string x.Name))
  have CH1 := Lib.hid (CH1.out.setCell (p := ⟨w.heap.size + 1, 0, none⟩) (by simp) (.string x.Name))
  have HB := Lib.hid (HB.out.setCell (p := ⟨w.heap.size + 1, 1, none⟩) (by show w.heap.size ≤ w.heap.size + 1; omega) (.slice P1 p1 q1))
  have CH1 := Lib.hid (CH1.out.setCell (p := ⟨w.heap.size + 1, 1, none⟩) (by simp) (.slice P1 p1 q1))
  refine bodyPost_ret (v := .agg #[.string x.Name, .slice P1 p1 q1]) (by simp [results, Tryz.results187, go_sem, r1_0, r1_1]) rfl ⟨[.string x.Name, .slice P1 p1 q1], _, rfl, rRow_own_mk HS.out (OS1.out.1.okeep fun b hb => CH1.out.block b (CS1.out b hb) (by simp; exact ⟨(OS1.out.2.2.1 b hb).1, (OS1.out.2.2.1 b hb).2⟩)), ?_, ?_, HB.out⟩
  · exact OS1.out.2.1
  · intro b hb
    exact HF1.out b hb
theorem toRow_at (x : Row) (cs : List Value) (w : World) (B : Nat) (h : rRow.at_ w B x cs) (hB : B ≤ w.heap.size) (hsz : Pl.szRow x ≤ 1048576) :
    Calls Tryz.prog 187 #[.agg cs.toArray] w (Mm.NewAg rRow w x) := by
  obtain ⟨A, n, c, rfl, g0, g1⟩ := rRow_at h
  exact toRow_c x _ _ _ _ B g1 g0 hB hsz
theorem Tryz.info_Row : (Tryz.prog.info? 139).map (fun i => (i.zero, i.size, i.bytes)) = some (some (.agg #[.string ⟨#[]⟩, .slice none 0 0]), 2, 40) := by kernel_rfl
set_option maxHeartbeats 1000000 in
theorem toRowS_c (l : List Row) (A : Option Addr) (n c : Nat) (w : World) (B : Nat) (hl : Mm.SlAt rRow w B l A n c) (hB : B ≤ w.heap.size) (hsz : Pl.szl Pl.szRow l ≤ 1048576) :
    Calls Tryz.prog 169 #[.slice A n c] w (Mm.NewSl rRow 139 w l) := by
  have hlen : Hid (l.length = n) := hl.1
  have HL := Lib.hid hl
  have HN : Hid (∀ x : Row, 0 ≤ Pl.szRow x) := Pl.szRow_nn
  have HSZ := Lib.hid hsz
  have hn : n ≤ 1048576 := by have := Pl.szl_len HN.out l; have := hlen.out; omega
  clear hl hsz
  obtain ⟨i0, hi, hz0, hz1, hz2⟩ := info_parts Tryz.info_Row
  go_enter Tryz.func169, Tryz.ntmps169
  go_wp2_with (at_make; refine wpList_make_full _ rfl _ _ 71 rfl 0 139 i0 _ 2 Tryz.underlying71 hi hz0 hz1 _ _ _ _ n rfl rfl rfl rfl (by rw [hz2]; omega) (by unfold maxLen; omega) (Nat.zero_le _) ?_; intro w1 hown hgrow)
  go_loopw [4] (fun i wr => ∃ k : Nat, k ≤ n ∧ i = .int .i64 k ∧ Mm.Filled rRow 139 w l ⟨⟨#[]⟩, []⟩ n k wr) (fun i _ => n - (intOf i).toNat)
  case atStart => exact ⟨0, Nat.zero_le _, rfl, Mm.Filled.start (zv := .agg #[.string ⟨#[]⟩, .slice none 0 0]) hlen.out hown hgrow (rRow_own_mk (x := ⟨⟨#[]⟩, []⟩) (by show 0 ≤ _; exact Nat.zero_le _) Mm.SlOwn.nil) (by decide)⟩
  case round =>
    obtain ⟨k, hk, rfl, hfil⟩ := hrel
    rename_i wr _
    have HF : Hid (Mm.Filled rRow 139 w l ⟨⟨#[]⟩, []⟩ n k wr) := hfil
    clear hfil hown hgrow
    by_cases hlt : k < n
    · obtain ⟨x, b, off, A, n, c, hx, rfl, hb, f0, f1, d0, d1⟩ := rRow_get (HL.out.keep (w' := wr) (fun b hb => HF.out.below.block b (by omega))) hlt
      have hBw : B ≤ wr.heap.size := Nat.le_trans hB HF.out.below.size
      have hxs := Pl.szl_mem HN.out (List.mem_of_getElem? hx)
      have HX := Lib.hid (And.intro hx (And.intro hxs (And.intro f0 f1)))
      have hw := HF.out.lt
      clear hx hxs f0 f1
      go_wp2_with fail
      refine (toRow_c x _ _ _ _ B HX.out.2.2.2 HX.out.2.2.1 hBw (by have h1 := HX.out.2.1; have h2 := HSZ.out; omega)).mono ?_
      rintro e w2 ⟨cs2, fp2, rfl, ho2, hnd2, hf2, hb2⟩
      have HO := Lib.hid (And.intro ho2 (And.intro hnd2 (And.intro hf2 hb2)))
      obtain ⟨A2, n2, c2, _, rfl, _⟩ := rRow_own ho2
      have HK := Lib.hid (HF.out.keep hb2)
      clear ho2 hnd2 hf2 hb2
      obtain ⟨u0, t0⟩ := HK.out.cell hlt (j := 0) (by decide)
      have d0' : w2.cell? ⟨w.heap.size, k * 2, none⟩ = some u0 := t0
      have z0 := HK.out.frozen (k * 2)
      clear t0
      obtain ⟨u1, t1⟩ := HK.out.cell hlt (j := 1) (by decide)
      have d1' : w2.cell? ⟨w.heap.size, k * 2 + 1, none⟩ = some u1 := t1
      have z1 := HK.out.frozen (k * 2 + 1)
      clear t1
      go_wp2
      go_roundw
      case rel => exact ⟨k + 1, by omega, by go_num, HF.out.step hlt HX.out.1 HO.out.2.2.2 (cs := [.string x.Name, .slice A2 n2 c2]) HO.out.1 HO.out.2.1 HO.out.2.2.1⟩
      case measure => simp [intOf]; omega
    · go_wp2
      go_ret
      exact HF.out.done (by omega)
set_option maxHeartbeats 2000000 in
theorem toHead_c (x : Head) (A : Option Addr) (n c : Nat) (w : World) (B : Nat) (g0 : Mm.SlAt rRow w B x.Rows A n c) (s0 : Mm.I64 x.Offset) (hB : B ≤ w.heap.size) (hsz : Pl.szHead x ≤ 1048576) :
    Calls Tryz.prog 130 #[.agg #[.slice A n c, .int .i64 x.Offset]] w (Mm.NewAg rHead w x) := by
  have HG := Lib.hid (And.intro hB g0)
  have HSZ := Lib.hid hsz
  clear hsz g0
  have HS := Lib.hid s0
  clear s0
  have zn_Rows := Pl.szl_nn (f := Pl.szRow) (Pl.szRow_nn) x.Rows
  have hz : Pl.szHead x = (Pl.szl Pl.szRow) x.Rows := rfl
  have HZ := Lib.hid hz
  clear hz
  have KA := Lib.hid (((Mm.Blk.new w 162 [.slice A n c, .int .i64 x.Offset]).alloc (.cells #[.slice none 0 0, .int .i64 0] 73)).alloc (.cells #[.slice none 0 0, .int .i64 0] 73))
  have KR := Lib.hid ((Mm.Blk.new' (w.alloc (.cells #[.slice A n c, .int .i64 x.Offset] 162)) 73 [.slice none 0 0, .int .i64 0] (Mm.sz1 _ _)).alloc (.cells #[.slice none 0 0, .int .i64 0] 73))
  have KO := Lib.hid (Mm.Blk.new' ((w.alloc (.cells #[.slice A n c, .int .i64 x.Offset] 162)).alloc (.cells #[.slice none 0 0, .int .i64 0] 73)) 73 [.slice none 0 0, .int .i64 0] (Mm.sz2 _ _ _))
  have hb0 : Below w.heap.size w (((w.alloc (.cells #[.slice A n c, .int .i64 x.Offset] 162)).alloc (.cells #[.slice none 0 0, .int .i64 0] 73)).alloc (.cells #[.slice none 0 0, .int .i64 0] 73)) := below_new (below_new (below_new (Below.refl _ _) _) _) _
  have HB := Lib.hid hb0
  have hlt0 := KO.out.lt
  clear hb0
  go_enter Tryz.func130, Tryz.ntmps130
  go_wp2_with fail
  refine (toRowS_c x.Rows _ _ _ _ B (HG.out.2.keep fun b hb => HB.out.block b (Nat.lt_of_lt_of_le hb HG.out.1)) (Nat.le_trans HG.out.1 HB.out.size) (by have h1 := HZ.out; have h2 := HSZ.out; omega)).mono ?_
  rintro e w1 ⟨P1, p1, q1, fp1, rfl, ho1, hnd1, hf1, hb1⟩
  have hfb1 : ∀ b, b ∈ fp1 → b ≠ w.heap.size + 1 ∧ b ≠ w.heap.size + 2 := fun b hb => by have := hf1 b hb; have := KO.out.lt; have := KR.out.lt; omega
  have CS1 := Lib.hid ho1.olt
  have OS1 := Lib.hid (And.intro ho1 (And.intro hnd1 (And.intro hfb1 hf1)))
  have HF1 := Lib.hid (show ∀ b, b ∈ fp1 → w.heap.size ≤ b from fun b hb => Nat.le_trans HB.out.size (hf1 b hb))
  have KA := Lib.hid (KA.out.bel hb1)
  have KR := Lib.hid (KR.out.bel hb1)
  have KO := Lib.hid (KO.out.bel hb1)
  have HB := Lib.hid (below_step HB.out hb1)
  have CH1 := Lib.hid (Mm.Chg.refl [w.heap.size + 1, w.heap.size + 2] w1)
  have a1_1 := KA.out.cell (i := 1) rfl
  have o1_0 := KO.out.cell (i := 0) rfl
  have r1_0 := KR.out.cell (i := 0) rfl
  have x1_0 := KO.out.frozen 0
  have y1_0 := KR.out.frozen 0
  have o1_1 := KO.out.cell (i := 1) rfl
  have r1_1 := KR.out.cell (i := 1) rfl
  have x1_1 := KO.out.frozen 1
  have y1_1 := KR.out.frozen 1
  clear hb1 ho1 hnd1 hf1 hfb1
  have KA := Lib.hid (KA.out.far (p := ⟨w.heap.size + 2, 0, none⟩) (by show w.heap.size ≠ w.heap.size + 2; omega) (.slice P1 p1 q1))
  have KR := Lib.hid (KR.out.far (p := ⟨w.heap.size + 2, 0, none⟩) (by show w.heap.size + 1 ≠ w.heap.size + 2; omega) (.slice P1 p1 q1))
  have KO := Lib.hid (KO.out.set_ 0 (.slice P1 p1 q1))
  have HB := Lib.hid (HB.out.setCell (p := ⟨w.heap.size + 2, 0, none⟩) (by show w.heap.size ≤ w.heap.size + 2; omega) (.slice P1 p1 q1))
  have CH1 := Lib.hid (CH1.out.setCell (p := ⟨w.heap.size + 2, 0, none⟩) (by simp) (.slice P1 p1 q1))
  have KA := Lib.hid (KA.out.far (p := ⟨w.heap.size + 2, 1, none⟩) (by show w.heap.size ≠ w.heap.size + 2; omega) (.int .i64 x.Offset))
  have KR := Lib.hid (KR.out.far (p := ⟨w.heap.size + 2, 1, none⟩) (by show w.heap.size + 1 ≠ w.heap.size + 2; omega) (.int .i64 x.Offset))
  have KO := Lib.hid (KO.out.set_ 1 (.int .i64 x.Offset))
  have HB := Lib.hid (HB.out.setCell (p := ⟨w.heap.size + 2, 1, none⟩) (by show w.heap.size ≤ w.heap.size + 2; omega) (.int .i64 x.Offset))
  have CH1 := Lib.hid (CH1.out.setCell (p := ⟨w.heap.size + 2, 1, none⟩) (by simp) (.int .i64 x.Offset))
  go_wp2
  have HB := Lib.hid (HB.out.setCell (p := ⟨w.heap.size + 1, 0, none⟩) (by show w.heap.size ≤ w.heap.size + 1; omega) (.slice P1 p1 q1))
  have CH1 := Lib.hid (CH1.out.setCell (p := ⟨w.heap.size + 1, 0, none⟩) (by simp) (.slice P1 p1 q1))
  have HB := Lib.hid (HB.out.setCell (p := ⟨w.heap.size + 1, 1, none⟩) (by show w.heap.size ≤ w.heap.size + 1; omega) (.int .i64 x.Offset))
  have CH1 := Lib.hid (CH1.out.setCell (p := ⟨w.heap.size + 1, 1, none⟩) (by simp) (.int .i64 x.Offset))
  refine bodyPost_ret (v := .agg #[.slice P1 p1 q1, .int .i64 x.Offset]) (by simp [results, Tryz.results130, go_sem, r1_0, r1_1]) rfl ⟨[.slice P1 p1 q1, .int .i64 x.Offset], _, rfl, rHead_own_mk (OS1.out.1.okeep fun b hb => CH1.out.block b (CS1.out b hb) (by simp; exact ⟨(OS1.out.2.2.1 b hb).1, (OS1.out.2.2.1 b hb).2⟩)) HS.out, ?_, ?_, HB.out⟩
  · exact OS1.out.2.1
  · intro b hb
    exact HF1.out b hb
theorem toHead_at (x : Head) (cs : List Value) (w : World) (B : Nat) (h : rHead.at_ w B x cs) (hB : B ≤ w.heap.size) (hsz : Pl.szHead x ≤ 1048576) :
    Calls Tryz.prog 130 #[.agg cs.toArray] w (Mm.NewAg rHead w x) := by
  obtain ⟨A, n, c, rfl, g0, g1⟩ := rHead_at h
  exact toHead_c x _ _ _ _ B g0 g1 hB hsz
theorem Tryz.info_Head : (Tryz.prog.info? 73).map (fun i => (i.zero, i.size, i.bytes)) = some (some (.agg #[.slice none 0 0, .int .i64 0]), 2, 32) := by kernel_rfl
set_option maxHeartbeats 1000000 in
theorem toHeadS_c (l : List Head) (A : Option Addr) (n c : Nat) (w : World) (B : Nat) (hl : Mm.SlAt rHead w B l A n c) (hB : B ≤ w.heap.size) (hsz : Pl.szl Pl.szHead l ≤ 1048576) :
    Calls Tryz.prog 75 #[.slice A n c] w (Mm.NewSl rHead 73 w l) := by
  have hlen : Hid (l.length = n) := hl.1
  have HL := Lib.hid hl
  have HN : Hid (∀ x : Head, 0 ≤ Pl.szHead x) := Pl.szHead_nn
  have HSZ := Lib.hid hsz
  have hn : n ≤ 1048576 := by have := Pl.szl_len HN.out l; have := hlen.out; omega
  clear hl hsz
  obtain ⟨i0, hi, hz0, hz1, hz2⟩ := info_parts Tryz.info_Head
  go_enter Tryz.func75, Tryz.ntmps75
  go_wp2_with (at_make; refine wpList_make_full _ rfl _ _ 25 rfl 0 73 i0 _ 2 Tryz.underlying25 hi hz0 hz1 _ _ _ _ n rfl rfl rfl rfl (by rw [hz2]; omega) (by unfold maxLen; omega) (Nat.zero_le _) ?_; intro w1 hown hgrow)
  go_loopw [4] (fun i wr => ∃ k : Nat, k ≤ n ∧ i = .int .i64 k ∧ Mm.Filled rHead 73 w l ⟨[], 0⟩ n k wr) (fun i _ => n - (intOf i).toNat)
  case atStart => exact ⟨0, Nat.zero_le _, rfl, Mm.Filled.start (zv := .agg #[.slice none 0 0, .int .i64 0]) hlen.out hown hgrow (rHead_own_mk (x := ⟨[], 0⟩) Mm.SlOwn.nil (by unfold Mm.I64; simp)) (by decide)⟩
  case round =>
    obtain ⟨k, hk, rfl, hfil⟩ := hrel
    rename_i wr _
    have HF : Hid (Mm.Filled rHead 73 w l ⟨[], 0⟩ n k wr) := hfil
    clear hfil hown hgrow
    by_cases hlt : k < n
    · obtain ⟨x, b, off, A, n, c, hx, rfl, hb, f0, f1, d0, d1⟩ := rHead_get (HL.out.keep (w' := wr) (fun b hb => HF.out.below.block b (by omega))) hlt
      have hBw : B ≤ wr.heap.size := Nat.le_trans hB HF.out.below.size
      have hxs := Pl.szl_mem HN.out (List.mem_of_getElem? hx)
      have HX := Lib.hid (And.intro hx (And.intro hxs (And.intro f0 f1)))
      have hw := HF.out.lt
      clear hx hxs f0 f1
      go_wp2_with fail
      refine (toHead_c x _ _ _ _ B HX.out.2.2.1 HX.out.2.2.2 hBw (by have h1 := HX.out.2.1; have h2 := HSZ.out; omega)).mono ?_
      rintro e w2 ⟨cs2, fp2, rfl, ho2, hnd2, hf2, hb2⟩
      have HO := Lib.hid (And.intro ho2 (And.intro hnd2 (And.intro hf2 hb2)))
      obtain ⟨A2, n2, c2, _, rfl, _⟩ := rHead_own ho2
      have HK := Lib.hid (HF.out.keep hb2)
      clear ho2 hnd2 hf2 hb2
      obtain ⟨u0, t0⟩ := HK.out.cell hlt (j := 0) (by decide)
      have d0' : w2.cell? ⟨w.heap.size, k * 2, none⟩ = some u0 := t0
      have z0 := HK.out.frozen (k * 2)
      clear t0
      obtain ⟨u1, t1⟩ := HK.out.cell hlt (j := 1) (by decide)
      have d1' : w2.cell? ⟨w.heap.size, k * 2 + 1, none⟩ = some u1 := t1
      have z1 := HK.out.frozen (k * 2 + 1)
      clear t1
      go_wp2
      go_roundw
      case rel => exact ⟨k + 1, by omega, by go_num, HF.out.step hlt HX.out.1 HO.out.2.2.2 (cs := [.slice A2 n2 c2, .int .i64 x.Offset]) HO.out.1 HO.out.2.1 HO.out.2.2.1⟩
      case measure => simp [intOf]; omega
    · go_wp2
      go_ret
      exact HF.out.done (by omega)
set_option maxHeartbeats 2000000 in
theorem toPiece_c (x : Piece) (A : Option Addr) (n c : Nat) (w : World) (B : Nat) (g0 : Mm.SlAt Mm.int w B x.Index A n c) (s0 : Mm.I64 x.From) (s1 : x.Bytes.size ≤ maxLen) (hB : B ≤ w.heap.size) (hsz : Pl.szPiece x ≤ 1048576) :
    Calls Tryz.prog 186 #[.agg #[.int .i64 x.From, .string x.Bytes, .slice A n c]] w (Mm.NewAg rPiece w x) := by
  have HG := Lib.hid (And.intro hB g0)
  have HSZ := Lib.hid hsz
  clear hsz g0
  have HS := Lib.hid (And.intro s0 s1)
  clear s0 s1
  have zn_Bytes := Pl.szStr_nn x.Bytes
  have zn_Index := Pl.szl_nn (f := Pl.sz0) (Pl.sz0_nn) x.Index
  have hz : Pl.szPiece x = Pl.szStr x.Bytes + (Pl.szl Pl.sz0) x.Index := rfl
  have HZ := Lib.hid hz
  clear hz
  have KA := Lib.hid (((Mm.Blk.new w 217 [.int .i64 x.From, .string x.Bytes, .slice A n c]).alloc (.cells #[.int .i64 0, .string ⟨#[]⟩, .slice none 0 0] 164)).alloc (.cells #[.int .i64 x.From, .string x.Bytes, .slice none 0 0] 164))
  have KR := Lib.hid ((Mm.Blk.new' (w.alloc (.cells #[.int .i64 x.From, .string x.Bytes, .slice A n c] 217)) 164 [.int .i64 0, .string ⟨#[]⟩, .slice none 0 0] (Mm.sz1 _ _)).alloc (.cells #[.int .i64 x.From, .string x.Bytes, .slice none 0 0] 164))
  have KO := Lib.hid (Mm.Blk.new' ((w.alloc (.cells #[.int .i64 x.From, .string x.Bytes, .slice A n c] 217)).alloc (.cells #[.int .i64 0, .string ⟨#[]⟩, .slice none 0 0] 164)) 164 [.int .i64 x.From, .string x.Bytes, .slice none 0 0] (Mm.sz2 _ _ _))
  have hb0 : Below w.heap.size w (((w.alloc (.cells #[.int .i64 x.From, .string x.Bytes, .slice A n c] 217)).alloc (.cells #[.int .i64 0, .string ⟨#[]⟩, .slice none 0 0] 164)).alloc (.cells #[.int .i64 x.From, .string x.Bytes, .slice none 0 0] 164)) := below_new (below_new (below_new (Below.refl _ _) _) _) _
  have HB := Lib.hid hb0
  have hlt0 := KO.out.lt
  clear hb0
  go_enter Tryz.func186, Tryz.ntmps186
  go_wp2_with fail
  refine (toIntS_c x.Index _ _ _ _ B (HG.out.2.keep fun b hb => HB.out.block b (Nat.lt_of_lt_of_le hb HG.out.1)) (Nat.le_trans HG.out.1 HB.out.size) (by have h1 := HZ.out; have h2 := HSZ.out; omega)).mono ?_
  rintro e w1 ⟨P1, p1, q1, fp1, rfl, ho1, hnd1, hf1, hb1⟩
  have hfb1 : ∀ b, b ∈ fp1 → b ≠ w.heap.size + 1 ∧ b ≠ w.heap.size + 2 := fun b hb => by have := hf1 b hb; have := KO.out.lt; have := KR.out.lt; omega
  have CS1 := Lib.hid ho1.olt
  have OS1 := Lib.hid (And.intro ho1 (And.intro hnd1 (And.intro hfb1 hf1)))
  have HF1 := Lib.hid (show ∀ b, b ∈ fp1 → w.heap.size ≤ b from fun b hb => Nat.le_trans HB.out.size (hf1 b hb))
  have KA := Lib.hid (KA.out.bel hb1)
  have KR := Lib.hid (KR.out.bel hb1)
  have KO := Lib.hid (KO.out.bel hb1)
  have HB := Lib.hid (below_step HB.out hb1)
  have CH1 := Lib.hid (Mm.Chg.refl [w.heap.size + 1, w.heap.size + 2] w1)
  have o1_0 := KO.out.cell (i := 0) rfl
  have r1_0 := KR.out.cell (i := 0) rfl
  have x1_0 := KO.out.frozen 0
  have y1_0 := KR.out.frozen 0
  have o1_1 := KO.out.cell (i := 1) rfl
  have r1_1 := KR.out.cell (i := 1) rfl
  have x1_1 := KO.out.frozen 1
  have y1_1 := KR.out.frozen 1
  have o1_2 := KO.out.cell (i := 2) rfl
  have r1_2 := KR.out.cell (i := 2) rfl
  have x1_2 := KO.out.frozen 2
  have y1_2 := KR.out.frozen 2
  clear hb1 ho1 hnd1 hf1 hfb1
  have KA := Lib.hid (KA.out.far (p := ⟨w.heap.size + 2, 2, none⟩) (by show w.heap.size ≠ w.heap.size + 2; omega) (.slice P1 p1 q1))
  have KR := Lib.hid (KR.out.far (p := ⟨w.heap.size + 2, 2, none⟩) (by show w.heap.size + 1 ≠ w.heap.size + 2; omega) (.slice P1 p1 q1))
  have KO := Lib.hid (KO.out.set_ 2 (.slice P1 p1 q1))
  have HB := Lib.hid (HB.out.setCell (p := ⟨w.heap.size + 2, 2, none⟩) (by show w.heap.size ≤ w.heap.size + 2; omega) (.slice P1 p1 q1))
  have CH1 := Lib.hid (CH1.out.setCell (p := ⟨w.heap.size + 2, 2, none⟩) (by simp) (.slice P1 p1 q1))
  go_wp2
  have HB := Lib.hid (HB.out.setCell (p := ⟨w.heap.size + 1, 0, none⟩) (by show w.heap.size ≤ w.heap.size + 1; omega) (.int .i64 x.From))
  have CH1 := Lib.hid (CH1.out.setCell (p := ⟨w.heap.size + 1, 0, none⟩) (by simp) (.int .i64 x.From))
  have HB := Lib.hid (HB.out.setCell (p := ⟨w.heap.size + 1, 1, none⟩) (by show w.heap.size ≤ w.heap.size + 1; omega) (.string x.Bytes))
  have CH1 := Lib.hid (CH1.out.setCell (p := ⟨w.heap.size + 1, 1, none⟩) (by simp) (.string x.Bytes))
  have HB := Lib.hid (HB.out.setCell (p := ⟨w.heap.size + 1, 2, none⟩) (by show w.heap.size ≤ w.heap.size + 1; omega) (.slice P1 p1 q1))
  have CH1 := Lib.hid (CH1.out.setCell (p := ⟨w.heap.size + 1, 2, none⟩) (by simp) (.slice P1 p1 q1))
  refine bodyPost_ret (v := .agg #[.int .i64 x.From, .string x.Bytes, .slice P1 p1 q1]) (by simp [results, Tryz.results186, go_sem, r1_0, r1_1, r1_2]) rfl ⟨[.int .i64 x.From, .string x.Bytes, .slice P1 p1 q1], _, rfl, rPiece_own_mk HS.out.1 HS.out.2 (OS1.out.1.okeep fun b hb => CH1.out.block b (CS1.out b hb) (by simp; exact ⟨(OS1.out.2.2.1 b hb).1, (OS1.out.2.2.1 b hb).2⟩)), ?_, ?_, HB.out⟩
  · exact OS1.out.2.1
  · intro b hb
    exact HF1.out b hb
theorem toPiece_at (x : Piece) (cs : List Value) (w : World) (B : Nat) (h : rPiece.at_ w B x cs) (hB : B ≤ w.heap.size) (hsz : Pl.szPiece x ≤ 1048576) :
    Calls Tryz.prog 186 #[.agg cs.toArray] w (Mm.NewAg rPiece w x) := by
  obtain ⟨A, n, c, rfl, g0, g1, g2⟩ := rPiece_at h
  exact toPiece_c x _ _ _ _ B g2 g0 g1 hB hsz
theorem Tryz.info_Piece : (Tryz.prog.info? 164).map (fun i => (i.zero, i.size, i.bytes)) = some (some (.agg #[.int .i64 0, .string ⟨#[]⟩, .slice none 0 0]), 3, 48) := by kernel_rfl
set_option maxHeartbeats 1000000 in
theorem toPieceS_c (l : List Piece) (A : Option Addr) (n c : Nat) (w : World) (B : Nat) (hl : Mm.SlAt rPiece w B l A n c) (hB : B ≤ w.heap.size) (hsz : Pl.szl Pl.szPiece l ≤ 1048576) :
    Calls Tryz.prog 168 #[.slice A n c] w (Mm.NewSl rPiece 164 w l) := by
  have hlen : Hid (l.length = n) := hl.1
  have HL := Lib.hid hl
  have HN : Hid (∀ x : Piece, 0 ≤ Pl.szPiece x) := Pl.szPiece_nn
  have HSZ := Lib.hid hsz
  have hn : n ≤ 1048576 := by have := Pl.szl_len HN.out l; have := hlen.out; omega
  clear hl hsz
  obtain ⟨i0, hi, hz0, hz1, hz2⟩ := info_parts Tryz.info_Piece
  go_enter Tryz.func168, Tryz.ntmps168
  go_wp2_with (at_make; refine wpList_make_full _ rfl _ _ 78 rfl 0 164 i0 _ 3 Tryz.underlying78 hi hz0 hz1 _ _ _ _ n rfl rfl rfl rfl (by rw [hz2]; omega) (by unfold maxLen; omega) (Nat.zero_le _) ?_; intro w1 hown hgrow)
  go_loopw [4] (fun i wr => ∃ k : Nat, k ≤ n ∧ i = .int .i64 k ∧ Mm.Filled rPiece 164 w l ⟨0, ⟨#[]⟩, []⟩ n k wr) (fun i _ => n - (intOf i).toNat)
  case atStart => exact ⟨0, Nat.zero_le _, rfl, Mm.Filled.start (zv := .agg #[.int .i64 0, .string ⟨#[]⟩, .slice none 0 0]) hlen.out hown hgrow (rPiece_own_mk (x := ⟨0, ⟨#[]⟩, []⟩) (by unfold Mm.I64; simp) (by show 0 ≤ _; exact Nat.zero_le _) Mm.SlOwn.nil) (by decide)⟩
  case round =>
    obtain ⟨k, hk, rfl, hfil⟩ := hrel
    rename_i wr _
    have HF : Hid (Mm.Filled rPiece 164 w l ⟨0, ⟨#[]⟩, []⟩ n k wr) := hfil
    clear hfil hown hgrow
    by_cases hlt : k < n
    · obtain ⟨x, b, off, A, n, c, hx, rfl, hb, f0, f1, f2, d0, d1, d2⟩ := rPiece_get (HL.out.keep (w' := wr) (fun b hb => HF.out.below.block b (by omega))) hlt
      have hBw : B ≤ wr.heap.size := Nat.le_trans hB HF.out.below.size
      have hxs := Pl.szl_mem HN.out (List.mem_of_getElem? hx)
      have HX := Lib.hid (And.intro hx (And.intro hxs (And.intro f0 (And.intro f1 f2))))
      have hw := HF.out.lt
      clear hx hxs f0 f1 f2
      go_wp2_with fail
      refine (toPiece_c x _ _ _ _ B HX.out.2.2.2.2 HX.out.2.2.1 HX.out.2.2.2.1 hBw (by have h1 := HX.out.2.1; have h2 := HSZ.out; omega)).mono ?_
      rintro e w2 ⟨cs2, fp2, rfl, ho2, hnd2, hf2, hb2⟩
      have HO := Lib.hid (And.intro ho2 (And.intro hnd2 (And.intro hf2 hb2)))
      obtain ⟨A2, n2, c2, _, rfl, _⟩ := rPiece_own ho2
      have HK := Lib.hid (HF.out.keep hb2)
      clear ho2 hnd2 hf2 hb2
      obtain ⟨u0, t0⟩ := HK.out.cell hlt (j := 0) (by decide)
      have d0' : w2.cell? ⟨w.heap.size, k * 3, none⟩ = some u0 := t0
      have z0 := HK.out.frozen (k * 3)
      clear t0
      obtain ⟨u1, t1⟩ := HK.out.cell hlt (j := 1) (by decide)
      have d1' : w2.cell? ⟨w.heap.size, k * 3 + 1, none⟩ = some u1 := t1
      have z1 := HK.out.frozen (k * 3 + 1)
      clear t1
      obtain ⟨u2, t2⟩ := HK.out.cell hlt (j := 2) (by decide)
      have d2' : w2.cell? ⟨w.heap.size, k * 3 + 2, none⟩ = some u2 := t2
      have z2 := HK.out.frozen (k * 3 + 2)
      clear t2
      go_wp2
      go_roundw
      case rel => exact ⟨k + 1, by omega, by go_num, HF.out.step hlt HX.out.1 HO.out.2.2.2 (cs := [.int .i64 x.From, .string x.Bytes, .slice A2 n2 c2]) HO.out.1 HO.out.2.1 HO.out.2.2.1⟩
      case measure => simp [intOf]; omega
    · go_wp2
      go_ret
      exact HF.out.done (by omega)
set_option maxHeartbeats 2000000 in
theorem toLog_c (x : Log) (A : Option Addr) (n c : Nat) (w : World) (B : Nat) (g0 : Mm.SlAt rPiece w B x.Pieces A n c) (s0 : Mm.I64 x.Begin) (hB : B ≤ w.heap.size) (hsz : Pl.szLog x ≤ 1048576) :
    Calls Tryz.prog 129 #[.agg #[.slice A n c, .int .i64 x.Begin]] w (Mm.NewAg rLog w x) := by
  have HG := Lib.hid (And.intro hB g0)
  have HSZ := Lib.hid hsz
  clear hsz g0
  have HS := Lib.hid s0
  clear s0
  have zn_Pieces := Pl.szl_nn (f := Pl.szPiece) (Pl.szPiece_nn) x.Pieces
  have hz : Pl.szLog x = (Pl.szl Pl.szPiece) x.Pieces := rfl
  have HZ := Lib.hid hz
  clear hz
  have KA := Lib.hid (((Mm.Blk.new w 158 [.slice A n c, .int .i64 x.Begin]).alloc (.cells #[.slice none 0 0, .int .i64 0] 80)).alloc (.cells #[.slice none 0 0, .int .i64 0] 80))
  have KR := Lib.hid ((Mm.Blk.new' (w.alloc (.cells #[.slice A n c, .int .i64 x.Begin] 158)) 80 [.slice none 0 0, .int .i64 0] (Mm.sz1 _ _)).alloc (.cells #[.slice none 0 0, .int .i64 0] 80))
  have KO := Lib.hid (Mm.Blk.new' ((w.alloc (.cells #[.slice A n c, .int .i64 x.Begin] 158)).alloc (.cells #[.slice none 0 0, .int .i64 0] 80)) 80 [.slice none 0 0, .int .i64 0] (Mm.sz2 _ _ _))
  have hb0 : Below w.heap.size w (((w.alloc (.cells #[.slice A n c, .int .i64 x.Begin] 158)).alloc (.cells #[.slice none 0 0, .int .i64 0] 80)).alloc (.cells #[.slice none 0 0, .int .i64 0] 80)) := below_new (below_new (below_new (Below.refl _ _) _) _) _
  have HB := Lib.hid hb0
  have hlt0 := KO.out.lt
  clear hb0
  go_enter Tryz.func129, Tryz.ntmps129
  go_wp2_with fail
  refine (toPieceS_c x.Pieces _ _ _ _ B (HG.out.2.keep fun b hb => HB.out.block b (Nat.lt_of_lt_of_le hb HG.out.1)) (Nat.le_trans HG.out.1 HB.out.size) (by have h1 := HZ.out; have h2 := HSZ.out; omega)).mono ?_
  rintro e w1 ⟨P1, p1, q1, fp1, rfl, ho1, hnd1, hf1, hb1⟩
  have hfb1 : ∀ b, b ∈ fp1 → b ≠ w.heap.size + 1 ∧ b ≠ w.heap.size + 2 := fun b hb => by have := hf1 b hb; have := KO.out.lt; have := KR.out.lt; omega
  have CS1 := Lib.hid ho1.olt
  have OS1 := Lib.hid (And.intro ho1 (And.intro hnd1 (And.intro hfb1 hf1)))
  have HF1 := Lib.hid (show ∀ b, b ∈ fp1 → w.heap.size ≤ b from fun b hb => Nat.le_trans HB.out.size (hf1 b hb))
  have KA := Lib.hid (KA.out.bel hb1)
  have KR := Lib.hid (KR.out.bel hb1)
  have KO := Lib.hid (KO.out.bel hb1)
  have HB := Lib.hid (below_step HB.out hb1)
  have CH1 := Lib.hid (Mm.Chg.refl [w.heap.size + 1, w.heap.size + 2] w1)
  have a1_1 := KA.out.cell (i := 1) rfl
  have o1_0 := KO.out.cell (i := 0) rfl
  have r1_0 := KR.out.cell (i := 0) rfl
  have x1_0 := KO.out.frozen 0
  have y1_0 := KR.out.frozen 0
  have o1_1 := KO.out.cell (i := 1) rfl
  have r1_1 := KR.out.cell (i := 1) rfl
  have x1_1 := KO.out.frozen 1
  have y1_1 := KR.out.frozen 1
  clear hb1 ho1 hnd1 hf1 hfb1
  have KA := Lib.hid (KA.out.far (p := ⟨w.heap.size + 2, 0, none⟩) (by show w.heap.size ≠ w.heap.size + 2; omega) (.slice P1 p1 q1))
  have KR := Lib.hid (KR.out.far (p := ⟨w.heap.size + 2, 0, none⟩) (by show w.heap.size + 1 ≠ w.heap.size + 2; omega) (.slice P1 p1 q1))
  have KO := Lib.hid (KO.out.set_ 0 (.slice P1 p1 q1))
  have HB := Lib.hid (HB.out.setCell (p := ⟨w.heap.size + 2, 0, none⟩) (by show w.heap.size ≤ w.heap.size + 2; omega) (.slice P1 p1 q1))
  have CH1 := Lib.hid (CH1.out.setCell (p := ⟨w.heap.size + 2, 0, none⟩) (by simp) (.slice P1 p1 q1))
  have KA := Lib.hid (KA.out.far (p := ⟨w.heap.size + 2, 1, none⟩) (by show w.heap.size ≠ w.heap.size + 2; omega) (.int .i64 x.Begin))
  have KR := Lib.hid (KR.out.far (p := ⟨w.heap.size + 2, 1, none⟩) (by show w.heap.size + 1 ≠ w.heap.size + 2; omega) (.int .i64 x.Begin))
  have KO := Lib.hid (KO.out.set_ 1 (.int .i64 x.Begin))
  have HB := Lib.hid (HB.out.setCell (p := ⟨w.heap.size + 2, 1, none⟩) (by show w.heap.size ≤ w.heap.size + 2; omega) (.int .i64 x.Begin))
  have CH1 := Lib.hid (CH1.out.setCell (p := ⟨w.heap.size + 2, 1, none⟩) (by simp) (.int .i64 x.Begin))
  go_wp2
  have HB := Lib.hid (HB.out.setCell (p := ⟨w.heap.size + 1, 0, none⟩) (by show w.heap.size ≤ w.heap.size + 1; omega) (.slice P1 p1 q1))
  have CH1 := Lib.hid (CH1.out.setCell (p := ⟨w.heap.size + 1, 0, none⟩) (by simp) (.slice P1 p1 q1))
  have HB := Lib.hid (HB.out.setCell (p := ⟨w.heap.size + 1, 1, none⟩) (by show w.heap.size ≤ w.heap.size + 1; omega) (.int .i64 x.Begin))
  have CH1 := Lib.hid (CH1.out.setCell (p := ⟨w.heap.size + 1, 1, none⟩) (by simp) (.int .i64 x.Begin))
  refine bodyPost_ret (v := .agg #[.slice P1 p1 q1, .int .i64 x.Begin]) (by simp [results, Tryz.results129, go_sem, r1_0, r1_1]) rfl ⟨[.slice P1 p1 q1, .int .i64 x.Begin], _, rfl, rLog_own_mk (OS1.out.1.okeep fun b hb => CH1.out.block b (CS1.out b hb) (by simp; exact ⟨(OS1.out.2.2.1 b hb).1, (OS1.out.2.2.1 b hb).2⟩)) HS.out, ?_, ?_, HB.out⟩
  · exact OS1.out.2.1
  · intro b hb
    exact HF1.out b hb
theorem toLog_at (x : Log) (cs : List Value) (w : World) (B : Nat) (h : rLog.at_ w B x cs) (hB : B ≤ w.heap.size) (hsz : Pl.szLog x ≤ 1048576) :
    Calls Tryz.prog 129 #[.agg cs.toArray] w (Mm.NewAg rLog w x) := by
  obtain ⟨A, n, c, rfl, g0, g1⟩ := rLog_at h
  exact toLog_c x _ _ _ _ B g0 g1 hB hsz
theorem Tryz.info_Log : (Tryz.prog.info? 80).map (fun i => (i.zero, i.size, i.bytes)) = some (some (.agg #[.slice none 0 0, .int .i64 0]), 2, 32) := by kernel_rfl
set_option maxHeartbeats 1000000 in
theorem toLogS_c (l : List Log) (A : Option Addr) (n c : Nat) (w : World) (B : Nat) (hl : Mm.SlAt rLog w B l A n c) (hB : B ≤ w.heap.size) (hsz : Pl.szl Pl.szLog l ≤ 1048576) :
    Calls Tryz.prog 74 #[.slice A n c] w (Mm.NewSl rLog 80 w l) := by
  have hlen : Hid (l.length = n) := hl.1
  have HL := Lib.hid hl
  have HN : Hid (∀ x : Log, 0 ≤ Pl.szLog x) := Pl.szLog_nn
  have HSZ := Lib.hid hsz
  have hn : n ≤ 1048576 := by have := Pl.szl_len HN.out l; have := hlen.out; omega
  clear hl hsz
  obtain ⟨i0, hi, hz0, hz1, hz2⟩ := info_parts Tryz.info_Log
  go_enter Tryz.func74, Tryz.ntmps74
  go_wp2_with (at_make; refine wpList_make_full _ rfl _ _ 24 rfl 0 80 i0 _ 2 Tryz.underlying24 hi hz0 hz1 _ _ _ _ n rfl rfl rfl rfl (by rw [hz2]; omega) (by unfold maxLen; omega) (Nat.zero_le _) ?_; intro w1 hown hgrow)
  go_loopw [4] (fun i wr => ∃ k : Nat, k ≤ n ∧ i = .int .i64 k ∧ Mm.Filled rLog 80 w l ⟨[], 0⟩ n k wr) (fun i _ => n - (intOf i).toNat)
  case atStart => exact ⟨0, Nat.zero_le _, rfl, Mm.Filled.start (zv := .agg #[.slice none 0 0, .int .i64 0]) hlen.out hown hgrow (rLog_own_mk (x := ⟨[], 0⟩) Mm.SlOwn.nil (by unfold Mm.I64; simp)) (by decide)⟩
  case round =>
    obtain ⟨k, hk, rfl, hfil⟩ := hrel
    rename_i wr _
    have HF : Hid (Mm.Filled rLog 80 w l ⟨[], 0⟩ n k wr) := hfil
    clear hfil hown hgrow
    by_cases hlt : k < n
    · obtain ⟨x, b, off, A, n, c, hx, rfl, hb, f0, f1, d0, d1⟩ := rLog_get (HL.out.keep (w' := wr) (fun b hb => HF.out.below.block b (by omega))) hlt
      have hBw : B ≤ wr.heap.size := Nat.le_trans hB HF.out.below.size
      have hxs := Pl.szl_mem HN.out (List.mem_of_getElem? hx)
      have HX := Lib.hid (And.intro hx (And.intro hxs (And.intro f0 f1)))
      have hw := HF.out.lt
      clear hx hxs f0 f1
      go_wp2_with fail
      refine (toLog_c x _ _ _ _ B HX.out.2.2.1 HX.out.2.2.2 hBw (by have h1 := HX.out.2.1; have h2 := HSZ.out; omega)).mono ?_
      rintro e w2 ⟨cs2, fp2, rfl, ho2, hnd2, hf2, hb2⟩
      have HO := Lib.hid (And.intro ho2 (And.intro hnd2 (And.intro hf2 hb2)))
      obtain ⟨A2, n2, c2, _, rfl, _⟩ := rLog_own ho2
      have HK := Lib.hid (HF.out.keep hb2)
      clear ho2 hnd2 hf2 hb2
      obtain ⟨u0, t0⟩ := HK.out.cell hlt (j := 0) (by decide)
      have d0' : w2.cell? ⟨w.heap.size, k * 2, none⟩ = some u0 := t0
      have z0 := HK.out.frozen (k * 2)
      clear t0
      obtain ⟨u1, t1⟩ := HK.out.cell hlt (j := 1) (by decide)
      have d1' : w2.cell? ⟨w.heap.size, k * 2 + 1, none⟩ = some u1 := t1
      have z1 := HK.out.frozen (k * 2 + 1)
      clear t1
      go_wp2
      go_roundw
      case rel => exact ⟨k + 1, by omega, by go_num, HF.out.step hlt HX.out.1 HO.out.2.2.2 (cs := [.slice A2 n2 c2, .int .i64 x.Begin]) HO.out.1 HO.out.2.1 HO.out.2.2.1⟩
      case measure => simp [intOf]; omega
    · go_wp2
      go_ret
      exact HF.out.done (by omega)
set_option maxHeartbeats 2000000 in
theorem toHouse_c (x : House) (A0 : Option Addr) (n0 c0 : Nat) (A1 : Option Addr) (n1 c1 : Nat) (A2 : Option Addr) (n2 c2 : Nat) (w : World) (B : Nat) (g0 : Mm.SlAt rLog w B x.Logs A0 n0 c0) (g1 : Mm.SlAt rHead w B x.Heads A1 n1 c1) (g2 : Mm.SlAt rHead w B x.Kept A2 n2 c2) (hB : B ≤ w.heap.size) (hsz : Pl.szHouse x ≤ 1048576) :
    Calls Tryz.prog 24 #[.agg #[.slice A0 n0 c0, .slice A1 n1 c1, .slice A2 n2 c2]] w (Mm.NewAg rHouse w x) := by
  have HG := Lib.hid (And.intro hB (And.intro g0 (And.intro g1 g2)))
  have HSZ := Lib.hid hsz
  clear hsz g0 g1 g2
  have zn_Logs := Pl.szl_nn (f := Pl.szLog) (Pl.szLog_nn) x.Logs
  have zn_Heads := Pl.szl_nn (f := Pl.szHead) (Pl.szHead_nn) x.Heads
  have zn_Kept := Pl.szl_nn (f := Pl.szHead) (Pl.szHead_nn) x.Kept
  have hz : Pl.szHouse x = (Pl.szl Pl.szLog) x.Logs + (Pl.szl Pl.szHead) x.Heads + (Pl.szl Pl.szHead) x.Kept := rfl
  have HZ := Lib.hid hz
  clear hz
  have KA := Lib.hid (((Mm.Blk.new w 43 [.slice A0 n0 c0, .slice A1 n1 c1, .slice A2 n2 c2]).alloc (.cells #[.slice none 0 0, .slice none 0 0, .slice none 0 0] 27)).alloc (.cells #[.slice none 0 0, .slice none 0 0, .slice none 0 0] 27))
  have KR := Lib.hid ((Mm.Blk.new' (w.alloc (.cells #[.slice A0 n0 c0, .slice A1 n1 c1, .slice A2 n2 c2] 43)) 27 [.slice none 0 0, .slice none 0 0, .slice none 0 0] (Mm.sz1 _ _)).alloc (.cells #[.slice none 0 0, .slice none 0 0, .slice none 0 0] 27))
  have KO := Lib.hid (Mm.Blk.new' ((w.alloc (.cells #[.slice A0 n0 c0, .slice A1 n1 c1, .slice A2 n2 c2] 43)).alloc (.cells #[.slice none 0 0, .slice none 0 0, .slice none 0 0] 27)) 27 [.slice none 0 0, .slice none 0 0, .slice none 0 0] (Mm.sz2 _ _ _))
  have hb0 : Below w.heap.size w (((w.alloc (.cells #[.slice A0 n0 c0, .slice A1 n1 c1, .slice A2 n2 c2] 43)).alloc (.cells #[.slice none 0 0, .slice none 0 0, .slice none 0 0] 27)).alloc (.cells #[.slice none 0 0, .slice none 0 0, .slice none 0 0] 27)) := below_new (below_new (below_new (Below.refl _ _) _) _) _
  have HB := Lib.hid hb0
  have hlt0 := KO.out.lt
  clear hb0
  go_enter Tryz.func24, Tryz.ntmps24
  go_wp2_with fail
  refine (toLogS_c x.Logs _ _ _ _ B (HG.out.2.1.keep fun b hb => HB.out.block b (Nat.lt_of_lt_of_le hb HG.out.1)) (Nat.le_trans HG.out.1 HB.out.size) (by have h1 := HZ.out; have h2 := HSZ.out; omega)).mono ?_
  rintro e w1 ⟨P1, p1, q1, fp1, rfl, ho1, hnd1, hf1, hb1⟩
  have hfb1 : ∀ b, b ∈ fp1 → b ≠ w.heap.size + 1 ∧ b ≠ w.heap.size + 2 := fun b hb => by have := hf1 b hb; have := KO.out.lt; have := KR.out.lt; omega
  have CS1 := Lib.hid ho1.olt
  have OS1 := Lib.hid (And.intro ho1 (And.intro hnd1 (And.intro hfb1 hf1)))
  have HF1 := Lib.hid (show ∀ b, b ∈ fp1 → w.heap.size ≤ b from fun b hb => Nat.le_trans HB.out.size (hf1 b hb))
  have KA := Lib.hid (KA.out.bel hb1)
  have KR := Lib.hid (KR.out.bel hb1)
  have KO := Lib.hid (KO.out.bel hb1)
  have HB := Lib.hid (below_step HB.out hb1)
  have CH1 := Lib.hid (Mm.Chg.refl [w.heap.size + 1, w.heap.size + 2] w1)
  have a1_1 := KA.out.cell (i := 1) rfl
  have a1_2 := KA.out.cell (i := 2) rfl
  have o1_0 := KO.out.cell (i := 0) rfl
  have r1_0 := KR.out.cell (i := 0) rfl
  have x1_0 := KO.out.frozen 0
  have y1_0 := KR.out.frozen 0
  have o1_1 := KO.out.cell (i := 1) rfl
  have r1_1 := KR.out.cell (i := 1) rfl
  have x1_1 := KO.out.frozen 1
  have y1_1 := KR.out.frozen 1
  have o1_2 := KO.out.cell (i := 2) rfl
  have r1_2 := KR.out.cell (i := 2) rfl
  have x1_2 := KO.out.frozen 2
  have y1_2 := KR.out.frozen 2
  clear hb1 ho1 hnd1 hf1 hfb1
  have KA := Lib.hid (KA.out.far (p := ⟨w.heap.size + 2, 0, none⟩) (by show w.heap.size ≠ w.heap.size + 2; omega) (.slice P1 p1 q1))
  have KR := Lib.hid (KR.out.far (p := ⟨w.heap.size + 2, 0, none⟩) (by show w.heap.size + 1 ≠ w.heap.size + 2; omega) (.slice P1 p1 q1))
  have KO := Lib.hid (KO.out.set_ 0 (.slice P1 p1 q1))
  have HB := Lib.hid (HB.out.setCell (p := ⟨w.heap.size + 2, 0, none⟩) (by show w.heap.size ≤ w.heap.size + 2; omega) (.slice P1 p1 q1))
  have CH1 := Lib.hid (CH1.out.setCell (p := ⟨w.heap.size + 2, 0, none⟩) (by simp) (.slice P1 p1 q1))
  go_wp2_with fail
  refine (toHeadS_c x.Heads _ _ _ _ B (HG.out.2.2.1.keep fun b hb => HB.out.block b (Nat.lt_of_lt_of_le hb HG.out.1)) (Nat.le_trans HG.out.1 HB.out.size) (by have h1 := HZ.out; have h2 := HSZ.out; omega)).mono ?_
  rintro e w2 ⟨P2, p2, q2, fp2, rfl, ho2, hnd2, hf2, hb2⟩
  have hfb2 : ∀ b, b ∈ fp2 → b ≠ w.heap.size + 1 ∧ b ≠ w.heap.size + 2 := fun b hb => by have := hf2 b hb; have := KO.out.lt; have := KR.out.lt; omega
  have hd1_2 : ∀ b, b ∈ fp1 → b ∉ fp2 := fun b hb hm => by have := hf2 b hm; have := CS1.out b hb; have := CH1.out.size; omega
  have CS2 := Lib.hid ho2.olt
  have OS2 := Lib.hid (And.intro ho2 (And.intro hnd2 (And.intro hfb2 hf2)))
  have HD1_2 := Lib.hid hd1_2
  have HF2 := Lib.hid (show ∀ b, b ∈ fp2 → w.heap.size ≤ b from fun b hb => Nat.le_trans HB.out.size (hf2 b hb))
  have KA := Lib.hid (KA.out.bel hb2)
  have KR := Lib.hid (KR.out.bel hb2)
  have KO := Lib.hid (KO.out.bel hb2)
  have HB := Lib.hid (below_step HB.out hb2)
  have CH1 := Lib.hid (Mm.und_chg CH1.out hb2)
  have CH2 := Lib.hid (Mm.Chg.refl [w.heap.size + 1, w.heap.size + 2] w2)
  have a2_2 := KA.out.cell (i := 2) rfl
  have o2_0 := KO.out.cell (i := 0) rfl
  have r2_0 := KR.out.cell (i := 0) rfl
  have x2_0 := KO.out.frozen 0
  have y2_0 := KR.out.frozen 0
  have o2_1 := KO.out.cell (i := 1) rfl
  have r2_1 := KR.out.cell (i := 1) rfl
  have x2_1 := KO.out.frozen 1
  have y2_1 := KR.out.frozen 1
  have o2_2 := KO.out.cell (i := 2) rfl
  have r2_2 := KR.out.cell (i := 2) rfl
  have x2_2 := KO.out.frozen 2
  have y2_2 := KR.out.frozen 2
  clear hb2 ho2 hnd2 hf2 hfb2 hd1_2
  have KA := Lib.hid (KA.out.far (p := ⟨w.heap.size + 2, 1, none⟩) (by show w.heap.size ≠ w.heap.size + 2; omega) (.slice P2 p2 q2))
  have KR := Lib.hid (KR.out.far (p := ⟨w.heap.size + 2, 1, none⟩) (by show w.heap.size + 1 ≠ w.heap.size + 2; omega) (.slice P2 p2 q2))
  have KO := Lib.hid (KO.out.set_ 1 (.slice P2 p2 q2))
  have HB := Lib.hid (HB.out.setCell (p := ⟨w.heap.size + 2, 1, none⟩) (by show w.heap.size ≤ w.heap.size + 2; omega) (.slice P2 p2 q2))
  have CH1 := Lib.hid (CH1.out.setCell (p := ⟨w.heap.size + 2, 1, none⟩) (by simp) (.slice P2 p2 q2))
  have CH2 := Lib.hid (CH2.out.setCell (p := ⟨w.heap.size + 2, 1, none⟩) (by simp) (.slice P2 p2 q2))
  go_wp2_with fail
  refine (toHeadS_c x.Kept _ _ _ _ B (HG.out.2.2.2.keep fun b hb => HB.out.block b (Nat.lt_of_lt_of_le hb HG.out.1)) (Nat.le_trans HG.out.1 HB.out.size) (by have h1 := HZ.out; have h2 := HSZ.out; omega)).mono ?_
  rintro e w3 ⟨P3, p3, q3, fp3, rfl, ho3, hnd3, hf3, hb3⟩
  have hfb3 : ∀ b, b ∈ fp3 → b ≠ w.heap.size + 1 ∧ b ≠ w.heap.size + 2 := fun b hb => by have := hf3 b hb; have := KO.out.lt; have := KR.out.lt; omega
  have hd1_3 : ∀ b, b ∈ fp1 → b ∉ fp3 := fun b hb hm => by have := hf3 b hm; have := CS1.out b hb; have := CH1.out.size; omega
  have hd2_3 : ∀ b, b ∈ fp2 → b ∉ fp3 := fun b hb hm => by have := hf3 b hm; have := CS2.out b hb; have := CH2.out.size; omega
  have CS3 := Lib.hid ho3.olt
  have OS3 := Lib.hid (And.intro ho3 (And.intro hnd3 (And.intro hfb3 hf3)))
  have HD1_3 := Lib.hid hd1_3
  have HD2_3 := Lib.hid hd2_3
  have HF3 := Lib.hid (show ∀ b, b ∈ fp3 → w.heap.size ≤ b from fun b hb => Nat.le_trans HB.out.size (hf3 b hb))
  have KA := Lib.hid (KA.out.bel hb3)
  have KR := Lib.hid (KR.out.bel hb3)
  have KO := Lib.hid (KO.out.bel hb3)
  have HB := Lib.hid (below_step HB.out hb3)
  have CH1 := Lib.hid (Mm.und_chg CH1.out hb3)
  have CH2 := Lib.hid (Mm.und_chg CH2.out hb3)
  have CH3 := Lib.hid (Mm.Chg.refl [w.heap.size + 1, w.heap.size + 2] w3)
  have o3_0 := KO.out.cell (i := 0) rfl
  have r3_0 := KR.out.cell (i := 0) rfl
  have x3_0 := KO.out.frozen 0
  have y3_0 := KR.out.frozen 0
  have o3_1 := KO.out.cell (i := 1) rfl
  have r3_1 := KR.out.cell (i := 1) rfl
  have x3_1 := KO.out.frozen 1
  have y3_1 := KR.out.frozen 1
  have o3_2 := KO.out.cell (i := 2) rfl
  have r3_2 := KR.out.cell (i := 2) rfl
  have x3_2 := KO.out.frozen 2
  have y3_2 := KR.out.frozen 2
  clear hb3 ho3 hnd3 hf3 hfb3 hd1_3 hd2_3
  have KA := Lib.hid (KA.out.far (p := ⟨w.heap.size + 2, 2, none⟩) (by show w.heap.size ≠ w.heap.size + 2; omega) (.slice P3 p3 q3))
  have KR := Lib.hid (KR.out.far (p := ⟨w.heap.size + 2, 2, none⟩) (by show w.heap.size + 1 ≠ w.heap.size + 2; omega) (.slice P3 p3 q3))
  have KO := Lib.hid (KO.out.set_ 2 (.slice P3 p3 q3))
  have HB := Lib.hid (HB.out.setCell (p := ⟨w.heap.size + 2, 2, none⟩) (by show w.heap.size ≤ w.heap.size + 2; omega) (.slice P3 p3 q3))
  have CH1 := Lib.hid (CH1.out.setCell (p := ⟨w.heap.size + 2, 2, none⟩) (by simp) (.slice P3 p3 q3))
  have CH2 := Lib.hid (CH2.out.setCell (p := ⟨w.heap.size + 2, 2, none⟩) (by simp) (.slice P3 p3 q3))
  have CH3 := Lib.hid (CH3.out.setCell (p := ⟨w.heap.size + 2, 2, none⟩) (by simp) (.slice P3 p3 q3))
  go_wp2
  have HB := Lib.hid (HB.out.setCell (p := ⟨w.heap.size + 1, 0, none⟩) (by show w.heap.size ≤ w.heap.size + 1; omega) (.slice P1 p1 q1))
  have CH1 := Lib.hid (CH1.out.setCell (p := ⟨w.heap.size + 1, 0, none⟩) (by simp) (.slice P1 p1 q1))
  have CH2 := Lib.hid (CH2.out.setCell (p := ⟨w.heap.size + 1, 0, none⟩) (by simp) (.slice P1 p1 q1))
  have CH3 := Lib.hid (CH3.out.setCell (p := ⟨w.heap.size + 1, 0, none⟩) (by simp) (.slice P1 p1 q1))
  have HB := Lib.hid (HB.out.setCell (p := ⟨w.heap.size + 1, 1, none⟩) (by show w.heap.size ≤ w.heap.size + 1; omega) (.slice P2 p2 q2))
  have CH1 := Lib.hid (CH1.out.setCell (p := ⟨w.heap.size + 1, 1, none⟩) (by simp) (.slice P2 p2 q2))
  have CH2 := Lib.hid (CH2.out.setCell (p := ⟨w.heap.size + 1, 1, none⟩) (by simp) (.slice P2 p2 q2))
  have CH3 := Lib.hid (CH3.out.setCell (p := ⟨w.heap.size + 1, 1, none⟩) (by simp) (.slice P2 p2 q2))
  have HB := Lib.hid (HB.out.setCell (p := ⟨w.heap.size + 1, 2, none⟩) (by show w.heap.size ≤ w.heap.size + 1; omega) (.slice P3 p3 q3))
  have CH1 := Lib.hid (CH1.out.setCell (p := ⟨w.heap.size + 1, 2, none⟩) (by simp) (.slice P3 p3 q3))
  have CH2 := Lib.hid (CH2.out.setCell (p := ⟨w.heap.size + 1, 2, none⟩) (by simp) (.slice P3 p3 q3))
  have CH3 := Lib.hid (CH3.out.setCell (p := ⟨w.heap.size + 1, 2, none⟩) (by simp) (.slice P3 p3 q3))
  refine bodyPost_ret (v := .agg #[.slice P1 p1 q1, .slice P2 p2 q2, .slice P3 p3 q3]) (by simp [results, Tryz.results24, go_sem, r3_0, r3_1, r3_2]) rfl ⟨[.slice P1 p1 q1, .slice P2 p2 q2, .slice P3 p3 q3], _, rfl, rHouse_own_mk (OS1.out.1.okeep fun b hb => CH1.out.block b (CS1.out b hb) (by simp; exact ⟨(OS1.out.2.2.1 b hb).1, (OS1.out.2.2.1 b hb).2⟩)) (OS2.out.1.okeep fun b hb => CH2.out.block b (CS2.out b hb) (by simp; exact ⟨(OS2.out.2.2.1 b hb).1, (OS2.out.2.2.1 b hb).2⟩)) (OS3.out.1.okeep fun b hb => CH3.out.block b (CS3.out b hb) (by simp; exact ⟨(OS3.out.2.2.1 b hb).1, (OS3.out.2.2.1 b hb).2⟩)), ?_, ?_, HB.out⟩
  · exact (List.nodup_append.2 ⟨OS1.out.2.1, (List.nodup_append.2 ⟨OS2.out.2.1, OS3.out.2.1, fun a ha b hb hab => by subst hab; exact HD2_3.out a ha hb⟩), fun a ha b hb hab => by subst hab; exact (List.mem_append.1 hb).elim (fun hb => HD1_2.out a ha hb) (fun hb => HD1_3.out a ha hb)⟩)
  · intro b hb
    rcases List.mem_append.1 hb with hb | hb
    · exact HF1.out b hb
    · rcases List.mem_append.1 hb with hb | hb
      · exact HF2.out b hb
      · exact HF3.out b hb
theorem toHouse_at (x : House) (cs : List Value) (w : World) (B : Nat) (h : rHouse.at_ w B x cs) (hB : B ≤ w.heap.size) (hsz : Pl.szHouse x ≤ 1048576) :
    Calls Tryz.prog 24 #[.agg cs.toArray] w (Mm.NewAg rHouse w x) := by
  obtain ⟨A0, n0, c0, A1, n1, c1, A2, n2, c2, rfl, g0, g1, g2⟩ := rHouse_at h
  exact toHouse_c x _ _ _ _ _ _ _ _ _ _ B g0 g1 g2 hB hsz
end Go.Proofs.YtbhmdnjammnlnaaGreatDoor

/-
  The laws' own types, opened. No conditions.
-/
namespace Go.Proofs.YtbhmdnjammnlnaaGreatDoor
theorem opens_IntS : Mm.Opens Tryz.prog 133 (Mm.slice Mm.int 3) := Mm.opens_slice Tryz.underlying133 (by kernel_rfl) (by decide) (Mm.opens_int Tryz.underlying3 (by kernel_rfl))
theorem opens_StringS : Mm.Opens Tryz.prog 142 (Mm.slice Mm.str 9) := Mm.opens_slice Tryz.underlying142 (by kernel_rfl) (by decide) (Mm.opens_str Tryz.underlying9 (by kernel_rfl))
theorem opens_BoolS : Mm.Opens Tryz.prog 28 (Mm.slice Mm.bool 4) := Mm.opens_slice Tryz.underlying28 (by kernel_rfl) (by decide) (Mm.opens_bool Tryz.underlying4 (by kernel_rfl))
theorem opens_Sample : Mm.Opens Tryz.prog 250 smp :=
  Mm.opens_map (Mm.opens_struct (E := (Mm.pair Mm.int Mm.int)) Tryz.underlying250 (by kernel_rfl) (Mm.opensF_cons rfl (Mm.opens_int Tryz.underlying3 (by kernel_rfl)) (Mm.opensF_one rfl (Mm.opens_int Tryz.underlying3 (by kernel_rfl))))) rfl
    (fun w B x cs h => by obtain ⟨_, _, rfl, ⟨rfl, h0⟩, ⟨rfl, h1⟩⟩ := h; exact ⟨⟨x.1, x.2⟩, rfl, ⟨h0, h1⟩⟩)
theorem opens_SampleS : Mm.Opens Tryz.prog 219 (Mm.slice smp 250) := Mm.opens_slice Tryz.underlying219 (by kernel_rfl) (by decide) opens_Sample
theorem opens_Say : Mm.Opens Tryz.prog 49 rSay :=
  Mm.opens_map (Mm.opens_struct (E := (Mm.pair Mm.str (Mm.pair Mm.int Mm.int))) Tryz.underlying49 (by kernel_rfl) (Mm.opensF_cons rfl (Mm.opens_str Tryz.underlying9 (by kernel_rfl)) (Mm.opensF_cons rfl (Mm.opens_int Tryz.underlying3 (by kernel_rfl)) (Mm.opensF_one rfl (Mm.opens_int Tryz.underlying3 (by kernel_rfl)))))) rfl
    (fun w B x cs h => by obtain ⟨_, _, rfl, ⟨rfl, h0⟩, ⟨_, _, rfl, ⟨rfl, h1⟩, ⟨rfl, h2⟩⟩⟩ := h; exact ⟨⟨x.1, x.2.1, x.2.2⟩, rfl, ⟨h0, h1, h2⟩⟩)
theorem opens_HouseStep : Mm.Opens Tryz.prog 51 rHouseStep :=
  Mm.opens_map (Mm.opens_struct (E := (Mm.pair Mm.int (Mm.pair Mm.int rSay))) Tryz.underlying51 (by kernel_rfl) (Mm.opensF_cons rfl (Mm.opens_int Tryz.underlying3 (by kernel_rfl)) (Mm.opensF_cons rfl (Mm.opens_int Tryz.underlying3 (by kernel_rfl)) (Mm.opensF_one rfl opens_Say)))) rfl
    (fun w B x cs h => by obtain ⟨_, _, rfl, ⟨rfl, h0⟩, ⟨_, _, rfl, ⟨rfl, h1⟩, ⟨rfl, h2⟩⟩⟩ := h; exact ⟨⟨x.1, x.2.1, x.2.2⟩, rfl, ⟨h0, h1, h2.1, h2.2.1, h2.2.2⟩⟩)
theorem opens_HouseStepS : Mm.Opens Tryz.prog 22 (Mm.slice rHouseStep 51) := Mm.opens_slice Tryz.underlying22 (by kernel_rfl) (by decide) opens_HouseStep
theorem opens_Row : Mm.Opens Tryz.prog 221 rRow :=
  Mm.opens_map (Mm.opens_struct (E := (Mm.pair Mm.str rSampleS)) Tryz.underlying221 (by kernel_rfl) (Mm.opensF_cons rfl (Mm.opens_str Tryz.underlying9 (by kernel_rfl)) (Mm.opensF_one rfl opens_SampleS))) rfl
    (fun w B x cs h => ⟨⟨x.1, x.2⟩, h⟩)
theorem opens_RowS : Mm.Opens Tryz.prog 160 (Mm.slice rRow 221) := Mm.opens_slice Tryz.underlying160 (by kernel_rfl) (by decide) opens_Row
theorem opens_Head : Mm.Opens Tryz.prog 162 rHead :=
  Mm.opens_map (Mm.opens_struct (E := (Mm.pair rRowS Mm.int)) Tryz.underlying162 (by kernel_rfl) (Mm.opensF_cons rfl opens_RowS (Mm.opensF_one rfl (Mm.opens_int Tryz.underlying3 (by kernel_rfl))))) rfl
    (fun w B x cs h => ⟨⟨x.1, x.2⟩, h⟩)
theorem opens_HeadS : Mm.Opens Tryz.prog 41 (Mm.slice rHead 162) := Mm.opens_slice Tryz.underlying41 (by kernel_rfl) (by decide) opens_Head
theorem opens_Piece : Mm.Opens Tryz.prog 217 rPiece :=
  Mm.opens_map (Mm.opens_struct (E := (Mm.pair Mm.int (Mm.pair Mm.str ints))) Tryz.underlying217 (by kernel_rfl) (Mm.opensF_cons rfl (Mm.opens_int Tryz.underlying3 (by kernel_rfl)) (Mm.opensF_cons rfl (Mm.opens_str Tryz.underlying9 (by kernel_rfl)) (Mm.opensF_one rfl opens_IntS)))) rfl
    (fun w B x cs h => ⟨⟨x.1, x.2.1, x.2.2⟩, h⟩)
theorem opens_PieceS : Mm.Opens Tryz.prog 156 (Mm.slice rPiece 217) := Mm.opens_slice Tryz.underlying156 (by kernel_rfl) (by decide) opens_Piece
theorem opens_Log : Mm.Opens Tryz.prog 158 rLog :=
  Mm.opens_map (Mm.opens_struct (E := (Mm.pair rPieceS Mm.int)) Tryz.underlying158 (by kernel_rfl) (Mm.opensF_cons rfl opens_PieceS (Mm.opensF_one rfl (Mm.opens_int Tryz.underlying3 (by kernel_rfl))))) rfl
    (fun w B x cs h => ⟨⟨x.1, x.2⟩, h⟩)
theorem opens_LogS : Mm.Opens Tryz.prog 40 (Mm.slice rLog 158) := Mm.opens_slice Tryz.underlying40 (by kernel_rfl) (by decide) opens_Log
theorem opens_House : Mm.Opens Tryz.prog 43 rHouse :=
  Mm.opens_map (Mm.opens_struct (E := (Mm.pair rLogS (Mm.pair rHeadS rHeadS))) Tryz.underlying43 (by kernel_rfl) (Mm.opensF_cons rfl opens_LogS (Mm.opensF_cons rfl opens_HeadS (Mm.opensF_one rfl opens_HeadS)))) rfl
    (fun w B x cs h => ⟨⟨x.1, x.2.1, x.2.2⟩, h⟩)
end Go.Proofs.YtbhmdnjammnlnaaGreatDoor

/-
  A row that lists variables: what it hands to the walk (Tabs), and the wrap that keeps the world's shape. No conditions.
-/
namespace Go.Proofs.YtbhmdnjammnlnaaGreatDoor
open Go.RowKit Go.ChangeShapes
def laidL : List (String × DataW Unit) := [("math/bits.deBruijn32tab", Rows.laid_math_bits_deBruijn32tab), ("math/bits.deBruijn64tab", Rows.laid_math_bits_deBruijn64tab), ("internal/strconv.uint64pow10", Rows.laid_internal_strconv_uint64pow10), ("unicode/utf8.acceptRanges", Rows.laid_unicode_utf8_acceptRanges), ("strconv.ErrRange", Rows.laid_strconv_ErrRange), ("strconv.ErrSyntax", Rows.laid_strconv_ErrSyntax), ("unicode/utf8.first", Rows.laid_unicode_utf8_first)]
theorem returns_of_tied {H : Type} {enc : TypeId × Value → H} {a : Assume} {C : Checked} {os : Os} {f : FuncId} {fn : Func} {s : ChangeSpec} {conds : List PathCond} {apart fresh handsOn again : Bool} {X : World → Array Value → Prop}
    (hX : ∀ (w w' : World) (args : Array Value), w.heap = w'.heap → X w args → X w' args)
    (own : ownKnob C.prog.godebug = none) (started : os.Started) (noInit : C.prog.inits.idxOf? f = none) (hfn : C.prog.funcs[f]? = some fn)
    (witness : ∃ (w : World) (tape : Tape) (i : Input), w.os = os ∧ (w.forCall tape i).Shaped C.prog ∧ i.vars = [] ∧ Input.okWide C.prog (w.forCall tape i) .any w.heap.size f i ∧
      ((s.pre enc C.prog fn conds apart (w.forCall tape i).memory i.args ∧ X (w.forCall tape i).memory i.args) ∧ sizedMet enc C.prog fn (OpenSpec.ofChange s) apart (w.forCall tape i).memory i.args) ∧ a.holds C.prog (lone (Frame.enter C.prog f i.args .normal) [] (w.forCall tape i)))
    (contract : ∀ (W : World) (base : Nat) (args : Array Value) (ds gs : List (DataW H)) (before : List MemPlace),
      (∀ (j : Nat) t v, fn.params[j]? = some t → args[j]? = some v → Value.okWide C.prog W .any base t v) →
      DataW.Whole enc C.prog fn.params.toList s.vars apart W args.toList ds gs before →
      X W args → W.ShapedOpen C.prog →
      Calls C.prog f args W fun e W' => ∃ v, e = .returned v ∧ s.post enc C.prog fn apart fresh handsOn again W args v W') :
    ReturnsInHanded a C os f .any (fun w args => (s.pre enc C.prog fn conds apart w args ∧ X w args) ∧ sizedMet enc C.prog fn (OpenSpec.ofChange s) apart w args) (s.post enc C.prog fn apart fresh handsOn again) := by
  refine returnsInHanded_of_calls own started noInit witness ?_
  intro w tape i _ hsh _ hok hpre hholds
  obtain ⟨_, _, _, fn', hfn', _, _, _, _, hval⟩ := hok
  have e : fn' = fn := Option.some.inj (hfn'.symm.trans hfn)
  subst e
  obtain ⟨⟨⟨ds, gs, before, hw, hc⟩, hx⟩, hz⟩ := hpre
  have hw' := DataW.Whole.of_heap (w' := w.forCall tape i) (by rfl) hw
  refine (contract (w.forCall tape i) w.heap.size i.args ds gs before hval hw' (hX _ _ _ (by rfl) hx) hsh).mono fun e W' ⟨v, he, hp⟩ => ?_
  subst he
  exact ChangeSpec.post_blind hp
theorem starES : "*" ++ "errors.errorString" = "*errors.errorString" := by decide
theorem rowES (u : TypeId) (h : Program.typeName? Tryz.prog 3 u = some "*errors.errorString") : u = 270 :=
  typeName_ptr_named (nm := "errors.errorString") (by rw [starES]; kernel_rfl) (by kernel_rfl) (by decide) u (by rw [starES]; exact h)
theorem tabs_of_laid {W : World} (hL : laidMetH Tryz.prog laidL W) (hsh : W.ShapedOpen Tryz.prog) : Tabs W := by
  rw [MakeChecks.laidMetH_plain _ _ _ (by kernel_rfl)] at hL
  have h1 : laidMet Tryz.prog [("math/bits.deBruijn32tab", Rows.laid_math_bits_deBruijn32tab), ("math/bits.deBruijn64tab", Rows.laid_math_bits_deBruijn64tab), ("internal/strconv.uint64pow10", Lib.tabData .u64 Lib.pow10Tab), ("unicode/utf8.acceptRanges", Rows.laid_unicode_utf8_acceptRanges), ("strconv.ErrRange", Rows.laid_strconv_ErrRange), ("strconv.ErrSyntax", Rows.laid_strconv_ErrSyntax), ("unicode/utf8.first", Rows.laid_unicode_utf8_first)] W := by
    have e : (Rows.laid_internal_strconv_uint64pow10 : DataW Unit) = Lib.tabData .u64 Lib.pow10Tab := by kernel_rfl
    rw [← e]; exact hL
  refine ⟨?_, ?_, ?_, ?_⟩
  · exact Lib.tabIs_of_head (g := 1) (t := 255) (e := 126) (n := 20) (by kernel_rfl) (by kernel_rfl) (by kernel_rfl) (by kernel_rfl) (by kernel_rfl) (by kernel_rfl) h1.tail.tail
  · obtain ⟨a0, s0, hv0, -, -, -⟩ := laid_sentinel (g := 2) (ti := 211) (tp := 270) (te := 272) (ts := 9) h1.tail.tail.tail.tail.tail (by kernel_rfl) (by kernel_rfl) Tryz.underlying211 rowES Tryz.underlying270 Tryz.underlying272 rfl rfl Tryz.underlying9 (by kernel_rfl) (by kernel_rfl)
    exact ⟨_, _, hv0⟩
  · obtain ⟨a0, s0, hv0, -, -, -⟩ := laid_sentinel (g := 3) (ti := 211) (tp := 270) (te := 272) (ts := 9) h1.tail.tail.tail.tail (by kernel_rfl) (by kernel_rfl) Tryz.underlying211 rowES Tryz.underlying270 Tryz.underlying272 rfl rfl Tryz.underlying9 (by kernel_rfl) (by kernel_rfl)
    exact ⟨_, _, hv0⟩
  · exact cell_of_shapedOpen_int (t := 3) (zero := #[.int .i64 0]) hsh (by decide +kernel) (by kernel_rfl) (by kernel_rfl) (by kernel_rfl) (by kernel_rfl) (by kernel_rfl)
end Go.Proofs.YtbhmdnjammnlnaaGreatDoor
