/-
  The laws' own copies of arguments. No conditions.
-/
import Derived.Test.YtkodfflnpalbbaaWa
import Derived.Test.YtkodfflnpalbbaaTy
import Derived.Test.YtkodfflnpalbbaaQu
import Derived.Lib.Hide
import Derived.Deep.DeepFit
namespace Go.Proofs.Ytkodfflnpalbbaa
open Go.RowKit
attribute [local go_sem] und_cell
theorem toSay_c (x : Say) (w : World) :
    Calls Try.prog 48 #[.agg #[.string x.Name, .int .i64 x.At, .int .i64 x.Value]] w fun e w' => e = .returned (.agg #[.string x.Name, .int .i64 x.At, .int .i64 x.Value]) ∧ Below w.heap.size w w' := by
  go_enter Try.func48, Try.ntmps48
  go_wp2
  exact bodyPost_ret (v := .agg #[.string x.Name, .int .i64 x.At, .int .i64 x.Value]) (by simp [results, Try.results48, go_sem]) rfl ⟨rfl, below_new (below_new (below_new (Below.refl _ _) _) _) _⟩
theorem toHouseStep_c (x : HouseStep) (w : World) :
    Calls Try.prog 33 #[.agg #[.int .i64 x.Kind, .int .i64 x.Part, .string x.What.Name, .int .i64 x.What.At, .int .i64 x.What.Value]] w fun e w' => e = .returned (.agg #[.int .i64 x.Kind, .int .i64 x.Part, .string x.What.Name, .int .i64 x.What.At, .int .i64 x.What.Value]) ∧ Below w.heap.size w w' := by
  have KA := Lib.hid (((Mm.Blk.new w 59 [.int .i64 x.Kind, .int .i64 x.Part, .string x.What.Name, .int .i64 x.What.At, .int .i64 x.What.Value]).alloc (.cells #[.int .i64 0, .int .i64 0, .string ⟨#[]⟩, .int .i64 0, .int .i64 0] 63)).alloc (.cells #[.int .i64 x.Kind, .int .i64 x.Part, .string ⟨#[]⟩, .int .i64 0, .int .i64 0] 63))
  have KR := Lib.hid ((Mm.Blk.new' (w.alloc (.cells #[.int .i64 x.Kind, .int .i64 x.Part, .string x.What.Name, .int .i64 x.What.At, .int .i64 x.What.Value] 59)) 63 [.int .i64 0, .int .i64 0, .string ⟨#[]⟩, .int .i64 0, .int .i64 0] (Mm.sz1 _ _)).alloc (.cells #[.int .i64 x.Kind, .int .i64 x.Part, .string ⟨#[]⟩, .int .i64 0, .int .i64 0] 63))
  have KO := Lib.hid (Mm.Blk.new' ((w.alloc (.cells #[.int .i64 x.Kind, .int .i64 x.Part, .string x.What.Name, .int .i64 x.What.At, .int .i64 x.What.Value] 59)).alloc (.cells #[.int .i64 0, .int .i64 0, .string ⟨#[]⟩, .int .i64 0, .int .i64 0] 63)) 63 [.int .i64 x.Kind, .int .i64 x.Part, .string ⟨#[]⟩, .int .i64 0, .int .i64 0] (Mm.sz2 _ _ _))
  have hb0 : Below w.heap.size w (((w.alloc (.cells #[.int .i64 x.Kind, .int .i64 x.Part, .string x.What.Name, .int .i64 x.What.At, .int .i64 x.What.Value] 59)).alloc (.cells #[.int .i64 0, .int .i64 0, .string ⟨#[]⟩, .int .i64 0, .int .i64 0] 63)).alloc (.cells #[.int .i64 x.Kind, .int .i64 x.Part, .string ⟨#[]⟩, .int .i64 0, .int .i64 0] 63)) := below_new (below_new (below_new (Below.refl _ _) _) _) _
  have HB := Lib.hid hb0
  have hlt0 := KO.out.lt
  clear hb0
  go_enter Try.func33, Try.ntmps33
  go_wp2_with fail
  refine (toSay_c x.What _).mono ?_
  rintro e w1 ⟨rfl, hb1⟩
  have KA := Lib.hid (KA.out.bel hb1)
  have KR := Lib.hid (KR.out.bel hb1)
  have KO := Lib.hid (KO.out.bel hb1)
  have HB := Lib.hid (below_step HB.out hb1)
  have o1_0 := KO.out.cell (i := 0) rfl
  have r1_0 := KR.out.cell (i := 0) rfl
  have x1_0 := KO.out.frozen 0
  have y1_0 := KR.out.frozen 0
  have o1_1 := KO.out.cell (i := 1) rfl
  have r1_1 := KR.out.cell (i := 1) rfl
  have x1_1 := KO.out.frozen 1
  have y1_1 := KR.out.frozen 1
  have o1_2 := KO.out.cell (i := 2) rfl
  have r1_2 := KR.out.cell (i := 2) rfl
  have x1_2 := KO.out.frozen 2
  have y1_2 := KR.out.frozen 2
  have o1_3 := KO.out.cell (i := 3) rfl
  have r1_3 := KR.out.cell (i := 3) rfl
  have x1_3 := KO.out.frozen 3
  have y1_3 := KR.out.frozen 3
  have o1_4 := KO.out.cell (i := 4) rfl
  have r1_4 := KR.out.cell (i := 4) rfl
  have x1_4 := KO.out.frozen 4
  have y1_4 := KR.out.frozen 4
  clear hb1
  have KA := Lib.hid (KA.out.far (p := ⟨w.heap.size + 2, 2, none⟩) (by show w.heap.size ≠ w.heap.size + 2; omega) (.string x.What.Name))
  have KR := Lib.hid (KR.out.far (p := ⟨w.heap.size + 2, 2, none⟩) (by show w.heap.size + 1 ≠ w.heap.size + 2; omega) (.string x.What.Name))
  have KO := Lib.hid (KO.out.set_ 2 (.string x.What.Name))
  have HB := Lib.hid (HB.out.setCell (p := ⟨w.heap.size + 2, 2, none⟩) (by show w.heap.size ≤ w.heap.size + 2; omega) (.string x.What.Name))
  have KA := Lib.hid (KA.out.far (p := ⟨w.heap.size + 2, 3, none⟩) (by show w.heap.size ≠ w.heap.size + 2; omega) (.int .i64 x.What.At))
  have KR := Lib.hid (KR.out.far (p := ⟨w.heap.size + 2, 3, none⟩) (by show w.heap.size + 1 ≠ w.heap.size + 2; omega) (.int .i64 x.What.At))
  have KO := Lib.hid (KO.out.set_ 3 (.int .i64 x.What.At))
  have HB := Lib.hid (HB.out.setCell (p := ⟨w.heap.size + 2, 3, none⟩) (by show w.heap.size ≤ w.heap.size + 2; omega) (.int .i64 x.What.At))
  have KA := Lib.hid (KA.out.far (p := ⟨w.heap.size + 2, 4, none⟩) (by show w.heap.size ≠ w.heap.size + 2; omega) (.int .i64 x.What.Value))
  have KR := Lib.hid (KR.out.far (p := ⟨w.heap.size + 2, 4, none⟩) (by show w.heap.size + 1 ≠ w.heap.size + 2; omega) (.int .i64 x.What.Value))
  have KO := Lib.hid (KO.out.set_ 4 (.int .i64 x.What.Value))
  have HB := Lib.hid (HB.out.setCell (p := ⟨w.heap.size + 2, 4, none⟩) (by show w.heap.size ≤ w.heap.size + 2; omega) (.int .i64 x.What.Value))
  go_wp2
  have HB := Lib.hid (HB.out.setCell (p := ⟨w.heap.size + 1, 0, none⟩) (by show w.heap.size ≤ w.heap.size + 1; omega) (.int .i64 x.Kind))
  have HB := Lib.hid (HB.out.setCell (p := ⟨w.heap.size + 1, 1, none⟩) (by show w.heap.size ≤ w.heap.size + 1; omega) (.int .i64 x.Part))
  have HB := Lib.hid (HB.out.setCell (p := ⟨w.heap.size + 1, 2, none⟩) (by show w.heap.size ≤ w.heap.size + 1; omega) (.string x.What.Name))
  have HB := Lib.hid (HB.out.setCell (p := ⟨w.heap.size + 1, 3, none⟩) (by show w.heap.size ≤ w.heap.size + 1; omega) (.int .i64 x.What.At))
  have HB := Lib.hid (HB.out.setCell (p := ⟨w.heap.size + 1, 4, none⟩) (by show w.heap.size ≤ w.heap.size + 1; omega) (.int .i64 x.What.Value))
  exact bodyPost_ret (v := .agg #[.int .i64 x.Kind, .int .i64 x.Part, .string x.What.Name, .int .i64 x.What.At, .int .i64 x.What.Value]) (by simp [results, Try.results33, go_sem, r1_0, r1_1, r1_2, r1_3, r1_4]) rfl ⟨rfl, HB.out⟩
theorem Try.info_HouseStep : (Try.prog.info? 63).map (fun i => (i.zero, i.size, i.bytes)) = some (some (.agg #[.int .i64 0, .int .i64 0, .string ⟨#[]⟩, .int .i64 0, .int .i64 0]), 5, 48) := by kernel_rfl
set_option maxHeartbeats 1000000 in
theorem toHouseStepS_c (l : List HouseStep) (A : Option Addr) (n c : Nat) (w : World) (B : Nat) (hl : Mm.SlAt rHouseStep w B l A n c) (hB : B ≤ w.heap.size) (hsz : Pl.szl Pl.szHouseStep l ≤ 1048576) :
    Calls Try.prog 12 #[.slice A n c] w (Mm.NewSl rHouseStep 63 w l) := by
  have hlen : Hid (l.length = n) := hl.1
  have HL := Lib.hid hl
  have HN : Hid (∀ x : HouseStep, 0 ≤ Pl.szHouseStep x) := Pl.szHouseStep_nn
  have HSZ := Lib.hid hsz
  have hn : n ≤ 1048576 := by have := Pl.szl_len HN.out l; have := hlen.out; omega
  clear hl hsz
  obtain ⟨i0, hi, hz0, hz1, hz2⟩ := info_parts Try.info_HouseStep
  go_enter Try.func12, Try.ntmps12
  go_wp2_with (at_make; refine wpList_make_full _ rfl _ _ 38 rfl 0 63 i0 _ 5 Try.underlying38 hi hz0 hz1 _ _ _ _ n rfl rfl rfl rfl (by rw [hz2]; omega) (by unfold maxLen; omega) (Nat.zero_le _) ?_; intro w1 hown hgrow)
  go_loopw [4] (fun i wr => ∃ k : Nat, k ≤ n ∧ i = .int .i64 k ∧ Mm.Filled rHouseStep 63 w l ⟨0, 0, ⟨⟨#[]⟩, 0, 0⟩⟩ n k wr) (fun i _ => n - (intOf i).toNat)
  case atStart => exact ⟨0, Nat.zero_le _, rfl, Mm.Filled.start (zv := .agg #[.int .i64 0, .int .i64 0, .string ⟨#[]⟩, .int .i64 0, .int .i64 0]) hlen.out hown hgrow ⟨rfl, ⟨(by unfold Mm.I64; simp), (by unfold Mm.I64; simp), (by show 0 ≤ _; exact Nat.zero_le _), (by unfold Mm.I64; simp), (by unfold Mm.I64; simp)⟩, rfl⟩ (by decide)⟩
  case round =>
    obtain ⟨k, hk, rfl, hfil⟩ := hrel
    rename_i wr _
    have HF : Hid (Mm.Filled rHouseStep 63 w l ⟨0, 0, ⟨⟨#[]⟩, 0, 0⟩⟩ n k wr) := hfil
    clear hfil hown hgrow
    by_cases hlt : k < n
    · obtain ⟨x, b, off, hx, rfl, hb, f0, f1, f2, f3, f4, d0, d1, d2, d3, d4⟩ := rHouseStep_get (HL.out.keep (w' := wr) (fun b hb => HF.out.below.block b (by omega))) hlt
      have hBw : B ≤ wr.heap.size := Nat.le_trans hB HF.out.below.size
      have hxs := Pl.szl_mem HN.out (List.mem_of_getElem? hx)
      have HX := Lib.hid (And.intro hx (And.intro hxs (And.intro f0 (And.intro f1 (And.intro f2 (And.intro f3 f4))))))
      have hw := HF.out.lt
      clear hx hxs f0 f1 f2 f3 f4
      go_wp2_with fail
      refine (toHouseStep_c x _).mono ?_
      rintro e w2 ⟨rfl, hb2⟩
      have HK := Lib.hid (HF.out.keep hb2)
      obtain ⟨u0, t0⟩ := HK.out.cell hlt (j := 0) (by decide)
      have d0' : w2.cell? ⟨w.heap.size, k * 5, none⟩ = some u0 := t0
      have z0 := HK.out.frozen (k * 5)
      clear t0
      obtain ⟨u1, t1⟩ := HK.out.cell hlt (j := 1) (by decide)
      have d1' : w2.cell? ⟨w.heap.size, k * 5 + 1, none⟩ = some u1 := t1
      have z1 := HK.out.frozen (k * 5 + 1)
      clear t1
      obtain ⟨u2, t2⟩ := HK.out.cell hlt (j := 2) (by decide)
      have d2' : w2.cell? ⟨w.heap.size, k * 5 + 2, none⟩ = some u2 := t2
      have z2 := HK.out.frozen (k * 5 + 2)
      clear t2
      obtain ⟨u3, t3⟩ := HK.out.cell hlt (j := 3) (by decide)
      have d3' : w2.cell? ⟨w.heap.size, k * 5 + 3, none⟩ = some u3 := t3
      have z3 := HK.out.frozen (k * 5 + 3)
      clear t3
      obtain ⟨u4, t4⟩ := HK.out.cell hlt (j := 4) (by decide)
      have d4' : w2.cell? ⟨w.heap.size, k * 5 + 4, none⟩ = some u4 := t4
      have z4 := HK.out.frozen (k * 5 + 4)
      clear t4
      go_wp2
      go_roundw
      case rel => exact ⟨k + 1, by omega, by go_num, HF.out.step hlt HX.out.1 hb2 (cs := [.int .i64 x.Kind, .int .i64 x.Part, .string x.What.Name, .int .i64 x.What.At, .int .i64 x.What.Value]) (fx := []) ⟨rfl, ⟨HX.out.2.2.1, HX.out.2.2.2.1, HX.out.2.2.2.2.1, HX.out.2.2.2.2.2.1, HX.out.2.2.2.2.2.2⟩, rfl⟩ List.nodup_nil (fun b hb => by cases hb)⟩
      case measure => simp [intOf]; omega
    · go_wp2
      go_ret
      exact HF.out.done (by omega)
end Go.Proofs.Ytkodfflnpalbbaa
