/-
  The laws' own copies of arguments. No conditions.
-/
import Derived.Test.YtaepohocabealaaWa
import Derived.Test.YtaepohocabealaaTy
import Derived.Test.YtaepohocabealaaQu
import Derived.Lib.Hide
import Derived.Deep.DeepFit
namespace Go.Proofs.Ytaepohocabealaa
open Go.RowKit
attribute [local go_sem] und_cell
theorem Try.info_Int : (Try.prog.info? 3).map (fun i => (i.zero, i.size, i.bytes)) = some (some (.int .i64 0), 1, 8) := by kernel_rfl
set_option maxHeartbeats 1000000 in
theorem toIntS_c (l : List Int) (A : Option Addr) (n c : Nat) (w : World) (B : Nat) (hl : Mm.SlAt Mm.int w B l A n c) (hB : B ≤ w.heap.size) (hsz : Pl.szl Pl.sz0 l ≤ 1048576) :
    Calls Try.prog 83 #[.slice A n c] w (Mm.NewSl Mm.int 3 w l) := by
  have hlen : Hid (l.length = n) := hl.1
  have HL := Lib.hid hl
  have HN : Hid (∀ x : Int, 0 ≤ Pl.sz0 x) := Pl.sz0_nn
  have HSZ := Lib.hid hsz
  have hn : n ≤ 1048576 := by have := Pl.szl_len HN.out l; have := hlen.out; omega
  clear hl hsz
  obtain ⟨i0, hi, hz0, hz1, hz2⟩ := info_parts Try.info_Int
  go_enter Try.func83, Try.ntmps83
  go_wp2_with (at_make; refine wpList_make_full _ rfl _ _ 27 rfl 0 3 i0 _ 1 Try.underlying27 hi hz0 hz1 _ _ _ _ n rfl rfl rfl rfl (by rw [hz2]; omega) (by unfold maxLen; omega) (Nat.zero_le _) ?_; intro w1 hown hgrow)
  go_loopw [4] (fun i wr => ∃ k : Nat, k ≤ n ∧ i = .int .i64 k ∧ Mm.Filled Mm.int 3 w l 0 n k wr) (fun i _ => n - (intOf i).toNat)
  case atStart => exact ⟨0, Nat.zero_le _, rfl, Mm.Filled.start (zv := .int .i64 0) hlen.out hown hgrow ⟨rfl, (by unfold Mm.I64; simp), rfl⟩ (by decide)⟩
  case round =>
    obtain ⟨k, hk, rfl, hfil⟩ := hrel
    rename_i wr _
    have HF : Hid (Mm.Filled Mm.int 3 w l 0 n k wr) := hfil
    clear hfil hown hgrow
    by_cases hlt : k < n
    · obtain ⟨x, b, off, hx, rfl, hb, f0, d0⟩ := int_get (HL.out.keep (w' := wr) (fun b hb => HF.out.below.block b (by omega))) hlt
      have hBw : B ≤ wr.heap.size := Nat.le_trans hB HF.out.below.size
      have hxs := Pl.szl_mem HN.out (List.mem_of_getElem? hx)
      have HX := Lib.hid (And.intro hx (And.intro hxs f0))
      have hw := HF.out.lt
      clear hx hxs f0
      obtain ⟨u0, t0⟩ := HF.out.cell hlt (j := 0) (by decide)
      have d0' : wr.cell? ⟨w.heap.size, k, none⟩ = some u0 := by have e0 : k * (Mm.int).size + 0 = k := (by show k * 1 + 0 = k; omega); rwa [e0] at t0
      have z0 := HF.out.frozen (k)
      clear t0
      go_wp2
      go_roundw
      case rel => exact ⟨k + 1, by omega, by go_num, by have e0 : k * (Mm.int).size = k := (by show k * 1 = k; omega); have hst := HF.out.step hlt HX.out.1 (Below.refl _ _) (cs := [.int .i64 x]) (show (Mm.int).own _ x _ [] from ⟨rfl, HX.out.2.2, rfl⟩) List.nodup_nil (fun b hb => by cases hb); rwa [e0] at hst⟩
      case measure => simp [intOf]; omega
    · go_wp2
      go_ret
      exact HF.out.done (by omega)
theorem Try.info_String : (Try.prog.info? 9).map (fun i => (i.zero, i.size, i.bytes)) = some (some (.string ⟨#[]⟩), 1, 16) := by kernel_rfl
set_option maxHeartbeats 1000000 in
theorem toStringS_c (l : List ByteArray) (A : Option Addr) (n c : Nat) (w : World) (B : Nat) (hl : Mm.SlAt Mm.str w B l A n c) (hB : B ≤ w.heap.size) (hsz : Pl.szl Pl.szStr l ≤ 1048576) :
    Calls Try.prog 111 #[.slice A n c] w (Mm.NewSl Mm.str 9 w l) := by
  have hlen : Hid (l.length = n) := hl.1
  have HL := Lib.hid hl
  have HN : Hid (∀ x : ByteArray, 0 ≤ Pl.szStr x) := Pl.szStr_nn
  have HSZ := Lib.hid hsz
  have hn : n ≤ 1048576 := by have := Pl.szl_len HN.out l; have := hlen.out; omega
  clear hl hsz
  obtain ⟨i0, hi, hz0, hz1, hz2⟩ := info_parts Try.info_String
  go_enter Try.func111, Try.ntmps111
  go_wp2_with (at_make; refine wpList_make_full _ rfl _ _ 40 rfl 0 9 i0 _ 1 Try.underlying40 hi hz0 hz1 _ _ _ _ n rfl rfl rfl rfl (by rw [hz2]; omega) (by unfold maxLen; omega) (Nat.zero_le _) ?_; intro w1 hown hgrow)
  go_loopw [4] (fun i wr => ∃ k : Nat, k ≤ n ∧ i = .int .i64 k ∧ Mm.Filled Mm.str 9 w l ⟨#[]⟩ n k wr) (fun i _ => n - (intOf i).toNat)
  case atStart => exact ⟨0, Nat.zero_le _, rfl, Mm.Filled.start (zv := .string ⟨#[]⟩) hlen.out hown hgrow ⟨rfl, (by show 0 ≤ _; exact Nat.zero_le _), rfl⟩ (by decide)⟩
  case round =>
    obtain ⟨k, hk, rfl, hfil⟩ := hrel
    rename_i wr _
    have HF : Hid (Mm.Filled Mm.str 9 w l ⟨#[]⟩ n k wr) := hfil
    clear hfil hown hgrow
    by_cases hlt : k < n
    · obtain ⟨x, b, off, hx, rfl, hb, f0, d0⟩ := str_get (HL.out.keep (w' := wr) (fun b hb => HF.out.below.block b (by omega))) hlt
      have hBw : B ≤ wr.heap.size := Nat.le_trans hB HF.out.below.size
      have hxs := Pl.szl_mem HN.out (List.mem_of_getElem? hx)
      have HX := Lib.hid (And.intro hx (And.intro hxs f0))
      have hw := HF.out.lt
      clear hx hxs f0
      obtain ⟨u0, t0⟩ := HF.out.cell hlt (j := 0) (by decide)
      have d0' : wr.cell? ⟨w.heap.size, k, none⟩ = some u0 := by have e0 : k * (Mm.str).size + 0 = k := (by show k * 1 + 0 = k; omega); rwa [e0] at t0
      have z0 := HF.out.frozen (k)
      clear t0
      go_wp2
      go_roundw
      case rel => exact ⟨k + 1, by omega, by go_num, by have e0 : k * (Mm.str).size = k := (by show k * 1 = k; omega); have hst := HF.out.step hlt HX.out.1 (Below.refl _ _) (cs := [.string x]) (show (Mm.str).own _ x _ [] from ⟨rfl, HX.out.2.2, rfl⟩) List.nodup_nil (fun b hb => by cases hb); rwa [e0] at hst⟩
      case measure => simp [intOf]; omega
    · go_wp2
      go_ret
      exact HF.out.done (by omega)
theorem Try.info_StringS : (Try.prog.info? 40).map (fun i => (i.zero, i.size, i.bytes)) = some (some (.slice none 0 0), 1, 24) := by kernel_rfl
set_option maxHeartbeats 1000000 in
theorem toStringSS_c (l : List (List ByteArray)) (A : Option Addr) (n c : Nat) (w : World) (B : Nat) (hl : Mm.SlAt strs w B l A n c) (hB : B ≤ w.heap.size) (hsz : Pl.szl (Pl.szl Pl.szStr) l ≤ 1048576) :
    Calls Try.prog 82 #[.slice A n c] w (Mm.NewSl strs 40 w l) := by
  have hlen : Hid (l.length = n) := hl.1
  have HL := Lib.hid hl
  have HN : Hid (∀ x : (List ByteArray), 0 ≤ (Pl.szl Pl.szStr) x) := Pl.szl_nn (f := Pl.szStr) (Pl.szStr_nn)
  have HSZ := Lib.hid hsz
  have hn : n ≤ 1048576 := by have := Pl.szl_len HN.out l; have := hlen.out; omega
  clear hl hsz
  obtain ⟨i0, hi, hz0, hz1, hz2⟩ := info_parts Try.info_StringS
  go_enter Try.func82, Try.ntmps82
  go_wp2_with (at_make; refine wpList_make_full _ rfl _ _ 26 rfl 0 40 i0 _ 1 Try.underlying26 hi hz0 hz1 _ _ _ _ n rfl rfl rfl rfl (by rw [hz2]; omega) (by unfold maxLen; omega) (Nat.zero_le _) ?_; intro w1 hown hgrow)
  go_loopw [4] (fun i wr => ∃ k : Nat, k ≤ n ∧ i = .int .i64 k ∧ Mm.Filled strs 40 w l [] n k wr) (fun i _ => n - (intOf i).toNat)
  case atStart => exact ⟨0, Nat.zero_le _, rfl, Mm.Filled.start (zv := .slice none 0 0) hlen.out hown hgrow ⟨_, rfl, Mm.SlOwn.nil⟩ (by decide)⟩
  case round =>
    obtain ⟨k, hk, rfl, hfil⟩ := hrel
    rename_i wr _
    have HF : Hid (Mm.Filled strs 40 w l [] n k wr) := hfil
    clear hfil hown hgrow
    by_cases hlt : k < n
    · obtain ⟨x, b, off, P, p, q, hx, rfl, hb, f0, d0⟩ := strs_get (HL.out.keep (w' := wr) (fun b hb => HF.out.below.block b (by omega))) hlt
      have hBw : B ≤ wr.heap.size := Nat.le_trans hB HF.out.below.size
      have hxs := Pl.szl_mem HN.out (List.mem_of_getElem? hx)
      have HX := Lib.hid (And.intro hx (And.intro hxs f0))
      have hw := HF.out.lt
      clear hx hxs f0
      go_wp2_with fail
      refine (toStringS_c x _ _ _ _ B HX.out.2.2 hBw (by have h1 := HX.out.2.1; have h2 := HSZ.out; omega)).mono ?_
      rintro e w2 ⟨P2, p2, q2, fp2, rfl, ho2, hnd2, hf2, hb2⟩
      have HK := Lib.hid (HF.out.keep hb2)
      have HO := Lib.hid (And.intro ho2 (And.intro hnd2 (And.intro hf2 hb2)))
      clear ho2 hnd2 hf2 hb2
      obtain ⟨u0, t0⟩ := HK.out.cell hlt (j := 0) (by decide)
      have d0' : w2.cell? ⟨w.heap.size, k, none⟩ = some u0 := by have e0 : k * (strs).size + 0 = k := (by show k * 1 + 0 = k; omega); rwa [e0] at t0
      have z0 := HK.out.frozen (k)
      clear t0
      go_wp2
      go_roundw
      case rel => exact ⟨k + 1, by omega, by go_num, by have e0 : k * (strs).size = k := (by show k * 1 = k; omega); have hst := HF.out.step hlt HX.out.1 HO.out.2.2.2 (cs := [.slice P2 p2 q2]) ⟨_, rfl, HO.out.1⟩ HO.out.2.1 HO.out.2.2.1; rwa [e0] at hst⟩
      case measure => simp [intOf]; omega
    · go_wp2
      go_ret
      exact HF.out.done (by omega)
theorem toTold_c (x : Told) (w : World) :
    Calls Try.prog 113 #[.agg #[.int .i64 x.Who, .int .i64 x.No, .string x.Text]] w fun e w' => e = .returned (.agg #[.int .i64 x.Who, .int .i64 x.No, .string x.Text]) ∧ Below w.heap.size w w' := by
  go_enter Try.func113, Try.ntmps113
  go_wp2
  exact bodyPost_ret (v := .agg #[.int .i64 x.Who, .int .i64 x.No, .string x.Text]) (by simp [results, Try.results113, go_sem]) rfl ⟨rfl, below_new (below_new (below_new (Below.refl _ _) _) _) _⟩
theorem Try.info_Told : (Try.prog.info? 52).map (fun i => (i.zero, i.size, i.bytes)) = some (some (.agg #[.int .i64 0, .int .i64 0, .string ⟨#[]⟩]), 3, 32) := by kernel_rfl
set_option maxHeartbeats 1000000 in
theorem toToldS_c (l : List Told) (A : Option Addr) (n c : Nat) (w : World) (B : Nat) (hl : Mm.SlAt rTold w B l A n c) (hB : B ≤ w.heap.size) (hsz : Pl.szl Pl.szTold l ≤ 1048576) :
    Calls Try.prog 85 #[.slice A n c] w (Mm.NewSl rTold 52 w l) := by
  have hlen : Hid (l.length = n) := hl.1
  have HL := Lib.hid hl
  have HN : Hid (∀ x : Told, 0 ≤ Pl.szTold x) := Pl.szTold_nn
  have HSZ := Lib.hid hsz
  have hn : n ≤ 1048576 := by have := Pl.szl_len HN.out l; have := hlen.out; omega
  clear hl hsz
  obtain ⟨i0, hi, hz0, hz1, hz2⟩ := info_parts Try.info_Told
  go_enter Try.func85, Try.ntmps85
  go_wp2_with (at_make; refine wpList_make_full _ rfl _ _ 29 rfl 0 52 i0 _ 3 Try.underlying29 hi hz0 hz1 _ _ _ _ n rfl rfl rfl rfl (by rw [hz2]; omega) (by unfold maxLen; omega) (Nat.zero_le _) ?_; intro w1 hown hgrow)
  go_loopw [4] (fun i wr => ∃ k : Nat, k ≤ n ∧ i = .int .i64 k ∧ Mm.Filled rTold 52 w l ⟨0, 0, ⟨#[]⟩⟩ n k wr) (fun i _ => n - (intOf i).toNat)
  case atStart => exact ⟨0, Nat.zero_le _, rfl, Mm.Filled.start (zv := .agg #[.int .i64 0, .int .i64 0, .string ⟨#[]⟩]) hlen.out hown hgrow ⟨rfl, ⟨(by unfold Mm.I64; simp), (by unfold Mm.I64; simp), (by show 0 ≤ _; exact Nat.zero_le _)⟩, rfl⟩ (by decide)⟩
  case round =>
    obtain ⟨k, hk, rfl, hfil⟩ := hrel
    rename_i wr _
    have HF : Hid (Mm.Filled rTold 52 w l ⟨0, 0, ⟨#[]⟩⟩ n k wr) := hfil
    clear hfil hown hgrow
    by_cases hlt : k < n
    · obtain ⟨x, b, off, hx, rfl, hb, f0, f1, f2, d0, d1, d2⟩ := rTold_get (HL.out.keep (w' := wr) (fun b hb => HF.out.below.block b (by omega))) hlt
      have hBw : B ≤ wr.heap.size := Nat.le_trans hB HF.out.below.size
      have hxs := Pl.szl_mem HN.out (List.mem_of_getElem? hx)
      have HX := Lib.hid (And.intro hx (And.intro hxs (And.intro f0 (And.intro f1 f2))))
      have hw := HF.out.lt
      clear hx hxs f0 f1 f2
      go_wp2_with fail
      refine (toTold_c x _).mono ?_
      rintro e w2 ⟨rfl, hb2⟩
      have HK := Lib.hid (HF.out.keep hb2)
      obtain ⟨u0, t0⟩ := HK.out.cell hlt (j := 0) (by decide)
      have d0' : w2.cell? ⟨w.heap.size, k * 3, none⟩ = some u0 := t0
      have z0 := HK.out.frozen (k * 3)
      clear t0
      obtain ⟨u1, t1⟩ := HK.out.cell hlt (j := 1) (by decide)
      have d1' : w2.cell? ⟨w.heap.size, k * 3 + 1, none⟩ = some u1 := t1
      have z1 := HK.out.frozen (k * 3 + 1)
      clear t1
      obtain ⟨u2, t2⟩ := HK.out.cell hlt (j := 2) (by decide)
      have d2' : w2.cell? ⟨w.heap.size, k * 3 + 2, none⟩ = some u2 := t2
      have z2 := HK.out.frozen (k * 3 + 2)
      clear t2
      go_wp2
      go_roundw
      case rel => exact ⟨k + 1, by omega, by go_num, HF.out.step hlt HX.out.1 hb2 (cs := [.int .i64 x.Who, .int .i64 x.No, .string x.Text]) (fx := []) ⟨rfl, ⟨HX.out.2.2.1, HX.out.2.2.2.1, HX.out.2.2.2.2⟩, rfl⟩ List.nodup_nil (fun b hb => by cases hb)⟩
      case measure => simp [intOf]; omega
    · go_wp2
      go_ret
      exact HF.out.done (by omega)
theorem toNote_c (x : Note) (w : World) :
    Calls Try.prog 112 #[.agg #[.bool x.Back, .int .i64 x.What.Who, .int .i64 x.What.No, .string x.What.Text]] w fun e w' => e = .returned (.agg #[.bool x.Back, .int .i64 x.What.Who, .int .i64 x.What.No, .string x.What.Text]) ∧ Below w.heap.size w w' := by
  have KA := Lib.hid (((Mm.Blk.new w 134 [.bool x.Back, .int .i64 x.What.Who, .int .i64 x.What.No, .string x.What.Text]).alloc (.cells #[.bool false, .int .i64 0, .int .i64 0, .string ⟨#[]⟩] 94)).alloc (.cells #[.bool x.Back, .int .i64 0, .int .i64 0, .string ⟨#[]⟩] 94))
  have KR := Lib.hid ((Mm.Blk.new' (w.alloc (.cells #[.bool x.Back, .int .i64 x.What.Who, .int .i64 x.What.No, .string x.What.Text] 134)) 94 [.bool false, .int .i64 0, .int .i64 0, .string ⟨#[]⟩] (Mm.sz1 _ _)).alloc (.cells #[.bool x.Back, .int .i64 0, .int .i64 0, .string ⟨#[]⟩] 94))
  have KO := Lib.hid (Mm.Blk.new' ((w.alloc (.cells #[.bool x.Back, .int .i64 x.What.Who, .int .i64 x.What.No, .string x.What.Text] 134)).alloc (.cells #[.bool false, .int .i64 0, .int .i64 0, .string ⟨#[]⟩] 94)) 94 [.bool x.Back, .int .i64 0, .int .i64 0, .string ⟨#[]⟩] (Mm.sz2 _ _ _))
  have hb0 : Below w.heap.size w (((w.alloc (.cells #[.bool x.Back, .int .i64 x.What.Who, .int .i64 x.What.No, .string x.What.Text] 134)).alloc (.cells #[.bool false, .int .i64 0, .int .i64 0, .string ⟨#[]⟩] 94)).alloc (.cells #[.bool x.Back, .int .i64 0, .int .i64 0, .string ⟨#[]⟩] 94)) := below_new (below_new (below_new (Below.refl _ _) _) _) _
  have HB := Lib.hid hb0
  have hlt0 := KO.out.lt
  clear hb0
  go_enter Try.func112, Try.ntmps112
  go_wp2_with fail
  refine (toTold_c x.What _).mono ?_
  rintro e w1 ⟨rfl, hb1⟩
  have KA := Lib.hid (KA.out.bel hb1)
  have KR := Lib.hid (KR.out.bel hb1)
  have KO := Lib.hid (KO.out.bel hb1)
  have HB := Lib.hid (below_step HB.out hb1)
  have o1_0 := KO.out.cell (i := 0) rfl
  have r1_0 := KR.out.cell (i := 0) rfl
  have x1_0 := KO.out.frozen 0
  have y1_0 := KR.out.frozen 0
  have o1_1 := KO.out.cell (i := 1) rfl
  have r1_1 := KR.out.cell (i := 1) rfl
  have x1_1 := KO.out.frozen 1
  have y1_1 := KR.out.frozen 1
  have o1_2 := KO.out.cell (i := 2) rfl
  have r1_2 := KR.out.cell (i := 2) rfl
  have x1_2 := KO.out.frozen 2
  have y1_2 := KR.out.frozen 2
  have o1_3 := KO.out.cell (i := 3) rfl
  have r1_3 := KR.out.cell (i := 3) rfl
  have x1_3 := KO.out.frozen 3
  have y1_3 := KR.out.frozen 3
  clear hb1
  have KA := Lib.hid (KA.out.far (p := ⟨w.heap.size + 2, 1, none⟩) (by show w.heap.size ≠ w.heap.size + 2; omega) (.int .i64 x.What.Who))
  have KR := Lib.hid (KR.out.far (p := ⟨w.heap.size + 2, 1, none⟩) (by show w.heap.size + 1 ≠ w.heap.size + 2; omega) (.int .i64 x.What.Who))
  have KO := Lib.hid (KO.out.set_ 1 (.int .i64 x.What.Who))
  have HB := Lib.hid (HB.out.setCell (p := ⟨w.heap.size + 2, 1, none⟩) (by show w.heap.size ≤ w.heap.size + 2; omega) (.int .i64 x.What.Who))
  have KA := Lib.hid (KA.out.far (p := ⟨w.heap.size + 2, 2, none⟩) (by show w.heap.size ≠ w.heap.size + 2; omega) (.int .i64 x.What.No))
  have KR := Lib.hid (KR.out.far (p := ⟨w.heap.size + 2, 2, none⟩) (by show w.heap.size + 1 ≠ w.heap.size + 2; omega) (.int .i64 x.What.No))
  have KO := Lib.hid (KO.out.set_ 2 (.int .i64 x.What.No))
  have HB := Lib.hid (HB.out.setCell (p := ⟨w.heap.size + 2, 2, none⟩) (by show w.heap.size ≤ w.heap.size + 2; omega) (.int .i64 x.What.No))
  have KA := Lib.hid (KA.out.far (p := ⟨w.heap.size + 2, 3, none⟩) (by show w.heap.size ≠ w.heap.size + 2; omega) (.string x.What.Text))
  have KR := Lib.hid (KR.out.far (p := ⟨w.heap.size + 2, 3, none⟩) (by show w.heap.size + 1 ≠ w.heap.size + 2; omega) (.string x.What.Text))
  have KO := Lib.hid (KO.out.set_ 3 (.string x.What.Text))
  have HB := Lib.hid (HB.out.setCell (p := ⟨w.heap.size + 2, 3, none⟩) (by show w.heap.size ≤ w.heap.size + 2; omega) (.string x.What.Text))
  go_wp2
  have HB := Lib.hid (HB.out.setCell (p := ⟨w.heap.size + 1, 0, none⟩) (by show w.heap.size ≤ w.heap.size + 1; omega) (.bool x.Back))
  have HB := Lib.hid (HB.out.setCell (p := ⟨w.heap.size + 1, 1, none⟩) (by show w.heap.size ≤ w.heap.size + 1; omega) (.int .i64 x.What.Who))
  have HB := Lib.hid (HB.out.setCell (p := ⟨w.heap.size + 1, 2, none⟩) (by show w.heap.size ≤ w.heap.size + 1; omega) (.int .i64 x.What.No))
  have HB := Lib.hid (HB.out.setCell (p := ⟨w.heap.size + 1, 3, none⟩) (by show w.heap.size ≤ w.heap.size + 1; omega) (.string x.What.Text))
  exact bodyPost_ret (v := .agg #[.bool x.Back, .int .i64 x.What.Who, .int .i64 x.What.No, .string x.What.Text]) (by simp [results, Try.results112, go_sem, r1_0, r1_1, r1_2, r1_3]) rfl ⟨rfl, HB.out⟩
theorem Try.info_Note : (Try.prog.info? 94).map (fun i => (i.zero, i.size, i.bytes)) = some (some (.agg #[.bool false, .int .i64 0, .int .i64 0, .string ⟨#[]⟩]), 4, 40) := by kernel_rfl
set_option maxHeartbeats 1000000 in
theorem toNoteS_c (l : List Note) (A : Option Addr) (n c : Nat) (w : World) (B : Nat) (hl : Mm.SlAt rNote w B l A n c) (hB : B ≤ w.heap.size) (hsz : Pl.szl Pl.szNote l ≤ 1048576) :
    Calls Try.prog 84 #[.slice A n c] w (Mm.NewSl rNote 94 w l) := by
  have hlen : Hid (l.length = n) := hl.1
  have HL := Lib.hid hl
  have HN : Hid (∀ x : Note, 0 ≤ Pl.szNote x) := Pl.szNote_nn
  have HSZ := Lib.hid hsz
  have hn : n ≤ 1048576 := by have := Pl.szl_len HN.out l; have := hlen.out; omega
  clear hl hsz
  obtain ⟨i0, hi, hz0, hz1, hz2⟩ := info_parts Try.info_Note
  go_enter Try.func84, Try.ntmps84
  go_wp2_with (at_make; refine wpList_make_full _ rfl _ _ 28 rfl 0 94 i0 _ 4 Try.underlying28 hi hz0 hz1 _ _ _ _ n rfl rfl rfl rfl (by rw [hz2]; omega) (by unfold maxLen; omega) (Nat.zero_le _) ?_; intro w1 hown hgrow)
  go_loopw [4] (fun i wr => ∃ k : Nat, k ≤ n ∧ i = .int .i64 k ∧ Mm.Filled rNote 94 w l ⟨false, ⟨0, 0, ⟨#[]⟩⟩⟩ n k wr) (fun i _ => n - (intOf i).toNat)
  case atStart => exact ⟨0, Nat.zero_le _, rfl, Mm.Filled.start (zv := .agg #[.bool false, .int .i64 0, .int .i64 0, .string ⟨#[]⟩]) hlen.out hown hgrow ⟨rfl, ⟨(by unfold Mm.I64; simp), (by unfold Mm.I64; simp), (by show 0 ≤ _; exact Nat.zero_le _)⟩, rfl⟩ (by decide)⟩
  case round =>
    obtain ⟨k, hk, rfl, hfil⟩ := hrel
    rename_i wr _
    have HF : Hid (Mm.Filled rNote 94 w l ⟨false, ⟨0, 0, ⟨#[]⟩⟩⟩ n k wr) := hfil
    clear hfil hown hgrow
    by_cases hlt : k < n
    · obtain ⟨x, b, off, hx, rfl, hb, f0, f1, f2, d0, d1, d2, d3⟩ := rNote_get (HL.out.keep (w' := wr) (fun b hb => HF.out.below.block b (by omega))) hlt
      have hBw : B ≤ wr.heap.size := Nat.le_trans hB HF.out.below.size
      have hxs := Pl.szl_mem HN.out (List.mem_of_getElem? hx)
      have HX := Lib.hid (And.intro hx (And.intro hxs (And.intro f0 (And.intro f1 f2))))
      have hw := HF.out.lt
      clear hx hxs f0 f1 f2
      go_wp2_with fail
      refine (toNote_c x _).mono ?_
      rintro e w2 ⟨rfl, hb2⟩
      have HK := Lib.hid (HF.out.keep hb2)
      obtain ⟨u0, t0⟩ := HK.out.cell hlt (j := 0) (by decide)
      have d0' : w2.cell? ⟨w.heap.size, k * 4, none⟩ = some u0 := t0
      have z0 := HK.out.frozen (k * 4)
      clear t0
      obtain ⟨u1, t1⟩ := HK.out.cell hlt (j := 1) (by decide)
      have d1' : w2.cell? ⟨w.heap.size, k * 4 + 1, none⟩ = some u1 := t1
      have z1 := HK.out.frozen (k * 4 + 1)
      clear t1
      obtain ⟨u2, t2⟩ := HK.out.cell hlt (j := 2) (by decide)
      have d2' : w2.cell? ⟨w.heap.size, k * 4 + 2, none⟩ = some u2 := t2
      have z2 := HK.out.frozen (k * 4 + 2)
      clear t2
      obtain ⟨u3, t3⟩ := HK.out.cell hlt (j := 3) (by decide)
      have d3' : w2.cell? ⟨w.heap.size, k * 4 + 3, none⟩ = some u3 := t3
      have z3 := HK.out.frozen (k * 4 + 3)
      clear t3
      go_wp2
      go_roundw
      case rel => exact ⟨k + 1, by omega, by go_num, HF.out.step hlt HX.out.1 hb2 (cs := [.bool x.Back, .int .i64 x.What.Who, .int .i64 x.What.No, .string x.What.Text]) (fx := []) ⟨rfl, ⟨HX.out.2.2.1, HX.out.2.2.2.1, HX.out.2.2.2.2⟩, rfl⟩ List.nodup_nil (fun b hb => by cases hb)⟩
      case measure => simp [intOf]; omega
    · go_wp2
      go_ret
      exact HF.out.done (by omega)
theorem toTellStep_c (x : TellStep) (w : World) :
    Calls Try.prog 44 #[.agg #[.int .i64 x.Kind, .int .i64 x.K, .string x.Text]] w fun e w' => e = .returned (.agg #[.int .i64 x.Kind, .int .i64 x.K, .string x.Text]) ∧ Below w.heap.size w w' := by
  go_enter Try.func44, Try.ntmps44
  go_wp2
  exact bodyPost_ret (v := .agg #[.int .i64 x.Kind, .int .i64 x.K, .string x.Text]) (by simp [results, Try.results44, go_sem]) rfl ⟨rfl, below_new (below_new (below_new (Below.refl _ _) _) _) _⟩
theorem Try.info_TellStep : (Try.prog.info? 46).map (fun i => (i.zero, i.size, i.bytes)) = some (some (.agg #[.int .i64 0, .int .i64 0, .string ⟨#[]⟩]), 3, 32) := by kernel_rfl
set_option maxHeartbeats 1000000 in
theorem toTellStepS_c (l : List TellStep) (A : Option Addr) (n c : Nat) (w : World) (B : Nat) (hl : Mm.SlAt rTellStep w B l A n c) (hB : B ≤ w.heap.size) (hsz : Pl.szl Pl.szTellStep l ≤ 1048576) :
    Calls Try.prog 32 #[.slice A n c] w (Mm.NewSl rTellStep 46 w l) := by
  have hlen : Hid (l.length = n) := hl.1
  have HL := Lib.hid hl
  have HN : Hid (∀ x : TellStep, 0 ≤ Pl.szTellStep x) := Pl.szTellStep_nn
  have HSZ := Lib.hid hsz
  have hn : n ≤ 1048576 := by have := Pl.szl_len HN.out l; have := hlen.out; omega
  clear hl hsz
  obtain ⟨i0, hi, hz0, hz1, hz2⟩ := info_parts Try.info_TellStep
  go_enter Try.func32, Try.ntmps32
  go_wp2_with (at_make; refine wpList_make_full _ rfl _ _ 23 rfl 0 46 i0 _ 3 Try.underlying23 hi hz0 hz1 _ _ _ _ n rfl rfl rfl rfl (by rw [hz2]; omega) (by unfold maxLen; omega) (Nat.zero_le _) ?_; intro w1 hown hgrow)
  go_loopw [4] (fun i wr => ∃ k : Nat, k ≤ n ∧ i = .int .i64 k ∧ Mm.Filled rTellStep 46 w l ⟨0, 0, ⟨#[]⟩⟩ n k wr) (fun i _ => n - (intOf i).toNat)
  case atStart => exact ⟨0, Nat.zero_le _, rfl, Mm.Filled.start (zv := .agg #[.int .i64 0, .int .i64 0, .string ⟨#[]⟩]) hlen.out hown hgrow ⟨rfl, ⟨(by unfold Mm.I64; simp), (by unfold Mm.I64; simp), (by show 0 ≤ _; exact Nat.zero_le _)⟩, rfl⟩ (by decide)⟩
  case round =>
    obtain ⟨k, hk, rfl, hfil⟩ := hrel
    rename_i wr _
    have HF : Hid (Mm.Filled rTellStep 46 w l ⟨0, 0, ⟨#[]⟩⟩ n k wr) := hfil
    clear hfil hown hgrow
    by_cases hlt : k < n
    · obtain ⟨x, b, off, hx, rfl, hb, f0, f1, f2, d0, d1, d2⟩ := rTellStep_get (HL.out.keep (w' := wr) (fun b hb => HF.out.below.block b (by omega))) hlt
      have hBw : B ≤ wr.heap.size := Nat.le_trans hB HF.out.below.size
      have hxs := Pl.szl_mem HN.out (List.mem_of_getElem? hx)
      have HX := Lib.hid (And.intro hx (And.intro hxs (And.intro f0 (And.intro f1 f2))))
      have hw := HF.out.lt
      clear hx hxs f0 f1 f2
      go_wp2_with fail
      refine (toTellStep_c x _).mono ?_
      rintro e w2 ⟨rfl, hb2⟩
      have HK := Lib.hid (HF.out.keep hb2)
      obtain ⟨u0, t0⟩ := HK.out.cell hlt (j := 0) (by decide)
      have d0' : w2.cell? ⟨w.heap.size, k * 3, none⟩ = some u0 := t0
      have z0 := HK.out.frozen (k * 3)
      clear t0
      obtain ⟨u1, t1⟩ := HK.out.cell hlt (j := 1) (by decide)
      have d1' : w2.cell? ⟨w.heap.size, k * 3 + 1, none⟩ = some u1 := t1
      have z1 := HK.out.frozen (k * 3 + 1)
      clear t1
      obtain ⟨u2, t2⟩ := HK.out.cell hlt (j := 2) (by decide)
      have d2' : w2.cell? ⟨w.heap.size, k * 3 + 2, none⟩ = some u2 := t2
      have z2 := HK.out.frozen (k * 3 + 2)
      clear t2
      go_wp2
      go_roundw
      case rel => exact ⟨k + 1, by omega, by go_num, HF.out.step hlt HX.out.1 hb2 (cs := [.int .i64 x.Kind, .int .i64 x.K, .string x.Text]) (fx := []) ⟨rfl, ⟨HX.out.2.2.1, HX.out.2.2.2.1, HX.out.2.2.2.2⟩, rfl⟩ List.nodup_nil (fun b hb => by cases hb)⟩
      case measure => simp [intOf]; omega
    · go_wp2
      go_ret
      exact HF.out.done (by omega)
set_option maxHeartbeats 2000000 in
theorem toTell_c (x : Tell) (A0 : Option Addr) (n0 c0 : Nat) (A1 : Option Addr) (n1 c1 : Nat) (A2 : Option Addr) (n2 c2 : Nat) (A3 : Option Addr) (n3 c3 : Nat) (A4 : Option Addr) (n4 c4 : Nat) (w : World) (B : Nat) (g0 : Mm.SlAt strs w B x.Texts A0 n0 c0) (g1 : Mm.SlAt Mm.int w B x.Heard A1 n1 c1) (g2 : Mm.SlAt rNote w B x.Line A2 n2 c2) (g3 : Mm.SlAt rTold w B x.Log A3 n3 c3) (g4 : Mm.SlAt Mm.int w B x.Next A4 n4 c4) (hB : B ≤ w.heap.size) (hsz : Pl.szTell x ≤ 1048576) :
    Calls Try.prog 42 #[.agg #[.slice A0 n0 c0, .slice A1 n1 c1, .slice A2 n2 c2, .slice A3 n3 c3, .slice A4 n4 c4]] w (Mm.NewAg rTell w x) := by
  have HG := Lib.hid (And.intro hB (And.intro g0 (And.intro g1 (And.intro g2 (And.intro g3 g4)))))
  have HSZ := Lib.hid hsz
  clear hsz g0 g1 g2 g3 g4
  have zn_Texts := Pl.szl_nn (f := (Pl.szl Pl.szStr)) (Pl.szl_nn (f := Pl.szStr) (Pl.szStr_nn)) x.Texts
  have zn_Heard := Pl.szl_nn (f := Pl.sz0) (Pl.sz0_nn) x.Heard
  have zn_Line := Pl.szl_nn (f := Pl.szNote) (Pl.szNote_nn) x.Line
  have zn_Log := Pl.szl_nn (f := Pl.szTold) (Pl.szTold_nn) x.Log
  have zn_Next := Pl.szl_nn (f := Pl.sz0) (Pl.sz0_nn) x.Next
  have hz : Pl.szTell x = (Pl.szl (Pl.szl Pl.szStr)) x.Texts + (Pl.szl Pl.sz0) x.Heard + (Pl.szl Pl.szNote) x.Line + (Pl.szl Pl.szTold) x.Log + (Pl.szl Pl.sz0) x.Next := rfl
  have HZ := Lib.hid hz
  clear hz
  have KA := Lib.hid (((Mm.Blk.new w 74 [.slice A0 n0 c0, .slice A1 n1 c1, .slice A2 n2 c2, .slice A3 n3 c3, .slice A4 n4 c4]).alloc (.cells #[.slice none 0 0, .slice none 0 0, .slice none 0 0, .slice none 0 0, .slice none 0 0] 31)).alloc (.cells #[.slice none 0 0, .slice none 0 0, .slice none 0 0, .slice none 0 0, .slice none 0 0] 31))
  have KR := Lib.hid ((Mm.Blk.new' (w.alloc (.cells #[.slice A0 n0 c0, .slice A1 n1 c1, .slice A2 n2 c2, .slice A3 n3 c3, .slice A4 n4 c4] 74)) 31 [.slice none 0 0, .slice none 0 0, .slice none 0 0, .slice none 0 0, .slice none 0 0] (Mm.sz1 _ _)).alloc (.cells #[.slice none 0 0, .slice none 0 0, .slice none 0 0, .slice none 0 0, .slice none 0 0] 31))
  have KO := Lib.hid (Mm.Blk.new' ((w.alloc (.cells #[.slice A0 n0 c0, .slice A1 n1 c1, .slice A2 n2 c2, .slice A3 n3 c3, .slice A4 n4 c4] 74)).alloc (.cells #[.slice none 0 0, .slice none 0 0, .slice none 0 0, .slice none 0 0, .slice none 0 0] 31)) 31 [.slice none 0 0, .slice none 0 0, .slice none 0 0, .slice none 0 0, .slice none 0 0] (Mm.sz2 _ _ _))
  have hb0 : Below w.heap.size w (((w.alloc (.cells #[.slice A0 n0 c0, .slice A1 n1 c1, .slice A2 n2 c2, .slice A3 n3 c3, .slice A4 n4 c4] 74)).alloc (.cells #[.slice none 0 0, .slice none 0 0, .slice none 0 0, .slice none 0 0, .slice none 0 0] 31)).alloc (.cells #[.slice none 0 0, .slice none 0 0, .slice none 0 0, .slice none 0 0, .slice none 0 0] 31)) := below_new (below_new (below_new (Below.refl _ _) _) _) _
  have HB := Lib.hid hb0
  have hlt0 := KO.out.lt
  clear hb0
  go_enter Try.func42, Try.ntmps42
  go_wp2_with fail
  refine (toStringSS_c x.Texts _ _ _ _ B (HG.out.2.1.keep fun b hb => HB.out.block b (Nat.lt_of_lt_of_le hb HG.out.1)) (Nat.le_trans HG.out.1 HB.out.size) (by have h1 := HZ.out; have h2 := HSZ.out; omega)).mono ?_
  rintro e w1 ⟨P1, p1, q1, fp1, rfl, ho1, hnd1, hf1, hb1⟩
  have hfb1 : ∀ b, b ∈ fp1 → b ≠ w.heap.size + 1 ∧ b ≠ w.heap.size + 2 := fun b hb => by have := hf1 b hb; have := KO.out.lt; have := KR.out.lt; omega
  have CS1 := Lib.hid ho1.olt
  have OS1 := Lib.hid (And.intro ho1 (And.intro hnd1 (And.intro hfb1 hf1)))
  have HF1 := Lib.hid (show ∀ b, b ∈ fp1 → w.heap.size ≤ b from fun b hb => Nat.le_trans HB.out.size (hf1 b hb))
  have KA := Lib.hid (KA.out.bel hb1)
  have KR := Lib.hid (KR.out.bel hb1)
  have KO := Lib.hid (KO.out.bel hb1)
  have HB := Lib.hid (below_step HB.out hb1)
  have CH1 := Lib.hid (Mm.Chg.refl [w.heap.size + 1, w.heap.size + 2] w1)
  have a1_1 := KA.out.cell (i := 1) rfl
  have a1_2 := KA.out.cell (i := 2) rfl
  have a1_3 := KA.out.cell (i := 3) rfl
  have a1_4 := KA.out.cell (i := 4) rfl
  have o1_0 := KO.out.cell (i := 0) rfl
  have r1_0 := KR.out.cell (i := 0) rfl
  have x1_0 := KO.out.frozen 0
  have y1_0 := KR.out.frozen 0
  have o1_1 := KO.out.cell (i := 1) rfl
  have r1_1 := KR.out.cell (i := 1) rfl
  have x1_1 := KO.out.frozen 1
  have y1_1 := KR.out.frozen 1
  have o1_2 := KO.out.cell (i := 2) rfl
  have r1_2 := KR.out.cell (i := 2) rfl
  have x1_2 := KO.out.frozen 2
  have y1_2 := KR.out.frozen 2
  have o1_3 := KO.out.cell (i := 3) rfl
  have r1_3 := KR.out.cell (i := 3) rfl
  have x1_3 := KO.out.frozen 3
  have y1_3 := KR.out.frozen 3
  have o1_4 := KO.out.cell (i := 4) rfl
  have r1_4 := KR.out.cell (i := 4) rfl
  have x1_4 := KO.out.frozen 4
  have y1_4 := KR.out.frozen 4
  clear hb1 ho1 hnd1 hf1 hfb1
  have KA := Lib.hid (KA.out.far (p := ⟨w.heap.size + 2, 0, none⟩) (by show w.heap.size ≠ w.heap.size + 2; omega) (.slice P1 p1 q1))
  have KR := Lib.hid (KR.out.far (p := ⟨w.heap.size + 2, 0, none⟩) (by show w.heap.size + 1 ≠ w.heap.size + 2; omega) (.slice P1 p1 q1))
  have KO := Lib.hid (KO.out.set_ 0 (.slice P1 p1 q1))
  have HB := Lib.hid (HB.out.setCell (p := ⟨w.heap.size + 2, 0, none⟩) (by show w.heap.size ≤ w.heap.size + 2; omega) (.slice P1 p1 q1))
  have CH1 := Lib.hid (CH1.out.setCell (p := ⟨w.heap.size + 2, 0, none⟩) (by simp) (.slice P1 p1 q1))
  go_wp2_with fail
  refine (toIntS_c x.Heard _ _ _ _ B (HG.out.2.2.1.keep fun b hb => HB.out.block b (Nat.lt_of_lt_of_le hb HG.out.1)) (Nat.le_trans HG.out.1 HB.out.size) (by have h1 := HZ.out; have h2 := HSZ.out; omega)).mono ?_
  rintro e w2 ⟨P2, p2, q2, fp2, rfl, ho2, hnd2, hf2, hb2⟩
  have hfb2 : ∀ b, b ∈ fp2 → b ≠ w.heap.size + 1 ∧ b ≠ w.heap.size + 2 := fun b hb => by have := hf2 b hb; have := KO.out.lt; have := KR.out.lt; omega
  have hd1_2 : ∀ b, b ∈ fp1 → b ∉ fp2 := fun b hb hm => by have := hf2 b hm; have := CS1.out b hb; have := CH1.out.size; omega
  have CS2 := Lib.hid ho2.olt
  have OS2 := Lib.hid (And.intro ho2 (And.intro hnd2 (And.intro hfb2 hf2)))
  have HD1_2 := Lib.hid hd1_2
  have HF2 := Lib.hid (show ∀ b, b ∈ fp2 → w.heap.size ≤ b from fun b hb => Nat.le_trans HB.out.size (hf2 b hb))
  have KA := Lib.hid (KA.out.bel hb2)
  have KR := Lib.hid (KR.out.bel hb2)
  have KO := Lib.hid (KO.out.bel hb2)
  have HB := Lib.hid (below_step HB.out hb2)
  have CH1 := Lib.hid (Mm.und_chg CH1.out hb2)
  have CH2 := Lib.hid (Mm.Chg.refl [w.heap.size + 1, w.heap.size + 2] w2)
  have a2_2 := KA.out.cell (i := 2) rfl
  have a2_3 := KA.out.cell (i := 3) rfl
  have a2_4 := KA.out.cell (i := 4) rfl
  have o2_0 := KO.out.cell (i := 0) rfl
  have r2_0 := KR.out.cell (i := 0) rfl
  have x2_0 := KO.out.frozen 0
  have y2_0 := KR.out.frozen 0
  have o2_1 := KO.out.cell (i := 1) rfl
  have r2_1 := KR.out.cell (i := 1) rfl
  have x2_1 := KO.out.frozen 1
  have y2_1 := KR.out.frozen 1
  have o2_2 := KO.out.cell (i := 2) rfl
  have r2_2 := KR.out.cell (i := 2) rfl
  have x2_2 := KO.out.frozen 2
  have y2_2 := KR.out.frozen 2
  have o2_3 := KO.out.cell (i := 3) rfl
  have r2_3 := KR.out.cell (i := 3) rfl
  have x2_3 := KO.out.frozen 3
  have y2_3 := KR.out.frozen 3
  have o2_4 := KO.out.cell (i := 4) rfl
  have r2_4 := KR.out.cell (i := 4) rfl
  have x2_4 := KO.out.frozen 4
  have y2_4 := KR.out.frozen 4
  clear hb2 ho2 hnd2 hf2 hfb2 hd1_2
  have KA := Lib.hid (KA.out.far (p := ⟨w.heap.size + 2, 1, none⟩) (by show w.heap.size ≠ w.heap.size + 2; omega) (.slice P2 p2 q2))
  have KR := Lib.hid (KR.out.far (p := ⟨w.heap.size + 2, 1, none⟩) (by show w.heap.size + 1 ≠ w.heap.size + 2; omega) (.slice P2 p2 q2))
  have KO := Lib.hid (KO.out.set_ 1 (.slice P2 p2 q2))
  have HB := Lib.hid (HB.out.setCell (p := ⟨w.heap.size + 2, 1, none⟩) (by show w.heap.size ≤ w.heap.size + 2; omega) (.slice P2 p2 q2))
  have CH1 := Lib.hid (CH1.out.setCell (p := ⟨w.heap.size + 2, 1, none⟩) (by simp) (.slice P2 p2 q2))
  have CH2 := Lib.hid (CH2.out.setCell (p := ⟨w.heap.size + 2, 1, none⟩) (by simp) (.slice P2 p2 q2))
  go_wp2_with fail
  refine (toNoteS_c x.Line _ _ _ _ B (HG.out.2.2.2.1.keep fun b hb => HB.out.block b (Nat.lt_of_lt_of_le hb HG.out.1)) (Nat.le_trans HG.out.1 HB.out.size) (by have h1 := HZ.out; have h2 := HSZ.out; omega)).mono ?_
  rintro e w3 ⟨P3, p3, q3, fp3, rfl, ho3, hnd3, hf3, hb3⟩
  have hfb3 : ∀ b, b ∈ fp3 → b ≠ w.heap.size + 1 ∧ b ≠ w.heap.size + 2 := fun b hb => by have := hf3 b hb; have := KO.out.lt; have := KR.out.lt; omega
  have hd1_3 : ∀ b, b ∈ fp1 → b ∉ fp3 := fun b hb hm => by have := hf3 b hm; have := CS1.out b hb; have := CH1.out.size; omega
  have hd2_3 : ∀ b, b ∈ fp2 → b ∉ fp3 := fun b hb hm => by have := hf3 b hm; have := CS2.out b hb; have := CH2.out.size; omega
  have CS3 := Lib.hid ho3.olt
  have OS3 := Lib.hid (And.intro ho3 (And.intro hnd3 (And.intro hfb3 hf3)))
  have HD1_3 := Lib.hid hd1_3
  have HD2_3 := Lib.hid hd2_3
  have HF3 := Lib.hid (show ∀ b, b ∈ fp3 → w.heap.size ≤ b from fun b hb => Nat.le_trans HB.out.size (hf3 b hb))
  have KA := Lib.hid (KA.out.bel hb3)
  have KR := Lib.hid (KR.out.bel hb3)
  have KO := Lib.hid (KO.out.bel hb3)
  have HB := Lib.hid (below_step HB.out hb3)
  have CH1 := Lib.hid (Mm.und_chg CH1.out hb3)
  have CH2 := Lib.hid (Mm.und_chg CH2.out hb3)
  have CH3 := Lib.hid (Mm.Chg.refl [w.heap.size + 1, w.heap.size + 2] w3)
  have a3_3 := KA.out.cell (i := 3) rfl
  have a3_4 := KA.out.cell (i := 4) rfl
  have o3_0 := KO.out.cell (i := 0) rfl
  have r3_0 := KR.out.cell (i := 0) rfl
  have x3_0 := KO.out.frozen 0
  have y3_0 := KR.out.frozen 0
  have o3_1 := KO.out.cell (i := 1) rfl
  have r3_1 := KR.out.cell (i := 1) rfl
  have x3_1 := KO.out.frozen 1
  have y3_1 := KR.out.frozen 1
  have o3_2 := KO.out.cell (i := 2) rfl
  have r3_2 := KR.out.cell (i := 2) rfl
  have x3_2 := KO.out.frozen 2
  have y3_2 := KR.out.frozen 2
  have o3_3 := KO.out.cell (i := 3) rfl
  have r3_3 := KR.out.cell (i := 3) rfl
  have x3_3 := KO.out.frozen 3
  have y3_3 := KR.out.frozen 3
  have o3_4 := KO.out.cell (i := 4) rfl
  have r3_4 := KR.out.cell (i := 4) rfl
  have x3_4 := KO.out.frozen 4
  have y3_4 := KR.out.frozen 4
  clear hb3 ho3 hnd3 hf3 hfb3 hd1_3 hd2_3
  have KA := Lib.hid (KA.out.far (p := ⟨w.heap.size + 2, 2, none⟩) (by show w.heap.size ≠ w.heap.size + 2; omega) (.slice P3 p3 q3))
  have KR := Lib.hid (KR.out.far (p := ⟨w.heap.size + 2, 2, none⟩) (by show w.heap.size + 1 ≠ w.heap.size + 2; omega) (.slice P3 p3 q3))
  have KO := Lib.hid (KO.out.set_ 2 (.slice P3 p3 q3))
  have HB := Lib.hid (HB.out.setCell (p := ⟨w.heap.size + 2, 2, none⟩) (by show w.heap.size ≤ w.heap.size + 2; omega) (.slice P3 p3 q3))
  have CH1 := Lib.hid (CH1.out.setCell (p := ⟨w.heap.size + 2, 2, none⟩) (by simp) (.slice P3 p3 q3))
  have CH2 := Lib.hid (CH2.out.setCell (p := ⟨w.heap.size + 2, 2, none⟩) (by simp) (.slice P3 p3 q3))
  have CH3 := Lib.hid (CH3.out.setCell (p := ⟨w.heap.size + 2, 2, none⟩) (by simp) (.slice P3 p3 q3))
  go_wp2_with fail
  refine (toToldS_c x.Log _ _ _ _ B (HG.out.2.2.2.2.1.keep fun b hb => HB.out.block b (Nat.lt_of_lt_of_le hb HG.out.1)) (Nat.le_trans HG.out.1 HB.out.size) (by have h1 := HZ.out; have h2 := HSZ.out; omega)).mono ?_
  rintro e w4 ⟨P4, p4, q4, fp4, rfl, ho4, hnd4, hf4, hb4⟩
  have hfb4 : ∀ b, b ∈ fp4 → b ≠ w.heap.size + 1 ∧ b ≠ w.heap.size + 2 := fun b hb => by have := hf4 b hb; have := KO.out.lt; have := KR.out.lt; omega
  have hd1_4 : ∀ b, b ∈ fp1 → b ∉ fp4 := fun b hb hm => by have := hf4 b hm; have := CS1.out b hb; have := CH1.out.size; omega
  have hd2_4 : ∀ b, b ∈ fp2 → b ∉ fp4 := fun b hb hm => by have := hf4 b hm; have := CS2.out b hb; have := CH2.out.size; omega
  have hd3_4 : ∀ b, b ∈ fp3 → b ∉ fp4 := fun b hb hm => by have := hf4 b hm; have := CS3.out b hb; have := CH3.out.size; omega
  have CS4 := Lib.hid ho4.olt
  have OS4 := Lib.hid (And.intro ho4 (And.intro hnd4 (And.intro hfb4 hf4)))
  have HD1_4 := Lib.hid hd1_4
  have HD2_4 := Lib.hid hd2_4
  have HD3_4 := Lib.hid hd3_4
  have HF4 := Lib.hid (show ∀ b, b ∈ fp4 → w.heap.size ≤ b from fun b hb => Nat.le_trans HB.out.size (hf4 b hb))
  have KA := Lib.hid (KA.out.bel hb4)
  have KR := Lib.hid (KR.out.bel hb4)
  have KO := Lib.hid (KO.out.bel hb4)
  have HB := Lib.hid (below_step HB.out hb4)
  have CH1 := Lib.hid (Mm.und_chg CH1.out hb4)
  have CH2 := Lib.hid (Mm.und_chg CH2.out hb4)
  have CH3 := Lib.hid (Mm.und_chg CH3.out hb4)
  have CH4 := Lib.hid (Mm.Chg.refl [w.heap.size + 1, w.heap.size + 2] w4)
  have a4_4 := KA.out.cell (i := 4) rfl
  have o4_0 := KO.out.cell (i := 0) rfl
  have r4_0 := KR.out.cell (i := 0) rfl
  have x4_0 := KO.out.frozen 0
  have y4_0 := KR.out.frozen 0
  have o4_1 := KO.out.cell (i := 1) rfl
  have r4_1 := KR.out.cell (i := 1) rfl
  have x4_1 := KO.out.frozen 1
  have y4_1 := KR.out.frozen 1
  have o4_2 := KO.out.cell (i := 2) rfl
  have r4_2 := KR.out.cell (i := 2) rfl
  have x4_2 := KO.out.frozen 2
  have y4_2 := KR.out.frozen 2
  have o4_3 := KO.out.cell (i := 3) rfl
  have r4_3 := KR.out.cell (i := 3) rfl
  have x4_3 := KO.out.frozen 3
  have y4_3 := KR.out.frozen 3
  have o4_4 := KO.out.cell (i := 4) rfl
  have r4_4 := KR.out.cell (i := 4) rfl
  have x4_4 := KO.out.frozen 4
  have y4_4 := KR.out.frozen 4
  clear hb4 ho4 hnd4 hf4 hfb4 hd1_4 hd2_4 hd3_4
  have KA := Lib.hid (KA.out.far (p := ⟨w.heap.size + 2, 3, none⟩) (by show w.heap.size ≠ w.heap.size + 2; omega) (.slice P4 p4 q4))
  have KR := Lib.hid (KR.out.far (p := ⟨w.heap.size + 2, 3, none⟩) (by show w.heap.size + 1 ≠ w.heap.size + 2; omega) (.slice P4 p4 q4))
  have KO := Lib.hid (KO.out.set_ 3 (.slice P4 p4 q4))
  have HB := Lib.hid (HB.out.setCell (p := ⟨w.heap.size + 2, 3, none⟩) (by show w.heap.size ≤ w.heap.size + 2; omega) (.slice P4 p4 q4))
  have CH1 := Lib.hid (CH1.out.setCell (p := ⟨w.heap.size + 2, 3, none⟩) (by simp) (.slice P4 p4 q4))
  have CH2 := Lib.hid (CH2.out.setCell (p := ⟨w.heap.size + 2, 3, none⟩) (by simp) (.slice P4 p4 q4))
  have CH3 := Lib.hid (CH3.out.setCell (p := ⟨w.heap.size + 2, 3, none⟩) (by simp) (.slice P4 p4 q4))
  have CH4 := Lib.hid (CH4.out.setCell (p := ⟨w.heap.size + 2, 3, none⟩) (by simp) (.slice P4 p4 q4))
  go_wp2_with fail
  refine (toIntS_c x.Next _ _ _ _ B (HG.out.2.2.2.2.2.keep fun b hb => HB.out.block b (Nat.lt_of_lt_of_le hb HG.out.1)) (Nat.le_trans HG.out.1 HB.out.size) (by have h1 := HZ.out; have h2 := HSZ.out; omega)).mono ?_
  rintro e w5 ⟨P5, p5, q5, fp5, rfl, ho5, hnd5, hf5, hb5⟩
  have hfb5 : ∀ b, b ∈ fp5 → b ≠ w.heap.size + 1 ∧ b ≠ w.heap.size + 2 := fun b hb => by have := hf5 b hb; have := KO.out.lt; have := KR.out.lt; omega
  have hd1_5 : ∀ b, b ∈ fp1 → b ∉ fp5 := fun b hb hm => by have := hf5 b hm; have := CS1.out b hb; have := CH1.out.size; omega
  have hd2_5 : ∀ b, b ∈ fp2 → b ∉ fp5 := fun b hb hm => by have := hf5 b hm; have := CS2.out b hb; have := CH2.out.size; omega
  have hd3_5 : ∀ b, b ∈ fp3 → b ∉ fp5 := fun b hb hm => by have := hf5 b hm; have := CS3.out b hb; have := CH3.out.size; omega
  have hd4_5 : ∀ b, b ∈ fp4 → b ∉ fp5 := fun b hb hm => by have := hf5 b hm; have := CS4.out b hb; have := CH4.out.size; omega
  have CS5 := Lib.hid ho5.olt
  have OS5 := Lib.hid (And.intro ho5 (And.intro hnd5 (And.intro hfb5 hf5)))
  have HD1_5 := Lib.hid hd1_5
  have HD2_5 := Lib.hid hd2_5
  have HD3_5 := Lib.hid hd3_5
  have HD4_5 := Lib.hid hd4_5
  have HF5 := Lib.hid (show ∀ b, b ∈ fp5 → w.heap.size ≤ b from fun b hb => Nat.le_trans HB.out.size (hf5 b hb))
  have KA := Lib.hid (KA.out.bel hb5)
  have KR := Lib.hid (KR.out.bel hb5)
  have KO := Lib.hid (KO.out.bel hb5)
  have HB := Lib.hid (below_step HB.out hb5)
  have CH1 := Lib.hid (Mm.und_chg CH1.out hb5)
  have CH2 := Lib.hid (Mm.und_chg CH2.out hb5)
  have CH3 := Lib.hid (Mm.und_chg CH3.out hb5)
  have CH4 := Lib.hid (Mm.und_chg CH4.out hb5)
  have CH5 := Lib.hid (Mm.Chg.refl [w.heap.size + 1, w.heap.size + 2] w5)
  have o5_0 := KO.out.cell (i := 0) rfl
  have r5_0 := KR.out.cell (i := 0) rfl
  have x5_0 := KO.out.frozen 0
  have y5_0 := KR.out.frozen 0
  have o5_1 := KO.out.cell (i := 1) rfl
  have r5_1 := KR.out.cell (i := 1) rfl
  have x5_1 := KO.out.frozen 1
  have y5_1 := KR.out.frozen 1
  have o5_2 := KO.out.cell (i := 2) rfl
  have r5_2 := KR.out.cell (i := 2) rfl
  have x5_2 := KO.out.frozen 2
  have y5_2 := KR.out.frozen 2
  have o5_3 := KO.out.cell (i := 3) rfl
  have r5_3 := KR.out.cell (i := 3) rfl
  have x5_3 := KO.out.frozen 3
  have y5_3 := KR.out.frozen 3
  have o5_4 := KO.out.cell (i := 4) rfl
  have r5_4 := KR.out.cell (i := 4) rfl
  have x5_4 := KO.out.frozen 4
  have y5_4 := KR.out.frozen 4
  clear hb5 ho5 hnd5 hf5 hfb5 hd1_5 hd2_5 hd3_5 hd4_5
  have KA := Lib.hid (KA.out.far (p := ⟨w.heap.size + 2, 4, none⟩) (by show w.heap.size ≠ w.heap.size + 2; omega) (.slice P5 p5 q5))
  have KR := Lib.hid (KR.out.far (p := ⟨w.heap.size + 2, 4, none⟩) (by show w.heap.size + 1 ≠ w.heap.size + 2; omega) (.slice P5 p5 q5))
  have KO := Lib.hid (KO.out.set_ 4 (.slice P5 p5 q5))
  have HB := Lib.hid (HB.out.setCell (p := ⟨w.heap.size + 2, 4, none⟩) (by show w.heap.size ≤ w.heap.size + 2; omega) (.slice P5 p5 q5))
  have CH1 := Lib.hid (CH1.out.setCell (p := ⟨w.heap.size + 2, 4, none⟩) (by simp) (.slice P5 p5 q5))
  have CH2 := Lib.hid (CH2.out.setCell (p := ⟨w.heap.size + 2, 4, none⟩) (by simp) (.slice P5 p5 q5))
  have CH3 := Lib.hid (CH3.out.setCell (p := ⟨w.heap.size + 2, 4, none⟩) (by simp) (.slice P5 p5 q5))
  have CH4 := Lib.hid (CH4.out.setCell (p := ⟨w.heap.size + 2, 4, none⟩) (by simp) (.slice P5 p5 q5))
  have CH5 := Lib.hid (CH5.out.setCell (p := ⟨w.heap.size + 2, 4, none⟩) (by simp) (.slice P5 p5 q5))
  go_wp2
  have HB := Lib.hid (HB.out.setCell (p := ⟨w.heap.size + 1, 0, none⟩) (by show w.heap.size ≤ w.heap.size + 1; omega) (.slice P1 p1 q1))
  have CH1 := Lib.hid (CH1.out.setCell (p := ⟨w.heap.size + 1, 0, none⟩) (by simp) (.slice P1 p1 q1))
  have CH2 := Lib.hid (CH2.out.setCell (p := ⟨w.heap.size + 1, 0, none⟩) (by simp) (.slice P1 p1 q1))
  have CH3 := Lib.hid (CH3.out.setCell (p := ⟨w.heap.size + 1, 0, none⟩) (by simp) (.slice P1 p1 q1))
  have CH4 := Lib.hid (CH4.out.setCell (p := ⟨w.heap.size + 1, 0, none⟩) (by simp) (.slice P1 p1 q1))
  have CH5 := Lib.hid (CH5.out.setCell (p := ⟨w.heap.size + 1, 0, none⟩) (by simp) (.slice P1 p1 q1))
  have HB := Lib.hid (HB.out.setCell (p := ⟨w.heap.size + 1, 1, none⟩) (by show w.heap.size ≤ w.heap.size + 1; omega) (.slice P2 p2 q2))
  have CH1 := Lib.hid (CH1.out.setCell (p := ⟨w.heap.size + 1, 1, none⟩) (by simp) (.slice P2 p2 q2))
  have CH2 := Lib.hid (CH2.out.setCell (p := ⟨w.heap.size + 1, 1, none⟩) (by simp) (.slice P2 p2 q2))
  have CH3 := Lib.hid (CH3.out.setCell (p := ⟨w.heap.size + 1, 1, none⟩) (by simp) (.slice P2 p2 q2))
  have CH4 := Lib.hid (CH4.out.setCell (p := ⟨w.heap.size + 1, 1, none⟩) (by simp) (.slice P2 p2 q2))
  have CH5 := Lib.hid (CH5.out.setCell (p := ⟨w.heap.size + 1, 1, none⟩) (by simp) (.slice P2 p2 q2))
  have HB := Lib.hid (HB.out.setCell (p := ⟨w.heap.size + 1, 2, none⟩) (by show w.heap.size ≤ w.heap.size + 1; omega) (.slice P3 p3 q3))
  have CH1 := Lib.hid (CH1.out.setCell (p := ⟨w.heap.size + 1, 2, none⟩) (by simp) (.slice P3 p3 q3))
  have CH2 := Lib.hid (CH2.out.setCell (p := ⟨w.heap.size + 1, 2, none⟩) (by simp) (.slice P3 p3 q3))
  have CH3 := Lib.hid (CH3.out.setCell (p := ⟨w.heap.size + 1, 2, none⟩) (by simp) (.slice P3 p3 q3))
  have CH4 := Lib.hid (CH4.out.setCell (p := ⟨w.heap.size + 1, 2, none⟩) (by simp) (.slice P3 p3 q3))
  have CH5 := Lib.hid (CH5.out.setCell (p := ⟨w.heap.size + 1, 2, none⟩) (by simp) (.slice P3 p3 q3))
  have HB := Lib.hid (HB.out.setCell (p := ⟨w.heap.size + 1, 3, none⟩) (by show w.heap.size ≤ w.heap.size + 1; omega) (.slice P4 p4 q4))
  have CH1 := Lib.hid (CH1.out.setCell (p := ⟨w.heap.size + 1, 3, none⟩) (by simp) (.slice P4 p4 q4))
  have CH2 := Lib.hid (CH2.out.setCell (p := ⟨w.heap.size + 1, 3, none⟩) (by simp) (.slice P4 p4 q4))
  have CH3 := Lib.hid (CH3.out.setCell (p := ⟨w.heap.size + 1, 3, none⟩) (by simp) (.slice P4 p4 q4))
  have CH4 := Lib.hid (CH4.out.setCell (p := ⟨w.heap.size + 1, 3, none⟩) (by simp) (.slice P4 p4 q4))
  have CH5 := Lib.hid (CH5.out.setCell (p := ⟨w.heap.size + 1, 3, none⟩) (by simp) (.slice P4 p4 q4))
  have HB := Lib.hid (HB.out.setCell (p := ⟨w.heap.size + 1, 4, none⟩) (by show w.heap.size ≤ w.heap.size + 1; omega) (.slice P5 p5 q5))
  have CH1 := Lib.hid (CH1.out.setCell (p := ⟨w.heap.size + 1, 4, none⟩) (by simp) (.slice P5 p5 q5))
  have CH2 := Lib.hid (CH2.out.setCell (p := ⟨w.heap.size + 1, 4, none⟩) (by simp) (.slice P5 p5 q5))
  have CH3 := Lib.hid (CH3.out.setCell (p := ⟨w.heap.size + 1, 4, none⟩) (by simp) (.slice P5 p5 q5))
  have CH4 := Lib.hid (CH4.out.setCell (p := ⟨w.heap.size + 1, 4, none⟩) (by simp) (.slice P5 p5 q5))
  have CH5 := Lib.hid (CH5.out.setCell (p := ⟨w.heap.size + 1, 4, none⟩) (by simp) (.slice P5 p5 q5))
  refine bodyPost_ret (v := .agg #[.slice P1 p1 q1, .slice P2 p2 q2, .slice P3 p3 q3, .slice P4 p4 q4, .slice P5 p5 q5]) (by simp [results, Try.results42, go_sem, r5_0, r5_1, r5_2, r5_3, r5_4]) rfl ⟨[.slice P1 p1 q1, .slice P2 p2 q2, .slice P3 p3 q3, .slice P4 p4 q4, .slice P5 p5 q5], _, rfl, rTell_own_mk (OS1.out.1.okeep fun b hb => CH1.out.block b (CS1.out b hb) (by simp; exact ⟨(OS1.out.2.2.1 b hb).1, (OS1.out.2.2.1 b hb).2⟩)) (OS2.out.1.okeep fun b hb => CH2.out.block b (CS2.out b hb) (by simp; exact ⟨(OS2.out.2.2.1 b hb).1, (OS2.out.2.2.1 b hb).2⟩)) (OS3.out.1.okeep fun b hb => CH3.out.block b (CS3.out b hb) (by simp; exact ⟨(OS3.out.2.2.1 b hb).1, (OS3.out.2.2.1 b hb).2⟩)) (OS4.out.1.okeep fun b hb => CH4.out.block b (CS4.out b hb) (by simp; exact ⟨(OS4.out.2.2.1 b hb).1, (OS4.out.2.2.1 b hb).2⟩)) (OS5.out.1.okeep fun b hb => CH5.out.block b (CS5.out b hb) (by simp; exact ⟨(OS5.out.2.2.1 b hb).1, (OS5.out.2.2.1 b hb).2⟩)), ?_, ?_, HB.out⟩
  · exact (List.nodup_append.2 ⟨OS1.out.2.1, (List.nodup_append.2 ⟨OS2.out.2.1, (List.nodup_append.2 ⟨OS3.out.2.1, (List.nodup_append.2 ⟨OS4.out.2.1, OS5.out.2.1, fun a ha b hb hab => by subst hab; exact HD4_5.out a ha hb⟩), fun a ha b hb hab => by subst hab; exact (List.mem_append.1 hb).elim (fun hb => HD3_4.out a ha hb) (fun hb => HD3_5.out a ha hb)⟩), fun a ha b hb hab => by subst hab; exact (List.mem_append.1 hb).elim (fun hb => HD2_3.out a ha hb) (fun hb => (List.mem_append.1 hb).elim (fun hb => HD2_4.out a ha hb) (fun hb => HD2_5.out a ha hb))⟩), fun a ha b hb hab => by subst hab; exact (List.mem_append.1 hb).elim (fun hb => HD1_2.out a ha hb) (fun hb => (List.mem_append.1 hb).elim (fun hb => HD1_3.out a ha hb) (fun hb => (List.mem_append.1 hb).elim (fun hb => HD1_4.out a ha hb) (fun hb => HD1_5.out a ha hb)))⟩)
  · intro b hb
    rcases List.mem_append.1 hb with hb | hb
    · exact HF1.out b hb
    · rcases List.mem_append.1 hb with hb | hb
      · exact HF2.out b hb
      · rcases List.mem_append.1 hb with hb | hb
        · exact HF3.out b hb
        · rcases List.mem_append.1 hb with hb | hb
          · exact HF4.out b hb
          · exact HF5.out b hb
theorem toTell_at (x : Tell) (cs : List Value) (w : World) (B : Nat) (h : rTell.at_ w B x cs) (hB : B ≤ w.heap.size) (hsz : Pl.szTell x ≤ 1048576) :
    Calls Try.prog 42 #[.agg cs.toArray] w (Mm.NewAg rTell w x) := by
  obtain ⟨A0, n0, c0, A1, n1, c1, A2, n2, c2, A3, n3, c3, A4, n4, c4, rfl, g0, g1, g2, g3, g4⟩ := rTell_at h
  exact toTell_c x _ _ _ _ _ _ _ _ _ _ _ _ _ _ _ _ B g0 g1 g2 g3 g4 hB hsz
end Go.Proofs.Ytaepohocabealaa
