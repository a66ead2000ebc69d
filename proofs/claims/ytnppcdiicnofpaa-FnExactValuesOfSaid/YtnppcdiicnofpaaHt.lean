/-
  The laws' own copies of arguments. No conditions.
-/
import Derived.Test.YtnppcdiicnofpaaWa
import Derived.Test.YtnppcdiicnofpaaTy
import Derived.Test.YtnppcdiicnofpaaQu
import Derived.Lib.Hide
import Derived.Deep.DeepFit
namespace Go.Proofs.Ytnppcdiicnofpaa
open Go.RowKit
attribute [local go_sem] und_cell
theorem Try.info_String : (Try.prog.info? 9).map (fun i => (i.zero, i.size, i.bytes)) = some (some (.string ⟨#[]⟩), 1, 16) := by kernel_rfl
set_option maxHeartbeats 1000000 in
theorem toStringS_c (l : List ByteArray) (A : Option Addr) (n c : Nat) (w : World) (B : Nat) (hl : Mm.SlAt Mm.str w B l A n c) (hB : B ≤ w.heap.size) (hsz : Pl.szl Pl.szStr l ≤ 1048576) :
    Calls Try.prog 38 #[.slice A n c] w (Mm.NewSl Mm.str 9 w l) := by
  have hlen : Hid (l.length = n) := hl.1
  have HL := Lib.hid hl
  have HN : Hid (∀ x : ByteArray, 0 ≤ Pl.szStr x) := Pl.szStr_nn
  have HSZ := Lib.hid hsz
  have hn : n ≤ 1048576 := by have := Pl.szl_len HN.out l; have := hlen.out; omega
  clear hl hsz
  obtain ⟨i0, hi, hz0, hz1, hz2⟩ := info_parts Try.info_String
  go_enter Try.func38, Try.ntmps38
  go_wp2_with (at_make; refine wpList_make_full _ rfl _ _ 41 rfl 0 9 i0 _ 1 Try.underlying41 hi hz0 hz1 _ _ _ _ n rfl rfl rfl rfl (by rw [hz2]; omega) (by unfold maxLen; omega) (Nat.zero_le _) ?_; intro w1 hown hgrow)
  go_loopw [4] (fun i wr => ∃ k : Nat, k ≤ n ∧ i = .int .i64 k ∧ Mm.Filled Mm.str 9 w l ⟨#[]⟩ n k wr) (fun i _ => n - (intOf i).toNat)
  case atStart => exact ⟨0, Nat.zero_le _, rfl, Mm.Filled.start (zv := .string ⟨#[]⟩) hlen.out hown hgrow ⟨rfl, (by show 0 ≤ _; exact Nat.zero_le _), rfl⟩ (by decide)⟩
  case round =>
    obtain ⟨k, hk, rfl, hfil⟩ := hrel
    rename_i wr _
    have HF : Hid (Mm.Filled Mm.str 9 w l ⟨#[]⟩ n k wr) := hfil
    clear hfil hown hgrow
    by_cases hlt : k < n
    · obtain ⟨x, b, off, hx, rfl, hb, f0, d0⟩ := str_get (HL.out.keep (w' := wr) (fun b hb => HF.out.below.block b (by omega))) hlt
      have hBw : B ≤ wr.heap.size := Nat.le_trans hB HF.out.below.size
      have hxs := Pl.szl_mem HN.out (List.mem_of_getElem? hx)
      have HX := Lib.hid (And.intro hx (And.intro hxs f0))
      have hw := HF.out.lt
      clear hx hxs f0
      obtain ⟨u0, t0⟩ := HF.out.cell hlt (j := 0) (by decide)
      have d0' : wr.cell? ⟨w.heap.size, k, none⟩ = some u0 := by have e0 : k * (Mm.str).size + 0 = k := (by show k * 1 + 0 = k; omega); rwa [e0] at t0
      have z0 := HF.out.frozen (k)
      clear t0
      go_wp2
      go_roundw
      case rel => exact ⟨k + 1, by omega, by go_num, by have e0 : k * (Mm.str).size = k := (by show k * 1 = k; omega); have hst := HF.out.step hlt HX.out.1 (Below.refl _ _) (cs := [.string x]) (show (Mm.str).own _ x _ [] from ⟨rfl, HX.out.2.2, rfl⟩) List.nodup_nil (fun b hb => by cases hb); rwa [e0] at hst⟩
      case measure => simp [intOf]; omega
    · go_wp2
      go_ret
      exact HF.out.done (by omega)
theorem toLabel_c (x : Label) (w : World) :
    Calls Try.prog 99 #[.agg #[.string x.Name, .string x.Value]] w fun e w' => e = .returned (.agg #[.string x.Name, .string x.Value]) ∧ Below w.heap.size w w' := by
  go_enter Try.func99, Try.ntmps99
  go_wp2
  exact bodyPost_ret (v := .agg #[.string x.Name, .string x.Value]) (by simp [results, Try.results99, go_sem]) rfl ⟨rfl, below_new (below_new (below_new (Below.refl _ _) _) _) _⟩
theorem Try.info_Label : (Try.prog.info? 97).map (fun i => (i.zero, i.size, i.bytes)) = some (some (.agg #[.string ⟨#[]⟩, .string ⟨#[]⟩]), 2, 32) := by kernel_rfl
set_option maxHeartbeats 1000000 in
theorem toLabelS_c (l : List Label) (A : Option Addr) (n c : Nat) (w : World) (B : Nat) (hl : Mm.SlAt rLabel w B l A n c) (hB : B ≤ w.heap.size) (hsz : Pl.szl Pl.szLabel l ≤ 1048576) :
    Calls Try.prog 77 #[.slice A n c] w (Mm.NewSl rLabel 97 w l) := by
  have hlen : Hid (l.length = n) := hl.1
  have HL := Lib.hid hl
  have HN : Hid (∀ x : Label, 0 ≤ Pl.szLabel x) := Pl.szLabel_nn
  have HSZ := Lib.hid hsz
  have hn : n ≤ 1048576 := by have := Pl.szl_len HN.out l; have := hlen.out; omega
  clear hl hsz
  obtain ⟨i0, hi, hz0, hz1, hz2⟩ := info_parts Try.info_Label
  go_enter Try.func77, Try.ntmps77
  go_wp2_with (at_make; refine wpList_make_full _ rfl _ _ 48 rfl 0 97 i0 _ 2 Try.underlying48 hi hz0 hz1 _ _ _ _ n rfl rfl rfl rfl (by rw [hz2]; omega) (by unfold maxLen; omega) (Nat.zero_le _) ?_; intro w1 hown hgrow)
  go_loopw [4] (fun i wr => ∃ k : Nat, k ≤ n ∧ i = .int .i64 k ∧ Mm.Filled rLabel 97 w l ⟨⟨#[]⟩, ⟨#[]⟩⟩ n k wr) (fun i _ => n - (intOf i).toNat)
  case atStart => exact ⟨0, Nat.zero_le _, rfl, Mm.Filled.start (zv := .agg #[.string ⟨#[]⟩, .string ⟨#[]⟩]) hlen.out hown hgrow ⟨rfl, ⟨(by show 0 ≤ _; exact Nat.zero_le _), (by show 0 ≤ _; exact Nat.zero_le _)⟩, rfl⟩ (by decide)⟩
  case round =>
    obtain ⟨k, hk, rfl, hfil⟩ := hrel
    rename_i wr _
    have HF : Hid (Mm.Filled rLabel 97 w l ⟨⟨#[]⟩, ⟨#[]⟩⟩ n k wr) := hfil
    clear hfil hown hgrow
    by_cases hlt : k < n
    · obtain ⟨x, b, off, hx, rfl, hb, f0, f1, d0, d1⟩ := rLabel_get (HL.out.keep (w' := wr) (fun b hb => HF.out.below.block b (by omega))) hlt
      have hBw : B ≤ wr.heap.size := Nat.le_trans hB HF.out.below.size
      have hxs := Pl.szl_mem HN.out (List.mem_of_getElem? hx)
      have HX := Lib.hid (And.intro hx (And.intro hxs (And.intro f0 f1)))
      have hw := HF.out.lt
      clear hx hxs f0 f1
      go_wp2_with fail
      refine (toLabel_c x _).mono ?_
      rintro e w2 ⟨rfl, hb2⟩
      have HK := Lib.hid (HF.out.keep hb2)
      obtain ⟨u0, t0⟩ := HK.out.cell hlt (j := 0) (by decide)
      have d0' : w2.cell? ⟨w.heap.size, k * 2, none⟩ = some u0 := t0
      have z0 := HK.out.frozen (k * 2)
      clear t0
      obtain ⟨u1, t1⟩ := HK.out.cell hlt (j := 1) (by decide)
      have d1' : w2.cell? ⟨w.heap.size, k * 2 + 1, none⟩ = some u1 := t1
      have z1 := HK.out.frozen (k * 2 + 1)
      clear t1
      go_wp2
      go_roundw
      case rel => exact ⟨k + 1, by omega, by go_num, HF.out.step hlt HX.out.1 hb2 (cs := [.string x.Name, .string x.Value]) (fx := []) ⟨rfl, ⟨HX.out.2.2.1, HX.out.2.2.2⟩, rfl⟩ List.nodup_nil (fun b hb => by cases hb)⟩
      case measure => simp [intOf]; omega
    · go_wp2
      go_ret
      exact HF.out.done (by omega)
set_option maxHeartbeats 2000000 in
theorem toItem_c (x : Item) (A : Option Addr) (n c : Nat) (w : World) (B : Nat) (g0 : Mm.SlAt rLabel w B x.Labels A n c) (s0 : Mm.I64 x.Value) (hB : B ≤ w.heap.size) (hsz : Pl.szItem x ≤ 1048576) :
    Calls Try.prog 73 #[.agg #[.slice A n c, .int .i64 x.Value]] w (Mm.NewAg rItem w x) := by
  have HG := Lib.hid (And.intro hB g0)
  have HSZ := Lib.hid hsz
  clear hsz g0
  have HS := Lib.hid s0
  clear s0
  have zn_Labels := Pl.szl_nn (f := Pl.szLabel) (Pl.szLabel_nn) x.Labels
  have hz : Pl.szItem x = (Pl.szl Pl.szLabel) x.Labels := rfl
  have HZ := Lib.hid hz
  clear hz
  have KA := Lib.hid (((Mm.Blk.new w 101 [.slice A n c, .int .i64 x.Value]).alloc (.cells #[.slice none 0 0, .int .i64 0] 91)).alloc (.cells #[.slice none 0 0, .int .i64 0] 91))
  have KR := Lib.hid ((Mm.Blk.new' (w.alloc (.cells #[.slice A n c, .int .i64 x.Value] 101)) 91 [.slice none 0 0, .int .i64 0] (Mm.sz1 _ _)).alloc (.cells #[.slice none 0 0, .int .i64 0] 91))
  have KO := Lib.hid (Mm.Blk.new' ((w.alloc (.cells #[.slice A n c, .int .i64 x.Value] 101)).alloc (.cells #[.slice none 0 0, .int .i64 0] 91)) 91 [.slice none 0 0, .int .i64 0] (Mm.sz2 _ _ _))
  have hb0 : Below w.heap.size w (((w.alloc (.cells #[.slice A n c, .int .i64 x.Value] 101)).alloc (.cells #[.slice none 0 0, .int .i64 0] 91)).alloc (.cells #[.slice none 0 0, .int .i64 0] 91)) := below_new (below_new (below_new (Below.refl _ _) _) _) _
  have HB := Lib.hid hb0
  have hlt0 := KO.out.lt
  clear hb0
  go_enter Try.func73, Try.ntmps73
  go_wp2_with fail
  refine (toLabelS_c x.Labels _ _ _ _ B (HG.out.2.keep fun b hb => HB.out.block b (Nat.lt_of_lt_of_le hb HG.out.1)) (Nat.le_trans HG.out.1 HB.out.size) (by have h1 := HZ.out; have h2 := HSZ.out; omega)).mono ?_
  rintro e w1 ⟨P1, p1, q1, fp1, rfl, ho1, hnd1, hf1, hb1⟩
  have hfb1 : ∀ b, b ∈ fp1 → b ≠ w.heap.size + 1 ∧ b ≠ w.heap.size + 2 := fun b hb => by have := hf1 b hb; have := KO.out.lt; have := KR.out.lt; omega
  have CS1 := Lib.hid ho1.olt
  have OS1 := Lib.hid (And.intro ho1 (And.intro hnd1 (And.intro hfb1 hf1)))
  have HF1 := Lib.hid (show ∀ b, b ∈ fp1 → w.heap.size ≤ b from fun b hb => Nat.le_trans HB.out.size (hf1 b hb))
  have KA := Lib.hid (KA.out.bel hb1)
  have KR := Lib.hid (KR.out.bel hb1)
  have KO := Lib.hid (KO.out.bel hb1)
  have HB := Lib.hid (below_step HB.out hb1)
  have CH1 := Lib.hid (Mm.Chg.refl [w.heap.size + 1, w.heap.size + 2] w1)
  have a1_1 := KA.out.cell (i := 1) rfl
  have o1_0 := KO.out.cell (i := 0) rfl
  have r1_0 := KR.out.cell (i := 0) rfl
  have x1_0 := KO.out.frozen 0
  have y1_0 := KR.out.frozen 0
  have o1_1 := KO.out.cell (i := 1) rfl
  have r1_1 := KR.out.cell (i := 1) rfl
  have x1_1 := KO.out.frozen 1
  have y1_1 := KR.out.frozen 1
  clear hb1 ho1 hnd1 hf1 hfb1
  have KA := Lib.hid (KA.out.far (p := ⟨w.heap.size + 2, 0, none⟩) (by show w.heap.size ≠ w.heap.size + 2; omega) (.slice P1 p1 q1))
  have KR := Lib.hid (KR.out.far (p := ⟨w.heap.size + 2, 0, none⟩) (by show w.heap.size + 1 ≠ w.heap.size + 2; omega) (.slice P1 p1 q1))
  have KO := Lib.hid (KO.out.set_ 0 (.slice P1 p1 q1))
  have HB := Lib.hid (HB.out.setCell (p := ⟨w.heap.size + 2, 0, none⟩) (by show w.heap.size ≤ w.heap.size + 2; omega) (.slice P1 p1 q1))
  have CH1 := Lib.hid (CH1.out.setCell (p := ⟨w.heap.size + 2, 0, none⟩) (by simp) (.slice P1 p1 q1))
  have KA := Lib.hid (KA.out.far (p := ⟨w.heap.size + 2, 1, none⟩) (by show w.heap.size ≠ w.heap.size + 2; omega) (.int .i64 x.Value))
  have KR := Lib.hid (KR.out.far (p := ⟨w.heap.size + 2, 1, none⟩) (by show w.heap.size + 1 ≠ w.heap.size + 2; omega) (.int .i64 x.Value))
  have KO := Lib.hid (KO.out.set_ 1 (.int .i64 x.Value))
  have HB := Lib.hid (HB.out.setCell (p := ⟨w.heap.size + 2, 1, none⟩) (by show w.heap.size ≤ w.heap.size + 2; omega) (.int .i64 x.Value))
  have CH1 := Lib.hid (CH1.out.setCell (p := ⟨w.heap.size + 2, 1, none⟩) (by simp) (.int .i64 x.Value))
  go_wp2
  have HB := Lib.hid (HB.out.setCell (p := ⟨w.heap.size + 1, 0, none⟩) (by show w.heap.size ≤ w.heap.size + 1; omega) (.slice P1 p1 q1))
  have CH1 := Lib.hid (CH1.out.setCell (p := ⟨w.heap.size + 1, 0, none⟩) (by simp) (.slice P1 p1 q1))
  have HB := Lib.hid (HB.out.setCell (p := ⟨w.heap.size + 1, 1, none⟩) (by show w.heap.size ≤ w.heap.size + 1; omega) (.int .i64 x.Value))
  have CH1 := Lib.hid (CH1.out.setCell (p := ⟨w.heap.size + 1, 1, none⟩) (by simp) (.int .i64 x.Value))
  refine bodyPost_ret (v := .agg #[.slice P1 p1 q1, .int .i64 x.Value]) (by simp [results, Try.results73, go_sem, r1_0, r1_1]) rfl ⟨[.slice P1 p1 q1, .int .i64 x.Value], _, rfl, rItem_own_mk (OS1.out.1.okeep fun b hb => CH1.out.block b (CS1.out b hb) (by simp; exact ⟨(OS1.out.2.2.1 b hb).1, (OS1.out.2.2.1 b hb).2⟩)) HS.out, ?_, ?_, HB.out⟩
  · exact OS1.out.2.1
  · intro b hb
    exact HF1.out b hb
theorem toItem_at (x : Item) (cs : List Value) (w : World) (B : Nat) (h : rItem.at_ w B x cs) (hB : B ≤ w.heap.size) (hsz : Pl.szItem x ≤ 1048576) :
    Calls Try.prog 73 #[.agg cs.toArray] w (Mm.NewAg rItem w x) := by
  obtain ⟨A, n, c, rfl, g0, g1⟩ := rItem_at h
  exact toItem_c x _ _ _ _ B g0 g1 hB hsz
theorem Try.info_Item : (Try.prog.info? 91).map (fun i => (i.zero, i.size, i.bytes)) = some (some (.agg #[.slice none 0 0, .int .i64 0]), 2, 32) := by kernel_rfl
set_option maxHeartbeats 1000000 in
theorem toItemS_c (l : List Item) (A : Option Addr) (n c : Nat) (w : World) (B : Nat) (hl : Mm.SlAt rItem w B l A n c) (hB : B ≤ w.heap.size) (hsz : Pl.szl Pl.szItem l ≤ 1048576) :
    Calls Try.prog 43 #[.slice A n c] w (Mm.NewSl rItem 91 w l) := by
  have hlen : Hid (l.length = n) := hl.1
  have HL := Lib.hid hl
  have HN : Hid (∀ x : Item, 0 ≤ Pl.szItem x) := Pl.szItem_nn
  have HSZ := Lib.hid hsz
  have hn : n ≤ 1048576 := by have := Pl.szl_len HN.out l; have := hlen.out; omega
  clear hl hsz
  obtain ⟨i0, hi, hz0, hz1, hz2⟩ := info_parts Try.info_Item
  go_enter Try.func43, Try.ntmps43
  go_wp2_with (at_make; refine wpList_make_full _ rfl _ _ 40 rfl 0 91 i0 _ 2 Try.underlying40 hi hz0 hz1 _ _ _ _ n rfl rfl rfl rfl (by rw [hz2]; omega) (by unfold maxLen; omega) (Nat.zero_le _) ?_; intro w1 hown hgrow)
  go_loopw [4] (fun i wr => ∃ k : Nat, k ≤ n ∧ i = .int .i64 k ∧ Mm.Filled rItem 91 w l ⟨[], 0⟩ n k wr) (fun i _ => n - (intOf i).toNat)
  case atStart => exact ⟨0, Nat.zero_le _, rfl, Mm.Filled.start (zv := .agg #[.slice none 0 0, .int .i64 0]) hlen.out hown hgrow (rItem_own_mk (x := ⟨[], 0⟩) Mm.SlOwn.nil (by unfold Mm.I64; simp)) (by decide)⟩
  case round =>
    obtain ⟨k, hk, rfl, hfil⟩ := hrel
    rename_i wr _
    have HF : Hid (Mm.Filled rItem 91 w l ⟨[], 0⟩ n k wr) := hfil
    clear hfil hown hgrow
    by_cases hlt : k < n
    · obtain ⟨x, b, off, A, n, c, hx, rfl, hb, f0, f1, d0, d1⟩ := rItem_get (HL.out.keep (w' := wr) (fun b hb => HF.out.below.block b (by omega))) hlt
      have hBw : B ≤ wr.heap.size := Nat.le_trans hB HF.out.below.size
      have hxs := Pl.szl_mem HN.out (List.mem_of_getElem? hx)
      have HX := Lib.hid (And.intro hx (And.intro hxs (And.intro f0 f1)))
      have hw := HF.out.lt
      clear hx hxs f0 f1
      go_wp2_with fail
      refine (toItem_c x _ _ _ _ B HX.out.2.2.1 HX.out.2.2.2 hBw (by have h1 := HX.out.2.1; have h2 := HSZ.out; omega)).mono ?_
      rintro e w2 ⟨cs2, fp2, rfl, ho2, hnd2, hf2, hb2⟩
      have HO := Lib.hid (And.intro ho2 (And.intro hnd2 (And.intro hf2 hb2)))
      obtain ⟨A2, n2, c2, _, rfl, _⟩ := rItem_own ho2
      have HK := Lib.hid (HF.out.keep hb2)
      clear ho2 hnd2 hf2 hb2
      obtain ⟨u0, t0⟩ := HK.out.cell hlt (j := 0) (by decide)
      have d0' : w2.cell? ⟨w.heap.size, k * 2, none⟩ = some u0 := t0
      have z0 := HK.out.frozen (k * 2)
      clear t0
      obtain ⟨u1, t1⟩ := HK.out.cell hlt (j := 1) (by decide)
      have d1' : w2.cell? ⟨w.heap.size, k * 2 + 1, none⟩ = some u1 := t1
      have z1 := HK.out.frozen (k * 2 + 1)
      clear t1
      go_wp2
      go_roundw
      case rel => exact ⟨k + 1, by omega, by go_num, HF.out.step hlt HX.out.1 HO.out.2.2.2 (cs := [.slice A2 n2 c2, .int .i64 x.Value]) HO.out.1 HO.out.2.1 HO.out.2.2.1⟩
      case measure => simp [intOf]; omega
    · go_wp2
      go_ret
      exact HF.out.done (by omega)
set_option maxHeartbeats 2000000 in
theorem toTotal_c (x : Total) (A : Option Addr) (n c : Nat) (w : World) (B : Nat) (g0 : Mm.SlAt rLabel w B x.Labels A n c) (s0 : Mm.I64 x.Sum) (s1 : Mm.I64 x.Count) (s2 : Mm.I64 x.Least) (s3 : Mm.I64 x.Most) (hB : B ≤ w.heap.size) (hsz : Pl.szTotal x ≤ 1048576) :
    Calls Try.prog 50 #[.agg #[.slice A n c, .int .i64 x.Sum, .int .i64 x.Count, .int .i64 x.Least, .int .i64 x.Most]] w (Mm.NewAg rTotal w x) := by
  have HG := Lib.hid (And.intro hB g0)
  have HSZ := Lib.hid hsz
  clear hsz g0
  have HS := Lib.hid (And.intro s0 (And.intro s1 (And.intro s2 s3)))
  clear s0 s1 s2 s3
  have zn_Labels := Pl.szl_nn (f := Pl.szLabel) (Pl.szLabel_nn) x.Labels
  have hz : Pl.szTotal x = (Pl.szl Pl.szLabel) x.Labels := rfl
  have HZ := Lib.hid hz
  clear hz
  have KA := Lib.hid (((Mm.Blk.new w 73 [.slice A n c, .int .i64 x.Sum, .int .i64 x.Count, .int .i64 x.Least, .int .i64 x.Most]).alloc (.cells #[.slice none 0 0, .int .i64 0, .int .i64 0, .int .i64 0, .int .i64 0] 50)).alloc (.cells #[.slice none 0 0, .int .i64 0, .int .i64 0, .int .i64 0, .int .i64 0] 50))
  have KR := Lib.hid ((Mm.Blk.new' (w.alloc (.cells #[.slice A n c, .int .i64 x.Sum, .int .i64 x.Count, .int .i64 x.Least, .int .i64 x.Most] 73)) 50 [.slice none 0 0, .int .i64 0, .int .i64 0, .int .i64 0, .int .i64 0] (Mm.sz1 _ _)).alloc (.cells #[.slice none 0 0, .int .i64 0, .int .i64 0, .int .i64 0, .int .i64 0] 50))
  have KO := Lib.hid (Mm.Blk.new' ((w.alloc (.cells #[.slice A n c, .int .i64 x.Sum, .int .i64 x.Count, .int .i64 x.Least, .int .i64 x.Most] 73)).alloc (.cells #[.slice none 0 0, .int .i64 0, .int .i64 0, .int .i64 0, .int .i64 0] 50)) 50 [.slice none 0 0, .int .i64 0, .int .i64 0, .int .i64 0, .int .i64 0] (Mm.sz2 _ _ _))
  have hb0 : Below w.heap.size w (((w.alloc (.cells #[.slice A n c, .int .i64 x.Sum, .int .i64 x.Count, .int .i64 x.Least, .int .i64 x.Most] 73)).alloc (.cells #[.slice none 0 0, .int .i64 0, .int .i64 0, .int .i64 0, .int .i64 0] 50)).alloc (.cells #[.slice none 0 0, .int .i64 0, .int .i64 0, .int .i64 0, .int .i64 0] 50)) := below_new (below_new (below_new (Below.refl _ _) _) _) _
  have HB := Lib.hid hb0
  have hlt0 := KO.out.lt
  clear hb0
  go_enter Try.func50, Try.ntmps50
  go_wp2_with fail
  refine (toLabelS_c x.Labels _ _ _ _ B (HG.out.2.keep fun b hb => HB.out.block b (Nat.lt_of_lt_of_le hb HG.out.1)) (Nat.le_trans HG.out.1 HB.out.size) (by have h1 := HZ.out; have h2 := HSZ.out; omega)).mono ?_
  rintro e w1 ⟨P1, p1, q1, fp1, rfl, ho1, hnd1, hf1, hb1⟩
  have hfb1 : ∀ b, b ∈ fp1 → b ≠ w.heap.size + 1 ∧ b ≠ w.heap.size + 2 := fun b hb => by have := hf1 b hb; have := KO.out.lt; have := KR.out.lt; omega
  have CS1 := Lib.hid ho1.olt
  have OS1 := Lib.hid (And.intro ho1 (And.intro hnd1 (And.intro hfb1 hf1)))
  have HF1 := Lib.hid (show ∀ b, b ∈ fp1 → w.heap.size ≤ b from fun b hb => Nat.le_trans HB.out.size (hf1 b hb))
  have KA := Lib.hid (KA.out.bel hb1)
  have KR := Lib.hid (KR.out.bel hb1)
  have KO := Lib.hid (KO.out.bel hb1)
  have HB := Lib.hid (below_step HB.out hb1)
  have CH1 := Lib.hid (Mm.Chg.refl [w.heap.size + 1, w.heap.size + 2] w1)
  have a1_1 := KA.out.cell (i := 1) rfl
  have a1_2 := KA.out.cell (i := 2) rfl
  have a1_3 := KA.out.cell (i := 3) rfl
  have a1_4 := KA.out.cell (i := 4) rfl
  have o1_0 := KO.out.cell (i := 0) rfl
  have r1_0 := KR.out.cell (i := 0) rfl
  have x1_0 := KO.out.frozen 0
  have y1_0 := KR.out.frozen 0
  have o1_1 := KO.out.cell (i := 1) rfl
  have r1_1 := KR.out.cell (i := 1) rfl
  have x1_1 := KO.out.frozen 1
  have y1_1 := KR.out.frozen 1
  have o1_2 := KO.out.cell (i := 2) rfl
  have r1_2 := KR.out.cell (i := 2) rfl
  have x1_2 := KO.out.frozen 2
  have y1_2 := KR.out.frozen 2
  have o1_3 := KO.out.cell (i := 3) rfl
  have r1_3 := KR.out.cell (i := 3) rfl
  have x1_3 := KO.out.frozen 3
  have y1_3 := KR.out.frozen 3
  have o1_4 := KO.out.cell (i := 4) rfl
  have r1_4 := KR.out.cell (i := 4) rfl
  have x1_4 := KO.out.frozen 4
  have y1_4 := KR.out.frozen 4
  clear hb1 ho1 hnd1 hf1 hfb1
  have KA := Lib.hid (KA.out.far (p := ⟨w.heap.size + 2, 0, none⟩) (by show w.heap.size ≠ w.heap.size + 2; omega) (.slice P1 p1 q1))
  have KR := Lib.hid (KR.out.far (p := ⟨w.heap.size + 2, 0, none⟩) (by show w.heap.size + 1 ≠ w.heap.size + 2; omega) (.slice P1 p1 q1))
  have KO := Lib.hid (KO.out.set_ 0 (.slice P1 p1 q1))
  have HB := Lib.hid (HB.out.setCell (p := ⟨w.heap.size + 2, 0, none⟩) (by show w.heap.size ≤ w.heap.size + 2; omega) (.slice P1 p1 q1))
  have CH1 := Lib.hid (CH1.out.setCell (p := ⟨w.heap.size + 2, 0, none⟩) (by simp) (.slice P1 p1 q1))
  have KA := Lib.hid (KA.out.far (p := ⟨w.heap.size + 2, 1, none⟩) (by show w.heap.size ≠ w.heap.size + 2; omega) (.int .i64 x.Sum))
  have KR := Lib.hid (KR.out.far (p := ⟨w.heap.size + 2, 1, none⟩) (by show w.heap.size + 1 ≠ w.heap.size + 2; omega) (.int .i64 x.Sum))
  have KO := Lib.hid (KO.out.set_ 1 (.int .i64 x.Sum))
  have HB := Lib.hid (HB.out.setCell (p := ⟨w.heap.size + 2, 1, none⟩) (by show w.heap.size ≤ w.heap.size + 2; omega) (.int .i64 x.Sum))
  have CH1 := Lib.hid (CH1.out.setCell (p := ⟨w.heap.size + 2, 1, none⟩) (by simp) (.int .i64 x.Sum))
  have KA := Lib.hid (KA.out.far (p := ⟨w.heap.size + 2, 2, none⟩) (by show w.heap.size ≠ w.heap.size + 2; omega) (.int .i64 x.Count))
  have KR := Lib.hid (KR.out.far (p := ⟨w.heap.size + 2, 2, none⟩) (by show w.heap.size + 1 ≠ w.heap.size + 2; omega) (.int .i64 x.Count))
  have KO := Lib.hid (KO.out.set_ 2 (.int .i64 x.Count))
  have HB := Lib.hid (HB.out.setCell (p := ⟨w.heap.size + 2, 2, none⟩) (by show w.heap.size ≤ w.heap.size + 2; omega) (.int .i64 x.Count))
  have CH1 := Lib.hid (CH1.out.setCell (p := ⟨w.heap.size + 2, 2, none⟩) (by simp) (.int .i64 x.Count))
  have KA := Lib.hid (KA.out.far (p := ⟨w.heap.size + 2, 3, none⟩) (by show w.heap.size ≠ w.heap.size + 2; omega) (.int .i64 x.Least))
  have KR := Lib.hid (KR.out.far (p := ⟨w.heap.size + 2, 3, none⟩) (by show w.heap.size + 1 ≠ w.heap.size + 2; omega) (.int .i64 x.Least))
  have KO := Lib.hid (KO.out.set_ 3 (.int .i64 x.Least))
  have HB := Lib.hid (HB.out.setCell (p := ⟨w.heap.size + 2, 3, none⟩) (by show w.heap.size ≤ w.heap.size + 2; omega) (.int .i64 x.Least))
  have CH1 := Lib.hid (CH1.out.setCell (p := ⟨w.heap.size + 2, 3, none⟩) (by simp) (.int .i64 x.Least))
  have KA := Lib.hid (KA.out.far (p := ⟨w.heap.size + 2, 4, none⟩) (by show w.heap.size ≠ w.heap.size + 2; omega) (.int .i64 x.Most))
  have KR := Lib.hid (KR.out.far (p := ⟨w.heap.size + 2, 4, none⟩) (by show w.heap.size + 1 ≠ w.heap.size + 2; omega) (.int .i64 x.Most))
  have KO := Lib.hid (KO.out.set_ 4 (.int .i64 x.Most))
  have HB := Lib.hid (HB.out.setCell (p := ⟨w.heap.size + 2, 4, none⟩) (by show w.heap.size ≤ w.heap.size + 2; omega) (.int .i64 x.Most))
  have CH1 := Lib.hid (CH1.out.setCell (p := ⟨w.heap.size + 2, 4, none⟩) (by simp) (.int .i64 x.Most))
  go_wp2
  have HB := Lib.hid (HB.out.setCell (p := ⟨w.heap.size + 1, 0, none⟩) (by show w.heap.size ≤ w.heap.size + 1; omega) (.slice P1 p1 q1))
  have CH1 := Lib.hid (CH1.out.setCell (p := ⟨w.heap.size + 1, 0, none⟩) (by simp) (.slice P1 p1 q1))
  have HB := Lib.hid (HB.out.setCell (p := ⟨w.heap.size + 1, 1, none⟩) (by show w.heap.size ≤ w.heap.size + 1; omega) (.int .i64 x.Sum))
  have CH1 := Lib.hid (CH1.out.setCell (p := ⟨w.heap.size + 1, 1, none⟩) (by simp) (.int .i64 x.Sum))
  have HB := Lib.hid (HB.out.setCell (p := ⟨w.heap.size + 1, 2, none⟩) (by show w.heap.size ≤ w.heap.size + 1; omega) (.int .i64 x.Count))
  have CH1 := Lib.hid (CH1.out.setCell (p := ⟨w.heap.size + 1, 2, none⟩) (by simp) (.int .i64 x.Count))
  have HB := Lib.hid (HB.out.setCell (p := ⟨w.heap.size + 1, 3, none⟩) (by show w.heap.size ≤ w.heap.size + 1; omega) (.int .i64 x.Least))
  have CH1 := Lib.hid (CH1.out.setCell (p := ⟨w.heap.size + 1, 3, none⟩) (by simp) (.int .i64 x.Least))
  have HB := Lib.hid (HB.out.setCell (p := ⟨w.heap.size + 1, 4, none⟩) (by show w.heap.size ≤ w.heap.size + 1; omega) (.int .i64 x.Most))
  have CH1 := Lib.hid (CH1.out.setCell (p := ⟨w.heap.size + 1, 4, none⟩) (by simp) (.int .i64 x.Most))
  refine bodyPost_ret (v := .agg #[.slice P1 p1 q1, .int .i64 x.Sum, .int .i64 x.Count, .int .i64 x.Least, .int .i64 x.Most]) (by simp [results, Try.results50, go_sem, r1_0, r1_1, r1_2, r1_3, r1_4]) rfl ⟨[.slice P1 p1 q1, .int .i64 x.Sum, .int .i64 x.Count, .int .i64 x.Least, .int .i64 x.Most], _, rfl, rTotal_own_mk (OS1.out.1.okeep fun b hb => CH1.out.block b (CS1.out b hb) (by simp; exact ⟨(OS1.out.2.2.1 b hb).1, (OS1.out.2.2.1 b hb).2⟩)) HS.out.1 HS.out.2.1 HS.out.2.2.1 HS.out.2.2.2, ?_, ?_, HB.out⟩
  · exact OS1.out.2.1
  · intro b hb
    exact HF1.out b hb
theorem toTotal_at (x : Total) (cs : List Value) (w : World) (B : Nat) (h : rTotal.at_ w B x cs) (hB : B ≤ w.heap.size) (hsz : Pl.szTotal x ≤ 1048576) :
    Calls Try.prog 50 #[.agg cs.toArray] w (Mm.NewAg rTotal w x) := by
  obtain ⟨A, n, c, rfl, g0, g1, g2, g3, g4⟩ := rTotal_at h
  exact toTotal_c x _ _ _ _ B g0 g1 g2 g3 g4 hB hsz
theorem Try.info_Total : (Try.prog.info? 50).map (fun i => (i.zero, i.size, i.bytes)) = some (some (.agg #[.slice none 0 0, .int .i64 0, .int .i64 0, .int .i64 0, .int .i64 0]), 5, 56) := by kernel_rfl
set_option maxHeartbeats 1000000 in
theorem toTotalS_c (l : List Total) (A : Option Addr) (n c : Nat) (w : World) (B : Nat) (hl : Mm.SlAt rTotal w B l A n c) (hB : B ≤ w.heap.size) (hsz : Pl.szl Pl.szTotal l ≤ 1048576) :
    Calls Try.prog 11 #[.slice A n c] w (Mm.NewSl rTotal 50 w l) := by
  have hlen : Hid (l.length = n) := hl.1
  have HL := Lib.hid hl
  have HN : Hid (∀ x : Total, 0 ≤ Pl.szTotal x) := Pl.szTotal_nn
  have HSZ := Lib.hid hsz
  have hn : n ≤ 1048576 := by have := Pl.szl_len HN.out l; have := hlen.out; omega
  clear hl hsz
  obtain ⟨i0, hi, hz0, hz1, hz2⟩ := info_parts Try.info_Total
  go_enter Try.func11, Try.ntmps11
  go_wp2_with (at_make; refine wpList_make_full _ rfl _ _ 27 rfl 0 50 i0 _ 5 Try.underlying27 hi hz0 hz1 _ _ _ _ n rfl rfl rfl rfl (by rw [hz2]; omega) (by unfold maxLen; omega) (Nat.zero_le _) ?_; intro w1 hown hgrow)
  go_loopw [4] (fun i wr => ∃ k : Nat, k ≤ n ∧ i = .int .i64 k ∧ Mm.Filled rTotal 50 w l ⟨[], 0, 0, 0, 0⟩ n k wr) (fun i _ => n - (intOf i).toNat)
  case atStart => exact ⟨0, Nat.zero_le _, rfl, Mm.Filled.start (zv := .agg #[.slice none 0 0, .int .i64 0, .int .i64 0, .int .i64 0, .int .i64 0]) hlen.out hown hgrow (rTotal_own_mk (x := ⟨[], 0, 0, 0, 0⟩) Mm.SlOwn.nil (by unfold Mm.I64; simp) (by unfold Mm.I64; simp) (by unfold Mm.I64; simp) (by unfold Mm.I64; simp)) (by decide)⟩
  case round =>
    obtain ⟨k, hk, rfl, hfil⟩ := hrel
    rename_i wr _
    have HF : Hid (Mm.Filled rTotal 50 w l ⟨[], 0, 0, 0, 0⟩ n k wr) := hfil
    clear hfil hown hgrow
    by_cases hlt : k < n
    · obtain ⟨x, b, off, A, n, c, hx, rfl, hb, f0, f1, f2, f3, f4, d0, d1, d2, d3, d4⟩ := rTotal_get (HL.out.keep (w' := wr) (fun b hb => HF.out.below.block b (by omega))) hlt
      have hBw : B ≤ wr.heap.size := Nat.le_trans hB HF.out.below.size
      have hxs := Pl.szl_mem HN.out (List.mem_of_getElem? hx)
      have HX := Lib.hid (And.intro hx (And.intro hxs (And.intro f0 (And.intro f1 (And.intro f2 (And.intro f3 f4))))))
      have hw := HF.out.lt
      clear hx hxs f0 f1 f2 f3 f4
      go_wp2_with fail
      refine (toTotal_c x _ _ _ _ B HX.out.2.2.1 HX.out.2.2.2.1 HX.out.2.2.2.2.1 HX.out.2.2.2.2.2.1 HX.out.2.2.2.2.2.2 hBw (by have h1 := HX.out.2.1; have h2 := HSZ.out; omega)).mono ?_
      rintro e w2 ⟨cs2, fp2, rfl, ho2, hnd2, hf2, hb2⟩
      have HO := Lib.hid (And.intro ho2 (And.intro hnd2 (And.intro hf2 hb2)))
      obtain ⟨A2, n2, c2, _, rfl, _⟩ := rTotal_own ho2
      have HK := Lib.hid (HF.out.keep hb2)
      clear ho2 hnd2 hf2 hb2
      obtain ⟨u0, t0⟩ := HK.out.cell hlt (j := 0) (by decide)
      have d0' : w2.cell? ⟨w.heap.size, k * 5, none⟩ = some u0 := t0
      have z0 := HK.out.frozen (k * 5)
      clear t0
      obtain ⟨u1, t1⟩ := HK.out.cell hlt (j := 1) (by decide)
      have d1' : w2.cell? ⟨w.heap.size, k * 5 + 1, none⟩ = some u1 := t1
      have z1 := HK.out.frozen (k * 5 + 1)
      clear t1
      obtain ⟨u2, t2⟩ := HK.out.cell hlt (j := 2) (by decide)
      have d2' : w2.cell? ⟨w.heap.size, k * 5 + 2, none⟩ = some u2 := t2
      have z2 := HK.out.frozen (k * 5 + 2)
      clear t2
      obtain ⟨u3, t3⟩ := HK.out.cell hlt (j := 3) (by decide)
      have d3' : w2.cell? ⟨w.heap.size, k * 5 + 3, none⟩ = some u3 := t3
      have z3 := HK.out.frozen (k * 5 + 3)
      clear t3
      obtain ⟨u4, t4⟩ := HK.out.cell hlt (j := 4) (by decide)
      have d4' : w2.cell? ⟨w.heap.size, k * 5 + 4, none⟩ = some u4 := t4
      have z4 := HK.out.frozen (k * 5 + 4)
      clear t4
      go_wp2
      go_roundw
      case rel => exact ⟨k + 1, by omega, by go_num, HF.out.step hlt HX.out.1 HO.out.2.2.2 (cs := [.slice A2 n2 c2, .int .i64 x.Sum, .int .i64 x.Count, .int .i64 x.Least, .int .i64 x.Most]) HO.out.1 HO.out.2.1 HO.out.2.2.1⟩
      case measure => simp [intOf]; omega
    · go_wp2
      go_ret
      exact HF.out.done (by omega)
end Go.Proofs.Ytnppcdiicnofpaa
