/-
  Joined texts, in build order: Ht, Mt, Hm, Hn, Hh, Os. Each part says what it proves; no conditions beyond those that a part names.
-/
import Derived.Test.YtaepohocabealaaZ01
import Derived.Test.YtaepohocabealaaZ02
import Derived.Test.YtaepohocabealaaZ03
import Derived.Test.YtaepohocabealaaZ04
import Derived.Test.YtaepohocabealaaZ05
import Derived.Test.YtaepohocabealaaZ06
import Derived.Test.YtaepohocabealaaZ07
import Derived.Lib.Hide
import Derived.Deep.DeepFit
import Derived.Test.YtaepohocabealaaRows
import Derived.WalkLawsBesides
import Derived.WalkSpells
import Derived.Outline
import Derived.Laws.IdiomStrings
import Derived.Laws.Concat
/-
  The laws' own copies of arguments. No conditions.
-/
namespace Go.Proofs.Ytaepohocabealaa
open Go.RowKit
attribute [local go_sem] und_cell
theorem Try.info_Int : (Try.prog.info? 3).map (fun i => (i.zero, i.size, i.bytes)) = some (some (.int .i64 0), 1, 8) := by kernel_rfl
set_option maxHeartbeats 1000000 in
theorem toIntS_c (l : List Int) (A : Option Addr) (n c : Nat) (w : World) (B : Nat) (hl : Mm.SlAt Mm.int w B l A n c) (hB : B ≤ w.heap.size) (hsz : Pl.szl Pl.sz0 l ≤ 1048576) :
    Calls Try.prog 83 #[.slice A n c] w (Mm.NewSl Mm.int 3 w l) := by
  have hlen : Hid (l.length = n) := hl.1
  have HL := Lib.hid hl
  have HN : Hid (∀ x : Int, 0 ≤ Pl.sz0 x) := Pl.sz0_nn
  have HSZ := Lib.hid hsz
  have hn : n ≤ 1048576 := by have := Pl.szl_len HN.out l; have := hlen.out; omega
  clear hl hsz
  obtain ⟨i0, hi, hz0, hz1, hz2⟩ := info_parts Try.info_Int
  go_enter Try.func83, Try.ntmps83
  go_wp2_with (at_make; refine wpList_make_full _ rfl _ _ 27 rfl 0 3 i0 _ 1 Try.underlying27 hi hz0 hz1 _ _ _ _ n rfl rfl rfl rfl (by rw [hz2]; omega) (by unfold maxLen; omega) (Nat.zero_le _) ?_; intro w1 hown hgrow)
  go_loopw [4] (fun i wr => ∃ k : Nat, k ≤ n ∧ i = .int .i64 k ∧ Mm.Filled Mm.int 3 w l 0 n k wr) (fun i _ => n - (intOf i).toNat)
  case atStart => exact ⟨0, Nat.zero_le _, rfl, Mm.Filled.start (zv := .int .i64 0) hlen.out hown hgrow ⟨rfl, (by unfold Mm.I64; simp), rfl⟩ (by decide)⟩
  case round =>
    obtain ⟨k, hk, rfl, hfil⟩ := hrel
    rename_i wr _
    have HF : Hid (Mm.Filled Mm.int 3 w l 0 n k wr) := hfil
    clear hfil hown hgrow
    by_cases hlt : k < n
    · obtain ⟨x, b, off, hx, rfl, hb, f0, d0⟩ := int_get (HL.out.keep (w' := wr) (fun b hb => HF.out.below.block b (by omega))) hlt
      have hBw : B ≤ wr.heap.size := Nat.le_trans hB HF.out.below.size
      have hxs := Pl.szl_mem HN.out (List.mem_of_getElem? hx)
      have HX := Lib.hid (And.intro hx (And.intro hxs f0))
      have hw := HF.out.lt
      clear hx hxs f0
      obtain ⟨u0, t0⟩ := HF.out.cell hlt (j := 0) (by decide)
      have d0' : wr.cell? ⟨w.heap.size, k, none⟩ = some u0 := by have e0 : k * (Mm.int).size + 0 = k := (by show k * 1 + 0 = k; omega); rwa [e0] at t0
      have z0 := HF.out.frozen (k)
      clear t0
      go_wp2
      go_roundw
      case rel => exact ⟨k + 1, by omega, by go_num, by have e0 : k * (Mm.int).size = k := (by show k * 1 = k; omega); have hst := HF.out.step hlt HX.out.1 (Below.refl _ _) (cs := [.int .i64 x]) (show (Mm.int).own _ x _ [] from ⟨rfl, HX.out.2.2, rfl⟩) List.nodup_nil (fun b hb => by cases hb); rwa [e0] at hst⟩
      case measure => simp [intOf]; omega
    · go_wp2
      go_ret
      exact HF.out.done (by omega)
theorem Try.info_String : (Try.prog.info? 9).map (fun i => (i.zero, i.size, i.bytes)) = some (some (.string ⟨#[]⟩), 1, 16) := by kernel_rfl
set_option maxHeartbeats 1000000 in
theorem toStringS_c (l : List ByteArray) (A : Option Addr) (n c : Nat) (w : World) (B : Nat) (hl : Mm.SlAt Mm.str w B l A n c) (hB : B ≤ w.heap.size) (hsz : Pl.szl Pl.szStr l ≤ 1048576) :
    Calls Try.prog 111 #[.slice A n c] w (Mm.NewSl Mm.str 9 w l) := by
  have hlen : Hid (l.length = n) := hl.1
  have HL := Lib.hid hl
  have HN : Hid (∀ x : ByteArray, 0 ≤ Pl.szStr x) := Pl.szStr_nn
  have HSZ := Lib.hid hsz
  have hn : n ≤ 1048576 := by have := Pl.szl_len HN.out l; have := hlen.out; omega
  clear hl hsz
  obtain ⟨i0, hi, hz0, hz1, hz2⟩ := info_parts Try.info_String
  go_enter Try.func111, Try.ntmps111
  go_wp2_with (at_make; refine wpList_make_full _ rfl _ _ 40 rfl 0 9 i0 _ 1 Try.underlying40 hi hz0 hz1 _ _ _ _ n rfl rfl rfl rfl (by rw [hz2]; omega) (by unfold maxLen; omega) (Nat.zero_le _) ?_; intro w1 hown hgrow)
  go_loopw [4] (fun i wr => ∃ k : Nat, k ≤ n ∧ i = .int .i64 k ∧ Mm.Filled Mm.str 9 w l ⟨#[]⟩ n k wr) (fun i _ => n - (intOf i).toNat)
  case atStart => exact ⟨0, Nat.zero_le _, rfl, Mm.Filled.start (zv := .string ⟨#[]⟩) hlen.out hown hgrow ⟨rfl, (by show 0 ≤ _; exact Nat.zero_le _), rfl⟩ (by decide)⟩
  case round =>
    obtain ⟨k, hk, rfl, hfil⟩ := hrel
    rename_i wr _
    have HF : Hid (Mm.Filled Mm.str 9 w l ⟨#[]⟩ n k wr) := hfil
    clear hfil hown hgrow
    by_cases hlt : k < n
    · obtain ⟨x, b, off, hx, rfl, hb, f0, d0⟩ := str_get (HL.out.keep (w' := wr) (fun b hb => HF.out.below.block b (by omega))) hlt
      have hBw : B ≤ wr.heap.size := Nat.le_trans hB HF.out.below.size
      have hxs := Pl.szl_mem HN.out (List.mem_of_getElem? hx)
      have HX := Lib.hid (And.intro hx (And.intro hxs f0))
      have hw := HF.out.lt
      clear hx hxs f0
      obtain ⟨u0, t0⟩ := HF.out.cell hlt (j := 0) (by decide)
      have d0' : wr.cell? ⟨w.heap.size, k, none⟩ = some u0 := by have e0 : k * (Mm.str).size + 0 = k := (by show k * 1 + 0 = k; omega); rwa [e0] at t0
      have z0 := HF.out.frozen (k)
      clear t0
      go_wp2
      go_roundw
      case rel => exact ⟨k + 1, by omega, by go_num, by have e0 : k * (Mm.str).size = k := (by show k * 1 = k; omega); have hst := HF.out.step hlt HX.out.1 (Below.refl _ _) (cs := [.string x]) (show (Mm.str).own _ x _ [] from ⟨rfl, HX.out.2.2, rfl⟩) List.nodup_nil (fun b hb => by cases hb); rwa [e0] at hst⟩
      case measure => simp [intOf]; omega
    · go_wp2
      go_ret
      exact HF.out.done (by omega)
theorem Try.info_StringS : (Try.prog.info? 40).map (fun i => (i.zero, i.size, i.bytes)) = some (some (.slice none 0 0), 1, 24) := by kernel_rfl
set_option maxHeartbeats 1000000 in
theorem toStringSS_c (l : List (List ByteArray)) (A : Option Addr) (n c : Nat) (w : World) (B : Nat) (hl : Mm.SlAt strs w B l A n c) (hB : B ≤ w.heap.size) (hsz : Pl.szl (Pl.szl Pl.szStr) l ≤ 1048576) :
    Calls Try.prog 82 #[.slice A n c] w (Mm.NewSl strs 40 w l) := by
  have hlen : Hid (l.length = n) := hl.1
  have HL := Lib.hid hl
  have HN : Hid (∀ x : (List ByteArray), 0 ≤ (Pl.szl Pl.szStr) x) := Pl.szl_nn (f := Pl.szStr) (Pl.szStr_nn)
  have HSZ := Lib.hid hsz
  have hn : n ≤ 1048576 := by have := Pl.szl_len HN.out l; have := hlen.out; omega
  clear hl hsz
  obtain ⟨i0, hi, hz0, hz1, hz2⟩ := info_parts Try.info_StringS
  go_enter Try.func82, Try.ntmps82
  go_wp2_with (at_make; refine wpList_make_full _ rfl _ _ 26 rfl 0 40 i0 _ 1 Try.underlying26 hi hz0 hz1 _ _ _ _ n rfl rfl rfl rfl (by rw [hz2]; omega) (by unfold maxLen; omega) (Nat.zero_le _) ?_; intro w1 hown hgrow)
  go_loopw [4] (fun i wr => ∃ k : Nat, k ≤ n ∧ i = .int .i64 k ∧ Mm.Filled strs 40 w l [] n k wr) (fun i _ => n - (intOf i).toNat)
  case atStart => exact ⟨0, Nat.zero_le _, rfl, Mm.Filled.start (zv := .slice none 0 0) hlen.out hown hgrow ⟨_, rfl, Mm.SlOwn.nil⟩ (by decide)⟩
  case round =>
    obtain ⟨k, hk, rfl, hfil⟩ := hrel
    rename_i wr _
    have HF : Hid (Mm.Filled strs 40 w l [] n k wr) := hfil
    clear hfil hown hgrow
    by_cases hlt : k < n
    · obtain ⟨x, b, off, P, p, q, hx, rfl, hb, f0, d0⟩ := strs_get (HL.out.keep (w' := wr) (fun b hb => HF.out.below.block b (by omega))) hlt
      have hBw : B ≤ wr.heap.size := Nat.le_trans hB HF.out.below.size
      have hxs := Pl.szl_mem HN.out (List.mem_of_getElem? hx)
      have HX := Lib.hid (And.intro hx (And.intro hxs f0))
      have hw := HF.out.lt
      clear hx hxs f0
      go_wp2_with fail
      refine (toStringS_c x _ _ _ _ B HX.out.2.2 hBw (by have h1 := HX.out.2.1; have h2 := HSZ.out; omega)).mono ?_
      rintro e w2 ⟨P2, p2, q2, fp2, rfl, ho2, hnd2, hf2, hb2⟩
      have HK := Lib.hid (HF.out.keep hb2)
      have HO := Lib.hid (And.intro ho2 (And.intro hnd2 (And.intro hf2 hb2)))
      clear ho2 hnd2 hf2 hb2
      obtain ⟨u0, t0⟩ := HK.out.cell hlt (j := 0) (by decide)
      have d0' : w2.cell? ⟨w.heap.size, k, none⟩ = some u0 := by have e0 : k * (strs).size + 0 = k := (by show k * 1 + 0 = k; omega); rwa [e0] at t0
      have z0 := HK.out.frozen (k)
      clear t0
      go_wp2
      go_roundw
      case rel => exact ⟨k + 1, by omega, by go_num, by have e0 : k * (strs).size = k := (by show k * 1 = k; omega); have hst := HF.out.step hlt HX.out.1 HO.out.2.2.2 (cs := [.slice P2 p2 q2]) ⟨_, rfl, HO.out.1⟩ HO.out.2.1 HO.out.2.2.1; rwa [e0] at hst⟩
      case measure => simp [intOf]; omega
    · go_wp2
      go_ret
      exact HF.out.done (by omega)
theorem toTold_c (x : Told) (w : World) :
    Calls Try.prog 113 #[.agg #[.int .i64 x.Who, .int .i64 x.No, .string x.Text]] w fun e w' => e = .returned (.agg #[.int .i64 x.Who, .int .i64 x.No, .string x.Text]) ∧ Below w.heap.size w w' := by
  go_enter Try.func113, Try.ntmps113
  go_wp2
  exact bodyPost_ret (v := .agg #[.int .i64 x.Who, .int .i64 x.No, .string x.Text]) (by simp [results, Try.results113, go_sem]) rfl ⟨rfl, below_new (below_new (below_new (Below.refl _ _) _) _) _⟩
theorem Try.info_Told : (Try.prog.info? 52).map (fun i => (i.zero, i.size, i.bytes)) = some (some (.agg #[.int .i64 0, .int .i64 0, .string ⟨#[]⟩]), 3, 32) := by kernel_rfl
set_option maxHeartbeats 1000000 in
theorem toToldS_c (l : List Told) (A : Option Addr) (n c : Nat) (w : World) (B : Nat) (hl : Mm.SlAt rTold w B l A n c) (hB : B ≤ w.heap.size) (hsz : Pl.szl Pl.szTold l ≤ 1048576) :
    Calls Try.prog 85 #[.slice A n c] w (Mm.NewSl rTold 52 w l) := by
  have hlen : Hid (l.length = n) := hl.1
  have HL := Lib.hid hl
  have HN : Hid (∀ x : Told, 0 ≤ Pl.szTold x) := Pl.szTold_nn
  have HSZ := Lib.hid hsz
  have hn : n ≤ 1048576 := by have := Pl.szl_len HN.out l; have := hlen.out; omega
  clear hl hsz
  obtain ⟨i0, hi, hz0, hz1, hz2⟩ := info_parts Try.info_Told
  go_enter Try.func85, Try.ntmps85
  go_wp2_with (at_make; refine wpList_make_full _ rfl _ _ 29 rfl 0 52 i0 _ 3 Try.underlying29 hi hz0 hz1 _ _ _ _ n rfl rfl rfl rfl (by rw [hz2]; omega) (by unfold maxLen; omega) (Nat.zero_le _) ?_; intro w1 hown hgrow)
  go_loopw [4] (fun i wr => ∃ k : Nat, k ≤ n ∧ i = .int .i64 k ∧ Mm.Filled rTold 52 w l ⟨0, 0, ⟨#[]⟩⟩ n k wr) (fun i _ => n - (intOf i).toNat)
  case atStart => exact ⟨0, Nat.zero_le _, rfl, Mm.Filled.start (zv := .agg #[.int .i64 0, .int .i64 0, .string ⟨#[]⟩]) hlen.out hown hgrow ⟨rfl, ⟨(by unfold Mm.I64; simp), (by unfold Mm.I64; simp), (by show 0 ≤ _; exact Nat.zero_le _)⟩, rfl⟩ (by decide)⟩
  case round =>
    obtain ⟨k, hk, rfl, hfil⟩ := hrel
    rename_i wr _
    have HF : Hid (Mm.Filled rTold 52 w l ⟨0, 0, ⟨#[]⟩⟩ n k wr) := hfil
    clear hfil hown hgrow
    by_cases hlt : k < n
    · obtain ⟨x, b, off, hx, rfl, hb, f0, f1, f2, d0, d1, d2⟩ := rTold_get (HL.out.keep (w' := wr) (fun b hb => HF.out.below.block b (by omega))) hlt
      have hBw : B ≤ wr.heap.size := Nat.le_trans hB HF.out.below.size
      have hxs := Pl.szl_mem HN.out (List.mem_of_getElem? hx)
      have HX := Lib.hid (And.intro hx (And.intro hxs (And.intro f0 (And.intro f1 f2))))
      have hw := HF.out.lt
      clear hx hxs f0 f1 f2
      go_wp2_with fail
      refine (toTold_c x _).mono ?_
      rintro e w2 ⟨rfl, hb2⟩
      have HK := Lib.hid (HF.out.keep hb2)
      obtain ⟨u0, t0⟩ := HK.out.cell hlt (j := 0) (by decide)
      have d0' : w2.cell? ⟨w.heap.size, k * 3, none⟩ = some u0 := t0
      have z0 := HK.out.frozen (k * 3)
      clear t0
      obtain ⟨u1, t1⟩ := HK.out.cell hlt (j := 1) (by decide)
      have d1' : w2.cell? ⟨w.heap.size, k * 3 + 1, none⟩ = some u1 := t1
      have z1 := HK.out.frozen (k * 3 + 1)
      clear t1
      obtain ⟨u2, t2⟩ := HK.out.cell hlt (j := 2) (by decide)
      have d2' : w2.cell? ⟨w.heap.size, k * 3 + 2, none⟩ = some u2 := t2
      have z2 := HK.out.frozen (k * 3 + 2)
      clear t2
      go_wp2
      go_roundw
      case rel => exact ⟨k + 1, by omega, by go_num, HF.out.step hlt HX.out.1 hb2 (cs := [.int .i64 x.Who, .int .i64 x.No, .string x.Text]) (fx := []) ⟨rfl, ⟨HX.out.2.2.1, HX.out.2.2.2.1, HX.out.2.2.2.2⟩, rfl⟩ List.nodup_nil (fun b hb => by cases hb)⟩
      case measure => simp [intOf]; omega
    · go_wp2
      go_ret
      exact HF.out.done (by omega)
theorem toNote_c (x : Note) (w : World) :
    Calls Try.prog 112 #[.agg #[.bool x.Back, .int .i64 x.What.Who, .int .i64 x.What.No, .string x.What.Text]] w fun e w' => e = .returned (.agg #[.bool x.Back, .int .i64 x.What.Who, .int .i64 x.What.No, .string x.What.Text]) ∧ Below w.heap.size w w' := by
  have KA := Lib.hid (((Mm.Blk.new w 134 [.bool x.Back, .int .i64 x.What.Who, .int .i64 x.What.No, .string x.What.Text]).alloc (.cells #[.bool false, .int .i64 0, .int .i64 0, .string ⟨#[]⟩] 94)).alloc (.cells #[.bool x.Back, .int .i64 0, .int .i64 0, .string ⟨#[]⟩] 94))
  have KR := Lib.hid ((Mm.Blk.new' (w.alloc (.cells #[.bool x.Back, .int .i64 x.What.Who, .int .i64 x.What.No, .string x.What.Text] 134)) 94 [.bool false, .int .i64 0, .int .i64 0, .string ⟨#[]⟩] (Mm.sz1 _ _)).alloc (.cells #[.bool x.Back, .int .i64 0, .int .i64 0, .string ⟨#[]⟩] 94))
  have KO := Lib.hid (Mm.Blk.new' ((w.alloc (.cells #[.bool x.Back, .int .i64 x.What.Who, .int .i64 x.What.No, .string x.What.Text] 134)).alloc (.cells #[.bool false, .int .i64 0, .int .i64 0, .string ⟨#[]⟩] 94)) 94 [.bool x.Back, .int .i64 0, .int .i64 0, .string ⟨#[]⟩] (Mm.sz2 _ _ _))
  have hb0 : Below w.heap.size w (((w.alloc (.cells #[.bool x.Back, .int .i64 x.What.Who, .int .i64 x.What.No, .string x.What.Text] 134)).alloc (.cells #[.bool false, .int .i64 0, .int .i64 0, .string ⟨#[]⟩] 94)).alloc (.cells #[.bool x.Back, .int .i64 0, .int .i64 0, .string ⟨#[]⟩] 94)) := below_new (below_new (below_new (Below.refl _ _) _) _) _
  have HB := Lib.hid hb0
  have hlt0 := KO.out.lt
  clear hb0
  go_enter Try.func112, Try.ntmps112
  go_wp2_with fail
  refine (toTold_c x.What _).mono ?_
  rintro e w1 ⟨rfl, hb1⟩
  have KA := Lib.hid (KA.out.bel hb1)
  have KR := Lib.hid (KR.out.bel hb1)
  have KO := Lib.hid (KO.out.bel hb1)
  have HB := Lib.hid (below_step HB.out hb1)
  have o1_0 := KO.out.cell (i := 0) rfl
  have r1_0 := KR.out.cell (i := 0) rfl
  have x1_0 := KO.out.frozen 0
  have y1_0 := KR.out.frozen 0
  have o1_1 := KO.out.cell (i := 1) rfl
  have r1_1 := KR.out.cell (i := 1) rfl
  have x1_1 := KO.out.frozen 1
  have y1_1 := KR.out.frozen 1
  have o1_2 := KO.out.cell (i := 2) rfl
  have r1_2 := KR.out.cell (i := 2) rfl
  have x1_2 := KO.out.frozen 2
  have y1_2 := KR.out.frozen 2
  have o1_3 := KO.out.cell (i := 3) rfl
  have r1_3 := KR.out.cell (i := 3) rfl
  have x1_3 := KO.out.frozen 3
  have y1_3 := KR.out.frozen 3
  clear hb1
  have KA := Lib.hid (KA.out.far (p := ⟨w.heap.size + 2, 1, none⟩) (by show w.heap.size ≠ w.heap.size + 2; omega) (.int .i64 x.What.Who))
  have KR := Lib.hid (KR.out.far (p := ⟨w.heap.size + 2, 1, none⟩) (by show w.heap.size + 1 ≠ w.heap.size + 2; omega) (.int .i64 x.What.Who))
  have KO := Lib.hid (KO.out.set_ 1 (.int .i64 x.What.Who))
  have HB := Lib.hid (HB.out.setCell (p := ⟨w.heap.size + 2, 1, none⟩) (by show w.heap.size ≤ w.heap.size + 2; omega) (.int .i64 x.What.Who))
  have KA := Lib.hid (KA.out.far (p := ⟨w.heap.size + 2, 2, none⟩) (by show w.heap.size ≠ w.heap.size + 2; omega) (.int .i64 x.What.No))
  have KR := Lib.hid (KR.out.far (p := ⟨w.heap.size + 2, 2, none⟩) (by show w.heap.size + 1 ≠ w.heap.size + 2; omega) (.int .i64 x.What.No))
  have KO := Lib.hid (KO.out.set_ 2 (.int .i64 x.What.No))
  have HB := Lib.hid (HB.out.setCell (p := ⟨w.heap.size + 2, 2, none⟩) (by show w.heap.size ≤ w.heap.size + 2; omega) (.int .i64 x.What.No))
  have KA := Lib.hid (KA.out.far (p := ⟨w.heap.size + 2, 3, none⟩) (by show w.heap.size ≠ w.heap.size + 2; omega) (.string x.What.Text))
  have KR := Lib.hid (KR.out.far (p := ⟨w.heap.size + 2, 3, none⟩) (by show w.heap.size + 1 ≠ w.heap.size + 2; omega) (.string x.What.Text))
  have KO := Lib.hid (KO.out.set_ 3 (.string x.What.Text))
  have HB := Lib.hid (HB.out.setCell (p := ⟨w.heap.size + 2, 3, none⟩) (by show w.heap.size ≤ w.heap.size + 2; omega) (.string x.What.Text))
  go_wp2
  have HB := Lib.hid (HB.out.setCell (p := ⟨w.heap.size + 1, 0, none⟩) (by show w.heap.size ≤ w.heap.size + 1; omega) (.bool x.Back))
  have HB := Lib.hid (HB.out.setCell (p := ⟨w.heap.size + 1, 1, none⟩) (by show w.heap.size ≤ w.heap.size + 1; omega) (.int .i64 x.What.Who))
  have HB := Lib.hid (HB.out.setCell (p := ⟨w.heap.size + 1, 2, none⟩) (by show w.heap.size ≤ w.heap.size + 1; omega) (.int .i64 x.What.No))
  have HB := Lib.hid (HB.out.setCell (p := ⟨w.heap.size + 1, 3, none⟩) (by show w.heap.size ≤ w.heap.size + 1; omega) (.string x.What.Text))
  exact bodyPost_ret (v := .agg #[.bool x.Back, .int .i64 x.What.Who, .int .i64 x.What.No, .string x.What.Text]) (by simp [results, Try.results112, go_sem, r1_0, r1_1, r1_2, r1_3]) rfl ⟨rfl, HB.out⟩
theorem Try.info_Note : (Try.prog.info? 94).map (fun i => (i.zero, i.size, i.bytes)) = some (some (.agg #[.bool false, .int .i64 0, .int .i64 0, .string ⟨#[]⟩]), 4, 40) := by kernel_rfl
set_option maxHeartbeats 1000000 in
theorem toNoteS_c (l : List Note) (A : Option Addr) (n c : Nat) (w : World) (B : Nat) (hl : Mm.SlAt rNote w B l A n c) (hB : B ≤ w.heap.size) (hsz : Pl.szl Pl.szNote l ≤ 1048576) :
    Calls Try.prog 84 #[.slice A n c] w (Mm.NewSl rNote 94 w l) := by
  have hlen : Hid (l.length = n) := hl.1
  have HL := Lib.hid hl
  have HN : Hid (∀ x : Note, 0 ≤ Pl.szNote x) := Pl.szNote_nn
  have HSZ := Lib.hid hsz
  have hn : n ≤ 1048576 := by have := Pl.szl_len HN.out l; have := hlen.out; omega
  clear hl hsz
  obtain ⟨i0, hi, hz0, hz1, hz2⟩ := info_parts Try.info_Note
  go_enter Try.func84, Try.ntmps84
  go_wp2_with (at_make; refine wpList_make_full _ rfl _ _ 28 rfl 0 94 i0 _ 4 Try.underlying28 hi hz0 hz1 _ _ _ _ n rfl rfl rfl rfl (by rw [hz2]; omega) (by unfold maxLen; omega) (Nat.zero_le _) ?_; intro w1 hown hgrow)
  go_loopw [4] (fun i wr => ∃ k : Nat, k ≤ n ∧ i = .int .i64 k ∧ Mm.Filled rNote 94 w l ⟨false, ⟨0, 0, ⟨#[]⟩⟩⟩ n k wr) (fun i _ => n - (intOf i).toNat)
  case atStart => exact ⟨0, Nat.zero_le _, rfl, Mm.Filled.start (zv := .agg #[.bool false, .int .i64 0, .int .i64 0, .string ⟨#[]⟩]) hlen.out hown hgrow ⟨rfl, ⟨(by unfold Mm.I64; simp), (by unfold Mm.I64; simp), (by show 0 ≤ _; exact Nat.zero_le _)⟩, rfl⟩ (by decide)⟩
  case round =>
    obtain ⟨k, hk, rfl, hfil⟩ := hrel
    rename_i wr _
    have HF : Hid (Mm.Filled rNote 94 w l ⟨false, ⟨0, 0, ⟨#[]⟩⟩⟩ n k wr) := hfil
    clear hfil hown hgrow
    by_cases hlt : k < n
    · obtain ⟨x, b, off, hx, rfl, hb, f0, f1, f2, d0, d1, d2, d3⟩ := rNote_get (HL.out.keep (w' := wr) (fun b hb => HF.out.below.block b (by omega))) hlt
      have hBw : B ≤ wr.heap.size := Nat.le_trans hB HF.out.below.size
      have hxs := Pl.szl_mem HN.out (List.mem_of_getElem? hx)
      have HX := Lib.hid (And.intro hx (And.intro hxs (And.intro f0 (And.intro f1 f2))))
      have hw := HF.out.lt
      clear hx hxs f0 f1 f2
      go_wp2_with fail
      refine (toNote_c x _).mono ?_
      rintro e w2 ⟨rfl, hb2⟩
      have HK := Lib.hid (HF.out.keep hb2)
      obtain ⟨u0, t0⟩ := HK.out.cell hlt (j := 0) (by decide)
      have d0' : w2.cell? ⟨w.heap.size, k * 4, none⟩ = some u0 := t0
      have z0 := HK.out.frozen (k * 4)
      clear t0
      obtain ⟨u1, t1⟩ := HK.out.cell hlt (j := 1) (by decide)
      have d1' : w2.cell? ⟨w.heap.size, k * 4 + 1, none⟩ = some u1 := t1
      have z1 := HK.out.frozen (k * 4 + 1)
      clear t1
      obtain ⟨u2, t2⟩ := HK.out.cell hlt (j := 2) (by decide)
      have d2' : w2.cell? ⟨w.heap.size, k * 4 + 2, none⟩ = some u2 := t2
      have z2 := HK.out.frozen (k * 4 + 2)
      clear t2
      obtain ⟨u3, t3⟩ := HK.out.cell hlt (j := 3) (by decide)
      have d3' : w2.cell? ⟨w.heap.size, k * 4 + 3, none⟩ = some u3 := t3
      have z3 := HK.out.frozen (k * 4 + 3)
      clear t3
      go_wp2
      go_roundw
      case rel => exact ⟨k + 1, by omega, by go_num, HF.out.step hlt HX.out.1 hb2 (cs := [.bool x.Back, .int .i64 x.What.Who, .int .i64 x.What.No, .string x.What.Text]) (fx := []) ⟨rfl, ⟨HX.out.2.2.1, HX.out.2.2.2.1, HX.out.2.2.2.2⟩, rfl⟩ List.nodup_nil (fun b hb => by cases hb)⟩
      case measure => simp [intOf]; omega
    · go_wp2
      go_ret
      exact HF.out.done (by omega)
theorem toTellStep_c (x : TellStep) (w : World) :
    Calls Try.prog 44 #[.agg #[.int .i64 x.Kind, .int .i64 x.K, .string x.Text]] w fun e w' => e = .returned (.agg #[.int .i64 x.Kind, .int .i64 x.K, .string x.Text]) ∧ Below w.heap.size w w' := by
  go_enter Try.func44, Try.ntmps44
  go_wp2
  exact bodyPost_ret (v := .agg #[.int .i64 x.Kind, .int .i64 x.K, .string x.Text]) (by simp [results, Try.results44, go_sem]) rfl ⟨rfl, below_new (below_new (below_new (Below.refl _ _) _) _) _⟩
theorem Try.info_TellStep : (Try.prog.info? 46).map (fun i => (i.zero, i.size, i.bytes)) = some (some (.agg #[.int .i64 0, .int .i64 0, .string ⟨#[]⟩]), 3, 32) := by kernel_rfl
set_option maxHeartbeats 1000000 in
theorem toTellStepS_c (l : List TellStep) (A : Option Addr) (n c : Nat) (w : World) (B : Nat) (hl : Mm.SlAt rTellStep w B l A n c) (hB : B ≤ w.heap.size) (hsz : Pl.szl Pl.szTellStep l ≤ 1048576) :
    Calls Try.prog 32 #[.slice A n c] w (Mm.NewSl rTellStep 46 w l) := by
  have hlen : Hid (l.length = n) := hl.1
  have HL := Lib.hid hl
  have HN : Hid (∀ x : TellStep, 0 ≤ Pl.szTellStep x) := Pl.szTellStep_nn
  have HSZ := Lib.hid hsz
  have hn : n ≤ 1048576 := by have := Pl.szl_len HN.out l; have := hlen.out; omega
  clear hl hsz
  obtain ⟨i0, hi, hz0, hz1, hz2⟩ := info_parts Try.info_TellStep
  go_enter Try.func32, Try.ntmps32
  go_wp2_with (at_make; refine wpList_make_full _ rfl _ _ 23 rfl 0 46 i0 _ 3 Try.underlying23 hi hz0 hz1 _ _ _ _ n rfl rfl rfl rfl (by rw [hz2]; omega) (by unfold maxLen; omega) (Nat.zero_le _) ?_; intro w1 hown hgrow)
  go_loopw [4] (fun i wr => ∃ k : Nat, k ≤ n ∧ i = .int .i64 k ∧ Mm.Filled rTellStep 46 w l ⟨0, 0, ⟨#[]⟩⟩ n k wr) (fun i _ => n - (intOf i).toNat)
  case atStart => exact ⟨0, Nat.zero_le _, rfl, Mm.Filled.start (zv := .agg #[.int .i64 0, .int .i64 0, .string ⟨#[]⟩]) hlen.out hown hgrow ⟨rfl, ⟨(by unfold Mm.I64; simp), (by unfold Mm.I64; simp), (by show 0 ≤ _; exact Nat.zero_le _)⟩, rfl⟩ (by decide)⟩
  case round =>
    obtain ⟨k, hk, rfl, hfil⟩ := hrel
    rename_i wr _
    have HF : Hid (Mm.Filled rTellStep 46 w l ⟨0, 0, ⟨#[]⟩⟩ n k wr) := hfil
    clear hfil hown hgrow
    by_cases hlt : k < n
    · obtain ⟨x, b, off, hx, rfl, hb, f0, f1, f2, d0, d1, d2⟩ := rTellStep_get (HL.out.keep (w' := wr) (fun b hb => HF.out.below.block b (by omega))) hlt
      have hBw : B ≤ wr.heap.size := Nat.le_trans hB HF.out.below.size
      have hxs := Pl.szl_mem HN.out (List.mem_of_getElem? hx)
      have HX := Lib.hid (And.intro hx (And.intro hxs (And.intro f0 (And.intro f1 f2))))
      have hw := HF.out.lt
      clear hx hxs f0 f1 f2
      go_wp2_with fail
      refine (toTellStep_c x _).mono ?_
      rintro e w2 ⟨rfl, hb2⟩
      have HK := Lib.hid (HF.out.keep hb2)
      obtain ⟨u0, t0⟩ := HK.out.cell hlt (j := 0) (by decide)
      have d0' : w2.cell? ⟨w.heap.size, k * 3, none⟩ = some u0 := t0
      have z0 := HK.out.frozen (k * 3)
      clear t0
      obtain ⟨u1, t1⟩ := HK.out.cell hlt (j := 1) (by decide)
      have d1' : w2.cell? ⟨w.heap.size, k * 3 + 1, none⟩ = some u1 := t1
      have z1 := HK.out.frozen (k * 3 + 1)
      clear t1
      obtain ⟨u2, t2⟩ := HK.out.cell hlt (j := 2) (by decide)
      have d2' : w2.cell? ⟨w.heap.size, k * 3 + 2, none⟩ = some u2 := t2
      have z2 := HK.out.frozen (k * 3 + 2)
      clear t2
      go_wp2
      go_roundw
      case rel => exact ⟨k + 1, by omega, by go_num, HF.out.step hlt HX.out.1 hb2 (cs := [.int .i64 x.Kind, .int .i64 x.K, .string x.Text]) (fx := []) ⟨rfl, ⟨HX.out.2.2.1, HX.out.2.2.2.1, HX.out.2.2.2.2⟩, rfl⟩ List.nodup_nil (fun b hb => by cases hb)⟩
      case measure => simp [intOf]; omega
    · go_wp2
      go_ret
      exact HF.out.done (by omega)
set_option maxHeartbeats 2000000 in
theorem toTell_c (x : Tell) (A0 : Option Addr) (n0 c0 : Nat) (A1 : Option Addr) (n1 c1 : Nat) (A2 : Option Addr) (n2 c2 : Nat) (A3 : Option Addr) (n3 c3 : Nat) (A4 : Option Addr) (n4 c4 : Nat) (w : World) (B : Nat) (g0 : Mm.SlAt strs w B x.Texts A0 n0 c0) (g1 : Mm.SlAt Mm.int w B x.Heard A1 n1 c1) (g2 : Mm.SlAt rNote w B x.Line A2 n2 c2) (g3 : Mm.SlAt rTold w B x.Log A3 n3 c3) (g4 : Mm.SlAt Mm.int w B x.Next A4 n4 c4) (hB : B ≤ w.heap.size) (hsz : Pl.szTell x ≤ 1048576) :
    Calls Try.prog 42 #[.agg #[.slice A0 n0 c0, .slice A1 n1 c1, .slice A2 n2 c2, .slice A3 n3 c3, .slice A4 n4 c4]] w (Mm.NewAg rTell w x) := by
  have HG := Lib.hid (And.intro hB (And.intro g0 (And.intro g1 (And.intro g2 (And.intro g3 g4)))))
  have HSZ := Lib.hid hsz
  clear hsz g0 g1 g2 g3 g4
  have zn_Texts := Pl.szl_nn (f := (Pl.szl Pl.szStr)) (Pl.szl_nn (f := Pl.szStr) (Pl.szStr_nn)) x.Texts
  have zn_Heard := Pl.szl_nn (f := Pl.sz0) (Pl.sz0_nn) x.Heard
  have zn_Line := Pl.szl_nn (f := Pl.szNote) (Pl.szNote_nn) x.Line
  have zn_Log := Pl.szl_nn (f := Pl.szTold) (Pl.szTold_nn) x.Log
  have zn_Next := Pl.szl_nn (f := Pl.sz0) (Pl.sz0_nn) x.Next
  have hz : Pl.szTell x = (Pl.szl (Pl.szl Pl.szStr)) x.Texts + (Pl.szl Pl.sz0) x.Heard + (Pl.szl Pl.szNote) x.Line + (Pl.szl Pl.szTold) x.Log + (Pl.szl Pl.sz0) x.Next := rfl
  have HZ := Lib.hid hz
  clear hz
  have KA := Lib.hid (((Mm.Blk.new w 74 [.slice A0 n0 c0, .slice A1 n1 c1, .slice A2 n2 c2, .slice A3 n3 c3, .slice A4 n4 c4]).alloc (.cells #[.slice none 0 0, .slice none 0 0, .slice none 0 0, .slice none 0 0, .slice none 0 0] 31)).alloc (.cells #[.slice none 0 0, .slice none 0 0, .slice none 0 0, .slice none 0 0, .slice none 0 0] 31))
  have KR := Lib.hid ((Mm.Blk.new' (w.alloc (.cells #[.slice A0 n0 c0, .slice A1 n1 c1, .slice A2 n2 c2, .slice A3 n3 c3, .slice A4 n4 c4] 74)) 31 [.slice none 0 0, .slice none 0 0, .slice none 0 0, .slice none 0 0, .slice none 0 0] (Mm.sz1 _ _)).alloc (.cells #[.slice none 0 0, .slice none 0 0, .slice none 0 0, .slice none 0 0, .slice none 0 0] 31))
  have KO := Lib.hid (Mm.Blk.new' ((w.alloc (.cells #[.slice A0 n0 c0, .slice A1 n1 c1, .slice A2 n2 c2, .slice A3 n3 c3, .slice A4 n4 c4] 74)).alloc (.cells #[.slice none 0 0, .slice none 0 0, .slice none 0 0, .slice none 0 0, .slice none 0 0] 31)) 31 [.slice none 0 0, .slice none 0 0, .slice none 0 0, .slice none 0 0, .slice none 0 0] (Mm.sz2 _ _ _))
  have hb0 : Below w.heap.size w (((w.alloc (.cells #[.slice A0 n0 c0, .slice A1 n1 c1, .slice A2 n2 c2, .slice A3 n3 c3, .slice A4 n4 c4] 74)).alloc (.cells #[.slice none 0 0, .slice none 0 0, .slice none 0 0, .slice none 0 0, .slice none 0 0] 31)).alloc (.cells #[.slice none 0 0, .slice none 0 0, .slice none 0 0, .slice none 0 0, .slice none 0 0] 31)) := below_new (below_new (below_new (Below.refl _ _) _) _) _
  have HB := Lib.hid hb0
  have hlt0 := KO.out.lt
  clear hb0
  go_enter Try.func42, Try.ntmps42
  go_wp2_with fail
  refine (toStringSS_c x.Texts _ _ _ _ B (HG.out.2.1.keep fun b hb => HB.out.block b (Nat.lt_of_lt_of_le hb HG.out.1)) (Nat.le_trans HG.out.1 HB.out.size) (by have h1 := HZ.out; have h2 := HSZ.out; omega)).mono ?_
  rintro e w1 ⟨P1, p1, q1, fp1, rfl, ho1, hnd1, hf1, hb1⟩
  have hfb1 : ∀ b, b ∈ fp1 → b ≠ w.heap.size + 1 ∧ b ≠ w.heap.size + 2 := fun b hb => by have := hf1 b hb; have := KO.out.lt; have := KR.out.lt; omega
  have CS1 := Lib.hid ho1.olt
  have OS1 := Lib.hid (And.intro ho1 (And.intro hnd1 (And.intro hfb1 hf1)))
  have HF1 := Lib.hid (show ∀ b, b ∈ fp1 → w.heap.size ≤ b from fun b hb => Nat.le_trans HB.out.size (hf1 b hb))
  have KA := Lib.hid (KA.out.bel hb1)
  have KR := Lib.hid (KR.out.bel hb1)
  have KO := Lib.hid (KO.out.bel hb1)
  have HB := Lib.hid (below_step HB.out hb1)
  have CH1 := Lib.hid (Mm.Chg.refl [w.heap.size + 1, w.heap.size + 2] w1)
  have a1_1 := KA.out.cell (i := 1) rfl
  have a1_2 := KA.out.cell (i := 2) rfl
  have a1_3 := KA.out.cell (i := 3) rfl
  have a1_4 := KA.out.cell (i := 4) rfl
  have o1_0 := KO.out.cell (i := 0) rfl
  have r1_0 := KR.out.cell (i := 0) rfl
  have x1_0 := KO.out.frozen 0
  have y1_0 := KR.out.frozen 0
  have o1_1 := KO.out.cell (i := 1) rfl
  have r1_1 := KR.out.cell (i := 1) rfl
  have x1_1 := KO.out.frozen 1
  have y1_1 := KR.out.frozen 1
  have o1_2 := KO.out.cell (i := 2) rfl
  have r1_2 := KR.out.cell (i := 2) rfl
  have x1_2 := KO.out.frozen 2
  have y1_2 := KR.out.frozen 2
  have o1_3 := KO.out.cell (i := 3) rfl
  have r1_3 := KR.out.cell (i := 3) rfl
  have x1_3 := KO.out.frozen 3
  have y1_3 := KR.out.frozen 3
  have o1_4 := KO.out.cell (i := 4) rfl
  have r1_4 := KR.out.cell (i := 4) rfl
  have x1_4 := KO.out.frozen 4
  have y1_4 := KR.out.frozen 4
  clear hb1 ho1 hnd1 hf1 hfb1
  have KA := Lib.hid (KA.out.far (p := ⟨w.heap.size + 2, 0, none⟩) (by show w.heap.size ≠ w.heap.size + 2; omega) (.slice P1 p1 q1))
  have KR := Lib.hid (KR.out.far (p := ⟨w.heap.size + 2, 0, none⟩) (by show w.heap.size + 1 ≠ w.heap.size + 2; omega) (.slice P1 p1 q1))
  have KO := Lib.hid (KO.out.set_ 0 (.slice P1 p1 q1))
  have HB := Lib.hid (HB.out.setCell (p := ⟨w.heap.size + 2, 0, none⟩) (by show w.heap.size ≤ w.heap.size + 2; omega) (.slice P1 p1 q1))
  have CH1 := Lib.hid (CH1.out.setCell (p := ⟨w.heap.size + 2, 0, none⟩) (by simp) (.slice P1 p1 q1))
  go_wp2_with fail
  refine (toIntS_c x.Heard _ _ _ _ B (HG.out.2.2.1.keep fun b hb => HB.out.block b (Nat.lt_of_lt_of_le hb HG.out.1)) (Nat.le_trans HG.out.1 HB.out.size) (by have h1 := HZ.out; have h2 := HSZ.out; omega)).mono ?_
  rintro e w2 ⟨P2, p2, q2, fp2, rfl, ho2, hnd2, hf2, hb2⟩
  have hfb2 : ∀ b, b ∈ fp2 → b ≠ w.heap.size + 1 ∧ b ≠ w.heap.size + 2 := fun b hb => by have := hf2 b hb; have := KO.out.lt; have := KR.out.lt; omega
  have hd1_2 : ∀ b, b ∈ fp1 → b ∉ fp2 := fun b hb hm => by have := hf2 b hm; have := CS1.out b hb; have := CH1.out.size; omega
  have CS2 := Lib.hid ho2.olt
  have OS2 := Lib.hid (And.intro ho2 (And.intro hnd2 (And.intro hfb2 hf2)))
  have HD1_2 := Lib.hid hd1_2
  have HF2 := Lib.hid (show ∀ b, b ∈ fp2 → w.heap.size ≤ b from fun b hb => Nat.le_trans HB.out.size (hf2 b hb))
  have KA := Lib.hid (KA.out.bel hb2)
  have KR := Lib.hid (KR.out.bel hb2)
  have KO := Lib.hid (KO.out.bel hb2)
  have HB := Lib.hid (below_step HB.out hb2)
  have CH1 := Lib.hid (Mm.und_chg CH1.out hb2)
  have CH2 := Lib.hid (Mm.Chg.refl [w.heap.size + 1, w.heap.size + 2] w2)
  have a2_2 := KA.out.cell (i := 2) rfl
  have a2_3 := KA.out.cell (i := 3) rfl
  have a2_4 := KA.out.cell (i := 4) rfl
  have o2_0 := KO.out.cell (i := 0) rfl
  have r2_0 := KR.out.cell (i := 0) rfl
  have x2_0 := KO.out.frozen 0
  have y2_0 := KR.out.frozen 0
  have o2_1 := KO.out.cell (i := 1) rfl
  have r2_1 := KR.out.cell (i := 1) rfl
  have x2_1 := KO.out.frozen 1
  have y2_1 := KR.out.frozen 1
  have o2_2 := KO.out.cell (i := 2) rfl
  have r2_2 := KR.out.cell (i := 2) rfl
  have x2_2 := KO.out.frozen 2
  have y2_2 := KR.out.frozen 2
  have o2_3 := KO.out.cell (i := 3) rfl
  have r2_3 := KR.out.cell (i := 3) rfl
  have x2_3 := KO.out.frozen 3
  have y2_3 := KR.out.frozen 3
  have o2_4 := KO.out.cell (i := 4) rfl
  have r2_4 := KR.out.cell (i := 4) rfl
  have x2_4 := KO.out.frozen 4
  have y2_4 := KR.out.frozen 4
  clear hb2 ho2 hnd2 hf2 hfb2 hd1_2
  have KA := Lib.hid (KA.out.far (p := ⟨w.heap.size + 2, 1, none⟩) (by show w.heap.size ≠ w.heap.size + 2; omega) (.slice P2 p2 q2))
  have KR := Lib.hid (KR.out.far (p := ⟨w.heap.size + 2, 1, none⟩) (by show w.heap.size + 1 ≠ w.heap.size + 2; omega) (.slice P2 p2 q2))
  have KO := Lib.hid (KO.out.set_ 1 (.slice P2 p2 q2))
  have HB := Lib.hid (HB.out.setCell (p := ⟨w.heap.size + 2, 1, none⟩) (by show w.heap.size ≤ w.heap.size + 2; omega) (.slice P2 p2 q2))
  have CH1 := Lib.hid (CH1.out.setCell (p := ⟨w.heap.size + 2, 1, none⟩) (by simp) (.slice P2 p2 q2))
  have CH2 := Lib.hid (CH2.out.setCell (p := ⟨w.heap.size + 2, 1, none⟩) (by simp) (.slice P2 p2 q2))
  go_wp2_with fail
  refine (toNoteS_c x.Line _ _ _ _ B (HG.out.2.2.2.1.keep fun b hb => HB.out.block b (Nat.lt_of_lt_of_le hb HG.out.1)) (Nat.le_trans HG.out.1 HB.out.size) (by have h1 := HZ.out; have h2 := HSZ.out; omega)).mono ?_
  rintro e w3 ⟨P3, p3, q3, fp3, rfl, ho3, hnd3, hf3, hb3⟩
  have hfb3 : ∀ b, b ∈ fp3 → b ≠ w.heap.size + 1 ∧ b ≠ w.heap.size + 2 := fun b hb => by have := hf3 b hb; have := KO.out.lt; have := KR.out.lt; omega
  have hd1_3 : ∀ b, b ∈ fp1 → b ∉ fp3 := fun b hb hm => by have := hf3 b hm; have := CS1.out b hb; have := CH1.out.size; omega
  have hd2_3 : ∀ b, b ∈ fp2 → b ∉ fp3 := fun b hb hm => by have := hf3 b hm; have := CS2.out b hb; have := CH2.out.size; omega
  have CS3 := Lib.hid ho3.olt
  have OS3 := Lib.hid (And.intro ho3 (And.intro hnd3 (And.intro hfb3 hf3)))
  have HD1_3 := Lib.hid hd1_3
  have HD2_3 := Lib.hid hd2_3
  have HF3 := Lib.hid (show ∀ b, b ∈ fp3 → w.heap.size ≤ b from fun b hb => Nat.le_trans HB.out.size (hf3 b hb))
  have KA := Lib.hid (KA.out.bel hb3)
  have KR := Lib.hid (KR.out.bel hb3)
  have KO := Lib.hid (KO.out.bel hb3)
  have HB := Lib.hid (below_step HB.out hb3)
  have CH1 := Lib.hid (Mm.und_chg CH1.out hb3)
  have CH2 := Lib.hid (Mm.und_chg CH2.out hb3)
  have CH3 := Lib.hid (Mm.Chg.refl [w.heap.size + 1, w.heap.size + 2] w3)
  have a3_3 := KA.out.cell (i := 3) rfl
  have a3_4 := KA.out.cell (i := 4) rfl
  have o3_0 := KO.out.cell (i := 0) rfl
  have r3_0 := KR.out.cell (i := 0) rfl
  have x3_0 := KO.out.frozen 0
  have y3_0 := KR.out.frozen 0
  have o3_1 := KO.out.cell (i := 1) rfl
  have r3_1 := KR.out.cell (i := 1) rfl
  have x3_1 := KO.out.frozen 1
  have y3_1 := KR.out.frozen 1
  have o3_2 := KO.out.cell (i := 2) rfl
  have r3_2 := KR.out.cell (i := 2) rfl
  have x3_2 := KO.out.frozen 2
  have y3_2 := KR.out.frozen 2
  have o3_3 := KO.out.cell (i := 3) rfl
  have r3_3 := KR.out.cell (i := 3) rfl
  have x3_3 := KO.out.frozen 3
  have y3_3 := KR.out.frozen 3
  have o3_4 := KO.out.cell (i := 4) rfl
  have r3_4 := KR.out.cell (i := 4) rfl
  have x3_4 := KO.out.frozen 4
  have y3_4 := KR.out.frozen 4
  clear hb3 ho3 hnd3 hf3 hfb3 hd1_3 hd2_3
  have KA := Lib.hid (KA.out.far (p := ⟨w.heap.size + 2, 2, none⟩) (by show w.heap.size ≠ w.heap.size + 2; omega) (.slice P3 p3 q3))
  have KR := Lib.hid (KR.out.far (p := ⟨w.heap.size + 2, 2, none⟩) (by show w.heap.size + 1 ≠ w.heap.size + 2; omega) (.slice P3 p3 q3))
  have KO := Lib.hid (KO.out.set_ 2 (.slice P3 p3 q3))
  have HB := Lib.hid (HB.out.setCell (p := ⟨w.heap.size + 2, 2, none⟩) (by show w.heap.size ≤ w.heap.size + 2; omega) (.slice P3 p3 q3))
  have CH1 := Lib.hid (CH1.out.setCell (p := ⟨w.heap.size + 2, 2, none⟩) (by simp) (.slice P3 p3 q3))
  have CH2 := Lib.hid (CH2.out.setCell (p := ⟨w.heap.size + 2, 2, none⟩) (by simp) (.slice P3 p3 q3))
  have CH3 := Lib.hid (CH3.out.setCell (p := ⟨w.heap.size + 2, 2, none⟩) (by simp) (.slice P3 p3 q3))
  go_wp2_with fail
  refine (toToldS_c x.Log _ _ _ _ B (HG.out.2.2.2.2.1.keep fun b hb => HB.out.block b (Nat.lt_of_lt_of_le hb HG.out.1)) (Nat.le_trans HG.out.1 HB.out.size) (by have h1 := HZ.out; have h2 := HSZ.out; omega)).mono ?_
  rintro e w4 ⟨P4, p4, q4, fp4, rfl, ho4, hnd4, hf4, hb4⟩
  have hfb4 : ∀ b, b ∈ fp4 → b ≠ w.heap.size + 1 ∧ b ≠ w.heap.size + 2 := fun b hb => by have := hf4 b hb; have := KO.out.lt; have := KR.out.lt; omega
  have hd1_4 : ∀ b, b ∈ fp1 → b ∉ fp4 := fun b hb hm => by have := hf4 b hm; have := CS1.out b hb; have := CH1.out.size; omega
  have hd2_4 : ∀ b, b ∈ fp2 → b ∉ fp4 := fun b hb hm => by have := hf4 b hm; have := CS2.out b hb; have := CH2.out.size; omega
  have hd3_4 : ∀ b, b ∈ fp3 → b ∉ fp4 := fun b hb hm => by have := hf4 b hm; have := CS3.out b hb; have := CH3.out.size; omega
  have CS4 := Lib.hid ho4.olt
  have OS4 := Lib.hid (And.intro ho4 (And.intro hnd4 (And.intro hfb4 hf4)))
  have HD1_4 := Lib.hid hd1_4
  have HD2_4 := Lib.hid hd2_4
  have HD3_4 := Lib.hid hd3_4
  have HF4 := Lib.hid (show ∀ b, b ∈ fp4 → w.heap.size ≤ b from fun b hb => Nat.le_trans HB.out.size (hf4 b hb))
  have KA := Lib.hid (KA.out.bel hb4)
  have KR := Lib.hid (KR.out.bel hb4)
  have KO := Lib.hid (KO.out.bel hb4)
  have HB := Lib.hid (below_step HB.out hb4)
  have CH1 := Lib.hid (Mm.und_chg CH1.out hb4)
  have CH2 := Lib.hid (Mm.und_chg CH2.out hb4)
  have CH3 := Lib.hid (Mm.und_chg CH3.out hb4)
  have CH4 := Lib.hid (Mm.Chg.refl [w.heap.size + 1, w.heap.size + 2] w4)
  have a4_4 := KA.out.cell (i := 4) rfl
  have o4_0 := KO.out.cell (i := 0) rfl
  have r4_0 := KR.out.cell (i := 0) rfl
  have x4_0 := KO.out.frozen 0
  have y4_0 := KR.out.frozen 0
  have o4_1 := KO.out.cell (i := 1) rfl
  have r4_1 := KR.out.cell (i := 1) rfl
  have x4_1 := KO.out.frozen 1
  have y4_1 := KR.out.frozen 1
  have o4_2 := KO.out.cell (i := 2) rfl
  have r4_2 := KR.out.cell (i := 2) rfl
  have x4_2 := KO.out.frozen 2
  have y4_2 := KR.out.frozen 2
  have o4_3 := KO.out.cell (i := 3) rfl
  have r4_3 := KR.out.cell (i := 3) rfl
  have x4_3 := KO.out.frozen 3
  have y4_3 := KR.out.frozen 3
  have o4_4 := KO.out.cell (i := 4) rfl
  have r4_4 := KR.out.cell (i := 4) rfl
  have x4_4 := KO.out.frozen 4
  have y4_4 := KR.out.frozen 4
  clear hb4 ho4 hnd4 hf4 hfb4 hd1_4 hd2_4 hd3_4
  have KA := Lib.hid (KA.out.far (p := ⟨w.heap.size + 2, 3, none⟩) (by show w.heap.size ≠ w.heap.size + 2; omega) (.slice P4 p4 q4))
  have KR := Lib.hid (KR.out.far (p := ⟨w.heap.size + 2, 3, none⟩) (by show w.heap.size + 1 ≠ w.heap.size + 2; omega) (.slice P4 p4 q4))
  have KO := Lib.hid (KO.out.set_ 3 (.slice P4 p4 q4))
  have HB := Lib.hid (HB.out.setCell (p := ⟨w.heap.size + 2, 3, none⟩) (by show w.heap.size ≤ w.heap.size + 2; omega) (.slice P4 p4 q4))
  have CH1 := Lib.hid (CH1.out.setCell (p := ⟨w.heap.size + 2, 3, none⟩) (by simp) (.slice P4 p4 q4))
  have CH2 := Lib.hid (CH2.out.setCell (p := ⟨w.heap.size + 2, 3, none⟩) (by simp) (.slice P4 p4 q4))
  have CH3 := Lib.hid (CH3.out.setCell (p := ⟨w.heap.size + 2, 3, none⟩) (by simp) (.slice P4 p4 q4))
  have CH4 := Lib.hid (CH4.out.setCell (p := ⟨w.heap.size + 2, 3, none⟩) (by simp) (.slice P4 p4 q4))
  go_wp2_with fail
  refine (toIntS_c x.Next _ _ _ _ B (HG.out.2.2.2.2.2.keep fun b hb => HB.out.block b (Nat.lt_of_lt_of_le hb HG.out.1)) (Nat.le_trans HG.out.1 HB.out.size) (by have h1 := HZ.out; have h2 := HSZ.out; omega)).mono ?_
  rintro e w5 ⟨P5, p5, q5, fp5, rfl, ho5, hnd5, hf5, hb5⟩
  have hfb5 : ∀ b, b ∈ fp5 → b ≠ w.heap.size + 1 ∧ b ≠ w.heap.size + 2 := fun b hb => by have := hf5 b hb; have := KO.out.lt; have := KR.out.lt; omega
  have hd1_5 : ∀ b, b ∈ fp1 → b ∉ fp5 := fun b hb hm => by have := hf5 b hm; have := CS1.out b hb; have := CH1.out.size; omega
  have hd2_5 : ∀ b, b ∈ fp2 → b ∉ fp5 := fun b hb hm => by have := hf5 b hm; have := CS2.out b hb; have := CH2.out.size; omega
  have hd3_5 : ∀ b, b ∈ fp3 → b ∉ fp5 := fun b hb hm => by have := hf5 b hm; have := CS3.out b hb; have := CH3.out.size; omega
  have hd4_5 : ∀ b, b ∈ fp4 → b ∉ fp5 := fun b hb hm => by have := hf5 b hm; have := CS4.out b hb; have := CH4.out.size; omega
  have CS5 := Lib.hid ho5.olt
  have OS5 := Lib.hid (And.intro ho5 (And.intro hnd5 (And.intro hfb5 hf5)))
  have HD1_5 := Lib.hid hd1_5
  have HD2_5 := Lib.hid hd2_5
  have HD3_5 := Lib.hid hd3_5
  have HD4_5 := Lib.hid hd4_5
  have HF5 := Lib.hid (show ∀ b, b ∈ fp5 → w.heap.size ≤ b from fun b hb => Nat.le_trans HB.out.size (hf5 b hb))
  have KA := Lib.hid (KA.out.bel hb5)
  have KR := Lib.hid (KR.out.bel hb5)
  have KO := Lib.hid (KO.out.bel hb5)
  have HB := Lib.hid (below_step HB.out hb5)
  have CH1 := Lib.hid (Mm.und_chg CH1.out hb5)
  have CH2 := Lib.hid (Mm.und_chg CH2.out hb5)
  have CH3 := Lib.hid (Mm.und_chg CH3.out hb5)
  have CH4 := Lib.hid (Mm.und_chg CH4.out hb5)
  have CH5 := Lib.hid (Mm.Chg.refl [w.heap.size + 1, w.heap.size + 2] w5)
  have o5_0 := KO.out.cell (i := 0) rfl
  have r5_0 := KR.out.cell (i := 0) rfl
  have x5_0 := KO.out.frozen 0
  have y5_0 := KR.out.frozen 0
  have o5_1 := KO.out.cell (i := 1) rfl
  have r5_1 := KR.out.cell (i := 1) rfl
  have x5_1 := KO.out.frozen 1
  have y5_1 := KR.out.frozen 1
  have o5_2 := KO.out.cell (i := 2) rfl
  have r5_2 := KR.out.cell (i := 2) rfl
  have x5_2 := KO.out.frozen 2
  have y5_2 := KR.out.frozen 2
  have o5_3 := KO.out.cell (i := 3) rfl
  have r5_3 := KR.out.cell (i := 3) rfl
  have x5_3 := KO.out.frozen 3
  have y5_3 := KR.out.frozen 3
  have o5_4 := KO.out.cell (i := 4) rfl
  have r5_4 := KR.out.cell (i := 4) rfl
  have x5_4 := KO.out.frozen 4
  have y5_4 := KR.out.frozen 4
  clear hb5 ho5 hnd5 hf5 hfb5 hd1_5 hd2_5 hd3_5 hd4_5
  have KA := Lib.hid (KA.out.far (p := ⟨w.heap.size + 2, 4, none⟩) (by show w.heap.size ≠ w.heap.size + 2; omega) (.slice P5 p5 q5))
  have KR := Lib.hid (KR.out.far (p := ⟨w.heap.size + 2, 4, none⟩) (by show w.heap.size + 1 ≠ w.heap.size + 2; omega) (.slice P5 p5 q5))
  have KO := Lib.hid (KO.out.set_ 4 (.slice P5 p5 q5))
  have HB := Lib.hid (HB.out.setCell (p := ⟨w.heap.size + 2, 4, none⟩) (by show w.heap.size ≤ w.heap.size + 2; omega) (.slice P5 p5 q5))
  have CH1 := Lib.hid (CH1.out.setCell (p := ⟨w.heap.size + 2, 4, none⟩) (by simp) (.slice P5 p5 q5))
  have CH2 := Lib.hid (CH2.out.setCell (p := ⟨w.heap.size + 2, 4, none⟩) (by simp) (.slice P5 p5 q5))
  have CH3 := Lib.hid (CH3.out.setCell (p := ⟨w.heap.size + 2, 4, none⟩) (by simp) (.slice P5 p5 q5))
  have CH4 := Lib.hid (CH4.out.setCell (p := ⟨w.heap.size + 2, 4, none⟩) (by simp) (.slice P5 p5 q5))
  have CH5 := Lib.hid (CH5.out.setCell (p := ⟨w.heap.size + 2, 4, none⟩) (by simp) (.slice P5 p5 q5))
  go_wp2
  have HB := Lib.hid (HB.out.setCell (p := ⟨w.heap.size + 1, 0, none⟩) (by show w.heap.size ≤ w.heap.size + 1; omega) (.slice P1 p1 q1))
  have CH1 := Lib.hid (CH1.out.setCell (p := ⟨w.heap.size + 1, 0, none⟩) (by simp) (.slice P1 p1 q1))
  have CH2 := Lib.hid (CH2.out.setCell (p := ⟨w.heap.size + 1, 0, none⟩) (by simp) (.slice P1 p1 q1))
  have CH3 := Lib.hid (CH3.out.setCell (p := ⟨w.heap.size + 1, 0, none⟩) (by simp) (.slice P1 p1 q1))
  have CH4 := Lib.hid (CH4.out.setCell (p := ⟨w.heap.size + 1, 0, none⟩) (by simp) (.slice P1 p1 q1))
  have CH5 := Lib.hid (CH5.out.setCell (p := ⟨w.heap.size + 1, 0, none⟩) (by simp) (.slice P1 p1 q1))
  have HB := Lib.hid (HB.out.setCell (p := ⟨w.heap.size + 1, 1, none⟩) (by show w.heap.size ≤ w.heap.size + 1; omega) (.slice P2 p2 q2))
  have CH1 := Lib.hid (CH1.out.setCell (p := ⟨w.heap.size + 1, 1, none⟩) (by simp) (.slice P2 p2 q2))
  have CH2 := Lib.hid (CH2.out.setCell (p := ⟨w.heap.size + 1, 1, none⟩) (by simp) (.slice P2 p2 q2))
  have CH3 := Lib.hid (CH3.out.setCell (p := ⟨w.heap.size + 1, 1, none⟩) (by simp) (.slice P2 p2 q2))
  have CH4 := Lib.hid (CH4.out.setCell (p := ⟨w.heap.size + 1, 1, none⟩) (by simp) (.slice P2 p2 q2))
  have CH5 := Lib.hid (CH5.out.setCell (p := ⟨w.heap.size + 1, 1, none⟩) (by simp) (.slice P2 p2 q2))
  have HB := Lib.hid (HB.out.setCell (p := ⟨w.heap.size + 1, 2, none⟩) (by show w.heap.size ≤ w.heap.size + 1; omega) (.slice P3 p3 q3))
  have CH1 := Lib.hid (CH1.out.setCell (p := ⟨w.heap.size + 1, 2, none⟩) (by simp) (.slice P3 p3 q3))
  have CH2 := Lib.hid (CH2.out.setCell (p := ⟨w.heap.size + 1, 2, none⟩) (by simp) (.slice P3 p3 q3))
  have CH3 := Lib.hid (CH3.out.setCell (p := ⟨w.heap.size + 1, 2, none⟩) (by simp) (.slice P3 p3 q3))
  have CH4 := Lib.hid (CH4.out.setCell (p := ⟨w.heap.size + 1, 2, none⟩) (by simp) (.slice P3 p3 q3))
  have CH5 := Lib.hid (CH5.out.setCell (p := ⟨w.heap.size + 1, 2, none⟩) (by simp) (.slice P3 p3 q3))
  have HB := Lib.hid (HB.out.setCell (p := ⟨w.heap.size + 1, 3, none⟩) (by show w.heap.size ≤ w.heap.size + 1; omega) (.slice P4 p4 q4))
  have CH1 := Lib.hid (CH1.out.setCell (p := ⟨w.heap.size + 1, 3, none⟩) (by simp) (.slice P4 p4 q4))
  have CH2 := Lib.hid (CH2.out.setCell (p := ⟨w.heap.size + 1, 3, none⟩) (by simp) (.slice P4 p4 q4))
  have CH3 := Lib.hid (CH3.out.setCell (p := ⟨w.heap.size + 1, 3, none⟩) (by simp) (.slice P4 p4 q4))
  have CH4 := Lib.hid (CH4.out.setCell (p := ⟨w.heap.size + 1, 3, none⟩) (by simp) (.slice P4 p4 q4))
  have CH5 := Lib.hid (CH5.out.setCell (p := ⟨w.heap.size + 1, 3, none⟩) (by simp) (.slice P4 p4 q4))
  have HB := Lib.hid (HB.out.setCell (p := ⟨w.heap.size + 1, 4, none⟩) (by show w.heap.size ≤ w.heap.size + 1; omega) (.slice P5 p5 q5))
  have CH1 := Lib.hid (CH1.out.setCell (p := ⟨w.heap.size + 1, 4, none⟩) (by simp) (.slice P5 p5 q5))
  have CH2 := Lib.hid (CH2.out.setCell (p := ⟨w.heap.size + 1, 4, none⟩) (by simp) (.slice P5 p5 q5))
  have CH3 := Lib.hid (CH3.out.setCell (p := ⟨w.heap.size + 1, 4, none⟩) (by simp) (.slice P5 p5 q5))
  have CH4 := Lib.hid (CH4.out.setCell (p := ⟨w.heap.size + 1, 4, none⟩) (by simp) (.slice P5 p5 q5))
  have CH5 := Lib.hid (CH5.out.setCell (p := ⟨w.heap.size + 1, 4, none⟩) (by simp) (.slice P5 p5 q5))
  refine bodyPost_ret (v := .agg #[.slice P1 p1 q1, .slice P2 p2 q2, .slice P3 p3 q3, .slice P4 p4 q4, .slice P5 p5 q5]) (by simp [results, Try.results42, go_sem, r5_0, r5_1, r5_2, r5_3, r5_4]) rfl ⟨[.slice P1 p1 q1, .slice P2 p2 q2, .slice P3 p3 q3, .slice P4 p4 q4, .slice P5 p5 q5], _, rfl, rTell_own_mk (OS1.out.1.okeep fun b hb => CH1.out.block b (CS1.out b hb) (by simp; exact ⟨(OS1.out.2.2.1 b hb).1, (OS1.out.2.2.1 b hb).2⟩)) (OS2.out.1.okeep fun b hb => CH2.out.block b (CS2.out b hb) (by simp; exact ⟨(OS2.out.2.2.1 b hb).1, (OS2.out.2.2.1 b hb).2⟩)) (OS3.out.1.okeep fun b hb => CH3.out.block b (CS3.out b hb) (by simp; exact ⟨(OS3.out.2.2.1 b hb).1, (OS3.out.2.2.1 b hb).2⟩)) (OS4.out.1.okeep fun b hb => CH4.out.block b (CS4.out b hb) (by simp; exact ⟨(OS4.out.2.2.1 b hb).1, (OS4.out.2.2.1 b hb).2⟩)) (OS5.out.1.okeep fun b hb => CH5.out.block b (CS5.out b hb) (by simp; exact ⟨(OS5.out.2.2.1 b hb).1, (OS5.out.2.2.1 b hb).2⟩)), ?_, ?_, HB.out⟩
  · exact (List.nodup_append.2 ⟨OS1.out.2.1, (List.nodup_append.2 ⟨OS2.out.2.1, (List.nodup_append.2 ⟨OS3.out.2.1, (List.nodup_append.2 ⟨OS4.out.2.1, OS5.out.2.1, fun a ha b hb hab => by subst hab; exact HD4_5.out a ha hb⟩), fun a ha b hb hab => by subst hab; exact (List.mem_append.1 hb).elim (fun hb => HD3_4.out a ha hb) (fun hb => HD3_5.out a ha hb)⟩), fun a ha b hb hab => by subst hab; exact (List.mem_append.1 hb).elim (fun hb => HD2_3.out a ha hb) (fun hb => (List.mem_append.1 hb).elim (fun hb => HD2_4.out a ha hb) (fun hb => HD2_5.out a ha hb))⟩), fun a ha b hb hab => by subst hab; exact (List.mem_append.1 hb).elim (fun hb => HD1_2.out a ha hb) (fun hb => (List.mem_append.1 hb).elim (fun hb => HD1_3.out a ha hb) (fun hb => (List.mem_append.1 hb).elim (fun hb => HD1_4.out a ha hb) (fun hb => HD1_5.out a ha hb)))⟩)
  · intro b hb
    rcases List.mem_append.1 hb with hb | hb
    · exact HF1.out b hb
    · rcases List.mem_append.1 hb with hb | hb
      · exact HF2.out b hb
      · rcases List.mem_append.1 hb with hb | hb
        · exact HF3.out b hb
        · rcases List.mem_append.1 hb with hb | hb
          · exact HF4.out b hb
          · exact HF5.out b hb
theorem toTell_at (x : Tell) (cs : List Value) (w : World) (B : Nat) (h : rTell.at_ w B x cs) (hB : B ≤ w.heap.size) (hsz : Pl.szTell x ≤ 1048576) :
    Calls Try.prog 42 #[.agg cs.toArray] w (Mm.NewAg rTell w x) := by
  obtain ⟨A0, n0, c0, A1, n1, c1, A2, n2, c2, A3, n3, c3, A4, n4, c4, rfl, g0, g1, g2, g3, g4⟩ := rTell_at h
  exact toTell_c x _ _ _ _ _ _ _ _ _ _ _ _ _ _ _ _ B g0 g1 g2 g3 g4 hB hsz
end Go.Proofs.Ytaepohocabealaa

/-
  The text of a mark. No conditions.
-/
namespace Go.Proofs.Ytaepohocabealaa
open Go.RowKit
theorem conv_byte (W : World) (n : Nat) (hn : n < 256) : (convert 22 9 (.slice (some ⟨W.heap.size, 0, none⟩) 1 1)).run Try.prog (W.alloc (.cells #[.int .u8 (n : Int)] 5)) = .ok (.string ⟨#[UInt8.ofNat n]⟩) (W.alloc (.cells #[.int .u8 (n : Int)] 5)) := by
  refine run_convert_bytes_back _ _ _ 5 ⟨W.heap.size, 0, none⟩ 1 [UInt8.ofNat n] Try.underlying22 Try.underlying5 Try.underlying9 (fun j hj => ?_)
  obtain rfl : j = 0 := by simp at hj; exact hj
  have := cell_of_row (W.alloc (.cells #[.int .u8 (n : Int)] 5)) W.heap.size 0 _ _ _ (heap_alloc_new _ _)
  rw [show ((⟨W.heap.size, 0, none⟩ : Addr).add 0) = ⟨W.heap.size, 0, none⟩ from rfl, this]
  simp [Nat.mod_eq_of_lt hn]
theorem str_add (c : UInt8) (acc : List UInt8) : (⟨#[c]⟩ : ByteArray) ++ ⟨acc.toArray⟩ = ⟨(c :: acc).toArray⟩ := by
  apply ByteArray.ext
  simp
set_option maxRecDepth 100000 in
set_option maxHeartbeats 1000000 in
theorem markText_c (k : Int) (w : World) (h0 : 1 ≤ k) (h1 : k ≤ 1000000000000) :
    Calls Try.prog 69 #[.int .i64 k] w fun e w' => e = .returned (.string (Pl.mkText k)) ∧ Below w.heap.size w w' := by
  go_enter Try.func69, Try.ntmps69
  go_wp2
  go_loopw [0, 3] (fun kk s wr => ∃ (f q : Nat) (acc : List UInt8), q ≤ f ∧ acc.length + f ≤ 1000000000000 ∧ kk = .int .i64 q ∧ s = .string ⟨acc.toArray⟩ ∧ Below w.heap.size w wr ∧ Pl.digs f q acc = Pl.digs k.toNat k.toNat []) (fun kk _ _ => (intOf kk).toNat)
  case atStart => exact ⟨k.toNat, k.toNat, [], Nat.le_refl _, by simp; omega, by rw [Int.toNat_of_nonneg (by omega)], rfl, Below.refl _ _, rfl⟩
  case round =>
      obtain ⟨f, q, acc, hq, hq2, rfl, rfl, hbel, hd⟩ := hrel
      rename_i wr _
      have HD := Lib.hid hd
      clear hd
      by_cases h0 : 0 < q
      · obtain ⟨f', rfl⟩ : ∃ f', f = f' + 1 := ⟨f - 1, by omega⟩
        have hdv : q / 10 ≤ f' := by omega
        have HD2 : Hid (Pl.digs f' (q / 10) (UInt8.ofNat (48 + q % 10) :: acc) = Pl.digs k.toNat k.toNat []) := by
          rw [← HD.out]
          show _ = _
          conv => rhs; unfold Pl.digs
          rw [if_neg (by omega)]
        have hcv := fun W : World => conv_byte W (48 + q % 10) (by omega)
        have hca : ((48 + q % 10 : Nat) : Int) = 48 + (q : Int) % 10 := by omega
        rw [hca] at hcv
        clear hca
        go_wp2
        go_roundw
        case rel => exact ⟨f', q / 10, UInt8.ofNat (48 + q % 10) :: acc, hdv, by simp; omega, by simp, by rw [← str_add (UInt8.ofNat (48 + q % 10)) acc, show UInt8.ofNat (48 + q % 10) = 48 + UInt8.ofNat (q % 10) from by simp], below_new hbel _, HD2.out⟩
        case measure => simp [intOf]; omega
      · obtain rfl : q = 0 := by omega
        have HF : Hid (Pl.mkText k = ⟨#[109]⟩ ++ ⟨acc.toArray⟩) := by
          show _ = _
          have h2 := HD.out
          have h3 : Pl.digs f 0 acc = acc := by cases f <;> simp [Pl.digs]
          rw [h3] at h2
          unfold Pl.mkText
          rw [← h2, str_add]
        go_wp2
        go_ret
        exact ⟨by rw [HF.out]; rfl, hbel⟩
end Go.Proofs.Ytaepohocabealaa

/-
  The laws' own markings of things that are owned. No conditions.
-/
namespace Go.Proofs.Ytaepohocabealaa
open Go.RowKit
attribute [local go_sem] und_cell
set_option maxHeartbeats 2000000 in
theorem markIntS_c (l : List Int) (A : Option Addr) (n c : Nat) (fp : List Nat) (k : Int) (w : World) (ho : Mm.SlOwn Mm.int 3 w l (.slice A n c) fp) (hnd : fp.Nodup) (h0 : 1 ≤ k) (h1 : k + Mm.cntL Pl.cnt1 l ≤ 1000000000000) :
    Calls Try.prog 71 #[.slice A n c, .int .i64 k] w (Mm.MkRet Mm.int 3 Pl.mkInt Pl.cnt1 w l (.slice A n c) fp k) := by
  have hn : n ≤ 9223372036854775807 := by
    obtain ⟨_, _, _, he, _, h2, h3, _⟩ := ho.form
    injection he with _ e2 e3
    subst e2; subst e3
    unfold maxLen at h3; omega
  have hlen : Hid (l.length = n) := by
    obtain ⟨_, _, _, he, h2, _⟩ := ho.form
    injection he with _ e2
    show l.length = n
    rw [e2, h2]
  have HN : Hid (∀ x : Int, 0 ≤ Pl.cnt1 x) := Pl.cnt1_nn
  have HST := Lib.hid (Mm.MkAt.start (mk := Pl.mkInt) (cnt := Pl.cnt1) (k := k) ho hnd)
  clear ho hnd
  go_enter Try.func71, Try.ntmps71
  go_wp2
  go_loopw [1, 5] (fun kk i wr => ∃ j : Nat, j ≤ n ∧ i = .int .i64 j ∧ kk = .int .i64 (k + Mm.cntL Pl.cnt1 (l.take j)) ∧ Mm.MkAt Mm.int 3 Pl.mkInt Pl.cnt1 w l (.slice A n c) fp k j wr) (fun _ i _ => n - (intOf i).toNat)
  case atStart => exact ⟨0, Nat.zero_le _, rfl, by simp [Mm.cntL], HST.out⟩
  case round =>
    clear HST
    obtain ⟨j, hj, rfl, rfl, hm⟩ := hrel
    rename_i wr _
    by_cases hlt : j < n
    · obtain ⟨x, hx⟩ : ∃ x, l[j]? = some x := ⟨_, List.getElem?_eq_getElem (by have := hlen.out; omega)⟩
      have hc1 : Mm.cntL Pl.cnt1 (l.take (j + 1)) = Mm.cntL Pl.cnt1 (l.take j) + Pl.cnt1 x := Mm.cntL_succ hx
      have hc2 := Mm.cntL_take_le HN.out l (j + 1)
      have hc3 := Mm.cntL_nn HN.out (l.take j)
      have hc4 := HN.out x
      obtain ⟨kj, hkj⟩ : ∃ kj, k + Mm.cntL Pl.cnt1 (l.take j) = kj := ⟨_, rfl⟩
      rw [hkj]
      have hk0 : 1 ≤ kj := by omega
      have hk1 : kj + Pl.cnt1 x ≤ 1000000000000 := by omega
      have HX := Lib.hid (And.intro hx (And.intro hkj hc1))
      obtain ⟨hchg, fp0, ho0, hnd0, hsub0⟩ := hm
      have hx0 := Mm.half_get (mk := Pl.mkInt) (cnt := Pl.cnt1) (k := k) hx
      obtain ⟨g, rfl⟩ : ∃ g, A = some ⟨g, 0, none⟩ := by
        obtain ⟨_, _, hs, _⟩ := ho0
        obtain ⟨g, cap, he, _⟩ := hs.form (by rw [Mm.half_len]; have := hlen.out; omega)
        injection he with he
        exact ⟨g, he⟩
      have hgl := ho0.olt g ho0.mem_block
      have HC0 := Lib.hid hchg
      have HO0 := Lib.hid (And.intro ho0 (And.intro hnd0 (And.intro hsub0 hx0)))
      clear hchg hx hkj hc1 hc2 hc3 hx0
      have hcx : Pl.cnt1 x = 1 := rfl
      rw [hcx] at hk1
      have HCX := Lib.hid hcx
      clear hcx hc4
      have d0_0 := int_ocell HO0.out.1 HO0.out.2.1 HO0.out.2.2.2
      have e0_0 := HO0.out.1.frozen (j)
      have st0 := HO0.out.1.store HO0.out.2.1 (j := 0) (x' := kj) (u := .int .i64 (kj)) HO0.out.2.2.2 (by decide) (fun cs fx hh => by obtain ⟨rfl, _, rfl⟩ := hh; exact ⟨rfl, (by unfold Mm.I64; first | omega | (dsimp only; omega)), rfl⟩)
      rw [show j * (Mm.int).size + 0 = j from (by show j * 1 + 0 = j; omega)] at st0
      have HO0s := Lib.hid (And.intro st0 (And.intro HO0.out.2.1 (And.intro HO0.out.2.2.1 (show ((Mm.half Pl.mkInt Pl.cnt1 l k j).set j kj)[j]? = some kj from List.getElem?_set_self (by rw [Mm.half_len]; have := hlen.out; omega)))))
      have HC0s := Lib.hid (HC0.out.setCell (p := ⟨g, j, none⟩) (HO0.out.2.2.1 g HO0.out.1.mem_block) (.int .i64 (kj)))
      clear st0
      go_wp2
      go_roundw
      case rel =>
        refine ⟨j + 1, by omega, by go_num, ?_, ?_⟩
        · have h3 := HX.out.2.1; have h4 := HX.out.2.2; have h5 := HCX.out
          rw [h4]
          show Value.int .i64 _ = Value.int .i64 _
          congr 1
          omega
        · have h3 := HX.out.2.1
          refine ⟨HC0s.out, _, ?_, HO0s.out.2.1, HO0s.out.2.2.1⟩
          rw [← Mm.half_set HX.out.1, h3]
          exact HO0s.out.1
      case measure => simp [intOf]; omega
    · have HM := Lib.hid hm
      go_wp2
      go_ret
      exact HM.out.done (by have := hlen.out; omega)
set_option maxHeartbeats 2000000 in
theorem markStringS_c (l : List ByteArray) (A : Option Addr) (n c : Nat) (fp : List Nat) (k : Int) (w : World) (ho : Mm.SlOwn Mm.str 9 w l (.slice A n c) fp) (hnd : fp.Nodup) (h0 : 1 ≤ k) (h1 : k + Mm.cntL Pl.cnt1 l ≤ 1000000000000) :
    Calls Try.prog 106 #[.slice A n c, .int .i64 k] w (Mm.MkRet Mm.str 9 Pl.mkStr Pl.cnt1 w l (.slice A n c) fp k) := by
  have hn : n ≤ 9223372036854775807 := by
    obtain ⟨_, _, _, he, _, h2, h3, _⟩ := ho.form
    injection he with _ e2 e3
    subst e2; subst e3
    unfold maxLen at h3; omega
  have hlen : Hid (l.length = n) := by
    obtain ⟨_, _, _, he, h2, _⟩ := ho.form
    injection he with _ e2
    show l.length = n
    rw [e2, h2]
  have HN : Hid (∀ x : ByteArray, 0 ≤ Pl.cnt1 x) := Pl.cnt1_nn
  have HST := Lib.hid (Mm.MkAt.start (mk := Pl.mkStr) (cnt := Pl.cnt1) (k := k) ho hnd)
  clear ho hnd
  go_enter Try.func106, Try.ntmps106
  go_wp2
  go_loopw [1, 5] (fun kk i wr => ∃ j : Nat, j ≤ n ∧ i = .int .i64 j ∧ kk = .int .i64 (k + Mm.cntL Pl.cnt1 (l.take j)) ∧ Mm.MkAt Mm.str 9 Pl.mkStr Pl.cnt1 w l (.slice A n c) fp k j wr) (fun _ i _ => n - (intOf i).toNat)
  case atStart => exact ⟨0, Nat.zero_le _, rfl, by simp [Mm.cntL], HST.out⟩
  case round =>
    clear HST
    obtain ⟨j, hj, rfl, rfl, hm⟩ := hrel
    rename_i wr _
    by_cases hlt : j < n
    · obtain ⟨x, hx⟩ : ∃ x, l[j]? = some x := ⟨_, List.getElem?_eq_getElem (by have := hlen.out; omega)⟩
      have hc1 : Mm.cntL Pl.cnt1 (l.take (j + 1)) = Mm.cntL Pl.cnt1 (l.take j) + Pl.cnt1 x := Mm.cntL_succ hx
      have hc2 := Mm.cntL_take_le HN.out l (j + 1)
      have hc3 := Mm.cntL_nn HN.out (l.take j)
      have hc4 := HN.out x
      obtain ⟨kj, hkj⟩ : ∃ kj, k + Mm.cntL Pl.cnt1 (l.take j) = kj := ⟨_, rfl⟩
      rw [hkj]
      have hk0 : 1 ≤ kj := by omega
      have hk1 : kj + Pl.cnt1 x ≤ 1000000000000 := by omega
      have HX := Lib.hid (And.intro hx (And.intro hkj hc1))
      obtain ⟨hchg, fp0, ho0, hnd0, hsub0⟩ := hm
      have hx0 := Mm.half_get (mk := Pl.mkStr) (cnt := Pl.cnt1) (k := k) hx
      obtain ⟨g, rfl⟩ : ∃ g, A = some ⟨g, 0, none⟩ := by
        obtain ⟨_, _, hs, _⟩ := ho0
        obtain ⟨g, cap, he, _⟩ := hs.form (by rw [Mm.half_len]; have := hlen.out; omega)
        injection he with he
        exact ⟨g, he⟩
      have hgl := ho0.olt g ho0.mem_block
      have HC0 := Lib.hid hchg
      have HO0 := Lib.hid (And.intro ho0 (And.intro hnd0 (And.intro hsub0 hx0)))
      clear hchg hx hkj hc1 hc2 hc3 hx0
      have hcx : Pl.cnt1 x = 1 := rfl
      rw [hcx] at hk1
      have HCX := Lib.hid hcx
      clear hcx hc4
      have d0_0 := str_ocell HO0.out.1 HO0.out.2.1 HO0.out.2.2.2
      have e0_0 := HO0.out.1.frozen (j)
      go_wp2_with fail
      refine (markText_c _ _ (by omega) (by omega)).mono ?_
      rintro e v0 ⟨rfl, hb0⟩
      have HO0m := Lib.hid (And.intro (HO0.out.1.okeep (w' := v0) (fun b hb => hb0.block b (HO0.out.1.olt b hb))) HO0.out.2)
      have HC0m := Lib.hid (Mm.und_chg HC0.out hb0)
      clear hb0
      have dm0_0 := str_ocell HO0m.out.1 HO0m.out.2.1 HO0m.out.2.2.2
      have em0_0 := HO0m.out.1.frozen (j)
      have st0 := HO0m.out.1.store HO0m.out.2.1 (j := 0) (x' := (Pl.mkText (kj))) (u := .string (Pl.mkText (kj))) HO0m.out.2.2.2 (by decide) (fun cs fx hh => by obtain ⟨rfl, _, rfl⟩ := hh; exact ⟨rfl, (Pl.mkText_len _ (by first | omega | (dsimp only; omega)) (by first | omega | (dsimp only; omega))), rfl⟩)
      rw [show j * (Mm.str).size + 0 = j from (by show j * 1 + 0 = j; omega)] at st0
      have HO0s := Lib.hid (And.intro st0 (And.intro HO0m.out.2.1 (And.intro HO0m.out.2.2.1 (show ((Mm.half Pl.mkStr Pl.cnt1 l k j).set j (Pl.mkText (kj)))[j]? = some (Pl.mkText (kj)) from List.getElem?_set_self (by rw [Mm.half_len]; have := hlen.out; omega)))))
      have HC0s := Lib.hid (HC0m.out.setCell (p := ⟨g, j, none⟩) (HO0m.out.2.2.1 g HO0m.out.1.mem_block) (.string (Pl.mkText (kj))))
      clear st0
      go_wp2
      go_roundw
      case rel =>
        refine ⟨j + 1, by omega, by go_num, ?_, ?_⟩
        · have h3 := HX.out.2.1; have h4 := HX.out.2.2; have h5 := HCX.out
          rw [h4]
          show Value.int .i64 _ = Value.int .i64 _
          congr 1
          omega
        · have h3 := HX.out.2.1
          refine ⟨HC0s.out, _, ?_, HO0s.out.2.1, HO0s.out.2.2.1⟩
          rw [← Mm.half_set HX.out.1, h3]
          exact HO0s.out.1
      case measure => simp [intOf]; omega
    · have HM := Lib.hid hm
      go_wp2
      go_ret
      exact HM.out.done (by have := hlen.out; omega)
set_option maxHeartbeats 2000000 in
theorem markBoolS_c (l : List Bool) (A : Option Addr) (n c : Nat) (fp : List Nat) (k : Int) (w : World) (ho : Mm.SlOwn Mm.bool 4 w l (.slice A n c) fp) (hnd : fp.Nodup) (h0 : 1 ≤ k) (h1 : k + Mm.cntL Pl.cnt1 l ≤ 1000000000000) :
    Calls Try.prog 38 #[.slice A n c, .int .i64 k] w (Mm.MkRet Mm.bool 4 Pl.mkBool Pl.cnt1 w l (.slice A n c) fp k) := by
  have hn : n ≤ 9223372036854775807 := by
    obtain ⟨_, _, _, he, _, h2, h3, _⟩ := ho.form
    injection he with _ e2 e3
    subst e2; subst e3
    unfold maxLen at h3; omega
  have hlen : Hid (l.length = n) := by
    obtain ⟨_, _, _, he, h2, _⟩ := ho.form
    injection he with _ e2
    show l.length = n
    rw [e2, h2]
  have HN : Hid (∀ x : Bool, 0 ≤ Pl.cnt1 x) := Pl.cnt1_nn
  have HST := Lib.hid (Mm.MkAt.start (mk := Pl.mkBool) (cnt := Pl.cnt1) (k := k) ho hnd)
  clear ho hnd
  go_enter Try.func38, Try.ntmps38
  go_wp2
  go_loopw [1, 5] (fun kk i wr => ∃ j : Nat, j ≤ n ∧ i = .int .i64 j ∧ kk = .int .i64 (k + Mm.cntL Pl.cnt1 (l.take j)) ∧ Mm.MkAt Mm.bool 4 Pl.mkBool Pl.cnt1 w l (.slice A n c) fp k j wr) (fun _ i _ => n - (intOf i).toNat)
  case atStart => exact ⟨0, Nat.zero_le _, rfl, by simp [Mm.cntL], HST.out⟩
  case round =>
    clear HST
    obtain ⟨j, hj, rfl, rfl, hm⟩ := hrel
    rename_i wr _
    by_cases hlt : j < n
    · obtain ⟨x, hx⟩ : ∃ x, l[j]? = some x := ⟨_, List.getElem?_eq_getElem (by have := hlen.out; omega)⟩
      have hc1 : Mm.cntL Pl.cnt1 (l.take (j + 1)) = Mm.cntL Pl.cnt1 (l.take j) + Pl.cnt1 x := Mm.cntL_succ hx
      have hc2 := Mm.cntL_take_le HN.out l (j + 1)
      have hc3 := Mm.cntL_nn HN.out (l.take j)
      have hc4 := HN.out x
      obtain ⟨kj, hkj⟩ : ∃ kj, k + Mm.cntL Pl.cnt1 (l.take j) = kj := ⟨_, rfl⟩
      rw [hkj]
      have hk0 : 1 ≤ kj := by omega
      have hk1 : kj + Pl.cnt1 x ≤ 1000000000000 := by omega
      have HX := Lib.hid (And.intro hx (And.intro hkj hc1))
      obtain ⟨hchg, fp0, ho0, hnd0, hsub0⟩ := hm
      have hx0 := Mm.half_get (mk := Pl.mkBool) (cnt := Pl.cnt1) (k := k) hx
      obtain ⟨g, rfl⟩ : ∃ g, A = some ⟨g, 0, none⟩ := by
        obtain ⟨_, _, hs, _⟩ := ho0
        obtain ⟨g, cap, he, _⟩ := hs.form (by rw [Mm.half_len]; have := hlen.out; omega)
        injection he with he
        exact ⟨g, he⟩
      have hgl := ho0.olt g ho0.mem_block
      have HC0 := Lib.hid hchg
      have HO0 := Lib.hid (And.intro ho0 (And.intro hnd0 (And.intro hsub0 hx0)))
      clear hchg hx hkj hc1 hc2 hc3 hx0
      have hcx : Pl.cnt1 x = 1 := rfl
      rw [hcx] at hk1
      have HCX := Lib.hid hcx
      clear hcx hc4
      have d0_0 := bool_ocell HO0.out.1 HO0.out.2.1 HO0.out.2.2.2
      have e0_0 := HO0.out.1.frozen (j)
      have st0 := HO0.out.1.store HO0.out.2.1 (j := 0) (x' := (kj % 3 == 0)) (u := .bool (kj % 3 == 0)) HO0.out.2.2.2 (by decide) (fun cs fx hh => by obtain ⟨rfl, _, rfl⟩ := hh; exact ⟨rfl, trivial, rfl⟩)
      rw [show j * (Mm.bool).size + 0 = j from (by show j * 1 + 0 = j; omega)] at st0
      have HO0s := Lib.hid (And.intro st0 (And.intro HO0.out.2.1 (And.intro HO0.out.2.2.1 (show ((Mm.half Pl.mkBool Pl.cnt1 l k j).set j (kj % 3 == 0))[j]? = some (kj % 3 == 0) from List.getElem?_set_self (by rw [Mm.half_len]; have := hlen.out; omega)))))
      have HC0s := Lib.hid (HC0.out.setCell (p := ⟨g, j, none⟩) (HO0.out.2.2.1 g HO0.out.1.mem_block) (.bool (kj % 3 == 0)))
      clear st0
      go_wp2
      go_roundw
      case rel =>
        refine ⟨j + 1, by omega, by go_num, ?_, ?_⟩
        · have h3 := HX.out.2.1; have h4 := HX.out.2.2; have h5 := HCX.out
          rw [h4]
          show Value.int .i64 _ = Value.int .i64 _
          congr 1
          omega
        · have h3 := HX.out.2.1
          refine ⟨HC0s.out, _, ?_, HO0s.out.2.1, HO0s.out.2.2.1⟩
          rw [← Mm.half_set HX.out.1, h3]
          exact HO0s.out.1
      case measure => simp [intOf]; omega
    · have HM := Lib.hid hm
      go_wp2
      go_ret
      exact HM.out.done (by have := hlen.out; omega)
set_option maxHeartbeats 2000000 in
theorem markStringSS_c (l : List (List ByteArray)) (A : Option Addr) (n c : Nat) (fp : List Nat) (k : Int) (w : World) (ho : Mm.SlOwn strs 40 w l (.slice A n c) fp) (hnd : fp.Nodup) (h0 : 1 ≤ k) (h1 : k + Mm.cntL (Mm.cntL Pl.cnt1) l ≤ 1000000000000) :
    Calls Try.prog 70 #[.slice A n c, .int .i64 k] w (Mm.MkRet strs 40 (Mm.mkL Pl.mkStr Pl.cnt1) (Mm.cntL Pl.cnt1) w l (.slice A n c) fp k) := by
  have hn : n ≤ 9223372036854775807 := by
    obtain ⟨_, _, _, he, _, h2, h3, _⟩ := ho.form
    injection he with _ e2 e3
    subst e2; subst e3
    unfold maxLen at h3; omega
  have hlen : Hid (l.length = n) := by
    obtain ⟨_, _, _, he, h2, _⟩ := ho.form
    injection he with _ e2
    show l.length = n
    rw [e2, h2]
  have HN : Hid (∀ x : (List ByteArray), 0 ≤ (Mm.cntL Pl.cnt1) x) := Mm.cntL_nn (cnt := Pl.cnt1) (Pl.cnt1_nn)
  have HST := Lib.hid (Mm.MkAt.start (mk := (Mm.mkL Pl.mkStr Pl.cnt1)) (cnt := (Mm.cntL Pl.cnt1)) (k := k) ho hnd)
  clear ho hnd
  go_enter Try.func70, Try.ntmps70
  go_wp2
  go_loopw [1, 5] (fun kk i wr => ∃ j : Nat, j ≤ n ∧ i = .int .i64 j ∧ kk = .int .i64 (k + Mm.cntL (Mm.cntL Pl.cnt1) (l.take j)) ∧ Mm.MkAt strs 40 (Mm.mkL Pl.mkStr Pl.cnt1) (Mm.cntL Pl.cnt1) w l (.slice A n c) fp k j wr) (fun _ i _ => n - (intOf i).toNat)
  case atStart => exact ⟨0, Nat.zero_le _, rfl, by simp [Mm.cntL], HST.out⟩
  case round =>
    clear HST
    obtain ⟨j, hj, rfl, rfl, hm⟩ := hrel
    rename_i wr _
    by_cases hlt : j < n
    · obtain ⟨x, hx⟩ : ∃ x, l[j]? = some x := ⟨_, List.getElem?_eq_getElem (by have := hlen.out; omega)⟩
      have hc1 : Mm.cntL (Mm.cntL Pl.cnt1) (l.take (j + 1)) = Mm.cntL (Mm.cntL Pl.cnt1) (l.take j) + (Mm.cntL Pl.cnt1) x := Mm.cntL_succ hx
      have hc2 := Mm.cntL_take_le HN.out l (j + 1)
      have hc3 := Mm.cntL_nn HN.out (l.take j)
      have hc4 := HN.out x
      obtain ⟨kj, hkj⟩ : ∃ kj, k + Mm.cntL (Mm.cntL Pl.cnt1) (l.take j) = kj := ⟨_, rfl⟩
      rw [hkj]
      have hk0 : 1 ≤ kj := by omega
      have hk1 : kj + (Mm.cntL Pl.cnt1) x ≤ 1000000000000 := by omega
      have HX := Lib.hid (And.intro hx (And.intro hkj hc1))
      obtain ⟨hchg, fp0, ho0, hnd0, hsub0⟩ := hm
      have hx0 := Mm.half_get (mk := (Mm.mkL Pl.mkStr Pl.cnt1)) (cnt := (Mm.cntL Pl.cnt1)) (k := k) hx
      obtain ⟨g, rfl⟩ : ∃ g, A = some ⟨g, 0, none⟩ := by
        obtain ⟨_, _, hs, _⟩ := ho0
        obtain ⟨g, cap, he, _⟩ := hs.form (by rw [Mm.half_len]; have := hlen.out; omega)
        injection he with he
        exact ⟨g, he⟩
      have hgl := ho0.olt g ho0.mem_block
      have HC0 := Lib.hid hchg
      have HO0 := Lib.hid (And.intro ho0 (And.intro hnd0 (And.intro hsub0 hx0)))
      clear hchg hx hkj hc1 hc2 hc3 hx0
      have hcx : (Mm.cntL Pl.cnt1) x = (Mm.cntL Pl.cnt1) x := rfl
      have HCX := Lib.hid hcx
      clear hcx
      obtain ⟨P0, p0, q0, d0_0⟩ := strs_ocell HO0.out.1 HO0.out.2.1 HO0.out.2.2.2
      have e0_0 := HO0.out.1.frozen (j)
      obtain ⟨cs0, fx0, hox0, hnx0, hsx0, hcx0, hnext0⟩ := HO0.out.1.inner HO0.out.2.1 HO0.out.2.2.2
      obtain ⟨vv0, rfl, hoi0⟩ := hox0
      obtain ⟨Pi0, pi0, qi0, rfl, -⟩ := hoi0.form
      clear d0_0
      have dd0 := Mm.cell_sp (a' := j) (hcx0 0 _ rfl) (show j * (strs).size + 0 = j from (by show j * 1 + 0 = j; omega))
      have HI0 := Lib.hid (And.intro hoi0 (And.intro hnx0 (And.intro hsx0 hnext0)))
      clear hoi0 hnx0 hsx0 hnext0 hcx0
      go_wp2_with fail
      refine (markStringS_c x _ _ _ _ _ _ HI0.out.1 HI0.out.2.1 (by omega) (by omega)).mono ?_
      rintro e v0 ⟨rfl, hch0, fn0, ho0', hnd0', hsub0'⟩
      obtain ⟨fo0, hof0, hnf0, hsf0⟩ := HI0.out.2.2.2 v0 ((Mm.mkL Pl.mkStr Pl.cnt1) x kj) fn0 hch0 (⟨_, rfl, ho0'⟩) hnd0' hsub0'
      have HO0s := Lib.hid (And.intro hof0 (And.intro hnf0 (And.intro (fun b hb => HO0.out.2.2.1 b (hsf0 b hb)) (show ((Mm.half (Mm.mkL Pl.mkStr Pl.cnt1) (Mm.cntL Pl.cnt1) l k j).set j ((Mm.mkL Pl.mkStr Pl.cnt1) x kj))[j]? = some ((Mm.mkL Pl.mkStr Pl.cnt1) x kj) from List.getElem?_set_self (by rw [Mm.half_len]; have := hlen.out; omega)))))
      have HC0s := Lib.hid (HC0.out.trans (hch0.more (fun b hb => HO0.out.2.2.1 b (HI0.out.2.2.1 b hb).1)))
      clear hch0 ho0' hnd0' hsub0' hof0 hnf0 hsf0
      obtain ⟨Pn0, pn0, qn0, dn0_0⟩ := strs_ocell HO0s.out.1 HO0s.out.2.1 HO0s.out.2.2.2
      have en0_0 := HO0s.out.1.frozen (j)
      go_wp2
      go_roundw
      case rel =>
        refine ⟨j + 1, by omega, by go_num, ?_, ?_⟩
        · have h3 := HX.out.2.1; have h4 := HX.out.2.2; have h5 := HCX.out
          rw [h4]
          show Value.int .i64 _ = Value.int .i64 _
          congr 1
          omega
        · have h3 := HX.out.2.1
          refine ⟨HC0s.out, _, ?_, HO0s.out.2.1, HO0s.out.2.2.1⟩
          rw [← Mm.half_set HX.out.1, h3]
          exact HO0s.out.1
      case measure => simp [intOf]; omega
    · have HM := Lib.hid hm
      go_wp2
      go_ret
      exact HM.out.done (by have := hlen.out; omega)
set_option maxHeartbeats 2000000 in
theorem markToldS_c (l : List Told) (A : Option Addr) (n c : Nat) (fp : List Nat) (k : Int) (w : World) (ho : Mm.SlOwn rTold 52 w l (.slice A n c) fp) (hnd : fp.Nodup) (h0 : 1 ≤ k) (h1 : k + Mm.cntL Pl.cntTold l ≤ 1000000000000) :
    Calls Try.prog 73 #[.slice A n c, .int .i64 k] w (Mm.MkRet rTold 52 Pl.mkTold Pl.cntTold w l (.slice A n c) fp k) := by
  have hn : n ≤ 9223372036854775807 := by
    obtain ⟨_, _, _, he, _, h2, h3, _⟩ := ho.form
    injection he with _ e2 e3
    subst e2; subst e3
    unfold maxLen at h3; omega
  have hlen : Hid (l.length = n) := by
    obtain ⟨_, _, _, he, h2, _⟩ := ho.form
    injection he with _ e2
    show l.length = n
    rw [e2, h2]
  have HN : Hid (∀ x : Told, 0 ≤ Pl.cntTold x) := Pl.cntTold_nn
  have HST := Lib.hid (Mm.MkAt.start (mk := Pl.mkTold) (cnt := Pl.cntTold) (k := k) ho hnd)
  clear ho hnd
  go_enter Try.func73, Try.ntmps73
  go_wp2
  go_loopw [1, 5] (fun kk i wr => ∃ j : Nat, j ≤ n ∧ i = .int .i64 j ∧ kk = .int .i64 (k + Mm.cntL Pl.cntTold (l.take j)) ∧ Mm.MkAt rTold 52 Pl.mkTold Pl.cntTold w l (.slice A n c) fp k j wr) (fun _ i _ => n - (intOf i).toNat)
  case atStart => exact ⟨0, Nat.zero_le _, rfl, by simp [Mm.cntL], HST.out⟩
  case round =>
    clear HST
    obtain ⟨j, hj, rfl, rfl, hm⟩ := hrel
    rename_i wr _
    by_cases hlt : j < n
    · obtain ⟨x, hx⟩ : ∃ x, l[j]? = some x := ⟨_, List.getElem?_eq_getElem (by have := hlen.out; omega)⟩
      have hc1 : Mm.cntL Pl.cntTold (l.take (j + 1)) = Mm.cntL Pl.cntTold (l.take j) + Pl.cntTold x := Mm.cntL_succ hx
      have hc2 := Mm.cntL_take_le HN.out l (j + 1)
      have hc3 := Mm.cntL_nn HN.out (l.take j)
      have hc4 := HN.out x
      obtain ⟨kj, hkj⟩ : ∃ kj, k + Mm.cntL Pl.cntTold (l.take j) = kj := ⟨_, rfl⟩
      rw [hkj]
      have hk0 : 1 ≤ kj := by omega
      have hk1 : kj + Pl.cntTold x ≤ 1000000000000 := by omega
      have HX := Lib.hid (And.intro hx (And.intro hkj hc1))
      obtain ⟨hchg, fp0, ho0, hnd0, hsub0⟩ := hm
      have hx0 := Mm.half_get (mk := Pl.mkTold) (cnt := Pl.cntTold) (k := k) hx
      obtain ⟨g, rfl⟩ : ∃ g, A = some ⟨g, 0, none⟩ := by
        obtain ⟨_, _, hs, _⟩ := ho0
        obtain ⟨g, cap, he, _⟩ := hs.form (by rw [Mm.half_len]; have := hlen.out; omega)
        injection he with he
        exact ⟨g, he⟩
      have hgl := ho0.olt g ho0.mem_block
      have HC0 := Lib.hid hchg
      have HO0 := Lib.hid (And.intro ho0 (And.intro hnd0 (And.intro hsub0 hx0)))
      clear hchg hx hkj hc1 hc2 hc3 hx0
      have hcx : Pl.cntTold x = 1 + 1 + 1 := rfl
      rw [hcx] at hk1 hc4
      have HCX := Lib.hid hcx
      clear hcx hc4
      obtain ⟨d0_0, d0_1, d0_2⟩ := rTold_ocell HO0.out.1 HO0.out.2.1 HO0.out.2.2.2
      have e0_0 := HO0.out.1.frozen (j * 3)
      have e0_1 := HO0.out.1.frozen (j * 3 + 1)
      have e0_2 := HO0.out.1.frozen (j * 3 + 2)
      have st0 := HO0.out.1.store HO0.out.2.1 (j := 0) (x' := ⟨kj, x.No, x.Text⟩) (u := .int .i64 (kj)) HO0.out.2.2.2 (by decide) (fun cs fx hh => by obtain ⟨rfl, ⟨g0, g1, g2⟩, rfl⟩ := hh; exact ⟨rfl, ⟨(by unfold Mm.I64; first | omega | (dsimp only; omega)), g1, g2⟩, rfl⟩)
      have HO0s := Lib.hid (And.intro st0 (And.intro HO0.out.2.1 (And.intro HO0.out.2.2.1 (show ((Mm.half Pl.mkTold Pl.cntTold l k j).set j ⟨kj, x.No, x.Text⟩)[j]? = some ⟨kj, x.No, x.Text⟩ from List.getElem?_set_self (by rw [Mm.half_len]; have := hlen.out; omega)))))
      have HC0s := Lib.hid (HC0.out.setCell (p := ⟨g, j * 3, none⟩) (HO0.out.2.2.1 g HO0.out.1.mem_block) (.int .i64 (kj)))
      clear st0
      have st1 := HO0s.out.1.store HO0s.out.2.1 (j := 1) (x' := ⟨kj, (kj + 1), x.Text⟩) (u := .int .i64 ((kj + 1))) HO0s.out.2.2.2 (by decide) (fun cs fx hh => by obtain ⟨rfl, ⟨g0, g1, g2⟩, rfl⟩ := hh; exact ⟨rfl, ⟨g0, (by unfold Mm.I64; first | omega | (dsimp only; omega)), g2⟩, rfl⟩)
      rw [List.set_set] at st1
      have HO1s := Lib.hid (And.intro st1 (And.intro HO0s.out.2.1 (And.intro HO0s.out.2.2.1 (show ((Mm.half Pl.mkTold Pl.cntTold l k j).set j ⟨kj, (kj + 1), x.Text⟩)[j]? = some ⟨kj, (kj + 1), x.Text⟩ from List.getElem?_set_self (by rw [Mm.half_len]; have := hlen.out; omega)))))
      have HC1s := Lib.hid (HC0s.out.setCell (p := ⟨g, j * 3 + 1, none⟩) (HO0s.out.2.2.1 g HO0s.out.1.mem_block) (.int .i64 ((kj + 1))))
      clear st1
      go_wp2_with fail
      refine (markText_c _ _ (by omega) (by omega)).mono ?_
      rintro e v2 ⟨rfl, hb2⟩
      have HO2m := Lib.hid (And.intro (HO1s.out.1.okeep (w' := v2) (fun b hb => hb2.block b (HO1s.out.1.olt b hb))) HO1s.out.2)
      have HC2m := Lib.hid (Mm.und_chg HC1s.out hb2)
      clear hb2
      obtain ⟨dm2_0, dm2_1, dm2_2⟩ := rTold_ocell HO2m.out.1 HO2m.out.2.1 HO2m.out.2.2.2
      have em2_0 := HO2m.out.1.frozen (j * 3)
      have em2_1 := HO2m.out.1.frozen (j * 3 + 1)
      have em2_2 := HO2m.out.1.frozen (j * 3 + 2)
      have st2 := HO2m.out.1.store HO2m.out.2.1 (j := 2) (x' := ⟨kj, (kj + 1), (Pl.mkText (((kj + 1) + 1)))⟩) (u := .string (Pl.mkText (((kj + 1) + 1)))) HO2m.out.2.2.2 (by decide) (fun cs fx hh => by obtain ⟨rfl, ⟨g0, g1, g2⟩, rfl⟩ := hh; exact ⟨rfl, ⟨g0, g1, (Pl.mkText_len _ (by first | omega | (dsimp only; omega)) (by first | omega | (dsimp only; omega)))⟩, rfl⟩)
      rw [List.set_set] at st2
      have HO2s := Lib.hid (And.intro st2 (And.intro HO2m.out.2.1 (And.intro HO2m.out.2.2.1 (show ((Mm.half Pl.mkTold Pl.cntTold l k j).set j ⟨kj, (kj + 1), (Pl.mkText (((kj + 1) + 1)))⟩)[j]? = some ⟨kj, (kj + 1), (Pl.mkText (((kj + 1) + 1)))⟩ from List.getElem?_set_self (by rw [Mm.half_len]; have := hlen.out; omega)))))
      have HC2s := Lib.hid (HC2m.out.setCell (p := ⟨g, j * 3 + 2, none⟩) (HO2m.out.2.2.1 g HO2m.out.1.mem_block) (.string (Pl.mkText (((kj + 1) + 1)))))
      clear st2
      go_wp2
      go_roundw
      case rel =>
        refine ⟨j + 1, by omega, by go_num, ?_, ?_⟩
        · have h3 := HX.out.2.1; have h4 := HX.out.2.2; have h5 := HCX.out
          rw [h4]
          show Value.int .i64 _ = Value.int .i64 _
          congr 1
          omega
        · have h3 := HX.out.2.1
          refine ⟨HC2s.out, _, ?_, HO2s.out.2.1, HO2s.out.2.2.1⟩
          rw [← Mm.half_set HX.out.1, h3]
          exact HO2s.out.1
      case measure => simp [intOf]; omega
    · have HM := Lib.hid hm
      go_wp2
      go_ret
      exact HM.out.done (by have := hlen.out; omega)
set_option maxHeartbeats 2000000 in
theorem markNoteS_c (l : List Note) (A : Option Addr) (n c : Nat) (fp : List Nat) (k : Int) (w : World) (ho : Mm.SlOwn rNote 94 w l (.slice A n c) fp) (hnd : fp.Nodup) (h0 : 1 ≤ k) (h1 : k + Mm.cntL Pl.cntNote l ≤ 1000000000000) :
    Calls Try.prog 72 #[.slice A n c, .int .i64 k] w (Mm.MkRet rNote 94 Pl.mkNote Pl.cntNote w l (.slice A n c) fp k) := by
  have hn : n ≤ 9223372036854775807 := by
    obtain ⟨_, _, _, he, _, h2, h3, _⟩ := ho.form
    injection he with _ e2 e3
    subst e2; subst e3
    unfold maxLen at h3; omega
  have hlen : Hid (l.length = n) := by
    obtain ⟨_, _, _, he, h2, _⟩ := ho.form
    injection he with _ e2
    show l.length = n
    rw [e2, h2]
  have HN : Hid (∀ x : Note, 0 ≤ Pl.cntNote x) := Pl.cntNote_nn
  have HST := Lib.hid (Mm.MkAt.start (mk := Pl.mkNote) (cnt := Pl.cntNote) (k := k) ho hnd)
  clear ho hnd
  go_enter Try.func72, Try.ntmps72
  go_wp2
  go_loopw [1, 5] (fun kk i wr => ∃ j : Nat, j ≤ n ∧ i = .int .i64 j ∧ kk = .int .i64 (k + Mm.cntL Pl.cntNote (l.take j)) ∧ Mm.MkAt rNote 94 Pl.mkNote Pl.cntNote w l (.slice A n c) fp k j wr) (fun _ i _ => n - (intOf i).toNat)
  case atStart => exact ⟨0, Nat.zero_le _, rfl, by simp [Mm.cntL], HST.out⟩
  case round =>
    clear HST
    obtain ⟨j, hj, rfl, rfl, hm⟩ := hrel
    rename_i wr _
    by_cases hlt : j < n
    · obtain ⟨x, hx⟩ : ∃ x, l[j]? = some x := ⟨_, List.getElem?_eq_getElem (by have := hlen.out; omega)⟩
      have hc1 : Mm.cntL Pl.cntNote (l.take (j + 1)) = Mm.cntL Pl.cntNote (l.take j) + Pl.cntNote x := Mm.cntL_succ hx
      have hc2 := Mm.cntL_take_le HN.out l (j + 1)
      have hc3 := Mm.cntL_nn HN.out (l.take j)
      have hc4 := HN.out x
      obtain ⟨kj, hkj⟩ : ∃ kj, k + Mm.cntL Pl.cntNote (l.take j) = kj := ⟨_, rfl⟩
      rw [hkj]
      have hk0 : 1 ≤ kj := by omega
      have hk1 : kj + Pl.cntNote x ≤ 1000000000000 := by omega
      have HX := Lib.hid (And.intro hx (And.intro hkj hc1))
      obtain ⟨hchg, fp0, ho0, hnd0, hsub0⟩ := hm
      have hx0 := Mm.half_get (mk := Pl.mkNote) (cnt := Pl.cntNote) (k := k) hx
      obtain ⟨g, rfl⟩ : ∃ g, A = some ⟨g, 0, none⟩ := by
        obtain ⟨_, _, hs, _⟩ := ho0
        obtain ⟨g, cap, he, _⟩ := hs.form (by rw [Mm.half_len]; have := hlen.out; omega)
        injection he with he
        exact ⟨g, he⟩
      have hgl := ho0.olt g ho0.mem_block
      have HC0 := Lib.hid hchg
      have HO0 := Lib.hid (And.intro ho0 (And.intro hnd0 (And.intro hsub0 hx0)))
      clear hchg hx hkj hc1 hc2 hc3 hx0
      have hcx : Pl.cntNote x = 1 + 1 + 1 + 1 := rfl
      rw [hcx] at hk1 hc4
      have HCX := Lib.hid hcx
      clear hcx hc4
      obtain ⟨d0_0, d0_1, d0_2, d0_3⟩ := rNote_ocell HO0.out.1 HO0.out.2.1 HO0.out.2.2.2
      have e0_0 := HO0.out.1.frozen (j * 4)
      have e0_1 := HO0.out.1.frozen (j * 4 + 1)
      have e0_2 := HO0.out.1.frozen (j * 4 + 2)
      have e0_3 := HO0.out.1.frozen (j * 4 + 3)
      have st0 := HO0.out.1.store HO0.out.2.1 (j := 0) (x' := ⟨(kj % 3 == 0), ⟨x.What.Who, x.What.No, x.What.Text⟩⟩) (u := .bool (kj % 3 == 0)) HO0.out.2.2.2 (by decide) (fun cs fx hh => by obtain ⟨rfl, ⟨g0, g1, g2⟩, rfl⟩ := hh; exact ⟨rfl, ⟨g0, g1, g2⟩, rfl⟩)
      have HO0s := Lib.hid (And.intro st0 (And.intro HO0.out.2.1 (And.intro HO0.out.2.2.1 (show ((Mm.half Pl.mkNote Pl.cntNote l k j).set j ⟨(kj % 3 == 0), ⟨x.What.Who, x.What.No, x.What.Text⟩⟩)[j]? = some ⟨(kj % 3 == 0), ⟨x.What.Who, x.What.No, x.What.Text⟩⟩ from List.getElem?_set_self (by rw [Mm.half_len]; have := hlen.out; omega)))))
      have HC0s := Lib.hid (HC0.out.setCell (p := ⟨g, j * 4, none⟩) (HO0.out.2.2.1 g HO0.out.1.mem_block) (.bool (kj % 3 == 0)))
      clear st0
      have st1 := HO0s.out.1.store HO0s.out.2.1 (j := 1) (x' := ⟨(kj % 3 == 0), ⟨(kj + 1), x.What.No, x.What.Text⟩⟩) (u := .int .i64 ((kj + 1))) HO0s.out.2.2.2 (by decide) (fun cs fx hh => by obtain ⟨rfl, ⟨g0, g1, g2⟩, rfl⟩ := hh; exact ⟨rfl, ⟨(by unfold Mm.I64; first | omega | (dsimp only; omega)), g1, g2⟩, rfl⟩)
      rw [List.set_set] at st1
      have HO1s := Lib.hid (And.intro st1 (And.intro HO0s.out.2.1 (And.intro HO0s.out.2.2.1 (show ((Mm.half Pl.mkNote Pl.cntNote l k j).set j ⟨(kj % 3 == 0), ⟨(kj + 1), x.What.No, x.What.Text⟩⟩)[j]? = some ⟨(kj % 3 == 0), ⟨(kj + 1), x.What.No, x.What.Text⟩⟩ from List.getElem?_set_self (by rw [Mm.half_len]; have := hlen.out; omega)))))
      have HC1s := Lib.hid (HC0s.out.setCell (p := ⟨g, j * 4 + 1, none⟩) (HO0s.out.2.2.1 g HO0s.out.1.mem_block) (.int .i64 ((kj + 1))))
      clear st1
      have st2 := HO1s.out.1.store HO1s.out.2.1 (j := 2) (x' := ⟨(kj % 3 == 0), ⟨(kj + 1), ((kj + 1) + 1), x.What.Text⟩⟩) (u := .int .i64 (((kj + 1) + 1))) HO1s.out.2.2.2 (by decide) (fun cs fx hh => by obtain ⟨rfl, ⟨g0, g1, g2⟩, rfl⟩ := hh; exact ⟨rfl, ⟨g0, (by unfold Mm.I64; first | omega | (dsimp only; omega)), g2⟩, rfl⟩)
      rw [List.set_set] at st2
      have HO2s := Lib.hid (And.intro st2 (And.intro HO1s.out.2.1 (And.intro HO1s.out.2.2.1 (show ((Mm.half Pl.mkNote Pl.cntNote l k j).set j ⟨(kj % 3 == 0), ⟨(kj + 1), ((kj + 1) + 1), x.What.Text⟩⟩)[j]? = some ⟨(kj % 3 == 0), ⟨(kj + 1), ((kj + 1) + 1), x.What.Text⟩⟩ from List.getElem?_set_self (by rw [Mm.half_len]; have := hlen.out; omega)))))
      have HC2s := Lib.hid (HC1s.out.setCell (p := ⟨g, j * 4 + 2, none⟩) (HO1s.out.2.2.1 g HO1s.out.1.mem_block) (.int .i64 (((kj + 1) + 1))))
      clear st2
      go_wp2_with fail
      refine (markText_c _ _ (by omega) (by omega)).mono ?_
      rintro e v3 ⟨rfl, hb3⟩
      have HO3m := Lib.hid (And.intro (HO2s.out.1.okeep (w' := v3) (fun b hb => hb3.block b (HO2s.out.1.olt b hb))) HO2s.out.2)
      have HC3m := Lib.hid (Mm.und_chg HC2s.out hb3)
      clear hb3
      obtain ⟨dm3_0, dm3_1, dm3_2, dm3_3⟩ := rNote_ocell HO3m.out.1 HO3m.out.2.1 HO3m.out.2.2.2
      have em3_0 := HO3m.out.1.frozen (j * 4)
      have em3_1 := HO3m.out.1.frozen (j * 4 + 1)
      have em3_2 := HO3m.out.1.frozen (j * 4 + 2)
      have em3_3 := HO3m.out.1.frozen (j * 4 + 3)
      have st3 := HO3m.out.1.store HO3m.out.2.1 (j := 3) (x' := ⟨(kj % 3 == 0), ⟨(kj + 1), ((kj + 1) + 1), (Pl.mkText ((((kj + 1) + 1) + 1)))⟩⟩) (u := .string (Pl.mkText ((((kj + 1) + 1) + 1)))) HO3m.out.2.2.2 (by decide) (fun cs fx hh => by obtain ⟨rfl, ⟨g0, g1, g2⟩, rfl⟩ := hh; exact ⟨rfl, ⟨g0, g1, (Pl.mkText_len _ (by first | omega | (dsimp only; omega)) (by first | omega | (dsimp only; omega)))⟩, rfl⟩)
      rw [List.set_set] at st3
      have HO3s := Lib.hid (And.intro st3 (And.intro HO3m.out.2.1 (And.intro HO3m.out.2.2.1 (show ((Mm.half Pl.mkNote Pl.cntNote l k j).set j ⟨(kj % 3 == 0), ⟨(kj + 1), ((kj + 1) + 1), (Pl.mkText ((((kj + 1) + 1) + 1)))⟩⟩)[j]? = some ⟨(kj % 3 == 0), ⟨(kj + 1), ((kj + 1) + 1), (Pl.mkText ((((kj + 1) + 1) + 1)))⟩⟩ from List.getElem?_set_self (by rw [Mm.half_len]; have := hlen.out; omega)))))
      have HC3s := Lib.hid (HC3m.out.setCell (p := ⟨g, j * 4 + 3, none⟩) (HO3m.out.2.2.1 g HO3m.out.1.mem_block) (.string (Pl.mkText ((((kj + 1) + 1) + 1)))))
      clear st3
      go_wp2
      go_roundw
      case rel =>
        refine ⟨j + 1, by omega, by go_num, ?_, ?_⟩
        · have h3 := HX.out.2.1; have h4 := HX.out.2.2; have h5 := HCX.out
          rw [h4]
          show Value.int .i64 _ = Value.int .i64 _
          congr 1
          omega
        · have h3 := HX.out.2.1
          refine ⟨HC3s.out, _, ?_, HO3s.out.2.1, HO3s.out.2.2.1⟩
          rw [← Mm.half_set HX.out.1, h3]
          exact HO3s.out.1
      case measure => simp [intOf]; omega
    · have HM := Lib.hid hm
      go_wp2
      go_ret
      exact HM.out.done (by have := hlen.out; omega)
set_option maxHeartbeats 2000000 in
theorem markTellStepS_c (l : List TellStep) (A : Option Addr) (n c : Nat) (fp : List Nat) (k : Int) (w : World) (ho : Mm.SlOwn rTellStep 46 w l (.slice A n c) fp) (hnd : fp.Nodup) (h0 : 1 ≤ k) (h1 : k + Mm.cntL Pl.cntTellStep l ≤ 1000000000000) :
    Calls Try.prog 36 #[.slice A n c, .int .i64 k] w (Mm.MkRet rTellStep 46 Pl.mkTellStep Pl.cntTellStep w l (.slice A n c) fp k) := by
  have hn : n ≤ 9223372036854775807 := by
    obtain ⟨_, _, _, he, _, h2, h3, _⟩ := ho.form
    injection he with _ e2 e3
    subst e2; subst e3
    unfold maxLen at h3; omega
  have hlen : Hid (l.length = n) := by
    obtain ⟨_, _, _, he, h2, _⟩ := ho.form
    injection he with _ e2
    show l.length = n
    rw [e2, h2]
  have HN : Hid (∀ x : TellStep, 0 ≤ Pl.cntTellStep x) := Pl.cntTellStep_nn
  have HST := Lib.hid (Mm.MkAt.start (mk := Pl.mkTellStep) (cnt := Pl.cntTellStep) (k := k) ho hnd)
  clear ho hnd
  go_enter Try.func36, Try.ntmps36
  go_wp2
  go_loopw [1, 5] (fun kk i wr => ∃ j : Nat, j ≤ n ∧ i = .int .i64 j ∧ kk = .int .i64 (k + Mm.cntL Pl.cntTellStep (l.take j)) ∧ Mm.MkAt rTellStep 46 Pl.mkTellStep Pl.cntTellStep w l (.slice A n c) fp k j wr) (fun _ i _ => n - (intOf i).toNat)
  case atStart => exact ⟨0, Nat.zero_le _, rfl, by simp [Mm.cntL], HST.out⟩
  case round =>
    clear HST
    obtain ⟨j, hj, rfl, rfl, hm⟩ := hrel
    rename_i wr _
    by_cases hlt : j < n
    · obtain ⟨x, hx⟩ : ∃ x, l[j]? = some x := ⟨_, List.getElem?_eq_getElem (by have := hlen.out; omega)⟩
      have hc1 : Mm.cntL Pl.cntTellStep (l.take (j + 1)) = Mm.cntL Pl.cntTellStep (l.take j) + Pl.cntTellStep x := Mm.cntL_succ hx
      have hc2 := Mm.cntL_take_le HN.out l (j + 1)
      have hc3 := Mm.cntL_nn HN.out (l.take j)
      have hc4 := HN.out x
      obtain ⟨kj, hkj⟩ : ∃ kj, k + Mm.cntL Pl.cntTellStep (l.take j) = kj := ⟨_, rfl⟩
      rw [hkj]
      have hk0 : 1 ≤ kj := by omega
      have hk1 : kj + Pl.cntTellStep x ≤ 1000000000000 := by omega
      have HX := Lib.hid (And.intro hx (And.intro hkj hc1))
      obtain ⟨hchg, fp0, ho0, hnd0, hsub0⟩ := hm
      have hx0 := Mm.half_get (mk := Pl.mkTellStep) (cnt := Pl.cntTellStep) (k := k) hx
      obtain ⟨g, rfl⟩ : ∃ g, A = some ⟨g, 0, none⟩ := by
        obtain ⟨_, _, hs, _⟩ := ho0
        obtain ⟨g, cap, he, _⟩ := hs.form (by rw [Mm.half_len]; have := hlen.out; omega)
        injection he with he
        exact ⟨g, he⟩
      have hgl := ho0.olt g ho0.mem_block
      have HC0 := Lib.hid hchg
      have HO0 := Lib.hid (And.intro ho0 (And.intro hnd0 (And.intro hsub0 hx0)))
      clear hchg hx hkj hc1 hc2 hc3 hx0
      have hcx : Pl.cntTellStep x = 1 + 1 + 1 := rfl
      rw [hcx] at hk1 hc4
      have HCX := Lib.hid hcx
      clear hcx hc4
      obtain ⟨d0_0, d0_1, d0_2⟩ := rTellStep_ocell HO0.out.1 HO0.out.2.1 HO0.out.2.2.2
      have e0_0 := HO0.out.1.frozen (j * 3)
      have e0_1 := HO0.out.1.frozen (j * 3 + 1)
      have e0_2 := HO0.out.1.frozen (j * 3 + 2)
      have st0 := HO0.out.1.store HO0.out.2.1 (j := 0) (x' := ⟨kj, x.K, x.Text⟩) (u := .int .i64 (kj)) HO0.out.2.2.2 (by decide) (fun cs fx hh => by obtain ⟨rfl, ⟨g0, g1, g2⟩, rfl⟩ := hh; exact ⟨rfl, ⟨(by unfold Mm.I64; first | omega | (dsimp only; omega)), g1, g2⟩, rfl⟩)
      have HO0s := Lib.hid (And.intro st0 (And.intro HO0.out.2.1 (And.intro HO0.out.2.2.1 (show ((Mm.half Pl.mkTellStep Pl.cntTellStep l k j).set j ⟨kj, x.K, x.Text⟩)[j]? = some ⟨kj, x.K, x.Text⟩ from List.getElem?_set_self (by rw [Mm.half_len]; have := hlen.out; omega)))))
      have HC0s := Lib.hid (HC0.out.setCell (p := ⟨g, j * 3, none⟩) (HO0.out.2.2.1 g HO0.out.1.mem_block) (.int .i64 (kj)))
      clear st0
      have st1 := HO0s.out.1.store HO0s.out.2.1 (j := 1) (x' := ⟨kj, (kj + 1), x.Text⟩) (u := .int .i64 ((kj + 1))) HO0s.out.2.2.2 (by decide) (fun cs fx hh => by obtain ⟨rfl, ⟨g0, g1, g2⟩, rfl⟩ := hh; exact ⟨rfl, ⟨g0, (by unfold Mm.I64; first | omega | (dsimp only; omega)), g2⟩, rfl⟩)
      rw [List.set_set] at st1
      have HO1s := Lib.hid (And.intro st1 (And.intro HO0s.out.2.1 (And.intro HO0s.out.2.2.1 (show ((Mm.half Pl.mkTellStep Pl.cntTellStep l k j).set j ⟨kj, (kj + 1), x.Text⟩)[j]? = some ⟨kj, (kj + 1), x.Text⟩ from List.getElem?_set_self (by rw [Mm.half_len]; have := hlen.out; omega)))))
      have HC1s := Lib.hid (HC0s.out.setCell (p := ⟨g, j * 3 + 1, none⟩) (HO0s.out.2.2.1 g HO0s.out.1.mem_block) (.int .i64 ((kj + 1))))
      clear st1
      go_wp2_with fail
      refine (markText_c _ _ (by omega) (by omega)).mono ?_
      rintro e v2 ⟨rfl, hb2⟩
      have HO2m := Lib.hid (And.intro (HO1s.out.1.okeep (w' := v2) (fun b hb => hb2.block b (HO1s.out.1.olt b hb))) HO1s.out.2)
      have HC2m := Lib.hid (Mm.und_chg HC1s.out hb2)
      clear hb2
      obtain ⟨dm2_0, dm2_1, dm2_2⟩ := rTellStep_ocell HO2m.out.1 HO2m.out.2.1 HO2m.out.2.2.2
      have em2_0 := HO2m.out.1.frozen (j * 3)
      have em2_1 := HO2m.out.1.frozen (j * 3 + 1)
      have em2_2 := HO2m.out.1.frozen (j * 3 + 2)
      have st2 := HO2m.out.1.store HO2m.out.2.1 (j := 2) (x' := ⟨kj, (kj + 1), (Pl.mkText (((kj + 1) + 1)))⟩) (u := .string (Pl.mkText (((kj + 1) + 1)))) HO2m.out.2.2.2 (by decide) (fun cs fx hh => by obtain ⟨rfl, ⟨g0, g1, g2⟩, rfl⟩ := hh; exact ⟨rfl, ⟨g0, g1, (Pl.mkText_len _ (by first | omega | (dsimp only; omega)) (by first | omega | (dsimp only; omega)))⟩, rfl⟩)
      rw [List.set_set] at st2
      have HO2s := Lib.hid (And.intro st2 (And.intro HO2m.out.2.1 (And.intro HO2m.out.2.2.1 (show ((Mm.half Pl.mkTellStep Pl.cntTellStep l k j).set j ⟨kj, (kj + 1), (Pl.mkText (((kj + 1) + 1)))⟩)[j]? = some ⟨kj, (kj + 1), (Pl.mkText (((kj + 1) + 1)))⟩ from List.getElem?_set_self (by rw [Mm.half_len]; have := hlen.out; omega)))))
      have HC2s := Lib.hid (HC2m.out.setCell (p := ⟨g, j * 3 + 2, none⟩) (HO2m.out.2.2.1 g HO2m.out.1.mem_block) (.string (Pl.mkText (((kj + 1) + 1)))))
      clear st2
      go_wp2
      go_roundw
      case rel =>
        refine ⟨j + 1, by omega, by go_num, ?_, ?_⟩
        · have h3 := HX.out.2.1; have h4 := HX.out.2.2; have h5 := HCX.out
          rw [h4]
          show Value.int .i64 _ = Value.int .i64 _
          congr 1
          omega
        · have h3 := HX.out.2.1
          refine ⟨HC2s.out, _, ?_, HO2s.out.2.1, HO2s.out.2.2.1⟩
          rw [← Mm.half_set HX.out.1, h3]
          exact HO2s.out.1
      case measure => simp [intOf]; omega
    · have HM := Lib.hid hm
      go_wp2
      go_ret
      exact HM.out.done (by have := hlen.out; omega)
end Go.Proofs.Ytaepohocabealaa

/-
  The laws' own markings of whole structs that are owned. No conditions.
-/
namespace Go.Proofs.Ytaepohocabealaa
open Go.RowKit
attribute [local go_sem] und_cell
set_option maxHeartbeats 2000000 in
theorem markTell_c (x : Tell) (cs : List Value) (fp : List Nat) (k : Int) (w : World) (ho : rTell.own w x cs fp) (hnd : fp.Nodup) (h0 : 1 ≤ k) (h1 : k + Pl.ctopTell x ≤ 1000000000000) :
    Calls Try.prog 37 #[.agg cs.toArray, .int .i64 k] w (Mm.MkTop rTell Pl.topTell Pl.ctopTell w x cs fp k) := by
  obtain ⟨A0, n0, c0, A1, n1, c1, A2, n2, c2, A3, n3, c3, A4, n4, c4, f0, f1, f2, f3, f4, rfl, rfl, g0, g1, g2, g3, g4⟩ := rTell_own ho
  have hq0 := Mm.cntL_nn (cnt := (Mm.cntL Pl.cnt1)) (Mm.cntL_nn (cnt := Pl.cnt1) (Pl.cnt1_nn)) x.Texts
  have hq1 := Mm.cntL_nn (cnt := Pl.cnt1) (Pl.cnt1_nn) x.Heard
  have hq2 := Mm.cntL_nn (cnt := Pl.cntNote) (Pl.cntNote_nn) x.Line
  have hq3 := Mm.cntL_nn (cnt := Pl.cntTold) (Pl.cntTold_nn) x.Log
  have hq4 := Mm.cntL_nn (cnt := Pl.cnt1) (Pl.cnt1_nn) x.Next
  have hct : Pl.ctopTell x = (Mm.cntL (Mm.cntL Pl.cnt1)) x.Texts + (Mm.cntL Pl.cnt1) x.Heard + (Mm.cntL Pl.cntNote) x.Line + (Mm.cntL Pl.cntTold) x.Log + (Mm.cntL Pl.cnt1) x.Next := rfl
  rw [hct] at h1
  have HCT := Lib.hid hct
  clear hct
  have HND := Lib.hid hnd
  have KB := Lib.hid (Mm.Blk.new w 31 [.slice A0 n0 c0, .slice A1 n1 c1, .slice A2 n2 c2, .slice A3 n3 c3, .slice A4 n4 c4])
  have CH := Lib.hid (Mm.Chg.of_below (fp := f0 ++ (f1 ++ (f2 ++ (f3 ++ (f4))))) (below_new (Below.refl w.heap.size w) (.cells #[.slice A0 n0 c0, .slice A1 n1 c1, .slice A2 n2 c2, .slice A3 n3 c3, .slice A4 n4 c4] 31)))
  have hl0 := g0.olt
  have O0 := Lib.hid (g0.okeep (w' := (w.alloc (.cells #[.slice A0 n0 c0, .slice A1 n1 c1, .slice A2 n2 c2, .slice A3 n3 c3, .slice A4 n4 c4] 31))) fun b hb => Below.heap_alloc _ _ _ (hl0 b hb))
  have L0 := Lib.hid hl0
  clear hl0
  have hl1 := g1.olt
  have O1 := Lib.hid (g1.okeep (w' := (w.alloc (.cells #[.slice A0 n0 c0, .slice A1 n1 c1, .slice A2 n2 c2, .slice A3 n3 c3, .slice A4 n4 c4] 31))) fun b hb => Below.heap_alloc _ _ _ (hl1 b hb))
  have L1 := Lib.hid hl1
  clear hl1
  have hl2 := g2.olt
  have O2 := Lib.hid (g2.okeep (w' := (w.alloc (.cells #[.slice A0 n0 c0, .slice A1 n1 c1, .slice A2 n2 c2, .slice A3 n3 c3, .slice A4 n4 c4] 31))) fun b hb => Below.heap_alloc _ _ _ (hl2 b hb))
  have L2 := Lib.hid hl2
  clear hl2
  have hl3 := g3.olt
  have O3 := Lib.hid (g3.okeep (w' := (w.alloc (.cells #[.slice A0 n0 c0, .slice A1 n1 c1, .slice A2 n2 c2, .slice A3 n3 c3, .slice A4 n4 c4] 31))) fun b hb => Below.heap_alloc _ _ _ (hl3 b hb))
  have L3 := Lib.hid hl3
  clear hl3
  have hl4 := g4.olt
  have O4 := Lib.hid (g4.okeep (w' := (w.alloc (.cells #[.slice A0 n0 c0, .slice A1 n1 c1, .slice A2 n2 c2, .slice A3 n3 c3, .slice A4 n4 c4] 31))) fun b hb => Below.heap_alloc _ _ _ (hl4 b hb))
  have L4 := Lib.hid hl4
  clear hl4
  have D0_1 : Hid (∀ b, b ∈ f0 → b ∉ f1) := fun b hb hm => (List.nodup_append.1 HND.out).2.2 b hb b (List.mem_append_left _ hm) rfl
  have D0_2 : Hid (∀ b, b ∈ f0 → b ∉ f2) := fun b hb hm => (List.nodup_append.1 HND.out).2.2 b hb b (List.mem_append_right _ (List.mem_append_left _ hm)) rfl
  have D0_3 : Hid (∀ b, b ∈ f0 → b ∉ f3) := fun b hb hm => (List.nodup_append.1 HND.out).2.2 b hb b (List.mem_append_right _ (List.mem_append_right _ (List.mem_append_left _ hm))) rfl
  have D0_4 : Hid (∀ b, b ∈ f0 → b ∉ f4) := fun b hb hm => (List.nodup_append.1 HND.out).2.2 b hb b (List.mem_append_right _ (List.mem_append_right _ (List.mem_append_right _ hm))) rfl
  have D1_2 : Hid (∀ b, b ∈ f1 → b ∉ f2) := fun b hb hm => (List.nodup_append.1 (List.nodup_append.1 HND.out).2.1).2.2 b hb b (List.mem_append_left _ hm) rfl
  have D1_3 : Hid (∀ b, b ∈ f1 → b ∉ f3) := fun b hb hm => (List.nodup_append.1 (List.nodup_append.1 HND.out).2.1).2.2 b hb b (List.mem_append_right _ (List.mem_append_left _ hm)) rfl
  have D1_4 : Hid (∀ b, b ∈ f1 → b ∉ f4) := fun b hb hm => (List.nodup_append.1 (List.nodup_append.1 HND.out).2.1).2.2 b hb b (List.mem_append_right _ (List.mem_append_right _ hm)) rfl
  have D2_3 : Hid (∀ b, b ∈ f2 → b ∉ f3) := fun b hb hm => (List.nodup_append.1 (List.nodup_append.1 (List.nodup_append.1 HND.out).2.1).2.1).2.2 b hb b (List.mem_append_left _ hm) rfl
  have D2_4 : Hid (∀ b, b ∈ f2 → b ∉ f4) := fun b hb hm => (List.nodup_append.1 (List.nodup_append.1 (List.nodup_append.1 HND.out).2.1).2.1).2.2 b hb b (List.mem_append_right _ hm) rfl
  have D3_4 : Hid (∀ b, b ∈ f3 → b ∉ f4) := fun b hb hm => (List.nodup_append.1 (List.nodup_append.1 (List.nodup_append.1 (List.nodup_append.1 HND.out).2.1).2.1).2.1).2.2 b hb b hm rfl
  clear ho hnd g0 g1 g2 g3 g4
  go_enter Try.func37, Try.ntmps37
  go_wp2_with fail
  refine (markStringSS_c x.Texts _ _ _ _ _ _ O0.out (List.nodup_append.1 HND.out).1 (by omega) (by omega)).mono ?_
  rintro e v0 ⟨rfl, hch0, fn0, ho0', hnd0', hsub0'⟩
  have CH := Lib.hid (CH.out.trans (hch0.more fun b hb => (List.mem_append_left _ hb)))
  have KB := Lib.hid (KB.out.keep (hch0.block _ KB.out.lt (fun hm => by have := L0.out _ hm; omega)))
  have O1 := Lib.hid (O1.out.okeep fun b hb => hch0.block b (O1.out.olt b hb) (fun hm => D0_1.out b hm hb))
  have O2 := Lib.hid (O2.out.okeep fun b hb => hch0.block b (O2.out.olt b hb) (fun hm => D0_2.out b hm hb))
  have O3 := Lib.hid (O3.out.okeep fun b hb => hch0.block b (O3.out.olt b hb) (fun hm => D0_3.out b hm hb))
  have O4 := Lib.hid (O4.out.okeep fun b hb => hch0.block b (O4.out.olt b hb) (fun hm => D0_4.out b hm hb))
  have O0 := Lib.hid ho0'
  have S0 := Lib.hid (And.intro hnd0' hsub0')
  clear hch0 ho0' hnd0' hsub0'
  have e0_1 := KB.out.cell (i := 1) rfl
  have e0_2 := KB.out.cell (i := 2) rfl
  have e0_3 := KB.out.cell (i := 3) rfl
  have e0_4 := KB.out.cell (i := 4) rfl
  go_wp2_with fail
  refine (markIntS_c x.Heard _ _ _ _ _ _ O1.out (List.nodup_append.1 (List.nodup_append.1 HND.out).2.1).1 (by omega) (by omega)).mono ?_
  rintro e v1 ⟨rfl, hch1, fn1, ho1', hnd1', hsub1'⟩
  have CH := Lib.hid (CH.out.trans (hch1.more fun b hb => (List.mem_append_right _ (List.mem_append_left _ hb))))
  have KB := Lib.hid (KB.out.keep (hch1.block _ KB.out.lt (fun hm => by have := L1.out _ hm; omega)))
  have O0 := Lib.hid (O0.out.okeep fun b hb => hch1.block b (O0.out.olt b hb) (fun hm => D0_1.out b (S0.out.2 b hb) hm))
  have O2 := Lib.hid (O2.out.okeep fun b hb => hch1.block b (O2.out.olt b hb) (fun hm => D1_2.out b hm hb))
  have O3 := Lib.hid (O3.out.okeep fun b hb => hch1.block b (O3.out.olt b hb) (fun hm => D1_3.out b hm hb))
  have O4 := Lib.hid (O4.out.okeep fun b hb => hch1.block b (O4.out.olt b hb) (fun hm => D1_4.out b hm hb))
  have O1 := Lib.hid ho1'
  have S1 := Lib.hid (And.intro hnd1' hsub1')
  clear hch1 ho1' hnd1' hsub1'
  have e1_2 := KB.out.cell (i := 2) rfl
  have e1_3 := KB.out.cell (i := 3) rfl
  have e1_4 := KB.out.cell (i := 4) rfl
  go_wp2_with fail
  refine (markNoteS_c x.Line _ _ _ _ _ _ O2.out (List.nodup_append.1 (List.nodup_append.1 (List.nodup_append.1 HND.out).2.1).2.1).1 (by omega) (by omega)).mono ?_
  rintro e v2 ⟨rfl, hch2, fn2, ho2', hnd2', hsub2'⟩
  have CH := Lib.hid (CH.out.trans (hch2.more fun b hb => (List.mem_append_right _ (List.mem_append_right _ (List.mem_append_left _ hb)))))
  have KB := Lib.hid (KB.out.keep (hch2.block _ KB.out.lt (fun hm => by have := L2.out _ hm; omega)))
  have O0 := Lib.hid (O0.out.okeep fun b hb => hch2.block b (O0.out.olt b hb) (fun hm => D0_2.out b (S0.out.2 b hb) hm))
  have O1 := Lib.hid (O1.out.okeep fun b hb => hch2.block b (O1.out.olt b hb) (fun hm => D1_2.out b (S1.out.2 b hb) hm))
  have O3 := Lib.hid (O3.out.okeep fun b hb => hch2.block b (O3.out.olt b hb) (fun hm => D2_3.out b hm hb))
  have O4 := Lib.hid (O4.out.okeep fun b hb => hch2.block b (O4.out.olt b hb) (fun hm => D2_4.out b hm hb))
  have O2 := Lib.hid ho2'
  have S2 := Lib.hid (And.intro hnd2' hsub2')
  clear hch2 ho2' hnd2' hsub2'
  have e2_3 := KB.out.cell (i := 3) rfl
  have e2_4 := KB.out.cell (i := 4) rfl
  go_wp2_with fail
  refine (markToldS_c x.Log _ _ _ _ _ _ O3.out (List.nodup_append.1 (List.nodup_append.1 (List.nodup_append.1 (List.nodup_append.1 HND.out).2.1).2.1).2.1).1 (by omega) (by omega)).mono ?_
  rintro e v3 ⟨rfl, hch3, fn3, ho3', hnd3', hsub3'⟩
  have CH := Lib.hid (CH.out.trans (hch3.more fun b hb => (List.mem_append_right _ (List.mem_append_right _ (List.mem_append_right _ (List.mem_append_left _ hb))))))
  have KB := Lib.hid (KB.out.keep (hch3.block _ KB.out.lt (fun hm => by have := L3.out _ hm; omega)))
  have O0 := Lib.hid (O0.out.okeep fun b hb => hch3.block b (O0.out.olt b hb) (fun hm => D0_3.out b (S0.out.2 b hb) hm))
  have O1 := Lib.hid (O1.out.okeep fun b hb => hch3.block b (O1.out.olt b hb) (fun hm => D1_3.out b (S1.out.2 b hb) hm))
  have O2 := Lib.hid (O2.out.okeep fun b hb => hch3.block b (O2.out.olt b hb) (fun hm => D2_3.out b (S2.out.2 b hb) hm))
  have O4 := Lib.hid (O4.out.okeep fun b hb => hch3.block b (O4.out.olt b hb) (fun hm => D3_4.out b hm hb))
  have O3 := Lib.hid ho3'
  have S3 := Lib.hid (And.intro hnd3' hsub3')
  clear hch3 ho3' hnd3' hsub3'
  have e3_4 := KB.out.cell (i := 4) rfl
  go_wp2_with fail
  refine (markIntS_c x.Next _ _ _ _ _ _ O4.out (List.nodup_append.1 (List.nodup_append.1 (List.nodup_append.1 (List.nodup_append.1 HND.out).2.1).2.1).2.1).2.1 (by omega) (by omega)).mono ?_
  rintro e v4 ⟨rfl, hch4, fn4, ho4', hnd4', hsub4'⟩
  have CH := Lib.hid (CH.out.trans (hch4.more fun b hb => (List.mem_append_right _ (List.mem_append_right _ (List.mem_append_right _ (List.mem_append_right _ hb))))))
  have KB := Lib.hid (KB.out.keep (hch4.block _ KB.out.lt (fun hm => by have := L4.out _ hm; omega)))
  have O0 := Lib.hid (O0.out.okeep fun b hb => hch4.block b (O0.out.olt b hb) (fun hm => D0_4.out b (S0.out.2 b hb) hm))
  have O1 := Lib.hid (O1.out.okeep fun b hb => hch4.block b (O1.out.olt b hb) (fun hm => D1_4.out b (S1.out.2 b hb) hm))
  have O2 := Lib.hid (O2.out.okeep fun b hb => hch4.block b (O2.out.olt b hb) (fun hm => D2_4.out b (S2.out.2 b hb) hm))
  have O3 := Lib.hid (O3.out.okeep fun b hb => hch4.block b (O3.out.olt b hb) (fun hm => D3_4.out b (S3.out.2 b hb) hm))
  have O4 := Lib.hid ho4'
  have S4 := Lib.hid (And.intro hnd4' hsub4')
  clear hch4 ho4' hnd4' hsub4'
  go_wp2
  go_ret
  refine ⟨ret_int (by have := HCT.out; omega), CH.out, _, rTell_own_mk (x := Pl.topTell x k) O0.out O1.out O2.out O3.out O4.out, ?_, ?_⟩
  · exact (List.nodup_append.2 ⟨S0.out.1, (List.nodup_append.2 ⟨S1.out.1, (List.nodup_append.2 ⟨S2.out.1, (List.nodup_append.2 ⟨S3.out.1, S4.out.1, fun a ha b hb hab => by subst hab; exact D3_4.out a (S3.out.2 a ha) (S4.out.2 a hb)⟩), fun a ha b hb hab => by subst hab; exact (List.mem_append.1 hb).elim (fun hb => D2_3.out a (S2.out.2 a ha) (S3.out.2 a hb)) (fun hb => D2_4.out a (S2.out.2 a ha) (S4.out.2 a hb))⟩), fun a ha b hb hab => by subst hab; exact (List.mem_append.1 hb).elim (fun hb => D1_2.out a (S1.out.2 a ha) (S2.out.2 a hb)) (fun hb => (List.mem_append.1 hb).elim (fun hb => D1_3.out a (S1.out.2 a ha) (S3.out.2 a hb)) (fun hb => D1_4.out a (S1.out.2 a ha) (S4.out.2 a hb)))⟩), fun a ha b hb hab => by subst hab; exact (List.mem_append.1 hb).elim (fun hb => D0_1.out a (S0.out.2 a ha) (S1.out.2 a hb)) (fun hb => (List.mem_append.1 hb).elim (fun hb => D0_2.out a (S0.out.2 a ha) (S2.out.2 a hb)) (fun hb => (List.mem_append.1 hb).elim (fun hb => D0_3.out a (S0.out.2 a ha) (S3.out.2 a hb)) (fun hb => D0_4.out a (S0.out.2 a ha) (S4.out.2 a hb))))⟩)
  · intro b hb
    rcases List.mem_append.1 hb with hb | hb
    · exact (List.mem_append_left _ (S0.out.2 b hb))
    · rcases List.mem_append.1 hb with hb | hb
      · exact (List.mem_append_right _ (List.mem_append_left _ (S1.out.2 b hb)))
      · rcases List.mem_append.1 hb with hb | hb
        · exact (List.mem_append_right _ (List.mem_append_right _ (List.mem_append_left _ (S2.out.2 b hb))))
        · rcases List.mem_append.1 hb with hb | hb
          · exact (List.mem_append_right _ (List.mem_append_right _ (List.mem_append_right _ (List.mem_append_left _ (S3.out.2 b hb)))))
          · exact (List.mem_append_right _ (List.mem_append_right _ (List.mem_append_right _ (List.mem_append_right _ (S4.out.2 b hb)))))
end Go.Proofs.Ytaepohocabealaa

/-
  The laws' own looks for marks. No conditions.
-/
namespace Go.Proofs.Ytaepohocabealaa
open Go.RowKit
attribute [local go_sem] und_cell
set_option maxHeartbeats 2000000 in
theorem heldIntS_c (l : List Int) (A : Option Addr) (n c : Nat) (k : Int) (w : World) (B : Nat) (hl : Mm.SlAt Mm.int w B (Mm.mkL Pl.mkInt Pl.cnt1 l k) A n c) (hB : B ≤ w.heap.size) (h0 : 1 ≤ k) (h1 : k + Mm.cntL Pl.cnt1 l ≤ 1000000000000) :
    Calls Try.prog 75 #[.slice A n c, .int .i64 k] w fun e w' => e = .returned (.int .i64 (k + Mm.cntL Pl.cnt1 l)) ∧ Below w.heap.size w w' := by
  have hn : n ≤ 9223372036854775807 := by have := hl.2.1; have := hl.2.2.1; unfold maxLen at this; omega
  have hlen : Hid (l.length = n) := by have := hl.1; rw [Mm.mkL_len] at this; exact this
  have HL := Lib.hid hl
  have HN : Hid (∀ x : Int, 0 ≤ Pl.cnt1 x) := Pl.cnt1_nn
  clear hl
  go_enter Try.func75, Try.ntmps75
  go_wp2
  go_loopw [1, 5] (fun kk i wr => ∃ j : Nat, j ≤ n ∧ i = .int .i64 j ∧ kk = .int .i64 (k + Mm.cntL Pl.cnt1 (l.take j)) ∧ Below w.heap.size w wr) (fun _ i _ => n - (intOf i).toNat)
  case atStart => exact ⟨0, Nat.zero_le _, rfl, by simp [Mm.cntL], Below.refl _ _⟩
  case round =>
    obtain ⟨j, hj, rfl, rfl, hbel⟩ := hrel
    rename_i wr _
    by_cases hlt : j < n
    · obtain ⟨x, hx⟩ : ∃ x, l[j]? = some x := ⟨_, List.getElem?_eq_getElem (by have := hlen.out; omega)⟩
      have hc1 : Mm.cntL Pl.cnt1 (l.take (j + 1)) = Mm.cntL Pl.cnt1 (l.take j) + Pl.cnt1 x := Mm.cntL_succ hx
      have hc2 := Mm.cntL_take_le HN.out l (j + 1)
      have hc3 := Mm.cntL_nn HN.out (l.take j)
      have hc4 := HN.out x
      have hmg := Mm.mkL_get (mk := Pl.mkInt) (cnt := Pl.cnt1) (k := k) hx
      obtain ⟨kj, hkj⟩ : ∃ kj, k + Mm.cntL Pl.cnt1 (l.take j) = kj := ⟨_, rfl⟩
      rw [hkj]
      rw [hkj] at hmg
      have hk0 : 1 ≤ kj := by omega
      have hk1 : kj + Pl.cnt1 x ≤ 1000000000000 := by omega
      have HX := Lib.hid (And.intro hkj hc1)
      have hBw : B ≤ wr.heap.size := Nat.le_trans hB hbel.size
      obtain ⟨y, b, off, hy, rfl, hb, f0, d0⟩ := int_get (HL.out.keep (w' := wr) (fun b hb => hbel.block b (by omega))) hlt
      have hye : y = Pl.mkInt x kj := by rw [hy] at hmg; injection hmg
      rw [hye] at f0 d0
      clear hy hmg hkj hc1 hc2 hc3 hx hye
      have hcx : Pl.cnt1 x = 1 := rfl
      rw [hcx] at hk1
      have HCX := Lib.hid hcx
      clear hcx hc4
      have d0' : wr.cell? ⟨b, off + j, none⟩ = some (.int .i64 (kj)) := by exact d0
      clear d0
      clear f0
      go_wp2
      go_roundw
      case rel =>
        refine ⟨j + 1, by omega, by go_num, ?_, hbel⟩
        have h3 := HX.out.1; have h4 := HX.out.2; have h5 := HCX.out
        rw [h4]
        show Value.int .i64 _ = Value.int .i64 _
        congr 1
        omega
      case measure => simp [intOf]; omega
    · have HK : Hid (l.take j = l) := List.take_of_length_le (by have := hlen.out; omega)
      go_wp2
      go_ret
      exact ⟨ret_int (by rw [HK.out]), hbel⟩
set_option maxHeartbeats 2000000 in
theorem heldStringS_c (l : List ByteArray) (A : Option Addr) (n c : Nat) (k : Int) (w : World) (B : Nat) (hl : Mm.SlAt Mm.str w B (Mm.mkL Pl.mkStr Pl.cnt1 l k) A n c) (hB : B ≤ w.heap.size) (h0 : 1 ≤ k) (h1 : k + Mm.cntL Pl.cnt1 l ≤ 1000000000000) :
    Calls Try.prog 107 #[.slice A n c, .int .i64 k] w fun e w' => e = .returned (.int .i64 (k + Mm.cntL Pl.cnt1 l)) ∧ Below w.heap.size w w' := by
  have hn : n ≤ 9223372036854775807 := by have := hl.2.1; have := hl.2.2.1; unfold maxLen at this; omega
  have hlen : Hid (l.length = n) := by have := hl.1; rw [Mm.mkL_len] at this; exact this
  have HL := Lib.hid hl
  have HN : Hid (∀ x : ByteArray, 0 ≤ Pl.cnt1 x) := Pl.cnt1_nn
  clear hl
  go_enter Try.func107, Try.ntmps107
  go_wp2
  go_loopw [1, 5] (fun kk i wr => ∃ j : Nat, j ≤ n ∧ i = .int .i64 j ∧ kk = .int .i64 (k + Mm.cntL Pl.cnt1 (l.take j)) ∧ Below w.heap.size w wr) (fun _ i _ => n - (intOf i).toNat)
  case atStart => exact ⟨0, Nat.zero_le _, rfl, by simp [Mm.cntL], Below.refl _ _⟩
  case round =>
    obtain ⟨j, hj, rfl, rfl, hbel⟩ := hrel
    rename_i wr _
    by_cases hlt : j < n
    · obtain ⟨x, hx⟩ : ∃ x, l[j]? = some x := ⟨_, List.getElem?_eq_getElem (by have := hlen.out; omega)⟩
      have hc1 : Mm.cntL Pl.cnt1 (l.take (j + 1)) = Mm.cntL Pl.cnt1 (l.take j) + Pl.cnt1 x := Mm.cntL_succ hx
      have hc2 := Mm.cntL_take_le HN.out l (j + 1)
      have hc3 := Mm.cntL_nn HN.out (l.take j)
      have hc4 := HN.out x
      have hmg := Mm.mkL_get (mk := Pl.mkStr) (cnt := Pl.cnt1) (k := k) hx
      obtain ⟨kj, hkj⟩ : ∃ kj, k + Mm.cntL Pl.cnt1 (l.take j) = kj := ⟨_, rfl⟩
      rw [hkj]
      rw [hkj] at hmg
      have hk0 : 1 ≤ kj := by omega
      have hk1 : kj + Pl.cnt1 x ≤ 1000000000000 := by omega
      have HX := Lib.hid (And.intro hkj hc1)
      have hBw : B ≤ wr.heap.size := Nat.le_trans hB hbel.size
      obtain ⟨y, b, off, hy, rfl, hb, f0, d0⟩ := str_get (HL.out.keep (w' := wr) (fun b hb => hbel.block b (by omega))) hlt
      have hye : y = Pl.mkStr x kj := by rw [hy] at hmg; injection hmg
      rw [hye] at f0 d0
      clear hy hmg hkj hc1 hc2 hc3 hx hye
      have hcx : Pl.cnt1 x = 1 := rfl
      rw [hcx] at hk1
      have HCX := Lib.hid hcx
      clear hcx hc4
      have d0' : wr.cell? ⟨b, off + j, none⟩ = some (.string (Pl.mkText (kj))) := by exact d0
      clear d0
      clear f0
      go_wp2
      refine wp_region_und (by kernel_rfl) (by kernel_rfl) ?_
      repeat (go_big_quiet_step ((first | (go_at_call 69; exact und_call _ (markText_c _ _ (by omega) (by omega))))))
      refine wpQuiet_nil ?_
      intro X hX
      have HB1 := Lib.hid hX
      clear hX
      have HW1 := Lib.hid (below_step hbel HB1.out)
      have HV1 := Lib.hid (HB1.out)
      go_wp2
      go_roundw
      case rel =>
        refine ⟨j + 1, by omega, by go_num, ?_, HW1.out⟩
        have h3 := HX.out.1; have h4 := HX.out.2; have h5 := HCX.out
        rw [h4]
        show Value.int .i64 _ = Value.int .i64 _
        congr 1
        omega
      case measure => simp [intOf]; omega
    · have HK : Hid (l.take j = l) := List.take_of_length_le (by have := hlen.out; omega)
      go_wp2
      go_ret
      exact ⟨ret_int (by rw [HK.out]), hbel⟩
set_option maxHeartbeats 2000000 in
theorem heldBoolS_c (l : List Bool) (A : Option Addr) (n c : Nat) (k : Int) (w : World) (B : Nat) (hl : Mm.SlAt Mm.bool w B (Mm.mkL Pl.mkBool Pl.cnt1 l k) A n c) (hB : B ≤ w.heap.size) (h0 : 1 ≤ k) (h1 : k + Mm.cntL Pl.cnt1 l ≤ 1000000000000) :
    Calls Try.prog 40 #[.slice A n c, .int .i64 k] w fun e w' => e = .returned (.int .i64 (k + Mm.cntL Pl.cnt1 l)) ∧ Below w.heap.size w w' := by
  have hn : n ≤ 9223372036854775807 := by have := hl.2.1; have := hl.2.2.1; unfold maxLen at this; omega
  have hlen : Hid (l.length = n) := by have := hl.1; rw [Mm.mkL_len] at this; exact this
  have HL := Lib.hid hl
  have HN : Hid (∀ x : Bool, 0 ≤ Pl.cnt1 x) := Pl.cnt1_nn
  clear hl
  go_enter Try.func40, Try.ntmps40
  go_wp2
  go_loopw [1, 5] (fun kk i wr => ∃ j : Nat, j ≤ n ∧ i = .int .i64 j ∧ kk = .int .i64 (k + Mm.cntL Pl.cnt1 (l.take j)) ∧ Below w.heap.size w wr) (fun _ i _ => n - (intOf i).toNat)
  case atStart => exact ⟨0, Nat.zero_le _, rfl, by simp [Mm.cntL], Below.refl _ _⟩
  case round =>
    obtain ⟨j, hj, rfl, rfl, hbel⟩ := hrel
    rename_i wr _
    by_cases hlt : j < n
    · obtain ⟨x, hx⟩ : ∃ x, l[j]? = some x := ⟨_, List.getElem?_eq_getElem (by have := hlen.out; omega)⟩
      have hc1 : Mm.cntL Pl.cnt1 (l.take (j + 1)) = Mm.cntL Pl.cnt1 (l.take j) + Pl.cnt1 x := Mm.cntL_succ hx
      have hc2 := Mm.cntL_take_le HN.out l (j + 1)
      have hc3 := Mm.cntL_nn HN.out (l.take j)
      have hc4 := HN.out x
      have hmg := Mm.mkL_get (mk := Pl.mkBool) (cnt := Pl.cnt1) (k := k) hx
      obtain ⟨kj, hkj⟩ : ∃ kj, k + Mm.cntL Pl.cnt1 (l.take j) = kj := ⟨_, rfl⟩
      rw [hkj]
      rw [hkj] at hmg
      have hk0 : 1 ≤ kj := by omega
      have hk1 : kj + Pl.cnt1 x ≤ 1000000000000 := by omega
      have HX := Lib.hid (And.intro hkj hc1)
      have hBw : B ≤ wr.heap.size := Nat.le_trans hB hbel.size
      obtain ⟨y, b, off, hy, rfl, hb, d0⟩ := bool_get (HL.out.keep (w' := wr) (fun b hb => hbel.block b (by omega))) hlt
      have hye : y = Pl.mkBool x kj := by rw [hy] at hmg; injection hmg
      rw [hye] at d0
      clear hy hmg hkj hc1 hc2 hc3 hx hye
      have hcx : Pl.cnt1 x = 1 := rfl
      rw [hcx] at hk1
      have HCX := Lib.hid hcx
      clear hcx hc4
      have d0' : wr.cell? ⟨b, off + j, none⟩ = some (.bool (kj % 3 == 0)) := by exact d0
      clear d0
      go_wp2
      go_roundw
      case rel =>
        refine ⟨j + 1, by omega, by go_num, ?_, hbel⟩
        have h3 := HX.out.1; have h4 := HX.out.2; have h5 := HCX.out
        rw [h4]
        show Value.int .i64 _ = Value.int .i64 _
        congr 1
        omega
      case measure => simp [intOf]; omega
    · have HK : Hid (l.take j = l) := List.take_of_length_le (by have := hlen.out; omega)
      go_wp2
      go_ret
      exact ⟨ret_int (by rw [HK.out]), hbel⟩
set_option maxHeartbeats 2000000 in
theorem heldStringSS_c (l : List (List ByteArray)) (A : Option Addr) (n c : Nat) (k : Int) (w : World) (B : Nat) (hl : Mm.SlAt strs w B (Mm.mkL (Mm.mkL Pl.mkStr Pl.cnt1) (Mm.cntL Pl.cnt1) l k) A n c) (hB : B ≤ w.heap.size) (h0 : 1 ≤ k) (h1 : k + Mm.cntL (Mm.cntL Pl.cnt1) l ≤ 1000000000000) :
    Calls Try.prog 74 #[.slice A n c, .int .i64 k] w fun e w' => e = .returned (.int .i64 (k + Mm.cntL (Mm.cntL Pl.cnt1) l)) ∧ Below w.heap.size w w' := by
  have hn : n ≤ 9223372036854775807 := by have := hl.2.1; have := hl.2.2.1; unfold maxLen at this; omega
  have hlen : Hid (l.length = n) := by have := hl.1; rw [Mm.mkL_len] at this; exact this
  have HL := Lib.hid hl
  have HN : Hid (∀ x : (List ByteArray), 0 ≤ (Mm.cntL Pl.cnt1) x) := Mm.cntL_nn (cnt := Pl.cnt1) (Pl.cnt1_nn)
  clear hl
  go_enter Try.func74, Try.ntmps74
  go_wp2
  go_loopw [1, 5] (fun kk i wr => ∃ j : Nat, j ≤ n ∧ i = .int .i64 j ∧ kk = .int .i64 (k + Mm.cntL (Mm.cntL Pl.cnt1) (l.take j)) ∧ Below w.heap.size w wr) (fun _ i _ => n - (intOf i).toNat)
  case atStart => exact ⟨0, Nat.zero_le _, rfl, by simp [Mm.cntL], Below.refl _ _⟩
  case round =>
    obtain ⟨j, hj, rfl, rfl, hbel⟩ := hrel
    rename_i wr _
    by_cases hlt : j < n
    · obtain ⟨x, hx⟩ : ∃ x, l[j]? = some x := ⟨_, List.getElem?_eq_getElem (by have := hlen.out; omega)⟩
      have hc1 : Mm.cntL (Mm.cntL Pl.cnt1) (l.take (j + 1)) = Mm.cntL (Mm.cntL Pl.cnt1) (l.take j) + (Mm.cntL Pl.cnt1) x := Mm.cntL_succ hx
      have hc2 := Mm.cntL_take_le HN.out l (j + 1)
      have hc3 := Mm.cntL_nn HN.out (l.take j)
      have hc4 := HN.out x
      have hmg := Mm.mkL_get (mk := (Mm.mkL Pl.mkStr Pl.cnt1)) (cnt := (Mm.cntL Pl.cnt1)) (k := k) hx
      obtain ⟨kj, hkj⟩ : ∃ kj, k + Mm.cntL (Mm.cntL Pl.cnt1) (l.take j) = kj := ⟨_, rfl⟩
      rw [hkj]
      rw [hkj] at hmg
      have hk0 : 1 ≤ kj := by omega
      have hk1 : kj + (Mm.cntL Pl.cnt1) x ≤ 1000000000000 := by omega
      have HX := Lib.hid (And.intro hkj hc1)
      have hBw : B ≤ wr.heap.size := Nat.le_trans hB hbel.size
      obtain ⟨y, b, off, P, p, q, hy, rfl, hb, f0, d0⟩ := strs_get (HL.out.keep (w' := wr) (fun b hb => hbel.block b (by omega))) hlt
      have hye : y = (Mm.mkL Pl.mkStr Pl.cnt1) x kj := by rw [hy] at hmg; injection hmg
      rw [hye] at f0
      clear hy hmg hkj hc1 hc2 hc3 hx hye
      have hcx : (Mm.cntL Pl.cnt1) x = (Mm.cntL Pl.cnt1) x := rfl
      have HCX := Lib.hid hcx
      clear hcx
      have HF := Lib.hid f0
      clear f0
      go_wp2_with fail
      refine (heldStringS_c x _ _ _ _ _ B (Mm.SlAt.keep (w' := _) HF.out (fun b hb => rfl)) (hBw) (by omega) (by omega)).mono ?_
      rintro e v1 ⟨rfl, hb1⟩
      have HB1 := Lib.hid hb1
      clear hb1
      have HW1 := Lib.hid (below_step hbel HB1.out)
      have HV1 := Lib.hid (HB1.out)
      go_wp2
      go_roundw
      case rel =>
        refine ⟨j + 1, by omega, by go_num, ?_, HW1.out⟩
        have h3 := HX.out.1; have h4 := HX.out.2; have h5 := HCX.out
        rw [h4]
        show Value.int .i64 _ = Value.int .i64 _
        congr 1
        omega
      case measure => simp [intOf]; omega
    · have HK : Hid (l.take j = l) := List.take_of_length_le (by have := hlen.out; omega)
      go_wp2
      go_ret
      exact ⟨ret_int (by rw [HK.out]), hbel⟩
set_option maxHeartbeats 2000000 in
theorem heldToldS_c (l : List Told) (A : Option Addr) (n c : Nat) (k : Int) (w : World) (B : Nat) (hl : Mm.SlAt rTold w B (Mm.mkL Pl.mkTold Pl.cntTold l k) A n c) (hB : B ≤ w.heap.size) (h0 : 1 ≤ k) (h1 : k + Mm.cntL Pl.cntTold l ≤ 1000000000000) :
    Calls Try.prog 77 #[.slice A n c, .int .i64 k] w fun e w' => e = .returned (.int .i64 (k + Mm.cntL Pl.cntTold l)) ∧ Below w.heap.size w w' := by
  have hn : n ≤ 9223372036854775807 := by have := hl.2.1; have := hl.2.2.1; unfold maxLen at this; omega
  have hlen : Hid (l.length = n) := by have := hl.1; rw [Mm.mkL_len] at this; exact this
  have HL := Lib.hid hl
  have HN : Hid (∀ x : Told, 0 ≤ Pl.cntTold x) := Pl.cntTold_nn
  clear hl
  go_enter Try.func77, Try.ntmps77
  go_wp2
  go_loopw [1, 5] (fun kk i wr => ∃ j : Nat, j ≤ n ∧ i = .int .i64 j ∧ kk = .int .i64 (k + Mm.cntL Pl.cntTold (l.take j)) ∧ Below w.heap.size w wr) (fun _ i _ => n - (intOf i).toNat)
  case atStart => exact ⟨0, Nat.zero_le _, rfl, by simp [Mm.cntL], Below.refl _ _⟩
  case round =>
    obtain ⟨j, hj, rfl, rfl, hbel⟩ := hrel
    rename_i wr _
    by_cases hlt : j < n
    · obtain ⟨x, hx⟩ : ∃ x, l[j]? = some x := ⟨_, List.getElem?_eq_getElem (by have := hlen.out; omega)⟩
      have hc1 : Mm.cntL Pl.cntTold (l.take (j + 1)) = Mm.cntL Pl.cntTold (l.take j) + Pl.cntTold x := Mm.cntL_succ hx
      have hc2 := Mm.cntL_take_le HN.out l (j + 1)
      have hc3 := Mm.cntL_nn HN.out (l.take j)
      have hc4 := HN.out x
      have hmg := Mm.mkL_get (mk := Pl.mkTold) (cnt := Pl.cntTold) (k := k) hx
      obtain ⟨kj, hkj⟩ : ∃ kj, k + Mm.cntL Pl.cntTold (l.take j) = kj := ⟨_, rfl⟩
      rw [hkj]
      rw [hkj] at hmg
      have hk0 : 1 ≤ kj := by omega
      have hk1 : kj + Pl.cntTold x ≤ 1000000000000 := by omega
      have HX := Lib.hid (And.intro hkj hc1)
      have hBw : B ≤ wr.heap.size := Nat.le_trans hB hbel.size
      obtain ⟨y, b, off, hy, rfl, hb, f0, f1, f2, d0, d1, d2⟩ := rTold_get (HL.out.keep (w' := wr) (fun b hb => hbel.block b (by omega))) hlt
      have hye : y = Pl.mkTold x kj := by rw [hy] at hmg; injection hmg
      rw [hye] at f0 f1 f2 d0 d1 d2
      clear hy hmg hkj hc1 hc2 hc3 hx hye
      have hcx : Pl.cntTold x = 1 + 1 + 1 := rfl
      rw [hcx] at hk1 hc4
      have HCX := Lib.hid hcx
      clear hcx hc4
      have d0' : wr.cell? ⟨b, off + j * 3, none⟩ = some (.int .i64 (kj)) := by exact d0
      clear d0
      have d1' : wr.cell? ⟨b, off + j * 3 + 1, none⟩ = some (.int .i64 ((kj + 1))) := by exact d1
      clear d1
      have d2' : wr.cell? ⟨b, off + j * 3 + 2, none⟩ = some (.string (Pl.mkText (((kj + 1) + 1)))) := by exact d2
      clear d2
      clear f0 f1 f2
      go_wp2
      refine wp_region_und (by kernel_rfl) (by kernel_rfl) ?_
      repeat (go_big_quiet_step ((first | (go_at_call 69; exact und_call _ (markText_c _ _ (by omega) (by omega))))))
      refine wpQuiet_nil ?_
      intro X hX
      have HB1 := Lib.hid hX
      clear hX
      have HW1 := Lib.hid (below_step hbel HB1.out)
      have HV1 := Lib.hid (HB1.out)
      go_wp2
      go_roundw
      case rel =>
        refine ⟨j + 1, by omega, by go_num, ?_, HW1.out⟩
        have h3 := HX.out.1; have h4 := HX.out.2; have h5 := HCX.out
        rw [h4]
        show Value.int .i64 _ = Value.int .i64 _
        congr 1
        omega
      case measure => simp [intOf]; omega
    · have HK : Hid (l.take j = l) := List.take_of_length_le (by have := hlen.out; omega)
      go_wp2
      go_ret
      exact ⟨ret_int (by rw [HK.out]), hbel⟩
set_option maxHeartbeats 2000000 in
theorem heldNoteS_c (l : List Note) (A : Option Addr) (n c : Nat) (k : Int) (w : World) (B : Nat) (hl : Mm.SlAt rNote w B (Mm.mkL Pl.mkNote Pl.cntNote l k) A n c) (hB : B ≤ w.heap.size) (h0 : 1 ≤ k) (h1 : k + Mm.cntL Pl.cntNote l ≤ 1000000000000) :
    Calls Try.prog 76 #[.slice A n c, .int .i64 k] w fun e w' => e = .returned (.int .i64 (k + Mm.cntL Pl.cntNote l)) ∧ Below w.heap.size w w' := by
  have hn : n ≤ 9223372036854775807 := by have := hl.2.1; have := hl.2.2.1; unfold maxLen at this; omega
  have hlen : Hid (l.length = n) := by have := hl.1; rw [Mm.mkL_len] at this; exact this
  have HL := Lib.hid hl
  have HN : Hid (∀ x : Note, 0 ≤ Pl.cntNote x) := Pl.cntNote_nn
  clear hl
  go_enter Try.func76, Try.ntmps76
  go_wp2
  go_loopw [1, 5] (fun kk i wr => ∃ j : Nat, j ≤ n ∧ i = .int .i64 j ∧ kk = .int .i64 (k + Mm.cntL Pl.cntNote (l.take j)) ∧ Below w.heap.size w wr) (fun _ i _ => n - (intOf i).toNat)
  case atStart => exact ⟨0, Nat.zero_le _, rfl, by simp [Mm.cntL], Below.refl _ _⟩
  case round =>
    obtain ⟨j, hj, rfl, rfl, hbel⟩ := hrel
    rename_i wr _
    by_cases hlt : j < n
    · obtain ⟨x, hx⟩ : ∃ x, l[j]? = some x := ⟨_, List.getElem?_eq_getElem (by have := hlen.out; omega)⟩
      have hc1 : Mm.cntL Pl.cntNote (l.take (j + 1)) = Mm.cntL Pl.cntNote (l.take j) + Pl.cntNote x := Mm.cntL_succ hx
      have hc2 := Mm.cntL_take_le HN.out l (j + 1)
      have hc3 := Mm.cntL_nn HN.out (l.take j)
      have hc4 := HN.out x
      have hmg := Mm.mkL_get (mk := Pl.mkNote) (cnt := Pl.cntNote) (k := k) hx
      obtain ⟨kj, hkj⟩ : ∃ kj, k + Mm.cntL Pl.cntNote (l.take j) = kj := ⟨_, rfl⟩
      rw [hkj]
      rw [hkj] at hmg
      have hk0 : 1 ≤ kj := by omega
      have hk1 : kj + Pl.cntNote x ≤ 1000000000000 := by omega
      have HX := Lib.hid (And.intro hkj hc1)
      have hBw : B ≤ wr.heap.size := Nat.le_trans hB hbel.size
      obtain ⟨y, b, off, hy, rfl, hb, f0, f1, f2, d0, d1, d2, d3⟩ := rNote_get (HL.out.keep (w' := wr) (fun b hb => hbel.block b (by omega))) hlt
      have hye : y = Pl.mkNote x kj := by rw [hy] at hmg; injection hmg
      rw [hye] at f0 f1 f2 d0 d1 d2 d3
      clear hy hmg hkj hc1 hc2 hc3 hx hye
      have hcx : Pl.cntNote x = 1 + 1 + 1 + 1 := rfl
      rw [hcx] at hk1 hc4
      have HCX := Lib.hid hcx
      clear hcx hc4
      have d0' : wr.cell? ⟨b, off + j * 4, none⟩ = some (.bool (kj % 3 == 0)) := by exact d0
      clear d0
      have d1' : wr.cell? ⟨b, off + j * 4 + 1, none⟩ = some (.int .i64 ((kj + 1))) := by exact d1
      clear d1
      have d2' : wr.cell? ⟨b, off + j * 4 + 2, none⟩ = some (.int .i64 (((kj + 1) + 1))) := by exact d2
      clear d2
      have d3' : wr.cell? ⟨b, off + j * 4 + 3, none⟩ = some (.string (Pl.mkText ((((kj + 1) + 1) + 1)))) := by exact d3
      clear d3
      clear f0 f1 f2
      go_wp2
      refine wp_region_und (by kernel_rfl) (by kernel_rfl) ?_
      repeat (go_big_quiet_step ((first | (go_at_call 69; exact und_call _ (markText_c _ _ (by omega) (by omega))))))
      refine wpQuiet_nil ?_
      intro X hX
      have HB1 := Lib.hid hX
      clear hX
      have HW1 := Lib.hid (below_step hbel HB1.out)
      have HV1 := Lib.hid (HB1.out)
      go_wp2
      go_roundw
      case rel =>
        refine ⟨j + 1, by omega, by go_num, ?_, HW1.out⟩
        have h3 := HX.out.1; have h4 := HX.out.2; have h5 := HCX.out
        rw [h4]
        show Value.int .i64 _ = Value.int .i64 _
        congr 1
        omega
      case measure => simp [intOf]; omega
    · have HK : Hid (l.take j = l) := List.take_of_length_le (by have := hlen.out; omega)
      go_wp2
      go_ret
      exact ⟨ret_int (by rw [HK.out]), hbel⟩
set_option maxHeartbeats 2000000 in
theorem heldTell_c (x : Tell) (cs : List Value) (k : Int) (w : World) (B : Nat) (ha : rTell.at_ w B (Pl.topTell x k) cs) (hB : B ≤ w.heap.size) (h0 : 1 ≤ k) (h1 : k + Pl.ctopTell x ≤ 1000000000000) :
    Calls Try.prog 39 #[.agg cs.toArray, .int .i64 k] w fun e w' => e = .returned (.int .i64 (k + Pl.ctopTell x)) ∧ Below w.heap.size w w' := by
  obtain ⟨A0, n0, c0, A1, n1, c1, A2, n2, c2, A3, n3, c3, A4, n4, c4, rfl, g0, g1, g2, g3, g4⟩ := rTell_at ha
  have hq0 := Mm.cntL_nn (cnt := (Mm.cntL Pl.cnt1)) (Mm.cntL_nn (cnt := Pl.cnt1) (Pl.cnt1_nn)) x.Texts
  have hq1 := Mm.cntL_nn (cnt := Pl.cnt1) (Pl.cnt1_nn) x.Heard
  have hq2 := Mm.cntL_nn (cnt := Pl.cntNote) (Pl.cntNote_nn) x.Line
  have hq3 := Mm.cntL_nn (cnt := Pl.cntTold) (Pl.cntTold_nn) x.Log
  have hq4 := Mm.cntL_nn (cnt := Pl.cnt1) (Pl.cnt1_nn) x.Next
  have hct : Pl.ctopTell x = (Mm.cntL (Mm.cntL Pl.cnt1)) x.Texts + (Mm.cntL Pl.cnt1) x.Heard + (Mm.cntL Pl.cntNote) x.Line + (Mm.cntL Pl.cntTold) x.Log + (Mm.cntL Pl.cnt1) x.Next := rfl
  rw [hct] at h1
  have HCT := Lib.hid hct
  clear hct
  have KB := Lib.hid (Mm.Blk.new w 31 [.slice A0 n0 c0, .slice A1 n1 c1, .slice A2 n2 c2, .slice A3 n3 c3, .slice A4 n4 c4])
  have HB := Lib.hid (below_new (Below.refl w.heap.size w) (.cells #[.slice A0 n0 c0, .slice A1 n1 c1, .slice A2 n2 c2, .slice A3 n3 c3, .slice A4 n4 c4] 31))
  have HG := Lib.hid (And.intro hB (And.intro g0 (And.intro g1 (And.intro g2 (And.intro g3 g4)))))
  clear ha g0 g1 g2 g3 g4
  go_enter Try.func39, Try.ntmps39
  go_wp2_with fail
  refine (heldStringSS_c x.Texts _ _ _ _ _ B (HG.out.2.1.keep fun b hb => HB.out.block b (Nat.lt_of_lt_of_le hb HG.out.1)) (Nat.le_trans HG.out.1 HB.out.size) (by omega) (by omega)).mono ?_
  rintro e v0 ⟨rfl, hb0⟩
  have HB := Lib.hid (below_step HB.out hb0)
  have KB := Lib.hid (KB.out.bel hb0)
  clear hb0
  have e0_1 := KB.out.cell (i := 1) rfl
  have e0_2 := KB.out.cell (i := 2) rfl
  have e0_3 := KB.out.cell (i := 3) rfl
  have e0_4 := KB.out.cell (i := 4) rfl
  go_wp2_with fail
  refine (heldIntS_c x.Heard _ _ _ _ _ B (HG.out.2.2.1.keep fun b hb => HB.out.block b (Nat.lt_of_lt_of_le hb HG.out.1)) (Nat.le_trans HG.out.1 HB.out.size) (by omega) (by omega)).mono ?_
  rintro e v1 ⟨rfl, hb1⟩
  have HB := Lib.hid (below_step HB.out hb1)
  have KB := Lib.hid (KB.out.bel hb1)
  clear hb1
  have e1_2 := KB.out.cell (i := 2) rfl
  have e1_3 := KB.out.cell (i := 3) rfl
  have e1_4 := KB.out.cell (i := 4) rfl
  go_wp2_with fail
  refine (heldNoteS_c x.Line _ _ _ _ _ B (HG.out.2.2.2.1.keep fun b hb => HB.out.block b (Nat.lt_of_lt_of_le hb HG.out.1)) (Nat.le_trans HG.out.1 HB.out.size) (by omega) (by omega)).mono ?_
  rintro e v2 ⟨rfl, hb2⟩
  have HB := Lib.hid (below_step HB.out hb2)
  have KB := Lib.hid (KB.out.bel hb2)
  clear hb2
  have e2_3 := KB.out.cell (i := 3) rfl
  have e2_4 := KB.out.cell (i := 4) rfl
  go_wp2_with fail
  refine (heldToldS_c x.Log _ _ _ _ _ B (HG.out.2.2.2.2.1.keep fun b hb => HB.out.block b (Nat.lt_of_lt_of_le hb HG.out.1)) (Nat.le_trans HG.out.1 HB.out.size) (by omega) (by omega)).mono ?_
  rintro e v3 ⟨rfl, hb3⟩
  have HB := Lib.hid (below_step HB.out hb3)
  have KB := Lib.hid (KB.out.bel hb3)
  clear hb3
  have e3_4 := KB.out.cell (i := 4) rfl
  go_wp2_with fail
  refine (heldIntS_c x.Next _ _ _ _ _ B (HG.out.2.2.2.2.2.keep fun b hb => HB.out.block b (Nat.lt_of_lt_of_le hb HG.out.1)) (Nat.le_trans HG.out.1 HB.out.size) (by omega) (by omega)).mono ?_
  rintro e v4 ⟨rfl, hb4⟩
  have HB := Lib.hid (below_step HB.out hb4)
  have KB := Lib.hid (KB.out.bel hb4)
  clear hb4
  go_wp2
  go_ret
  exact ⟨ret_int (by have := HCT.out; omega), HB.out⟩
end Go.Proofs.Ytaepohocabealaa

/-
  The laws' own types, opened. No conditions.
-/
namespace Go.Proofs.Ytaepohocabealaa
theorem opens_IntS : Mm.Opens Try.prog 27 (Mm.slice Mm.int 3) := Mm.opens_slice Try.underlying27 (by kernel_rfl) (by decide) (Mm.opens_int Try.underlying3 (by kernel_rfl))
theorem opens_StringS : Mm.Opens Try.prog 40 (Mm.slice Mm.str 9) := Mm.opens_slice Try.underlying40 (by kernel_rfl) (by decide) (Mm.opens_str Try.underlying9 (by kernel_rfl))
theorem opens_BoolS : Mm.Opens Try.prog 32 (Mm.slice Mm.bool 4) := Mm.opens_slice Try.underlying32 (by kernel_rfl) (by decide) (Mm.opens_bool Try.underlying4 (by kernel_rfl))
theorem opens_StringSS : Mm.Opens Try.prog 26 (Mm.slice strs 40) := Mm.opens_slice Try.underlying26 (by kernel_rfl) (by decide) opens_StringS
theorem opens_Told : Mm.Opens Try.prog 132 rTold :=
  Mm.opens_map (Mm.opens_struct (E := (Mm.pair Mm.int (Mm.pair Mm.int Mm.str))) Try.underlying132 (by kernel_rfl) (Mm.opensF_cons rfl (Mm.opens_int Try.underlying3 (by kernel_rfl)) (Mm.opensF_cons rfl (Mm.opens_int Try.underlying3 (by kernel_rfl)) (Mm.opensF_one rfl (Mm.opens_str Try.underlying9 (by kernel_rfl)))))) rfl
    (fun w B x cs h => by obtain ⟨_, _, rfl, ⟨rfl, h0⟩, ⟨_, _, rfl, ⟨rfl, h1⟩, ⟨rfl, h2⟩⟩⟩ := h; exact ⟨⟨x.1, x.2.1, x.2.2⟩, rfl, ⟨h0, h1, h2⟩⟩)
theorem opens_ToldS : Mm.Opens Try.prog 72 (Mm.slice rTold 132) := Mm.opens_slice Try.underlying72 (by kernel_rfl) (by decide) opens_Told
theorem opens_Note : Mm.Opens Try.prog 134 rNote :=
  Mm.opens_map (Mm.opens_struct (E := (Mm.pair Mm.bool rTold)) Try.underlying134 (by kernel_rfl) (Mm.opensF_cons rfl (Mm.opens_bool Try.underlying4 (by kernel_rfl)) (Mm.opensF_one rfl opens_Told))) rfl
    (fun w B x cs h => by obtain ⟨_, _, rfl, ⟨rfl, h0⟩, ⟨rfl, h1⟩⟩ := h; exact ⟨⟨x.1, x.2⟩, rfl, ⟨h1.1, h1.2.1, h1.2.2⟩⟩)
theorem opens_NoteS : Mm.Opens Try.prog 71 (Mm.slice rNote 134) := Mm.opens_slice Try.underlying71 (by kernel_rfl) (by decide) opens_Note
theorem opens_TellStep : Mm.Opens Try.prog 78 rTellStep :=
  Mm.opens_map (Mm.opens_struct (E := (Mm.pair Mm.int (Mm.pair Mm.int Mm.str))) Try.underlying78 (by kernel_rfl) (Mm.opensF_cons rfl (Mm.opens_int Try.underlying3 (by kernel_rfl)) (Mm.opensF_cons rfl (Mm.opens_int Try.underlying3 (by kernel_rfl)) (Mm.opensF_one rfl (Mm.opens_str Try.underlying9 (by kernel_rfl)))))) rfl
    (fun w B x cs h => by obtain ⟨_, _, rfl, ⟨rfl, h0⟩, ⟨_, _, rfl, ⟨rfl, h1⟩, ⟨rfl, h2⟩⟩⟩ := h; exact ⟨⟨x.1, x.2.1, x.2.2⟩, rfl, ⟨h0, h1, h2⟩⟩)
theorem opens_TellStepS : Mm.Opens Try.prog 63 (Mm.slice rTellStep 78) := Mm.opens_slice Try.underlying63 (by kernel_rfl) (by decide) opens_TellStep
theorem opens_Tell : Mm.Opens Try.prog 74 rTell :=
  Mm.opens_map (Mm.opens_struct (E := (Mm.pair strss (Mm.pair ints (Mm.pair rNoteS (Mm.pair rToldS ints))))) Try.underlying74 (by kernel_rfl) (Mm.opensF_cons rfl opens_StringSS (Mm.opensF_cons rfl opens_IntS (Mm.opensF_cons rfl opens_NoteS (Mm.opensF_cons rfl opens_ToldS (Mm.opensF_one rfl opens_IntS)))))) rfl
    (fun w B x cs h => ⟨⟨x.1, x.2.1, x.2.2.1, x.2.2.2.1, x.2.2.2.2⟩, h⟩)
end Go.Proofs.Ytaepohocabealaa
