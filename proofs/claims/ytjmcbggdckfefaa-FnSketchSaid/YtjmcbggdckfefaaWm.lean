/-
  Contracts: the reference's copy of a sketch; AddSketch, JoinSketches. No conditions.
-/
import Derived.Test.YtjmcbggdckfefaaWl
import Derived.Test.YtjmcbggdckfefaaSc
namespace Go.Proofs.Ytjmcbggdckfefaa
open Go.RowKit
attribute [local go_sem] und_cell World.cell?_alloc_some
theorem Try.infoI : (Try.prog.info? 3).map (fun i => (i.zero, i.size, i.bytes)) = some (some (.int .i64 0), 1, 8) := by kernel_rfl
theorem Pl.take_snoc' {α : Type} {l : List α} {k : Nat} {x : α} (h : l[k]? = some x) : l.take (k + 1) = l.take k ++ [x] := by
  obtain ⟨hk, rfl⟩ := List.getElem?_eq_some_iff.1 h
  exact List.take_succ_eq_append_getElem hk
set_option maxRecDepth 100000 in
set_option maxHeartbeats 1000000 in
theorem l15Own_c (s : Sketch) (A : Option Addr) (n c : Nat) (w : World) (B : Nat) (hh : sk.at_ w B s [.slice A n c, .int .i64 s.Total]) (hB : B ≤ w.heap.size) (hk : Pl.sketchOk s = true) :
    Calls Try.prog 57 #[.agg #[.slice A n c, .int .i64 s.Total]] w (Mm.NewAg sk w s) := by
  obtain ⟨A', n', c', hcs, h0, g0⟩ := sk_at hh
  simp only [List.cons.injEq, Value.slice.injEq, and_true] at hcs
  obtain ⟨rfl, rfl, rfl⟩ := hcs
  have hlen := Lib.hid h0.1
  have HL := Lib.hid h0
  have HG := Lib.hid g0
  clear h0 hh g0
  have HRB := Lib.hid (fun (k : Nat) (r : List Int) (hr : s.Rows[k]? = some r) => Pl.rows_bd hk hr)
  have hn3 : 1 ≤ n ∧ n ≤ 3 := by
    have h1 := hk
    unfold Pl.sketchOk at h1
    rw [Bool.and_eq_true, Pl.isIn_iff, hlen.out] at h1
    omega
  have KS0 := Lib.hid (((((Mm.Sep.start w).alloc' rfl 26 [.slice A n c, .int .i64 s.Total]).alloc' (Mm.sz1 _ _) 26 [.slice none 0 0, .int .i64 0]).alloc' (Mm.sz2 _ _ _) 26 [.slice none 0 0, .int .i64 s.Total]).add (t := Mm.tsl ints 34 [] (.slice none 0 0) []) (Below.refl _ _) Mm.SlOwn.nil List.nodup_nil (fun b hb => by cases hb))
  go_enter Try.func57, Try.ntmps57
  go_wp2
  go_loopg [12] n (fun g i wr => ∃ (k : Nat) (A' : Option Addr) (c' : Nat) (fp : List Nat), n - k ≤ g ∧ k ≤ n ∧ i = .int .i64 k ∧ Hid (Mm.Sep w wr [Mm.tsl ints 34 (s.Rows.take k) (.slice A' k c') fp, Mm.tblk (w.heap.size + 2) 26 [.slice A' k c', .int .i64 s.Total], Mm.tblk (w.heap.size + 1) 26 [.slice none 0 0, .int .i64 0], Mm.tblk w.heap.size 26 [.slice A n c, .int .i64 s.Total]]))
  case atStart => exact ⟨0, none, 0, [], Nat.le_refl _, Nat.zero_le _, rfl, KS0.out⟩
  case round =>
    obtain ⟨k, A', c', fp, hgk, hk', rfl, HS⟩ := hrel
    have hbel := HS.out.bel
    have hsw := hbel.size
    have d0 := HS.out.cell (k := 0) 1 rfl rfl
    have z0 := HS.out.frz (k := 0) 1 rfl
    by_cases hlt : k < n
    · obtain ⟨r, b0, off, A1, n1, c1, hx, rfl, hb, hr, e0⟩ := ints_get HL.out hlt
      have hrb := HRB.out k r hx
      have hn1 : n1 = 11 := hr.1.symm.trans hrb.1
      subst hn1
      have e0' := below_some hbel e0
      have HRW := Lib.hid (show Mm.SlAt Mm.int (wr.alloc (.cells #[] 3)).drew B r A1 11 c1 from hr.keep fun b' hb' => (Below.heap_alloc wr _ b' (by omega)).trans (hbel.block b' (by omega)))
      have HN := Lib.hid (Pl.take_snoc' hx)
      have htl := List.length_take_of_le (l := s.Rows) (i := k) (by rw [hlen.out]; omega)
      have HTL := Lib.hid htl
      obtain ⟨i0, hi, hz0, hz1, hz2⟩ := info_parts Try.infoRow
      obtain ⟨i1, hi1, hy0, hy1, hy2⟩ := info_parts Try.infoI
      clear hrb hx hr e0 htl
      go_wp2
      go_region_law (first
        | (refine Mm.step_clone (by rfl) (.tmp 18) (.tmp 19) 34 (by rfl) Mm.flat_int i1 _ 8 Try.underlying34 hi1 hy0 hy1 hy2 rfl (by decide) HS.out ((below_new (Below.refl wr.heap.size wr) (.cells #[] 3)).drew) (heap_alloc_new wr _) (Nat.le_refl _) HRW.out (by unfold maxLen; omega) (by omega) (by rfl) (by rfl) ?_; intro A2 c2 fp2 w1 hs1 hb1; obtain ⟨l0, ho3, hnext⟩ := hs1.push (W2 := w1.alloc (.cells #[.slice A2 11 c2] 34)) 1 0 (by decide) rfl rfl (below_new (Below.refl _ _) _) (x := r) (cx := [.slice A2 11 c2]) (fun W h => ⟨_, rfl, h⟩); rw [HTL.out] at ho3 hnext; (have HNX := Lib.hid hnext); (have HS1 := Lib.hid hs1); (have d1 := hs1.cell (k := 0) 2 rfl rfl); (have z1 := hs1.frz (k := 0) 2 rfl); clear hnext hs1 hb1)
        | (refine step_append_lies _ (by rfl) (.tmp 17) (.tmp 21) 22 (by rfl) 0 34 i0 _ 1 24 Try.underlying22 hi hz0 hz1 hz2 rfl (by omega) (.slice A' k c') k l0 (by rfl) ho3 ⟨w1.heap.size, 0, none⟩ 1 1 [.slice A2 11 c2] (by rfl) (by rfl) (World.news_of_block (B := w1.heap.size) (cs := #[.slice A2 11 c2]) (t := 34) (fr := (0, 0)) (heap_alloc_new w1 _)) (by simp [Value.oneCell']) (by omega) (by unfold maxLen; omega) (by omega) (Nat.zero_le _) _ rfl ?_; intro gg cap w4 hown1 hgrow hat hlt'; obtain ⟨fp', hs4⟩ := HNX.out gg cap w4 hown1 hgrow hat; (have HS4 := Lib.hid hs4); (have d0' := HS4.out.cell (k := 0) 2 rfl rfl); (have z0' := HS4.out.frz (k := 0) 2 rfl); clear hs4 hown1 hgrow hat))
      all_goals
        go_wp2
        go_roundg (n - (k + 1))
        case measure => omega
        case rel => exact ⟨k + 1, _, cap, fp', Nat.le_refl _, by omega, by go_num, by rw [HN.out]; exact (HS4.out.setBlk 2 rfl _).tail⟩
    · obtain rfl : k = n := by omega
      have HE : Hid (s.Rows.take k = s.Rows) := List.take_of_length_le (by rw [hlen.out]; exact Nat.le_refl _)
      have d1 := HS.out.cell (k := 1) 1 rfl rfl
      have r0 := HS.out.cell (k := 0) 2 rfl rfl
      have r1 := HS.out.cell (k := 1) 2 rfl rfl
      have y0 := HS.out.frz (k := 0) 2 rfl
      have y1 := HS.out.frz (k := 1) 2 rfl
      have HS6 := Lib.hid (((HS.out.setBlk (k := 0) 2 rfl (.slice A' k c')).setBlk (k := 1) 2 rfl (.int .i64 s.Total)).own0 0 rfl)
      go_wp2
      exact bodyPost_ret (v := .agg #[.slice A' k c', .int .i64 s.Total]) (by simp [results, Try.results57, go_sem, r0, r1]) rfl ⟨_, fp, rfl, sk_own_mk (x := s) (by rw [← HE.out]; exact HS6.out.1) HG.out, HS6.out.2.1, HS6.out.2.2.1, HS6.out.2.2.2⟩
def Pl.halfAdd (rows : List (List Int)) (name : List UInt8) (many : Int) (k : Nat) : List (List Int) := Pl.addTo rows name many k ++ rows.drop k
theorem Pl.halfAdd_zero (rows : List (List Int)) (name : List UInt8) (many : Int) : Pl.halfAdd rows name many 0 = rows := rfl
theorem Pl.halfAdd_end {rows : List (List Int)} {name : List UInt8} {many : Int} {k : Nat} (h : rows.length ≤ k) : Pl.halfAdd rows name many k = Pl.addTo rows name many k := by
  unfold Pl.halfAdd; rw [List.drop_eq_nil_of_le h, List.append_nil]
theorem Pl.halfAdd_get {rows : List (List Int)} {name : List UInt8} {many : Int} {k : Nat} {r : List Int} (h : rows[k]? = some r) : (Pl.halfAdd rows name many k)[k]? = some r := by
  unfold Pl.halfAdd
  rw [List.getElem?_append_right (by rw [Pl.addTo_len]; exact Nat.le_refl _), Pl.addTo_len, Nat.sub_self, List.getElem?_drop, Nat.add_zero]
  exact h
theorem Pl.halfAdd_set {rows : List (List Int)} {name : List UInt8} {many : Int} {k : Nat} {r : List Int} (h : rows[k]? = some r) : (Pl.halfAdd rows name many k).set k (Pl.bump r (Pl.place k name).toNat many) = Pl.halfAdd rows name many (k + 1) := by
  have hk := (List.getElem?_eq_some_iff.1 h).1
  unfold Pl.halfAdd
  rw [List.set_append_right _ _ (by rw [Pl.addTo_len]; exact Nat.le_refl _), Pl.addTo_len, Nat.sub_self, Pl.addTo_next h, List.drop_eq_getElem_cons hk, List.set_cons_zero, List.append_assoc]
  rfl
set_option maxRecDepth 100000 in
set_option maxHeartbeats 1000000 in
theorem specAddSketch_c (s : Sketch) (cs : List Value) (name : ByteArray) (many : Int) (w : World) (B : Nat) (hh : sk.at_ w B s cs) (hB : B ≤ w.heap.size) (hs : name.size ≤ maxLen) :
    Calls Try.prog 35 #[.agg cs.toArray, .string name, .int .i64 many] w (Mm.Ret2 sk w (Pl.addSketch s name many).1 (Pl.addSketch s name many).2) := by
  have HH := Lib.hid hh
  obtain ⟨A, n, c, rfl, h0, g0⟩ := sk_at hh
  have hlen := Lib.hid h0.1
  have HL := Lib.hid h0
  have HG0 := Lib.hid g0
  clear h0 hh g0
  have KR := Lib.hid (Mm.Blk.new' (w.alloc (.cells #[.slice A n c, .int .i64 s.Total] 26)) 26 [.slice none 0 0, .int .i64 0] (Mm.sz1 _ _))
  have HB0 := Lib.hid (show Below w.heap.size w ((w.alloc (.cells #[.slice A n c, .int .i64 s.Total] 26)).alloc (.cells #[.slice none 0 0, .int .i64 0] 26)) from below_new (below_new (Below.refl _ _) _) _)
  cases kk : Pl.sketchOk s
  · have HF : Hid ((Pl.addSketch s name many) = (Pl.sk0, false)) := if_neg (by rw [kk]; simp)
    rw [HF.out]
    go_enter Try.func35, Try.ntmps35
    go_wp2_with first
      | (go_at_call 43; refine (specGoodSketch_c s [.slice A n c, .int .i64 s.Total] _ B (sk.keep HH.out fun b hb => HB0.out.block b (by omega)) (by have := HB0.out.size; omega)).mono ?_; rintro e w1 ⟨rfl, hb1⟩; have KR1 := KR.out.bel hb1; have r0 := KR1.cell (i := 0) rfl; have r1 := KR1.cell (i := 1) rfl; have z0 := KR1.frozen 0; have z1 := KR1.frozen 1)
      | (go_at_call 66; refine (l3Name_c _ _ _ hs).mono ?_; rintro e w' ⟨rfl, rfl⟩)
      | (go_at_call 87; refine (l1In_c _ _ _ _).mono ?_; rintro e w' ⟨rfl, rfl⟩)
    exact bodyPost_ret (v := .tuple #[.agg #[.slice none 0 0, .int .i64 0], .bool false]) (by simp [results, Try.results35, go_sem, r0, r1]) rfl (sk0_ret _ _ (((below_step HB0.out hb1).setCell (by show w.heap.size ≤ w.heap.size + 1; omega) _).setCell (by show w.heap.size ≤ w.heap.size + 1; omega) _))
  have hk := kk
  cases kk : Pl.word false name.data.toList
  · have HF : Hid ((Pl.addSketch s name many) = (Pl.sk0, false)) := if_neg (by rw [kk]; simp)
    rw [HF.out]
    go_enter Try.func35, Try.ntmps35
    go_wp2_with first
      | (go_at_call 43; refine (specGoodSketch_c s [.slice A n c, .int .i64 s.Total] _ B (sk.keep HH.out fun b hb => HB0.out.block b (by omega)) (by have := HB0.out.size; omega)).mono ?_; rintro e w1 ⟨rfl, hb1⟩; have KR1 := KR.out.bel hb1; have r0 := KR1.cell (i := 0) rfl; have r1 := KR1.cell (i := 1) rfl; have z0 := KR1.frozen 0; have z1 := KR1.frozen 1)
      | (go_at_call 66; refine (l3Name_c _ _ _ hs).mono ?_; rintro e w' ⟨rfl, rfl⟩)
      | (go_at_call 87; refine (l1In_c _ _ _ _).mono ?_; rintro e w' ⟨rfl, rfl⟩)
    exact bodyPost_ret (v := .tuple #[.agg #[.slice none 0 0, .int .i64 0], .bool false]) (by simp [results, Try.results35, go_sem, r0, r1]) rfl (sk0_ret _ _ (((below_step HB0.out hb1).setCell (by show w.heap.size ≤ w.heap.size + 1; omega) _).setCell (by show w.heap.size ≤ w.heap.size + 1; omega) _))
  have hw := kk
  cases kk : Pl.isIn many 1 1000
  · have HF : Hid ((Pl.addSketch s name many) = (Pl.sk0, false)) := if_neg (by rw [kk]; simp)
    rw [HF.out]
    go_enter Try.func35, Try.ntmps35
    go_wp2_with first
      | (go_at_call 43; refine (specGoodSketch_c s [.slice A n c, .int .i64 s.Total] _ B (sk.keep HH.out fun b hb => HB0.out.block b (by omega)) (by have := HB0.out.size; omega)).mono ?_; rintro e w1 ⟨rfl, hb1⟩; have KR1 := KR.out.bel hb1; have r0 := KR1.cell (i := 0) rfl; have r1 := KR1.cell (i := 1) rfl; have z0 := KR1.frozen 0; have z1 := KR1.frozen 1)
      | (go_at_call 66; refine (l3Name_c _ _ _ hs).mono ?_; rintro e w' ⟨rfl, rfl⟩)
      | (go_at_call 87; refine (l1In_c _ _ _ _).mono ?_; rintro e w' ⟨rfl, rfl⟩)
    exact bodyPost_ret (v := .tuple #[.agg #[.slice none 0 0, .int .i64 0], .bool false]) (by simp [results, Try.results35, go_sem, r0, r1]) rfl (sk0_ret _ _ (((below_step HB0.out hb1).setCell (by show w.heap.size ≤ w.heap.size + 1; omega) _).setCell (by show w.heap.size ≤ w.heap.size + 1; omega) _))
  have hmb := Pl.isIn_iff.1 kk
  have HF : Hid (Pl.addSketch s name many = (if Pl.sketchOk (Pl.bumped s name.data.toList many) = true then (Pl.bumped s name.data.toList many, true) else (Pl.sk0, false))) := if_pos (by rw [hk, hw, kk]; rfl)
  have HRB := Lib.hid (fun (k : Nat) (r : List Int) (hr : s.Rows[k]? = some r) => Pl.rows_bd hk hr)
  have hn3 : 1 ≤ n ∧ n ≤ 3 := by
    have h1 := hk
    unfold Pl.sketchOk at h1
    rw [Bool.and_eq_true, Pl.isIn_iff, hlen.out] at h1
    omega
  have htot : 0 ≤ s.Total ∧ s.Total ≤ 1100000 := by
    obtain ⟨r, hr⟩ : ∃ r, s.Rows[0]? = some r := ⟨_, List.getElem?_eq_getElem (by rw [hlen.out]; omega)⟩
    have h1 := HRB.out 0 r hr
    have h2 := Pl.sum_bd h1.2.1 (by omega) (by omega)
    rw [h1.1] at h2
    omega
  have KS0 := Lib.hid (((Mm.Sep.start w).alloc' rfl 26 [.slice A n c, .int .i64 s.Total]).alloc' (Mm.sz1 _ _) 26 [.slice none 0 0, .int .i64 0])
  go_enter Try.func35, Try.ntmps35
  go_wp2_with first
    | (go_at_call 43; refine (specGoodSketch_c s [.slice A n c, .int .i64 s.Total] _ B (sk.keep HH.out fun b hb => HB0.out.block b (by omega)) (by have := HB0.out.size; omega)).mono ?_; rintro e w1 ⟨rfl, hb1⟩; have KS1 := Lib.hid (KS0.out.step hb1); have q0 := KS1.out.cell (k := 0) 1 rfl rfl; have q1 := KS1.out.cell (k := 1) 1 rfl rfl)
    | (go_at_call 66; refine (l3Name_c _ _ _ hs).mono ?_; rintro e w' ⟨rfl, rfl⟩)
    | (go_at_call 87; refine (l1In_c _ _ _ _).mono ?_; rintro e w' ⟨rfl, rfl⟩)
    | (go_at_call 57; refine (l15Own_c s A n c _ B (sk.keep HH.out fun b hb => KS1.out.bel.block b (by omega)) (by have := KS1.out.bel.size; omega) hk).mono ?_; rintro e w2 ⟨cs2, fp2, rfl, ho2, hnd2, hf2, hb2⟩; obtain ⟨A2, n2, c2, f2, rfl, rfl, ho3, -⟩ := sk_own ho2)
  have hn2 : n2 = n := by obtain ⟨_, _, _, hv, h1, _⟩ := ho3.form; injection hv with _ h2 _; have := hlen.out; omega
  subst hn2
  have KS2 := Lib.hid (KS1.out.add hb2 (t := Mm.tsl ints 34 s.Rows (.slice A2 n2 c2) fp2) ho3 hnd2 hf2)
  have KS3 := Lib.hid (KS2.out.alloc 26 [.slice A2 n2 c2, .int .i64 s.Total])
  clear ho2 ho3 hnd2 hf2 hb2 hb1 q0 q1
  obtain ⟨gt, hgt⟩ : ∃ gt, w2.heap.size = gt := ⟨_, rfl⟩
  rw [hgt] at KS3 ⊢
  have HGT := Lib.hid hgt
  clear hgt
  go_loopg [29] n2 (fun g i wr => ∃ (k : Nat) (fp : List Nat), n2 - k ≤ g ∧ k ≤ n2 ∧ i = .int .i64 k ∧ Hid (Mm.Sep w wr [Mm.tblk gt 26 [.slice A2 n2 c2, .int .i64 s.Total], Mm.tsl ints 34 (Pl.halfAdd s.Rows name.data.toList many k) (.slice A2 n2 c2) fp, Mm.tblk (w.heap.size + 1) 26 [.slice none 0 0, .int .i64 0], Mm.tblk w.heap.size 26 [.slice A n2 c, .int .i64 s.Total]]))
  case atStart => exact ⟨0, fp2, Nat.le_refl _, Nat.zero_le _, rfl, by rw [Pl.halfAdd_zero]; exact KS3.out⟩
  case round =>
    obtain ⟨k, fp, hgk, hk', rfl, HS⟩ := hrel
    have hbel := HS.out.bel
    have hsw := hbel.size
    have d0 := HS.out.cell (k := 0) 0 rfl rfl
    have d1 := HS.out.cell (k := 1) 0 rfl rfl
    by_cases hlt : k < n2
    · obtain ⟨r, hx⟩ : ∃ r, s.Rows[k]? = some r := ⟨_, List.getElem?_eq_getElem (by rw [hlen.out]; exact hlt)⟩
      have hrb := HRB.out k r hx
      have hpb := Pl.place_bd k name.data.toList
      obtain ⟨p, hp⟩ : ∃ p : Nat, Pl.place k name.data.toList = p := ⟨(Pl.place k name.data.toList).toNat, by omega⟩
      have hp11 : p < 11 := by omega
      have hrl := hrb.1
      obtain ⟨x, hx2⟩ : ∃ x, r[p]? = some x := ⟨_, List.getElem?_eq_getElem (by omega)⟩
      have hxb := Pl.allIn_at hrb.2.1 hx2
      obtain ⟨ga, rfl, hga, -⟩ := Mm.sl_addr (HS.out.sl 1 rfl) (by have := (List.getElem?_eq_some_iff.1 (Pl.halfAdd_get (name := name.data.toList) (many := many) hx)).1; omega)
      obtain ⟨csr, fx, ⟨vr, rfl, hor⟩, hfn, hfs, hcr, hput⟩ := HS.out.putIn (k := k) 1 rfl (Pl.halfAdd_get hx)
      obtain ⟨Ar, nr, cr, rfl, hnr, -⟩ := hor.form
      obtain ⟨gr, rfl, hgr, -⟩ := Mm.sl_addr hor (by omega)
      have hn11 : nr = 11 := by omega
      subst hn11
      have u1 : wr.cell? ⟨ga, k, none⟩ = some (.slice (some ⟨gr, 0, none⟩) 11 cr) := by have h := hcr 0 _ rfl; rwa [show k * ints.size + 0 = k by show k * 1 + 0 = k; omega] at h
      have u2 := int_ocell hor hfn hx2
      have u3 := hor.frozen p
      have hI : Mm.I64 (x + many) := by unfold Mm.I64; omega
      have HSET : Hid ((Pl.halfAdd s.Rows name.data.toList many k).set k (r.set p (x + many)) = Pl.halfAdd s.Rows name.data.toList many (k + 1)) := by
        show _ = _
        rw [← Pl.halfAdd_set hx, hp, Int.toNat_natCast]
        unfold Pl.bump
        rw [Pl.getD_of hx2]
      have HPUT := Lib.hid (fun (X : World) (hX : Below wr.heap.size wr X) => hput (X.setCell ⟨gr, p, none⟩ (.int .i64 (x + many))) (r.set p (x + many)) fx ((Mm.Chg.of_below hX).setCell hgr _) ⟨_, rfl, (hor.okeep fun b hb => hX.block b (hor.olt b hb)).store1 hfn rfl hx2 (fun cs fx ho => by
        obtain ⟨_, _, rfl⟩ := ho
        exact ⟨rfl, hI, rfl⟩)⟩ hfn (fun b hb => hb))
      have HP := Lib.hid hp
      clear hp hrb hx hrl hpb hx2 hput hor hfn hfs hcr hnr hI
      have j1 : IntKind.i64.wrap (x + many) = x + many := IntWalk.i64_in _ (by omega)
      have j2 : (0 : Int) ≤ (p : Int) := by omega
      have j3 : (p : Int) < 11 := by omega
      have j4 : (k : Int) < (n2 : Int) := by omega
      go_wp2
      refine wp_region_und_tail 13 (by kernel_rfl) (by kernel_rfl) ?_
      simp only [List.take_succ_cons, List.take_zero, List.drop_succ_cons, List.drop_zero]
      repeat (go_big_quiet_step ((first | (go_at_call 88; exact und_same _ ((l15Place_c _ _ _ (by omega) (by omega) hs).mono (by rintro e w' ⟨rfl, rfl⟩; rw [HP.out]; exact ⟨rfl, rfl⟩))))))
      refine wpQuiet_nil ?_
      intro X hX
      have y1 := below_some hX u2
      have y2 := below_fz hX (by rw [u2]; rfl) u3
      obtain ⟨fp', HN⟩ := HPUT.out X hX
      have HNX := Lib.hid HN
      clear HN u1 u2 u3 d0 d1 j1 j2 j3 j4
      go_wp2
      go_roundg (n2 - (k + 1))
      case measure => omega
      case rel => exact ⟨k + 1, fp', Nat.le_refl _, by omega, by go_num, by rw [← HSET.out]; exact HNX.out⟩
    · obtain rfl : k = n2 := by omega
      have HE : Hid (Pl.bumped s name.data.toList many = ⟨Pl.halfAdd s.Rows name.data.toList many k, s.Total + many⟩) := by show _ = _; rw [Pl.halfAdd_end (by rw [hlen.out]; exact Nat.le_refl _)]; unfold Pl.bumped; rw [hlen.out]
      have hI : Mm.I64 (s.Total + many) := by unfold Mm.I64; omega
      have HS' := Lib.hid (HS.out.setBlk (k := 1) 0 rfl (.int .i64 (s.Total + many)))
      have zt := HS.out.frz (k := 1) 0 rfl
      have HAT := Lib.hid (show sk.at_ (wr.setCell ⟨gt, 1, none⟩ (.int .i64 (s.Total + many))) (wr.setCell ⟨gt, 1, none⟩ (.int .i64 (s.Total + many))).heap.size ⟨Pl.halfAdd s.Rows name.data.toList many k, s.Total + many⟩ [.slice A2 k c2, .int .i64 (s.Total + many)] from sk_at_mk (x := ⟨Pl.halfAdd s.Rows name.data.toList many k, s.Total + many⟩) ((HS'.out.sl 1 rfl).weak (HS'.out.sl 1 rfl).olt) hI)
      have HF' := Lib.hid HF.out
      rw [HE.out] at HF'
      cases hz : Pl.sketchOk ⟨Pl.halfAdd s.Rows name.data.toList many k, s.Total + many⟩
      · have HZ : Hid (Pl.addSketch s name many = (Pl.sk0, false)) := by show _ = _; rw [HF'.out, hz]; rfl
        go_wp2_with (go_at_call 43; refine (specGoodSketch_c ⟨Pl.halfAdd s.Rows name.data.toList many k, s.Total + many⟩ [.slice A2 k c2, .int .i64 (s.Total + many)] _ _ HAT.out (Nat.le_refl _)).mono ?_; rintro e w5 ⟨rfl, hb5⟩; (have HS5 := Lib.hid (HS'.out.step hb5)); (have r0 := HS5.out.cell (k := 0) 2 rfl rfl); (have r1 := HS5.out.cell (k := 1) 2 rfl rfl); (have z0 := HS5.out.frz (k := 0) 2 rfl); (have z1 := HS5.out.frz (k := 1) 2 rfl); clear hb5)
        rw [HZ.out]
        exact bodyPost_ret (v := .tuple #[.agg #[.slice none 0 0, .int .i64 0], .bool false]) (by simp [results, Try.results35, go_sem, r0, r1]) rfl (sk0_ret _ _ ((HS5.out.setBlk 2 rfl _).setBlk 2 rfl _).bel)
      · have HZ : Hid (Pl.addSketch s name many = (⟨Pl.halfAdd s.Rows name.data.toList many k, s.Total + many⟩, true)) := by show _ = _; rw [HF'.out, hz]; rfl
        go_wp2_with (go_at_call 43; refine (specGoodSketch_c ⟨Pl.halfAdd s.Rows name.data.toList many k, s.Total + many⟩ [.slice A2 k c2, .int .i64 (s.Total + many)] _ _ HAT.out (Nat.le_refl _)).mono ?_; rintro e w5 ⟨rfl, hb5⟩; (have HS5 := Lib.hid (HS'.out.step hb5)); (have r0 := HS5.out.cell (k := 0) 2 rfl rfl); (have r1 := HS5.out.cell (k := 1) 2 rfl rfl); (have z0 := HS5.out.frz (k := 0) 2 rfl); (have z1 := HS5.out.frz (k := 1) 2 rfl); (have o0 := HS5.out.cell (k := 0) 0 rfl rfl); (have o1 := HS5.out.cell (k := 1) 0 rfl rfl); clear hb5)
        rw [HZ.out]
        have HS6 := Lib.hid (((HS5.out.setBlk (k := 0) 2 rfl (.slice A2 k c2)).setBlk (k := 1) 2 rfl (.int .i64 (s.Total + many))).own0 1 rfl)
        exact bodyPost_ret (v := .tuple #[.agg #[.slice A2 k c2, .int .i64 (s.Total + many)], .bool true]) (by simp [results, Try.results35, go_sem, r0, r1]) rfl
          ⟨_, fp, rfl, sk_own_mk (x := ⟨Pl.halfAdd s.Rows name.data.toList many k, s.Total + many⟩) HS6.out.1 hI, HS6.out.2.1, HS6.out.2.2.1, HS6.out.2.2.2⟩
end Go.Proofs.Ytjmcbggdckfefaa
