/-
  Contracts: AddSketch, JoinSketches. No conditions.
-/
import Derived.Test.YtjmcbggdckfefaaWi
import Derived.Test.YtjmcbggdckfefaaWc
import Derived.Test.YtjmcbggdckfefaaSe
import Derived.Test.YtjmcbggdckfefaaQt
namespace Go.Proofs.Ytjmcbggdckfefaa
open Go.RowKit
attribute [local go_sem] und_cell World.cell?_alloc_some
theorem Try.infoRow : (Try.prog.info? 34).map (fun i => (i.zero, i.size, i.bytes)) = some (some (.slice none 0 0), 1, 24) := by kernel_rfl
theorem sk0_ret (w w' : World) (h : Below w.heap.size w w') : Mm.Ret2 sk w Pl.sk0 false (.returned (.tuple #[.agg #[.slice none 0 0, .int .i64 0], .bool false])) w' :=
  ⟨[.slice none 0 0, .int .i64 0], [], rfl, sk_own_mk (x := Pl.sk0) Mm.SlOwn.nil (by show Mm.I64 0; unfold Mm.I64; omega), List.nodup_nil, (fun b hb => by cases hb), h⟩
theorem checkedSketch_yes (s : Sketch) (A : Option Addr) (n c : Nat) (w : World) (B : Nat) (hh : sk.at_ w B s [.slice A n c, .int .i64 s.Total]) (hB : B ≤ w.heap.size) (hk : Pl.sketchOk s = true) :
    Calls Try.prog 61 #[.agg #[.slice A n c, .int .i64 s.Total]] w fun e w' => e = .returned (.tuple #[.agg #[.slice A n c, .int .i64 s.Total], .bool true]) ∧ Below w.heap.size w w' := by
  have HH := Lib.hid hh
  clear hh
  have KB := Lib.hid ((Mm.Blk.new w 26 [.slice A n c, .int .i64 s.Total]).alloc (.cells #[.slice none 0 0, .int .i64 0] 26))
  have KR := Lib.hid (Mm.Blk.new' (w.alloc (.cells #[.slice A n c, .int .i64 s.Total] 26)) 26 [.slice none 0 0, .int .i64 0] (Mm.sz1 _ _))
  have HB0 := Lib.hid (show Below w.heap.size w ((w.alloc (.cells #[.slice A n c, .int .i64 s.Total] 26)).alloc (.cells #[.slice none 0 0, .int .i64 0] 26)) from below_new (below_new (Below.refl _ _) _) _)
  go_enter Try.func61, Try.ntmps61
  go_wp2_with (go_at_call 59; refine (isSketch_c s [.slice A n c, .int .i64 s.Total] _ B (sk.keep HH.out fun b hb => HB0.out.block b (by omega)) (by have := HB0.out.size; omega)).mono ?_; rintro e w1 ⟨rfl, hb1⟩; have KB1 := KB.out.bel hb1; have q0 := KB1.cell (i := 0) rfl; have q1 := KB1.cell (i := 1) rfl; have KR1 := KR.out.bel hb1; have r0 := KR1.cell (i := 0) rfl; have r1 := KR1.cell (i := 1) rfl; have z0 := KR1.frozen 0; have z1 := KR1.frozen 1)
  exact bodyPost_ret (v := .tuple #[.agg #[.slice A n c, .int .i64 s.Total], .bool true]) (by simp [results, Try.results61, go_sem, r0, r1]) rfl ⟨rfl, ((below_step HB0.out hb1).setCell (by show w.heap.size ≤ w.heap.size + 1; omega) _).setCell (by show w.heap.size ≤ w.heap.size + 1; omega) _⟩
theorem checkedSketch_no (s : Sketch) (A : Option Addr) (n c : Nat) (w : World) (B : Nat) (hh : sk.at_ w B s [.slice A n c, .int .i64 s.Total]) (hB : B ≤ w.heap.size) (hk : Pl.sketchOk s = false) :
    Calls Try.prog 61 #[.agg #[.slice A n c, .int .i64 s.Total]] w fun e w' => e = .returned (.tuple #[.agg #[.slice none 0 0, .int .i64 0], .bool false]) ∧ Below w.heap.size w w' := by
  have HH := Lib.hid hh
  clear hh
  have KR := Lib.hid (Mm.Blk.new' (w.alloc (.cells #[.slice A n c, .int .i64 s.Total] 26)) 26 [.slice none 0 0, .int .i64 0] (Mm.sz1 _ _))
  have HB0 := Lib.hid (show Below w.heap.size w ((w.alloc (.cells #[.slice A n c, .int .i64 s.Total] 26)).alloc (.cells #[.slice none 0 0, .int .i64 0] 26)) from below_new (below_new (Below.refl _ _) _) _)
  go_enter Try.func61, Try.ntmps61
  go_wp2_with (go_at_call 59; refine (isSketch_c s [.slice A n c, .int .i64 s.Total] _ B (sk.keep HH.out fun b hb => HB0.out.block b (by omega)) (by have := HB0.out.size; omega)).mono ?_; rintro e w1 ⟨rfl, hb1⟩; have KR1 := KR.out.bel hb1; have r0 := KR1.cell (i := 0) rfl; have r1 := KR1.cell (i := 1) rfl; have z0 := KR1.frozen 0; have z1 := KR1.frozen 1)
  exact bodyPost_ret (v := .tuple #[.agg #[.slice none 0 0, .int .i64 0], .bool false]) (by simp [results, Try.results61, go_sem, r0, r1]) rfl ⟨rfl, ((below_step HB0.out hb1).setCell (by show w.heap.size ≤ w.heap.size + 1; omega) _).setCell (by show w.heap.size ≤ w.heap.size + 1; omega) _⟩
set_option maxRecDepth 100000 in
set_option maxHeartbeats 1000000 in
theorem implAddSketch_c (s : Sketch) (cs : List Value) (name : ByteArray) (many : Int) (w : World) (B : Nat) (hh : sk.at_ w B s cs) (hB : B ≤ w.heap.size) (hs : name.size ≤ maxLen) :
    Calls Try.prog 31 #[.agg cs.toArray, .string name, .int .i64 many] w (Mm.Ret2 sk w (Pl.addSketch s name many).1 (Pl.addSketch s name many).2) := by
  have HH := Lib.hid hh
  obtain ⟨A, n, c, rfl, h0, g0⟩ := sk_at hh
  have hlen := Lib.hid h0.1
  have HL := Lib.hid h0
  have HG0 := Lib.hid g0
  clear h0 hh g0
  have KR := Lib.hid (Mm.Blk.new' (w.alloc (.cells #[.slice A n c, .int .i64 s.Total] 26)) 26 [.slice none 0 0, .int .i64 0] (Mm.sz1 _ _))
  have HB0 := Lib.hid (show Below w.heap.size w ((w.alloc (.cells #[.slice A n c, .int .i64 s.Total] 26)).alloc (.cells #[.slice none 0 0, .int .i64 0] 26)) from below_new (below_new (Below.refl _ _) _) _)
  cases kk : Pl.sketchOk s
  · have HF : Hid ((Pl.addSketch s name many) = (Pl.sk0, false)) := if_neg (by rw [kk]; simp)
    rw [HF.out]
    go_enter Try.func31, Try.ntmps31
    go_wp2_with first
      | (go_at_call 59; refine (isSketch_c s [.slice A n c, .int .i64 s.Total] _ B (sk.keep HH.out fun b hb => HB0.out.block b (by omega)) (by have := HB0.out.size; omega)).mono ?_; rintro e w1 ⟨rfl, hb1⟩; have KR1 := KR.out.bel hb1; have r0 := KR1.cell (i := 0) rfl; have r1 := KR1.cell (i := 1) rfl; have z0 := KR1.frozen 0; have z1 := KR1.frozen 1)
      | (go_at_call 71; refine (isWord_c _ _ _ hs).mono ?_; rintro e w' ⟨rfl, rfl⟩)
      | (go_at_call 78; refine (within_c _ _ _ _).mono ?_; rintro e w' ⟨rfl, rfl⟩)
    exact bodyPost_ret (v := .tuple #[.agg #[.slice none 0 0, .int .i64 0], .bool false]) (by simp [results, Try.results31, go_sem, r0, r1]) rfl (sk0_ret _ _ (((below_step HB0.out hb1).setCell (by show w.heap.size ≤ w.heap.size + 1; omega) _).setCell (by show w.heap.size ≤ w.heap.size + 1; omega) _))
  have hk := kk
  cases kk : Pl.word false name.data.toList
  · have HF : Hid ((Pl.addSketch s name many) = (Pl.sk0, false)) := if_neg (by rw [kk]; simp)
    rw [HF.out]
    go_enter Try.func31, Try.ntmps31
    go_wp2_with first
      | (go_at_call 59; refine (isSketch_c s [.slice A n c, .int .i64 s.Total] _ B (sk.keep HH.out fun b hb => HB0.out.block b (by omega)) (by have := HB0.out.size; omega)).mono ?_; rintro e w1 ⟨rfl, hb1⟩; have KR1 := KR.out.bel hb1; have r0 := KR1.cell (i := 0) rfl; have r1 := KR1.cell (i := 1) rfl; have z0 := KR1.frozen 0; have z1 := KR1.frozen 1)
      | (go_at_call 71; refine (isWord_c _ _ _ hs).mono ?_; rintro e w' ⟨rfl, rfl⟩)
      | (go_at_call 78; refine (within_c _ _ _ _).mono ?_; rintro e w' ⟨rfl, rfl⟩)
    exact bodyPost_ret (v := .tuple #[.agg #[.slice none 0 0, .int .i64 0], .bool false]) (by simp [results, Try.results31, go_sem, r0, r1]) rfl (sk0_ret _ _ (((below_step HB0.out hb1).setCell (by show w.heap.size ≤ w.heap.size + 1; omega) _).setCell (by show w.heap.size ≤ w.heap.size + 1; omega) _))
  have hw := kk
  cases kk : Pl.isIn many 1 1000
  · have HF : Hid ((Pl.addSketch s name many) = (Pl.sk0, false)) := if_neg (by rw [kk]; simp)
    rw [HF.out]
    go_enter Try.func31, Try.ntmps31
    go_wp2_with first
      | (go_at_call 59; refine (isSketch_c s [.slice A n c, .int .i64 s.Total] _ B (sk.keep HH.out fun b hb => HB0.out.block b (by omega)) (by have := HB0.out.size; omega)).mono ?_; rintro e w1 ⟨rfl, hb1⟩; have KR1 := KR.out.bel hb1; have r0 := KR1.cell (i := 0) rfl; have r1 := KR1.cell (i := 1) rfl; have z0 := KR1.frozen 0; have z1 := KR1.frozen 1)
      | (go_at_call 71; refine (isWord_c _ _ _ hs).mono ?_; rintro e w' ⟨rfl, rfl⟩)
      | (go_at_call 78; refine (within_c _ _ _ _).mono ?_; rintro e w' ⟨rfl, rfl⟩)
    exact bodyPost_ret (v := .tuple #[.agg #[.slice none 0 0, .int .i64 0], .bool false]) (by simp [results, Try.results31, go_sem, r0, r1]) rfl (sk0_ret _ _ (((below_step HB0.out hb1).setCell (by show w.heap.size ≤ w.heap.size + 1; omega) _).setCell (by show w.heap.size ≤ w.heap.size + 1; omega) _))
  have hmb := Pl.isIn_iff.1 kk
  have HF : Hid (Pl.addSketch s name many = (if Pl.sketchOk (Pl.bumped s name.data.toList many) = true then (Pl.bumped s name.data.toList many, true) else (Pl.sk0, false))) := if_pos (by rw [hk, hw, kk]; rfl)
  have HRB := Lib.hid (fun (k : Nat) (r : List Int) (hr : s.Rows[k]? = some r) => Pl.rows_bd hk hr)
  have hn3 : 1 ≤ n ∧ n ≤ 3 := by
    have h1 := hk
    unfold Pl.sketchOk at h1
    rw [Bool.and_eq_true, Pl.isIn_iff, hlen.out] at h1
    omega
  have htot : 0 ≤ s.Total ∧ s.Total ≤ 1100000 := by
    obtain ⟨r, hr⟩ : ∃ r, s.Rows[0]? = some r := ⟨_, List.getElem?_eq_getElem (by rw [hlen.out]; omega)⟩
    have h1 := HRB.out 0 r hr
    have h2 := Pl.sum_bd h1.2.1 (by omega) (by omega)
    rw [h1.1] at h2
    omega
  have KS0 := Lib.hid (((Mm.Sep.start w).alloc' rfl 26 [.slice A n c, .int .i64 s.Total]).alloc' (Mm.sz1 _ _) 26 [.slice none 0 0, .int .i64 0])
  go_enter Try.func31, Try.ntmps31
  go_wp2_with first
    | (go_at_call 59; refine (isSketch_c s [.slice A n c, .int .i64 s.Total] _ B (sk.keep HH.out fun b hb => HB0.out.block b (by omega)) (by have := HB0.out.size; omega)).mono ?_; rintro e w1 ⟨rfl, hb1⟩; have KS1 := Lib.hid (KS0.out.step hb1); have q0 := KS1.out.cell (k := 0) 1 rfl rfl; have q1 := KS1.out.cell (k := 1) 1 rfl rfl)
    | (go_at_call 71; refine (isWord_c _ _ _ hs).mono ?_; rintro e w' ⟨rfl, rfl⟩)
    | (go_at_call 78; refine (within_c _ _ _ _).mono ?_; rintro e w' ⟨rfl, rfl⟩)
  have KS2 := Lib.hid ((KS1.out.alloc 26 [.slice none 0 0, .int .i64 (s.Total + many)]).add (t := Mm.tsl ints 34 [] (.slice none 0 0) []) (Below.refl _ _) Mm.SlOwn.nil List.nodup_nil (fun b hb => by cases hb))
  have hw1 := KS1.out.bel.size
  clear hb1 q0 q1
  obtain ⟨gt, hgt⟩ : ∃ gt, w1.heap.size = gt := ⟨_, rfl⟩
  rw [hgt] at KS2 ⊢ hw1
  have HGT := Lib.hid hgt
  clear hgt
  go_loopg [33] n (fun g i wr => ∃ (k : Nat) (A' : Option Addr) (c' : Nat) (fp : List Nat), n - k ≤ g ∧ k ≤ n ∧ i = .int .i64 k ∧ Hid (Mm.Sep w wr [Mm.tsl ints 34 (Pl.addTo s.Rows name.data.toList many k) (.slice A' k c') fp, Mm.tblk gt 26 [.slice A' k c', .int .i64 (s.Total + many)], Mm.tblk (w.heap.size + 1) 26 [.slice none 0 0, .int .i64 0], Mm.tblk w.heap.size 26 [.slice A n c, .int .i64 s.Total]]))
  case atStart => exact ⟨0, none, 0, [], Nat.le_refl _, Nat.zero_le _, rfl, KS2.out⟩
  case round =>
    obtain ⟨k, A', c', fp, hgk, hk', rfl, HS⟩ := hrel
    have hbel := HS.out.bel
    have hsw := hbel.size
    have d0 := HS.out.cell (k := 0) 1 rfl rfl
    have d1 := HS.out.cell (k := 1) 1 rfl rfl
    have z0 := HS.out.frz (k := 0) 1 rfl
    by_cases hlt : k < n
    · obtain ⟨r, b0, off, A1, n1, c1, hx, rfl, hb, hr, e0⟩ := ints_get HL.out hlt
      have hrb := HRB.out k r hx
      have hpb := Pl.place_bd k name.data.toList
      obtain ⟨p, hp⟩ : ∃ p : Nat, Pl.place k name.data.toList = p := ⟨(Pl.place k name.data.toList).toNat, by omega⟩
      have hrl := hr.1
      have hp11 : p < 11 := by omega
      obtain ⟨x, hx2⟩ : ∃ x, r[p]? = some x := ⟨_, List.getElem?_eq_getElem (by omega)⟩
      have hxb := Pl.allIn_at hrb.2.1 hx2
      have hn11 : n1 ≤ 1048576 := by omega
      have HN : Hid (Pl.addTo s.Rows name.data.toList many (k + 1) = Pl.addTo s.Rows name.data.toList many k ++ [r.set p (x + many)]) := by
        show _ = _
        rw [Pl.addTo_next hx, hp, Int.toNat_natCast]
        unfold Pl.bump
        rw [Pl.getD_of hx2]
      have e0' := below_some hbel e0
      have HRW := Lib.hid (hr.keep (w' := wr) fun b' hb' => hbel.block b' (by omega))
      have HP := Lib.hid hp
      have HX2 := Lib.hid hx2
      have HRL := Lib.hid (show r.length = 11 from hrb.1)
      clear hp hrb hx hrl hpb hr e0 hx2 d0 d1 z0
      go_wp2_with fail
      refine (clInt_c r _ _ _ _ B HRW.out hn11).mono ?_
      rintro e w2 ⟨A2, n2, c2, fp2, rfl, ho2, hnd2, hf2, hb2⟩
      obtain ⟨g2, rfl, hg2, hn2⟩ := Mm.sl_addr ho2 (by rw [HRL.out]; omega)
      have hn2' : n2 = 11 := hn2.trans HRL.out
      subst hn2'
      have u0 := int_ocell ho2 hnd2 HX2.out
      have u1 := ho2.frozen p
      have HS2 := Lib.hid (HS.out.add hb2 (t := Mm.tsl Mm.int 3 r (.slice (some ⟨g2, 0, none⟩) 11 c2) fp2) ho2 hnd2 hf2)
      have hgn : gt ≠ g2 := fun hh => by have := hf2 g2 hg2; have := (HS.out.blk 1 rfl).1; omega
      have d0 := HS2.out.cell (k := 0) 2 rfl rfl
      have z0 := HS2.out.frz (k := 0) 2 rfl
      have hI : Mm.I64 (x + many) := by unfold Mm.I64; omega
      have HS3 := Lib.hid (HS2.out.put1 (k := p) (x := x) (x' := x + many) (u := .int .i64 (x + many)) 0 rfl rfl HX2.out (fun cs fx ho => by
        obtain ⟨_, _, rfl⟩ := ho
        exact ⟨rfl, hI, rfl⟩))
      have hlen3 := Pl.addTo_len s.Rows name.data.toList many k
      obtain ⟨l0, ho3, hnext⟩ := HS3.out.push (W2 := (w2.setCell ⟨g2, p, none⟩ (.int .i64 (x + many))).alloc (.cells #[.slice (some ⟨g2, 0, none⟩) 11 c2] 34)) 1 0 (by decide) rfl rfl (below_new (Below.refl _ _) _) (x := r.set p (x + many)) (cx := [.slice (some ⟨g2, 0, none⟩) 11 c2]) (fun W h => ⟨_, rfl, h⟩)
      rw [hlen3] at ho3 hnext
      have HNX := Lib.hid hnext
      have hsz2 : (w2.setCell ⟨g2, p, none⟩ (.int .i64 (x + many))).heap.size = w2.heap.size := by simp [World.setCell]
      have hnews := Lib.hid (World.news_of_block (B := w2.heap.size) (cs := #[.slice (some ⟨g2, 0, none⟩) 11 c2]) (t := 34) (fr := (0, 0)) (Mm.heap_new (w2.setCell ⟨g2, p, none⟩ (.int .i64 (x + many))) hsz2 _))
      obtain ⟨i0, hi, hz0, hz1, hz2⟩ := info_parts Try.infoRow
      clear hnext hlen3 hnd2 hf2 ho2 hn2 hb2 hI
      go_wp2_with first
        | (go_at_call 82; refine (placeIn_c _ _ _ (by omega) (by omega) hs).mono ?_; rintro e w' ⟨rfl, rfl⟩; rw [HP.out])
        | (at_builtin; refine wpList_append_lies _ (by rfl) _ _ _ (by rfl) 0 34 i0 _ 1 24 Try.underlying22 hi hz0 hz1 hz2 rfl (by omega) _ k l0 (by rfl) ho3 ⟨w2.heap.size, 0, none⟩ 1 1 [.slice (some ⟨g2, 0, none⟩) 11 c2] (by rfl) (by rfl) hnews.out (by simp [Value.oneCell']) (by omega) (by unfold maxLen; omega) (by omega) (Nat.zero_le _) _ rfl ?_; intro gg cap w4 hown1 hgrow hat hlt'; obtain ⟨fp', hs4⟩ := HNX.out gg cap w4 hown1 hgrow hat; (have HS4 := Lib.hid hs4); (have d0' := HS4.out.cell (k := 0) 2 rfl rfl); (have z0' := HS4.out.frz (k := 0) 2 rfl); clear hs4 hown1 hgrow hat)
      go_roundg (n - (k + 1))
      case measure => omega
      case rel => exact ⟨k + 1, _, cap, fp', Nat.le_refl _, by omega, by go_num, by rw [HN.out]; exact (HS4.out.setBlk 2 rfl _).tail⟩
    · obtain rfl : k = n := by omega
      have HE : Hid (Pl.bumped s name.data.toList many = ⟨Pl.addTo s.Rows name.data.toList many k, s.Total + many⟩) := by show _ = _; unfold Pl.bumped; rw [hlen.out]
      have hI : Mm.I64 (s.Total + many) := by unfold Mm.I64; omega
      have HAT := Lib.hid (show sk.at_ wr wr.heap.size ⟨Pl.addTo s.Rows name.data.toList many k, s.Total + many⟩ [.slice A' k c', .int .i64 (s.Total + many)] from sk_at_mk (x := ⟨Pl.addTo s.Rows name.data.toList many k, s.Total + many⟩) ((HS.out.sl 0 rfl).weak (HS.out.sl 0 rfl).olt) hI)
      have HF' := Lib.hid HF.out
      rw [HE.out] at HF'
      cases hz : Pl.sketchOk ⟨Pl.addTo s.Rows name.data.toList many k, s.Total + many⟩
      · have HZ : Hid (Pl.addSketch s name many = (Pl.sk0, false)) := by show _ = _; rw [HF'.out, hz]; rfl
        go_wp2_with (go_at_call 61; refine (checkedSketch_no ⟨Pl.addTo s.Rows name.data.toList many k, s.Total + many⟩ _ _ _ _ _ HAT.out (Nat.le_refl _) hz).mono ?_; rintro e w5 ⟨rfl, hb5⟩; (have HS5 := Lib.hid (HS.out.step hb5)); (have r0 := HS5.out.cell (k := 0) 2 rfl rfl); (have r1 := HS5.out.cell (k := 1) 2 rfl rfl); (have z0 := HS5.out.frz (k := 0) 2 rfl); (have z1 := HS5.out.frz (k := 1) 2 rfl); clear hb5)
        rw [HZ.out]
        exact bodyPost_ret (v := .tuple #[.agg #[.slice none 0 0, .int .i64 0], .bool false]) (by simp [results, Try.results31, go_sem, r0, r1]) rfl (sk0_ret _ _ ((HS5.out.setBlk 2 rfl _).setBlk 2 rfl _).bel)
      · have HZ : Hid (Pl.addSketch s name many = (⟨Pl.addTo s.Rows name.data.toList many k, s.Total + many⟩, true)) := by show _ = _; rw [HF'.out, hz]; rfl
        go_wp2_with (go_at_call 61; refine (checkedSketch_yes ⟨Pl.addTo s.Rows name.data.toList many k, s.Total + many⟩ _ _ _ _ _ HAT.out (Nat.le_refl _) hz).mono ?_; rintro e w5 ⟨rfl, hb5⟩; (have HS5 := Lib.hid (HS.out.step hb5)); (have r0 := HS5.out.cell (k := 0) 2 rfl rfl); (have r1 := HS5.out.cell (k := 1) 2 rfl rfl); (have z0 := HS5.out.frz (k := 0) 2 rfl); (have z1 := HS5.out.frz (k := 1) 2 rfl); clear hb5)
        rw [HZ.out]
        have HS6 := Lib.hid (((HS5.out.setBlk (k := 0) 2 rfl (.slice A' k c')).setBlk (k := 1) 2 rfl (.int .i64 (s.Total + many))).own0 0 rfl)
        exact bodyPost_ret (v := .tuple #[.agg #[.slice A' k c', .int .i64 (s.Total + many)], .bool true]) (by simp [results, Try.results31, go_sem, r0, r1]) rfl
          ⟨_, fp, rfl, sk_own_mk (x := ⟨Pl.addTo s.Rows name.data.toList many k, s.Total + many⟩) HS6.out.1 hI, HS6.out.2.1, HS6.out.2.2.1, HS6.out.2.2.2⟩
end Go.Proofs.Ytjmcbggdckfefaa
