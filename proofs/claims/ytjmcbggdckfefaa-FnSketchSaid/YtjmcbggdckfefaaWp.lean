/-
  Contracts: JoinSketches. No conditions.
-/
import Derived.Test.YtjmcbggdckfefaaWm
import Derived.Test.YtjmcbggdckfefaaPj
namespace Go.Proofs.Ytjmcbggdckfefaa
open Go.RowKit
attribute [local go_sem] und_cell World.cell?_alloc_some
set_option maxRecDepth 100000 in
set_option maxHeartbeats 1000000 in
theorem implJoinSketches_c (a : Sketch) (csa : List Value) (b : Sketch) (csb : List Value) (w : World) (B : Nat) (ha : sk.at_ w B a csa) (hb : sk.at_ w B b csb) (hB : B ≤ w.heap.size) :
    Calls Try.prog 11 #[.agg csa.toArray, .agg csb.toArray] w (Mm.Ret2 sk w (Pl.joinSketches a b).1 (Pl.joinSketches a b).2) := by
  have HHa := Lib.hid ha
  have HHb := Lib.hid hb
  obtain ⟨A, n, c, rfl, h0, g0⟩ := sk_at ha
  obtain ⟨A', n', c', rfl, h0', g0'⟩ := sk_at hb
  have hlen := Lib.hid h0.1
  have hlen' := Lib.hid h0'.1
  have HL := Lib.hid h0
  have HL' := Lib.hid h0'
  clear h0 ha g0 h0' hb g0'
  have KS0 := Lib.hid ((((Mm.Sep.start w).alloc' rfl 26 [.slice A n c, .int .i64 a.Total]).alloc' (Mm.sz1 _ _) 26 [.slice A' n' c', .int .i64 b.Total]).alloc' (Mm.sz2 _ _ _) 26 [.slice none 0 0, .int .i64 0])
  cases kk : Pl.sketchOk a
  · skip
    have HF : Hid (Pl.joinSketches a b = (Pl.sk0, false)) := if_neg (by simp [kk])
    rw [HF.out]
    go_enter Try.func11, Try.ntmps11
    go_wp2_with first
      | (go_at_call 59; (with_reducible refine (isSketch_c a [.slice A n c, .int .i64 a.Total] _ B (sk.keep HHa.out fun b' hb' => KS0.out.bel.block b' (by omega)) (by have := KS0.out.bel.size; omega)).mono ?_); rintro e w1 ⟨rfl, hb1⟩; have KS1 := Lib.hid (KS0.out.step hb1); have q0 := KS1.out.cell (k := 0) 1 rfl rfl; have q1 := KS1.out.cell (k := 1) 1 rfl rfl; have p0 := KS1.out.cell (k := 0) 2 rfl rfl; have p1 := KS1.out.cell (k := 1) 2 rfl rfl; have r0 := KS1.out.cell (k := 0) 0 rfl rfl; have r1 := KS1.out.cell (k := 1) 0 rfl rfl; have z0 := KS1.out.frz (k := 0) 0 rfl; have z1 := KS1.out.frz (k := 1) 0 rfl)
      | (go_at_call 59; (with_reducible refine (isSketch_c b [.slice A' n' c', .int .i64 b.Total] _ B (sk.keep HHb.out fun b' hb' => KS1.out.bel.block b' (by omega)) (by have := KS1.out.bel.size; omega)).mono ?_); rintro e w2 ⟨rfl, hb2⟩; have KS2 := Lib.hid (KS1.out.step hb2); have q0' := KS2.out.cell (k := 0) 1 rfl rfl; have q1' := KS2.out.cell (k := 1) 1 rfl rfl; have p0' := KS2.out.cell (k := 0) 2 rfl rfl; have p1' := KS2.out.cell (k := 1) 2 rfl rfl; have r0' := KS2.out.cell (k := 0) 0 rfl rfl; have r1' := KS2.out.cell (k := 1) 0 rfl rfl; have z0' := KS2.out.frz (k := 0) 0 rfl; have z1' := KS2.out.frz (k := 1) 0 rfl)
    exact bodyPost_ret (v := .tuple #[.agg #[.slice none 0 0, .int .i64 0], .bool false]) (by simp [results, Try.results11, go_sem, r0, r1]) rfl (sk0_ret _ _ ((KS1.out.setBlk 0 rfl _).setBlk 0 rfl _).bel)
  have hka := kk
  cases kk : Pl.sketchOk b
  · skip
    have HF : Hid (Pl.joinSketches a b = (Pl.sk0, false)) := if_neg (by simp [kk])
    rw [HF.out]
    go_enter Try.func11, Try.ntmps11
    go_wp2_with first
      | (go_at_call 59; (with_reducible refine (isSketch_c a [.slice A n c, .int .i64 a.Total] _ B (sk.keep HHa.out fun b' hb' => KS0.out.bel.block b' (by omega)) (by have := KS0.out.bel.size; omega)).mono ?_); rintro e w1 ⟨rfl, hb1⟩; have KS1 := Lib.hid (KS0.out.step hb1); have q0 := KS1.out.cell (k := 0) 1 rfl rfl; have q1 := KS1.out.cell (k := 1) 1 rfl rfl; have p0 := KS1.out.cell (k := 0) 2 rfl rfl; have p1 := KS1.out.cell (k := 1) 2 rfl rfl; have r0 := KS1.out.cell (k := 0) 0 rfl rfl; have r1 := KS1.out.cell (k := 1) 0 rfl rfl; have z0 := KS1.out.frz (k := 0) 0 rfl; have z1 := KS1.out.frz (k := 1) 0 rfl)
      | (go_at_call 59; (with_reducible refine (isSketch_c b [.slice A' n' c', .int .i64 b.Total] _ B (sk.keep HHb.out fun b' hb' => KS1.out.bel.block b' (by omega)) (by have := KS1.out.bel.size; omega)).mono ?_); rintro e w2 ⟨rfl, hb2⟩; have KS2 := Lib.hid (KS1.out.step hb2); have q0' := KS2.out.cell (k := 0) 1 rfl rfl; have q1' := KS2.out.cell (k := 1) 1 rfl rfl; have p0' := KS2.out.cell (k := 0) 2 rfl rfl; have p1' := KS2.out.cell (k := 1) 2 rfl rfl; have r0' := KS2.out.cell (k := 0) 0 rfl rfl; have r1' := KS2.out.cell (k := 1) 0 rfl rfl; have z0' := KS2.out.frz (k := 0) 0 rfl; have z1' := KS2.out.frz (k := 1) 0 rfl)
    exact bodyPost_ret (v := .tuple #[.agg #[.slice none 0 0, .int .i64 0], .bool false]) (by simp [results, Try.results11, go_sem, r0', r1']) rfl (sk0_ret _ _ ((KS2.out.setBlk 0 rfl _).setBlk 0 rfl _).bel)
  have hkb := kk
  by_cases hnn : n = n'
  rotate_left
  · have HF : Hid (Pl.joinSketches a b = (Pl.sk0, false)) := if_neg (by rw [hlen.out, hlen'.out]; simp [hnn])
    have hn1 : ((n : Int) != (n' : Int)) = true := by simp; omega
    have hn2 : (n != n') = true := by simpa using hnn
    rw [HF.out]
    go_enter Try.func11, Try.ntmps11
    go_wp2_with first
      | (go_at_call 59; (with_reducible refine (isSketch_c a [.slice A n c, .int .i64 a.Total] _ B (sk.keep HHa.out fun b' hb' => KS0.out.bel.block b' (by omega)) (by have := KS0.out.bel.size; omega)).mono ?_); rintro e w1 ⟨rfl, hb1⟩; have KS1 := Lib.hid (KS0.out.step hb1); have q0 := KS1.out.cell (k := 0) 1 rfl rfl; have q1 := KS1.out.cell (k := 1) 1 rfl rfl; have p0 := KS1.out.cell (k := 0) 2 rfl rfl; have p1 := KS1.out.cell (k := 1) 2 rfl rfl; have r0 := KS1.out.cell (k := 0) 0 rfl rfl; have r1 := KS1.out.cell (k := 1) 0 rfl rfl; have z0 := KS1.out.frz (k := 0) 0 rfl; have z1 := KS1.out.frz (k := 1) 0 rfl)
      | (go_at_call 59; (with_reducible refine (isSketch_c b [.slice A' n' c', .int .i64 b.Total] _ B (sk.keep HHb.out fun b' hb' => KS1.out.bel.block b' (by omega)) (by have := KS1.out.bel.size; omega)).mono ?_); rintro e w2 ⟨rfl, hb2⟩; have KS2 := Lib.hid (KS1.out.step hb2); have q0' := KS2.out.cell (k := 0) 1 rfl rfl; have q1' := KS2.out.cell (k := 1) 1 rfl rfl; have p0' := KS2.out.cell (k := 0) 2 rfl rfl; have p1' := KS2.out.cell (k := 1) 2 rfl rfl; have r0' := KS2.out.cell (k := 0) 0 rfl rfl; have r1' := KS2.out.cell (k := 1) 0 rfl rfl; have z0' := KS2.out.frz (k := 0) 0 rfl; have z1' := KS2.out.frz (k := 1) 0 rfl)
    exact bodyPost_ret (v := .tuple #[.agg #[.slice none 0 0, .int .i64 0], .bool false]) (by simp [results, Try.results11, go_sem, r0', r1']) rfl (sk0_ret _ _ ((KS2.out.setBlk 0 rfl _).setBlk 0 rfl _).bel)
  have hle1 : n ≤ n' := by omega
  have hle2 : n' ≤ n := by omega
  have hn1 : ((n : Int) != (n' : Int)) = false := by simp; omega
  have hn2 : (n != n') = false := by simp [hnn]
  have HNN := Lib.hid hnn
  clear hnn
  have HF : Hid (Pl.joinSketches a b = (if Pl.sketchOk (Pl.joined a b) = true then (Pl.joined a b, true) else (Pl.sk0, false))) := if_pos (by rw [hka, hkb, hlen.out, hlen'.out]; simp [HNN.out])
  have HRB := Lib.hid (fun (k : Nat) (r : List Int) (hr : a.Rows[k]? = some r) => Pl.rows_bd hka hr)
  have HRB' := Lib.hid (fun (k : Nat) (r : List Int) (hr : b.Rows[k]? = some r) => Pl.rows_bd hkb hr)
  have hn3 : 1 ≤ n ∧ n ≤ 3 := by
    have h1 := hka
    unfold Pl.sketchOk at h1
    rw [Bool.and_eq_true, Pl.isIn_iff, hlen.out] at h1
    omega
  have htot := Pl.tot_bd hka
  have htot' := Pl.tot_bd hkb
  go_enter Try.func11, Try.ntmps11
  go_wp2_with first
    | (go_at_call 59; (with_reducible refine (isSketch_c a [.slice A n c, .int .i64 a.Total] _ B (sk.keep HHa.out fun b' hb' => KS0.out.bel.block b' (by omega)) (by have := KS0.out.bel.size; omega)).mono ?_); rintro e w1 ⟨rfl, hb1⟩; have KS1 := Lib.hid (KS0.out.step hb1); have q0 := KS1.out.cell (k := 0) 1 rfl rfl; have q1 := KS1.out.cell (k := 1) 1 rfl rfl; have p0 := KS1.out.cell (k := 0) 2 rfl rfl; have p1 := KS1.out.cell (k := 1) 2 rfl rfl; have r0 := KS1.out.cell (k := 0) 0 rfl rfl; have r1 := KS1.out.cell (k := 1) 0 rfl rfl; have z0 := KS1.out.frz (k := 0) 0 rfl; have z1 := KS1.out.frz (k := 1) 0 rfl)
    | (go_at_call 59; (with_reducible refine (isSketch_c b [.slice A' n' c', .int .i64 b.Total] _ B (sk.keep HHb.out fun b' hb' => KS1.out.bel.block b' (by omega)) (by have := KS1.out.bel.size; omega)).mono ?_); rintro e w2 ⟨rfl, hb2⟩; have KS2 := Lib.hid (KS1.out.step hb2); have q0' := KS2.out.cell (k := 0) 1 rfl rfl; have q1' := KS2.out.cell (k := 1) 1 rfl rfl; have p0' := KS2.out.cell (k := 0) 2 rfl rfl; have p1' := KS2.out.cell (k := 1) 2 rfl rfl; have r0' := KS2.out.cell (k := 0) 0 rfl rfl; have r1' := KS2.out.cell (k := 1) 0 rfl rfl; have z0' := KS2.out.frz (k := 0) 0 rfl; have z1' := KS2.out.frz (k := 1) 0 rfl)
  have KS3 := Lib.hid ((KS2.out.alloc 26 [.slice none 0 0, .int .i64 (a.Total + b.Total)]).add (t := Mm.tsl ints 34 [] (.slice none 0 0) []) (Below.refl _ _) Mm.SlOwn.nil List.nodup_nil (fun b hb => by cases hb))
  have hw2 := KS2.out.bel.size
  clear hb1 hb2 q0 q1 p0 p1 r0 r1 z0 z1 q0' q1' p0' p1' r0' r1' z0' z1'
  obtain ⟨gt, hgt⟩ : ∃ gt, w2.heap.size = gt := ⟨_, rfl⟩
  rw [hgt] at KS3 ⊢ hw2
  have HGT := Lib.hid hgt
  clear hgt
  go_loopg [38] n (fun g i wr => ∃ (k : Nat) (A2 : Option Addr) (c2 : Nat) (fp : List Nat), n - k ≤ g ∧ k ≤ n ∧ i = .int .i64 k ∧ Hid (Mm.Sep w wr [Mm.tsl ints 34 (Pl.joinTo a.Rows b.Rows k) (.slice A2 k c2) fp, Mm.tblk gt 26 [.slice A2 k c2, .int .i64 (a.Total + b.Total)], Mm.tblk (w.heap.size + 2) 26 [.slice none 0 0, .int .i64 0], Mm.tblk (w.heap.size + 1) 26 [.slice A' n' c', .int .i64 b.Total], Mm.tblk w.heap.size 26 [.slice A n c, .int .i64 a.Total]]))
  case atStart => exact ⟨0, none, 0, [], Nat.le_refl _, Nat.zero_le _, rfl, KS3.out⟩
  case round =>
    obtain ⟨k, A2, c2, fp, hgk, hk', rfl, HS⟩ := hrel
    obtain ⟨go, rfl⟩ : ∃ go : Nat, go = gk := ⟨_, rfl⟩
    obtain ⟨wo, rfl⟩ : ∃ wo : World, wo = wr := ⟨_, rfl⟩
    have hbel := HS.out.bel
    have hsw := hbel.size
    by_cases hlt : k < n
    · obtain ⟨r, b0, off, A1, n1, c1, hx, rfl, hb0, hr, e0⟩ := ints_get HL.out hlt
      obtain ⟨q, b5, off5, A5, n5, c5, hy, rfl, hb5, hq, e5⟩ := ints_get HL'.out (show k < n' by omega)
      have hrb := HRB.out k r hx
      have hqb := HRB'.out k q hy
      have hn1 : n1 = 11 := hr.1.symm.trans hrb.1
      have hn5 : n5 = 11 := hq.1.symm.trans hqb.1
      subst hn1
      subst hn5
      have e0' := below_some hbel e0
      have e5' := below_some hbel e5
      have HRW := Lib.hid (hr.keep (w' := wo) fun b' hb' => hbel.block b' (by omega))
      have HQ := Lib.hid hq
      have HN := Lib.hid (Pl.joinTo_next hx hy)
      have HRL := Lib.hid hrb.1
      have HRA := Lib.hid hrb.2.1
      have HQA := Lib.hid hqb.2.1
      have HLL : Hid (r.length = q.length) := hrb.1.trans hqb.1.symm
      clear hrb hqb hx hy hr hq e0 e5
      go_wp2_with fail
      refine (clInt_c r _ _ _ _ B HRW.out (by omega)).mono ?_
      rintro e w3 ⟨Ac, nc, cc, fpc, rfl, ho2, hnd2, hf2, hb2⟩
      obtain ⟨g2, rfl, hg2, hn2⟩ := Mm.sl_addr ho2 (by rw [HRL.out]; omega)
      have hn2' : nc = 11 := hn2.trans HRL.out
      subst hn2'
      have HS2 := Lib.hid (HS.out.add hb2 (t := Mm.tsl Mm.int 3 r (.slice (some ⟨g2, 0, none⟩) 11 cc) fpc) ho2 hnd2 hf2)
      have x0 := HS2.out.cell (k := 0) 4 rfl rfl
      have x1 := below_some hb2 e5'
      clear ho2 hnd2 hf2 hb2 hn2 e0' e5'
      go_wp2
      go_loopg [51] 11 (fun g i wr => ∃ (j : Nat) (fpr : List Nat), 11 - j ≤ g ∧ j ≤ 11 ∧ i = .int .i64 j ∧ Hid (Mm.Sep w wr [Mm.tsl Mm.int 3 (Pl.halfJoin r q j) (.slice (some ⟨g2, 0, none⟩) 11 cc) fpr, Mm.tsl ints 34 (Pl.joinTo a.Rows b.Rows k) (.slice A2 k c2) fp, Mm.tblk gt 26 [.slice A2 k c2, .int .i64 (a.Total + b.Total)], Mm.tblk (w.heap.size + 2) 26 [.slice none 0 0, .int .i64 0], Mm.tblk (w.heap.size + 1) 26 [.slice (some ⟨b5, off5, none⟩) n' c', .int .i64 b.Total], Mm.tblk w.heap.size 26 [.slice (some ⟨b0, off, none⟩) n c, .int .i64 a.Total]]))
      case atStart => exact ⟨0, fpc, Nat.le_refl _, Nat.zero_le _, rfl, by rw [Pl.halfJoin_zero]; exact HS2.out⟩
      case round =>
        obtain ⟨j, fpr, hgj, hj, rfl, HSi⟩ := hrel
        have hbi := HSi.out.bel
        by_cases hlj : j < 11
        · obtain ⟨x, hxr⟩ : ∃ x, r[j]? = some x := ⟨_, List.getElem?_eq_getElem (by rw [HRL.out]; exact hlj)⟩
          obtain ⟨y, b7, off7, hyq, rfl, hb7, i7, e7⟩ := int_get HQ.out hlj
          have hxb := Pl.allIn_at HRA.out hxr
          have hyb := Pl.allIn_at HQA.out hyq
          have e7' := below_some hbi e7
          have hg := Pl.halfJoin_get HLL.out hxr
          have u0 := int_ocell (HSi.out.sl 0 rfl) (HSi.out.ndat (i := 0) rfl) hg
          have u1 := (HSi.out.sl 0 rfl).frozen j
          have hI : Mm.I64 (x + y) := by unfold Mm.I64; omega
          have HSJ := Lib.hid (HSi.out.put1 (k := j) (x := x) (x' := x + y) (u := .int .i64 (x + y)) 0 rfl rfl hg (fun cs fx ho => by
            obtain ⟨_, _, rfl⟩ := ho
            exact ⟨rfl, hI, rfl⟩))
          have HST := Lib.hid (Pl.halfJoin_set HLL.out hxr hyq)
          clear hxr hyq hg e7 hI
          go_wp2
          go_roundg (11 - (j + 1))
          case measure => omega
          case rel => exact ⟨j + 1, fpr, Nat.le_refl _, by omega, by go_num, by rw [← HST.out]; exact HSJ.out⟩
        · have HE : Hid (Pl.halfJoin r q j = Pl.joinRow r q) := Pl.halfJoin_end HLL.out (by rw [HRL.out]; omega)
          have HSK := Lib.hid HSi.out
          rw [HE.out] at HSK
          have hlen3 := Pl.joinTo_len a.Rows b.Rows k
          have d0 := HSK.out.cell (k := 0) 2 rfl rfl
          have z0 := HSK.out.frz (k := 0) 2 rfl
          obtain ⟨l0, ho3, hnext⟩ := HSK.out.push (W2 := wr.alloc (.cells #[.slice (some ⟨g2, 0, none⟩) 11 cc] 34)) 1 0 (by decide) rfl rfl (below_new (Below.refl _ _) _) (x := Pl.joinRow r q) (cx := [.slice (some ⟨g2, 0, none⟩) 11 cc]) (fun W h => ⟨_, rfl, h⟩)
          rw [hlen3] at ho3 hnext
          have HNX := Lib.hid hnext
          have hnews := Lib.hid (World.news_of_block (B := wr.heap.size) (cs := #[.slice (some ⟨g2, 0, none⟩) 11 cc]) (t := 34) (fr := (0, 0)) (heap_alloc_new wr _))
          obtain ⟨i0, hi, hz0, hz1, hz2⟩ := info_parts Try.infoRow
          clear hnext hlen3
          go_wp2_with (at_builtin; refine wpList_append_lies _ (by rfl) _ _ _ (by rfl) 0 34 i0 _ 1 24 Try.underlying22 hi hz0 hz1 hz2 rfl (by omega) _ k l0 (by rfl) ho3 ⟨wr.heap.size, 0, none⟩ 1 1 [.slice (some ⟨g2, 0, none⟩) 11 cc] (by rfl) (by rfl) hnews.out (by simp [Value.oneCell']) (by omega) (by unfold maxLen; omega) (by omega) (Nat.zero_le _) _ rfl ?_; intro gg cap w4 hown1 hgrow hat hlt'; obtain ⟨fp', hs4⟩ := HNX.out gg cap w4 hown1 hgrow hat; (have HS4 := Lib.hid hs4); (have d0' := HS4.out.cell (k := 0) 2 rfl rfl); (have z0' := HS4.out.frz (k := 0) 2 rfl); clear hs4 hown1 hgrow hat)
          go_roundg (n - (k + 1))
          case measure => omega
          case rel => exact ⟨k + 1, _, cap, fp', Nat.le_refl _, by omega, by go_num, by rw [HN.out]; exact (HS4.out.setBlk 2 rfl _).tail⟩
    · obtain rfl : k = n := by omega
      have HE : Hid (Pl.joined a b = ⟨Pl.joinTo a.Rows b.Rows k, a.Total + b.Total⟩) := by show _ = _; unfold Pl.joined; rw [hlen.out]
      have hI : Mm.I64 (a.Total + b.Total) := by unfold Mm.I64; omega
      have d0 := HS.out.cell (k := 0) 1 rfl rfl
      have d1 := HS.out.cell (k := 1) 1 rfl rfl
      have HAT := Lib.hid (show sk.at_ wo wo.heap.size ⟨Pl.joinTo a.Rows b.Rows k, a.Total + b.Total⟩ [.slice A2 k c2, .int .i64 (a.Total + b.Total)] from sk_at_mk (x := ⟨Pl.joinTo a.Rows b.Rows k, a.Total + b.Total⟩) ((HS.out.sl 0 rfl).weak (HS.out.sl 0 rfl).olt) hI)
      have HF' := Lib.hid HF.out
      rw [HE.out] at HF'
      cases hz : Pl.sketchOk ⟨Pl.joinTo a.Rows b.Rows k, a.Total + b.Total⟩
      · have HZ : Hid (Pl.joinSketches a b = (Pl.sk0, false)) := by show _ = _; rw [HF'.out, hz]; rfl
        go_wp2_with (go_at_call 61; refine (checkedSketch_no ⟨Pl.joinTo a.Rows b.Rows k, a.Total + b.Total⟩ _ _ _ _ _ HAT.out (Nat.le_refl _) hz).mono ?_; rintro e w5 ⟨rfl, hb5⟩; (have HS5 := Lib.hid (HS.out.step hb5)); (have r0 := HS5.out.cell (k := 0) 2 rfl rfl); (have r1 := HS5.out.cell (k := 1) 2 rfl rfl); (have z0 := HS5.out.frz (k := 0) 2 rfl); (have z1 := HS5.out.frz (k := 1) 2 rfl); clear hb5)
        rw [HZ.out]
        exact bodyPost_ret (v := .tuple #[.agg #[.slice none 0 0, .int .i64 0], .bool false]) (by simp [results, Try.results11, go_sem, r0, r1]) rfl (sk0_ret _ _ ((HS5.out.setBlk 2 rfl _).setBlk 2 rfl _).bel)
      · have HZ : Hid (Pl.joinSketches a b = (⟨Pl.joinTo a.Rows b.Rows k, a.Total + b.Total⟩, true)) := by show _ = _; rw [HF'.out, hz]; rfl
        go_wp2_with (go_at_call 61; refine (checkedSketch_yes ⟨Pl.joinTo a.Rows b.Rows k, a.Total + b.Total⟩ _ _ _ _ _ HAT.out (Nat.le_refl _) hz).mono ?_; rintro e w5 ⟨rfl, hb5⟩; (have HS5 := Lib.hid (HS.out.step hb5)); (have r0 := HS5.out.cell (k := 0) 2 rfl rfl); (have r1 := HS5.out.cell (k := 1) 2 rfl rfl); (have z0 := HS5.out.frz (k := 0) 2 rfl); (have z1 := HS5.out.frz (k := 1) 2 rfl); clear hb5)
        rw [HZ.out]
        have HS6 := Lib.hid (((HS5.out.setBlk (k := 0) 2 rfl (.slice A2 k c2)).setBlk (k := 1) 2 rfl (.int .i64 (a.Total + b.Total))).own0 0 rfl)
        exact bodyPost_ret (v := .tuple #[.agg #[.slice A2 k c2, .int .i64 (a.Total + b.Total)], .bool true]) (by simp [results, Try.results11, go_sem, r0, r1]) rfl
          ⟨_, fp, rfl, sk_own_mk (x := ⟨Pl.joinTo a.Rows b.Rows k, a.Total + b.Total⟩) HS6.out.1 hI, HS6.out.2.1, HS6.out.2.2.1, HS6.out.2.2.2⟩
set_option maxRecDepth 100000 in
set_option maxHeartbeats 1000000 in
theorem specJoinSketches_c (a : Sketch) (csa : List Value) (b : Sketch) (csb : List Value) (w : World) (B : Nat) (ha : sk.at_ w B a csa) (hb : sk.at_ w B b csb) (hB : B ≤ w.heap.size) :
    Calls Try.prog 9 #[.agg csa.toArray, .agg csb.toArray] w (Mm.Ret2 sk w (Pl.joinSketches a b).1 (Pl.joinSketches a b).2) := by
  have HHa := Lib.hid ha
  have HHb := Lib.hid hb
  obtain ⟨A, n, c, rfl, h0, g0⟩ := sk_at ha
  obtain ⟨A', n', c', rfl, h0', g0'⟩ := sk_at hb
  have hlen := Lib.hid h0.1
  have hlen' := Lib.hid h0'.1
  have HL := Lib.hid h0
  have HL' := Lib.hid h0'
  clear h0 ha g0 h0' hb g0'
  have KS0 := Lib.hid ((((Mm.Sep.start w).alloc' rfl 26 [.slice A n c, .int .i64 a.Total]).alloc' (Mm.sz1 _ _) 26 [.slice A' n' c', .int .i64 b.Total]).alloc' (Mm.sz2 _ _ _) 26 [.slice none 0 0, .int .i64 0])
  cases kk : Pl.sketchOk a
  · skip
    have HF : Hid (Pl.joinSketches a b = (Pl.sk0, false)) := if_neg (by simp [kk])
    rw [HF.out]
    go_enter Try.func9, Try.ntmps9
    go_wp2_with first
      | (go_at_call 43; (with_reducible refine (specGoodSketch_c a [.slice A n c, .int .i64 a.Total] _ B (sk.keep HHa.out fun b' hb' => KS0.out.bel.block b' (by omega)) (by have := KS0.out.bel.size; omega)).mono ?_); rintro e w1 ⟨rfl, hb1⟩; have KS1 := Lib.hid (KS0.out.step hb1); have q0 := KS1.out.cell (k := 0) 1 rfl rfl; have q1 := KS1.out.cell (k := 1) 1 rfl rfl; have p0 := KS1.out.cell (k := 0) 2 rfl rfl; have p1 := KS1.out.cell (k := 1) 2 rfl rfl; have r0 := KS1.out.cell (k := 0) 0 rfl rfl; have r1 := KS1.out.cell (k := 1) 0 rfl rfl; have z0 := KS1.out.frz (k := 0) 0 rfl; have z1 := KS1.out.frz (k := 1) 0 rfl)
      | (go_at_call 43; (with_reducible refine (specGoodSketch_c b [.slice A' n' c', .int .i64 b.Total] _ B (sk.keep HHb.out fun b' hb' => KS1.out.bel.block b' (by omega)) (by have := KS1.out.bel.size; omega)).mono ?_); rintro e w2 ⟨rfl, hb2⟩; have KS2 := Lib.hid (KS1.out.step hb2); have q0' := KS2.out.cell (k := 0) 1 rfl rfl; have q1' := KS2.out.cell (k := 1) 1 rfl rfl; have p0' := KS2.out.cell (k := 0) 2 rfl rfl; have p1' := KS2.out.cell (k := 1) 2 rfl rfl; have r0' := KS2.out.cell (k := 0) 0 rfl rfl; have r1' := KS2.out.cell (k := 1) 0 rfl rfl; have z0' := KS2.out.frz (k := 0) 0 rfl; have z1' := KS2.out.frz (k := 1) 0 rfl)
    exact bodyPost_ret (v := .tuple #[.agg #[.slice none 0 0, .int .i64 0], .bool false]) (by simp [results, Try.results9, go_sem, r0, r1]) rfl (sk0_ret _ _ ((KS1.out.setBlk 0 rfl _).setBlk 0 rfl _).bel)
  have hka := kk
  cases kk : Pl.sketchOk b
  · skip
    have HF : Hid (Pl.joinSketches a b = (Pl.sk0, false)) := if_neg (by simp [kk])
    rw [HF.out]
    go_enter Try.func9, Try.ntmps9
    go_wp2_with first
      | (go_at_call 43; (with_reducible refine (specGoodSketch_c a [.slice A n c, .int .i64 a.Total] _ B (sk.keep HHa.out fun b' hb' => KS0.out.bel.block b' (by omega)) (by have := KS0.out.bel.size; omega)).mono ?_); rintro e w1 ⟨rfl, hb1⟩; have KS1 := Lib.hid (KS0.out.step hb1); have q0 := KS1.out.cell (k := 0) 1 rfl rfl; have q1 := KS1.out.cell (k := 1) 1 rfl rfl; have p0 := KS1.out.cell (k := 0) 2 rfl rfl; have p1 := KS1.out.cell (k := 1) 2 rfl rfl; have r0 := KS1.out.cell (k := 0) 0 rfl rfl; have r1 := KS1.out.cell (k := 1) 0 rfl rfl; have z0 := KS1.out.frz (k := 0) 0 rfl; have z1 := KS1.out.frz (k := 1) 0 rfl)
      | (go_at_call 43; (with_reducible refine (specGoodSketch_c b [.slice A' n' c', .int .i64 b.Total] _ B (sk.keep HHb.out fun b' hb' => KS1.out.bel.block b' (by omega)) (by have := KS1.out.bel.size; omega)).mono ?_); rintro e w2 ⟨rfl, hb2⟩; have KS2 := Lib.hid (KS1.out.step hb2); have q0' := KS2.out.cell (k := 0) 1 rfl rfl; have q1' := KS2.out.cell (k := 1) 1 rfl rfl; have p0' := KS2.out.cell (k := 0) 2 rfl rfl; have p1' := KS2.out.cell (k := 1) 2 rfl rfl; have r0' := KS2.out.cell (k := 0) 0 rfl rfl; have r1' := KS2.out.cell (k := 1) 0 rfl rfl; have z0' := KS2.out.frz (k := 0) 0 rfl; have z1' := KS2.out.frz (k := 1) 0 rfl)
    exact bodyPost_ret (v := .tuple #[.agg #[.slice none 0 0, .int .i64 0], .bool false]) (by simp [results, Try.results9, go_sem, r0', r1']) rfl (sk0_ret _ _ ((KS2.out.setBlk 0 rfl _).setBlk 0 rfl _).bel)
  have hkb := kk
  by_cases hnn : n = n'
  rotate_left
  · have HF : Hid (Pl.joinSketches a b = (Pl.sk0, false)) := if_neg (by rw [hlen.out, hlen'.out]; simp [hnn])
    have hn1 : ((n : Int) != (n' : Int)) = true := by simp; omega
    have hn2 : (n != n') = true := by simpa using hnn
    rw [HF.out]
    go_enter Try.func9, Try.ntmps9
    go_wp2_with first
      | (go_at_call 43; (with_reducible refine (specGoodSketch_c a [.slice A n c, .int .i64 a.Total] _ B (sk.keep HHa.out fun b' hb' => KS0.out.bel.block b' (by omega)) (by have := KS0.out.bel.size; omega)).mono ?_); rintro e w1 ⟨rfl, hb1⟩; have KS1 := Lib.hid (KS0.out.step hb1); have q0 := KS1.out.cell (k := 0) 1 rfl rfl; have q1 := KS1.out.cell (k := 1) 1 rfl rfl; have p0 := KS1.out.cell (k := 0) 2 rfl rfl; have p1 := KS1.out.cell (k := 1) 2 rfl rfl; have r0 := KS1.out.cell (k := 0) 0 rfl rfl; have r1 := KS1.out.cell (k := 1) 0 rfl rfl; have z0 := KS1.out.frz (k := 0) 0 rfl; have z1 := KS1.out.frz (k := 1) 0 rfl)
      | (go_at_call 43; (with_reducible refine (specGoodSketch_c b [.slice A' n' c', .int .i64 b.Total] _ B (sk.keep HHb.out fun b' hb' => KS1.out.bel.block b' (by omega)) (by have := KS1.out.bel.size; omega)).mono ?_); rintro e w2 ⟨rfl, hb2⟩; have KS2 := Lib.hid (KS1.out.step hb2); have q0' := KS2.out.cell (k := 0) 1 rfl rfl; have q1' := KS2.out.cell (k := 1) 1 rfl rfl; have p0' := KS2.out.cell (k := 0) 2 rfl rfl; have p1' := KS2.out.cell (k := 1) 2 rfl rfl; have r0' := KS2.out.cell (k := 0) 0 rfl rfl; have r1' := KS2.out.cell (k := 1) 0 rfl rfl; have z0' := KS2.out.frz (k := 0) 0 rfl; have z1' := KS2.out.frz (k := 1) 0 rfl)
    exact bodyPost_ret (v := .tuple #[.agg #[.slice none 0 0, .int .i64 0], .bool false]) (by simp [results, Try.results9, go_sem, r0', r1']) rfl (sk0_ret _ _ ((KS2.out.setBlk 0 rfl _).setBlk 0 rfl _).bel)
  have hle1 : n ≤ n' := by omega
  have hle2 : n' ≤ n := by omega
  have hn1 : ((n : Int) != (n' : Int)) = false := by simp; omega
  have hn2 : (n != n') = false := by simp [hnn]
  have HNN := Lib.hid hnn
  clear hnn
  have HF : Hid (Pl.joinSketches a b = (if Pl.sketchOk (Pl.joined a b) = true then (Pl.joined a b, true) else (Pl.sk0, false))) := if_pos (by rw [hka, hkb, hlen.out, hlen'.out]; simp [HNN.out])
  have HRB := Lib.hid (fun (k : Nat) (r : List Int) (hr : a.Rows[k]? = some r) => Pl.rows_bd hka hr)
  have HRB' := Lib.hid (fun (k : Nat) (r : List Int) (hr : b.Rows[k]? = some r) => Pl.rows_bd hkb hr)
  have hn3 : 1 ≤ n ∧ n ≤ 3 := by
    have h1 := hka
    unfold Pl.sketchOk at h1
    rw [Bool.and_eq_true, Pl.isIn_iff, hlen.out] at h1
    omega
  have htot := Pl.tot_bd hka
  have htot' := Pl.tot_bd hkb
  go_enter Try.func9, Try.ntmps9
  go_wp2_with first
    | (go_at_call 43; (with_reducible refine (specGoodSketch_c a [.slice A n c, .int .i64 a.Total] _ B (sk.keep HHa.out fun b' hb' => KS0.out.bel.block b' (by omega)) (by have := KS0.out.bel.size; omega)).mono ?_); rintro e w1 ⟨rfl, hb1⟩; have KS1 := Lib.hid (KS0.out.step hb1); have q0 := KS1.out.cell (k := 0) 1 rfl rfl; have q1 := KS1.out.cell (k := 1) 1 rfl rfl; have p0 := KS1.out.cell (k := 0) 2 rfl rfl; have p1 := KS1.out.cell (k := 1) 2 rfl rfl; have r0 := KS1.out.cell (k := 0) 0 rfl rfl; have r1 := KS1.out.cell (k := 1) 0 rfl rfl; have z0 := KS1.out.frz (k := 0) 0 rfl; have z1 := KS1.out.frz (k := 1) 0 rfl)
    | (go_at_call 43; (with_reducible refine (specGoodSketch_c b [.slice A' n' c', .int .i64 b.Total] _ B (sk.keep HHb.out fun b' hb' => KS1.out.bel.block b' (by omega)) (by have := KS1.out.bel.size; omega)).mono ?_); rintro e w2 ⟨rfl, hb2⟩; have KS2 := Lib.hid (KS1.out.step hb2); have q0' := KS2.out.cell (k := 0) 1 rfl rfl; have q1' := KS2.out.cell (k := 1) 1 rfl rfl; have p0' := KS2.out.cell (k := 0) 2 rfl rfl; have p1' := KS2.out.cell (k := 1) 2 rfl rfl; have r0' := KS2.out.cell (k := 0) 0 rfl rfl; have r1' := KS2.out.cell (k := 1) 0 rfl rfl; have z0' := KS2.out.frz (k := 0) 0 rfl; have z1' := KS2.out.frz (k := 1) 0 rfl)
    | (go_at_call 57; refine (l15Own_c a A n c _ B (sk.keep HHa.out fun b' hb' => KS2.out.bel.block b' (by omega)) (by have := KS2.out.bel.size; omega) hka).mono ?_; rintro e w3 ⟨cs3, fp3, rfl, ho3, hnd3, hf3, hb3⟩; obtain ⟨A2, n2, c2, f2, rfl, rfl, ho4, -⟩ := sk_own ho3; have KS3 := Lib.hid (KS2.out.add hb3 (t := Mm.tsl ints 34 a.Rows (.slice A2 n2 c2) fp3) ho4 hnd3 hf3); have q3 := KS3.out.cell (k := 0) 2 rfl rfl)
  have hn2' : n2 = n := by obtain ⟨_, _, _, hv, h1, _⟩ := ho4.form; injection hv with _ h2 _; have := hlen.out; omega
  subst hn2'
  have KS4 := Lib.hid (KS3.out.alloc 26 [.slice A2 n2 c2, .int .i64 a.Total])
  clear ho3 ho4 hnd3 hf3 hb3 hb1 hb2 q0 q1 p0 p1 r0 r1 z0 z1 q0' q1' p0' p1' r0' r1' z0' z1' q3
  obtain ⟨gt, hgt⟩ : ∃ gt, w3.heap.size = gt := ⟨_, rfl⟩
  rw [hgt] at KS4 ⊢
  have HGT := Lib.hid hgt
  clear hgt
  go_loopg [34] n2 (fun g i wr => ∃ (k : Nat) (fp : List Nat), n2 - k ≤ g ∧ k ≤ n2 ∧ i = .int .i64 k ∧ Hid (Mm.Sep w wr [Mm.tblk gt 26 [.slice A2 n2 c2, .int .i64 a.Total], Mm.tsl ints 34 (Pl.halfRows a.Rows b.Rows k) (.slice A2 n2 c2) fp, Mm.tblk (w.heap.size + 2) 26 [.slice none 0 0, .int .i64 0], Mm.tblk (w.heap.size + 1) 26 [.slice A' n' c', .int .i64 b.Total], Mm.tblk w.heap.size 26 [.slice A n2 c, .int .i64 a.Total]]))
  case atStart => exact ⟨0, fp3, Nat.le_refl _, Nat.zero_le _, rfl, by rw [Pl.halfRows_zero]; exact KS4.out⟩
  case round =>
    obtain ⟨k, fp, hgk, hk', rfl, HS⟩ := hrel
    obtain ⟨go, rfl⟩ : ∃ go : Nat, go = gk := ⟨_, rfl⟩
    obtain ⟨wo, rfl⟩ : ∃ wo : World, wo = wr := ⟨_, rfl⟩
    have hbel := HS.out.bel
    by_cases hlt : k < n2
    · obtain ⟨r, hx⟩ : ∃ r, a.Rows[k]? = some r := ⟨_, List.getElem?_eq_getElem (by rw [hlen.out]; exact hlt)⟩
      obtain ⟨q, b5, off5, A5, n5, c5, hy, rfl, hb5, hq, e5⟩ := ints_get HL'.out (show k < n' by omega)
      have hrb := HRB.out k r hx
      have hqb := HRB'.out k q hy
      have hn5 : n5 = 11 := hq.1.symm.trans hqb.1
      subst hn5
      have e5' := below_some hbel e5
      have HQ := Lib.hid hq
      have HG := Lib.hid (Pl.halfRows_get (b := b.Rows) hx)
      have HSET := Lib.hid (Pl.halfRows_set hx hy)
      obtain ⟨ga, rfl, hga, -⟩ := Mm.sl_addr (HS.out.sl 1 rfl) (by have := (List.getElem?_eq_some_iff.1 HG.out).1; omega)
      have HRL := Lib.hid hrb.1
      have HRA := Lib.hid hrb.2.1
      have HQA := Lib.hid hqb.2.1
      have HLL : Hid (r.length = q.length) := hrb.1.trans hqb.1.symm
      have HSZ := Lib.hid (Pl.set_same HG.out)
      clear hrb hqb hx hy hq e5
      go_wp2
      go_loopg [41] 11 (fun g i wr => ∃ (j : Nat) (fpr : List Nat), 11 - j ≤ g ∧ j ≤ 11 ∧ i = .int .i64 j ∧ Hid (Mm.Sep w wr [Mm.tblk gt 26 [.slice (some ⟨ga, 0, none⟩) n2 c2, .int .i64 a.Total], Mm.tsl ints 34 ((Pl.halfRows a.Rows b.Rows k).set k (Pl.halfJoin r q j)) (.slice (some ⟨ga, 0, none⟩) n2 c2) fpr, Mm.tblk (w.heap.size + 2) 26 [.slice none 0 0, .int .i64 0], Mm.tblk (w.heap.size + 1) 26 [.slice (some ⟨b5, off5, none⟩) n' c', .int .i64 b.Total], Mm.tblk w.heap.size 26 [.slice A n2 c, .int .i64 a.Total]]))
      case atStart => exact ⟨0, fp, Nat.le_refl _, Nat.zero_le _, rfl, by rw [Pl.halfJoin_zero, HSZ.out]; exact HS.out⟩
      case round =>
        obtain ⟨j, fpr, hgj, hj, rfl, HSi⟩ := hrel
        have hbi := HSi.out.bel
        by_cases hlj : j < 11
        · obtain ⟨x, hxr⟩ : ∃ x, r[j]? = some x := ⟨_, List.getElem?_eq_getElem (by rw [HRL.out]; exact hlj)⟩
          obtain ⟨y, b7, off7, hyq, rfl, hb7, i7, e7⟩ := int_get HQ.out hlj
          have hxb := Pl.allIn_at HRA.out hxr
          have hyb := Pl.allIn_at HQA.out hyq
          have e7' := below_some hbi e7
          have hg := Pl.halfJoin_get HLL.out hxr
          obtain ⟨csr, fx, ⟨vr, rfl, hor⟩, hfn, hfs, hcr, hput⟩ := HSi.out.putIn (k := k) 1 rfl (Pl.set_get HG.out)
          obtain ⟨Ar, nr, cr, rfl, hnr, -⟩ := hor.form
          obtain ⟨gr, rfl, hgr, -⟩ := Mm.sl_addr hor (by have := (List.getElem?_eq_some_iff.1 hg).1; omega)
          have hjn : j < nr := by have := (List.getElem?_eq_some_iff.1 hg).1; omega
          have d0 := HSi.out.cell (k := 0) 0 rfl rfl
          have u1 : wr.cell? ⟨ga, k, none⟩ = some (.slice (some ⟨gr, 0, none⟩) nr cr) := by have h := hcr 0 _ rfl; rwa [show k * ints.size + 0 = k by show k * 1 + 0 = k; omega] at h
          have u2 := int_ocell hor hfn hg
          have u3 := hor.frozen j
          have hI : Mm.I64 (x + y) := by unfold Mm.I64; omega
          obtain ⟨fp', hn⟩ := hput (wr.setCell ⟨gr, j, none⟩ (.int .i64 (x + y))) ((Pl.halfJoin r q j).set j (x + y)) fx ((Mm.Chg.refl _ _).setCell hgr _) ⟨_, rfl, hor.store1 hfn rfl hg (fun cs fx ho => by
            obtain ⟨_, _, rfl⟩ := ho
            exact ⟨rfl, hI, rfl⟩)⟩ hfn (fun b hb => hb)
          have HST := Lib.hid (Pl.halfJoin_set HLL.out hxr hyq)
          have HSJ := Lib.hid hn
          rw [HST.out, List.set_set] at HSJ
          clear hxr hyq hg e7 hI hn hput hor hfn hfs hcr hnr
          go_wp2
          go_roundg (11 - (j + 1))
          case measure => omega
          case rel => exact ⟨j + 1, fp', Nat.le_refl _, by omega, by go_num, HSJ.out⟩
        · have HE : Hid (Pl.halfJoin r q j = Pl.joinRow r q) := Pl.halfJoin_end HLL.out (by rw [HRL.out]; omega)
          have HSK := Lib.hid HSi.out
          rw [HE.out, HSET.out] at HSK
          go_wp2
          go_roundg (n2 - (k + 1))
          case measure => omega
          case rel => exact ⟨k + 1, fpr, Nat.le_refl _, by omega, by go_num, HSK.out⟩
    · obtain rfl : k = n2 := by omega
      have HE : Hid (Pl.joined a b = ⟨Pl.halfRows a.Rows b.Rows k, a.Total + b.Total⟩) := by show _ = _; rw [Pl.halfRows_end (by rw [hlen.out]; exact Nat.le_refl _)]; unfold Pl.joined; rw [hlen.out]
      have hI : Mm.I64 (a.Total + b.Total) := by unfold Mm.I64; omega
      have d0 := HS.out.cell (k := 0) 0 rfl rfl
      have d1 := HS.out.cell (k := 1) 0 rfl rfl
      have p1 := HS.out.cell (k := 1) 3 rfl rfl
      have zt := HS.out.frz (k := 1) 0 rfl
      have HS' := Lib.hid (HS.out.setBlk (k := 1) 0 rfl (.int .i64 (a.Total + b.Total)))
      have HAT := Lib.hid (show sk.at_ (wo.setCell ⟨gt, 1, none⟩ (.int .i64 (a.Total + b.Total))) (wo.setCell ⟨gt, 1, none⟩ (.int .i64 (a.Total + b.Total))).heap.size ⟨Pl.halfRows a.Rows b.Rows k, a.Total + b.Total⟩ [.slice A2 k c2, .int .i64 (a.Total + b.Total)] from sk_at_mk (x := ⟨Pl.halfRows a.Rows b.Rows k, a.Total + b.Total⟩) ((HS'.out.sl 1 rfl).weak (HS'.out.sl 1 rfl).olt) hI)
      have HF' := Lib.hid HF.out
      rw [HE.out] at HF'
      cases hz : Pl.sketchOk ⟨Pl.halfRows a.Rows b.Rows k, a.Total + b.Total⟩
      · have HZ : Hid (Pl.joinSketches a b = (Pl.sk0, false)) := by show _ = _; rw [HF'.out, hz]; rfl
        go_wp2_with (go_at_call 43; refine (specGoodSketch_c ⟨Pl.halfRows a.Rows b.Rows k, a.Total + b.Total⟩ [.slice A2 k c2, .int .i64 (a.Total + b.Total)] _ _ HAT.out (Nat.le_refl _)).mono ?_; rintro e w5 ⟨rfl, hb5⟩; (have HS5 := Lib.hid (HS'.out.step hb5)); (have r0 := HS5.out.cell (k := 0) 2 rfl rfl); (have r1 := HS5.out.cell (k := 1) 2 rfl rfl); (have z0 := HS5.out.frz (k := 0) 2 rfl); (have z1 := HS5.out.frz (k := 1) 2 rfl); clear hb5)
        rw [HZ.out]
        exact bodyPost_ret (v := .tuple #[.agg #[.slice none 0 0, .int .i64 0], .bool false]) (by simp [results, Try.results9, go_sem, r0, r1]) rfl (sk0_ret _ _ ((HS5.out.setBlk 2 rfl _).setBlk 2 rfl _).bel)
      · have HZ : Hid (Pl.joinSketches a b = (⟨Pl.halfRows a.Rows b.Rows k, a.Total + b.Total⟩, true)) := by show _ = _; rw [HF'.out, hz]; rfl
        go_wp2_with (go_at_call 43; refine (specGoodSketch_c ⟨Pl.halfRows a.Rows b.Rows k, a.Total + b.Total⟩ [.slice A2 k c2, .int .i64 (a.Total + b.Total)] _ _ HAT.out (Nat.le_refl _)).mono ?_; rintro e w5 ⟨rfl, hb5⟩; (have HS5 := Lib.hid (HS'.out.step hb5)); (have r0 := HS5.out.cell (k := 0) 2 rfl rfl); (have r1 := HS5.out.cell (k := 1) 2 rfl rfl); (have z0 := HS5.out.frz (k := 0) 2 rfl); (have z1 := HS5.out.frz (k := 1) 2 rfl); (have o0 := HS5.out.cell (k := 0) 0 rfl rfl); (have o1 := HS5.out.cell (k := 1) 0 rfl rfl); clear hb5)
        rw [HZ.out]
        have HS6 := Lib.hid (((HS5.out.setBlk (k := 0) 2 rfl (.slice A2 k c2)).setBlk (k := 1) 2 rfl (.int .i64 (a.Total + b.Total))).own0 1 rfl)
        exact bodyPost_ret (v := .tuple #[.agg #[.slice A2 k c2, .int .i64 (a.Total + b.Total)], .bool true]) (by simp [results, Try.results9, go_sem, r0, r1]) rfl
          ⟨_, fp, rfl, sk_own_mk (x := ⟨Pl.halfRows a.Rows b.Rows k, a.Total + b.Total⟩) HS6.out.1 hI, HS6.out.2.1, HS6.out.2.2.1, HS6.out.2.2.2⟩
end Go.Proofs.Ytjmcbggdckfefaa
