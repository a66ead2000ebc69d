/-
  Joined texts, in build order: Jr, Js, Jt, Ju, Rw, K9, Ka, Kb, Jv, Jx, Jz, M0, M1, Jy, M2, M3, M4, M5, M6, M9. Each part says what it proves; no conditions beyond those that a part names.
-/
import Derived.Test.YtbhmdnjammnlnaaGreatDoorZ02
import Derived.Test.YtbhmdnjammnlnaaGreatDoorZ03
import Derived.Test.YtbhmdnjammnlnaaGreatDoorZ05
import Derived.Deep.LoopGhost
set_option linter.unusedVariables false
set_option linter.unusedSimpArgs false
/-
  Contracts: the records of a piece and of a log, a log's end, the measurements of a log's records, the reference's. Conditions: those named.
-/
namespace Go.Proofs.YtbhmdnjammnlnaaGreatDoor
open Go.RowKit
attribute [local go_sem] und_cell cha_cell World.cell?_alloc_some
theorem Pl.records_get {s : ByteArray} {k : Nat} {p : Nat × Nat} (h : (Pl.recs s)[k]? = some p) : (Pl.records s)[k]? = some (s.extract (p.1 + 1) (p.1 + 1 + p.2)) := by
  unfold Pl.records
  rw [List.getElem?_map, h]; rfl
theorem Pl.starts_get {s : ByteArray} {k : Nat} {a : Int} (h : (Pl.starts s)[k]? = some a) : ∃ p, (Pl.recs s)[k]? = some p ∧ a = (p.1 : Int) := by
  unfold Pl.starts at h
  rw [List.getElem?_map] at h
  obtain ⟨p, hp, rfl⟩ := Option.map_eq_some_iff.1 h
  exact ⟨p, hp, rfl⟩
theorem Tryz.infoStR : (Tryz.prog.info? 9).map (fun i => (i.zero, i.size, i.bytes)) = some (some (.string ByteArray.empty), 1, 16) := by kernel_rfl
set_option maxRecDepth 100000 in
set_option maxHeartbeats 2000000 in
theorem l6Records_c (p : Piece) (A : Option Addr) (n c : Nat) (w : World) (hs : p.Bytes.size ≤ 1000) :
    Calls Tryz.prog 165 #[.agg #[.int .i64 p.From, .string p.Bytes, .slice A n c]] w (AllAns (Pl.records p.Bytes) w) := by
  obtain ⟨fr, s, l⟩ := p
  dsimp only at hs ⊢
  obtain ⟨iP, qP, qP0, qP1, qP2⟩ := info_parts Tryz.infoStR
  obtain ⟨ga, hga⟩ : ∃ g, w.heap.size = g := ⟨_, rfl⟩
  obtain ⟨W0, hW0⟩ : ∃ W, w.alloc (.cells #[.int .i64 fr, .string s, .slice A n c] 164) = W := ⟨_, rfl⟩
  have KS0 := Lib.hid (((Mm.SepF.start w).alloc' hga 164 [.int .i64 fr, .string s, .slice A n c]).atW hW0)
  have d1 := KS0.out.cell (k := 1) 0 rfl rfl
  have CS := l6Starts_c s (by omega) W0
  go_enter Tryz.func165, Tryz.ntmps165
  go_wp2_with fail
  refine CS.mono ?_
  rintro e w1 ⟨A1, n1, c1, f1, rfl, hn1, hs1⟩
  obtain ⟨W1, rfl⟩ : ∃ W : World, W = w1 := ⟨_, rfl⟩
  have KS1 := Lib.hid (KS0.out.join hs1)
  have HN1 : Hid (n1 = (Pl.recs s).length) := hn1
  have hn1b : n1 ≤ 1000 := by have := Pl.recs_len s; omega
  clear CS d1 hs1 hn1 KS0 hW0 hga
  go_upto_region 4 with fail
  go_loopg [3, 18] n1 (fun gg o_ i_ wr => ∃ (k : Nat) (A' : Option Addr) (c' : Nat) (fq : List Nat), n1 - k ≤ gg ∧ k ≤ n1 ∧ i_ = .int .i64 (k : Nat) ∧ o_ = .slice A' k c' ∧ Hid (Mm.SepF [] w wr [Mm.tsl Mm.str 9 ((Pl.records s).take k) (.slice A' k c') fq, Mm.tsl Mm.int 3 (Pl.starts s) (.slice A1 n1 c1) f1, Mm.tblk ga 164 [.int .i64 fr, .string s, .slice A n c]]))
  case atStart => exact ⟨0, none, 0, [], by omega, by omega, rfl, rfl, KS1.out.add (Below.refl _ _) Mm.SlOwn.nil List.nodup_nil (fun b hb => by cases hb)⟩
  case round =>
    clear KS1
    obtain ⟨k, A', c', fq, hgk, hk, rfl, rfl, HS⟩ := hrel
    obtain ⟨W, rfl⟩ : ∃ W : World, W = wr := ⟨_, rfl⟩
    by_cases hlt : k < n1
    · have fc : (k : Int) < (n1 : Nat) := by omega
      obtain ⟨a, bb, off, cs0, ha, hA, -, hat, hc⟩ := (HS.out.rdSl 1 rfl).get hlt
      subst hA
      obtain ⟨rfl, -⟩ := hat
      have c0 := hc 0 _ rfl
      rw [show off + k * Mm.int.size + 0 = off + k from by show off + k * 1 + 0 = _; omega] at c0
      obtain ⟨p, hp, rfl⟩ := Pl.starts_get ha
      have hrl := Pl.recs_mem (List.mem_of_getElem? hp)
      have hbd := Pl.recs_bound (List.mem_of_getElem? hp)
      have HRG := Lib.hid (Pl.records_get hp)
      obtain ⟨p1, p2⟩ := p
      dsimp only at c0 hrl hbd HRG
      have CG := l1Get_c s p1 (by omega) (by omega) W
      have d1 := HS.out.cell (k := 1) 2 rfl rfl
      clear hc ha hp
      go_wp2_with fail
      refine CG.mono ?_
      rintro e w3 ⟨gn, gx, rfl, hG, hb3⟩
      obtain ⟨W3, rfl⟩ : ∃ W : World, W = w3 := ⟨_, rfl⟩
      have hG2 : gn = (p2 : Int) ∧ gx = ((p1 : Nat) : Int) + 1 := by
        obtain ⟨-, -, -, h4⟩ := hG
        rcases h4 with ⟨m, hm, h5, h6⟩ | ⟨hno, -⟩
        · rw [hrl] at hm
          injection hm with hm
          subst hm
          exact ⟨h5, h6⟩
        · rw [hrl] at hno; cases hno
      obtain ⟨rfl, rfl⟩ := hG2
      have KS3 := Lib.hid (HS.out.step hb3)
      clear CG c0 d1 hb3 hG hrl HS
      have d1 := KS3.out.cell (k := 1) 2 rfl rfl
      obtain ⟨tx, htx⟩ : ∃ t, s.extract (p1 + 1) (p1 + 1 + p2) = t := ⟨_, rfl⟩
      have htl : tx.size ≤ maxLen := by rw [← htx, ByteArray.size_extract]; unfold maxLen; omega
      rw [htx] at HRG
      have hkl : ((Pl.records s).take k).length = k := by rw [List.length_take]; have := HN1.out; have := Pl.recs_records s; omega
      have hbd1 := hbd.1
      clear hbd
      go_wp2_with (at_builtin; refine Mm.app_list (x := tx) KS3.out 0 rfl rfl (.tmp 29) (.tmp 37) 142 rfl iP _ 16 Tryz.underlying142 qP qP0 qP1 qP2 rfl (by decide) rfl rfl (fun W => ⟨rfl, htl, rfl⟩) hkl (by unfold maxLen; omega) (by omega) ?_; intro g cap w' fp' hs4; (have HS4 := Lib.hid hs4); clear hs4)
      go_roundg (n1 - (k + 1))
      case measure => omega
      case rel => exact ⟨k + 1, _, cap, fp', Nat.le_refl _, by omega, by go_num, rfl, by rw [List.take_add_one, HRG.out]; exact HS4.out.sel [0, 1, 2] (by decide) rfl⟩
    · obtain rfl : k = n1 := by omega
      have fc : ¬ ((k : Nat) : Int) < (k : Nat) := by omega
      have HE : Hid ((Pl.records s).take k = Pl.records s) := List.take_of_length_le (by have := HN1.out; have := Pl.recs_records s; omega)
      have HKL : Hid (k = (Pl.records s).length) := HN1.out.trans (Pl.recs_records s)
      go_wp2
      go_ret
      exact ⟨A', k, c', fq, rfl, HKL.out, by rw [HE.out] at HS; exact HS.out.sel [0] (by decide) rfl⟩
set_option maxRecDepth 100000 in
set_option maxHeartbeats 4000000 in
theorem l6All_c (g : Log) (cs : List Value) (w : World) (B : Nat) (hg : rLog.at_ w B g cs) (hB : B ≤ w.heap.size) (hok : Pl.LogOk g) (hb0 : g.Begin = 0) :
    Calls Tryz.prog 125 #[.agg cs.toArray] w (AllAns (Pl.lRecs g.Pieces) w) := by
  obtain ⟨A, n, c, rfl, hr, -⟩ := rLog_at hg
  obtain ⟨ps, bg⟩ := g
  dsimp only at hr hb0 ⊢
  subst hb0
  obtain ⟨iP, qP, qP0, qP1, qP2⟩ := info_parts Tryz.infoStR
  have HR0 := Lib.hid hr
  have HOK := Lib.hid hok
  have HLEN : Hid (ps.length = n) := hr.1
  have hn20 : n ≤ 20 := by have h1 : ps.length ≤ 20 := hok.len.2; have := hr.1; omega
  have hf0 : 0 ≤ Pl.from0 ps := hok.from0.1
  have hf1 : Pl.from0 ps ≤ 100000 := hok.from0.2
  have hml : (Pl.lRecs ps).length ≤ 60 := hok.sum
  have HML := Lib.hid hml
  obtain ⟨f0, hff⟩ : ∃ f, Pl.from0 ps = f := ⟨_, rfl⟩
  rw [hff] at hf0 hf1
  have HF0 := Lib.hid hff
  clear hr hg hok hml hff
  obtain ⟨ga, hga⟩ : ∃ g, w.heap.size = g := ⟨_, rfl⟩
  obtain ⟨W0, hW0⟩ : ∃ W, w.alloc (.cells #[.slice A n c, .int .i64 0] 80) = W := ⟨_, rfl⟩
  have KS0 := Lib.hid (((Mm.SepF.start w).alloc' hga 80 [.slice A n c, .int .i64 0]).atW hW0)
  have d0 := KS0.out.cell (k := 0) 0 rfl rfl
  have HBW := Lib.hid hB
  go_enter Tryz.func125, Tryz.ntmps125
  go_upto_region 3 with fail
  clear d0 hW0 hga hB
  go_loopg [3, 11] n (fun gg o_ i_ wr => ∃ (k m : Nat) (A' : Option Addr) (c' : Nat) (fq : List Nat), n - k ≤ gg ∧ k ≤ n ∧ i_ = .int .i64 (k : Nat) ∧ o_ = .slice A' m c' ∧ Hid (m = (Pl.lRecs (ps.take k)).length) ∧ Hid (Mm.SepF [] w wr [Mm.tsl Mm.str 9 (Pl.lRecs (ps.take k)) (.slice A' m c') fq, Mm.tblk ga 80 [.slice A n c, .int .i64 0]]))
  case atStart => exact ⟨0, 0, none, 0, [], by omega, by omega, rfl, rfl, rfl, KS0.out.add (Below.refl _ _) Mm.SlOwn.nil List.nodup_nil (fun b hb => by cases hb)⟩
  case round =>
    clear KS0
    obtain ⟨k, m, A', c', fq, hgk, hk, rfl, rfl, HM, HS⟩ := hrel
    obtain ⟨W, rfl⟩ : ∃ W : World, W = wr := ⟨_, rfl⟩
    by_cases hlt : k < n
    · have fc : (k : Int) < (n : Nat) := by omega
      have hwk := HR0.out.keep (w' := W) fun b hb => HS.out.bel0.block b (by have := HBW.out; omega)
      obtain ⟨x, bb, off, cs, hx, hA, hb2, hat, hcell⟩ := hwk.get hlt
      subst hA
      obtain ⟨AI, nI, cI, rfl, g0, g1, g2⟩ := rPiece_at hat
      have c0 := hcell 0 _ rfl
      have c1 := hcell 1 _ rfl
      have c2 := hcell 2 _ rfl
      rw [show off + k * rPiece.size + 0 = off + k * 3 from rfl] at c0
      rw [show off + k * rPiece.size + 1 = off + k * 3 + 1 from rfl] at c1
      rw [show off + k * rPiece.size + 2 = off + k * 3 + 2 from rfl] at c2
      have HX := Lib.hid hx
      have hpc := HOK.out.pc k x hx
      have hxs := Pl.pieceOk_size hpc.1
      have hfr : x.From = f0 + ((m : Nat) : Int) := by rw [hpc.2.1, show (⟨ps, 0⟩ : Log).Pieces = ps from rfl, HF0.out, HM.out]
      have hnx := Pl.lRecs_next hx
      have hm60 : m ≤ 60 := by
        rw [HM.out]
        have h5 : (Pl.lRecs (ps.take k)).length ≤ (Pl.lRecs ps).length := by
          conv => rhs; rw [← List.take_append_drop k ps, Pl.lRecs_append]
          rw [List.length_append]; omega
        have := HML.out; omega
      have hrl : (Pl.records x.Bytes).length ≤ 60 := by have := Pl.records_len x.Bytes; omega
      have CR := l6Records_c x AI nI cI
      rw [hfr] at c0 CR
      have HNX := Lib.hid hnx
      obtain ⟨RL, hRL⟩ : ∃ l, Pl.records x.Bytes = l := ⟨_, rfl⟩
      rw [hRL] at CR HNX hrl
      obtain ⟨gp, hgp⟩ : ∃ g, W.heap.size = g := ⟨_, rfl⟩
      obtain ⟨W2, hW2⟩ : ∃ V, W.alloc (.cells #[.int .i64 (f0 + ((m : Nat) : Int)), .string x.Bytes, .slice AI nI cI] 164) = V := ⟨_, rfl⟩
      have KS2 := Lib.hid ((HS.out.alloc' hgp 164 [.int .i64 (f0 + ((m : Nat) : Int)), .string x.Bytes, .slice AI nI cI]).atW hW2)
      have CRW := CR W2 (by omega)
      clear hat hcell g0 g1 g2 hwk hx hnx hRL hpc hfr CR
      go_upto_region 5 with fail
      clear hW2 hgp c0 c1 c2 HS
      have q0 := KS2.out.cell (k := 0) 0 rfl rfl
      have q1 := KS2.out.cell (k := 1) 0 rfl rfl
      have q2 := KS2.out.cell (k := 2) 0 rfl rfl
      go_wp2_with fail
      refine CRW.mono ?_
      rintro e w3 ⟨A5, m5, c5, f5, rfl, hm5, hs5⟩
      obtain ⟨W3, rfl⟩ : ∃ W : World, W = w3 := ⟨_, rfl⟩
      have KS3 := Lib.hid ((KS2.out.join hs5).sel [2, 0, 1, 3] (by decide) rfl)
      have HM5 : Hid (m5 = RL.length) := hm5
      have hm5b : m5 ≤ 60 := by omega
      clear hs5 CRW q0 q1 q2 hm5 hrl KS2
      go_upto_region 6 with fail
      obtain ⟨gw, rfl⟩ : ∃ g : Nat, g = gk := ⟨_, rfl⟩
      go_loopg [3, 18] m5 (fun gg o_ i_ wr => ∃ (j : Nat) (A' : Option Addr) (c' : Nat) (fq : List Nat), m5 - j ≤ gg ∧ j ≤ m5 ∧ i_ = .int .i64 (j : Nat) ∧ o_ = .slice A' (m + j) c' ∧ Hid (Mm.SepF [] w wr [Mm.tsl Mm.str 9 (Pl.lRecs (ps.take k) ++ RL.take j) (.slice A' (m + j) c') fq, Mm.tsl Mm.str 9 RL (.slice A5 m5 c5) f5, Mm.tblk gp 164 [.int .i64 (f0 + ((m : Nat) : Int)), .string x.Bytes, .slice AI nI cI], Mm.tblk ga 80 [.slice (some ⟨bb, off, none⟩) n c, .int .i64 0]]))
      case atStart => exact ⟨0, A', c', fq, by omega, by omega, rfl, rfl, by rw [List.take_zero, List.append_nil, Nat.add_zero]; exact KS3.out⟩
      case round =>
        clear KS3
        obtain ⟨j, A6, c6, fq6, hgj, hj, rfl, rfl, HSJ⟩ := hrel
        obtain ⟨V, rfl⟩ : ∃ W : World, W = wr := ⟨_, rfl⟩
        by_cases hjt : j < m5
        · have fj : (j : Int) < (m5 : Nat) := by omega
          obtain ⟨tx, b7, off7, cs0, hs, hA, -, hat, hc⟩ := (HSJ.out.rdSl 1 rfl).get hjt
          subst hA
          obtain ⟨rfl, htl⟩ := hat
          have e0 := hc 0 _ rfl
          rw [show off7 + j * Mm.str.size + 0 = off7 + j from by show off7 + j * 1 + 0 = _; omega] at e0
          have HTX := Lib.hid hs
          have q0 := HSJ.out.cell (k := 0) 2 rfl rfl
          have d1 := HSJ.out.cell (k := 1) 3 rfl rfl
          have fge : (0 : Int) ≤ f0 + ((m : Nat) : Int) + (j : Int) := by omega
          have hll : (Pl.lRecs (ps.take k) ++ RL.take j).length = m + j := by rw [List.length_append, List.length_take, ← HM.out]; have := HM5.out; omega
          clear hc hs
          go_upto_region 9 with fail
          clear e0 q0 d1 fge
          go_wp2_with (at_builtin; refine Mm.app_list (x := tx) HSJ.out 0 rfl rfl (.tmp 30) (.tmp 32) 142 rfl iP _ 16 Tryz.underlying142 qP qP0 qP1 qP2 rfl (by decide) rfl rfl (fun W => ⟨rfl, htl, rfl⟩) hll (by unfold maxLen; omega) (by omega) ?_; intro g cap w' fp' hs4; (have HS4 := Lib.hid hs4); clear hs4)
          go_roundg (m5 - (j + 1))
          case measure => omega
          case rel => exact ⟨j + 1, _, cap, fp', Nat.le_refl _, by omega, by go_num, by rw [show m + (j + 1) = m + j + 1 by omega], by rw [List.take_add_one, HTX.out, show m + (j + 1) = m + j + 1 by omega, ← List.append_assoc]; exact HS4.out.sel [0, 1, 2, 3] (by decide) rfl⟩
        · obtain rfl : j = m5 := by omega
          have fj : ¬ ((j : Nat) : Int) < (j : Nat) := by omega
          have HE : Hid (Pl.lRecs (ps.take k) ++ RL.take j = Pl.lRecs (ps.take (k + 1))) := by show _ = _; rw [HNX.out, show RL.take j = RL from List.take_of_length_le (by have := HM5.out; omega)]
          have HMN : Hid (m + j = (Pl.lRecs (ps.take (k + 1))).length) := by show _ = _; rw [HNX.out, List.length_append, ← HM.out, ← HM5.out]
          rw [HE.out] at HSJ
          go_wp2
          go_roundg (n - (k + 1))
          case measure => omega
          case rel => exact ⟨k + 1, m + j, A6, c6, fq6, Nat.le_refl _, by omega, by go_num, rfl, HMN.out, HSJ.out.sel [0, 3] (by decide) rfl⟩
    · obtain rfl : k = n := by omega
      have fc : ¬ ((k : Nat) : Int) < (k : Nat) := by omega
      have HE : Hid (ps.take k = ps) := List.take_of_length_le (by have := HLEN.out; omega)
      rw [HE.out] at HS HM
      go_wp2
      go_ret
      exact ⟨A', m, c', fq, rfl, HM.out, HS.out.sel [0] (by decide) rfl⟩
end Go.Proofs.YtbhmdnjammnlnaaGreatDoor

/-
  Plain: heads that measurements make are good; what a good store is. No program in sight. No conditions.
-/
namespace Go.Proofs.YtbhmdnjammnlnaaGreatDoor
open Go.RowKit
namespace Pl
theorem sampleAt_app1 {l t : List Sample} {i : Nat} (h : i < l.length) : sampleAt (l ++ t) i = sampleAt l i := by
  unfold sampleAt
  rw [List.getD_eq_getElem?_getD, List.getD_eq_getElem?_getD, List.getElem?_append_left h]
theorem sampleAt_end (l : List Sample) (x : Sample) : sampleAt (l ++ [x]) l.length = x := by
  unfold sampleAt
  rw [List.getD_eq_getElem?_getD, List.getElem?_append_right (Nat.le_refl _), Nat.sub_self]; rfl
theorem samplesOk_snoc {l : List Sample} {x : Sample} (h : samplesOk l = true) (hx : sampleOk x = true) (hl : l ≠ [] → (sampleAt l (l.length - 1)).At < x.At) (h40 : l.length ≠ 40) : samplesOk (l ++ [x]) = true := by
  have hlen := samplesOk_len h
  unfold samplesOk at h ⊢
  rw [Bool.and_eq_true] at h ⊢
  refine ⟨allB_yes fun i hi => ?_, decide_eq_true (by rw [List.length_append]; show ((l.length + 1 : Nat) : Int) ≤ 40; omega)⟩
  rw [List.length_append] at hi
  have hi' : i < l.length + 1 := hi
  have hg := allB_iff.1 h.1
  by_cases he : i < l.length
  · have h1 := hg i he
    unfold sampleGood at h1 ⊢
    rw [sampleAt_app1 he]
    by_cases h0 : i = 0
    · subst h0; simpa using h1
    · rw [sampleAt_app1 (by omega)]; exact h1
  · obtain rfl : i = l.length := by omega
    unfold sampleGood
    rw [sampleAt_end, hx]
    by_cases h0 : l.length = 0
    · rw [h0]; simp
    · rw [sampleAt_app1 (by omega), decide_eq_true (hl (fun e => h0 (by rw [e]; rfl)))]
      simp
theorem samplesOk_one {x : Sample} (hx : sampleOk x = true) : samplesOk [x] = true :=
  samplesOk_snoc (l := []) rfl hx (fun h => absurd rfl h) (by decide)
theorem sayOk_sample {x : Say} (h : sayOk x = true) : sampleOk ⟨x.At, x.Value⟩ = true := by
  unfold sayOk at h
  rw [Bool.and_eq_true] at h
  exact h.2
theorem HeadOk.take {h : Head} (k : HeadOk h) {x : Say} (hx : sayOk x = true) (ho : h.Offset < 1000) : HeadOk (takeS h x).1 := by
  have hoff : 0 ≤ (takeS h x).1.Offset ∧ (takeS h x).1.Offset ≤ 1000 := by rw [takeS_off]; have := k.off; omega
  have hw := k.hw.take x
  refine ⟨hw.srt, fun r hr => ?_, hw.len, hoff⟩
  by_cases hh : ∃ r0, h.Rows[rpos x.Name h.Rows]? = some r0 ∧ r0.Name = x.Name
  · obtain ⟨r0, hr0, he⟩ := hh
    rw [takeS_hit hr0 he] at hr
    unfold hitS at hr
    split at hr
    · exact k.row r hr
    · split at hr
      · exact k.row r hr
      · split at hr
        · exact k.row r hr
        · rename_i h1 h2 h3
          rcases List.mem_or_eq_of_mem_set hr with h4 | rfl
          · exact k.row r h4
          · have h5 := k.row r0 (List.mem_of_getElem? hr0)
            refine ⟨h5.1, by simp, samplesOk_snoc h5.2.2 (sayOk_sample hx) (fun _ => ?_) h3⟩
            unfold lastAt at h1 h2
            show (sampleAt r0.Samples (r0.Samples.length - 1)).At < x.At
            omega
  · have hm : ∀ o, h.Rows[rpos x.Name h.Rows]? = some o → rnm o ≠ x.Name := fun o ho he => hh ⟨o, ho, he⟩
    rw [takeS_miss hm] at hr
    unfold missS at hr
    split at hr
    · exact k.row r hr
    · rcases List.mem_cons.1 ((Mm.insertAt_perm _ _ _).mem_iff.1 hr) with rfl | h1
      · exact ⟨sayOk_word hx, by simp, samplesOk_one (sayOk_sample hx)⟩
      · exact k.row r h1
theorem HeadOk.fold {l : List Say} : ∀ {h : Head}, HeadOk h → (∀ x, x ∈ l → sayOk x = true) → h.Offset + l.length ≤ 1000 → HeadOk (foldS h l) := by
  induction l with
  | nil => intro h k _ _; exact k
  | cons x l ih =>
    intro h k hx ho
    rw [List.length_cons] at ho
    have h1 := k.take (hx x (List.mem_cons_self ..)) (by omega)
    exact ih h1 (fun y hy => hx y (List.mem_cons_of_mem _ hy)) (by rw [takeS_off]; push_cast at ho; omega)
/-- the head that the first of some measurements make -/
def FoldOf (h : Head) (l : List Say) : Prop := ∃ m, m ≤ l.length ∧ h = foldS ⟨[], 0⟩ (l.take m)
theorem fold_off0 (l : List Say) (m : Nat) (hm : m ≤ l.length) : (foldS ⟨[], 0⟩ (l.take m)).Offset = (m : Int) := by
  rw [foldS_off, List.length_take]
  show (0 : Int) + _ = _
  omega
theorem fold_ok {l : List Say} (h : ∀ x, x ∈ l → sayOk x = true) (hl : l.length ≤ 1000) (m : Nat) : HeadOk (foldS ⟨[], 0⟩ (l.take m)) :=
  HeadOk.fold HeadOk.zero (fun x hx => h x (List.mem_of_mem_take hx)) (by show (0 : Int) + _ ≤ _; rw [List.length_take]; omega)
theorem FoldOf.ok {h : Head} {l : List Say} (k : FoldOf h l) (hs : ∀ x, x ∈ l → sayOk x = true) (hl : l.length ≤ 1000) : HeadOk h ∧ h.Offset ≤ l.length ∧ foldS ⟨[], 0⟩ (l.take h.Offset.toNat) = h := by
  obtain ⟨m, hm, rfl⟩ := k
  have h1 := fold_off0 l m hm
  refine ⟨fold_ok hs hl m, by rw [h1]; omega, ?_⟩
  rw [h1]; rfl
theorem FoldOf.of {h : Head} {l : List Say} (h1 : HeadOk h) (h2 : h.Offset ≤ l.length) (h3 : foldS ⟨[], 0⟩ (l.take h.Offset.toNat) = h) : FoldOf h l :=
  ⟨h.Offset.toNat, by have := h1.off; omega, h3.symm⟩
/-- part k of a store of n parts -/
structure PartOk (n k : Nat) (g : Log) (hd kp : Head) (l : List Say) : Prop where
  log : LogOk g
  fr : from0 g.Pieces = 0
  bg : g.Begin = 0
  txt : saysOf (n : Int) (k : Int) (lRecs g.Pieces) = some l
  hdf : FoldOf hd l
  kpf : FoldOf kp l
  le : kp.Offset ≤ hd.Offset
theorem PartOk.says {n k : Nat} {g : Log} {hd kp : Head} {l : List Say} (h : PartOk n k g hd kp l) : lRecs g.Pieces = l.map sayTxt ∧ InPart n k l := saysOf_iff.1 h.txt
theorem PartOk.sayOk {n k : Nat} {g : Log} {hd kp : Head} {l : List Say} (h : PartOk n k g hd kp l) : ∀ x, x ∈ l → sayOk x = true := fun x hx => (h.says.2 x hx).1
theorem PartOk.len {n k : Nat} {g : Log} {hd kp : Head} {l : List Say} (h : PartOk n k g hd kp l) : l.length ≤ 60 := by
  have h1 := h.log.sum
  rw [h.says.1, List.length_map] at h1
  exact h1
/-- a good store -/
structure HouseOk (h : House) : Prop where
  n1 : 1 ≤ h.Logs.length
  n3 : h.Logs.length ≤ 3
  hdn : h.Heads.length = h.Logs.length
  kpn : h.Kept.length = h.Logs.length
  part : ∀ k g a b, h.Logs[k]? = some g → h.Heads[k]? = some a → h.Kept[k]? = some b → ∃ l, PartOk h.Logs.length k g a b l
end Pl
end Go.Proofs.YtbhmdnjammnlnaaGreatDoor

/-
  Contracts: whether a head is that of the first measurements of a log, the program's. Conditions: those named (Tab).
-/
namespace Go.Proofs.YtbhmdnjammnlnaaGreatDoor
open Go.RowKit
attribute [local go_sem] und_cell cha_cell World.cell?_alloc_some
end Go.Proofs.YtbhmdnjammnlnaaGreatDoor

/-
  Contracts: whether a store is good, the program's. Conditions: those named (Tab).
-/
namespace Go.Proofs.YtbhmdnjammnlnaaGreatDoor
open Go.RowKit
attribute [local go_sem] und_cell cha_cell World.cell?_alloc_some
end Go.Proofs.YtbhmdnjammnlnaaGreatDoor

/-
  Rows of elements that lead on: what a slice that is read has in its cells; a row made of such cells reads as the same elements; append of such a row. No program in sight. No conditions.
-/
namespace Go.Proofs.YtbhmdnjammnlnaaGreatDoor
open Go.RowKit
namespace Mm
/-- the cells of elements that are read -/
structure Css {α : Type} (E : Rep α) (w : World) (B : Nat) (xs : List α) (css : List (List Value)) : Prop where
  len : css.length = xs.length
  at_ : ∀ (i : Nat) (x : α) (y : List Value), xs[i]? = some x → css[i]? = some y → E.at_ w B x y
section
variable {α : Type} {E : Rep α} {e : TypeId} {w w' : World} {B B' : Nat} {xs ys : List α} {A : Option Addr} {n c : Nat} {css dss : List (List Value)}
theorem Css.size (h : Css E w B xs css) : ∀ y ∈ css, y.length = E.size := fun y hy => by
  obtain ⟨i, hi, rfl⟩ := List.mem_iff_getElem.1 hy
  have hx := List.getElem?_eq_getElem (show i < xs.length by rw [← h.len]; exact hi)
  exact E.len (h.at_ i _ _ hx (List.getElem?_eq_getElem hi))
theorem Css.keep (h : Css E w B xs css) (k : ∀ b, b < B → w'.heap[b]? = w.heap[b]?) : Css E w' B xs css := ⟨h.len, fun i x y hx hy => E.keep (h.at_ i x y hx hy) k⟩
theorem Css.more (h : Css E w B xs css) (k : B ≤ B') : Css E w B' xs css := ⟨h.len, fun i x y hx hy => E.more (h.at_ i x y hx hy) k⟩
theorem Css.flat_len (h : Css E w B xs css) : (css.flatMap id).length = xs.length * E.size := by
  have hs := h.size
  rw [← h.len]
  clear h
  induction css with
  | nil => simp
  | cons z t ih => rw [List.flatMap_cons, List.length_append, ih (fun y hy => hs y (by simp [hy])), id, hs z (by simp), List.length_cons, Nat.add_mul]; omega
theorem SlAt.cellsOf (h : SlAt E w B xs A n c) : ∃ css, Css E w B xs css ∧ ∀ a, A = some a → ∀ j u, (css.flatMap id)[j]? = some u → w.cell? (a.add j) = some u := by
  have step : ∀ k, k ≤ n → ∃ css : List (List Value), css.length = k ∧ ∀ i x y, xs[i]? = some x → css[i]? = some y → E.at_ w B x y ∧ ∃ b off, A = some ⟨b, off, none⟩ ∧ ∀ j u, y[j]? = some u → w.cell? ⟨b, off + i * E.size + j, none⟩ = some u := by
    intro k
    induction k with
    | zero => intro _; exact ⟨[], rfl, fun i x y _ hy => by simp at hy⟩
    | succ k ih =>
      intro hk
      obtain ⟨css, h1, h2⟩ := ih (by omega)
      obtain ⟨x0, b, off, cs, hx0, hA, hb, ha, hc⟩ := h.get (k := k) (by omega)
      refine ⟨css ++ [cs], by rw [List.length_append, h1]; rfl, fun i x y hx hy => ?_⟩
      by_cases hi : i < k
      · rw [List.getElem?_append_left (by omega)] at hy
        exact h2 i x y hx hy
      · rw [List.getElem?_append_right (by omega), h1] at hy
        obtain rfl : i = k := by
          have := (List.getElem?_eq_some_iff.1 hy).1
          simp at this; omega
        simp at hy
        subst hy
        rw [hx0] at hx
        injection hx with hx
        subst hx
        exact ⟨ha, b, off, hA, hc⟩
  obtain ⟨css, h1, h2⟩ := step n (Nat.le_refl _)
  have hC : Css E w B xs css := ⟨by rw [h1, h.1], fun i x y hx hy => (h2 i x y hx hy).1⟩
  refine ⟨css, hC, fun a hA j u hu => ?_⟩
  obtain ⟨i, r, y, rfl, h3, h4⟩ := flatMap_inv id E.size css hC.size j u hu
  have hx := List.getElem?_eq_getElem (show i < xs.length by rw [← hC.len]; exact (List.getElem?_eq_some_iff.1 h3).1)
  obtain ⟨_, b, off, hA', hc⟩ := h2 i _ y hx h3
  rw [hA] at hA'
  injection hA' with hA'
  subst hA'
  rw [Addr.add_lit, ← Nat.add_assoc]
  exact hc r u h4
end
section
variable {P : Program} {w : World} {e : TypeId} {v : Value} {xs news : List Value} {n m c : Nat} {A : Option Addr}
/-- append of a whole row, the empty one too -/
theorem run_append_row (t ty : TypeId) (i : TypeInfo) (z : Value) (size bytes : Nat) (ht : P.underlying t = some (.slice e)) (hi : P.info? e = some i) (hz : i.zero = some z) (hsize : i.size = size) (hby : i.bytes = bytes) (hzs : z.cells.size = size) (hsz : 0 < size)
    (hown : w.ownsRow 0 e size v n xs) (hA : A = none → m = 0 ∧ c = 0) (hl : news.length = m * size) (hnews : ∀ a, A = some a → ∀ j u, news[j]? = some u → w.cell? (a.add j) = some u) (h1 : ∀ u ∈ news, u.oneCell' = true) (h63 : n + m ≤ maxLen) (hbytes : (n + m) * bytes ≤ 140737488355328) :
    ∃ v' w', (Builtin.append_ #[t, t] ty #[v, .slice A m c]).run P w = .ok v' w' ∧ w'.ownsRow 0 e size v' (n + m) (xs ++ news) ∧ w.grownBy w' v.ownBlock ∧ (v'.ownBlock = v.ownBlock ∨ v'.ownBlock = some w.heap.size) := by
  cases A with
  | none =>
    obtain ⟨rfl, rfl⟩ := hA rfl
    have hn0 : news = [] := List.length_eq_zero_iff.1 (by omega)
    subst hn0
    refine ⟨v, w, run_append_owned_none (P := P) w 0 t ty e i size ht hi v n xs hown, ?_, ⟨rfl, rfl, rfl, Nat.le_refl _, fun _ _ _ => rfl⟩, .inl rfl⟩
    rw [List.append_nil]
    exact hown
  | some a =>
    obtain ⟨v', w', hr, h2, h3, _, h5⟩ := run_append_own_at (P := P) w 0 t ty e i z size bytes ht hi hz hsize hby hzs hsz v n xs hown a m c news hl (hnews a rfl) h1 h63 hbytes (Nat.zero_le _)
    exact ⟨v', w', hr, h2, h3, h5⟩
end
end Mm
end Go.Proofs.YtbhmdnjammnlnaaGreatDoor

/-
  Memory: an element put among others by three appends, the element laid between them. No conditions beyond those named.
-/
namespace Go.Proofs.YtbhmdnjammnlnaaGreatDoor
open Go.RowKit
namespace Mm
section
variable {α : Type} {E : Rep α} {e : TypeId} {w : World} {xs : List α} {v : Value} {fp : List Nat}
/-- the element laid later than the slice, the new slice later than both or between them -/
theorem SlOwn.insLate (h : SlOwn E e w xs v fp) {k : Nat} (hk : k ≤ xs.length) (hnd : fp.Nodup) :
    ∃ l, w.ownsRow 0 e E.size v xs.length l ∧ (∀ u ∈ l, u.oneCell' = true) ∧ ∀ w' v' x cx fx, Below w.heap.size w w' → E.own w' x cx fx → fx.Nodup → (∀ b, b ∈ fx → w.heap.size ≤ b) → w'.ownsRow 0 e E.size v' (xs.length + 1) (l.take (k * E.size) ++ cx ++ l.drop (k * E.size)) → (∀ g, v'.ownBlock = some g → w.heap.size ≤ g ∧ g ∉ fx) →
      ∃ fp', SlOwn E e w' (insertAt xs k x) v' fp' ∧ fp'.Nodup ∧ ∀ b, b ∈ fp' → b ∈ fp ∨ w.heap.size ≤ b := by
  have hlt := h.olt
  obtain ⟨es, he, ho, rfl⟩ := h
  refine ⟨_, ho, fun u hu => ?_, fun w' v' x cx fx hb hx hxd hxf ho' hat => ?_⟩
  · obtain ⟨y, hy, hu⟩ := List.mem_flatMap.1 hu
    obtain ⟨z, _, hz⟩ := he.mem hy
    exact E.one hz u hu
  have hkeep : ∀ b, b ∈ es.flatMap (·.2) → w'.heap[b]? = w.heap[b]? := fun b hb' => hb.block b (hlt b (List.mem_append_right _ hb'))
  have hke : k ≤ es.length := by rw [he.1]; exact hk
  have hp : ((insertAt es k (cx, fx)).flatMap (·.2)).Perm (fx ++ es.flatMap (·.2)) := by
    have := (insertAt_perm es k (cx, fx)).flatMap_right (fun y => y.2)
    rwa [List.flatMap_cons] at this
  refine ⟨_, ⟨insertAt es k (cx, fx), ⟨by rw [insertAt_len, insertAt_len, he.1], fun i y z hy hz => ?_⟩, ?_, rfl⟩, ?_, ?_⟩
  · rcases insertAt_get hk hy with ⟨h1, h2⟩ | ⟨h1, h2⟩ | ⟨h1, h2⟩
    · rcases insertAt_get hke hz with ⟨g1, g2⟩ | ⟨g1, g2⟩ | ⟨g1, g2⟩
      · exact E.okeep (he.2 i y z h2 g2) fun b hb => hkeep b (List.mem_flatMap.2 ⟨z, List.mem_of_getElem? g2, hb⟩)
      · omega
      · omega
    · rcases insertAt_get hke hz with ⟨g1, g2⟩ | ⟨g1, g2⟩ | ⟨g1, g2⟩
      · omega
      · subst h2; subst g2
        exact hx
      · omega
    · rcases insertAt_get hke hz with ⟨g1, g2⟩ | ⟨g1, g2⟩ | ⟨g1, g2⟩
      · omega
      · omega
      · exact E.okeep (he.2 _ y z h2 g2) fun b hb => hkeep b (List.mem_flatMap.2 ⟨z, List.mem_of_getElem? g2, hb⟩)
  · rw [insertAt_len, insertAt_flat (·.1) E.size es k (cx, fx) he.len]
    exact ho'
  · have h1 : v'.ownBlock.toList.Nodup := by cases v'.ownBlock <;> simp
    rw [List.nodup_append] at hnd ⊢
    refine ⟨h1, ?_, fun a ha b hb hab => ?_⟩
    · rw [hp.nodup_iff, List.nodup_append]
      exact ⟨hxd, hnd.2.1, fun a ha b hb hab => by
        subst hab
        have := hxf a ha
        have := hlt a (List.mem_append_right _ hb)
        omega⟩
    · subst hab
      have h2 := hat a (by simpa using ha)
      rcases List.mem_append.1 (hp.mem_iff.1 hb) with hb | hb
      · exact h2.2 hb
      · have := hlt a (List.mem_append_right _ hb); omega
  · intro b hb
    rcases List.mem_append.1 hb with hb | hb
    · exact .inr (hat b (by simpa using hb)).1
    · rcases List.mem_append.1 (hp.mem_iff.1 hb) with hb | hb
      · exact .inr (hxf b hb)
      · exact .inl (List.mem_append_right _ hb)
theorem SepF.insLate {F : List Nat} {w0 wr : World} {ts : List Thing} (h : SepF F w0 wr ts) (i : Nat) {k : Nat} (hi : ts[i]? = some (tsl E e xs v fp)) (hk : k ≤ xs.length) :
    ∃ l, wr.ownsRow 0 e E.size v xs.length l ∧ (∀ u ∈ l, u.oneCell' = true) ∧ ∀ w' v' x cx fx, Below wr.heap.size wr w' → E.own w' x cx fx → fx.Nodup → (∀ b, b ∈ fx → wr.heap.size ≤ b) → w'.ownsRow 0 e E.size v' (xs.length + 1) (l.take (k * E.size) ++ cx ++ l.drop (k * E.size)) → (∀ g, v'.ownBlock = some g → wr.heap.size ≤ g ∧ g ∉ fx) →
      ∃ fp', SepF F w0 w' (ts.set i (tsl E e (insertAt xs k x) v' fp')) := by
  obtain ⟨l, k1, k2, k3⟩ := (h.sl i hi).insLate hk (h.ndat hi)
  refine ⟨l, k1, k2, fun w' v' x cx fx hb hx hxd hxf ho' hat => ?_⟩
  obtain ⟨fp', m1, m2, m3⟩ := k3 w' v' x cx fx hb hx hxd hxf ho' hat
  exact ⟨fp', h.upd hi (Chg.of_below hb) m1 m2 m3⟩
end
theorem rowKeepK {w w' : World} {base S : Nat} {e : TypeId} {v : Value} {n : Nat} {xs : List Value} (h : w.ownsRow base e S v n xs) (hk : ∀ g, v.ownBlock = some g → w'.heap[g]? = w.heap[g]?) : w'.ownsRow base e S v n xs := by
  refine ⟨h.1, h.2.imp id ?_⟩
  rintro ⟨g, cap, cur, rfl, h1, h2, h3⟩
  exact ⟨g, cap, cur, rfl, h1, (hk g rfl).trans h2, h3⟩
theorem rowFormK {w : World} {S : Nat} {e : TypeId} {v : Value} {n : Nat} {xs : List Value} (h : w.ownsRow 0 e S v n xs) : ∃ A c, v = .slice A n c := by
  rcases h.2 with ⟨h1, h2⟩ | ⟨g', cap, cur, h1, _⟩
  · exact ⟨none, 0, by rw [h1, h2]⟩
  · exact ⟨_, cap, h1⟩
end Mm
set_option maxRecDepth 100000 in
theorem put3R (W : World) (A1 A3 : Option Addr) (n p m3 c1 c3 : Nat) (lc : List Value) (ho : W.ownsRow 0 139 2 (.slice A1 n c1) n lc) (h1c : ∀ u ∈ lc, u.oneCell' = true) (hp : p ≤ n) (hn : n ≤ 100) (hA1 : A1 = none → p = 0 ∧ c1 = 0) (hm : m3 = n - p) (hA3 : A3 = none → m3 = 0 ∧ c3 = 0) (hs1 : ∀ a, A1 = some a → ∀ j u, (lc.take (p * 2))[j]? = some u → W.cell? (a.add j) = some u) (hs3 : ∀ a, A3 = some a → ∀ j u, (lc.drop (p * 2))[j]? = some u → W.cell? (a.add j) = some u) :
    ∃ A8 c8 w8, (∀ ty, (Builtin.append_ #[71, 71] ty #[.slice (some ⟨W.heap.size, 0, none⟩) 0 0, .slice A1 p c1]).run Tryz.prog (W.alloc (.cells #[] 139)) = .ok (.slice A8 p c8) w8) ∧ Below W.heap.size W w8 ∧ (∀ g, (Value.slice A8 p c8).ownBlock = some g → W.heap.size ≤ g ∧ g < w8.heap.size) ∧
    ∀ V (ct : List Value), Below w8.heap.size w8 V → ct.length = 2 → (∀ u ∈ ct, u.oneCell' = true) →
    ∃ A10 c10 w10, (∀ ty, (Builtin.append_ #[71, 71] ty #[.slice A8 p c8, .slice (some ⟨V.heap.size, 0, none⟩) 1 1]).run Tryz.prog (V.alloc (.cells ct.toArray 139)) = .ok (.slice A10 (p + 1) c10) w10) ∧
    (∀ k, k < V.heap.size → (Value.slice A8 p c8).ownBlock ≠ some k → w10.heap[k]? = V.heap[k]?) ∧
    ∃ A11 c11 w11, (∀ ty, (Builtin.append_ #[71, 71] ty #[.slice A10 (p + 1) c10, .slice A3 m3 c3]).run Tryz.prog w10 = .ok (.slice A11 (n + 1) c11) w11) ∧
      w11.ownsRow 0 139 2 (.slice A11 (n + 1) c11) (n + 1) (lc.take (p * 2) ++ ct ++ lc.drop (p * 2)) ∧ Below W.heap.size W w11 ∧ (∀ k, k < V.heap.size → (Value.slice A8 p c8).ownBlock ≠ some k → w11.heap[k]? = V.heap[k]?) ∧ (∀ g, (Value.slice A11 (n + 1) c11).ownBlock = some g → (Value.slice A8 p c8).ownBlock = some g ∨ V.heap.size ≤ g) := by
  obtain ⟨i0, hi, hz0, hzs, hzb⟩ := info_parts Tryz.infoRowI
  have hcl := ho.1
  have hU := Tryz.underlying71
  have k0 : Below W.heap.size W (W.alloc (.cells #[] 139)) := below_new (Below.refl _ _) _
  have hblk : ∀ {V : World}, Below W.heap.size W V → ∀ (a : Addr) j u, W.cell? (a.add j) = some u → V.cell? (a.add j) = some u := fun hb a j u h => below_some hb h
  have r0 : (W.alloc (.cells #[] 139)).ownsRow 0 139 2 (.slice (some ⟨W.heap.size, 0, none⟩) 0 0) 0 [] := ⟨rfl, .inr ⟨W.heap.size, 0, #[], rfl, Nat.zero_le _, heap_alloc_new W _, Nat.le_refl _, Nat.zero_le _, rfl, rfl⟩⟩
  have ap : ∀ {V : World} {v : Value} {nn : Nat} {xs news : List Value} {A : Option Addr} {mm cc : Nat}, V.ownsRow 0 139 2 v nn xs → (A = none → mm = 0 ∧ cc = 0) → news.length = mm * 2 → (∀ a, A = some a → ∀ j u, news[j]? = some u → V.cell? (a.add j) = some u) → (∀ u ∈ news, u.oneCell' = true) → nn + mm ≤ 1000 →
      ∃ v' w', (∀ ty, (Builtin.append_ #[71, 71] ty #[v, .slice A mm cc]).run Tryz.prog V = .ok v' w') ∧ w'.ownsRow 0 139 2 v' (nn + mm) (xs ++ news) ∧ V.grownBy w' v.ownBlock ∧ (v'.ownBlock = v.ownBlock ∨ v'.ownBlock = some V.heap.size) := by
    intro V v nn xs news A mm cc q1 q2 q3 q4 q5 q6
    obtain ⟨v', w', hr, h2, h3, h4⟩ := Mm.run_append_row (P := Tryz.prog) (w := V) 71 0 i0 _ 2 40 hU hi hz0 hzs hzb rfl (by omega) q1 q2 q3 q4 q5 (by unfold maxLen; omega) (by omega)
    exact ⟨v', w', fun ty => hr, h2, h3, h4⟩
  obtain ⟨v8, w8, e1, r1, g1, o1⟩ := ap r0 hA1 (by rw [List.length_take, hcl]; omega) (fun a ha j u hj => hblk k0 a j u (hs1 a ha j u hj)) (fun u hu => h1c u (List.mem_of_mem_take hu)) (by omega)
  rw [Nat.zero_add, List.nil_append] at r1
  obtain ⟨A8, c8, rfl⟩ := Mm.rowFormK r1
  have k1 : Below W.heap.size W w8 := k0.grown g1 k0.size (fun k hk => by simp [Value.ownBlock] at hk; omega)
  have n1 : ∀ g, (Value.slice A8 p c8).ownBlock = some g → W.heap.size ≤ g ∧ g < w8.heap.size := fun g hg => ⟨by
    rcases o1 with h | h
    · rw [hg] at h; simp [Value.ownBlock] at h; omega
    · rw [hg] at h; injection h with h; have := k0.size; omega, (r1.lt g hg).2⟩
  refine ⟨A8, c8, w8, e1, k1, n1, fun V ct hV hct h1 => ?_⟩
  have kV : Below W.heap.size W V := below_step k1 hV
  have k2 : Below W.heap.size W (V.alloc (.cells ct.toArray 139)) := below_new kV _
  have hsz : w8.heap.size ≤ V.heap.size := hV.size
  have r2 : (V.alloc (.cells ct.toArray 139)).ownsRow 0 139 2 (.slice A8 p c8) p (lc.take (p * 2)) := Mm.rowKeepK r1 (fun g hg => (heap_alloc_old V _ (Nat.lt_of_lt_of_le (n1 g hg).2 hsz)).trans (hV.block g (n1 g hg).2))
  have nb := Mm.Blk.new V 139 ct
  obtain ⟨v10, w10, e2, r3, g2, o2⟩ := ap (A := some ⟨V.heap.size, 0, none⟩) (mm := 1) (cc := 1) (news := ct) r2 (fun h => by cases h) (by omega) (fun a ha j u hj => by injection ha with ha; subst ha; rw [Mm.add0]; exact nb.cell hj) h1 (by omega)
  obtain ⟨A10, c10, rfl⟩ := Mm.rowFormK r3
  have k3 : Below W.heap.size W w10 := k2.grown g2 k2.size (fun k hk => (n1 k hk).1)
  have hs2 : (V.alloc (.cells ct.toArray 139)).heap.size = V.heap.size + 1 := Mm.sz1 _ _
  have hK1 : ∀ k, k < V.heap.size → (Value.slice A8 p c8).ownBlock ≠ some k → w10.heap[k]? = V.heap[k]? := fun k hk hn => (g2.block k (by omega) (fun hh => hn hh.symm)).trans (heap_alloc_old V _ hk)
  have n2 : ∀ g, (Value.slice A10 (p + 1) c10).ownBlock = some g → (Value.slice A8 p c8).ownBlock = some g ∨ V.heap.size ≤ g := fun g hg => by
    rcases o2 with h | h
    · rw [hg] at h; exact .inl h.symm
    · rw [hg] at h; injection h with h; exact .inr (by omega)
  have n2' : ∀ g, (Value.slice A10 (p + 1) c10).ownBlock = some g → W.heap.size ≤ g := fun g hg => by
    rcases n2 g hg with h | h
    · exact (n1 g h).1
    · have := kV.size; omega
  refine ⟨A10, c10, w10, e2, hK1, ?_⟩
  obtain ⟨v11, w11, e3, r4, g3, o3⟩ := ap r3 hA3 (by rw [List.length_drop, hcl, hm]; omega) (fun a ha j u hj => hblk k3 a j u (hs3 a ha j u hj)) (fun u hu => h1c u (List.mem_of_mem_drop hu)) (by omega)
  rw [show p + 1 + m3 = n + 1 by omega] at r4
  obtain ⟨A11, c11, rfl⟩ := Mm.rowFormK r4
  have hs10 : V.heap.size < w10.heap.size := by have := g2.size; omega
  refine ⟨A11, c11, w11, e3, r4, k3.grown g3 k3.size (fun k hk => n2' k hk), fun k hk hn => ?_, fun g hg => ?_⟩
  · refine (g3.block k (by omega) (fun hh => ?_)).trans (hK1 k hk hn)
    rcases n2 k hh.symm with h | h
    · exact hn h
    · omega
  · rcases o3 with h | h
    · rw [hg] at h; exact n2 g h.symm
    · rw [hg] at h; injection h with h; exact .inr (by omega)
end Go.Proofs.YtbhmdnjammnlnaaGreatDoor

/-
  Contract: a measurement put into a head, the reference's (l13Take). No conditions beyond those named.
-/
namespace Go.Proofs.YtbhmdnjammnlnaaGreatDoor
open Go.RowKit
attribute [local go_sem] und_cell cha_cell World.cell?_alloc_some
def TakeR (h : Head) (x : Say) (fp : List Nat) (w : World) (e : Ending) (w' : World) : Prop :=
  ∃ A' m' d' fp', e = .returned (.tuple #[.agg #[.slice A' m' d', .int .i64 (h.Offset + 1)], .int .i64 (Pl.takeS h x).2]) ∧ Mm.SepF fp w w' [Mm.tsl rRow 139 (Pl.takeS h x).1.Rows (.slice A' m' d') fp']
theorem Mm.oneSmp {w : World} {g : Nat} {x : Sample} (hb : Mm.Blk w g 124 [.int .i64 x.At, .int .i64 x.Value]) (hi : Mm.I64 x.At ∧ Mm.I64 x.Value) : Mm.SlOwn smp 124 w [x] (.slice (some ⟨g, 0, none⟩) 1 1) [g] := by
  refine ⟨[([.int .i64 x.At, .int .i64 x.Value], [])], ⟨rfl, fun i a b ha hb => ?_⟩, ?_, by simp [Value.ownBlock]⟩
  · cases i with
    | zero => simp at ha hb; subst ha; subst hb; exact smp_own_mk hi
    | succ i => simp at ha
  · exact ⟨rfl, .inr ⟨g, 1, _, rfl, Nat.zero_le _, hb, Nat.le_refl _, by unfold maxLen; omega, rfl, rfl⟩⟩
set_option maxRecDepth 100000 in
set_option maxHeartbeats 4000000 in
theorem l13Take_c (h : Head) (x : Say) (A : Option Addr) (m d : Nat) (fp : List Nat) (w : World) (hs : Mm.SlOwn rRow 139 w h.Rows (.slice A m d) fp) (hnd : fp.Nodup) (hw : Pl.HW h) (off : 0 ≤ h.Offset ∧ h.Offset ≤ 1000000) (nm : x.Name.size ≤ maxLen) (ia : Mm.I64 x.At) (iv : Mm.I64 x.Value) :
    Calls Tryz.prog 128 #[.agg #[.slice A m d, .int .i64 h.Offset], .agg #[.string x.Name, .int .i64 x.At, .int .i64 x.Value]] w (TakeR h x fp w) := by
  have HML : Hid (m = h.Rows.length) := by obtain ⟨_, _, _, hv, q1, _⟩ := hs.form; injection hv with _ q2 _; exact q2.trans q1
  have HW := Lib.hid hw
  have hm8 : m ≤ 8 := by rw [HML.out]; exact hw.len
  have hf0 := off.1
  have hf1 := off.2
  have HI := Lib.hid (show Mm.I64 x.At ∧ Mm.I64 x.Value from ⟨ia, iv⟩)
  have HNM := Lib.hid nm
  obtain ⟨o1, ho1⟩ : ∃ o1, h.Offset + 1 = o1 := ⟨_, rfl⟩
  have f1 : IntKind.i64.wrap (h.Offset + 1) = o1 := by rw [IntWalk.i64_in _ (by omega)]; exact ho1
  have HO1 := Lib.hid ho1
  obtain ⟨p, hp⟩ : ∃ p, Pl.rpos x.Name h.Rows = p := ⟨_, rfl⟩
  have HP := Lib.hid hp
  have hpm : p ≤ m := by rw [HML.out, ← hp]; exact Pl.rpos_le _ _
  have HS0 : Mm.SepF fp w w [Mm.tsl rRow 139 h.Rows (.slice A m d) fp] := Mm.SepF.one (Mm.tsl rRow 139 h.Rows (.slice A m d) fp) w hs hnd
  obtain ⟨gh, hgh⟩ : ∃ g, w.heap.size = g := ⟨_, rfl⟩
  obtain ⟨gx, hgx⟩ : ∃ g, gh + 1 = g := ⟨_, rfl⟩
  obtain ⟨gr, hgr⟩ : ∃ g, gx + 1 = g := ⟨_, rfl⟩
  obtain ⟨W0, hW0⟩ : ∃ W, ((w.alloc (.cells #[.slice A m d, .int .i64 h.Offset] 73)).alloc (.cells #[.string x.Name, .int .i64 x.At, .int .i64 x.Value] 55)).alloc (.cells #[.slice none 0 0, .int .i64 0] 73) = W := ⟨_, rfl⟩
  have HS := Lib.hid ((((HS0.alloc' hgh 73 [.slice A m d, .int .i64 h.Offset]).alloc' (g := gx) (by rw [Mm.sz1, hgh, hgx]) 55 [.string x.Name, .int .i64 x.At, .int .i64 x.Value]).alloc' (g := gr) (by rw [Mm.sz1, Mm.sz1, hgh, hgx, hgr]) 73 [.slice none 0 0, .int .i64 0]).atW hW0)
  clear HS0 hs hnd hw off nm ia iv ho1 hp
  go_enter Tryz.func128, Tryz.ntmps128
  go_upto_region 1 with fail
  clear hW0 hgh hgx hgr
  have b1 := HS.out.cell (k := 1) 2 rfl rfl
  have z1 := HS.out.frz (k := 1) 2 rfl
  go_upto_region 2 with fail
  obtain ⟨W2, hW2⟩ : ∃ W, W0.setCell ⟨gh, 1, none⟩ (.int .i64 o1) = W := ⟨_, rfl⟩
  have HS2 := Lib.hid ((HS.out.setBlk (k := 1) 2 rfl (.int .i64 o1)).atW hW2)
  rw [hW2]
  clear hW2 HS b1 z1 f1
  go_upto_block 0 with fail
  go_cut [6] (fun s6 wx => s6 = .int .i64 p ∧ Hid (Below W2.heap.size W2 wx))
  case first =>
    go_wp2_with fail
    go_loopg [6] m (fun g i wr => ∃ k : Nat, m - k ≤ g ∧ k ≤ p ∧ i = .int .i64 k ∧ Hid (Below W2.heap.size W2 wr))
    case atStart => exact ⟨0, Nat.le_refl _, Nat.zero_le _, rfl, Below.refl _ _⟩
    case round =>
      obtain ⟨k, hg, hk, rfl, HB⟩ := hrel
      obtain ⟨W, rfl⟩ : ∃ W : World, W = wr := ⟨_, rfl⟩
      have HSW := Lib.hid (HS2.out.step HB.out)
      have c0 := HSW.out.cell (k := 0) 2 rfl rfl
      by_cases hlt : k < m
      · obtain ⟨y, b, off, A4, n4, c4, hy, rfl, hb, hnm, hrd, e0, -⟩ := rRow_get ((HSW.out.sl 3 rfl).weak (HSW.out.sl 3 rfl).olt) hlt
        have s0 := HSW.out.cell (k := 0) 1 rfl rfl
        have HY := Lib.hid hy
        have f1 : (k : Int) < (m : Nat) := by omega
        have f2 : (0 : Int) ≤ (k : Nat) := by omega
        have f3 : ((k : Nat) : Int).toNat = k := by omega
        clear hy hb hnm hrd
        cases hls : Pl.lessB (Pl.rnm y) x.Name with
        | true =>
          have hkp : k < p := by
            apply Classical.byContradiction
            intro hh
            have := Pl.rpos_ge x.Name h.Rows HW.out.srt k y (by have := HP.out; omega) HY.out
            rw [hls] at this; cases this
          have hq : Op.bytesLess y.Name.toList x.Name.toList = true := hls
          clear hls
          go_wp2
          refine wp_region_und (by kernel_rfl) (by kernel_rfl) ?_
          repeat (go_big_quiet_step ((first | fail)))
          refine wpQuiet_nil ?_
          intro X hX
          go_wp2
          go_roundg (m - (k + 1))
          case measure => omega
          case rel => exact ⟨k + 1, Nat.le_refl _, by omega, by go_num, below_step HB.out hX⟩
        | false =>
          have HKP : Hid (k = p) := by
            show k = p
            apply Classical.byContradiction
            intro hh
            have := Pl.rpos_lt x.Name h.Rows k y (by have := HP.out; omega) HY.out
            rw [hls] at this; cases this
          have hq : Op.bytesLess y.Name.toList x.Name.toList = false := hls
          clear hls
          go_wp2
          refine wp_region_und (by kernel_rfl) (by kernel_rfl) ?_
          repeat (go_big_quiet_step ((first | fail)))
          refine wpQuiet_nil ?_
          intro X hX
          go_wp2
          go_meet
          exact ⟨by rw [HKP.out], below_step HB.out hX⟩
      · have f1 : ¬ (k : Int) < (m : Nat) := by omega
        have f4 : decide (k < m) = false := by simp; omega
        have HKP : Hid (k = p) := by show k = p; omega
        clear hlt
        go_wp2
        refine wp_region_und (by kernel_rfl) (by kernel_rfl) ?_
        repeat (go_big_quiet_step ((first | fail)))
        refine wpQuiet_nil ?_
        intro X hX
        go_wp2
        go_meet
        exact ⟨by rw [HKP.out], below_step HB.out hX⟩
  case rest =>
  obtain ⟨rfl, HB⟩ := hcut
  obtain ⟨W, rfl⟩ : ∃ W : World, W = wc := ⟨_, rfl⟩
  have HS := Lib.hid (HS2.out.step HB.out)
  clear HS2 HB
  have s1 := HS.out.cell (k := 1) 1 rfl rfl
  have s2 := HS.out.cell (k := 2) 1 rfl rfl
  go_upto_region 6 with fail
  obtain ⟨gs, hgs⟩ : ∃ g, W.heap.size = g := ⟨_, rfl⟩
  obtain ⟨W3, hW3⟩ : ∃ V, W.alloc (.cells #[.int .i64 x.At, .int .i64 x.Value] 124) = V := ⟨_, rfl⟩
  have HS3 := Lib.hid ((HS.out.alloc' hgs 124 [.int .i64 x.At, .int .i64 x.Value]).atW hW3)
  rw [hW3, hgs]
  clear hW3 hgs HS s1 s2
  have c0 := HS3.out.cell (k := 0) 3 rfl rfl
  have s0 := HS3.out.cell (k := 0) 2 rfl rfl
  by_cases hit : ∃ r, h.Rows[p]? = some r ∧ r.Name = x.Name
  · obtain ⟨r, hr, hrn⟩ := hit
    have hne := HW.out.ne r (List.mem_of_getElem? hr)
    have HNE := Lib.hid hne
    have HMS : Hid (Pl.takeS h x = Pl.hitS h p r x) := Lib.hid (by rw [← HP.out]; exact Pl.takeS_hit (by rw [HP.out]; exact hr) hrn)
    have HR := Lib.hid hr
    have hpl : p < m := by have := (List.getElem?_eq_some_iff.1 hr).1; have := HML.out; omega
    obtain ⟨g2, rfl, -, -⟩ := Mm.sl_addr (HS3.out.sl 4 rfl) (by show 0 < h.Rows.length; have := HML.out; omega)
    obtain ⟨_, _, _, _, r0, -⟩ := HS3.out.rowSam 4 rfl hr
    rw [hrn] at r0
    have HRN := Lib.hid hrn
    have f1 : (p : Int) < (m : Nat) := by omega
    have f2 : (0 : Int) ≤ (p : Nat) := by omega
    have f3 : ((p : Nat) : Int).toNat = p := by omega
    clear hr hrn hne
    refine wp_region_und (by kernel_rfl) (by kernel_rfl) ?_
    repeat (go_big_quiet_step ((first | fail)))
    refine wpQuiet_nil ?_
    intro X hX
    have HZ := Lib.hid (HS3.out.step hX)
    clear hX HS3 c0 s0 r0
    obtain ⟨As, ms, ds, fx2, -, r1, hsl, hso2, hfn2, hfx2, hrow⟩ := HZ.out.rowSam 4 rfl HR.out
    have HROW := Lib.hid hrow
    have HSO2 := Lib.hid (And.intro hso2 hfn2)
    have HFX := Lib.hid hfx2
    have HSL : Hid (ms = r.Samples.length) := hsl
    have c0 := HZ.out.cell (k := 0) 3 rfl rfl
    have s1 := HZ.out.cell (k := 1) 2 rfl rfl
    have hms0 : 0 < ms := by
      have h1 := HSL.out
      have h2 : r.Samples.length ≠ 0 := fun hh => HNE.out.1 (List.length_eq_zero_iff.1 hh)
      omega
    have hms40 : ms ≤ 40 := by have := HSL.out; have := HNE.out.2; omega
    obtain ⟨q, hq⟩ : ∃ q, ms - 1 = q := ⟨_, rfl⟩
    have hrd := HSO2.out.1.weak HSO2.out.1.olt
    obtain ⟨y, bm, om, hy, hAs, hbm, -, -, d0, -⟩ := smp_get hrd (show q < ms by omega)
    subst hAs
    have HLA : Hid (Pl.lastAt r = y.At) := Lib.hid (by unfold Pl.lastAt; rw [← HSL.out, hq, Pl.sampleAt_of hy])
    have g1 : (0 : Int) < (ms : Nat) := by omega
    have g2' : IntKind.i64.wrap ((ms : Int) - 1) = (q : Int) := by rw [IntWalk.i64_in _ (by omega)]; omega
    have g3 : (0 : Int) ≤ (q : Nat) := by omega
    have g4 : ((q : Nat) : Int).toNat = q := by omega
    have g5 : (q : Int) < (ms : Nat) := by omega
    clear hrd hy hbm hq hsl hso2 hfn2 hfx2 hrow
    by_cases c1 : y.At = x.At
    · as_aux_lemma =>
      have HF : Hid (Pl.takeS h x = (⟨h.Rows, o1⟩, 2)) := Lib.hid (by rw [HMS.out, ← HO1.out]; exact if_pos (by rw [HLA.out]; exact c1))
      have q1 : (y.At == x.At) = true := by simp [c1]
      clear c1
      have z0 := HZ.out.frz (k := 0) 1 rfl
      have z1 := HZ.out.frz (k := 1) 1 rfl
      have b0 := HZ.out.cell (k := 0) 1 rfl rfl
      have b1 := HZ.out.cell (k := 1) 1 rfl rfl
      have h0 := HZ.out.cell (k := 0) 3 rfl rfl
      have h1 := HZ.out.cell (k := 1) 3 rfl rfl
      have HSF := Lib.hid ((HZ.out.setBlk (k := 0) 1 rfl ((.slice (some ⟨g2, 0, none⟩) m d))).setBlk (k := 1) 1 rfl (.int .i64 o1))
      have u0 := HSF.out.cell (k := 0) 1 rfl rfl
      have u1 := HSF.out.cell (k := 1) 1 rfl rfl
      go_wp2
      exact bodyPost_ret (v := .tuple #[.agg #[(.slice (some ⟨g2, 0, none⟩) m d), .int .i64 o1], .int .i64 2]) (by simp [results, Tryz.results128, go_sem, u0, u1]) rfl ⟨_, _, _, _, by rw [HO1.out, HF.out], by rw [HF.out]; exact HSF.out.sel [4] (by decide) rfl⟩
    · have q1 : (y.At == x.At) = false := by simp [c1]
      by_cases c2 : x.At < y.At
      · as_aux_lemma =>
        have HF : Hid (Pl.takeS h x = (⟨h.Rows, o1⟩, 3)) := Lib.hid (by rw [HMS.out, ← HO1.out]; exact (if_neg (by rw [HLA.out]; exact c1)).trans (if_pos (by rw [HLA.out]; exact c2)))
        clear c1
        have z0 := HZ.out.frz (k := 0) 1 rfl
        have z1 := HZ.out.frz (k := 1) 1 rfl
        have b0 := HZ.out.cell (k := 0) 1 rfl rfl
        have b1 := HZ.out.cell (k := 1) 1 rfl rfl
        have h0 := HZ.out.cell (k := 0) 3 rfl rfl
        have h1 := HZ.out.cell (k := 1) 3 rfl rfl
        have HSF := Lib.hid ((HZ.out.setBlk (k := 0) 1 rfl ((.slice (some ⟨g2, 0, none⟩) m d))).setBlk (k := 1) 1 rfl (.int .i64 o1))
        have u0 := HSF.out.cell (k := 0) 1 rfl rfl
        have u1 := HSF.out.cell (k := 1) 1 rfl rfl
        go_wp2
        exact bodyPost_ret (v := .tuple #[.agg #[(.slice (some ⟨g2, 0, none⟩) m d), .int .i64 o1], .int .i64 3]) (by simp [results, Tryz.results128, go_sem, u0, u1]) rfl ⟨_, _, _, _, by rw [HO1.out, HF.out], by rw [HF.out]; exact HSF.out.sel [4] (by decide) rfl⟩
      · by_cases c3 : ms = 40
        · as_aux_lemma =>
          have HF : Hid (Pl.takeS h x = (⟨h.Rows, o1⟩, 4)) := Lib.hid (by rw [HMS.out, ← HO1.out]; exact (if_neg (by rw [HLA.out]; exact c1)).trans ((if_neg (by rw [HLA.out]; exact c2)).trans (if_pos (by rw [← HSL.out]; exact c3))))
          have q3 : ((ms : Int) == 40) = true := by rw [c3]; rfl
          clear c1 c3
          have z0 := HZ.out.frz (k := 0) 1 rfl
          have z1 := HZ.out.frz (k := 1) 1 rfl
          have b0 := HZ.out.cell (k := 0) 1 rfl rfl
          have b1 := HZ.out.cell (k := 1) 1 rfl rfl
          have h0 := HZ.out.cell (k := 0) 3 rfl rfl
          have h1 := HZ.out.cell (k := 1) 3 rfl rfl
          have HSF := Lib.hid ((HZ.out.setBlk (k := 0) 1 rfl ((.slice (some ⟨g2, 0, none⟩) m d))).setBlk (k := 1) 1 rfl (.int .i64 o1))
          have u0 := HSF.out.cell (k := 0) 1 rfl rfl
          have u1 := HSF.out.cell (k := 1) 1 rfl rfl
          go_wp2
          exact bodyPost_ret (v := .tuple #[.agg #[(.slice (some ⟨g2, 0, none⟩) m d), .int .i64 o1], .int .i64 4]) (by simp [results, Tryz.results128, go_sem, u0, u1]) rfl ⟨_, _, _, _, by rw [HO1.out, HF.out], by rw [HF.out]; exact HSF.out.sel [4] (by decide) rfl⟩
        · as_aux_lemma =>
          have HF : Hid (Pl.takeS h x = (⟨h.Rows.set p ⟨r.Name, r.Samples ++ [⟨x.At, x.Value⟩]⟩, o1⟩, 1)) := Lib.hid (by rw [HMS.out, ← HO1.out]; exact (if_neg (by rw [HLA.out]; exact c1)).trans ((if_neg (by rw [HLA.out]; exact c2)).trans (if_neg (by rw [← HSL.out]; exact c3))))
          have q3 : ((ms : Int) == 40) = false := by rw [beq_eq_false_iff_ne]; omega
          clear c1 c3
          go_upto_region 15 with fail
          clear d0 s1 q1 q3 c2 g1 g2' g3 g4 g5
          obtain ⟨i0, hi, hz0, hz1, hz2⟩ := info_parts Tryz.infoSmpK
          have s1 := HZ.out.cell (k := 0) 0 rfl rfl
          have s2 := HZ.out.cell (k := 1) 0 rfl rfl
          have n1' : gs ∉ fx2 := fun hh => HZ.out.apart (i := 0) (j := 4) rfl rfl (by decide) gs (by simp [Mm.tblk]) (HFX.out _ hh).1
          have n2' : gh ∉ fx2 := fun hh => HZ.out.apart (i := 3) (j := 4) rfl rfl (by decide) gh (by simp [Mm.tblk]) (HFX.out _ hh).1
          have hg2 : g2 ∉ fx2 := fun hh => (HFX.out _ hh).2 rfl
          have zr := (HZ.out.sl 4 rfl).frozen (p * 2 + 1)
          have hg2l : g2 < X.heap.size := (HZ.out.sl 4 rfl).olt g2 (HZ.out.sl 4 rfl).mem_block
          have hslm : r.Samples.length ≤ 40 := HNE.out.2
          refine Mm.wp_region_give 9 (fun i => match i with | 5 => some (Mm.gBs 124 [.int .i64 x.At, .int .i64 x.Value]) | 6 => some (Mm.gSl smp 124 (r.Samples ++ [⟨x.At, x.Value⟩])) | _ => none) (fun i => match i with | 6 => [5, 10] | _ => []) (fun i => match i with | 10 => [Mm.tsl smp 124 r.Samples (.slice (some ⟨bm, om, none⟩) ms ds) fx2] | _ => []) (F := fx2) (D := fun w' => ∃ z : Cha fx2 X, w' = cha fx2 X z) (fun X us h => Mm.sep_cha h) (by kernel_rfl) (by kernel_rfl) (by kernel_rfl) (Mm.sep_eq ((Mm.SepF.one (Mm.tsl smp 124 r.Samples (.slice (some ⟨bm, om, none⟩) ms ds) fx2) X HSO2.out.1 HSO2.out.2).step (Below.refl _ _).drew) rfl) ?_
          repeat (refine Mm.give_det (by rfl) (by rfl) (by rfl) (fun K hK => ?_); go_big_quiet_op; refine hK _ ?_; clear hK K)
          refine Mm.give_op0 89 (by rfl) rfl (by rfl) (by rfl) (by rfl) (by rfl) Mm.gBs_in (fun others X6 hX6 => ?_) ?_
          · go_wp2
            exact Mm.gvq_bs hX6 rfl rfl rfl
          rintro v ds' ⟨gb, rfl, rfl⟩
          simp only [Act.put, List.setIfInBounds_toArray, List.set_cons_succ, List.set_cons_zero]
          refine Mm.give_op2 90 5 10 (by rfl) rfl (by rfl) (by rfl) (by rfl) rfl (by rfl) (by rfl) (by rfl) _ _ rfl rfl Mm.gSl_in (fun others X6 hX6 => Mm.app_gvq rfl (.tmp 87) (.tmp 89) 62 rfl 90 rfl (by rfl) i0 _ 16 Tryz.underlying62 hi hz0 hz1 hz2 rfl (by decide) rfl rfl (fun W => smp_own_mk (x := ⟨x.At, x.Value⟩) HI.out) (by unfold maxLen; omega) (by omega) hX6) ?_
          rintro v ds' ⟨A8, n8, c8, f8', rfl, rfl, hn8⟩
          simp only [Act.put, List.setIfInBounds_toArray, List.set_cons_succ, List.set_cons_zero]
          repeat (refine Mm.give_det (by rfl) (by rfl) (by rfl) (fun K hK => ?_); go_big_quiet_op; refine hK _ ?_; clear hK K)
          refine Mm.give_nil ?_
          rintro X7 hX7
          have hx7 : Mm.SepF fx2 X X7 [Mm.tsl smp 124 (r.Samples ++ [⟨x.At, x.Value⟩]) (.slice A8 n8 c8) f8'] := Mm.sep_eq hX7 rfl
          have HS4 := Lib.hid hx7
          have d4 : X7.cell? ⟨g2, p * 2 + 1, none⟩ = some (.slice (some ⟨bm, om, none⟩) ms ds) := (World.cell?_of_block (hx7.chg.block g2 hg2l hg2)).trans r1
          have z4 : X7.frozen? ⟨g2, p * 2 + 1, none⟩ = false := (World.frozen?_of_block (hx7.chg.block g2 hg2l hg2)).trans zr
          clear hX7 hx7 r1 zr s1 s2 n1' n2' hg2 hg2l c0
          obtain ⟨fp5, hs5⟩ := HROW.out _ _ _ _ _ _ HS4.out
          obtain ⟨XT, hXT⟩ : ∃ XT, X7.setCell ⟨g2, p * 2 + 1, none⟩ (.slice A8 n8 c8) = XT := ⟨_, rfl⟩
          replace HZ := Lib.hid (hs5.atW hXT)
          clear hs5
          go_upto_region 16 with fail
          clear hXT d4 z4
          have z0 := HZ.out.frz (k := 0) 1 rfl
          have z1 := HZ.out.frz (k := 1) 1 rfl
          have b0 := HZ.out.cell (k := 0) 1 rfl rfl
          have b1 := HZ.out.cell (k := 1) 1 rfl rfl
          have h0 := HZ.out.cell (k := 0) 3 rfl rfl
          have h1 := HZ.out.cell (k := 1) 3 rfl rfl
          have HSF := Lib.hid ((HZ.out.setBlk (k := 0) 1 rfl ((.slice (some ⟨g2, 0, none⟩) m d))).setBlk (k := 1) 1 rfl (.int .i64 o1))
          have u0 := HSF.out.cell (k := 0) 1 rfl rfl
          have u1 := HSF.out.cell (k := 1) 1 rfl rfl
          go_wp2
          exact bodyPost_ret (v := .tuple #[.agg #[(.slice (some ⟨g2, 0, none⟩) m d), .int .i64 o1], .int .i64 1]) (by simp [results, Tryz.results128, go_sem, u0, u1]) rfl ⟨_, _, _, _, by rw [HO1.out, HF.out], by rw [HF.out]; exact HSF.out.sel [4] (by decide) rfl⟩
  · have HMS : Hid (Pl.takeS h x = Pl.missS h p x) := Lib.hid (by rw [← HP.out]; exact Pl.takeS_miss (fun o ho he => by rw [HP.out] at ho; exact hit ⟨o, ho, he⟩))
    have f2 : (0 : Int) ≤ (p : Nat) := by omega
    have f3 : ((p : Nat) : Int).toNat = p := by omega
    by_cases hpl : p < m
    · obtain ⟨g2, rfl, -, -⟩ := Mm.sl_addr (HS3.out.sl 4 rfl) (by show 0 < h.Rows.length; have := HML.out; omega)
      obtain ⟨r, hr⟩ : ∃ r, h.Rows[p]? = some r := ⟨_, List.getElem?_eq_getElem (by have := HML.out; omega)⟩
      obtain ⟨_, _, _, _, r0, -⟩ := HS3.out.rowSam 4 rfl hr
      have f1 : (p : Int) < (m : Nat) := by omega
      have q1 : (r.Name.toList == x.Name.toList) = false := by
        rw [beq_eq_false_iff_ne]
        exact fun hh => hit ⟨r, hr, Pl.ba_inj hh⟩
      clear hr hit
      refine wp_region_und (by kernel_rfl) (by kernel_rfl) ?_
      repeat (go_big_quiet_step ((first | fail)))
      refine wpQuiet_nil ?_
      intro X hX
      clear r0 q1
      have HZ := Lib.hid (HS3.out.step hX)
      clear hX HS3 c0 s0
      have c0 := HZ.out.cell (k := 0) 3 rfl rfl
      by_cases h8 : m = 8
      · as_aux_lemma =>
        have HF : Hid (Pl.takeS h x = (⟨h.Rows, o1⟩, 4)) := Lib.hid (by rw [HMS.out, ← HO1.out]; exact if_pos (by have := HML.out; omega))
        have f8 : ((m : Int) == 8) = true := by rw [h8]; rfl
        clear h8
        have z0 := HZ.out.frz (k := 0) 1 rfl
        have z1 := HZ.out.frz (k := 1) 1 rfl
        have b0 := HZ.out.cell (k := 0) 1 rfl rfl
        have b1 := HZ.out.cell (k := 1) 1 rfl rfl
        have h0 := HZ.out.cell (k := 0) 3 rfl rfl
        have h1 := HZ.out.cell (k := 1) 3 rfl rfl
        have HSF := Lib.hid ((HZ.out.setBlk (k := 0) 1 rfl ((.slice (some ⟨g2, 0, none⟩) m d))).setBlk (k := 1) 1 rfl (.int .i64 o1))
        have u0 := HSF.out.cell (k := 0) 1 rfl rfl
        have u1 := HSF.out.cell (k := 1) 1 rfl rfl
        go_wp2
        exact bodyPost_ret (v := .tuple #[.agg #[(.slice (some ⟨g2, 0, none⟩) m d), .int .i64 o1], .int .i64 4]) (by simp [results, Tryz.results128, go_sem, u0, u1]) rfl ⟨_, _, _, _, by rw [HO1.out, HF.out], by rw [HF.out]; exact HSF.out.sel [4] (by decide) rfl⟩
      have HF : Hid (Pl.takeS h x = (⟨Mm.insertAt h.Rows p ⟨x.Name, [⟨x.At, x.Value⟩]⟩, o1⟩, 1)) := Lib.hid (by rw [HMS.out, ← HO1.out]; exact if_neg (by have := HML.out; omega))
      have f8 : ((m : Int) == 8) = false := by rw [beq_eq_false_iff_ne]; omega
      go_upto_region 19 with fail
      clear f8 h8
      have s0 := HZ.out.cell (k := 0) 2 rfl rfl
      have t0 := HZ.out.cell (k := 0) 0 rfl rfl
      have t1 := HZ.out.cell (k := 1) 0 rfl rfl
      have hghl : gh < X.heap.size := World.block_lt_of_cell? X ⟨gh, 0, none⟩ c0
      obtain ⟨lc, ho, h1c, hnext⟩ := HZ.out.insLate 4 rfl (k := p) (by rw [← HML.out]; exact hpm)
      rw [← HML.out] at ho hnext
      have ho : X.ownsRow 0 139 2 (.slice (some ⟨g2, 0, none⟩) m d) m lc := ho
      have HNX := Lib.hid hnext
      clear hnext
      have hcc : ∀ j u, lc[j]? = some u → X.cell? ⟨g2, j, none⟩ = some u := fun j u hj => by
        have := ho.cells (g := g2) rfl j u hj
        rwa [Mm.add0] at this
      have hmd : m ≤ d := by
        rcases ho.2 with ⟨hv, _⟩ | ⟨g, cap, cur, hv, _, _, hnc, _⟩
        · cases hv
        · injection hv with _ _ e3
          subst e3
          exact hnc
      have hcl := ho.1
      as_aux_lemma =>
      obtain ⟨A8, c8, w8, e1, kk1, nn8, hV⟩ := put3R X ((some ⟨g2, 0, none⟩)) ((some ⟨g2, p * 2, none⟩)) m p ((m - p)) (d) ((d - p)) lc ho h1c hpm (by omega) (fun hh => by cases hh) (by omega) (fun hh => by cases hh) (fun a ha j u hj => by injection ha with ha; subst ha; rw [Mm.add0]; rw [List.getElem?_take] at hj; split at hj; exact hcc j u hj; cases hj) (fun a ha j u hj => by injection ha with ha; subst ha; rw [Addr.add_lit]; rw [List.getElem?_drop] at hj; exact hcc _ u hj)
      obtain ⟨g8, hg8⟩ : ∃ g, w8.heap.size = g := ⟨_, rfl⟩
      obtain ⟨V, hVd⟩ : ∃ V, w8.alloc (.cells #[.int .i64 x.At, .int .i64 x.Value] 124) = V := ⟨_, rfl⟩
      have hVs : V.heap.size = g8 + 1 := by rw [← hVd, Mm.sz1, hg8]
      have hVb : Below w8.heap.size w8 V := by rw [← hVd]; exact below_new (Below.refl _ _) _
      obtain ⟨A10, c10, w10, e2, k10, A11, c11, w11, e3, r4, kb, k11, n11⟩ := hV V [.string x.Name, .slice (some ⟨g8, 0, none⟩) 1 1] hVb rfl (by simp [Value.oneCell'])
      rw [hVs] at e2 k10 k11 n11
      have hX8 := kk1.size
      have hn8 : (Value.slice A8 p c8).ownBlock ≠ some g8 := fun hh => by have := (nn8 _ hh).2; omega
      have hbl : Mm.Blk w11 g8 124 [.int .i64 x.At, .int .i64 x.Value] := Mm.Blk.keep (by have h9 := Mm.Blk.new w8 124 [.int .i64 x.At, .int .i64 x.Value]; rw [hg8] at h9; rw [← hVd]; exact h9) (k11 g8 (by omega) hn8)
      obtain ⟨fp', hsE⟩ := HNX.out w11 (.slice A11 (m + 1) c11) ⟨x.Name, [⟨x.At, x.Value⟩]⟩ [.string x.Name, .slice (some ⟨g8, 0, none⟩) 1 1] [g8] kb (rRow_own_mk (x := ⟨x.Name, [⟨x.At, x.Value⟩]⟩) HNM.out (Mm.oneSmp (x := ⟨x.At, x.Value⟩) hbl HI.out)) (by simp) (fun b hb => by simp at hb; omega) r4 (fun g hg => by
        rcases n11 g hg with hh | hh
        · have := nn8 g hh
          exact ⟨this.1, by simp; omega⟩
        · exact ⟨by omega, by simp; omega⟩)
      have HSE := Lib.hid hsE
      have HK := Lib.hid (And.intro e1 (And.intro e2 e3))
      have s8 := below_some kk1 s0
      have t80 := below_some kk1 t0
      have t81 := below_some kk1 t1
      have c10' : w10.cell? ⟨gh, 0, none⟩ = some (.slice (some ⟨g2, 0, none⟩) m d) := (World.cell?_of_block (k10 gh (by omega) (fun hh => by have := (nn8 _ hh).1; omega))).trans (below_some (below_step kk1 hVb) c0)
      obtain ⟨XT, hXT⟩ : ∃ XT, w11.setCell ⟨gh, 0, none⟩ (.slice A11 (m + 1) c11) = XT := ⟨_, rfl⟩
      replace HZ := Lib.hid ((HSE.out.setBlk (k := 0) 3 rfl (.slice A11 (m + 1) c11)).atW hXT)
      have h11 := HSE.out.cell (k := 0) 3 rfl rfl
      have z11 := HSE.out.frz (k := 0) 3 rfl
      clear hsE e1 e2 e3 r4 kk1 kb k10 k11 n11 nn8 hV hVb hX8 hn8 hbl HSE HNX h1c ho s0 t0 t1
      go_upto_region 20 with (at_builtin; refine Lib.wpList_append_run _ rfl _ _ _ _ rfl _ _ rfl rfl _ _ (HK.out.1 _) ?_)
      clear c0
      go_upto_region 21 with (at_builtin; refine Lib.wpList_append_run _ rfl _ _ _ _ rfl _ _ rfl rfl _ _ (HK.out.2.1 _) ?_)
      go_upto_region 22 with (at_builtin; refine Lib.wpList_append_run _ rfl _ _ _ _ rfl _ _ rfl rfl _ _ (HK.out.2.2 _) ?_)
      clear hXT h11 z11 c10' s8 t80 t81 HK
      have z0 := HZ.out.frz (k := 0) 1 rfl
      have z1 := HZ.out.frz (k := 1) 1 rfl
      have b0 := HZ.out.cell (k := 0) 1 rfl rfl
      have b1 := HZ.out.cell (k := 1) 1 rfl rfl
      have h0 := HZ.out.cell (k := 0) 3 rfl rfl
      have h1 := HZ.out.cell (k := 1) 3 rfl rfl
      have HSF := Lib.hid ((HZ.out.setBlk (k := 0) 1 rfl ((.slice A11 (m + 1) c11))).setBlk (k := 1) 1 rfl (.int .i64 o1))
      have u0 := HSF.out.cell (k := 0) 1 rfl rfl
      have u1 := HSF.out.cell (k := 1) 1 rfl rfl
      go_wp2
      exact bodyPost_ret (v := .tuple #[.agg #[(.slice A11 (m + 1) c11), .int .i64 o1], .int .i64 1]) (by simp [results, Tryz.results128, go_sem, u0, u1]) rfl ⟨_, _, _, _, by rw [HO1.out, HF.out], by rw [HF.out]; exact HSF.out.sel [4] (by decide) rfl⟩
    · have f1 : ¬ (p : Int) < (m : Nat) := by omega
      have f4 : decide (p < m) = false := by simp; omega
      clear hit hpl
      refine wp_region_und (by kernel_rfl) (by kernel_rfl) ?_
      repeat (go_big_quiet_step ((first | fail)))
      refine wpQuiet_nil ?_
      intro X hX
      have HZ := Lib.hid (HS3.out.step hX)
      clear hX HS3 c0 s0
      have c0 := HZ.out.cell (k := 0) 3 rfl rfl
      by_cases h8 : m = 8
      · as_aux_lemma =>
        have HF : Hid (Pl.takeS h x = (⟨h.Rows, o1⟩, 4)) := Lib.hid (by rw [HMS.out, ← HO1.out]; exact if_pos (by have := HML.out; omega))
        have f8 : ((m : Int) == 8) = true := by rw [h8]; rfl
        clear h8
        have z0 := HZ.out.frz (k := 0) 1 rfl
        have z1 := HZ.out.frz (k := 1) 1 rfl
        have b0 := HZ.out.cell (k := 0) 1 rfl rfl
        have b1 := HZ.out.cell (k := 1) 1 rfl rfl
        have h0 := HZ.out.cell (k := 0) 3 rfl rfl
        have h1 := HZ.out.cell (k := 1) 3 rfl rfl
        have HSF := Lib.hid ((HZ.out.setBlk (k := 0) 1 rfl ((.slice A m d))).setBlk (k := 1) 1 rfl (.int .i64 o1))
        have u0 := HSF.out.cell (k := 0) 1 rfl rfl
        have u1 := HSF.out.cell (k := 1) 1 rfl rfl
        go_wp2
        exact bodyPost_ret (v := .tuple #[.agg #[(.slice A m d), .int .i64 o1], .int .i64 4]) (by simp [results, Tryz.results128, go_sem, u0, u1]) rfl ⟨_, _, _, _, by rw [HO1.out, HF.out], by rw [HF.out]; exact HSF.out.sel [4] (by decide) rfl⟩
      have HF : Hid (Pl.takeS h x = (⟨Mm.insertAt h.Rows p ⟨x.Name, [⟨x.At, x.Value⟩]⟩, o1⟩, 1)) := Lib.hid (by rw [HMS.out, ← HO1.out]; exact if_neg (by have := HML.out; omega))
      have f8 : ((m : Int) == 8) = false := by rw [beq_eq_false_iff_ne]; omega
      go_upto_region 19 with fail
      clear f8 h8
      have s0 := HZ.out.cell (k := 0) 2 rfl rfl
      have t0 := HZ.out.cell (k := 0) 0 rfl rfl
      have t1 := HZ.out.cell (k := 1) 0 rfl rfl
      have hghl : gh < X.heap.size := World.block_lt_of_cell? X ⟨gh, 0, none⟩ c0
      obtain ⟨lc, ho, h1c, hnext⟩ := HZ.out.insLate 4 rfl (k := p) (by rw [← HML.out]; exact hpm)
      rw [← HML.out] at ho hnext
      have ho : X.ownsRow 0 139 2 (.slice A m d) m lc := ho
      have HNX := Lib.hid hnext
      clear hnext
      rcases ho.2 with ⟨hv, hn0⟩ | ⟨g2, cap, cur, hv, _, hg, hnc, hcm, hcs, htake⟩
      · injection hv with e1 e2 e3
        subst e1 e3
        subst hn0
        obtain rfl : p = 0 := by omega
        as_aux_lemma =>
        obtain ⟨A8, c8, w8, e1, kk1, nn8, hV⟩ := put3R X (none) (none) 0 0 (0) (0) (0) lc ho h1c hpm (by omega) (fun _ => ⟨rfl, rfl⟩) rfl (fun _ => ⟨rfl, rfl⟩) (fun a hh => by cases hh) (fun a hh => by cases hh)
        obtain ⟨g8, hg8⟩ : ∃ g, w8.heap.size = g := ⟨_, rfl⟩
        obtain ⟨V, hVd⟩ : ∃ V, w8.alloc (.cells #[.int .i64 x.At, .int .i64 x.Value] 124) = V := ⟨_, rfl⟩
        have hVs : V.heap.size = g8 + 1 := by rw [← hVd, Mm.sz1, hg8]
        have hVb : Below w8.heap.size w8 V := by rw [← hVd]; exact below_new (Below.refl _ _) _
        obtain ⟨A10, c10, w10, e2, k10, A11, c11, w11, e3, r4, kb, k11, n11⟩ := hV V [.string x.Name, .slice (some ⟨g8, 0, none⟩) 1 1] hVb rfl (by simp [Value.oneCell'])
        rw [hVs] at e2 k10 k11 n11
        have hX8 := kk1.size
        have hn8 : (Value.slice A8 0 c8).ownBlock ≠ some g8 := fun hh => by have := (nn8 _ hh).2; omega
        have hbl : Mm.Blk w11 g8 124 [.int .i64 x.At, .int .i64 x.Value] := Mm.Blk.keep (by have h9 := Mm.Blk.new w8 124 [.int .i64 x.At, .int .i64 x.Value]; rw [hg8] at h9; rw [← hVd]; exact h9) (k11 g8 (by omega) hn8)
        obtain ⟨fp', hsE⟩ := HNX.out w11 (.slice A11 (0 + 1) c11) ⟨x.Name, [⟨x.At, x.Value⟩]⟩ [.string x.Name, .slice (some ⟨g8, 0, none⟩) 1 1] [g8] kb (rRow_own_mk (x := ⟨x.Name, [⟨x.At, x.Value⟩]⟩) HNM.out (Mm.oneSmp (x := ⟨x.At, x.Value⟩) hbl HI.out)) (by simp) (fun b hb => by simp at hb; omega) r4 (fun g hg => by
          rcases n11 g hg with hh | hh
          · have := nn8 g hh
            exact ⟨this.1, by simp; omega⟩
          · exact ⟨by omega, by simp; omega⟩)
        have HSE := Lib.hid hsE
        have HK := Lib.hid (And.intro e1 (And.intro e2 e3))
        have s8 := below_some kk1 s0
        have t80 := below_some kk1 t0
        have t81 := below_some kk1 t1
        have c10' : w10.cell? ⟨gh, 0, none⟩ = some (.slice none 0 0) := (World.cell?_of_block (k10 gh (by omega) (fun hh => by have := (nn8 _ hh).1; omega))).trans (below_some (below_step kk1 hVb) c0)
        obtain ⟨XT, hXT⟩ : ∃ XT, w11.setCell ⟨gh, 0, none⟩ (.slice A11 (0 + 1) c11) = XT := ⟨_, rfl⟩
        replace HZ := Lib.hid ((HSE.out.setBlk (k := 0) 3 rfl (.slice A11 (0 + 1) c11)).atW hXT)
        have h11 := HSE.out.cell (k := 0) 3 rfl rfl
        have z11 := HSE.out.frz (k := 0) 3 rfl
        clear hsE e1 e2 e3 r4 kk1 kb k10 k11 n11 nn8 hV hVb hX8 hn8 hbl HSE HNX h1c ho s0 t0 t1
        go_upto_region 20 with (at_builtin; refine Lib.wpList_append_run _ rfl _ _ _ _ rfl _ _ rfl rfl _ _ (HK.out.1 _) ?_)
        clear c0
        go_upto_region 21 with (at_builtin; refine Lib.wpList_append_run _ rfl _ _ _ _ rfl _ _ rfl rfl _ _ (HK.out.2.1 _) ?_)
        go_upto_region 22 with (at_builtin; refine Lib.wpList_append_run _ rfl _ _ _ _ rfl _ _ rfl rfl _ _ (HK.out.2.2 _) ?_)
        clear hXT h11 z11 c10' s8 t80 t81 HK
        have z0 := HZ.out.frz (k := 0) 1 rfl
        have z1 := HZ.out.frz (k := 1) 1 rfl
        have b0 := HZ.out.cell (k := 0) 1 rfl rfl
        have b1 := HZ.out.cell (k := 1) 1 rfl rfl
        have h0 := HZ.out.cell (k := 0) 3 rfl rfl
        have h1 := HZ.out.cell (k := 1) 3 rfl rfl
        have HSF := Lib.hid ((HZ.out.setBlk (k := 0) 1 rfl ((.slice A11 (0 + 1) c11))).setBlk (k := 1) 1 rfl (.int .i64 o1))
        have u0 := HSF.out.cell (k := 0) 1 rfl rfl
        have u1 := HSF.out.cell (k := 1) 1 rfl rfl
        go_wp2
        exact bodyPost_ret (v := .tuple #[.agg #[(.slice A11 (0 + 1) c11), .int .i64 o1], .int .i64 1]) (by simp [results, Tryz.results128, go_sem, u0, u1]) rfl ⟨_, _, _, _, by rw [HO1.out, HF.out], by rw [HF.out]; exact HSF.out.sel [4] (by decide) rfl⟩
      · injection hv with e1 e2 e3
        subst e1 e3
        have hcc : ∀ j u, lc[j]? = some u → X.cell? ⟨g2, j, none⟩ = some u := fun j u hj => by
          have := ho.cells (g := g2) rfl j u hj
          rwa [Mm.add0] at this
        have hcl := ho.1
        unfold maxLen at hcm
        clear hg hcs htake
        by_cases hcp : d = p
        · subst hcp
          as_aux_lemma =>
          obtain ⟨A8, c8, w8, e1, kk1, nn8, hV⟩ := put3R X ((some ⟨g2, 0, none⟩)) ((some ⟨g2, 0, none⟩)) m d (0) (d) (0) lc ho h1c hpm (by omega) (fun hh => by cases hh) (by omega) (fun hh => by cases hh) (fun a ha j u hj => by injection ha with ha; subst ha; rw [Mm.add0]; rw [List.getElem?_take] at hj; split at hj; exact hcc j u hj; cases hj) (fun a ha j u hj => by rw [List.drop_of_length_le (by omega)] at hj; simp at hj)
          obtain ⟨g8, hg8⟩ : ∃ g, w8.heap.size = g := ⟨_, rfl⟩
          obtain ⟨V, hVd⟩ : ∃ V, w8.alloc (.cells #[.int .i64 x.At, .int .i64 x.Value] 124) = V := ⟨_, rfl⟩
          have hVs : V.heap.size = g8 + 1 := by rw [← hVd, Mm.sz1, hg8]
          have hVb : Below w8.heap.size w8 V := by rw [← hVd]; exact below_new (Below.refl _ _) _
          obtain ⟨A10, c10, w10, e2, k10, A11, c11, w11, e3, r4, kb, k11, n11⟩ := hV V [.string x.Name, .slice (some ⟨g8, 0, none⟩) 1 1] hVb rfl (by simp [Value.oneCell'])
          rw [hVs] at e2 k10 k11 n11
          have hX8 := kk1.size
          have hn8 : (Value.slice A8 d c8).ownBlock ≠ some g8 := fun hh => by have := (nn8 _ hh).2; omega
          have hbl : Mm.Blk w11 g8 124 [.int .i64 x.At, .int .i64 x.Value] := Mm.Blk.keep (by have h9 := Mm.Blk.new w8 124 [.int .i64 x.At, .int .i64 x.Value]; rw [hg8] at h9; rw [← hVd]; exact h9) (k11 g8 (by omega) hn8)
          obtain ⟨fp', hsE⟩ := HNX.out w11 (.slice A11 (m + 1) c11) ⟨x.Name, [⟨x.At, x.Value⟩]⟩ [.string x.Name, .slice (some ⟨g8, 0, none⟩) 1 1] [g8] kb (rRow_own_mk (x := ⟨x.Name, [⟨x.At, x.Value⟩]⟩) HNM.out (Mm.oneSmp (x := ⟨x.At, x.Value⟩) hbl HI.out)) (by simp) (fun b hb => by simp at hb; omega) r4 (fun g hg => by
            rcases n11 g hg with hh | hh
            · have := nn8 g hh
              exact ⟨this.1, by simp; omega⟩
            · exact ⟨by omega, by simp; omega⟩)
          have HSE := Lib.hid hsE
          have HK := Lib.hid (And.intro e1 (And.intro e2 e3))
          have s8 := below_some kk1 s0
          have t80 := below_some kk1 t0
          have t81 := below_some kk1 t1
          have c10' : w10.cell? ⟨gh, 0, none⟩ = some (.slice (some ⟨g2, 0, none⟩) m d) := (World.cell?_of_block (k10 gh (by omega) (fun hh => by have := (nn8 _ hh).1; omega))).trans (below_some (below_step kk1 hVb) c0)
          obtain ⟨XT, hXT⟩ : ∃ XT, w11.setCell ⟨gh, 0, none⟩ (.slice A11 (m + 1) c11) = XT := ⟨_, rfl⟩
          replace HZ := Lib.hid ((HSE.out.setBlk (k := 0) 3 rfl (.slice A11 (m + 1) c11)).atW hXT)
          have h11 := HSE.out.cell (k := 0) 3 rfl rfl
          have z11 := HSE.out.frz (k := 0) 3 rfl
          clear hsE e1 e2 e3 r4 kk1 kb k10 k11 n11 nn8 hV hVb hX8 hn8 hbl HSE HNX h1c ho s0 t0 t1
          go_upto_region 20 with (at_builtin; refine Lib.wpList_append_run _ rfl _ _ _ _ rfl _ _ rfl rfl _ _ (HK.out.1 _) ?_)
          clear c0
          go_upto_region 21 with (at_builtin; refine Lib.wpList_append_run _ rfl _ _ _ _ rfl _ _ rfl rfl _ _ (HK.out.2.1 _) ?_)
          go_upto_region 22 with (at_builtin; refine Lib.wpList_append_run _ rfl _ _ _ _ rfl _ _ rfl rfl _ _ (HK.out.2.2 _) ?_)
          clear hXT h11 z11 c10' s8 t80 t81 HK
          have z0 := HZ.out.frz (k := 0) 1 rfl
          have z1 := HZ.out.frz (k := 1) 1 rfl
          have b0 := HZ.out.cell (k := 0) 1 rfl rfl
          have b1 := HZ.out.cell (k := 1) 1 rfl rfl
          have h0 := HZ.out.cell (k := 0) 3 rfl rfl
          have h1 := HZ.out.cell (k := 1) 3 rfl rfl
          have HSF := Lib.hid ((HZ.out.setBlk (k := 0) 1 rfl ((.slice A11 (m + 1) c11))).setBlk (k := 1) 1 rfl (.int .i64 o1))
          have u0 := HSF.out.cell (k := 0) 1 rfl rfl
          have u1 := HSF.out.cell (k := 1) 1 rfl rfl
          go_wp2
          exact bodyPost_ret (v := .tuple #[.agg #[(.slice A11 (m + 1) c11), .int .i64 o1], .int .i64 1]) (by simp [results, Tryz.results128, go_sem, u0, u1]) rfl ⟨_, _, _, _, by rw [HO1.out, HF.out], by rw [HF.out]; exact HSF.out.sel [4] (by decide) rfl⟩
        · have hcp2 : ¬ (d = p) := hcp
          as_aux_lemma =>
          obtain ⟨A8, c8, w8, e1, kk1, nn8, hV⟩ := put3R X ((some ⟨g2, 0, none⟩)) ((some ⟨g2, p * 2, none⟩)) m p ((m - p)) (d) ((d - p)) lc ho h1c hpm (by omega) (fun hh => by cases hh) (by omega) (fun hh => by cases hh) (fun a ha j u hj => by injection ha with ha; subst ha; rw [Mm.add0]; rw [List.getElem?_take] at hj; split at hj; exact hcc j u hj; cases hj) (fun a ha j u hj => by injection ha with ha; subst ha; rw [Addr.add_lit]; rw [List.getElem?_drop] at hj; exact hcc _ u hj)
          obtain ⟨g8, hg8⟩ : ∃ g, w8.heap.size = g := ⟨_, rfl⟩
          obtain ⟨V, hVd⟩ : ∃ V, w8.alloc (.cells #[.int .i64 x.At, .int .i64 x.Value] 124) = V := ⟨_, rfl⟩
          have hVs : V.heap.size = g8 + 1 := by rw [← hVd, Mm.sz1, hg8]
          have hVb : Below w8.heap.size w8 V := by rw [← hVd]; exact below_new (Below.refl _ _) _
          obtain ⟨A10, c10, w10, e2, k10, A11, c11, w11, e3, r4, kb, k11, n11⟩ := hV V [.string x.Name, .slice (some ⟨g8, 0, none⟩) 1 1] hVb rfl (by simp [Value.oneCell'])
          rw [hVs] at e2 k10 k11 n11
          have hX8 := kk1.size
          have hn8 : (Value.slice A8 p c8).ownBlock ≠ some g8 := fun hh => by have := (nn8 _ hh).2; omega
          have hbl : Mm.Blk w11 g8 124 [.int .i64 x.At, .int .i64 x.Value] := Mm.Blk.keep (by have h9 := Mm.Blk.new w8 124 [.int .i64 x.At, .int .i64 x.Value]; rw [hg8] at h9; rw [← hVd]; exact h9) (k11 g8 (by omega) hn8)
          obtain ⟨fp', hsE⟩ := HNX.out w11 (.slice A11 (m + 1) c11) ⟨x.Name, [⟨x.At, x.Value⟩]⟩ [.string x.Name, .slice (some ⟨g8, 0, none⟩) 1 1] [g8] kb (rRow_own_mk (x := ⟨x.Name, [⟨x.At, x.Value⟩]⟩) HNM.out (Mm.oneSmp (x := ⟨x.At, x.Value⟩) hbl HI.out)) (by simp) (fun b hb => by simp at hb; omega) r4 (fun g hg => by
            rcases n11 g hg with hh | hh
            · have := nn8 g hh
              exact ⟨this.1, by simp; omega⟩
            · exact ⟨by omega, by simp; omega⟩)
          have HSE := Lib.hid hsE
          have HK := Lib.hid (And.intro e1 (And.intro e2 e3))
          have s8 := below_some kk1 s0
          have t80 := below_some kk1 t0
          have t81 := below_some kk1 t1
          have c10' : w10.cell? ⟨gh, 0, none⟩ = some (.slice (some ⟨g2, 0, none⟩) m d) := (World.cell?_of_block (k10 gh (by omega) (fun hh => by have := (nn8 _ hh).1; omega))).trans (below_some (below_step kk1 hVb) c0)
          obtain ⟨XT, hXT⟩ : ∃ XT, w11.setCell ⟨gh, 0, none⟩ (.slice A11 (m + 1) c11) = XT := ⟨_, rfl⟩
          replace HZ := Lib.hid ((HSE.out.setBlk (k := 0) 3 rfl (.slice A11 (m + 1) c11)).atW hXT)
          have h11 := HSE.out.cell (k := 0) 3 rfl rfl
          have z11 := HSE.out.frz (k := 0) 3 rfl
          clear hsE e1 e2 e3 r4 kk1 kb k10 k11 n11 nn8 hV hVb hX8 hn8 hbl HSE HNX h1c ho s0 t0 t1
          go_upto_region 20 with (at_builtin; refine Lib.wpList_append_run _ rfl _ _ _ _ rfl _ _ rfl rfl _ _ (HK.out.1 _) ?_)
          clear c0
          go_upto_region 21 with (at_builtin; refine Lib.wpList_append_run _ rfl _ _ _ _ rfl _ _ rfl rfl _ _ (HK.out.2.1 _) ?_)
          go_upto_region 22 with (at_builtin; refine Lib.wpList_append_run _ rfl _ _ _ _ rfl _ _ rfl rfl _ _ (HK.out.2.2 _) ?_)
          clear hXT h11 z11 c10' s8 t80 t81 HK
          have z0 := HZ.out.frz (k := 0) 1 rfl
          have z1 := HZ.out.frz (k := 1) 1 rfl
          have b0 := HZ.out.cell (k := 0) 1 rfl rfl
          have b1 := HZ.out.cell (k := 1) 1 rfl rfl
          have h0 := HZ.out.cell (k := 0) 3 rfl rfl
          have h1 := HZ.out.cell (k := 1) 3 rfl rfl
          have HSF := Lib.hid ((HZ.out.setBlk (k := 0) 1 rfl ((.slice A11 (m + 1) c11))).setBlk (k := 1) 1 rfl (.int .i64 o1))
          have u0 := HSF.out.cell (k := 0) 1 rfl rfl
          have u1 := HSF.out.cell (k := 1) 1 rfl rfl
          go_wp2
          exact bodyPost_ret (v := .tuple #[.agg #[(.slice A11 (m + 1) c11), .int .i64 o1], .int .i64 1]) (by simp [results, Tryz.results128, go_sem, u0, u1]) rfl ⟨_, _, _, _, by rw [HO1.out, HF.out], by rw [HF.out]; exact HSF.out.sel [4] (by decide) rfl⟩
end Go.Proofs.YtbhmdnjammnlnaaGreatDoor

/-
  Contracts: measurements put into a head one after another, the reference's (l17Fold); PlayPlain of the reference. No conditions beyond those named.
-/
namespace Go.Proofs.YtbhmdnjammnlnaaGreatDoor
open Go.RowKit
attribute [local go_sem] und_cell cha_cell World.cell?_alloc_some
end Go.Proofs.YtbhmdnjammnlnaaGreatDoor

/-
  Contracts: whether a store is good, the reference's. Conditions: those named.
-/
namespace Go.Proofs.YtbhmdnjammnlnaaGreatDoor
open Go.RowKit
attribute [local go_sem] und_cell cha_cell World.cell?_alloc_some
theorem Pl.LogOkR.zero {g : Log} (h : Pl.LogOkR g) (hb : g.Begin = 0) : Pl.LogOk g ∧ Pl.from0 g.Pieces = 0 := by
  refine ⟨h.1, ?_⟩
  have h1 := h.1.bg.1
  have h2 := h.1.from0.1
  rw [hb] at h1
  omega
theorem Pl.LogOkR.of {g : Log} (h : Pl.LogOk g) (hf : Pl.from0 g.Pieces = 0) (hb : g.Begin = 0) : Pl.LogOkR g :=
  ⟨h, fun p hp => by rw [hb]; have := Pl.from0_get hp; omega⟩
def gFoldH (x : Head) : Mm.Rel := fun _ _ v ds => ∃ A n c f, v = .agg #[.slice A n c, .int .i64 x.Offset] ∧ ds = [Mm.tow rHead x [.slice A n c, .int .i64 x.Offset] f]
theorem gFoldH_in {x : Head} {vals : List Value} {tk : List Mm.Thing} : ∃ v ds, gFoldH x vals tk v ds := ⟨_, _, none, 0, 0, [], rfl, rfl⟩
end Go.Proofs.YtbhmdnjammnlnaaGreatDoor

/-
  Contracts: GoodHouse, both sides, by one answer. Conditions: those named (Tab).
-/
namespace Go.Proofs.YtbhmdnjammnlnaaGreatDoor
open Go.RowKit
attribute [local go_sem] und_cell cha_cell World.cell?_alloc_some
end Go.Proofs.YtbhmdnjammnlnaaGreatDoor

/-
  Contracts: RowOf, both sides. No conditions beyond those named.
-/
namespace Go.Proofs.YtbhmdnjammnlnaaGreatDoor
open Go.RowKit
attribute [local go_sem] und_cell cha_cell World.cell?_alloc_some
namespace Pl
/-- its samples -/
def smpsOf : Option Row → List Sample
  | none => []
  | some r => r.Samples
end Pl
/-- a copy of a row's samples, if there is one -/
def RowAns (o : Option Row) (w : World) (e : Ending) (w' : World) : Prop :=
  ∃ A n c fp, e = .returned (.tuple #[.slice A n c, .bool o.isSome]) ∧ Mm.SepF [] w w' [Mm.tsl smp 124 (Pl.smpsOf o) (.slice A n c) fp]
theorem RowAns.no {o : Option Row} (h : o = none) {w w' : World} (hb : Below w.heap.size w w') : RowAns o w (.returned (.tuple #[.slice none 0 0, .bool false])) w' := by
  subst h
  exact ⟨none, 0, 0, [], rfl, ((Mm.SepF.start w).add hb (t := Mm.tsl smp 124 [] (.slice none 0 0) []) Mm.SlOwn.nil List.nodup_nil (fun b hb => by cases hb))⟩
end Go.Proofs.YtbhmdnjammnlnaaGreatDoor

/-
  Contracts: AskHouse, both sides. Conditions: those named (Tab).
-/
namespace Go.Proofs.YtbhmdnjammnlnaaGreatDoor
open Go.RowKit
attribute [local go_sem] und_cell cha_cell World.cell?_alloc_some
namespace Pl
theorem HouseOk.ex {h : House} (k : HouseOk h) {i : Nat} (hi : i < h.Logs.length) : ∃ g a b l, h.Logs[i]? = some g ∧ h.Heads[i]? = some a ∧ h.Kept[i]? = some b ∧ PartOk h.Logs.length i g a b l := by
  obtain ⟨l, hl⟩ := k.part i _ _ _ (List.getElem?_eq_getElem hi) (List.getElem?_eq_getElem (by rw [k.hdn]; exact hi)) (List.getElem?_eq_getElem (by rw [k.kpn]; exact hi))
  exact ⟨_, _, _, l, List.getElem?_eq_getElem hi, List.getElem?_eq_getElem (by rw [k.hdn]; exact hi), List.getElem?_eq_getElem (by rw [k.kpn]; exact hi), hl⟩
theorem PartOk.head {n k : Nat} {g : Log} {hd kp : Head} {l : List Say} (h : PartOk n k g hd kp l) : HeadOk hd := (h.hdf.ok h.sayOk (by have := h.len; omega)).1
theorem PartOk.kept {n k : Nat} {g : Log} {hd kp : Head} {l : List Say} (h : PartOk n k g hd kp l) : HeadOk kp := (h.kpf.ok h.sayOk (by have := h.len; omega)).1
theorem HouseOk.head {h : House} (k : HouseOk h) {i : Nat} {a : Head} (ha : h.Heads[i]? = some a) : HeadOk a := by
  obtain ⟨g, a', b, l, h1, h2, h3, h4⟩ := k.ex (i := i) (by have := (List.getElem?_eq_some_iff.1 ha).1; rw [k.hdn] at this; exact this)
  rw [ha] at h2; injection h2 with h2; subst h2; exact h4.head
end Pl
def AskAns (x : List Sample × Bool × Bool) (w : World) (e : Ending) (w' : World) : Prop :=
  ∃ A n c fp, e = .returned (.tuple #[.slice A n c, .bool x.2.1, .bool x.2.2]) ∧ Mm.SepF [] w w' [Mm.tsl smp 124 x.1 (.slice A n c) fp]
theorem AskAns.no {x : List Sample × Bool × Bool} {b : Bool} (h : x = ([], false, b)) {w w' : World} (hb : Below w.heap.size w w') : AskAns x w (.returned (.tuple #[.slice none 0 0, .bool false, .bool b])) w' := by
  subst h
  exact ⟨none, 0, 0, [], rfl, ((Mm.SepF.start w).add hb (t := Mm.tsl smp 124 [] (.slice none 0 0) []) Mm.SlOwn.nil List.nodup_nil (fun b hb => by cases hb))⟩
end Go.Proofs.YtbhmdnjammnlnaaGreatDoor

/-
  Plain: the steps of a store; a good store stays good. No program in sight. No conditions.
-/
namespace Go.Proofs.YtbhmdnjammnlnaaGreatDoor
open Go.RowKit
namespace Pl
theorem FoldOf.mono {h : Head} {l : List Say} (k : FoldOf h l) (x : Say) : FoldOf h (l ++ [x]) := by
  obtain ⟨m, hm, rfl⟩ := k
  exact ⟨m, by rw [List.length_append]; omega, by rw [List.take_append_of_le_length hm]⟩
theorem FoldOf.next {h : Head} {l : List Say} (k : FoldOf h l) {x : Say} (hx : l[h.Offset.toNat]? = some x) : FoldOf (takeS h x).1 l := by
  obtain ⟨m, hm, rfl⟩ := k
  have h1 := fold_off0 l m hm
  rw [h1, Int.toNat_natCast] at hx
  have h2 := (List.getElem?_eq_some_iff.1 hx).1
  exact ⟨m + 1, h2, by rw [Mm.take_succ_some hx, foldS_snoc]⟩
theorem logOut_from {g : Log} {s : ByteArray} (h : LogOk g) : from0 (logOut g s).Pieces = from0 g.Pieces := by
  have h1 := h.len.1
  obtain ⟨ps, bg⟩ := g
  dsimp only at h1
  cases ps with
  | nil => simp at h1
  | cons p t =>
    unfold logOut
    split
    · rfl
    · cases t with
      | nil => rfl
      | cons q t => rfl
theorem PartOk.next {n k : Nat} {g : Log} {a b : Head} {l : List Say} (h : PartOk n k g a b l) {x : Say} (hx : l[a.Offset.toNat]? = some x) : PartOk n k g (takeS a x).1 b l :=
  ⟨h.log, h.fr, h.bg, h.txt, h.hdf.next hx, h.kpf, by rw [takeS_off]; have := h.le; omega⟩
theorem PartOk.keep {n k : Nat} {g : Log} {a b : Head} {l : List Say} (h : PartOk n k g a b l) : PartOk n k g a a l := ⟨h.log, h.fr, h.bg, h.txt, h.hdf, h.hdf, Int.le_refl _⟩
theorem PartOk.lose {n k : Nat} {g : Log} {a b : Head} {l : List Say} (h : PartOk n k g a b l) : PartOk n k g b b l := ⟨h.log, h.fr, h.bg, h.txt, h.kpf, h.kpf, Int.le_refl _⟩
theorem PartOk.tell {n k : Nat} {g : Log} {a b : Head} {l : List Say} (h : PartOk n k g a b l) {x : Say} (hx : Pl.sayOk x = true) (hp : partN n x.Name = k) (ho : appOk g (sayTxt x) = true) : PartOk n k (logOut g (sayTxt x)) a b (l ++ [x]) := by
  obtain ⟨h20, hok⟩ := (appOk_iff h.log).1 ho
  refine ⟨hok, by rw [logOut_from h.log]; exact h.fr, by rw [logOut_bg]; exact h.bg, saysOf_iff.2 ⟨?_, fun y hy => ?_⟩, h.hdf.mono x, h.kpf.mono x, h.le⟩
  · rw [logOut_recs h.log h20, h.says.1, List.map_append]; rfl
  · rcases List.mem_append.1 hy with hy | hy
    · exact h.says.2 y hy
    · rw [List.mem_singleton] at hy; subst hy; exact ⟨hx, hp⟩
/-- one part is put anew -/
theorem HouseOk.upd {h h' : House} (H : HouseOk h) (k : Nat) (e0 : h'.Logs.length = h.Logs.length) (e1 : h'.Heads.length = h.Heads.length) (e2 : h'.Kept.length = h.Kept.length)
    (o0 : ∀ i, i ≠ k → h'.Logs[i]? = h.Logs[i]?) (o1 : ∀ i, i ≠ k → h'.Heads[i]? = h.Heads[i]?) (o2 : ∀ i, i ≠ k → h'.Kept[i]? = h.Kept[i]?)
    (hp : ∀ g a b, h'.Logs[k]? = some g → h'.Heads[k]? = some a → h'.Kept[k]? = some b → ∃ l, PartOk h.Logs.length k g a b l) : HouseOk h' := by
  refine ⟨by rw [e0]; exact H.n1, by rw [e0]; exact H.n3, by rw [e0, e1]; exact H.hdn, by rw [e0, e2]; exact H.kpn, fun i g a b hg ha hb => ?_⟩
  rw [e0]
  by_cases hi : i = k
  · subst hi; exact hp g a b hg ha hb
  · rw [o0 i hi] at hg
    rw [o1 i hi] at ha
    rw [o2 i hi] at hb
    exact H.part i g a b hg ha hb
theorem set_ne {α : Type} {l : List α} {k : Nat} {x : α} : ∀ i, i ≠ k → (l.set k x)[i]? = l[i]? := fun i hi => List.getElem?_set_ne (fun e => hi e.symm)
theorem set_me {α : Type} {l : List α} {k : Nat} {x y : α} (h : (l.set k x)[k]? = some y) : y = x := by
  have h1 := (List.getElem?_eq_some_iff.1 h).1
  rw [List.length_set] at h1
  rw [List.getElem?_set_self h1] at h
  injection h with h
  exact h.symm
def zSay : Say := ⟨⟨#[]⟩, 0, 0⟩
/-- no measurement -/
def noSay (x : Say) : Bool := decide (x.Name.size = 0) && decide (x.At = 0) && decide (x.Value = 0)
def zLog : Log := ⟨[], 0⟩
def zHead : Head := ⟨[], 0⟩
/-- a record of a log, read -/
def sayAt (g : Log) (m : Nat) : Say := (readS ((lRecs g.Pieces).getD m ⟨#[]⟩)).getD zSay
def logK (h : House) (k : Nat) : Log := h.Logs.getD k zLog
def headK (h : House) (k : Nat) : Head := h.Heads.getD k zHead
def keptK (h : House) (k : Nat) : Head := h.Kept.getD k zHead
theorem getDz {α : Type} {l : List α} {k : Nat} {x z : α} (h : l[k]? = some x) : l.getD k z = x := by rw [List.getD_eq_getElem?_getD, h]; rfl
theorem logK_of {h : House} {k : Nat} {g : Log} (hg : h.Logs[k]? = some g) : logK h k = g := getDz hg
theorem headK_of {h : House} {k : Nat} {a : Head} (ha : h.Heads[k]? = some a) : headK h k = a := getDz ha
theorem keptK_of {h : House} {k : Nat} {a : Head} (ha : h.Kept[k]? = some a) : keptK h k = a := getDz ha
/-- the head of a part takes its next record, if there is one -/
def followS (h : House) (k : Nat) : House × Bool :=
  if (headK h k).Offset < (lRecs (logK h k).Pieces).length then (⟨h.Logs, h.Heads.set k (takeS (headK h k) (sayAt (logK h k) (headK h k).Offset.toNat)).1, h.Kept⟩, true) else (h, false)
theorem sayAt_of {n k : Nat} {g : Log} {a b : Head} {l : List Say} (h : PartOk n k g a b l) {m : Nat} (hm : m < (lRecs g.Pieces).length) : ∃ x, l[m]? = some x ∧ sayAt g m = x ∧ (lRecs g.Pieces)[m]? = some (sayTxt x) ∧ readS (sayTxt x) = some x := by
  have h1 := h.says.1
  rw [h1, List.length_map] at hm
  have h2 : l[m]? = some l[m] := List.getElem?_eq_getElem hm
  have h3 : (lRecs g.Pieces)[m]? = some (sayTxt l[m]) := by rw [h1, List.getElem?_map, h2]; rfl
  have h4 := readS_of (h.sayOk _ (List.mem_of_getElem? h2))
  exact ⟨l[m], h2, by unfold sayAt; rw [List.getD_eq_getElem?_getD, h3]; show (readS (sayTxt l[m])).getD zSay = _; rw [h4]; rfl, h3, h4⟩
theorem HouseOk.follow {h : House} (H : HouseOk h) (k : Nat) : HouseOk (followS h k).1 := by
  unfold followS
  split
  · rename_i hc
    refine H.upd k rfl (List.length_set) rfl (fun _ _ => rfl) set_ne (fun _ _ => rfl) fun g a b hg ha hb => ?_
    dsimp only at hg ha hb
    have hk : k < h.Logs.length := (List.getElem?_eq_some_iff.1 hg).1
    obtain ⟨g', a', b', l, h1, h2, h3, h4⟩ := H.ex hk
    rw [hg] at h1; injection h1 with h1; subst h1
    rw [hb] at h3; injection h3 with h3; subst h3
    rw [logK_of hg, headK_of h2] at hc
    have ho := h4.head.off
    obtain ⟨x, hx, hs, -, -⟩ := sayAt_of h4 (m := a'.Offset.toNat) (by omega)
    rw [set_me ha, logK_of hg, headK_of h2, hs]
    exact ⟨l, h4.next hx⟩
  · exact H
/-- a step -/
def stepS (h : House) (s : HouseStep) : House × Bool :=
  if 0 ≤ s.Part ∧ s.Part < h.Logs.length then
    if s.Kind = 1 then
      if sayOk s.What = true ∧ partN h.Logs.length s.What.Name = s.Part ∧ appOk (logK h s.Part.toNat) (sayTxt s.What) = true then (⟨h.Logs.set s.Part.toNat (logOut (logK h s.Part.toNat) (sayTxt s.What)), h.Heads, h.Kept⟩, true) else (h, false)
    else if noSay s.What = true then
      if s.Kind = 2 then followS h s.Part.toNat
      else if s.Kind = 3 then (⟨h.Logs, h.Heads, h.Kept.set s.Part.toNat (headK h s.Part.toNat)⟩, true)
      else if s.Kind = 4 then (⟨h.Logs, h.Heads.set s.Part.toNat (keptK h s.Part.toNat), h.Kept⟩, true)
      else (h, false)
    else (h, false)
  else (h, false)
theorem HouseOk.step {h : House} (H : HouseOk h) (s : HouseStep) : HouseOk (stepS h s).1 := by
  unfold stepS
  split
  · rename_i hp
    obtain ⟨k, hk⟩ : ∃ k : Nat, s.Part = k := ⟨s.Part.toNat, by omega⟩
    have hkn : k < h.Logs.length := by omega
    obtain ⟨g, a, b, l, h1, h2, h3, h4⟩ := H.ex hkn
    rw [hk, Int.toNat_natCast]
    split
    · split
      · rename_i hc
        refine H.upd k (List.length_set) rfl rfl set_ne (fun _ _ => rfl) (fun _ _ => rfl) fun g' a' b' hg' ha' hb' => ?_
        dsimp only at hg' ha' hb'
        rw [h2] at ha'; injection ha' with ha'; subst ha'
        rw [h3] at hb'; injection hb' with hb'; subst hb'
        rw [logK_of h1] at hc
        rw [set_me hg', logK_of h1]
        exact ⟨_, h4.tell hc.1 hc.2.1 hc.2.2⟩
      · exact H
    · split
      · split
        · exact H.follow k
        · split
          · refine H.upd k rfl rfl (List.length_set) (fun _ _ => rfl) (fun _ _ => rfl) set_ne fun g' a' b' hg' ha' hb' => ?_
            dsimp only at hg' ha' hb'
            rw [h1] at hg'; injection hg' with hg'; subst hg'
            rw [h2] at ha'; injection ha' with ha'; subst ha'
            rw [set_me hb', headK_of h2]
            exact ⟨l, h4.keep⟩
          · split
            · refine H.upd k rfl (List.length_set) rfl (fun _ _ => rfl) set_ne (fun _ _ => rfl) fun g' a' b' hg' ha' hb' => ?_
              dsimp only at hg' ha' hb'
              rw [h1] at hg'; injection hg' with hg'; subst hg'
              rw [h3] at hb'; injection hb' with hb'; subst hb'
              rw [set_me ha', keptK_of h3]
              exact ⟨l, h4.lose⟩
            · exact H
      · exact H
  · exact H
end Pl
end Go.Proofs.YtbhmdnjammnlnaaGreatDoor

/-
  Contracts: a store in new memory, both sides. No conditions but those named.
-/
namespace Go.Proofs.YtbhmdnjammnlnaaGreatDoor
open Go.RowKit
attribute [local go_sem] und_cell cha_cell World.cell?_alloc_some
theorem Tryz.infoLogY : (Tryz.prog.info? 80).map (fun i => (i.zero, i.size, i.bytes)) = some (some (.agg #[.slice none 0 0, .int .i64 0]), 2, 32) := by kernel_rfl
theorem Tryz.infoHeadY : (Tryz.prog.info? 73).map (fun i => (i.zero, i.size, i.bytes)) = some (some (.agg #[.slice none 0 0, .int .i64 0]), 2, 32) := by kernel_rfl
/-- a store that can be copied -/
structure Pl.HoS (h : House) : Prop where
  n3 : h.Logs.length ≤ 3
  hdn : h.Heads.length = h.Logs.length
  kpn : h.Kept.length = h.Logs.length
  lg : ∀ g, g ∈ h.Logs → Pl.LS g
  hd : ∀ a, a ∈ h.Heads → Pl.HW a
  kp : ∀ a, a ∈ h.Kept → Pl.HW a
theorem Pl.HouseOk.hos {h : House} (k : Pl.HouseOk h) : Pl.HoS h := by
  have ex : ∀ i, i < h.Logs.length → ∃ g a b, h.Logs[i]? = some g ∧ h.Heads[i]? = some a ∧ h.Kept[i]? = some b := fun i hi =>
    ⟨_, _, _, List.getElem?_eq_getElem hi, List.getElem?_eq_getElem (by rw [k.hdn]; exact hi), List.getElem?_eq_getElem (by rw [k.kpn]; exact hi)⟩
  refine ⟨k.n3, k.hdn, k.kpn, fun g hg => ?_, fun a ha => ?_, fun a ha => ?_⟩
  · obtain ⟨i, hi⟩ := List.getElem?_of_mem hg
    obtain ⟨g', a, b, h1, h2, h3⟩ := ex i (List.getElem?_eq_some_iff.1 hi).1
    obtain ⟨l, hl⟩ := k.part i g a b hi h2 h3
    exact hl.log.ls
  · obtain ⟨i, hi⟩ := List.getElem?_of_mem ha
    obtain ⟨g', a', b, h1, h2, h3⟩ := ex i (by rw [← k.hdn]; exact (List.getElem?_eq_some_iff.1 hi).1)
    obtain ⟨l, hl⟩ := k.part i g' a b h1 hi h3
    exact (hl.hdf.ok hl.sayOk (by have := hl.len; omega)).1.hw
  · obtain ⟨i, hi⟩ := List.getElem?_of_mem ha
    obtain ⟨g', a', b, h1, h2, h3⟩ := ex i (by rw [← k.kpn]; exact (List.getElem?_eq_some_iff.1 hi).1)
    obtain ⟨l, hl⟩ := k.part i g' a' a h1 h2 hi
    exact (hl.kpf.ok hl.sayOk (by have := hl.len; omega)).1.hw
def gLgA (x : Log) : Mm.Rel := fun _ _ v ds => ∃ A n c f, v = .agg #[.slice A n c, .int .i64 x.Begin] ∧ ds = [Mm.tow rLog x [.slice A n c, .int .i64 x.Begin] f]
theorem gLgA_in {x : Log} {vals : List Value} {tk : List Mm.Thing} : ∃ v ds, gLgA x vals tk v ds := ⟨_, _, none, 0, 0, [], rfl, rfl⟩
def gLgE (x : Log) : Mm.Rel := fun _ _ v ds => ∃ g A n c f, v = .slice (some ⟨g, 0, none⟩) 1 1 ∧ ds = [Mm.tblk g 80 [.slice A n c, .int .i64 x.Begin], Mm.tow rLog x [.slice A n c, .int .i64 x.Begin] f]
theorem gLgE_in {x : Log} {vals : List Value} {tk : List Mm.Thing} : ∃ v ds, gLgE x vals tk v ds := ⟨_, _, 0, none, 0, 0, [], rfl, rfl⟩
def gHdE (x : Head) : Mm.Rel := fun _ _ v ds => ∃ g A n c f, v = .slice (some ⟨g, 0, none⟩) 1 1 ∧ ds = [Mm.tblk g 73 [.slice A n c, .int .i64 x.Offset], Mm.tow rHead x [.slice A n c, .int .i64 x.Offset] f]
theorem gHdE_in {x : Head} {vals : List Value} {tk : List Mm.Thing} : ∃ v ds, gHdE x vals tk v ds := ⟨_, _, 0, none, 0, 0, [], rfl, rfl⟩
theorem Mm.SepF.nd3 {F : List Nat} {w0 wr : World} {t0 t1 t2 : Mm.Thing} {ts : List Mm.Thing} (h : Mm.SepF F w0 wr (t0 :: t1 :: t2 :: ts)) : (t0.fp ++ (t1.fp ++ t2.fp)).Nodup := by
  have := h.nd
  rw [List.flatMap_cons, List.flatMap_cons, List.flatMap_cons, ← List.append_assoc, ← List.append_assoc, List.append_assoc t0.fp] at this
  exact (List.nodup_append.1 this).1
set_option maxRecDepth 100000 in
set_option maxHeartbeats 8000000 in
theorem l17Own_c (h : House) (cs : List Value) (w : World) (B : Nat) (hh : rHouse.at_ w B h cs) (hB : B ≤ w.heap.size) (hs : Pl.HoS h) :
    Calls Tryz.prog 54 #[.agg cs.toArray] w (Mm.NewAg rHouse w h) := by
  obtain ⟨A0, n0, c0, A1, n1, c1, A2, n2, c2, rfl, r0, r1, r2⟩ := rHouse_at hh
  have R0 := Lib.hid r0
  have R1 := Lib.hid r1
  have R2 := Lib.hid r2
  have HS0 := Lib.hid hs
  have HNN : Hid (h.Logs.length = n0) := r0.1
  obtain rfl : n1 = n0 := by have h1 := r1.1; have h2 := r0.1; have := hs.hdn; omega
  obtain rfl : n2 = n1 := by have h1 := r2.1; have h2 := r0.1; have := hs.kpn; omega
  obtain ⟨n0, rfl⟩ : ∃ n, n = n2 := ⟨_, rfl⟩
  have HNH : Hid (h.Heads.length = n0) := r1.1
  have HNK : Hid (h.Kept.length = n0) := r2.1
  have hn3 : n0 ≤ 3 := by have := hs.n3; have := r0.1; omega
  have HBW := Lib.hid hB
  obtain ⟨iL, qL, qL0, qL1, qL2⟩ := info_parts Tryz.infoLogY
  obtain ⟨iH, qH, qH0, qH1, qH2⟩ := info_parts Tryz.infoHeadY
  clear hh r0 r1 r2 hs hB
  obtain ⟨ga, hga⟩ : ∃ g, w.heap.size = g := ⟨_, rfl⟩
  obtain ⟨gc, hgc⟩ : ∃ g, ga + 1 = g := ⟨_, rfl⟩
  obtain ⟨gp, hgp⟩ : ∃ g, gc + 1 = g := ⟨_, rfl⟩
  obtain ⟨W0, hW0⟩ : ∃ W, ((w.alloc (.cells #[.slice A0 n0 c0, .slice A1 n0 c1, .slice A2 n0 c2] 27)).alloc (.cells #[.slice none 0 0, .slice none 0 0, .slice none 0 0] 27)).alloc (.cells #[.slice none 0 0, .slice none 0 0, .slice none 0 0] 27) = W := ⟨_, rfl⟩
  have KS0 := Lib.hid ((((((Mm.SepF.start w).alloc' hga 27 [.slice A0 n0 c0, .slice A1 n0 c1, .slice A2 n0 c2]).alloc' (g := gc) (by rw [Mm.sz1, hga, hgc]) 27 [.slice none 0 0, .slice none 0 0, .slice none 0 0]).alloc' (g := gp) (by rw [Mm.sz1, Mm.sz1, hga, hgc, hgp]) 27 [.slice none 0 0, .slice none 0 0, .slice none 0 0])).atW hW0)
  have KS := Lib.hid (((KS0.out.add (Below.refl _ _) (t := Mm.tsl rHead 73 [] (.slice none 0 0) []) Mm.SlOwn.nil List.nodup_nil (fun b hb => by cases hb)).add (Below.refl _ _) (t := Mm.tsl rHead 73 [] (.slice none 0 0) []) Mm.SlOwn.nil List.nodup_nil (fun b hb => by cases hb)).add (Below.refl _ _) (t := Mm.tsl rLog 80 [] (.slice none 0 0) []) Mm.SlOwn.nil List.nodup_nil (fun b hb => by cases hb))
  have d0 := KS0.out.cell (k := 0) 2 rfl rfl
  go_enter Tryz.func54, Tryz.ntmps54
  go_upto_region 3 with fail
  clear hW0 hga hgc hgp d0 KS0
  go_loopg [8] n0 (fun gg i wr => ∃ (k : Nat) (AL : Option Addr) (cL : Nat) (fL : List Nat) (AH : Option Addr) (cH : Nat) (fH : List Nat) (AK : Option Addr) (cK : Nat) (fK : List Nat), n0 - k ≤ gg ∧ k ≤ n0 ∧ i = .int .i64 k ∧ Hid (Mm.SepF [] w wr [Mm.tsl rLog 80 (h.Logs.take k) (.slice AL k cL) fL, Mm.tsl rHead 73 (h.Heads.take k) (.slice AH k cH) fH, Mm.tsl rHead 73 (h.Kept.take k) (.slice AK k cK) fK, Mm.tblk gp 27 [.slice AL k cL, .slice AH k cH, .slice AK k cK], Mm.tblk gc 27 [.slice none 0 0, .slice none 0 0, .slice none 0 0], Mm.tblk ga 27 [.slice A0 n0 c0, .slice A1 n0 c1, .slice A2 n0 c2]]))
  case atStart => exact ⟨0, none, 0, [], none, 0, [], none, 0, [], Nat.le_refl _, Nat.zero_le _, rfl, KS.out⟩
  case round =>
    clear KS
    obtain ⟨k, AL, cL, fL, AH, cH, fH, AK, cK, fK, hgk, hk', rfl, HS⟩ := hrel
    obtain ⟨W, rfl⟩ : ∃ W : World, W = wr := ⟨_, rfl⟩
    by_cases hlt : k < n0
    · have fc : (k : Int) < (n0 : Nat) := by omega
      have HSI := HS
      obtain ⟨WI, rfl⟩ : ∃ V : World, V = W := ⟨_, rfl⟩
      clear HS
      have hbw := Lib.hid (fun b (hb : b < B) => HSI.out.bel0.block b (by have := HBW.out; omega))
      obtain ⟨x, bX, oX, AY, mY, dY, hx, rfl, hbX, hrp, hbg, e0, e1⟩ := rLog_get (R0.out.keep (w' := WI) hbw.out) hlt
      have HNX := Lib.hid (Mm.take_succ_some hx)
      have HWX := Lib.hid (HS0.out.lg x (List.mem_of_getElem? hx))
      have HXAT := Lib.hid (rLog_at_mk hrp hbg)
      clear hx hrp hbg
      go_upto_region 5 with fail
      have q0 := HSI.out.cell (k := 0) 5 rfl rfl
      have b0 := HSI.out.cell (k := 0) 3 rfl rfl
      have fk0 : (0 : Int) ≤ (k : Nat) := by omega
      have fkt : ((k : Nat) : Int).toNat = k := by omega
      have nF : ∀ b, b < B → b ∉ fL := fun b hb hh => by
        rcases (HSI.out.slnew 0 rfl b hh).1 with h | h
        · cases h
        · have := HBW.out; omega
      have nG : gp ∉ fL := fun hh => HSI.out.apart (i := 3) (j := 0) rfl rfl (by decide) gp (by simp [Mm.tblk]) hh
      have nA : ga ∉ fL := fun hh => HSI.out.apart (i := 5) (j := 0) rfl rfl (by decide) ga (by simp [Mm.tblk]) hh
      have nX : bX ∉ fL := nF bX hbX
      have hsI : B ≤ WI.heap.size := by have := HBW.out; have := HSI.out.bel0.size; omega
      have hcl : (h.Logs.take k).length = k := by rw [List.length_take]; have := HNN.out; omega
      refine Mm.wp_region_give 11 (fun i => match i with | 7 => some (gLgA x) | 8 => some (gLgE x) | 9 => some (Mm.gSl rLog 80 (h.Logs.take k ++ [x])) | _ => none) (fun i => match i with | 8 => [7] | 9 => [8, 12] | _ => []) (fun i => match i with | 12 => [Mm.tsl rLog 80 (h.Logs.take k) (.slice AL k cL) fL] | _ => []) (F := fL) (D := fun w' => ∃ z : Cha fL WI, w' = cha fL WI z) (fun X us h => Mm.sep_cha h) (by kernel_rfl) (by kernel_rfl) (by kernel_rfl) (Mm.sep_eq ((Mm.SepF.one (Mm.tsl rLog 80 (h.Logs.take k) (.slice AL k cL) fL) WI (HSI.out.sl 0 rfl) (HSI.out.ndat (i := 0) rfl)).step (Below.refl _ _).drew) rfl) ?_
      repeat (refine Mm.give_det (by rfl) (by rfl) (by rfl) (fun K hK => ?_); go_big_quiet_op; refine hK _ ?_; clear hK K)
      refine Mm.give_op0 18 (by rfl) rfl (by rfl) (by rfl) (by rfl) (by rfl) gLgA_in (fun others X hX => ?_) ?_
      · have CC := l6Own_c x [.slice AY mY dY, .int .i64 x.Begin] X B (rLog.keep HXAT.out fun b hb => hX.chg.block b (Nat.lt_of_lt_of_le hb hsI) (nF b hb)) (Nat.le_trans hsI hX.chg.size) HWX.out
        go_wp2_with (go_at_call 108; refine CC.mono ?_; rintro e w5 ⟨cs5, f5, rfl, ho5, hnd5, hnew5, hb5⟩; obtain ⟨A5, n5, c5, g5, rfl, rfl, -, -⟩ := rLog_own ho5)
        exact ⟨rfl, rfl, _, ⟨A5, n5, c5, _, rfl, rfl⟩, hX.add hb5 (t := Mm.tow rLog x [.slice A5 n5 c5, .int .i64 x.Begin] _) ho5 hnd5 hnew5⟩
      rintro v ds ⟨A3, m3, c3, f3, rfl, rfl⟩
      simp only [Act.put, List.setIfInBounds_toArray, List.set_cons_succ, List.set_cons_zero]
      repeat (refine Mm.give_det (by rfl) (by rfl) (by rfl) (fun K hK => ?_); go_big_quiet_op; refine hK _ ?_; clear hK K)
      refine Mm.give_op1 19 7 (by rfl) rfl (by rfl) (by rfl) (by rfl) rfl (by rfl) _ rfl gLgE_in (fun others X hX => ?_) ?_
      · go_wp2
        exact ⟨rfl, rfl, _, ⟨_, A3, m3, c3, f3, rfl, rfl⟩, hX.alloc' rfl 80 [.slice A3 m3 c3, .int .i64 x.Begin]⟩
      rintro v ds ⟨ge, A4, m4, c4, f4, rfl, rfl⟩
      simp only [Act.put, List.setIfInBounds_toArray, List.set_cons_succ, List.set_cons_zero]
      repeat (refine Mm.give_det (by rfl) (by rfl) (by rfl) (fun K hK => ?_); go_big_quiet_op; refine hK _ ?_; clear hK K)
      refine Mm.give_op2 20 8 12 (by rfl) rfl (by rfl) (by rfl) (by rfl) rfl (by rfl) (by rfl) (by rfl) _ _ rfl rfl Mm.gSl_in (fun others X6 hX6 => Mm.app_gve rfl (.tmp 12) (.tmp 19) 24 rfl 20 rfl (by rfl) iL _ 32 Tryz.underlying24 qL qL0 qL1 qL2 rfl (by decide) rfl rfl hcl (by unfold maxLen; omega) (by omega) hX6) ?_
      rintro v ds ⟨Ad, nd, cap, fpn, rfl, rfl, hnd⟩
      simp only [Act.put, List.setIfInBounds_toArray, List.set_cons_succ, List.set_cons_zero]
      repeat (refine Mm.give_det (by rfl) (by rfl) (by rfl) (fun K hK => ?_); go_big_quiet_op; refine hK _ ?_; clear hK K)
      refine Mm.give_nil ?_
      rintro X7 hX7
      have hx7 : Mm.SepF fL WI X7 [Mm.tsl rLog 80 (h.Logs.take k ++ [x]) (.slice Ad nd cap) fpn] := Mm.sep_eq hX7 rfl
      obtain rfl : nd = k + 1 := by have h1 := hnd.out; rw [List.length_append, hcl] at h1; simpa using h1
      rw [← HNX.out] at hx7
      have HSN := Lib.hid ((HSI.out.sel [0,1,2,3,4,5] (by decide) rfl).callSome (us := [Mm.tsl rLog 80 (h.Logs.take k) (.slice AL k cL) fL]) (rest := _) (by simpa [Mm.tsl] using hx7))
      clear hX7 hnd hx7 HSI
      have b0 := HSN.out.cell (k := 0) 3 rfl rfl
      have y0 := HSN.out.frz (k := 0) 3 rfl
      go_upto_region 6 with fail
      obtain ⟨WN, hWN⟩ : ∃ W, X7.setCell ⟨gp, 0, none⟩ (.slice Ad (k + 1) cap) = W := ⟨_, rfl⟩
      have HSJ := Lib.hid (((HSN.out.setBlk (k := 0) 3 rfl (.slice Ad (k + 1) cap)).sel [0,1,2,3,4,5] (by decide) rfl).atW hWN)
      rw [hWN]
      clear hWN HSN b0 y0 nF nG nA nX hsI hcl
      clear HNX HWX HXAT q0 hbw fk0 fkt
      obtain ⟨WI, rfl⟩ : ∃ W : World, W = WN := ⟨_, rfl⟩
      have HSI := HSJ
      clear HSJ
      have hbw2 := Lib.hid (fun b (hb : b < B) => HSI.out.bel0.block b (by have := HBW.out; omega))
      obtain ⟨x, bX, oX, AY, mY, dY, hx, rfl, hbX, hrp, hbg, e0, e1⟩ := rHead_get (R1.out.keep (w' := WI) hbw2.out) hlt
      have HNX := Lib.hid (Mm.take_succ_some hx)
      have HWX := Lib.hid (HS0.out.hd x (List.mem_of_getElem? hx))
      have HXAT := Lib.hid (rHead_at_mk hrp hbg)
      clear hx hrp hbg
      have q0 := HSI.out.cell (k := 1) 5 rfl rfl
      have b0 := HSI.out.cell (k := 1) 3 rfl rfl
      have fk0 : (0 : Int) ≤ (k : Nat) := by omega
      have fkt : ((k : Nat) : Int).toNat = k := by omega
      have nF : ∀ b, b < B → b ∉ fH := fun b hb hh => by
        rcases (HSI.out.slnew 1 rfl b hh).1 with h | h
        · cases h
        · have := HBW.out; omega
      have nG : gp ∉ fH := fun hh => HSI.out.apart (i := 3) (j := 1) rfl rfl (by decide) gp (by simp [Mm.tblk]) hh
      have nA : ga ∉ fH := fun hh => HSI.out.apart (i := 5) (j := 1) rfl rfl (by decide) ga (by simp [Mm.tblk]) hh
      have nX : bX ∉ fH := nF bX hbX
      have hsI : B ≤ WI.heap.size := by have := HBW.out; have := HSI.out.bel0.size; omega
      have hcl : (h.Heads.take k).length = k := by rw [List.length_take]; have := HNH.out; omega
      refine Mm.wp_region_give 11 (fun i => match i with | 7 => some (gFoldH x) | 8 => some (gHdE x) | 9 => some (Mm.gSl rHead 73 (h.Heads.take k ++ [x])) | _ => none) (fun i => match i with | 8 => [7] | 9 => [8, 12] | _ => []) (fun i => match i with | 12 => [Mm.tsl rHead 73 (h.Heads.take k) (.slice AH k cH) fH] | _ => []) (F := fH) (D := fun w' => ∃ z : Cha fH WI, w' = cha fH WI z) (fun X us h => Mm.sep_cha h) (by kernel_rfl) (by kernel_rfl) (by kernel_rfl) (Mm.sep_eq ((Mm.SepF.one (Mm.tsl rHead 73 (h.Heads.take k) (.slice AH k cH) fH) WI (HSI.out.sl 1 rfl) (HSI.out.ndat (i := 1) rfl)).step (Below.refl _ _).drew) rfl) ?_
      repeat (refine Mm.give_det (by rfl) (by rfl) (by rfl) (fun K hK => ?_); go_big_quiet_op; refine hK _ ?_; clear hK K)
      refine Mm.give_op0 29 (by rfl) rfl (by rfl) (by rfl) (by rfl) (by rfl) gFoldH_in (fun others X hX => ?_) ?_
      · have CC := l13Own_c x [.slice AY mY dY, .int .i64 x.Offset] X B (rHead.keep HXAT.out fun b hb => hX.chg.block b (Nat.lt_of_lt_of_le hb hsI) (nF b hb)) (Nat.le_trans hsI hX.chg.size) HWX.out
        go_wp2_with (go_at_call 107; refine CC.mono ?_; rintro e w5 ⟨cs5, f5, rfl, ho5, hnd5, hnew5, hb5⟩; obtain ⟨A5, n5, c5, g5, rfl, rfl, -, -⟩ := rHead_own ho5)
        exact ⟨rfl, rfl, _, ⟨A5, n5, c5, _, rfl, rfl⟩, hX.add hb5 (t := Mm.tow rHead x [.slice A5 n5 c5, .int .i64 x.Offset] _) ho5 hnd5 hnew5⟩
      rintro v ds ⟨A3, m3, c3, f3, rfl, rfl⟩
      simp only [Act.put, List.setIfInBounds_toArray, List.set_cons_succ, List.set_cons_zero]
      repeat (refine Mm.give_det (by rfl) (by rfl) (by rfl) (fun K hK => ?_); go_big_quiet_op; refine hK _ ?_; clear hK K)
      refine Mm.give_op1 30 7 (by rfl) rfl (by rfl) (by rfl) (by rfl) rfl (by rfl) _ rfl gHdE_in (fun others X hX => ?_) ?_
      · go_wp2
        exact ⟨rfl, rfl, _, ⟨_, A3, m3, c3, f3, rfl, rfl⟩, hX.alloc' rfl 73 [.slice A3 m3 c3, .int .i64 x.Offset]⟩
      rintro v ds ⟨ge, A4, m4, c4, f4, rfl, rfl⟩
      simp only [Act.put, List.setIfInBounds_toArray, List.set_cons_succ, List.set_cons_zero]
      repeat (refine Mm.give_det (by rfl) (by rfl) (by rfl) (fun K hK => ?_); go_big_quiet_op; refine hK _ ?_; clear hK K)
      refine Mm.give_op2 31 8 12 (by rfl) rfl (by rfl) (by rfl) (by rfl) rfl (by rfl) (by rfl) (by rfl) _ _ rfl rfl Mm.gSl_in (fun others X6 hX6 => Mm.app_gve rfl (.tmp 23) (.tmp 30) 25 rfl 31 rfl (by rfl) iH _ 32 Tryz.underlying25 qH qH0 qH1 qH2 rfl (by decide) rfl rfl hcl (by unfold maxLen; omega) (by omega) hX6) ?_
      rintro v ds ⟨Ad, nd, cap, fpn, rfl, rfl, hnd⟩
      simp only [Act.put, List.setIfInBounds_toArray, List.set_cons_succ, List.set_cons_zero]
      repeat (refine Mm.give_det (by rfl) (by rfl) (by rfl) (fun K hK => ?_); go_big_quiet_op; refine hK _ ?_; clear hK K)
      refine Mm.give_nil ?_
      rintro X7 hX7
      have hx7 : Mm.SepF fH WI X7 [Mm.tsl rHead 73 (h.Heads.take k ++ [x]) (.slice Ad nd cap) fpn] := Mm.sep_eq hX7 rfl
      obtain rfl : nd = k + 1 := by have h1 := hnd.out; rw [List.length_append, hcl] at h1; simpa using h1
      rw [← HNX.out] at hx7
      have HSN := Lib.hid ((HSI.out.sel [1,0,2,3,4,5] (by decide) rfl).callSome (us := [Mm.tsl rHead 73 (h.Heads.take k) (.slice AH k cH) fH]) (rest := _) (by simpa [Mm.tsl] using hx7))
      clear hX7 hnd hx7 HSI
      have b0 := HSN.out.cell (k := 1) 3 rfl rfl
      have y0 := HSN.out.frz (k := 1) 3 rfl
      go_upto_region 7 with fail
      obtain ⟨WN, hWN⟩ : ∃ W, X7.setCell ⟨gp, 1, none⟩ (.slice Ad (k + 1) cap) = W := ⟨_, rfl⟩
      have HSJ := Lib.hid (((HSN.out.setBlk (k := 1) 3 rfl (.slice Ad (k + 1) cap)).sel [1,0,2,3,4,5] (by decide) rfl).atW hWN)
      rw [hWN]
      clear hWN HSN b0 y0 nF nG nA nX hsI hcl
      clear HNX HWX HXAT q0 hbw2 fk0 fkt
      obtain ⟨WI, rfl⟩ : ∃ W : World, W = WN := ⟨_, rfl⟩
      have HSI := HSJ
      clear HSJ
      have hbw2 := Lib.hid (fun b (hb : b < B) => HSI.out.bel0.block b (by have := HBW.out; omega))
      obtain ⟨x, bX, oX, AY, mY, dY, hx, rfl, hbX, hrp, hbg, e0, e1⟩ := rHead_get (R2.out.keep (w' := WI) hbw2.out) hlt
      have HNX := Lib.hid (Mm.take_succ_some hx)
      have HWX := Lib.hid (HS0.out.kp x (List.mem_of_getElem? hx))
      have HXAT := Lib.hid (rHead_at_mk hrp hbg)
      clear hx hrp hbg
      have q0 := HSI.out.cell (k := 2) 5 rfl rfl
      have b0 := HSI.out.cell (k := 2) 3 rfl rfl
      have fk0 : (0 : Int) ≤ (k : Nat) := by omega
      have fkt : ((k : Nat) : Int).toNat = k := by omega
      have nF : ∀ b, b < B → b ∉ fK := fun b hb hh => by
        rcases (HSI.out.slnew 2 rfl b hh).1 with h | h
        · cases h
        · have := HBW.out; omega
      have nG : gp ∉ fK := fun hh => HSI.out.apart (i := 3) (j := 2) rfl rfl (by decide) gp (by simp [Mm.tblk]) hh
      have nA : ga ∉ fK := fun hh => HSI.out.apart (i := 5) (j := 2) rfl rfl (by decide) ga (by simp [Mm.tblk]) hh
      have nX : bX ∉ fK := nF bX hbX
      have hsI : B ≤ WI.heap.size := by have := HBW.out; have := HSI.out.bel0.size; omega
      have hcl : (h.Kept.take k).length = k := by rw [List.length_take]; have := HNK.out; omega
      refine Mm.wp_region_give 11 (fun i => match i with | 7 => some (gFoldH x) | 8 => some (gHdE x) | 9 => some (Mm.gSl rHead 73 (h.Kept.take k ++ [x])) | _ => none) (fun i => match i with | 8 => [7] | 9 => [8, 12] | _ => []) (fun i => match i with | 12 => [Mm.tsl rHead 73 (h.Kept.take k) (.slice AK k cK) fK] | _ => []) (F := fK) (D := fun w' => ∃ z : Cha fK WI, w' = cha fK WI z) (fun X us h => Mm.sep_cha h) (by kernel_rfl) (by kernel_rfl) (by kernel_rfl) (Mm.sep_eq ((Mm.SepF.one (Mm.tsl rHead 73 (h.Kept.take k) (.slice AK k cK) fK) WI (HSI.out.sl 2 rfl) (HSI.out.ndat (i := 2) rfl)).step (Below.refl _ _).drew) rfl) ?_
      repeat (refine Mm.give_det (by rfl) (by rfl) (by rfl) (fun K hK => ?_); go_big_quiet_op; refine hK _ ?_; clear hK K)
      refine Mm.give_op0 40 (by rfl) rfl (by rfl) (by rfl) (by rfl) (by rfl) gFoldH_in (fun others X hX => ?_) ?_
      · have CC := l13Own_c x [.slice AY mY dY, .int .i64 x.Offset] X B (rHead.keep HXAT.out fun b hb => hX.chg.block b (Nat.lt_of_lt_of_le hb hsI) (nF b hb)) (Nat.le_trans hsI hX.chg.size) HWX.out
        go_wp2_with (go_at_call 107; refine CC.mono ?_; rintro e w5 ⟨cs5, f5, rfl, ho5, hnd5, hnew5, hb5⟩; obtain ⟨A5, n5, c5, g5, rfl, rfl, -, -⟩ := rHead_own ho5)
        exact ⟨rfl, rfl, _, ⟨A5, n5, c5, _, rfl, rfl⟩, hX.add hb5 (t := Mm.tow rHead x [.slice A5 n5 c5, .int .i64 x.Offset] _) ho5 hnd5 hnew5⟩
      rintro v ds ⟨A3, m3, c3, f3, rfl, rfl⟩
      simp only [Act.put, List.setIfInBounds_toArray, List.set_cons_succ, List.set_cons_zero]
      repeat (refine Mm.give_det (by rfl) (by rfl) (by rfl) (fun K hK => ?_); go_big_quiet_op; refine hK _ ?_; clear hK K)
      refine Mm.give_op1 41 7 (by rfl) rfl (by rfl) (by rfl) (by rfl) rfl (by rfl) _ rfl gHdE_in (fun others X hX => ?_) ?_
      · go_wp2
        exact ⟨rfl, rfl, _, ⟨_, A3, m3, c3, f3, rfl, rfl⟩, hX.alloc' rfl 73 [.slice A3 m3 c3, .int .i64 x.Offset]⟩
      rintro v ds ⟨ge, A4, m4, c4, f4, rfl, rfl⟩
      simp only [Act.put, List.setIfInBounds_toArray, List.set_cons_succ, List.set_cons_zero]
      repeat (refine Mm.give_det (by rfl) (by rfl) (by rfl) (fun K hK => ?_); go_big_quiet_op; refine hK _ ?_; clear hK K)
      refine Mm.give_op2 42 8 12 (by rfl) rfl (by rfl) (by rfl) (by rfl) rfl (by rfl) (by rfl) (by rfl) _ _ rfl rfl Mm.gSl_in (fun others X6 hX6 => Mm.app_gve rfl (.tmp 34) (.tmp 41) 25 rfl 42 rfl (by rfl) iH _ 32 Tryz.underlying25 qH qH0 qH1 qH2 rfl (by decide) rfl rfl hcl (by unfold maxLen; omega) (by omega) hX6) ?_
      rintro v ds ⟨Ad, nd, cap, fpn, rfl, rfl, hnd⟩
      simp only [Act.put, List.setIfInBounds_toArray, List.set_cons_succ, List.set_cons_zero]
      repeat (refine Mm.give_det (by rfl) (by rfl) (by rfl) (fun K hK => ?_); go_big_quiet_op; refine hK _ ?_; clear hK K)
      refine Mm.give_nil ?_
      rintro X7 hX7
      have hx7 : Mm.SepF fK WI X7 [Mm.tsl rHead 73 (h.Kept.take k ++ [x]) (.slice Ad nd cap) fpn] := Mm.sep_eq hX7 rfl
      obtain rfl : nd = k + 1 := by have h1 := hnd.out; rw [List.length_append, hcl] at h1; simpa using h1
      rw [← HNX.out] at hx7
      have HSN := Lib.hid ((HSI.out.sel [2,0,1,3,4,5] (by decide) rfl).callSome (us := [Mm.tsl rHead 73 (h.Kept.take k) (.slice AK k cK) fK]) (rest := _) (by simpa [Mm.tsl] using hx7))
      clear hX7 hnd hx7 HSI
      have b0 := HSN.out.cell (k := 2) 3 rfl rfl
      have y0 := HSN.out.frz (k := 2) 3 rfl
      go_upto_region 8 with fail
      obtain ⟨WN, hWN⟩ : ∃ W, X7.setCell ⟨gp, 2, none⟩ (.slice Ad (k + 1) cap) = W := ⟨_, rfl⟩
      have HSJ := Lib.hid (((HSN.out.setBlk (k := 2) 3 rfl (.slice Ad (k + 1) cap)).sel [1,2,0,3,4,5] (by decide) rfl).atW hWN)
      rw [hWN]
      clear hWN HSN b0 y0 nF nG nA nX hsI hcl
      clear HNX HWX HXAT q0 hbw2
      go_wp2
      go_roundg (n0 - (k + 1))
      case measure => omega
      case rel => exact ⟨k + 1, _, _, _, _, _, _, _, _, _, Nat.le_refl _, by omega, by go_num, HSJ.out⟩
    · obtain rfl : k = n0 := by omega
      have E0 : Hid (h.Logs.take k = h.Logs) := List.take_of_length_le (by have := HNN.out; omega)
      have E1 : Hid (h.Heads.take k = h.Heads) := List.take_of_length_le (by have := HNH.out; omega)
      have E2 : Hid (h.Kept.take k = h.Kept) := List.take_of_length_le (by have := HNK.out; omega)
      rw [E0.out, E1.out, E2.out] at HS
      have fc : ¬ ((k : Nat) : Int) < (k : Nat) := by omega
      have b0 := HS.out.cell (k := 0) 3 rfl rfl
      have b1 := HS.out.cell (k := 1) 3 rfl rfl
      have b2 := HS.out.cell (k := 2) 3 rfl rfl
      have o0 := HS.out.cell (k := 0) 4 rfl rfl
      have o1 := HS.out.cell (k := 1) 4 rfl rfl
      have o2 := HS.out.cell (k := 2) 4 rfl rfl
      have z0 := HS.out.frz (k := 0) 4 rfl
      have z1 := HS.out.frz (k := 1) 4 rfl
      have z2 := HS.out.frz (k := 2) 4 rfl
      obtain ⟨WR, hWR⟩ : ∃ V, ((W.setCell ⟨gc, 0, none⟩ (.slice AL k cL)).setCell ⟨gc, 1, none⟩ (.slice AH k cH)).setCell ⟨gc, 2, none⟩ (.slice AK k cK) = V := ⟨_, rfl⟩
      have HSF := Lib.hid ((((HS.out.setBlk (k := 0) 4 rfl (.slice AL k cL)).setBlk (k := 1) 4 rfl (.slice AH k cH)).setBlk (k := 2) 4 rfl (.slice AK k cK)).atW hWR)
      have u0 := HSF.out.cell (k := 0) 4 rfl rfl
      have u1 := HSF.out.cell (k := 1) 4 rfl rfl
      have u2 := HSF.out.cell (k := 2) 4 rfl rfl
      go_wp2
      exact bodyPost_ret (v := .agg #[.slice AL k cL, .slice AH k cH, .slice AK k cK]) (by simp [results, Tryz.results54, go_sem, u0, u1, u2]) rfl ⟨_, fL ++ (fH ++ fK), rfl, rHouse_own_mk (HSF.out.sl 0 rfl) (HSF.out.sl 1 rfl) (HSF.out.sl 2 rfl), HSF.out.nd3, fun b hb => by
        rcases List.mem_append.1 hb with hb | hb
        · exact (HSF.out.new b (Mm.SepF.mem (i := 0) rfl hb)).resolve_left (fun h => by cases h)
        · rcases List.mem_append.1 hb with hb | hb
          · exact (HSF.out.new b (Mm.SepF.mem (i := 1) rfl hb)).resolve_left (fun h => by cases h)
          · exact (HSF.out.new b (Mm.SepF.mem (i := 2) rfl hb)).resolve_left (fun h => by cases h), HSF.out.bel0⟩
end Go.Proofs.YtbhmdnjammnlnaaGreatDoor

/-
  Contract: (*House).follow: the head of a part takes its next record. Conditions: those named (Tab).
-/
namespace Go.Proofs.YtbhmdnjammnlnaaGreatDoor
open Go.RowKit
attribute [local go_sem] und_cell cha_cell World.cell?_alloc_some
/-- a store behind a pointer, and what lies beside it -/
def HoSep (w0 w : World) (h : House) (gp : Nat) (rest : List Mm.Thing) : Prop :=
  ∃ (n : Nat) (AL : Option Addr) (cL : Nat) (fL : List Nat) (AH : Option Addr) (cH : Nat) (fH : List Nat) (AK : Option Addr) (cK : Nat) (fK : List Nat),
    Mm.SepF [] w0 w (Mm.tsl rLog 80 h.Logs (.slice AL n cL) fL :: Mm.tsl rHead 73 h.Heads (.slice AH n cH) fH :: Mm.tsl rHead 73 h.Kept (.slice AK n cK) fK :: Mm.tblk gp 27 [.slice AL n cL, .slice AH n cH, .slice AK n cK] :: rest)
theorem Mm.SlOwn.nlen {α : Type} {E : Mm.Rep α} {e : TypeId} {w : World} {xs : List α} {A : Option Addr} {n c : Nat} {fp : List Nat} (h : Mm.SlOwn E e w xs (.slice A n c) fp) : xs.length = n := by
  obtain ⟨_, _, _, hv, q1, _⟩ := h.form
  injection hv with _ q2 _
  exact (q2.trans q1).symm
/-- the part of a good store that a step works on -/
structure HoAt (h : House) (k : Nat) (g : Log) (a b : Head) (l : List Say) : Prop where
  lg : h.Logs[k]? = some g
  hd : h.Heads[k]? = some a
  kp : h.Kept[k]? = some b
  p : Pl.PartOk h.Logs.length k g a b l
  n3 : h.Logs.length ≤ 3
theorem Pl.PartOk.mo {n k : Nat} {g : Log} {hd kp : Head} {l : List Say} (h : Pl.PartOk n k g hd kp l) : 0 ≤ hd.Offset ∧ hd.Offset ≤ 60 := by
  have h1 := (h.hdf.ok h.sayOk (by have := h.len; omega)).2.1
  have := h.len
  have := h.head.off
  omega
set_option maxRecDepth 100000 in
set_option maxHeartbeats 4000000 in
theorem follow_c (h : House) (k gp Bt : Nat) (rest : List Mm.Thing) (g : Log) (a b : Head) (l : List Say) (at_ : HoAt h k g a b l) (w0 w : World) (ht : Tab Bt w0) (hs : HoSep w0 w h gp rest) :
    Calls Tryz.prog 112 #[.pointer (some ⟨gp, 0, none⟩), .int .i64 (k : Nat)] w fun e w' => e = .returned (.bool (Pl.followS h k).2) ∧ HoSep w0 w' (Pl.followS h k).1 gp rest := by
  obtain ⟨n, AL, cL, fL, AH, cH, fH, AK, cK, fK, hS⟩ := hs
  have HNN : Hid (h.Logs.length = n) := (hS.sl 0 rfl).nlen
  have HNH : Hid (h.Heads.length = n) := (hS.sl 1 rfl).nlen
  have hkn : k < n := by have := (List.getElem?_eq_some_iff.1 at_.lg).1; have := HNN.out; omega
  obtain ⟨gH, rfl, -, -⟩ := Mm.sl_addr (hS.sl 1 rfl) (by have := HNH.out; omega)
  have HS := Lib.hid hS
  have HA := Lib.hid at_
  have HW0 := Lib.hid ht
  clear hS at_ ht
  have p0 := HS.out.cell (k := 0) 3 rfl rfl
  have p1 := HS.out.cell (k := 1) 3 rfl rfl
  have fk0 : (0 : Int) ≤ (k : Nat) := by omega
  have fkt : ((k : Nat) : Int).toNat = k := by omega
  have fkn : (k : Int) < (n : Nat) := by omega
  obtain ⟨x, bX, oX, AP, mP, cP, hx, rfl, hbX, hrp, hbg, e0, e1⟩ := rLog_get (HS.out.rdSl 0 rfl) hkn
  obtain rfl : x = g := by have := HA.out.lg; rw [hx] at this; injection this
  have CA := logAll_c x.Pieces x.Begin AP mP cP w w.heap.size hrp (Nat.le_refl _) (by have := hrp.1; have := HA.out.p.log.len.2; omega) HA.out.p.log.sizes
  clear hx hrp hbg
  go_enter Tryz.func112, Tryz.ntmps112
  go_wp2_with fail
  refine CA.mono ?_
  rintro e w1 ⟨A5, m5, c5, f5, rfl, hm5, hS5⟩
  obtain ⟨W1, rfl⟩ : ∃ W : World, W = w1 := ⟨_, rfl⟩
  have HS1 := Lib.hid (HS.out.join hS5)
  have HM5 : Hid (m5 = (Pl.lRecs x.Pieces).length) := hm5
  clear CA p0 p1 e0 e1 hS5 hm5 HS
  obtain ⟨A6, m6, c6, q0, q1⟩ := rHead_ocell (HS1.out.sl 2 rfl) (HS1.out.ndat (i := 2) rfl) HA.out.hd
  clear q0
  have ho := HA.out.p.mo
  obtain ⟨m, hm⟩ : ∃ m : Nat, a.Offset = m := ⟨a.Offset.toNat, by omega⟩
  have HMO := Lib.hid hm
  have hm60 : m ≤ 60 := by omega
  rw [hm] at q1
  clear ho hm
  by_cases hc : m < m5
  · have hc1 : ¬ ((m5 : Nat) : Int) ≤ (m : Nat) := by omega
    have f2 : (0 : Int) ≤ (m : Nat) := by omega
    have f3 : ((m : Nat) : Int).toNat = m := by omega
    have f4 : (m : Int) < (m5 : Nat) := by omega
    obtain ⟨y, hy, hsay, hrec, hrd⟩ := Pl.sayAt_of HA.out.p (m := m) (by have := HM5.out; omega)
    have HF : Hid (Pl.followS h k = (⟨h.Logs, h.Heads.set k (Pl.takeS a y).1, h.Kept⟩, true)) := by
      show _ = _
      unfold Pl.followS
      rw [Pl.headK_of HA.out.hd, Pl.logK_of HA.out.lg, HMO.out, Int.toNat_natCast, hsay, if_pos (by have := HM5.out; omega)]
    have HRD := Lib.hid hrd
    have HTI : Hid (TakeIn y h.Heads n k a) := by
      have hyo := HA.out.p.sayOk y (List.mem_of_getElem? hy)
      have h1 := Pl.sayOk_bounds hyo
      have h2 := Pl.sayOk_name hyo
      exact ⟨HA.out.hd, HA.out.p.head.hw, by rw [HMO.out]; omega, by have := HNN.out; have := HA.out.n3; omega, by unfold maxLen; omega, by unfold Mm.I64; omega, by unfold Mm.I64; omega⟩
    obtain ⟨s, bs, os, cs0, hs, hA5, -, hat, hcell⟩ := (HS1.out.rdSl 0 rfl).get hc
    subst hA5
    obtain ⟨rfl, -⟩ := hat
    have r0 := hcell 0 _ rfl
    rw [show os + m * Mm.str.size + 0 = os + m from by show os + m * 1 + 0 = _; omega] at r0
    obtain rfl : s = Pl.sayTxt y := by rw [hs] at hrec; injection hrec
    obtain ⟨s, hsx⟩ : ∃ s, Pl.sayTxt y = s := ⟨_, rfl⟩
    rw [hsx] at r0 HRD hs
    have hs20 : s.size ≤ 20 := Pl.lRecs_size (List.mem_of_getElem? hs)
    have CR := readSay_c s hs20 Bt W1 (HW0.out.on HS1.out.bel0)
    clear hy hsay hrec hrd hs hcell hsx
    go_wp2_with fail
    refine CR.mono ?_
    rintro e w2 ⟨z, ok, rfl, hb2, hzi, hz⟩
    rw [HRD.out] at hz
    obtain ⟨rfl, rfl⟩ : ok = true ∧ z = y := by
      cases ok with
      | true => injection (by simpa using hz : some y = some z) with hz; exact ⟨rfl, hz.symm⟩
      | false => simp at hz
    obtain ⟨W2, rfl⟩ : ∃ W : World, W = w2 := ⟨_, rfl⟩
    have HS2 := Lib.hid (HS1.out.step hb2)
    clear CR q1 r0 hb2 hz hzi HS1 HRD
    obtain ⟨gs, hgs⟩ : ∃ g, W2.heap.size = g := ⟨_, rfl⟩
    obtain ⟨W3, hW3⟩ : ∃ W, W2.alloc (.cells #[.string z.Name, .int .i64 z.At, .int .i64 z.Value] 55) = W := ⟨_, rfl⟩
    have HS3 := Lib.hid ((HS2.out.alloc' hgs 55 [.string z.Name, .int .i64 z.At, .int .i64 z.Value]).atW hW3)
    go_upto_region 6 with fail
    clear hW3 hgs HS2
    have s0 := HS3.out.cell (k := 0) 0 rfl rfl
    have s1 := HS3.out.cell (k := 1) 0 rfl rfl
    have s2 := HS3.out.cell (k := 2) 0 rfl rfl
    have CT := take_c z h.Heads gH n cH k _ a W3 (HS3.out.sl 3 rfl) (HS3.out.ndat (i := 3) rfl) HTI.out
    go_wp2_with fail
    refine CT.mono ?_
    rintro e w4 ⟨rfl, fp', hS4⟩
    have HS4 := Lib.hid (HS3.out.call 3 rfl hS4.left)
    clear CT hS4 s0 s1 s2 HS3
    go_wp2
    go_ret
    rw [HF.out]
    exact ⟨rfl, n, _, cL, fL, _, cH, fp', AK, cK, fK, HS4.out.tail.tail⟩
  · have hc1 : ((m5 : Nat) : Int) ≤ (m : Nat) := by omega
    have HF : Hid (Pl.followS h k = (h, false)) := by
      show _ = _
      unfold Pl.followS
      rw [Pl.headK_of HA.out.hd, Pl.logK_of HA.out.lg, HMO.out, if_neg (by have := HM5.out; omega)]
    go_wp2
    go_ret
    rw [HF.out]
    exact ⟨rfl, n, _, cL, fL, _, cH, fH, AK, cK, fK, HS1.out.tail⟩
end Go.Proofs.YtbhmdnjammnlnaaGreatDoor

/-
  Plain: all heads take all records. Contract: (*House).catchUp. Conditions: those named (Tab).
-/
namespace Go.Proofs.YtbhmdnjammnlnaaGreatDoor
open Go.RowKit
attribute [local go_sem] und_cell cha_cell World.cell?_alloc_some
namespace Pl
end Pl
theorem Pl.HouseOk.at_ {h : House} (H : Pl.HouseOk h) {k : Nat} (hk : k < h.Logs.length) : ∃ g a b l, HoAt h k g a b l := by
  obtain ⟨g, a, b, l, h1, h2, h3, h4⟩ := H.ex hk
  exact ⟨g, a, b, l, h1, h2, h3, h4, H.n3⟩
end Go.Proofs.YtbhmdnjammnlnaaGreatDoor

/-
  Contract: the program's CatchUp. Conditions: those named (Tab).
-/
namespace Go.Proofs.YtbhmdnjammnlnaaGreatDoor
open Go.RowKit
attribute [local go_sem] und_cell cha_cell World.cell?_alloc_some
/-- a store as one thing, and as three -/
theorem Mm.SepF.hoShut {F : List Nat} {w0 w : World} {h : House} {A0 : Option Addr} {n0 c0 : Nat} {A1 : Option Addr} {n1 c1 : Nat} {A2 : Option Addr} {n2 c2 : Nat} {f0 f1 f2 : List Nat} {rest : List Mm.Thing}
    (k : Mm.SepF F w0 w (Mm.tsl rLog 80 h.Logs (.slice A0 n0 c0) f0 :: Mm.tsl rHead 73 h.Heads (.slice A1 n1 c1) f1 :: Mm.tsl rHead 73 h.Kept (.slice A2 n2 c2) f2 :: rest)) :
    Mm.SepF F w0 w (Mm.tow rHouse h [.slice A0 n0 c0, .slice A1 n1 c1, .slice A2 n2 c2] (f0 ++ (f1 ++ f2)) :: rest) := by
  refine k.conv (by simp [Mm.tow, Mm.tsl]) fun u hu => ?_
  rcases List.mem_cons.1 hu with rfl | hu
  · exact rHouse_own_mk (k.sl 0 rfl) (k.sl 1 rfl) (k.sl 2 rfl)
  · exact k.hold u (by simp [hu])
theorem Mm.SepF.hoOpen {F : List Nat} {w0 w : World} {h : House} {cs : List Value} {fp : List Nat} {rest : List Mm.Thing} (k : Mm.SepF F w0 w (Mm.tow rHouse h cs fp :: rest)) :
    ∃ A0 n0 c0 A1 n1 c1 A2 n2 c2 f0 f1 f2, cs = [.slice A0 n0 c0, .slice A1 n1 c1, .slice A2 n2 c2] ∧ h.Logs.length = n0 ∧ h.Heads.length = n1 ∧ h.Kept.length = n2 ∧
      Mm.SepF F w0 w (Mm.tsl rLog 80 h.Logs (.slice A0 n0 c0) f0 :: Mm.tsl rHead 73 h.Heads (.slice A1 n1 c1) f1 :: Mm.tsl rHead 73 h.Kept (.slice A2 n2 c2) f2 :: rest) := by
  obtain ⟨A0, n0, c0, A1, n1, c1, A2, n2, c2, f0, f1, f2, rfl, rfl, h0, h1, h2⟩ := rHouse_own (k.at_ 0 rfl)
  refine ⟨A0, n0, c0, A1, n1, c1, A2, n2, c2, f0, f1, f2, rfl, h0.nlen, h1.nlen, h2.nlen, k.conv (by simp [Mm.tow, Mm.tsl]) fun u hu => ?_⟩
  rcases List.mem_cons.1 hu with rfl | hu
  · exact h0
  · rcases List.mem_cons.1 hu with rfl | hu
    · exact h1
    · rcases List.mem_cons.1 hu with rfl | hu
      · exact h2
      · exact k.hold u (List.mem_cons_of_mem _ hu)
def zHo : House := ⟨[], [], []⟩
theorem zHo_own (w : World) : rHouse.own w zHo [.slice none 0 0, .slice none 0 0, .slice none 0 0] [] := by
  have h := rHouse_own_mk (w := w) (x := zHo) Mm.SlOwn.nil Mm.SlOwn.nil Mm.SlOwn.nil
  simpa using h
end Go.Proofs.YtbhmdnjammnlnaaGreatDoor

/-
  Contract: spec.l17Follow: the head of a part takes its next record, by value. No conditions beyond those named.
-/
namespace Go.Proofs.YtbhmdnjammnlnaaGreatDoor
open Go.RowKit
attribute [local go_sem] und_cell cha_cell World.cell?_alloc_some
/-- a store by value, and what lies beside it -/
def HoVal (w0 w : World) (h : House) (cs : List Value) (rest : List Mm.Thing) : Prop :=
  ∃ (n : Nat) (AL : Option Addr) (cL : Nat) (fL : List Nat) (AH : Option Addr) (cH : Nat) (fH : List Nat) (AK : Option Addr) (cK : Nat) (fK : List Nat), cs = [.slice AL n cL, .slice AH n cH, .slice AK n cK] ∧
    Mm.SepF [] w0 w (Mm.tsl rLog 80 h.Logs (.slice AL n cL) fL :: Mm.tsl rHead 73 h.Heads (.slice AH n cH) fH :: Mm.tsl rHead 73 h.Kept (.slice AK n cK) fK :: rest)
def gTk (h : Head) (x : Say) : Mm.Rel := fun _ _ v ds => ∃ A m d f, v = .tuple #[.agg #[.slice A m d, .int .i64 (h.Offset + 1)], .int .i64 (Pl.takeS h x).2] ∧ ds = [Mm.tsl rRow 139 (Pl.takeS h x).1.Rows (.slice A m d) f]
theorem gTk_in {h : Head} {x : Say} {vals : List Value} {tk : List Mm.Thing} : ∃ v ds, gTk h x vals tk v ds := ⟨_, _, none, 0, 0, [], rfl, rfl⟩
set_option maxRecDepth 100000 in
set_option maxHeartbeats 8000000 in
theorem l17Follow_c (h : House) (k : Nat) (rest : List Mm.Thing) (g : Log) (a b : Head) (l : List Say) (at_ : HoAt h k g a b l) (cs : List Value) (w0 w : World) (hs : HoVal w0 w h cs rest) :
    Calls Tryz.prog 80 #[.agg cs.toArray, .int .i64 (k : Nat)] w fun e w' => e = .returned (.tuple #[.agg cs.toArray, .bool (Pl.followS h k).2]) ∧ HoVal w0 w' (Pl.followS h k).1 cs rest := by
  obtain ⟨n, AL, cL, fL, AH, cH, fH, AK, cK, fK, rfl, hS⟩ := hs
  have HNN : Hid (h.Logs.length = n) := (hS.sl 0 rfl).nlen
  have HNH : Hid (h.Heads.length = n) := (hS.sl 1 rfl).nlen
  have hkn : k < n := by have := (List.getElem?_eq_some_iff.1 at_.lg).1; have := HNN.out; omega
  obtain ⟨gH, rfl, -, -⟩ := Mm.sl_addr (hS.sl 1 rfl) (by have := HNH.out; omega)
  have HA := Lib.hid at_
  have fk0 : (0 : Int) ≤ (k : Nat) := by omega
  have fkt : ((k : Nat) : Int).toNat = k := by omega
  have fkn : (k : Int) < (n : Nat) := by omega
  obtain ⟨gb, hgb⟩ : ∃ g, w.heap.size = g := ⟨_, rfl⟩
  obtain ⟨gz, hgz⟩ : ∃ g, gb + 1 = g := ⟨_, rfl⟩
  obtain ⟨W0, hW0⟩ : ∃ W, (w.alloc (.cells #[.slice AL n cL, .slice (some ⟨gH, 0, none⟩) n cH, .slice AK n cK] 27)).alloc (.cells #[.slice none 0 0, .slice none 0 0, .slice none 0 0] 27) = W := ⟨_, rfl⟩
  have HS := Lib.hid (((hS.alloc' hgb 27 [.slice AL n cL, .slice (some ⟨gH, 0, none⟩) n cH, .slice AK n cK]).alloc' (g := gz) (by rw [Mm.sz1, hgb, hgz]) 27 [.slice none 0 0, .slice none 0 0, .slice none 0 0]).atW hW0)
  clear hS at_
  have p0 := HS.out.cell (k := 0) 1 rfl rfl
  have p1 := HS.out.cell (k := 1) 1 rfl rfl
  obtain ⟨x, bX, oX, AP, mP, cP, hx, rfl, hbX, hrp, hbg, e0, e1⟩ := rLog_get (HS.out.rdSl 2 rfl) hkn
  obtain rfl : x = g := by have := HA.out.lg; rw [hx] at this; injection this
  have CA := l6All_c x [.slice AP mP cP, .int .i64 x.Begin] W0 W0.heap.size (rLog_at_mk hrp hbg) (Nat.le_refl _) HA.out.p.log HA.out.p.bg
  clear hx hrp hbg
  go_enter Tryz.func80, Tryz.ntmps80
  go_wp2_with fail
  refine CA.mono ?_
  rintro e w1 ⟨A5, m5, c5, f5, rfl, hm5, hS5⟩
  obtain ⟨W1, rfl⟩ : ∃ W : World, W = w1 := ⟨_, rfl⟩
  have HS1 := Lib.hid (HS.out.join hS5)
  have HM5 : Hid (m5 = (Pl.lRecs x.Pieces).length) := hm5
  clear CA p0 p1 e0 e1 hS5 hm5 HS hW0 hgb hgz
  obtain ⟨A6, m6, c6, q0, q1⟩ := rHead_ocell (HS1.out.sl 4 rfl) (HS1.out.ndat (i := 4) rfl) HA.out.hd
  clear q0
  have p1 := HS1.out.cell (k := 1) 2 rfl rfl
  have ho := HA.out.p.mo
  obtain ⟨m, hm⟩ : ∃ m : Nat, a.Offset = m := ⟨a.Offset.toNat, by omega⟩
  have HMO := Lib.hid hm
  have hm60 : m ≤ 60 := by omega
  rw [hm] at q1
  clear ho hm
  go_upto_region 3 with fail
  clear p1 q1
  by_cases hc : m < m5
  · have hc1 : ¬ ((m5 : Nat) : Int) ≤ (m : Nat) := by omega
    have f2 : (0 : Int) ≤ (m : Nat) := by omega
    have f3 : ((m : Nat) : Int).toNat = m := by omega
    have f4 : (m : Int) < (m5 : Nat) := by omega
    obtain ⟨y, hy, hsay, hrec, hrd⟩ := Pl.sayAt_of HA.out.p (m := m) (by have := HM5.out; omega)
    have HF : Hid (Pl.followS h k = (⟨h.Logs, h.Heads.set k (Pl.takeS a y).1, h.Kept⟩, true)) := by
      show _ = _
      unfold Pl.followS
      rw [Pl.headK_of HA.out.hd, Pl.logK_of HA.out.lg, HMO.out, Int.toNat_natCast, hsay, if_pos (by have := HM5.out; omega)]
    have HRD := Lib.hid hrd
    have HYI : Hid (y.Name.size ≤ maxLen ∧ Mm.I64 y.At ∧ Mm.I64 y.Value) := by
      have hyo := HA.out.p.sayOk y (List.mem_of_getElem? hy)
      have h1 := Pl.sayOk_bounds hyo
      have h2 := Pl.sayOk_name hyo
      exact ⟨by unfold maxLen; omega, by unfold Mm.I64; omega, by unfold Mm.I64; omega⟩
    obtain ⟨s, bs, os, cs0, hs, hA5, -, hat, hcell⟩ := (HS1.out.rdSl 0 rfl).get hc
    subst hA5
    obtain ⟨rfl, -⟩ := hat
    have r0 := hcell 0 _ rfl
    rw [show os + m * Mm.str.size + 0 = os + m from by show os + m * 1 + 0 = _; omega] at r0
    obtain rfl : s = Pl.sayTxt y := by rw [hs] at hrec; injection hrec
    obtain ⟨s, hsx⟩ : ∃ s, Pl.sayTxt y = s := ⟨_, rfl⟩
    rw [hsx] at r0 HRD hs
    have hs20 : s.size ≤ 20 := Pl.lRecs_size (List.mem_of_getElem? hs)
    have CR := l13Read_c s hs20 W1
    clear hy hsay hrec hrd hs hcell hsx
    go_wp2_with fail
    refine CR.mono ?_
    rintro e w2 ⟨z, ok, rfl, hb2, hzi, hz⟩
    rw [HRD.out] at hz
    obtain ⟨rfl, rfl⟩ : ok = true ∧ z = y := by
      cases ok with
      | true => injection (by simpa using hz : some y = some z) with hz; exact ⟨rfl, hz.symm⟩
      | false => simp at hz
    obtain ⟨W2, rfl⟩ : ∃ W : World, W = w2 := ⟨_, rfl⟩
    have HS2 := Lib.hid (HS1.out.step hb2)
    clear CR r0 hb2 hz hzi HS1 HRD
    obtain ⟨gs, hgs⟩ : ∃ g, W2.heap.size = g := ⟨_, rfl⟩
    obtain ⟨W3, hW3⟩ : ∃ W, W2.alloc (.cells #[.string z.Name, .int .i64 z.At, .int .i64 z.Value] 55) = W := ⟨_, rfl⟩
    have HS3 := Lib.hid ((HS2.out.alloc' hgs 55 [.string z.Name, .int .i64 z.At, .int .i64 z.Value]).atW hW3)
    go_upto_region 6 with fail
    clear hW3 hgs HS2
    have s0 := HS3.out.cell (k := 0) 0 rfl rfl
    have s1 := HS3.out.cell (k := 1) 0 rfl rfl
    have s2 := HS3.out.cell (k := 2) 0 rfl rfl
    have p1 := HS3.out.cell (k := 1) 3 rfl rfl
    obtain ⟨Ar, mr, dr, fx, t0, t1, hml, hso, hfn, hfs, -, hmain, -⟩ := HS3.out.headRows 5 rfl HA.out.hd
    have HMAIN := Lib.hid hmain
    have HSO := Lib.hid (And.intro hso hfn)
    have nS : gs ∉ fx := fun hh => HS3.out.apart (i := 0) (j := 5) rfl rfl (by decide) gs (by simp [Mm.tblk]) (hfs _ hh).1
    have nB : gb ∉ fx := fun hh => HS3.out.apart (i := 3) (j := 5) rfl rfl (by decide) gb (by simp [Mm.tblk]) (hfs _ hh).1
    have nH : gH ∉ fx := fun hh => (hfs _ hh).2 rfl
    have hgHl : gH < W3.heap.size := (HS3.out.sl 5 rfl).olt _ (HS3.out.sl 5 rfl).mem_block
    have hgBl : gb < W3.heap.size := (HS3.out.blk 3 rfl).1
    have zf := (HS3.out.sl 5 rfl).frozen
    have HHW := Lib.hid HA.out.p.head.hw
    have ho2 : 0 ≤ a.Offset ∧ a.Offset ≤ 1000000 := by rw [HMO.out]; omega
    have HO2 := Lib.hid ho2
    have HZF := Lib.hid zf
    clear hmain hso hfn hfs hml ho2 zf
    refine Mm.wp_region_give 12 (fun i => match i with | 6 => some (gTk a z) | 10 => some (Mm.gPtr 73 [.slice none 0 0, .int .i64 0]) | 11 => some (Mm.gSto 73) | _ => none) (fun i => match i with | 6 => [13] | 11 => [10] | _ => []) (fun i => match i with | 13 => [Mm.tsl rRow 139 a.Rows (.slice Ar mr dr) fx] | _ => []) (F := fx) (D := fun w' => ∃ q : Cha fx W3, w' = cha fx W3 q) (fun X us h => Mm.sep_cha h) (by kernel_rfl) (by kernel_rfl) (by kernel_rfl) (Mm.sep_eq ((Mm.SepF.one (Mm.tsl rRow 139 a.Rows (.slice Ar mr dr) fx) W3 HSO.out.1 HSO.out.2).step (Below.refl _ _).drew) rfl) ?_
    repeat (refine Mm.give_det (by rfl) (by rfl) (by rfl) (fun K hK => ?_); go_big_quiet_op; refine hK _ ?_; clear hK K)
    refine Mm.give_op1 44 13 (by rfl) rfl (by rfl) (by rfl) (by rfl) rfl (by rfl) _ rfl gTk_in (fun others X hX => ?_) ?_
    · go_wp2_with (go_at_call 128; refine (l13Take_c a z Ar mr dr fx X (hX.sl 0 rfl) (hX.ndat (i := 0) rfl) HHW.out HO2.out HYI.out.1 HYI.out.2.1 HYI.out.2.2).mono ?_; rintro e w5 ⟨A2, m2, d2, f2, rfl, hS9⟩)
      exact ⟨rfl, rfl, _, ⟨A2, m2, d2, f2, rfl, rfl⟩, hX.call 0 rfl hS9.left⟩
    rintro v ds ⟨A2, m2, d2, fr, rfl, rfl⟩
    simp only [Act.put, List.setIfInBounds_toArray, List.set_cons_succ, List.set_cons_zero]
    repeat (refine Mm.give_det (by rfl) (by rfl) (by rfl) (fun K hK => ?_); go_big_quiet_op; refine hK _ ?_; clear hK K)
    refine Mm.give_op0 10 (by rfl) rfl (by rfl) (by rfl) (by rfl) (by rfl) Mm.gPtr_in (fun others X hX => ?_) ?_
    · go_wp2
      exact Mm.gvq_ptr hX rfl rfl rfl
    rintro v ds ⟨gy, rfl, rfl⟩
    simp only [Act.put, List.setIfInBounds_toArray, List.set_cons_succ, List.set_cons_zero]
    refine Mm.give_store 73 gy [.slice none 0 0, .int .i64 0] [.slice A2 m2 d2, .int .i64 (a.Offset + 1)] 10 (by rfl) rfl rfl (by rfl) rfl (by rfl) rfl rfl (fun others X hX => ?_) ?_
    · have y0 := hX.cell (k := 0) 0 rfl rfl
      have y1 := hX.cell (k := 1) 0 rfl rfl
      have x0 := hX.frz (k := 0) 0 rfl
      have x1 := hX.frz (k := 1) 0 rfl
      have hX9 := (hX.setBlk (k := 0) 0 rfl (.slice A2 m2 d2)).setBlk (k := 1) 0 rfl (.int .i64 (a.Offset + 1))
      go_wp2
      exact ⟨rfl, rfl, _, rfl, hX9⟩
    refine Mm.give_nil ?_
    rintro X2 hX
    have HX2 : Hid (Mm.SepF fx W3 X2 [Mm.tsl rRow 139 (Pl.takeS a z).1.Rows (.slice A2 m2 d2) fr, Mm.tblk gy 73 [.slice A2 m2 d2, .int .i64 (a.Offset + 1)]]) := Mm.sep_eq hX rfl
    clear hX s0 s1 s2 p1 t0 t1
    go_upto_region 7 with fail
    have y0 := HX2.out.cell (k := 0) 1 rfl rfl
    have y1 := HX2.out.cell (k := 1) 1 rfl rfl
    have p1 := (World.cell?_of_block (a := ⟨gb, 1, none⟩) (HX2.out.chg.block gb hgBl nB)).trans (HS3.out.cell (k := 1) 3 rfl rfl)
    obtain ⟨A7, m7, c7, v0, v1⟩ := rHead_ocell (HS3.out.sl 5 rfl) (HS3.out.ndat (i := 5) rfl) HA.out.hd
    have t0 := (World.cell?_of_block (a := ⟨gH, k * 2, none⟩) (HX2.out.chg.block gH hgHl nH)).trans v0
    have t1 := (World.cell?_of_block (a := ⟨gH, k * 2 + 1, none⟩) (HX2.out.chg.block gH hgHl nH)).trans v1
    have z0 := (World.frozen?_of_block (a := ⟨gH, k * 2, none⟩) (HX2.out.chg.block gH hgHl nH)).trans (HZF.out _)
    have z1 := (World.frozen?_of_block (a := ⟨gH, k * 2 + 1, none⟩) (HX2.out.chg.block gH hgHl nH)).trans (HZF.out _)
    clear v0 v1
    obtain ⟨fp', hM⟩ := HMAIN.out X2 _ A2 m2 d2 fr (HX2.out.sel [0] (by decide) rfl)
    have hM2 := hM.headOff (k := k) (v := a.Offset + 1) 5 rfl (List.getElem?_set_self (List.getElem?_eq_some_iff.1 HA.out.hd).1) (by have := HO2.out; unfold Mm.I64; omega)
    have hE : (⟨(Pl.takeS a z).1.Rows, a.Offset + 1⟩ : Head) = (Pl.takeS a z).1 := by rw [← Pl.takeS_off a z]
    obtain ⟨X3, hX3⟩ : ∃ W, (X2.setCell ⟨gH, k * 2, none⟩ (.slice A2 m2 d2)).setCell ⟨gH, k * 2 + 1, none⟩ (.int .i64 (a.Offset + 1)) = W := ⟨_, rfl⟩
    have HS7 := Lib.hid (hM2.atW hX3)
    clear hM hM2
    go_upto_region 8 with fail
    clear hX3 y0 y1 p1 t0 t1 z0 z1
    have HS8 : Hid (Mm.SepF [] w0 X3 (Mm.tblk gs 55 [.string z.Name, .int .i64 z.At, .int .i64 z.Value] :: Mm.tsl Mm.str 9 (Pl.lRecs x.Pieces) (.slice (some ⟨bs, os, none⟩) m5 c5) f5 :: Mm.tblk gz 27 [.slice none 0 0, .slice none 0 0, .slice none 0 0] :: Mm.tblk gb 27 [.slice (some ⟨bX, oX, none⟩) n cL, .slice (some ⟨gH, 0, none⟩) n cH, .slice AK n cK] :: Mm.tsl rLog 80 h.Logs (.slice (some ⟨bX, oX, none⟩) n cL) fL :: Mm.tsl rHead 73 (h.Heads.set k (Pl.takeS a z).1) (.slice (some ⟨gH, 0, none⟩) n cH) fp' :: Mm.tsl rHead 73 h.Kept (.slice AK n cK) fK :: rest)) := by
      have h9 := HS7.out
      simp only [List.set_cons_zero, List.set_cons_succ, List.cons_append, List.nil_append, List.set_set, hE] at h9
      exact h9
    clear HS7 hE
    have p0 := HS8.out.cell (k := 0) 3 rfl rfl
    have p1 := HS8.out.cell (k := 1) 3 rfl rfl
    have p2 := HS8.out.cell (k := 2) 3 rfl rfl
    obtain ⟨WR, hWR⟩ : ∃ V, ((X3.setCell ⟨gz, 0, none⟩ (.slice (some ⟨bX, oX, none⟩) n cL)).setCell ⟨gz, 1, none⟩ (.slice (some ⟨gH, 0, none⟩) n cH)).setCell ⟨gz, 2, none⟩ (.slice AK n cK) = V := ⟨_, rfl⟩
    have HSF := Lib.hid ((((HS8.out.setBlk (k := 0) 2 rfl (.slice (some ⟨bX, oX, none⟩) n cL)).setBlk (k := 1) 2 rfl (.slice (some ⟨gH, 0, none⟩) n cH)).setBlk (k := 2) 2 rfl (.slice AK n cK)).atW hWR)
    have u0 := HSF.out.cell (k := 0) 2 rfl rfl
    have u1 := HSF.out.cell (k := 1) 2 rfl rfl
    have u2 := HSF.out.cell (k := 2) 2 rfl rfl
    have z0 := HS8.out.cell (k := 0) 2 rfl rfl
    have z1 := HS8.out.cell (k := 1) 2 rfl rfl
    have z2 := HS8.out.cell (k := 2) 2 rfl rfl
    have y0 := HS8.out.frz (k := 0) 2 rfl
    have y1 := HS8.out.frz (k := 1) 2 rfl
    have y2 := HS8.out.frz (k := 2) 2 rfl
    go_wp2
    rw [HF.out]
    exact bodyPost_ret (v := .tuple #[.agg #[.slice (some ⟨bX, oX, none⟩) n cL, .slice (some ⟨gH, 0, none⟩) n cH, .slice AK n cK], .bool true]) (by simp [results, Tryz.results80, go_sem, u0, u1, u2]) rfl ⟨rfl, n, _, cL, fL, _, cH, fp', AK, cK, fK, rfl, HSF.out.tail.tail.tail.tail⟩
  · have hc1 : ((m5 : Nat) : Int) ≤ (m : Nat) := by omega
    have HF : Hid (Pl.followS h k = (h, false)) := by
      show _ = _
      unfold Pl.followS
      rw [Pl.headK_of HA.out.hd, Pl.logK_of HA.out.lg, HMO.out, if_neg (by have := HM5.out; omega)]
    have p0 := HS1.out.cell (k := 0) 2 rfl rfl
    have p1 := HS1.out.cell (k := 1) 2 rfl rfl
    have p2 := HS1.out.cell (k := 2) 2 rfl rfl
    obtain ⟨WR, hWR⟩ : ∃ V, ((W1.setCell ⟨gz, 0, none⟩ (.slice (some ⟨bX, oX, none⟩) n cL)).setCell ⟨gz, 1, none⟩ (.slice (some ⟨gH, 0, none⟩) n cH)).setCell ⟨gz, 2, none⟩ (.slice AK n cK) = V := ⟨_, rfl⟩
    have HSF := Lib.hid ((((HS1.out.setBlk (k := 0) 1 rfl (.slice (some ⟨bX, oX, none⟩) n cL)).setBlk (k := 1) 1 rfl (.slice (some ⟨gH, 0, none⟩) n cH)).setBlk (k := 2) 1 rfl (.slice AK n cK)).atW hWR)
    have u0 := HSF.out.cell (k := 0) 1 rfl rfl
    have u1 := HSF.out.cell (k := 1) 1 rfl rfl
    have u2 := HSF.out.cell (k := 2) 1 rfl rfl
    have z0 := HS1.out.cell (k := 0) 1 rfl rfl
    have z1 := HS1.out.cell (k := 1) 1 rfl rfl
    have z2 := HS1.out.cell (k := 2) 1 rfl rfl
    have y0 := HS1.out.frz (k := 0) 1 rfl
    have y1 := HS1.out.frz (k := 1) 1 rfl
    have y2 := HS1.out.frz (k := 2) 1 rfl
    go_wp2
    rw [HF.out]
    exact bodyPost_ret (v := .tuple #[.agg #[.slice (some ⟨bX, oX, none⟩) n cL, .slice (some ⟨gH, 0, none⟩) n cH, .slice AK n cK], .bool false]) (by simp [results, Tryz.results80, go_sem, u0, u1, u2]) rfl ⟨rfl, n, _, cL, fL, _, cH, fH, AK, cK, fK, rfl, HSF.out.tail.tail.tail⟩
end Go.Proofs.YtbhmdnjammnlnaaGreatDoor

/-
  Contract: the reference's CatchUp. No conditions beyond those named.
-/
namespace Go.Proofs.YtbhmdnjammnlnaaGreatDoor
open Go.RowKit
attribute [local go_sem] und_cell cha_cell World.cell?_alloc_some
theorem HoSep.val {w0 w : World} {h : House} {gp : Nat} {rest : List Mm.Thing} (k : HoSep w0 w h gp rest) : ∃ (n : Nat) (AL : Option Addr) (cL : Nat) (AH : Option Addr) (cH : Nat) (AK : Option Addr) (cK : Nat), HoVal w0 w h [.slice AL n cL, .slice AH n cH, .slice AK n cK] (Mm.tblk gp 27 [.slice AL n cL, .slice AH n cH, .slice AK n cK] :: rest) := by
  obtain ⟨n, AL, cL, fL, AH, cH, fH, AK, cK, fK, hS⟩ := k
  exact ⟨n, AL, cL, AH, cH, AK, cK, n, AL, cL, fL, AH, cH, fH, AK, cK, fK, rfl, hS⟩
theorem HoVal.sep {w0 w : World} {h : House} {n : Nat} {AL : Option Addr} {cL : Nat} {AH : Option Addr} {cH : Nat} {AK : Option Addr} {cK : Nat} {rest : List Mm.Thing} (k : HoVal w0 w h [.slice AL n cL, .slice AH n cH, .slice AK n cK] rest) :
    ∃ fL fH fK, Mm.SepF [] w0 w (Mm.tsl rLog 80 h.Logs (.slice AL n cL) fL :: Mm.tsl rHead 73 h.Heads (.slice AH n cH) fH :: Mm.tsl rHead 73 h.Kept (.slice AK n cK) fK :: rest) := by
  obtain ⟨n', AL', cL', fL, AH', cH', fH, AK', cK', fK, hcs, hS⟩ := k
  simp only [List.cons.injEq, Value.slice.injEq, and_true] at hcs
  obtain ⟨⟨rfl, rfl, rfl⟩, ⟨rfl, -, rfl⟩, rfl, -, rfl⟩ := hcs
  exact ⟨fL, fH, fK, hS⟩
end Go.Proofs.YtbhmdnjammnlnaaGreatDoor

/-
  Memory: an element of a slice of logs or of heads is put anew. Contract: (*House).step. Conditions: those named (Tab).
-/
namespace Go.Proofs.YtbhmdnjammnlnaaGreatDoor
open Go.RowKit
attribute [local go_sem] und_cell cha_cell World.cell?_alloc_some
theorem putLogEl {F : List Nat} {w0 W X : World} {ts : List Mm.Thing} {xs : List Log} {fp f : List Nat} {gl n c k : Nat} {x y : Log} {A : Option Addr} {n' c' : Nat} (h : Mm.SepF F w0 W ts) (i : Nat) (hi : ts[i]? = some (Mm.tsl rLog 80 xs (.slice (some ⟨gl, 0, none⟩) n c) fp)) (hk : xs[k]? = some x)
    (hX : Mm.SepF [] W X [Mm.tow rLog y [.slice A n' c', .int .i64 y.Begin] f]) :
    ∃ fp', Mm.SepF F w0 ((X.setCell ⟨gl, k * 2, none⟩ (.slice A n' c')).setCell ⟨gl, k * 2 + 1, none⟩ (.int .i64 y.Begin)) (ts.set i (Mm.tsl rLog 80 (xs.set k y) (.slice (some ⟨gl, 0, none⟩) n c) fp')) := by
  have hy : rLog.own X y _ f := hX.at_ 0 rfl
  have hyx := rLog_own hy
  obtain ⟨A1, n1, c1, f1, h1, rfl, g0, g1⟩ := hyx
  simp only [List.cons.injEq, Value.slice.injEq, and_true, true_and] at h1
  obtain ⟨rfl, rfl, rfl⟩ := h1
  obtain ⟨cs, fx, ho, hfn, hfs, hc, hnext⟩ := h.swap i hi hk
  obtain ⟨A2, n2, c2, f2, rfl, rfl, q0, q1⟩ := rLog_own ho
  have hnew : ∀ b, b ∈ f → b ∈ fx ∨ W.heap.size ≤ b := fun b hb => .inr ((hX.new b (by simpa [Mm.tow] using hb)).resolve_left (fun h => by cases h))
  obtain ⟨fp1, hs1⟩ := hnext X ⟨y.Pieces, x.Begin⟩ 0 (.slice A n' c') f (hX.chg.more (fun b hb => by cases hb)) (by decide) (rLog_own_mk (x := ⟨y.Pieces, x.Begin⟩) g0 q1) (by simpa [Mm.tow] using hX.nd) hnew
  rw [show k * rLog.size + 0 = k * 2 from rfl] at hs1
  have hlt := (List.getElem?_eq_some_iff.1 hk).1
  have hil := (List.getElem?_eq_some_iff.1 hi).1
  have hs2 := hs1.putSl (k := k) (m := 1) (u := .int .i64 y.Begin) (x := ⟨y.Pieces, x.Begin⟩) (x' := ⟨y.Pieces, y.Begin⟩) i (List.getElem?_set_self hil) (List.getElem?_set_self hlt) (by decide) (fun cs fx ho => by
    obtain ⟨A9, n9, c9, f9, rfl, rfl, r0, r1⟩ := rLog_own ho
    exact rLog_own_mk (x := ⟨y.Pieces, y.Begin⟩) r0 g1)
  rw [show k * rLog.size + 1 = k * 2 + 1 from rfl] at hs2
  rw [List.set_set, List.set_set] at hs2
  exact ⟨_, hs2⟩
theorem putHeadEl {F : List Nat} {w0 W X : World} {ts : List Mm.Thing} {xs : List Head} {fp f : List Nat} {gl n c k : Nat} {x y : Head} {A : Option Addr} {n' c' : Nat} (h : Mm.SepF F w0 W ts) (i : Nat) (hi : ts[i]? = some (Mm.tsl rHead 73 xs (.slice (some ⟨gl, 0, none⟩) n c) fp)) (hk : xs[k]? = some x)
    (hX : Mm.SepF [] W X [Mm.tow rHead y [.slice A n' c', .int .i64 y.Offset] f]) :
    ∃ fp', Mm.SepF F w0 ((X.setCell ⟨gl, k * 2, none⟩ (.slice A n' c')).setCell ⟨gl, k * 2 + 1, none⟩ (.int .i64 y.Offset)) (ts.set i (Mm.tsl rHead 73 (xs.set k y) (.slice (some ⟨gl, 0, none⟩) n c) fp')) := by
  have hy : rHead.own X y _ f := hX.at_ 0 rfl
  have hyx := rHead_own hy
  obtain ⟨A1, n1, c1, f1, h1, rfl, g0, g1⟩ := hyx
  simp only [List.cons.injEq, Value.slice.injEq, and_true, true_and] at h1
  obtain ⟨rfl, rfl, rfl⟩ := h1
  obtain ⟨cs, fx, ho, hfn, hfs, hc, hnext⟩ := h.swap i hi hk
  obtain ⟨A2, n2, c2, f2, rfl, rfl, q0, q1⟩ := rHead_own ho
  have hnew : ∀ b, b ∈ f → b ∈ fx ∨ W.heap.size ≤ b := fun b hb => .inr ((hX.new b (by simpa [Mm.tow] using hb)).resolve_left (fun h => by cases h))
  obtain ⟨fp1, hs1⟩ := hnext X ⟨y.Rows, x.Offset⟩ 0 (.slice A n' c') f (hX.chg.more (fun b hb => by cases hb)) (by decide) (rHead_own_mk (x := ⟨y.Rows, x.Offset⟩) g0 q1) (by simpa [Mm.tow] using hX.nd) hnew
  rw [show k * rHead.size + 0 = k * 2 from rfl] at hs1
  have hlt := (List.getElem?_eq_some_iff.1 hk).1
  have hil := (List.getElem?_eq_some_iff.1 hi).1
  have hs2 := hs1.putSl (k := k) (m := 1) (u := .int .i64 y.Offset) (x := ⟨y.Rows, x.Offset⟩) (x' := ⟨y.Rows, y.Offset⟩) i (List.getElem?_set_self hil) (List.getElem?_set_self hlt) (by decide) (fun cs fx ho => by
    obtain ⟨A9, n9, c9, f9, rfl, rfl, r0, r1⟩ := rHead_own ho
    exact rHead_own_mk (x := ⟨y.Rows, y.Offset⟩) r0 g1)
  rw [show k * rHead.size + 1 = k * 2 + 1 from rfl] at hs2
  rw [List.set_set, List.set_set] at hs2
  exact ⟨_, hs2⟩
theorem Tryz.stoodSay : Tryz.prog.stoodInHeld 55 = false := by kernel_rfl
theorem run_neSay (x : Say) (W : World) : (binOp .neq 55 (.agg #[.string x.Name, .int .i64 x.At, .int .i64 x.Value]) (.agg #[.string ⟨#[]⟩, .int .i64 0, .int .i64 0])).run Tryz.prog W = .ok (.bool (!Pl.noSay x)) W := by
  have ht : Tryz.prog.underlying 55 = some (.struct (Tryz.prog.fieldsOf 55)) := by simp [Program.fieldsOf, Tryz.underlying55]
  rw [run_neq_struct, run_equalIn_agg _ _ _ _ _ ht Tryz.stoodSay]
  have hq : (x.Name.toList == (⟨#[]⟩ : ByteArray).toList) = decide (x.Name.size = 0) := by
    have h4 := isEmpty_bytes x.Name
    have h5 : (⟨#[]⟩ : ByteArray).toList = [] := by rw [Lib.toList_data]
    rw [h5, ← h4]
    cases x.Name.toList <;> rfl
  have h3 : Pl.noSay x = ((x.Name.toList == (⟨#[]⟩ : ByteArray).toList) && decide (x.At = 0) && decide (x.Value = 0)) := by rw [hq]; rfl
  rw [h3]
  cases h0 : (x.Name.toList == (⟨#[]⟩ : ByteArray).toList) <;> cases h1 : decide (x.At = 0) <;> cases h2 : decide (x.Value = 0) <;>
    simp [Program.fieldsOf, Tryz.underlying55, Op.eqFields, go_sem] <;> simp_all
end Go.Proofs.YtbhmdnjammnlnaaGreatDoor

