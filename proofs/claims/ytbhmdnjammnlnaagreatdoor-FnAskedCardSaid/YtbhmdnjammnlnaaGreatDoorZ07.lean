/-
  Joined texts, in build order: Jr, Js, Jt, Ju, Rw, K9, Ka, Kb. Each part says what it proves; no conditions beyond those that a part names.
-/
import Derived.Test.YtbhmdnjammnlnaaGreatDoorZ02
import Derived.Test.YtbhmdnjammnlnaaGreatDoorZ03
import Derived.Test.YtbhmdnjammnlnaaGreatDoorZ06
set_option linter.unusedVariables false
set_option linter.unusedSimpArgs false
namespace Go.Proofs.YtbhmdnjammnlnaaGreatDoor
open Go.RowKit
attribute [local go_sem] und_cell cha_cell World.cell?_alloc_some
theorem Pl.records_get {s : ByteArray} {k : Nat} {p : Nat × Nat} (h : (Pl.recs s)[k]? = some p) : (Pl.records s)[k]? = some (s.extract (p.1 + 1) (p.1 + 1 + p.2)) := by
  unfold Pl.records
  rw [List.getElem?_map, h]; rfl
theorem Pl.starts_get {s : ByteArray} {k : Nat} {a : Int} (h : (Pl.starts s)[k]? = some a) : ∃ p, (Pl.recs s)[k]? = some p ∧ a = (p.1 : Int) := by
  unfold Pl.starts at h
  rw [List.getElem?_map] at h
  obtain ⟨p, hp, rfl⟩ := Option.map_eq_some_iff.1 h
  exact ⟨p, hp, rfl⟩
theorem Tryz.infoStR : (Tryz.prog.info? 9).map (fun i => (i.zero, i.size, i.bytes)) = some (some (.string ByteArray.empty), 1, 16) := by kernel_rfl
set_option maxRecDepth 100000 in
set_option maxHeartbeats 2000000 in
theorem l6Records_c (p : Piece) (A : Option Addr) (n c : Nat) (w : World) (hs : p.Bytes.size ≤ 1000) :
    Calls Tryz.prog 165 #[.agg #[.int .i64 p.From, .string p.Bytes, .slice A n c]] w (AllAns (Pl.records p.Bytes) w) := by
  obtain ⟨fr, s, l⟩ := p
  dsimp only at hs ⊢
  obtain ⟨iP, qP, qP0, qP1, qP2⟩ := info_parts Tryz.infoStR
  obtain ⟨ga, hga⟩ : ∃ g, w.heap.size = g := ⟨_, rfl⟩
  obtain ⟨W0, hW0⟩ : ∃ W, w.alloc (.cells #[.int .i64 fr, .string s, .slice A n c] 164) = W := ⟨_, rfl⟩
  have KS0 := Lib.hid (((Mm.SepF.start w).alloc' hga 164 [.int .i64 fr, .string s, .slice A n c]).atW hW0)
  have d1 := KS0.out.cell (k := 1) 0 rfl rfl
  have CS := l6Starts_c s (by omega) W0
  go_enter Tryz.func165, Tryz.ntmps165
  go_wp2_with fail
  refine CS.mono ?_
  rintro e w1 ⟨A1, n1, c1, f1, rfl, hn1, hs1⟩
  obtain ⟨W1, rfl⟩ : ∃ W : World, W = w1 := ⟨_, rfl⟩
  have KS1 := Lib.hid (KS0.out.join hs1)
  have HN1 : Hid (n1 = (Pl.recs s).length) := hn1
  have hn1b : n1 ≤ 1000 := by have := Pl.recs_len s; omega
  clear CS d1 hs1 hn1 KS0 hW0 hga
  go_upto_region 4 with fail
  go_loopg [3, 18] n1 (fun gg o_ i_ wr => ∃ (k : Nat) (A' : Option Addr) (c' : Nat) (fq : List Nat), n1 - k ≤ gg ∧ k ≤ n1 ∧ i_ = .int .i64 (k : Nat) ∧ o_ = .slice A' k c' ∧ Hid (Mm.SepF [] w wr [Mm.tsl Mm.str 9 ((Pl.records s).take k) (.slice A' k c') fq, Mm.tsl Mm.int 3 (Pl.starts s) (.slice A1 n1 c1) f1, Mm.tblk ga 164 [.int .i64 fr, .string s, .slice A n c]]))
  case atStart => exact ⟨0, none, 0, [], by omega, by omega, rfl, rfl, KS1.out.add (Below.refl _ _) Mm.SlOwn.nil List.nodup_nil (fun b hb => by cases hb)⟩
  case round =>
    clear KS1
    obtain ⟨k, A', c', fq, hgk, hk, rfl, rfl, HS⟩ := hrel
    obtain ⟨W, rfl⟩ : ∃ W : World, W = wr := ⟨_, rfl⟩
    by_cases hlt : k < n1
    · have fc : (k : Int) < (n1 : Nat) := by omega
      obtain ⟨a, bb, off, cs0, ha, hA, -, hat, hc⟩ := (HS.out.rdSl 1 rfl).get hlt
      subst hA
      obtain ⟨rfl, -⟩ := hat
      have c0 := hc 0 _ rfl
      rw [show off + k * Mm.int.size + 0 = off + k from by show off + k * 1 + 0 = _; omega] at c0
      obtain ⟨p, hp, rfl⟩ := Pl.starts_get ha
      have hrl := Pl.recs_mem (List.mem_of_getElem? hp)
      have hbd := Pl.recs_bound (List.mem_of_getElem? hp)
      have HRG := Lib.hid (Pl.records_get hp)
      obtain ⟨p1, p2⟩ := p
      dsimp only at c0 hrl hbd HRG
      have CG := l1Get_c s p1 (by omega) (by omega) W
      have d1 := HS.out.cell (k := 1) 2 rfl rfl
      clear hc ha hp
      go_wp2_with fail
      refine CG.mono ?_
      rintro e w3 ⟨gn, gx, rfl, hG, hb3⟩
      obtain ⟨W3, rfl⟩ : ∃ W : World, W = w3 := ⟨_, rfl⟩
      have hG2 : gn = (p2 : Int) ∧ gx = ((p1 : Nat) : Int) + 1 := by
        obtain ⟨-, -, -, h4⟩ := hG
        rcases h4 with ⟨m, hm, h5, h6⟩ | ⟨hno, -⟩
        · rw [hrl] at hm
          injection hm with hm
          subst hm
          exact ⟨h5, h6⟩
        · rw [hrl] at hno; cases hno
      obtain ⟨rfl, rfl⟩ := hG2
      have KS3 := Lib.hid (HS.out.step hb3)
      clear CG c0 d1 hb3 hG hrl HS
      have d1 := KS3.out.cell (k := 1) 2 rfl rfl
      obtain ⟨tx, htx⟩ : ∃ t, s.extract (p1 + 1) (p1 + 1 + p2) = t := ⟨_, rfl⟩
      have htl : tx.size ≤ maxLen := by rw [← htx, ByteArray.size_extract]; unfold maxLen; omega
      rw [htx] at HRG
      have hkl : ((Pl.records s).take k).length = k := by rw [List.length_take]; have := HN1.out; have := Pl.recs_records s; omega
      have hbd1 := hbd.1
      clear hbd
      go_wp2_with (at_builtin; refine Mm.app_list (x := tx) KS3.out 0 rfl rfl (.tmp 29) (.tmp 37) 142 rfl iP _ 16 Tryz.underlying142 qP qP0 qP1 qP2 rfl (by decide) rfl rfl (fun W => ⟨rfl, htl, rfl⟩) hkl (by unfold maxLen; omega) (by omega) ?_; intro g cap w' fp' hs4; (have HS4 := Lib.hid hs4); clear hs4)
      go_roundg (n1 - (k + 1))
      case measure => omega
      case rel => exact ⟨k + 1, _, cap, fp', Nat.le_refl _, by omega, by go_num, rfl, by rw [List.take_add_one, HRG.out]; exact HS4.out.sel [0, 1, 2] (by decide) rfl⟩
    · obtain rfl : k = n1 := by omega
      have fc : ¬ ((k : Nat) : Int) < (k : Nat) := by omega
      have HE : Hid ((Pl.records s).take k = Pl.records s) := List.take_of_length_le (by have := HN1.out; have := Pl.recs_records s; omega)
      have HKL : Hid (k = (Pl.records s).length) := HN1.out.trans (Pl.recs_records s)
      go_wp2
      go_ret
      exact ⟨A', k, c', fq, rfl, HKL.out, by rw [HE.out] at HS; exact HS.out.sel [0] (by decide) rfl⟩
set_option maxRecDepth 100000 in
set_option maxHeartbeats 4000000 in
theorem l6All_c (g : Log) (cs : List Value) (w : World) (B : Nat) (hg : rLog.at_ w B g cs) (hB : B ≤ w.heap.size) (hok : Pl.LogOk g) (hb0 : g.Begin = 0) :
    Calls Tryz.prog 125 #[.agg cs.toArray] w (AllAns (Pl.lRecs g.Pieces) w) := by
  obtain ⟨A, n, c, rfl, hr, -⟩ := rLog_at hg
  obtain ⟨ps, bg⟩ := g
  dsimp only at hr hb0 ⊢
  subst hb0
  obtain ⟨iP, qP, qP0, qP1, qP2⟩ := info_parts Tryz.infoStR
  have HR0 := Lib.hid hr
  have HOK := Lib.hid hok
  have HLEN : Hid (ps.length = n) := hr.1
  have hn20 : n ≤ 20 := by have h1 : ps.length ≤ 20 := hok.len.2; have := hr.1; omega
  have hf0 : 0 ≤ Pl.from0 ps := hok.from0.1
  have hf1 : Pl.from0 ps ≤ 100000 := hok.from0.2
  have hml : (Pl.lRecs ps).length ≤ 60 := hok.sum
  have HML := Lib.hid hml
  obtain ⟨f0, hff⟩ : ∃ f, Pl.from0 ps = f := ⟨_, rfl⟩
  rw [hff] at hf0 hf1
  have HF0 := Lib.hid hff
  clear hr hg hok hml hff
  obtain ⟨ga, hga⟩ : ∃ g, w.heap.size = g := ⟨_, rfl⟩
  obtain ⟨W0, hW0⟩ : ∃ W, w.alloc (.cells #[.slice A n c, .int .i64 0] 80) = W := ⟨_, rfl⟩
  have KS0 := Lib.hid (((Mm.SepF.start w).alloc' hga 80 [.slice A n c, .int .i64 0]).atW hW0)
  have d0 := KS0.out.cell (k := 0) 0 rfl rfl
  have HBW := Lib.hid hB
  go_enter Tryz.func125, Tryz.ntmps125
  go_upto_region 3 with fail
  clear d0 hW0 hga hB
  go_loopg [3, 11] n (fun gg o_ i_ wr => ∃ (k m : Nat) (A' : Option Addr) (c' : Nat) (fq : List Nat), n - k ≤ gg ∧ k ≤ n ∧ i_ = .int .i64 (k : Nat) ∧ o_ = .slice A' m c' ∧ Hid (m = (Pl.lRecs (ps.take k)).length) ∧ Hid (Mm.SepF [] w wr [Mm.tsl Mm.str 9 (Pl.lRecs (ps.take k)) (.slice A' m c') fq, Mm.tblk ga 80 [.slice A n c, .int .i64 0]]))
  case atStart => exact ⟨0, 0, none, 0, [], by omega, by omega, rfl, rfl, rfl, KS0.out.add (Below.refl _ _) Mm.SlOwn.nil List.nodup_nil (fun b hb => by cases hb)⟩
  case round =>
    clear KS0
    obtain ⟨k, m, A', c', fq, hgk, hk, rfl, rfl, HM, HS⟩ := hrel
    obtain ⟨W, rfl⟩ : ∃ W : World, W = wr := ⟨_, rfl⟩
    by_cases hlt : k < n
    · have fc : (k : Int) < (n : Nat) := by omega
      have hwk := HR0.out.keep (w' := W) fun b hb => HS.out.bel0.block b (by have := HBW.out; omega)
      obtain ⟨x, bb, off, cs, hx, hA, hb2, hat, hcell⟩ := hwk.get hlt
      subst hA
      obtain ⟨AI, nI, cI, rfl, g0, g1, g2⟩ := rPiece_at hat
      have c0 := hcell 0 _ rfl
      have c1 := hcell 1 _ rfl
      have c2 := hcell 2 _ rfl
      rw [show off + k * rPiece.size + 0 = off + k * 3 from rfl] at c0
      rw [show off + k * rPiece.size + 1 = off + k * 3 + 1 from rfl] at c1
      rw [show off + k * rPiece.size + 2 = off + k * 3 + 2 from rfl] at c2
      have HX := Lib.hid hx
      have hpc := HOK.out.pc k x hx
      have hxs := Pl.pieceOk_size hpc.1
      have hfr : x.From = f0 + ((m : Nat) : Int) := by rw [hpc.2.1, show (⟨ps, 0⟩ : Log).Pieces = ps from rfl, HF0.out, HM.out]
      have hnx := Pl.lRecs_next hx
      have hm60 : m ≤ 60 := by
        rw [HM.out]
        have h5 : (Pl.lRecs (ps.take k)).length ≤ (Pl.lRecs ps).length := by
          conv => rhs; rw [← List.take_append_drop k ps, Pl.lRecs_append]
          rw [List.length_append]; omega
        have := HML.out; omega
      have hrl : (Pl.records x.Bytes).length ≤ 60 := by have := Pl.records_len x.Bytes; omega
      have CR := l6Records_c x AI nI cI
      rw [hfr] at c0 CR
      have HNX := Lib.hid hnx
      obtain ⟨RL, hRL⟩ : ∃ l, Pl.records x.Bytes = l := ⟨_, rfl⟩
      rw [hRL] at CR HNX hrl
      obtain ⟨gp, hgp⟩ : ∃ g, W.heap.size = g := ⟨_, rfl⟩
      obtain ⟨W2, hW2⟩ : ∃ V, W.alloc (.cells #[.int .i64 (f0 + ((m : Nat) : Int)), .string x.Bytes, .slice AI nI cI] 164) = V := ⟨_, rfl⟩
      have KS2 := Lib.hid ((HS.out.alloc' hgp 164 [.int .i64 (f0 + ((m : Nat) : Int)), .string x.Bytes, .slice AI nI cI]).atW hW2)
      have CRW := CR W2 (by omega)
      clear hat hcell g0 g1 g2 hwk hx hnx hRL hpc hfr CR
      go_upto_region 5 with fail
      clear hW2 hgp c0 c1 c2 HS
      have q0 := KS2.out.cell (k := 0) 0 rfl rfl
      have q1 := KS2.out.cell (k := 1) 0 rfl rfl
      have q2 := KS2.out.cell (k := 2) 0 rfl rfl
      go_wp2_with fail
      refine CRW.mono ?_
      rintro e w3 ⟨A5, m5, c5, f5, rfl, hm5, hs5⟩
      obtain ⟨W3, rfl⟩ : ∃ W : World, W = w3 := ⟨_, rfl⟩
      have KS3 := Lib.hid ((KS2.out.join hs5).sel [2, 0, 1, 3] (by decide) rfl)
      have HM5 : Hid (m5 = RL.length) := hm5
      have hm5b : m5 ≤ 60 := by omega
      clear hs5 CRW q0 q1 q2 hm5 hrl KS2
      go_upto_region 6 with fail
      obtain ⟨gw, rfl⟩ : ∃ g : Nat, g = gk := ⟨_, rfl⟩
      go_loopg [3, 18] m5 (fun gg o_ i_ wr => ∃ (j : Nat) (A' : Option Addr) (c' : Nat) (fq : List Nat), m5 - j ≤ gg ∧ j ≤ m5 ∧ i_ = .int .i64 (j : Nat) ∧ o_ = .slice A' (m + j) c' ∧ Hid (Mm.SepF [] w wr [Mm.tsl Mm.str 9 (Pl.lRecs (ps.take k) ++ RL.take j) (.slice A' (m + j) c') fq, Mm.tsl Mm.str 9 RL (.slice A5 m5 c5) f5, Mm.tblk gp 164 [.int .i64 (f0 + ((m : Nat) : Int)), .string x.Bytes, .slice AI nI cI], Mm.tblk ga 80 [.slice (some ⟨bb, off, none⟩) n c, .int .i64 0]]))
      case atStart => exact ⟨0, A', c', fq, by omega, by omega, rfl, rfl, by rw [List.take_zero, List.append_nil, Nat.add_zero]; exact KS3.out⟩
      case round =>
        clear KS3
        obtain ⟨j, A6, c6, fq6, hgj, hj, rfl, rfl, HSJ⟩ := hrel
        obtain ⟨V, rfl⟩ : ∃ W : World, W = wr := ⟨_, rfl⟩
        by_cases hjt : j < m5
        · have fj : (j : Int) < (m5 : Nat) := by omega
          obtain ⟨tx, b7, off7, cs0, hs, hA, -, hat, hc⟩ := (HSJ.out.rdSl 1 rfl).get hjt
          subst hA
          obtain ⟨rfl, htl⟩ := hat
          have e0 := hc 0 _ rfl
          rw [show off7 + j * Mm.str.size + 0 = off7 + j from by show off7 + j * 1 + 0 = _; omega] at e0
          have HTX := Lib.hid hs
          have q0 := HSJ.out.cell (k := 0) 2 rfl rfl
          have d1 := HSJ.out.cell (k := 1) 3 rfl rfl
          have fge : (0 : Int) ≤ f0 + ((m : Nat) : Int) + (j : Int) := by omega
          have hll : (Pl.lRecs (ps.take k) ++ RL.take j).length = m + j := by rw [List.length_append, List.length_take, ← HM.out]; have := HM5.out; omega
          clear hc hs
          go_upto_region 9 with fail
          clear e0 q0 d1 fge
          go_wp2_with (at_builtin; refine Mm.app_list (x := tx) HSJ.out 0 rfl rfl (.tmp 30) (.tmp 32) 142 rfl iP _ 16 Tryz.underlying142 qP qP0 qP1 qP2 rfl (by decide) rfl rfl (fun W => ⟨rfl, htl, rfl⟩) hll (by unfold maxLen; omega) (by omega) ?_; intro g cap w' fp' hs4; (have HS4 := Lib.hid hs4); clear hs4)
          go_roundg (m5 - (j + 1))
          case measure => omega
          case rel => exact ⟨j + 1, _, cap, fp', Nat.le_refl _, by omega, by go_num, by rw [show m + (j + 1) = m + j + 1 by omega], by rw [List.take_add_one, HTX.out, show m + (j + 1) = m + j + 1 by omega, ← List.append_assoc]; exact HS4.out.sel [0, 1, 2, 3] (by decide) rfl⟩
        · obtain rfl : j = m5 := by omega
          have fj : ¬ ((j : Nat) : Int) < (j : Nat) := by omega
          have HE : Hid (Pl.lRecs (ps.take k) ++ RL.take j = Pl.lRecs (ps.take (k + 1))) := by show _ = _; rw [HNX.out, show RL.take j = RL from List.take_of_length_le (by have := HM5.out; omega)]
          have HMN : Hid (m + j = (Pl.lRecs (ps.take (k + 1))).length) := by show _ = _; rw [HNX.out, List.length_append, ← HM.out, ← HM5.out]
          rw [HE.out] at HSJ
          go_wp2
          go_roundg (n - (k + 1))
          case measure => omega
          case rel => exact ⟨k + 1, m + j, A6, c6, fq6, Nat.le_refl _, by omega, by go_num, rfl, HMN.out, HSJ.out.sel [0, 3] (by decide) rfl⟩
    · obtain rfl : k = n := by omega
      have fc : ¬ ((k : Nat) : Int) < (k : Nat) := by omega
      have HE : Hid (ps.take k = ps) := List.take_of_length_le (by have := HLEN.out; omega)
      rw [HE.out] at HS HM
      go_wp2
      go_ret
      exact ⟨A', m, c', fq, rfl, HM.out, HS.out.sel [0] (by decide) rfl⟩
set_option maxRecDepth 100000 in
set_option maxHeartbeats 4000000 in
theorem l17Says_c (g : Log) (part np : Int) (cs : List Value) (w : World) (B : Nat) (hg : rLog.at_ w B g cs) (hB : B ≤ w.heap.size) (hok : Pl.LogOk g) (hb0 : g.Begin = 0) (hnp : 1 ≤ np ∧ np ≤ 3) :
    Calls Tryz.prog 71 #[.agg cs.toArray, .int .i64 np, .int .i64 part] w (SaysAns (Pl.saysOf np part (Pl.lRecs g.Pieces)) w) := by
  have HG := Lib.hid hg
  obtain ⟨A0, n0, c0, rfl, -, -⟩ := rLog_at hg
  have hml : (Pl.lRecs g.Pieces).length ≤ 60 := hok.sum
  have hr20 : ∀ s, s ∈ Pl.lRecs g.Pieces → s.size ≤ 20 := fun s hs => Pl.lRecs_size hs
  have CL0 := fun W h1 h2 => l6All_c g [.slice A0 n0 c0, .int .i64 g.Begin] W B h1 h2 hok hb0
  obtain ⟨RL, hRL⟩ : ∃ l, Pl.lRecs g.Pieces = l := ⟨_, rfl⟩
  rw [hRL] at hml hr20 CL0 ⊢
  clear hg hRL hok
  rw [hb0] at CL0 HG ⊢
  obtain ⟨hnp1, hnp2⟩ := hnp
  obtain ⟨ga, hga⟩ : ∃ g, w.heap.size = g := ⟨_, rfl⟩
  obtain ⟨W0, hW0⟩ : ∃ W, w.alloc (.cells #[.slice A0 n0 c0, .int .i64 0] 80) = W := ⟨_, rfl⟩
  have KS0 := Lib.hid (((Mm.SepF.start w).alloc' hga 80 [.slice A0 n0 c0, .int .i64 0]).atW hW0)
  have d0 := KS0.out.cell (k := 0) 0 rfl rfl
  have d1 := KS0.out.cell (k := 1) 0 rfl rfl
  have CL := CL0 W0 (rLog.keep HG.out fun b hb => KS0.out.bel0.block b (by omega)) (by have := KS0.out.bel0.size; omega)
  clear CL0 hb0
  go_enter Tryz.func71, Tryz.ntmps71
  go_wp2_with fail
  refine CL.mono ?_
  rintro e w1 ⟨A5, m5, c5, f5, rfl, hm5, hs5⟩
  obtain ⟨W1, rfl⟩ : ∃ W : World, W = w1 := ⟨_, rfl⟩
  have KSL := Lib.hid ((KS0.out.join hs5).sel [0] (by decide) rfl)
  clear CL d0 d1 hs5 KS0 hW0 hga
  rw [← hm5] at hml
  have HQ : Hid (m5 = RL.length) := hm5
  clear hm5
  go_upto_region 3 with fail
  obtain ⟨iP, qP, qP0, qP1, qP2⟩ := info_parts Tryz.infoSayK
  have HR20 : Hid (∀ s, s ∈ RL → s.size ≤ 20) := hr20
  have hm60 : m5 ≤ 60 := hml
  clear hr20 hml
  go_loopg [8, 16] m5 (fun gg o_ i_ wr => ∃ (k : Nat) (A' : Option Addr) (c' : Nat) (fq : List Nat), m5 - k ≤ gg ∧ k ≤ m5 ∧ i_ = .int .i64 (k : Nat) ∧ o_ = .slice A' k c' ∧ Hid (∃ done : List Say, done.length = k ∧ RL.take k = done.map Pl.sayTxt ∧ Pl.InPart np part done ∧ Mm.SepF [] w wr [Mm.tsl rSay 55 done (.slice A' k c') fq, Mm.tsl Mm.str 9 RL (.slice A5 m5 c5) f5]))
  case atStart => exact ⟨0, none, 0, [], by omega, by omega, rfl, rfl, [], rfl, rfl, (fun x hx => by cases hx), KSL.out.add (Below.refl _ _) Mm.SlOwn.nil List.nodup_nil (fun b hb => by cases hb)⟩
  case round =>
    clear KSL
    obtain ⟨k, A', c', fq, hgk, hk, rfl, rfl, HSE⟩ := hrel
    obtain ⟨W, rfl⟩ : ∃ W : World, W = wr := ⟨_, rfl⟩
    obtain ⟨done, hdl, hdt, hdp, hS⟩ := HSE.out
    have HD := Lib.hid (And.intro hdl (And.intro hdt hdp))
    have HS := Lib.hid hS
    clear hdl hdt hdp hS HSE
    by_cases hlt : k < m5
    · have fc : (k : Int) < (m5 : Nat) := by omega
      obtain ⟨s, bb, off, cs0, hs, hA, -, hat, hc⟩ := (HS.out.rdSl 1 rfl).get hlt
      subst hA
      obtain ⟨rfl, -⟩ := hat
      have c0 := hc 0 _ rfl
      rw [show off + k * Mm.str.size + 0 = off + k from by show off + k * 1 + 0 = _; omega] at c0
      have HSX := Lib.hid hs
      have hs20 := HR20.out s (List.mem_of_getElem? hs)
      have CR := (l13Read_c s hs20 W)
      clear hc hs
      go_wp2_with fail
      refine CR.mono ?_
      rintro e w1 ⟨x, ok, rfl, hb1, hxi, hrd⟩
      obtain ⟨W1, rfl⟩ : ∃ W : World, W = w1 := ⟨_, rfl⟩
      have KS1 := Lib.hid (HS.out.step hb1)
      have HXI := Lib.hid hxi
      have HRD := Lib.hid hrd
      clear CR c0 hb1 hxi hrd HS
      obtain ⟨gx, hgx⟩ : ∃ g, W1.heap.size = g := ⟨_, rfl⟩
      obtain ⟨W2, hW2⟩ : ∃ W, W1.alloc (.cells #[.string x.Name, .int .i64 x.At, .int .i64 x.Value] 55) = W := ⟨_, rfl⟩
      have KS2 := Lib.hid ((KS1.out.alloc' hgx 55 [.string x.Name, .int .i64 x.At, .int .i64 x.Value]).atW hW2)
      go_upto_region 6 with fail
      clear hW2 hgx KS1
      have q0 := KS2.out.cell (k := 0) 0 rfl rfl
      have q1 := KS2.out.cell (k := 1) 0 rfl rfl
      have q2 := KS2.out.cell (k := 2) 0 rfl rfl
      cases ok with
      | false =>
        have HN : Hid (Pl.saysOf np part RL = none) := Pl.saysOf_bad HSX.out fun y hy => by have := HRD.out; rw [hy] at this; simp at this
        have HBN := Lib.hid KS2.out.bel0
        go_wp2
        go_ret2
        rw [HN.out]
        exact ⟨rfl, HBN.out⟩
      | true =>
        have HRX : Hid (Pl.readS s = some x) := HRD.out.trans (if_pos (by simp))
        have hxn : x.Name.size ≤ maxLen := HXI.out.1
        have CH := l3Hash_c x.Name W2 hxn
        have hh := Pl.hash_bd x.Name.data.toList
        have HPN : Hid (Pl.partN np x.Name = Pl.hash x.Name.data.toList % np) := rfl
        obtain ⟨hv, hhv⟩ : ∃ v, Pl.hash x.Name.data.toList = v := ⟨_, rfl⟩
        rw [hhv] at CH hh HPN
        obtain ⟨hh1, hh2⟩ := hh
        have htm : hv.tmod np = hv % np := Int.tmod_eq_emod_of_nonneg hh1
        obtain ⟨pv, hpv⟩ : ∃ v, hv % np = v := ⟨_, rfl⟩
        rw [hpv] at htm HPN
        clear hhv hpv hxn
        by_cases hp : pv = part
        · have hp' : (pv != part) = false := by simp [hp]
          have HPP : Hid (Pl.partN np x.Name = part) := HPN.out.trans hp
          clear hp
          go_upto_region 8 with (go_at_call 83; (with_reducible refine CH.mono ?_); clear CH; rintro e w3 ⟨rfl, rfl⟩)
          have hdl := HD.out.1
          go_wp2_with (at_builtin; refine Mm.app_list (x := x) KS2.out 1 rfl rfl (.tmp 36) (.tmp 38) 109 rfl iP _ 32 Tryz.underlying109 qP qP0 qP1 qP2 rfl (by decide) rfl rfl (fun W => (rSay_own_mk (x := x) HXI.out)) hdl (by unfold maxLen; omega) (by omega) ?_; intro g cap w' fp' hs; (have HS4 := Lib.hid hs); clear hs)
          go_roundg (m5 - (k + 1))
          case measure => omega
          case rel => exact ⟨k + 1, _, cap, fp', Nat.le_refl _, by omega, by go_num, rfl, done ++ [x], by rw [List.length_append, HD.out.1]; rfl, by rw [List.take_add_one, HSX.out, HD.out.2.1, List.map_append]; show _ = _ ++ [_]; rw [(Pl.readS_is HRX.out).2]; rfl, fun y hy => by
            rcases List.mem_append.1 hy with hy | hy
            · exact HD.out.2.2 y hy
            · rw [List.mem_singleton] at hy
              subst hy
              exact ⟨(Pl.readS_is HRX.out).1, HPP.out⟩, HS4.out.sel [1, 2] (by decide) rfl⟩
        · have hp' : (pv != part) = true := by simpa using hp
          have HN : Hid (Pl.saysOf np part RL = none) := Pl.saysOf_bad HSX.out fun y hy => by
            have := HRX.out.symm.trans hy
            injection this with this
            subst this
            rw [HPN.out]; exact hp
          have HBN := Lib.hid KS2.out.bel0
          clear hp
          go_wp2_with (go_at_call 83; (with_reducible refine CH.mono ?_); clear CH; rintro e w3 ⟨rfl, rfl⟩)
          go_ret2
          rw [HN.out]
          exact ⟨rfl, HBN.out⟩
    · obtain rfl : k = m5 := by omega
      have fc : ¬ ((k : Nat) : Int) < (k : Nat) := by omega
      have HY : Hid (Pl.saysOf np part RL = some done) := Pl.saysOf_iff.2 ⟨by rw [← HD.out.2.1, List.take_of_length_le (by have := HQ.out; omega)], HD.out.2.2⟩
      go_wp2
      go_ret2
      rw [HY.out]
      exact ⟨A', k, c', fq, rfl, HD.out.1.symm, HS.out.sel [0] (by decide) rfl⟩
end Go.Proofs.YtbhmdnjammnlnaaGreatDoor

namespace Go.Proofs.YtbhmdnjammnlnaaGreatDoor
open Go.RowKit
namespace Pl
theorem sampleAt_app1 {l t : List Sample} {i : Nat} (h : i < l.length) : sampleAt (l ++ t) i = sampleAt l i := by
  unfold sampleAt
  rw [List.getD_eq_getElem?_getD, List.getD_eq_getElem?_getD, List.getElem?_append_left h]
theorem sampleAt_end (l : List Sample) (x : Sample) : sampleAt (l ++ [x]) l.length = x := by
  unfold sampleAt
  rw [List.getD_eq_getElem?_getD, List.getElem?_append_right (Nat.le_refl _), Nat.sub_self]; rfl
theorem samplesOk_snoc {l : List Sample} {x : Sample} (h : samplesOk l = true) (hx : sampleOk x = true) (hl : l ≠ [] → (sampleAt l (l.length - 1)).At < x.At) (h40 : l.length ≠ 40) : samplesOk (l ++ [x]) = true := by
  have hlen := samplesOk_len h
  unfold samplesOk at h ⊢
  rw [Bool.and_eq_true] at h ⊢
  refine ⟨allB_yes fun i hi => ?_, decide_eq_true (by rw [List.length_append]; show ((l.length + 1 : Nat) : Int) ≤ 40; omega)⟩
  rw [List.length_append] at hi
  have hi' : i < l.length + 1 := hi
  have hg := allB_iff.1 h.1
  by_cases he : i < l.length
  · have h1 := hg i he
    unfold sampleGood at h1 ⊢
    rw [sampleAt_app1 he]
    by_cases h0 : i = 0
    · subst h0; simpa using h1
    · rw [sampleAt_app1 (by omega)]; exact h1
  · obtain rfl : i = l.length := by omega
    unfold sampleGood
    rw [sampleAt_end, hx]
    by_cases h0 : l.length = 0
    · rw [h0]; simp
    · rw [sampleAt_app1 (by omega), decide_eq_true (hl (fun e => h0 (by rw [e]; rfl)))]
      simp
theorem samplesOk_one {x : Sample} (hx : sampleOk x = true) : samplesOk [x] = true :=
  samplesOk_snoc (l := []) rfl hx (fun h => absurd rfl h) (by decide)
theorem sayOk_sample {x : Say} (h : sayOk x = true) : sampleOk ⟨x.At, x.Value⟩ = true := by
  unfold sayOk at h
  rw [Bool.and_eq_true] at h
  exact h.2
theorem HeadOk.take {h : Head} (k : HeadOk h) {x : Say} (hx : sayOk x = true) (ho : h.Offset < 1000) : HeadOk (takeS h x).1 := by
  have hoff : 0 ≤ (takeS h x).1.Offset ∧ (takeS h x).1.Offset ≤ 1000 := by rw [takeS_off]; have := k.off; omega
  have hw := k.hw.take x
  refine ⟨hw.srt, fun r hr => ?_, hw.len, hoff⟩
  by_cases hh : ∃ r0, h.Rows[rpos x.Name h.Rows]? = some r0 ∧ r0.Name = x.Name
  · obtain ⟨r0, hr0, he⟩ := hh
    rw [takeS_hit hr0 he] at hr
    unfold hitS at hr
    split at hr
    · exact k.row r hr
    · split at hr
      · exact k.row r hr
      · split at hr
        · exact k.row r hr
        · rename_i h1 h2 h3
          rcases List.mem_or_eq_of_mem_set hr with h4 | rfl
          · exact k.row r h4
          · have h5 := k.row r0 (List.mem_of_getElem? hr0)
            refine ⟨h5.1, by simp, samplesOk_snoc h5.2.2 (sayOk_sample hx) (fun _ => ?_) h3⟩
            unfold lastAt at h1 h2
            show (sampleAt r0.Samples (r0.Samples.length - 1)).At < x.At
            omega
  · have hm : ∀ o, h.Rows[rpos x.Name h.Rows]? = some o → rnm o ≠ x.Name := fun o ho he => hh ⟨o, ho, he⟩
    rw [takeS_miss hm] at hr
    unfold missS at hr
    split at hr
    · exact k.row r hr
    · rcases List.mem_cons.1 ((Mm.insertAt_perm _ _ _).mem_iff.1 hr) with rfl | h1
      · exact ⟨sayOk_word hx, by simp, samplesOk_one (sayOk_sample hx)⟩
      · exact k.row r h1
theorem HeadOk.fold {l : List Say} : ∀ {h : Head}, HeadOk h → (∀ x, x ∈ l → sayOk x = true) → h.Offset + l.length ≤ 1000 → HeadOk (foldS h l) := by
  induction l with
  | nil => intro h k _ _; exact k
  | cons x l ih =>
    intro h k hx ho
    rw [List.length_cons] at ho
    have h1 := k.take (hx x (List.mem_cons_self ..)) (by omega)
    exact ih h1 (fun y hy => hx y (List.mem_cons_of_mem _ hy)) (by rw [takeS_off]; push_cast at ho; omega)
def FoldOf (h : Head) (l : List Say) : Prop := ∃ m, m ≤ l.length ∧ h = foldS ⟨[], 0⟩ (l.take m)
theorem fold_off0 (l : List Say) (m : Nat) (hm : m ≤ l.length) : (foldS ⟨[], 0⟩ (l.take m)).Offset = (m : Int) := by
  rw [foldS_off, List.length_take]
  show (0 : Int) + _ = _
  omega
theorem fold_ok {l : List Say} (h : ∀ x, x ∈ l → sayOk x = true) (hl : l.length ≤ 1000) (m : Nat) : HeadOk (foldS ⟨[], 0⟩ (l.take m)) :=
  HeadOk.fold HeadOk.zero (fun x hx => h x (List.mem_of_mem_take hx)) (by show (0 : Int) + _ ≤ _; rw [List.length_take]; omega)
theorem FoldOf.ok {h : Head} {l : List Say} (k : FoldOf h l) (hs : ∀ x, x ∈ l → sayOk x = true) (hl : l.length ≤ 1000) : HeadOk h ∧ h.Offset ≤ l.length ∧ foldS ⟨[], 0⟩ (l.take h.Offset.toNat) = h := by
  obtain ⟨m, hm, rfl⟩ := k
  have h1 := fold_off0 l m hm
  refine ⟨fold_ok hs hl m, by rw [h1]; omega, ?_⟩
  rw [h1]; rfl
theorem FoldOf.of {h : Head} {l : List Say} (h1 : HeadOk h) (h2 : h.Offset ≤ l.length) (h3 : foldS ⟨[], 0⟩ (l.take h.Offset.toNat) = h) : FoldOf h l :=
  ⟨h.Offset.toNat, by have := h1.off; omega, h3.symm⟩
structure PartOk (n k : Nat) (g : Log) (hd kp : Head) (l : List Say) : Prop where
  log : LogOk g
  fr : from0 g.Pieces = 0
  bg : g.Begin = 0
  txt : saysOf (n : Int) (k : Int) (lRecs g.Pieces) = some l
  hdf : FoldOf hd l
  kpf : FoldOf kp l
  le : kp.Offset ≤ hd.Offset
theorem PartOk.says {n k : Nat} {g : Log} {hd kp : Head} {l : List Say} (h : PartOk n k g hd kp l) : lRecs g.Pieces = l.map sayTxt ∧ InPart n k l := saysOf_iff.1 h.txt
theorem PartOk.sayOk {n k : Nat} {g : Log} {hd kp : Head} {l : List Say} (h : PartOk n k g hd kp l) : ∀ x, x ∈ l → sayOk x = true := fun x hx => (h.says.2 x hx).1
theorem PartOk.len {n k : Nat} {g : Log} {hd kp : Head} {l : List Say} (h : PartOk n k g hd kp l) : l.length ≤ 60 := by
  have h1 := h.log.sum
  rw [h.says.1, List.length_map] at h1
  exact h1
structure HouseOk (h : House) : Prop where
  n1 : 1 ≤ h.Logs.length
  n3 : h.Logs.length ≤ 3
  hdn : h.Heads.length = h.Logs.length
  kpn : h.Kept.length = h.Logs.length
  part : ∀ k g a b, h.Logs[k]? = some g → h.Heads[k]? = some a → h.Kept[k]? = some b → ∃ l, PartOk h.Logs.length k g a b l
end Pl
end Go.Proofs.YtbhmdnjammnlnaaGreatDoor

namespace Go.Proofs.YtbhmdnjammnlnaaGreatDoor
open Go.RowKit
attribute [local go_sem] und_cell cha_cell World.cell?_alloc_some
theorem headAt_own {w : World} {x : Head} {cs : List Value} {fp : List Nat} (h : rHead.own w x cs fp) {B : Nat} (hB : ∀ b, b ∈ fp → b < B) : rHead.at_ w B x cs := by
  obtain ⟨A, n, c, f, rfl, rfl, h1, h2⟩ := rHead_own h
  exact rHead_at_mk (h1.weak hB) h2
theorem Mm.SepF.rdHead {F : List Nat} {w0 wr : World} {ts : List Mm.Thing} {x : Head} {cs : List Value} {fp : List Nat} (h : Mm.SepF F w0 wr ts) (k : Nat) (hk : ts[k]? = some (Mm.tow rHead x cs fp)) : rHead.at_ wr wr.heap.size x cs :=
  headAt_own (h.at_ k hk) fun b hb => h.lt b (List.mem_flatMap.2 ⟨_, List.mem_of_getElem? hk, hb⟩)
set_option maxRecDepth 100000 in
set_option maxHeartbeats 4000000 in
theorem isFolded_c (h : Head) (l : List Say) (cs : List Value) (A : Option Addr) (n c : Nat) (w : World) (B Bt : Nat) (hh : rHead.at_ w B h cs) (hl : Mm.SlAt rSay w B l A n c) (hB : B ≤ w.heap.size) (hs : ∀ x, x ∈ l → Pl.sayOk x = true) (hln : n ≤ 60) (ht : Tab Bt w) :
    Calls Tryz.prog 132 #[.agg cs.toArray, .slice A n c] w (BoolAns (Pl.FoldOf h l) w) := by
  have HH := Lib.hid hh
  obtain ⟨A0, n0, c0, rfl, -, io⟩ := rHead_at hh
  obtain ⟨o, ho⟩ : ∃ o : Int, h.Offset = o := ⟨_, rfl⟩
  rw [ho] at HH io ⊢
  have HO := Lib.hid ho
  have HL := Lib.hid hl
  have HLN : Hid (n = l.length) := hl.1.symm
  have HSY := Lib.hid hs
  have HT := Lib.hid ht
  unfold Mm.I64 at io
  clear hh hl ho hs ht
  obtain ⟨ga, hga⟩ : ∃ g, w.heap.size = g := ⟨_, rfl⟩
  obtain ⟨W0, hW0⟩ : ∃ W, w.alloc (.cells #[.slice A0 n0 c0, .int .i64 o] 73) = W := ⟨_, rfl⟩
  have KS0 := Lib.hid (((Mm.SepF.start w).alloc' hga 73 [.slice A0 n0 c0, .int .i64 o]).atW hW0)
  have d0 := KS0.out.cell (k := 0) 0 rfl rfl
  have d1 := KS0.out.cell (k := 1) 0 rfl rfl
  have HH0 : Hid (rHead.at_ W0 B h [.slice A0 n0 c0, .int .i64 o]) := rHead.keep HH.out fun b hb => KS0.out.bel0.block b (by omega)
  have CI := isHead_c h [.slice A0 n0 c0, .int .i64 o] W0 B HH0.out (by have := KS0.out.bel0.size; omega)
  go_enter Tryz.func132, Tryz.ntmps132
  go_wp2_with fail
  refine CI.mono ?_
  rintro e w1 ⟨ok, rfl, hok, hb1⟩
  obtain ⟨W1, rfl⟩ : ∃ W : World, W = w1 := ⟨_, rfl⟩
  have KS1 := Lib.hid (KS0.out.step hb1)
  have HOK := Lib.hid hok
  clear CI d0 d1 hok hb1 HH0 hW0 hga KS0
  have d0 := KS1.out.cell (k := 0) 0 rfl rfl
  have d1 := KS1.out.cell (k := 1) 0 rfl rfl
  have HB1 := Lib.hid KS1.out.bel0
  cases ok with
  | false =>
    have HNF : Hid (¬ Pl.FoldOf h l) := fun hf => by have := HOK.out.2 (hf.ok HSY.out (by have := HLN.out; omega)).1; cases this
    go_wp2
    go_ret
    exact BoolAns.no HNF.out HB1.out
  | true =>
    have HHK : Hid (Pl.HeadOk h) := HOK.out.1 rfl
    have hoff := HHK.out.off
    rw [HO.out] at hoff
    obtain ⟨m, rfl⟩ : ∃ m : Nat, o = (m : Int) := ⟨o.toNat, by omega⟩
    by_cases hle : m ≤ n
    · have hle' : decide ((n : Int) < (m : Nat)) = false := decide_eq_false (by omega)
      have hle3 : decide (n < m) = false := decide_eq_false (by omega)
      have hm0 : (0 : Int) ≤ (m : Nat) := by omega
      have hmt : ((m : Nat) : Int).toNat = m := by omega
      have hnc : n ≤ c := HL.out.2.1
      have hmc : m ≤ c := by omega
      have hcm : c ≤ maxLen := HL.out.2.2.1
      have hsz1 : B ≤ W1.heap.size := by have := HB1.out.size; omega
      have HLT : Hid (Mm.SlAt rSay W1 B (l.take m) A m c) := (HL.out.keep fun b hb => HB1.out.block b (by omega)).take hle
      have CF := foldSays_c ⟨[], 0⟩ [.slice none 0 0, .int .i64 0] (l.take m) A m c W1 B zHead_at HLT.out hsz1 Pl.HW.zero (fun x hx => HSY.out x (List.mem_of_mem_take hx)) ⟨by show (0 : Int) ≤ 0; omega, by show (0 : Int) + _ ≤ _; omega⟩
      have HLE : Hid (m ≤ l.length) := by have := HLN.out; show m ≤ _; omega
      clear hle
      go_wp2_with fail
      refine CF.mono ?_
      rintro e w2 ⟨cs2, fp2, A9, n9, c9, fq9, rfl, hs2⟩
      obtain ⟨W2, rfl⟩ : ∃ W : World, W = w2 := ⟨_, rfl⟩
      have KS2 := Lib.hid (KS1.out.join hs2)
      obtain ⟨FH, hFH⟩ : ∃ F, Pl.foldS ⟨[], 0⟩ (l.take m) = F := ⟨_, rfl⟩
      rw [hFH] at KS2
      have HFK : Hid (Pl.HeadOk FH) := by rw [← hFH]; exact Pl.fold_ok HSY.out (by have := HLN.out; omega) m
      have hown := KS2.out.at_ 0 rfl
      obtain ⟨A2, n2, c2, f2, rfl, rfl, -, -⟩ := rHead_own hown
      have HFO : Hid (FH.Offset = (m : Int)) := by rw [← hFH]; exact Pl.fold_off0 l m HLE.out
      have HFH := Lib.hid hFH
      clear hown hFH CF hs2 d0 d1 KS1
      rw [HFO.out] at KS2 ⊢
      obtain ⟨go, hgo⟩ : ∃ g, W2.heap.size = g := ⟨_, rfl⟩
      obtain ⟨W3, hW3⟩ : ∃ W, W2.alloc (.cells #[.slice A2 n2 c2, .int .i64 (m : Nat)] 73) = W := ⟨_, rfl⟩
      have KS3 := Lib.hid ((KS2.out.alloc' hgo 73 [.slice A2 n2 c2, .int .i64 (m : Nat)]).atW hW3)
      go_upto_region 4 with fail
      clear hW3 hgo KS2
      have o0 := KS3.out.cell (k := 0) 0 rfl rfl
      have o1 := KS3.out.cell (k := 1) 0 rfl rfl
      have d0 := KS3.out.cell (k := 0) 3 rfl rfl
      have d1 := KS3.out.cell (k := 1) 3 rfl rfl
      have HB3 := Lib.hid KS3.out.bel0
      have hsz3 := HB3.out.size
      have HA1 : Hid (rHead.at_ W3 W3.heap.size FH [.slice A2 n2 c2, .int .i64 (m : Nat)]) := KS3.out.rdHead 1 rfl
      have HA2 : Hid (rHead.at_ W3 B h [.slice A0 n0 c0, .int .i64 (m : Nat)]) := rHead.keep HH.out fun b hb => HB3.out.block b (by omega)
      have HT3 : Hid (Tab Bt W3) := HT.out.on HB3.out
      have CA := fun z : Und W3 => und_call z (headText_c FH [.slice A2 n2 c2, .int .i64 (m : Nat)] (und W3 z) W3.heap.size Bt (rHead.keep HA1.out fun b hb => z.h.block b hb) (und_size z) HFK.out (HT3.out.on z.h))
      have CB := fun z : Und W3 => und_call z (headText_c h [.slice A0 n0 c0, .int .i64 (m : Nat)] (und W3 z) B Bt (rHead.keep HA2.out fun b hb => z.h.block b (by omega)) (Nat.le_trans (by omega) (und_size z)) HHK.out (HT3.out.on z.h))
      change ∀ z : Und W3, Calls Tryz.prog 170 #[.agg #[.slice A2 n2 c2, .int .i64 (m : Nat)]] (und W3 z) _ at CA
      change ∀ z : Und W3, Calls Tryz.prog 170 #[.agg #[.slice A0 n0 c0, .int .i64 (m : Nat)]] (und W3 z) _ at CB
      obtain ⟨TA, hTA⟩ : ∃ T, Pl.headTxt FH = T := ⟨_, rfl⟩
      obtain ⟨TB, hTB⟩ : ∃ T, Pl.headTxt h = T := ⟨_, rfl⟩
      rw [hTA] at CA
      rw [hTB] at CB
      have HTA := Lib.hid hTA
      have HTB := Lib.hid hTB
      clear hTA hTB
      refine wp_region_und (by kernel_rfl) (by kernel_rfl) ?_
      repeat (go_big_quiet_step ((first | (first | (go_at_call 170; with_reducible exact CA _) | (go_at_call 170; with_reducible exact CB _)))))
      refine wpQuiet_nil ?_
      intro X hX
      have HXX := Lib.hid (below_step HB3.out hX)
      clear hX
      by_cases he : TA = TB
      · subst he
        have HY : Hid (Pl.FoldOf h l) := Pl.FoldOf.of HHK.out (by rw [HO.out]; have := HLE.out; omega) (by rw [HO.out]; exact HFH.out.trans (Pl.headTxt_inj HFK.out HHK.out (HTA.out.trans HTB.out.symm)))
        go_wp2
        go_ret
        exact ⟨true, by simp, ⟨fun _ => HY.out, fun _ => rfl⟩, HXX.out⟩
      · have he' : ¬ (TA.toList = TB.toList) := fun e => he (Pl.ba_inj e)
        have HNF : Hid (¬ Pl.FoldOf h l) := fun hf => he (by
          have h3 := (hf.ok HSY.out (by have := HLN.out; omega)).2.2
          rw [HO.out] at h3
          rw [← HTA.out, ← HTB.out, ← h3, ← HFH.out]; rfl)
        go_wp2
        go_ret
        exact ⟨false, by simp [he'], ⟨(fun h => by cases h), fun h => absurd h HNF.out⟩, HXX.out⟩
    · have hle' : decide ((n : Int) < (m : Nat)) = true := decide_eq_true (by omega)
      have hle3 : decide (n < m) = true := decide_eq_true (by omega)
      have HNF : Hid (¬ Pl.FoldOf h l) := fun hf => by
        have := (hf.ok HSY.out (by have := HLN.out; omega)).2.1
        rw [HO.out] at this
        have := HLN.out; omega
      clear hle
      go_wp2
      go_ret
      exact BoolAns.no HNF.out HB1.out
end Go.Proofs.YtbhmdnjammnlnaaGreatDoor

namespace Go.Proofs.YtbhmdnjammnlnaaGreatDoor
open Go.RowKit
attribute [local go_sem] und_cell cha_cell World.cell?_alloc_some
theorem exists_bool (P : Prop) : ∃ b : Bool, b = true ↔ P := by
  by_cases h : P
  · exact ⟨true, fun _ => h, fun _ => rfl⟩
  · exact ⟨false, (fun h => by cases h), fun hh => absurd hh h⟩
theorem BoolAns.fix {P : Prop} {Q : Program} {f : FuncId} {args : Array Value} {w : World} {b : Bool} (hb : b = true ↔ P) (h : Calls Q f args w (BoolAns P w)) : Calls Q f args w fun e w' => e = .returned (.bool b) ∧ Below w.heap.size w w' :=
  h.mono fun e w' ⟨b', he, h1, h2⟩ => ⟨by
    have : b' = b := by
      cases b' <;> cases b
      · rfl
      · exact absurd (h1.2 (hb.1 rfl)) (by simp)
      · exact absurd (hb.2 (h1.1 rfl)) (by simp)
      · rfl
    rw [he, this], h2⟩
set_option maxRecDepth 100000 in
set_option maxHeartbeats 8000000 in
theorem isHouse_c (h : House) (cs : List Value) (w : World) (B Bt : Nat) (hh : rHouse.at_ w B h cs) (hB : B ≤ w.heap.size) (ht : Tab Bt w) :
    Calls Tryz.prog 76 #[.agg cs.toArray] w (BoolAns (Pl.HouseOk h) w) := by
  obtain ⟨A0, n0, c0, A1, n1, c1, A2, n2, c2, rfl, r0, r1, r2⟩ := rHouse_at hh
  have R0 := Lib.hid r0
  have R1 := Lib.hid r1
  have R2 := Lib.hid r2
  have HN0 : Hid (h.Logs.length = n0) := r0.1
  have HN1 : Hid (h.Heads.length = n1) := r1.1
  have HN2 : Hid (h.Kept.length = n2) := r2.1
  have HT := Lib.hid ht
  have HBW := Lib.hid hB
  have hnm0 : n0 ≤ maxLen := Nat.le_trans r0.2.1 r0.2.2.1
  have hnm1 : n1 ≤ maxLen := Nat.le_trans r1.2.1 r1.2.2.1
  have hnm2 : n2 ≤ maxLen := Nat.le_trans r2.2.1 r2.2.2.1
  unfold maxLen at hnm0 hnm1 hnm2
  clear hh r0 r1 r2 ht hB
  obtain ⟨ga, hga⟩ : ∃ g, w.heap.size = g := ⟨_, rfl⟩
  obtain ⟨W0, hW0⟩ : ∃ W, w.alloc (.cells #[.slice A0 n0 c0, .slice A1 n1 c1, .slice A2 n2 c2] 27) = W := ⟨_, rfl⟩
  have KS0 := Lib.hid (((Mm.SepF.start w).alloc' hga 27 [.slice A0 n0 c0, .slice A1 n1 c1, .slice A2 n2 c2]).atW hW0)
  have d0 := KS0.out.cell (k := 0) 0 rfl rfl
  have d1 := KS0.out.cell (k := 1) 0 rfl rfl
  have d2 := KS0.out.cell (k := 2) 0 rfl rfl
  have HBL := Lib.hid KS0.out.bel0
  go_enter Tryz.func76, Tryz.ntmps76
  by_cases hn : 1 ≤ n0 ∧ n0 ≤ 3
  · obtain ⟨hn1, hn3⟩ := hn
    have hin : Pl.isIn (n0 : Int) 1 3 = true := by unfold Pl.isIn; simp; omega
    by_cases h1 : n1 = n0
    · by_cases h2 : n2 = n0
      · subst h1
        subst h2
        have hz : ((n2 : Int) != (n2 : Int)) = false := by simp
        go_upto_region 5 with (go_at_call 55; (with_reducible refine (within_isJ hin _).mono ?_); rintro e w' ⟨rfl, rfl⟩)
        clear d0 d1 d2 hin HBL hW0 hga hnm0 hnm1 hnm2
        obtain ⟨n0, rfl⟩ : ∃ n, n = n2 := ⟨_, rfl⟩
        go_loopg [31] n0 (fun gg i_ wr => ∃ (k : Nat), n0 - k ≤ gg ∧ k ≤ n0 ∧ i_ = .int .i64 (k : Nat) ∧ Hid (∀ i g a b, i < k → h.Logs[i]? = some g → h.Heads[i]? = some a → h.Kept[i]? = some b → ∃ l, Pl.PartOk n0 i g a b l) ∧ Hid (Mm.SepF [] w wr [Mm.tblk ga 27 [.slice A0 n0 c0, .slice A1 n0 c1, .slice A2 n0 c2]]))
        case atStart => exact ⟨0, by omega, by omega, rfl, (fun i g a b hi => absurd hi (by omega)), KS0.out⟩
        case round =>
          clear KS0
          obtain ⟨k, hgk, hk', rfl, HU, HS⟩ := hrel
          obtain ⟨W, rfl⟩ : ∃ W : World, W = wr := ⟨_, rfl⟩
          by_cases hlt : k < n0
          · have fc : (k : Int) < (n0 : Nat) := by omega
            have hBW : B ≤ W.heap.size := by have := HBW.out; have := HS.out.bel0.size; omega
            have hbw := Lib.hid (fun b (hb : b < B) => HS.out.bel0.block b (by have := HBW.out; omega))
            obtain ⟨x, b0, o0, AP, mP, dP, hx, rfl, hb0, hrp, hbg, e0, e1⟩ := rLog_get (R0.out.keep (w' := W) hbw.out) hlt
            have HX := Lib.hid hx
            have HRP := Lib.hid hrp
            obtain ⟨bg, hbe⟩ : ∃ b : Int, x.Begin = b := ⟨_, rfl⟩
            rw [hbe] at e1 hbg
            have HBE := Lib.hid hbe
            clear hx hrp hbe
            obtain ⟨gl, hgl⟩ : ∃ g, W.heap.size = g := ⟨_, rfl⟩
            obtain ⟨W2, hW2⟩ : ∃ V, W.alloc (.cells #[.slice AP mP dP, .int .i64 bg] 80) = V := ⟨_, rfl⟩
            have KS2 := Lib.hid ((HS.out.alloc' hgl 80 [.slice AP mP dP, .int .i64 bg]).atW hW2)
            have hb2 : Below W.heap.size W W2 := by rw [← hW2]; exact below_new (Below.refl _ _) _
            have HB2 := Lib.hid hb2
            have CL := isLog_c x.Pieces bg AP mP dP W2 B (HRP.out.keep fun b hb => hb2.block b (by omega)) (by have := hb2.size; omega) hbg
            go_upto_region 7 with fail
            clear hW2 hgl e0 e1 hb2 HS
            have q0 := KS2.out.cell (k := 0) 0 rfl rfl
            have q1 := KS2.out.cell (k := 1) 0 rfl rfl
            go_wp2_with fail
            refine CL.mono ?_
            rintro e w3 ⟨lok, rfl, hlok, hb3⟩
            obtain ⟨W3, rfl⟩ : ∃ W : World, W = w3 := ⟨_, rfl⟩
            have KS3 := Lib.hid (KS2.out.step hb3)
            have HLOK := Lib.hid hlok
            have HB3 : Hid (Below W.heap.size W W3) := HB2.out.trans (below_le hb3 HB2.out.size)
            clear CL q0 q1 hb3 hlok KS2
            have q0 := KS3.out.cell (k := 0) 0 rfl rfl
            have q1 := KS3.out.cell (k := 1) 0 rfl rfl
            have HBL := Lib.hid KS3.out.bel0
            cases lok with
            | false =>
              have HNL : Hid (¬ Pl.HouseOk h) := fun hk => by
                have hlt1 : k < h.Heads.length := by have := HN1.out; omega
                have hlt2 : k < h.Kept.length := by have := HN2.out; omega
                obtain ⟨l, hl⟩ := hk.part k x _ _ HX.out (List.getElem?_eq_getElem hlt1) (List.getElem?_eq_getElem hlt2)
                have h1 := hl.log
                have := HLOK.out.2 (by rw [← HBE.out]; exact h1)
                cases this
              go_wp2
              go_ret
              exact BoolAns.no HNL.out HBL.out
            | true =>
              have HLG : Hid (Pl.LogOk x) := by have := HLOK.out.1 rfl; rw [← HBE.out] at this; exact this
              have hmP : 1 ≤ mP := by have h1 := HLG.out.len.1; have := HRP.out.1; omega
              obtain ⟨p0, b3, o3, cs3, hp0, hA3, -, hat3, hc3⟩ := (HRP.out.keep (w' := W3) fun b hb => HB3.out.block b (by omega)).get (k := 0) (by omega)
              obtain ⟨A', n', c', rfl, -, -, -⟩ := rPiece_at hat3
              have f0 := hc3 0 _ rfl
              rw [show o3 + 0 * rPiece.size + 0 = o3 by omega] at f0
              subst hA3
              have HFZ : Hid (Pl.from0 x.Pieces = p0.From) := Pl.from0_get hp0
              obtain ⟨pf, hpf⟩ : ∃ f, p0.From = f := ⟨_, rfl⟩
              rw [hpf] at f0 HFZ
              clear hc3 hat3 hp0 hpf
              by_cases hpf0 : pf = 0
              · have z1 : (pf != 0) = false := by simp [hpf0]
                have HFR : Hid (Pl.from0 x.Pieces = 0) := HFZ.out.trans hpf0
                clear hpf0
                by_cases hbg0 : bg = 0
                · have z2 : (bg != 0) = false := by simp [hbg0]
                  have HBG : Hid (x.Begin = 0) := HBE.out.trans hbg0
                  have HAT : Hid (rLog.at_ W3 B x [.slice (some ⟨b3, o3, none⟩) mP dP, .int .i64 bg]) := by rw [← HBE.out]; exact rLog_at_mk (HRP.out.keep (w' := W3) fun b hb => HB3.out.block b (by omega)) (by rw [HBE.out]; exact hbg)
                  have CS := saysIn_c x (k : Int) (n0 : Int) [.slice (some ⟨b3, o3, none⟩) mP dP, .int .i64 bg] W3 B Bt HAT.out (by have := HB3.out.size; omega) HLG.out ⟨by omega, by omega⟩ (HT.out.on HBL.out)
                  clear hbg0
                  go_wp2_with fail
                  refine CS.mono ?_
                  rintro e w4 hans
                  clear CS f0 q0 q1 HBL
                  cases hso : Pl.saysOf (n0 : Int) (k : Int) (Pl.lRecs x.Pieces) with
                  | none =>
                    rw [hso] at hans
                    obtain ⟨rfl, hb4⟩ := hans
                    have HNL : Hid (¬ Pl.HouseOk h) := fun hk => by
                      have hlt1 : k < h.Heads.length := by have := HN1.out; omega
                      have hlt2 : k < h.Kept.length := by have := HN2.out; omega
                      obtain ⟨l, hl⟩ := hk.part k x _ _ HX.out (List.getElem?_eq_getElem hlt1) (List.getElem?_eq_getElem hlt2)
                      have h1 := hl.txt
                      rw [HN0.out, hso] at h1
                      cases h1
                    obtain ⟨W4, rfl⟩ : ∃ W : World, W = w4 := ⟨_, rfl⟩
                    have KS4 := Lib.hid (KS3.out.step hb4)
                    clear hb4 hso KS3
                    go_upto_region 10 with fail
                    refine wp_region_und (by kernel_rfl) (by kernel_rfl) ?_
                    repeat (go_big_quiet_step ((first | fail)))
                    refine wpQuiet_nil ?_
                    intro X hX
                    have HBL := Lib.hid (below_step KS4.out.bel0 hX)
                    clear hX
                    go_wp2
                    go_ret
                    exact BoolAns.no HNL.out HBL.out
                  | some r =>
                    rw [hso] at hans
                    obtain ⟨A9, n9, c9, f9, rfl, hn9, hs9⟩ := hans
                    obtain ⟨W4, rfl⟩ : ∃ W : World, W = w4 := ⟨_, rfl⟩
                    have KS4 := Lib.hid (KS3.out.join hs9)
                    have HSA := Lib.hid hso
                    have hsi := Pl.saysOf_iff.1 hso
                    have HSY : Hid (∀ y, y ∈ r → Pl.sayOk y = true) := fun y hy => (hsi.2 y hy).1
                    have hr60 : n9 ≤ 60 := by have h1 := HLG.out.sum; rw [hsi.1, List.length_map] at h1; omega
                    have HSR := Lib.hid (KS4.out.rdSl 0 rfl)
                    have HT4 : Hid (Tab Bt W4) := HT.out.on KS4.out.bel0
                    have hbw4 := Lib.hid (fun b (hb : b < B) => KS4.out.bel0.block b (by have := HBW.out; omega))
                    have hBW4 : B ≤ W4.heap.size := by have := HBW.out; have := KS4.out.bel0.size; omega
                    clear hs9 hso hsi hn9 KS3
                    obtain ⟨hd, b1, o1, AH, mH, dH, hxh, hA1, -, hrh, hoi, h0, h1⟩ := rHead_get (R1.out.keep (w' := W4) hbw4.out) hlt
                    subst hA1
                    obtain ⟨kp, b2, o2, AK, mK, dK, hxk, hA2, -, hrk, hoj, k0, k1⟩ := rHead_get (R2.out.keep (w' := W4) hbw4.out) hlt
                    subst hA2
                    have HXH := Lib.hid hxh
                    have HXK := Lib.hid hxk
                    have HHD : Hid (rHead.at_ W4 W4.heap.size hd [.slice AH mH dH, .int .i64 hd.Offset]) := rHead_at_mk (hrh.more hBW4) hoi
                    have HKP : Hid (rHead.at_ W4 W4.heap.size kp [.slice AK mK dK, .int .i64 kp.Offset]) := rHead_at_mk (hrk.more hBW4) hoj
                    clear hxh hxk hrh hrk
                    obtain ⟨fb1, HQ1⟩ := exists_bool (Pl.FoldOf hd r)
                    obtain ⟨fb2, HQ2⟩ := exists_bool (Pl.FoldOf kp r)
                    have HB1 := Lib.hid HQ1
                    have HB2 := Lib.hid HQ2
                    clear HQ1 HQ2
                    go_upto_region 10 with fail
                    have d1 := KS4.out.cell (k := 1) 2 rfl rfl
                    have d2 := KS4.out.cell (k := 2) 2 rfl rfl
                    have CF1 := fun z : Und W4 => und_call z (BoolAns.fix HB1.out (isFolded_c hd r [.slice AH mH dH, .int .i64 hd.Offset] A9 n9 c9 (und W4 z) W4.heap.size Bt (rHead.keep HHD.out fun b hb => z.h.block b hb) (HSR.out.und (Nat.le_refl _) z) (und_size z) HSY.out hr60 (HT4.out.on z.h)))
                    have CF2 := fun z : Und W4 => und_call z (BoolAns.fix HB2.out (isFolded_c kp r [.slice AK mK dK, .int .i64 kp.Offset] A9 n9 c9 (und W4 z) W4.heap.size Bt (rHead.keep HKP.out fun b hb => z.h.block b hb) (HSR.out.und (Nat.le_refl _) z) (und_size z) HSY.out hr60 (HT4.out.on z.h)))
                    change ∀ z : Und W4, Calls Tryz.prog 132 #[.agg #[.slice AH mH dH, .int .i64 hd.Offset], .slice A9 n9 c9] (und W4 z) _ at CF1
                    change ∀ z : Und W4, Calls Tryz.prog 132 #[.agg #[.slice AK mK dK, .int .i64 kp.Offset], .slice A9 n9 c9] (und W4 z) _ at CF2
                    obtain ⟨oh, hoh⟩ : ∃ o : Int, hd.Offset = o := ⟨_, rfl⟩
                    obtain ⟨ok, hok⟩ : ∃ o : Int, kp.Offset = o := ⟨_, rfl⟩
                    rw [hoh] at CF1 h1
                    rw [hok] at CF2 k1
                    have HOH := Lib.hid hoh
                    have HOK2 := Lib.hid hok
                    clear hoh hok
                    obtain ⟨bl, hbl⟩ : ∃ b, decide (oh < ok) = b := ⟨_, rfl⟩
                    have HBLE := Lib.hid hbl
                    cases fb1
                    all_goals cases fb2
                    all_goals cases bl
                    case true.true.false =>
                      have HPK : Hid (Pl.PartOk n0 k x hd kp r) := ⟨HLG.out, HFR.out, HBG.out, HSA.out, HB1.out.1 rfl, HB2.out.1 rfl, by rw [HOH.out, HOK2.out]; have := of_decide_eq_false HBLE.out; omega⟩
                      have HUN : Hid (∀ i g a b, i < k + 1 → h.Logs[i]? = some g → h.Heads[i]? = some a → h.Kept[i]? = some b → ∃ l, Pl.PartOk n0 i g a b l) := fun i g a b hi hg ha hb => by
                        rcases Nat.lt_succ_iff_lt_or_eq.1 hi with h1 | rfl
                        · exact HU.out i g a b h1 hg ha hb
                        · rw [HX.out] at hg; rw [HXH.out] at ha; rw [HXK.out] at hb
                          injection hg with hg; injection ha with ha; injection hb with hb
                          subst hg; subst ha; subst hb
                          exact ⟨r, HPK.out⟩
                      refine wp_region_und (by kernel_rfl) (by kernel_rfl) ?_
                      repeat (go_big_quiet_step ((first | (first | (go_at_call 132; with_reducible exact CF1 _) | (go_at_call 132; with_reducible exact CF2 _)))))
                      refine wpQuiet_nil ?_
                      intro X hX
                      have HSX := Lib.hid ((KS4.out.step hX).sel [2] (by decide) rfl)
                      clear hX
                      go_wp2
                      go_roundg (n0 - (k + 1))
                      case measure => omega
                      case rel => exact ⟨k + 1, Nat.le_refl _, by omega, by go_num, HUN.out, HSX.out⟩
                    all_goals
                      have HNL : Hid (¬ Pl.HouseOk h) := fun hk => by
                        obtain ⟨l, hl⟩ := hk.part k x hd kp HX.out HXH.out HXK.out
                        have hlr : l = r := by
                          have h1 := hl.txt
                          rw [HN0.out] at h1
                          exact Option.some.inj (h1.symm.trans HSA.out)
                        subst hlr
                        have h2 := HB1.out.2 hl.hdf
                        have h3 := HB2.out.2 hl.kpf
                        have h4 := hl.le
                        rw [HOH.out, HOK2.out] at h4
                        have h5 := HBLE.out
                        first | (cases h2; done) | (cases h3; done) | (have := of_decide_eq_true h5; omega)
                      refine wp_region_und (by kernel_rfl) (by kernel_rfl) ?_
                      repeat (go_big_quiet_step ((first | (first | (go_at_call 132; with_reducible exact CF1 _) | (go_at_call 132; with_reducible exact CF2 _)))))
                      refine wpQuiet_nil ?_
                      intro X hX
                      have HBL := Lib.hid (below_step KS4.out.bel0 hX)
                      clear hX
                      go_wp2
                      go_ret
                      exact BoolAns.no HNL.out HBL.out
                · have z2 : (bg != 0) = true := by simpa using hbg0
                  have HNL : Hid (¬ Pl.HouseOk h) := fun hk => by
                    have hlt1 : k < h.Heads.length := by have := HN1.out; omega
                    have hlt2 : k < h.Kept.length := by have := HN2.out; omega
                    obtain ⟨l, hl⟩ := hk.part k x _ _ HX.out (List.getElem?_eq_getElem hlt1) (List.getElem?_eq_getElem hlt2)
                    exact hbg0 (HBE.out.symm.trans hl.bg)
                  clear hbg0
                  go_wp2
                  go_ret
                  exact BoolAns.no HNL.out HBL.out
              · have z1 : (pf != 0) = true := by simpa using hpf0
                have HNL : Hid (¬ Pl.HouseOk h) := fun hk => by
                  have hlt1 : k < h.Heads.length := by have := HN1.out; omega
                  have hlt2 : k < h.Kept.length := by have := HN2.out; omega
                  obtain ⟨l, hl⟩ := hk.part k x _ _ HX.out (List.getElem?_eq_getElem hlt1) (List.getElem?_eq_getElem hlt2)
                  exact hpf0 (HFZ.out.symm.trans hl.fr)
                clear hpf0
                go_wp2
                go_ret
                exact BoolAns.no HNL.out HBL.out
          · obtain rfl : k = n0 := by omega
            have fc : ¬ ((k : Nat) : Int) < (k : Nat) := by omega
            have HY : Hid (Pl.HouseOk h) := ⟨by have := HN0.out; omega, by have := HN0.out; omega, by rw [HN1.out, HN0.out], by rw [HN2.out, HN0.out], fun i g a b hg ha hb => by rw [HN0.out]; exact HU.out i g a b (by have := (List.getElem?_eq_some_iff.1 hg).1; have := HN0.out; omega) hg ha hb⟩
            have HBL := Lib.hid HS.out.bel0
            go_wp2
            go_ret
            exact BoolAns.yes HY.out HBL.out
      · have hz : ((n2 : Int) != (n0 : Int)) = true := by simp; omega
        have HNL : Hid (¬ Pl.HouseOk h) := fun hk => h2 (by rw [← HN2.out, ← HN0.out]; exact hk.kpn)
        subst h1
        clear h2
        go_wp2_with (go_at_call 55; (with_reducible refine (within_isJ hin _).mono ?_); rintro e w' ⟨rfl, rfl⟩)
        go_ret
        exact BoolAns.no HNL.out HBL.out
    · have hz : ((n1 : Int) != (n0 : Int)) = true := by simp; omega
      have HNL : Hid (¬ Pl.HouseOk h) := fun hk => h1 (by rw [← HN1.out, ← HN0.out]; exact hk.hdn)
      clear h1
      go_wp2_with (go_at_call 55; (with_reducible refine (within_isJ hin _).mono ?_); rintro e w' ⟨rfl, rfl⟩)
      go_ret
      exact BoolAns.no HNL.out HBL.out
  · have hin : Pl.isIn (n0 : Int) 1 3 = false := by unfold Pl.isIn; simp; omega
    have HNL : Hid (¬ Pl.HouseOk h) := fun hk => hn ⟨by rw [← HN0.out]; exact hk.n1, by rw [← HN0.out]; exact hk.n3⟩
    clear hn
    go_wp2_with (go_at_call 55; (with_reducible refine (within_isJ hin _).mono ?_); rintro e w' ⟨rfl, rfl⟩)
    go_ret
    exact BoolAns.no HNL.out HBL.out
end Go.Proofs.YtbhmdnjammnlnaaGreatDoor

namespace Go.Proofs.YtbhmdnjammnlnaaGreatDoor
open Go.RowKit
namespace Mm
structure Css {α : Type} (E : Rep α) (w : World) (B : Nat) (xs : List α) (css : List (List Value)) : Prop where
  len : css.length = xs.length
  at_ : ∀ (i : Nat) (x : α) (y : List Value), xs[i]? = some x → css[i]? = some y → E.at_ w B x y
section
variable {α : Type} {E : Rep α} {e : TypeId} {w w' : World} {B B' : Nat} {xs ys : List α} {A : Option Addr} {n c : Nat} {css dss : List (List Value)}
theorem Css.size (h : Css E w B xs css) : ∀ y ∈ css, y.length = E.size := fun y hy => by
  obtain ⟨i, hi, rfl⟩ := List.mem_iff_getElem.1 hy
  have hx := List.getElem?_eq_getElem (show i < xs.length by rw [← h.len]; exact hi)
  exact E.len (h.at_ i _ _ hx (List.getElem?_eq_getElem hi))
theorem Css.keep (h : Css E w B xs css) (k : ∀ b, b < B → w'.heap[b]? = w.heap[b]?) : Css E w' B xs css := ⟨h.len, fun i x y hx hy => E.keep (h.at_ i x y hx hy) k⟩
theorem Css.more (h : Css E w B xs css) (k : B ≤ B') : Css E w B' xs css := ⟨h.len, fun i x y hx hy => E.more (h.at_ i x y hx hy) k⟩
theorem Css.flat_len (h : Css E w B xs css) : (css.flatMap id).length = xs.length * E.size := by
  have hs := h.size
  rw [← h.len]
  clear h
  induction css with
  | nil => simp
  | cons z t ih => rw [List.flatMap_cons, List.length_append, ih (fun y hy => hs y (by simp [hy])), id, hs z (by simp), List.length_cons, Nat.add_mul]; omega
theorem SlAt.cellsOf (h : SlAt E w B xs A n c) : ∃ css, Css E w B xs css ∧ ∀ a, A = some a → ∀ j u, (css.flatMap id)[j]? = some u → w.cell? (a.add j) = some u := by
  have step : ∀ k, k ≤ n → ∃ css : List (List Value), css.length = k ∧ ∀ i x y, xs[i]? = some x → css[i]? = some y → E.at_ w B x y ∧ ∃ b off, A = some ⟨b, off, none⟩ ∧ ∀ j u, y[j]? = some u → w.cell? ⟨b, off + i * E.size + j, none⟩ = some u := by
    intro k
    induction k with
    | zero => intro _; exact ⟨[], rfl, fun i x y _ hy => by simp at hy⟩
    | succ k ih =>
      intro hk
      obtain ⟨css, h1, h2⟩ := ih (by omega)
      obtain ⟨x0, b, off, cs, hx0, hA, hb, ha, hc⟩ := h.get (k := k) (by omega)
      refine ⟨css ++ [cs], by rw [List.length_append, h1]; rfl, fun i x y hx hy => ?_⟩
      by_cases hi : i < k
      · rw [List.getElem?_append_left (by omega)] at hy
        exact h2 i x y hx hy
      · rw [List.getElem?_append_right (by omega), h1] at hy
        obtain rfl : i = k := by
          have := (List.getElem?_eq_some_iff.1 hy).1
          simp at this; omega
        simp at hy
        subst hy
        rw [hx0] at hx
        injection hx with hx
        subst hx
        exact ⟨ha, b, off, hA, hc⟩
  obtain ⟨css, h1, h2⟩ := step n (Nat.le_refl _)
  have hC : Css E w B xs css := ⟨by rw [h1, h.1], fun i x y hx hy => (h2 i x y hx hy).1⟩
  refine ⟨css, hC, fun a hA j u hu => ?_⟩
  obtain ⟨i, r, y, rfl, h3, h4⟩ := flatMap_inv id E.size css hC.size j u hu
  have hx := List.getElem?_eq_getElem (show i < xs.length by rw [← hC.len]; exact (List.getElem?_eq_some_iff.1 h3).1)
  obtain ⟨_, b, off, hA', hc⟩ := h2 i _ y hx h3
  rw [hA] at hA'
  injection hA' with hA'
  subst hA'
  rw [Addr.add_lit, ← Nat.add_assoc]
  exact hc r u h4
end
section
variable {P : Program} {w : World} {e : TypeId} {v : Value} {xs news : List Value} {n m c : Nat} {A : Option Addr}
theorem run_append_row (t ty : TypeId) (i : TypeInfo) (z : Value) (size bytes : Nat) (ht : P.underlying t = some (.slice e)) (hi : P.info? e = some i) (hz : i.zero = some z) (hsize : i.size = size) (hby : i.bytes = bytes) (hzs : z.cells.size = size) (hsz : 0 < size)
    (hown : w.ownsRow 0 e size v n xs) (hA : A = none → m = 0 ∧ c = 0) (hl : news.length = m * size) (hnews : ∀ a, A = some a → ∀ j u, news[j]? = some u → w.cell? (a.add j) = some u) (h1 : ∀ u ∈ news, u.oneCell' = true) (h63 : n + m ≤ maxLen) (hbytes : (n + m) * bytes ≤ 140737488355328) :
    ∃ v' w', (Builtin.append_ #[t, t] ty #[v, .slice A m c]).run P w = .ok v' w' ∧ w'.ownsRow 0 e size v' (n + m) (xs ++ news) ∧ w.grownBy w' v.ownBlock ∧ (v'.ownBlock = v.ownBlock ∨ v'.ownBlock = some w.heap.size) := by
  cases A with
  | none =>
    obtain ⟨rfl, rfl⟩ := hA rfl
    have hn0 : news = [] := List.length_eq_zero_iff.1 (by omega)
    subst hn0
    refine ⟨v, w, run_append_owned_none (P := P) w 0 t ty e i size ht hi v n xs hown, ?_, ⟨rfl, rfl, rfl, Nat.le_refl _, fun _ _ _ => rfl⟩, .inl rfl⟩
    rw [List.append_nil]
    exact hown
  | some a =>
    obtain ⟨v', w', hr, h2, h3, _, h5⟩ := run_append_own_at (P := P) w 0 t ty e i z size bytes ht hi hz hsize hby hzs hsz v n xs hown a m c news hl (hnews a rfl) h1 h63 hbytes (Nat.zero_le _)
    exact ⟨v', w', hr, h2, h3, h5⟩
end
end Mm
end Go.Proofs.YtbhmdnjammnlnaaGreatDoor

namespace Go.Proofs.YtbhmdnjammnlnaaGreatDoor
open Go.RowKit
namespace Mm
section
variable {α : Type} {E : Rep α} {e : TypeId} {w : World} {xs : List α} {v : Value} {fp : List Nat}
theorem SlOwn.insLate (h : SlOwn E e w xs v fp) {k : Nat} (hk : k ≤ xs.length) (hnd : fp.Nodup) :
    ∃ l, w.ownsRow 0 e E.size v xs.length l ∧ (∀ u ∈ l, u.oneCell' = true) ∧ ∀ w' v' x cx fx, Below w.heap.size w w' → E.own w' x cx fx → fx.Nodup → (∀ b, b ∈ fx → w.heap.size ≤ b) → w'.ownsRow 0 e E.size v' (xs.length + 1) (l.take (k * E.size) ++ cx ++ l.drop (k * E.size)) → (∀ g, v'.ownBlock = some g → w.heap.size ≤ g ∧ g ∉ fx) →
      ∃ fp', SlOwn E e w' (insertAt xs k x) v' fp' ∧ fp'.Nodup ∧ ∀ b, b ∈ fp' → b ∈ fp ∨ w.heap.size ≤ b := by
  have hlt := h.olt
  obtain ⟨es, he, ho, rfl⟩ := h
  refine ⟨_, ho, fun u hu => ?_, fun w' v' x cx fx hb hx hxd hxf ho' hat => ?_⟩
  · obtain ⟨y, hy, hu⟩ := List.mem_flatMap.1 hu
    obtain ⟨z, _, hz⟩ := he.mem hy
    exact E.one hz u hu
  have hkeep : ∀ b, b ∈ es.flatMap (·.2) → w'.heap[b]? = w.heap[b]? := fun b hb' => hb.block b (hlt b (List.mem_append_right _ hb'))
  have hke : k ≤ es.length := by rw [he.1]; exact hk
  have hp : ((insertAt es k (cx, fx)).flatMap (·.2)).Perm (fx ++ es.flatMap (·.2)) := by
    have := (insertAt_perm es k (cx, fx)).flatMap_right (fun y => y.2)
    rwa [List.flatMap_cons] at this
  refine ⟨_, ⟨insertAt es k (cx, fx), ⟨by rw [insertAt_len, insertAt_len, he.1], fun i y z hy hz => ?_⟩, ?_, rfl⟩, ?_, ?_⟩
  · rcases insertAt_get hk hy with ⟨h1, h2⟩ | ⟨h1, h2⟩ | ⟨h1, h2⟩
    · rcases insertAt_get hke hz with ⟨g1, g2⟩ | ⟨g1, g2⟩ | ⟨g1, g2⟩
      · exact E.okeep (he.2 i y z h2 g2) fun b hb => hkeep b (List.mem_flatMap.2 ⟨z, List.mem_of_getElem? g2, hb⟩)
      · omega
      · omega
    · rcases insertAt_get hke hz with ⟨g1, g2⟩ | ⟨g1, g2⟩ | ⟨g1, g2⟩
      · omega
      · subst h2; subst g2
        exact hx
      · omega
    · rcases insertAt_get hke hz with ⟨g1, g2⟩ | ⟨g1, g2⟩ | ⟨g1, g2⟩
      · omega
      · omega
      · exact E.okeep (he.2 _ y z h2 g2) fun b hb => hkeep b (List.mem_flatMap.2 ⟨z, List.mem_of_getElem? g2, hb⟩)
  · rw [insertAt_len, insertAt_flat (·.1) E.size es k (cx, fx) he.len]
    exact ho'
  · have h1 : v'.ownBlock.toList.Nodup := by cases v'.ownBlock <;> simp
    rw [List.nodup_append] at hnd ⊢
    refine ⟨h1, ?_, fun a ha b hb hab => ?_⟩
    · rw [hp.nodup_iff, List.nodup_append]
      exact ⟨hxd, hnd.2.1, fun a ha b hb hab => by
        subst hab
        have := hxf a ha
        have := hlt a (List.mem_append_right _ hb)
        omega⟩
    · subst hab
      have h2 := hat a (by simpa using ha)
      rcases List.mem_append.1 (hp.mem_iff.1 hb) with hb | hb
      · exact h2.2 hb
      · have := hlt a (List.mem_append_right _ hb); omega
  · intro b hb
    rcases List.mem_append.1 hb with hb | hb
    · exact .inr (hat b (by simpa using hb)).1
    · rcases List.mem_append.1 (hp.mem_iff.1 hb) with hb | hb
      · exact .inr (hxf b hb)
      · exact .inl (List.mem_append_right _ hb)
theorem SepF.insLate {F : List Nat} {w0 wr : World} {ts : List Thing} (h : SepF F w0 wr ts) (i : Nat) {k : Nat} (hi : ts[i]? = some (tsl E e xs v fp)) (hk : k ≤ xs.length) :
    ∃ l, wr.ownsRow 0 e E.size v xs.length l ∧ (∀ u ∈ l, u.oneCell' = true) ∧ ∀ w' v' x cx fx, Below wr.heap.size wr w' → E.own w' x cx fx → fx.Nodup → (∀ b, b ∈ fx → wr.heap.size ≤ b) → w'.ownsRow 0 e E.size v' (xs.length + 1) (l.take (k * E.size) ++ cx ++ l.drop (k * E.size)) → (∀ g, v'.ownBlock = some g → wr.heap.size ≤ g ∧ g ∉ fx) →
      ∃ fp', SepF F w0 w' (ts.set i (tsl E e (insertAt xs k x) v' fp')) := by
  obtain ⟨l, k1, k2, k3⟩ := (h.sl i hi).insLate hk (h.ndat hi)
  refine ⟨l, k1, k2, fun w' v' x cx fx hb hx hxd hxf ho' hat => ?_⟩
  obtain ⟨fp', m1, m2, m3⟩ := k3 w' v' x cx fx hb hx hxd hxf ho' hat
  exact ⟨fp', h.upd hi (Chg.of_below hb) m1 m2 m3⟩
end
theorem rowKeepK {w w' : World} {base S : Nat} {e : TypeId} {v : Value} {n : Nat} {xs : List Value} (h : w.ownsRow base e S v n xs) (hk : ∀ g, v.ownBlock = some g → w'.heap[g]? = w.heap[g]?) : w'.ownsRow base e S v n xs := by
  refine ⟨h.1, h.2.imp id ?_⟩
  rintro ⟨g, cap, cur, rfl, h1, h2, h3⟩
  exact ⟨g, cap, cur, rfl, h1, (hk g rfl).trans h2, h3⟩
theorem rowFormK {w : World} {S : Nat} {e : TypeId} {v : Value} {n : Nat} {xs : List Value} (h : w.ownsRow 0 e S v n xs) : ∃ A c, v = .slice A n c := by
  rcases h.2 with ⟨h1, h2⟩ | ⟨g', cap, cur, h1, _⟩
  · exact ⟨none, 0, by rw [h1, h2]⟩
  · exact ⟨_, cap, h1⟩
end Mm
set_option maxRecDepth 100000 in
theorem put3R (W : World) (A1 A3 : Option Addr) (n p m3 c1 c3 : Nat) (lc : List Value) (ho : W.ownsRow 0 139 2 (.slice A1 n c1) n lc) (h1c : ∀ u ∈ lc, u.oneCell' = true) (hp : p ≤ n) (hn : n ≤ 100) (hA1 : A1 = none → p = 0 ∧ c1 = 0) (hm : m3 = n - p) (hA3 : A3 = none → m3 = 0 ∧ c3 = 0) (hs1 : ∀ a, A1 = some a → ∀ j u, (lc.take (p * 2))[j]? = some u → W.cell? (a.add j) = some u) (hs3 : ∀ a, A3 = some a → ∀ j u, (lc.drop (p * 2))[j]? = some u → W.cell? (a.add j) = some u) :
    ∃ A8 c8 w8, (∀ ty, (Builtin.append_ #[71, 71] ty #[.slice (some ⟨W.heap.size, 0, none⟩) 0 0, .slice A1 p c1]).run Tryz.prog (W.alloc (.cells #[] 139)) = .ok (.slice A8 p c8) w8) ∧ Below W.heap.size W w8 ∧ (∀ g, (Value.slice A8 p c8).ownBlock = some g → W.heap.size ≤ g ∧ g < w8.heap.size) ∧
    ∀ V (ct : List Value), Below w8.heap.size w8 V → ct.length = 2 → (∀ u ∈ ct, u.oneCell' = true) →
    ∃ A10 c10 w10, (∀ ty, (Builtin.append_ #[71, 71] ty #[.slice A8 p c8, .slice (some ⟨V.heap.size, 0, none⟩) 1 1]).run Tryz.prog (V.alloc (.cells ct.toArray 139)) = .ok (.slice A10 (p + 1) c10) w10) ∧
    (∀ k, k < V.heap.size → (Value.slice A8 p c8).ownBlock ≠ some k → w10.heap[k]? = V.heap[k]?) ∧
    ∃ A11 c11 w11, (∀ ty, (Builtin.append_ #[71, 71] ty #[.slice A10 (p + 1) c10, .slice A3 m3 c3]).run Tryz.prog w10 = .ok (.slice A11 (n + 1) c11) w11) ∧
      w11.ownsRow 0 139 2 (.slice A11 (n + 1) c11) (n + 1) (lc.take (p * 2) ++ ct ++ lc.drop (p * 2)) ∧ Below W.heap.size W w11 ∧ (∀ k, k < V.heap.size → (Value.slice A8 p c8).ownBlock ≠ some k → w11.heap[k]? = V.heap[k]?) ∧ (∀ g, (Value.slice A11 (n + 1) c11).ownBlock = some g → (Value.slice A8 p c8).ownBlock = some g ∨ V.heap.size ≤ g) := by
  obtain ⟨i0, hi, hz0, hzs, hzb⟩ := info_parts Tryz.infoRowI
  have hcl := ho.1
  have hU := Tryz.underlying71
  have k0 : Below W.heap.size W (W.alloc (.cells #[] 139)) := below_new (Below.refl _ _) _
  have hblk : ∀ {V : World}, Below W.heap.size W V → ∀ (a : Addr) j u, W.cell? (a.add j) = some u → V.cell? (a.add j) = some u := fun hb a j u h => below_some hb h
  have r0 : (W.alloc (.cells #[] 139)).ownsRow 0 139 2 (.slice (some ⟨W.heap.size, 0, none⟩) 0 0) 0 [] := ⟨rfl, .inr ⟨W.heap.size, 0, #[], rfl, Nat.zero_le _, heap_alloc_new W _, Nat.le_refl _, Nat.zero_le _, rfl, rfl⟩⟩
  have ap : ∀ {V : World} {v : Value} {nn : Nat} {xs news : List Value} {A : Option Addr} {mm cc : Nat}, V.ownsRow 0 139 2 v nn xs → (A = none → mm = 0 ∧ cc = 0) → news.length = mm * 2 → (∀ a, A = some a → ∀ j u, news[j]? = some u → V.cell? (a.add j) = some u) → (∀ u ∈ news, u.oneCell' = true) → nn + mm ≤ 1000 →
      ∃ v' w', (∀ ty, (Builtin.append_ #[71, 71] ty #[v, .slice A mm cc]).run Tryz.prog V = .ok v' w') ∧ w'.ownsRow 0 139 2 v' (nn + mm) (xs ++ news) ∧ V.grownBy w' v.ownBlock ∧ (v'.ownBlock = v.ownBlock ∨ v'.ownBlock = some V.heap.size) := by
    intro V v nn xs news A mm cc q1 q2 q3 q4 q5 q6
    obtain ⟨v', w', hr, h2, h3, h4⟩ := Mm.run_append_row (P := Tryz.prog) (w := V) 71 0 i0 _ 2 40 hU hi hz0 hzs hzb rfl (by omega) q1 q2 q3 q4 q5 (by unfold maxLen; omega) (by omega)
    exact ⟨v', w', fun ty => hr, h2, h3, h4⟩
  obtain ⟨v8, w8, e1, r1, g1, o1⟩ := ap r0 hA1 (by rw [List.length_take, hcl]; omega) (fun a ha j u hj => hblk k0 a j u (hs1 a ha j u hj)) (fun u hu => h1c u (List.mem_of_mem_take hu)) (by omega)
  rw [Nat.zero_add, List.nil_append] at r1
  obtain ⟨A8, c8, rfl⟩ := Mm.rowFormK r1
  have k1 : Below W.heap.size W w8 := k0.grown g1 k0.size (fun k hk => by simp [Value.ownBlock] at hk; omega)
  have n1 : ∀ g, (Value.slice A8 p c8).ownBlock = some g → W.heap.size ≤ g ∧ g < w8.heap.size := fun g hg => ⟨by
    rcases o1 with h | h
    · rw [hg] at h; simp [Value.ownBlock] at h; omega
    · rw [hg] at h; injection h with h; have := k0.size; omega, (r1.lt g hg).2⟩
  refine ⟨A8, c8, w8, e1, k1, n1, fun V ct hV hct h1 => ?_⟩
  have kV : Below W.heap.size W V := below_step k1 hV
  have k2 : Below W.heap.size W (V.alloc (.cells ct.toArray 139)) := below_new kV _
  have hsz : w8.heap.size ≤ V.heap.size := hV.size
  have r2 : (V.alloc (.cells ct.toArray 139)).ownsRow 0 139 2 (.slice A8 p c8) p (lc.take (p * 2)) := Mm.rowKeepK r1 (fun g hg => (heap_alloc_old V _ (Nat.lt_of_lt_of_le (n1 g hg).2 hsz)).trans (hV.block g (n1 g hg).2))
  have nb := Mm.Blk.new V 139 ct
  obtain ⟨v10, w10, e2, r3, g2, o2⟩ := ap (A := some ⟨V.heap.size, 0, none⟩) (mm := 1) (cc := 1) (news := ct) r2 (fun h => by cases h) (by omega) (fun a ha j u hj => by injection ha with ha; subst ha; rw [Mm.add0]; exact nb.cell hj) h1 (by omega)
  obtain ⟨A10, c10, rfl⟩ := Mm.rowFormK r3
  have k3 : Below W.heap.size W w10 := k2.grown g2 k2.size (fun k hk => (n1 k hk).1)
  have hs2 : (V.alloc (.cells ct.toArray 139)).heap.size = V.heap.size + 1 := Mm.sz1 _ _
  have hK1 : ∀ k, k < V.heap.size → (Value.slice A8 p c8).ownBlock ≠ some k → w10.heap[k]? = V.heap[k]? := fun k hk hn => (g2.block k (by omega) (fun hh => hn hh.symm)).trans (heap_alloc_old V _ hk)
  have n2 : ∀ g, (Value.slice A10 (p + 1) c10).ownBlock = some g → (Value.slice A8 p c8).ownBlock = some g ∨ V.heap.size ≤ g := fun g hg => by
    rcases o2 with h | h
    · rw [hg] at h; exact .inl h.symm
    · rw [hg] at h; injection h with h; exact .inr (by omega)
  have n2' : ∀ g, (Value.slice A10 (p + 1) c10).ownBlock = some g → W.heap.size ≤ g := fun g hg => by
    rcases n2 g hg with h | h
    · exact (n1 g h).1
    · have := kV.size; omega
  refine ⟨A10, c10, w10, e2, hK1, ?_⟩
  obtain ⟨v11, w11, e3, r4, g3, o3⟩ := ap r3 hA3 (by rw [List.length_drop, hcl, hm]; omega) (fun a ha j u hj => hblk k3 a j u (hs3 a ha j u hj)) (fun u hu => h1c u (List.mem_of_mem_drop hu)) (by omega)
  rw [show p + 1 + m3 = n + 1 by omega] at r4
  obtain ⟨A11, c11, rfl⟩ := Mm.rowFormK r4
  have hs10 : V.heap.size < w10.heap.size := by have := g2.size; omega
  refine ⟨A11, c11, w11, e3, r4, k3.grown g3 k3.size (fun k hk => n2' k hk), fun k hk hn => ?_, fun g hg => ?_⟩
  · refine (g3.block k (by omega) (fun hh => ?_)).trans (hK1 k hk hn)
    rcases n2 k hh.symm with h | h
    · exact hn h
    · omega
  · rcases o3 with h | h
    · rw [hg] at h; exact n2 g h.symm
    · rw [hg] at h; injection h with h; exact .inr (by omega)
end Go.Proofs.YtbhmdnjammnlnaaGreatDoor

namespace Go.Proofs.YtbhmdnjammnlnaaGreatDoor
open Go.RowKit
attribute [local go_sem] und_cell cha_cell World.cell?_alloc_some
def TakeR (h : Head) (x : Say) (fp : List Nat) (w : World) (e : Ending) (w' : World) : Prop :=
  ∃ A' m' d' fp', e = .returned (.tuple #[.agg #[.slice A' m' d', .int .i64 (h.Offset + 1)], .int .i64 (Pl.takeS h x).2]) ∧ Mm.SepF fp w w' [Mm.tsl rRow 139 (Pl.takeS h x).1.Rows (.slice A' m' d') fp']
theorem Mm.oneSmp {w : World} {g : Nat} {x : Sample} (hb : Mm.Blk w g 124 [.int .i64 x.At, .int .i64 x.Value]) (hi : Mm.I64 x.At ∧ Mm.I64 x.Value) : Mm.SlOwn smp 124 w [x] (.slice (some ⟨g, 0, none⟩) 1 1) [g] := by
  refine ⟨[([.int .i64 x.At, .int .i64 x.Value], [])], ⟨rfl, fun i a b ha hb => ?_⟩, ?_, by simp [Value.ownBlock]⟩
  · cases i with
    | zero => simp at ha hb; subst ha; subst hb; exact smp_own_mk hi
    | succ i => simp at ha
  · exact ⟨rfl, .inr ⟨g, 1, _, rfl, Nat.zero_le _, hb, Nat.le_refl _, by unfold maxLen; omega, rfl, rfl⟩⟩
set_option maxRecDepth 100000 in
set_option maxHeartbeats 4000000 in
theorem l13Take_c (h : Head) (x : Say) (A : Option Addr) (m d : Nat) (fp : List Nat) (w : World) (hs : Mm.SlOwn rRow 139 w h.Rows (.slice A m d) fp) (hnd : fp.Nodup) (hw : Pl.HW h) (off : 0 ≤ h.Offset ∧ h.Offset ≤ 1000000) (nm : x.Name.size ≤ maxLen) (ia : Mm.I64 x.At) (iv : Mm.I64 x.Value) :
    Calls Tryz.prog 128 #[.agg #[.slice A m d, .int .i64 h.Offset], .agg #[.string x.Name, .int .i64 x.At, .int .i64 x.Value]] w (TakeR h x fp w) := by
  have HML : Hid (m = h.Rows.length) := by obtain ⟨_, _, _, hv, q1, _⟩ := hs.form; injection hv with _ q2 _; exact q2.trans q1
  have HW := Lib.hid hw
  have hm8 : m ≤ 8 := by rw [HML.out]; exact hw.len
  have hf0 := off.1
  have hf1 := off.2
  have HI := Lib.hid (show Mm.I64 x.At ∧ Mm.I64 x.Value from ⟨ia, iv⟩)
  have HNM := Lib.hid nm
  obtain ⟨o1, ho1⟩ : ∃ o1, h.Offset + 1 = o1 := ⟨_, rfl⟩
  have f1 : IntKind.i64.wrap (h.Offset + 1) = o1 := by rw [IntWalk.i64_in _ (by omega)]; exact ho1
  have HO1 := Lib.hid ho1
  obtain ⟨p, hp⟩ : ∃ p, Pl.rpos x.Name h.Rows = p := ⟨_, rfl⟩
  have HP := Lib.hid hp
  have hpm : p ≤ m := by rw [HML.out, ← hp]; exact Pl.rpos_le _ _
  have HS0 : Mm.SepF fp w w [Mm.tsl rRow 139 h.Rows (.slice A m d) fp] := Mm.SepF.one (Mm.tsl rRow 139 h.Rows (.slice A m d) fp) w hs hnd
  obtain ⟨gh, hgh⟩ : ∃ g, w.heap.size = g := ⟨_, rfl⟩
  obtain ⟨gx, hgx⟩ : ∃ g, gh + 1 = g := ⟨_, rfl⟩
  obtain ⟨gr, hgr⟩ : ∃ g, gx + 1 = g := ⟨_, rfl⟩
  obtain ⟨W0, hW0⟩ : ∃ W, ((w.alloc (.cells #[.slice A m d, .int .i64 h.Offset] 73)).alloc (.cells #[.string x.Name, .int .i64 x.At, .int .i64 x.Value] 55)).alloc (.cells #[.slice none 0 0, .int .i64 0] 73) = W := ⟨_, rfl⟩
  have HS := Lib.hid ((((HS0.alloc' hgh 73 [.slice A m d, .int .i64 h.Offset]).alloc' (g := gx) (by rw [Mm.sz1, hgh, hgx]) 55 [.string x.Name, .int .i64 x.At, .int .i64 x.Value]).alloc' (g := gr) (by rw [Mm.sz1, Mm.sz1, hgh, hgx, hgr]) 73 [.slice none 0 0, .int .i64 0]).atW hW0)
  clear HS0 hs hnd hw off nm ia iv ho1 hp
  go_enter Tryz.func128, Tryz.ntmps128
  go_upto_region 1 with fail
  clear hW0 hgh hgx hgr
  have b1 := HS.out.cell (k := 1) 2 rfl rfl
  have z1 := HS.out.frz (k := 1) 2 rfl
  go_upto_region 2 with fail
  obtain ⟨W2, hW2⟩ : ∃ W, W0.setCell ⟨gh, 1, none⟩ (.int .i64 o1) = W := ⟨_, rfl⟩
  have HS2 := Lib.hid ((HS.out.setBlk (k := 1) 2 rfl (.int .i64 o1)).atW hW2)
  rw [hW2]
  clear hW2 HS b1 z1 f1
  go_upto_block 0 with fail
  go_cut [6] (fun s6 wx => s6 = .int .i64 p ∧ Hid (Below W2.heap.size W2 wx))
  case first =>
    go_wp2_with fail
    go_loopg [6] m (fun g i wr => ∃ k : Nat, m - k ≤ g ∧ k ≤ p ∧ i = .int .i64 k ∧ Hid (Below W2.heap.size W2 wr))
    case atStart => exact ⟨0, Nat.le_refl _, Nat.zero_le _, rfl, Below.refl _ _⟩
    case round =>
      obtain ⟨k, hg, hk, rfl, HB⟩ := hrel
      obtain ⟨W, rfl⟩ : ∃ W : World, W = wr := ⟨_, rfl⟩
      have HSW := Lib.hid (HS2.out.step HB.out)
      have c0 := HSW.out.cell (k := 0) 2 rfl rfl
      by_cases hlt : k < m
      · obtain ⟨y, b, off, A4, n4, c4, hy, rfl, hb, hnm, hrd, e0, -⟩ := rRow_get ((HSW.out.sl 3 rfl).weak (HSW.out.sl 3 rfl).olt) hlt
        have s0 := HSW.out.cell (k := 0) 1 rfl rfl
        have HY := Lib.hid hy
        have f1 : (k : Int) < (m : Nat) := by omega
        have f2 : (0 : Int) ≤ (k : Nat) := by omega
        have f3 : ((k : Nat) : Int).toNat = k := by omega
        clear hy hb hnm hrd
        cases hls : Pl.lessB (Pl.rnm y) x.Name with
        | true =>
          have hkp : k < p := by
            apply Classical.byContradiction
            intro hh
            have := Pl.rpos_ge x.Name h.Rows HW.out.srt k y (by have := HP.out; omega) HY.out
            rw [hls] at this; cases this
          have hq : Op.bytesLess y.Name.toList x.Name.toList = true := hls
          clear hls
          go_wp2
          refine wp_region_und (by kernel_rfl) (by kernel_rfl) ?_
          repeat (go_big_quiet_step ((first | fail)))
          refine wpQuiet_nil ?_
          intro X hX
          go_wp2
          go_roundg (m - (k + 1))
          case measure => omega
          case rel => exact ⟨k + 1, Nat.le_refl _, by omega, by go_num, below_step HB.out hX⟩
        | false =>
          have HKP : Hid (k = p) := by
            show k = p
            apply Classical.byContradiction
            intro hh
            have := Pl.rpos_lt x.Name h.Rows k y (by have := HP.out; omega) HY.out
            rw [hls] at this; cases this
          have hq : Op.bytesLess y.Name.toList x.Name.toList = false := hls
          clear hls
          go_wp2
          refine wp_region_und (by kernel_rfl) (by kernel_rfl) ?_
          repeat (go_big_quiet_step ((first | fail)))
          refine wpQuiet_nil ?_
          intro X hX
          go_wp2
          go_meet
          exact ⟨by rw [HKP.out], below_step HB.out hX⟩
      · have f1 : ¬ (k : Int) < (m : Nat) := by omega
        have f4 : decide (k < m) = false := by simp; omega
        have HKP : Hid (k = p) := by show k = p; omega
        clear hlt
        go_wp2
        refine wp_region_und (by kernel_rfl) (by kernel_rfl) ?_
        repeat (go_big_quiet_step ((first | fail)))
        refine wpQuiet_nil ?_
        intro X hX
        go_wp2
        go_meet
        exact ⟨by rw [HKP.out], below_step HB.out hX⟩
  case rest =>
  obtain ⟨rfl, HB⟩ := hcut
  obtain ⟨W, rfl⟩ : ∃ W : World, W = wc := ⟨_, rfl⟩
  have HS := Lib.hid (HS2.out.step HB.out)
  clear HS2 HB
  have s1 := HS.out.cell (k := 1) 1 rfl rfl
  have s2 := HS.out.cell (k := 2) 1 rfl rfl
  go_upto_region 6 with fail
  obtain ⟨gs, hgs⟩ : ∃ g, W.heap.size = g := ⟨_, rfl⟩
  obtain ⟨W3, hW3⟩ : ∃ V, W.alloc (.cells #[.int .i64 x.At, .int .i64 x.Value] 124) = V := ⟨_, rfl⟩
  have HS3 := Lib.hid ((HS.out.alloc' hgs 124 [.int .i64 x.At, .int .i64 x.Value]).atW hW3)
  rw [hW3, hgs]
  clear hW3 hgs HS s1 s2
  have c0 := HS3.out.cell (k := 0) 3 rfl rfl
  have s0 := HS3.out.cell (k := 0) 2 rfl rfl
  by_cases hit : ∃ r, h.Rows[p]? = some r ∧ r.Name = x.Name
  · obtain ⟨r, hr, hrn⟩ := hit
    have hne := HW.out.ne r (List.mem_of_getElem? hr)
    have HNE := Lib.hid hne
    have HMS : Hid (Pl.takeS h x = Pl.hitS h p r x) := Lib.hid (by rw [← HP.out]; exact Pl.takeS_hit (by rw [HP.out]; exact hr) hrn)
    have HR := Lib.hid hr
    have hpl : p < m := by have := (List.getElem?_eq_some_iff.1 hr).1; have := HML.out; omega
    obtain ⟨g2, rfl, -, -⟩ := Mm.sl_addr (HS3.out.sl 4 rfl) (by show 0 < h.Rows.length; have := HML.out; omega)
    obtain ⟨_, _, _, _, r0, -⟩ := HS3.out.rowSam 4 rfl hr
    rw [hrn] at r0
    have HRN := Lib.hid hrn
    have f1 : (p : Int) < (m : Nat) := by omega
    have f2 : (0 : Int) ≤ (p : Nat) := by omega
    have f3 : ((p : Nat) : Int).toNat = p := by omega
    clear hr hrn hne
    refine wp_region_und (by kernel_rfl) (by kernel_rfl) ?_
    repeat (go_big_quiet_step ((first | fail)))
    refine wpQuiet_nil ?_
    intro X hX
    have HZ := Lib.hid (HS3.out.step hX)
    clear hX HS3 c0 s0 r0
    obtain ⟨As, ms, ds, fx2, -, r1, hsl, hso2, hfn2, hfx2, hrow⟩ := HZ.out.rowSam 4 rfl HR.out
    have HROW := Lib.hid hrow
    have HSO2 := Lib.hid (And.intro hso2 hfn2)
    have HFX := Lib.hid hfx2
    have HSL : Hid (ms = r.Samples.length) := hsl
    have c0 := HZ.out.cell (k := 0) 3 rfl rfl
    have s1 := HZ.out.cell (k := 1) 2 rfl rfl
    have hms0 : 0 < ms := by
      have h1 := HSL.out
      have h2 : r.Samples.length ≠ 0 := fun hh => HNE.out.1 (List.length_eq_zero_iff.1 hh)
      omega
    have hms40 : ms ≤ 40 := by have := HSL.out; have := HNE.out.2; omega
    obtain ⟨q, hq⟩ : ∃ q, ms - 1 = q := ⟨_, rfl⟩
    have hrd := HSO2.out.1.weak HSO2.out.1.olt
    obtain ⟨y, bm, om, hy, hAs, hbm, -, -, d0, -⟩ := smp_get hrd (show q < ms by omega)
    subst hAs
    have HLA : Hid (Pl.lastAt r = y.At) := Lib.hid (by unfold Pl.lastAt; rw [← HSL.out, hq, Pl.sampleAt_of hy])
    have g1 : (0 : Int) < (ms : Nat) := by omega
    have g2' : IntKind.i64.wrap ((ms : Int) - 1) = (q : Int) := by rw [IntWalk.i64_in _ (by omega)]; omega
    have g3 : (0 : Int) ≤ (q : Nat) := by omega
    have g4 : ((q : Nat) : Int).toNat = q := by omega
    have g5 : (q : Int) < (ms : Nat) := by omega
    clear hrd hy hbm hq hsl hso2 hfn2 hfx2 hrow
    by_cases c1 : y.At = x.At
    · as_aux_lemma =>
      have HF : Hid (Pl.takeS h x = (⟨h.Rows, o1⟩, 2)) := Lib.hid (by rw [HMS.out, ← HO1.out]; exact if_pos (by rw [HLA.out]; exact c1))
      have q1 : (y.At == x.At) = true := by simp [c1]
      clear c1
      have z0 := HZ.out.frz (k := 0) 1 rfl
      have z1 := HZ.out.frz (k := 1) 1 rfl
      have b0 := HZ.out.cell (k := 0) 1 rfl rfl
      have b1 := HZ.out.cell (k := 1) 1 rfl rfl
      have h0 := HZ.out.cell (k := 0) 3 rfl rfl
      have h1 := HZ.out.cell (k := 1) 3 rfl rfl
      have HSF := Lib.hid ((HZ.out.setBlk (k := 0) 1 rfl ((.slice (some ⟨g2, 0, none⟩) m d))).setBlk (k := 1) 1 rfl (.int .i64 o1))
      have u0 := HSF.out.cell (k := 0) 1 rfl rfl
      have u1 := HSF.out.cell (k := 1) 1 rfl rfl
      go_wp2
      exact bodyPost_ret (v := .tuple #[.agg #[(.slice (some ⟨g2, 0, none⟩) m d), .int .i64 o1], .int .i64 2]) (by simp [results, Tryz.results128, go_sem, u0, u1]) rfl ⟨_, _, _, _, by rw [HO1.out, HF.out], by rw [HF.out]; exact HSF.out.sel [4] (by decide) rfl⟩
    · have q1 : (y.At == x.At) = false := by simp [c1]
      by_cases c2 : x.At < y.At
      · as_aux_lemma =>
        have HF : Hid (Pl.takeS h x = (⟨h.Rows, o1⟩, 3)) := Lib.hid (by rw [HMS.out, ← HO1.out]; exact (if_neg (by rw [HLA.out]; exact c1)).trans (if_pos (by rw [HLA.out]; exact c2)))
        clear c1
        have z0 := HZ.out.frz (k := 0) 1 rfl
        have z1 := HZ.out.frz (k := 1) 1 rfl
        have b0 := HZ.out.cell (k := 0) 1 rfl rfl
        have b1 := HZ.out.cell (k := 1) 1 rfl rfl
        have h0 := HZ.out.cell (k := 0) 3 rfl rfl
        have h1 := HZ.out.cell (k := 1) 3 rfl rfl
        have HSF := Lib.hid ((HZ.out.setBlk (k := 0) 1 rfl ((.slice (some ⟨g2, 0, none⟩) m d))).setBlk (k := 1) 1 rfl (.int .i64 o1))
        have u0 := HSF.out.cell (k := 0) 1 rfl rfl
        have u1 := HSF.out.cell (k := 1) 1 rfl rfl
        go_wp2
        exact bodyPost_ret (v := .tuple #[.agg #[(.slice (some ⟨g2, 0, none⟩) m d), .int .i64 o1], .int .i64 3]) (by simp [results, Tryz.results128, go_sem, u0, u1]) rfl ⟨_, _, _, _, by rw [HO1.out, HF.out], by rw [HF.out]; exact HSF.out.sel [4] (by decide) rfl⟩
      · by_cases c3 : ms = 40
        · as_aux_lemma =>
          have HF : Hid (Pl.takeS h x = (⟨h.Rows, o1⟩, 4)) := Lib.hid (by rw [HMS.out, ← HO1.out]; exact (if_neg (by rw [HLA.out]; exact c1)).trans ((if_neg (by rw [HLA.out]; exact c2)).trans (if_pos (by rw [← HSL.out]; exact c3))))
          have q3 : ((ms : Int) == 40) = true := by rw [c3]; rfl
          clear c1 c3
          have z0 := HZ.out.frz (k := 0) 1 rfl
          have z1 := HZ.out.frz (k := 1) 1 rfl
          have b0 := HZ.out.cell (k := 0) 1 rfl rfl
          have b1 := HZ.out.cell (k := 1) 1 rfl rfl
          have h0 := HZ.out.cell (k := 0) 3 rfl rfl
          have h1 := HZ.out.cell (k := 1) 3 rfl rfl
          have HSF := Lib.hid ((HZ.out.setBlk (k := 0) 1 rfl ((.slice (some ⟨g2, 0, none⟩) m d))).setBlk (k := 1) 1 rfl (.int .i64 o1))
          have u0 := HSF.out.cell (k := 0) 1 rfl rfl
          have u1 := HSF.out.cell (k := 1) 1 rfl rfl
          go_wp2
          exact bodyPost_ret (v := .tuple #[.agg #[(.slice (some ⟨g2, 0, none⟩) m d), .int .i64 o1], .int .i64 4]) (by simp [results, Tryz.results128, go_sem, u0, u1]) rfl ⟨_, _, _, _, by rw [HO1.out, HF.out], by rw [HF.out]; exact HSF.out.sel [4] (by decide) rfl⟩
        · as_aux_lemma =>
          have HF : Hid (Pl.takeS h x = (⟨h.Rows.set p ⟨r.Name, r.Samples ++ [⟨x.At, x.Value⟩]⟩, o1⟩, 1)) := Lib.hid (by rw [HMS.out, ← HO1.out]; exact (if_neg (by rw [HLA.out]; exact c1)).trans ((if_neg (by rw [HLA.out]; exact c2)).trans (if_neg (by rw [← HSL.out]; exact c3))))
          have q3 : ((ms : Int) == 40) = false := by rw [beq_eq_false_iff_ne]; omega
          clear c1 c3
          go_upto_region 15 with fail
          clear d0 s1 q1 q3 c2 g1 g2' g3 g4 g5
          obtain ⟨i0, hi, hz0, hz1, hz2⟩ := info_parts Tryz.infoSmpK
          have s1 := HZ.out.cell (k := 0) 0 rfl rfl
          have s2 := HZ.out.cell (k := 1) 0 rfl rfl
          have n1' : gs ∉ fx2 := fun hh => HZ.out.apart (i := 0) (j := 4) rfl rfl (by decide) gs (by simp [Mm.tblk]) (HFX.out _ hh).1
          have n2' : gh ∉ fx2 := fun hh => HZ.out.apart (i := 3) (j := 4) rfl rfl (by decide) gh (by simp [Mm.tblk]) (HFX.out _ hh).1
          have hg2 : g2 ∉ fx2 := fun hh => (HFX.out _ hh).2 rfl
          have zr := (HZ.out.sl 4 rfl).frozen (p * 2 + 1)
          have hg2l : g2 < X.heap.size := (HZ.out.sl 4 rfl).olt g2 (HZ.out.sl 4 rfl).mem_block
          have hslm : r.Samples.length ≤ 40 := HNE.out.2
          refine Mm.wp_region_give 9 (fun i => match i with | 5 => some (Mm.gBs 124 [.int .i64 x.At, .int .i64 x.Value]) | 6 => some (Mm.gSl smp 124 (r.Samples ++ [⟨x.At, x.Value⟩])) | _ => none) (fun i => match i with | 6 => [5, 10] | _ => []) (fun i => match i with | 10 => [Mm.tsl smp 124 r.Samples (.slice (some ⟨bm, om, none⟩) ms ds) fx2] | _ => []) (F := fx2) (D := fun w' => ∃ z : Cha fx2 X, w' = cha fx2 X z) (fun X us h => Mm.sep_cha h) (by kernel_rfl) (by kernel_rfl) (by kernel_rfl) (Mm.sep_eq ((Mm.SepF.one (Mm.tsl smp 124 r.Samples (.slice (some ⟨bm, om, none⟩) ms ds) fx2) X HSO2.out.1 HSO2.out.2).step (Below.refl _ _).drew) rfl) ?_
          repeat (refine Mm.give_det (by rfl) (by rfl) (by rfl) (fun K hK => ?_); go_big_quiet_op; refine hK _ ?_; clear hK K)
          refine Mm.give_op0 89 (by rfl) rfl (by rfl) (by rfl) (by rfl) (by rfl) Mm.gBs_in (fun others X6 hX6 => ?_) ?_
          · go_wp2
            exact Mm.gvq_bs hX6 rfl rfl rfl
          rintro v ds' ⟨gb, rfl, rfl⟩
          simp only [Act.put, List.setIfInBounds_toArray, List.set_cons_succ, List.set_cons_zero]
          refine Mm.give_op2 90 5 10 (by rfl) rfl (by rfl) (by rfl) (by rfl) rfl (by rfl) (by rfl) (by rfl) _ _ rfl rfl Mm.gSl_in (fun others X6 hX6 => Mm.app_gvq rfl (.tmp 87) (.tmp 89) 62 rfl 90 rfl (by rfl) i0 _ 16 Tryz.underlying62 hi hz0 hz1 hz2 rfl (by decide) rfl rfl (fun W => smp_own_mk (x := ⟨x.At, x.Value⟩) HI.out) (by unfold maxLen; omega) (by omega) hX6) ?_
          rintro v ds' ⟨A8, n8, c8, f8', rfl, rfl, hn8⟩
          simp only [Act.put, List.setIfInBounds_toArray, List.set_cons_succ, List.set_cons_zero]
          repeat (refine Mm.give_det (by rfl) (by rfl) (by rfl) (fun K hK => ?_); go_big_quiet_op; refine hK _ ?_; clear hK K)
          refine Mm.give_nil ?_
          rintro X7 hX7
          have hx7 : Mm.SepF fx2 X X7 [Mm.tsl smp 124 (r.Samples ++ [⟨x.At, x.Value⟩]) (.slice A8 n8 c8) f8'] := Mm.sep_eq hX7 rfl
          have HS4 := Lib.hid hx7
          have d4 : X7.cell? ⟨g2, p * 2 + 1, none⟩ = some (.slice (some ⟨bm, om, none⟩) ms ds) := (World.cell?_of_block (hx7.chg.block g2 hg2l hg2)).trans r1
          have z4 : X7.frozen? ⟨g2, p * 2 + 1, none⟩ = false := (World.frozen?_of_block (hx7.chg.block g2 hg2l hg2)).trans zr
          clear hX7 hx7 r1 zr s1 s2 n1' n2' hg2 hg2l c0
          obtain ⟨fp5, hs5⟩ := HROW.out _ _ _ _ _ _ HS4.out
          obtain ⟨XT, hXT⟩ : ∃ XT, X7.setCell ⟨g2, p * 2 + 1, none⟩ (.slice A8 n8 c8) = XT := ⟨_, rfl⟩
          replace HZ := Lib.hid (hs5.atW hXT)
          clear hs5
          go_upto_region 16 with fail
          clear hXT d4 z4
          have z0 := HZ.out.frz (k := 0) 1 rfl
          have z1 := HZ.out.frz (k := 1) 1 rfl
          have b0 := HZ.out.cell (k := 0) 1 rfl rfl
          have b1 := HZ.out.cell (k := 1) 1 rfl rfl
          have h0 := HZ.out.cell (k := 0) 3 rfl rfl
          have h1 := HZ.out.cell (k := 1) 3 rfl rfl
          have HSF := Lib.hid ((HZ.out.setBlk (k := 0) 1 rfl ((.slice (some ⟨g2, 0, none⟩) m d))).setBlk (k := 1) 1 rfl (.int .i64 o1))
          have u0 := HSF.out.cell (k := 0) 1 rfl rfl
          have u1 := HSF.out.cell (k := 1) 1 rfl rfl
          go_wp2
          exact bodyPost_ret (v := .tuple #[.agg #[(.slice (some ⟨g2, 0, none⟩) m d), .int .i64 o1], .int .i64 1]) (by simp [results, Tryz.results128, go_sem, u0, u1]) rfl ⟨_, _, _, _, by rw [HO1.out, HF.out], by rw [HF.out]; exact HSF.out.sel [4] (by decide) rfl⟩
  · have HMS : Hid (Pl.takeS h x = Pl.missS h p x) := Lib.hid (by rw [← HP.out]; exact Pl.takeS_miss (fun o ho he => by rw [HP.out] at ho; exact hit ⟨o, ho, he⟩))
    have f2 : (0 : Int) ≤ (p : Nat) := by omega
    have f3 : ((p : Nat) : Int).toNat = p := by omega
    by_cases hpl : p < m
    · obtain ⟨g2, rfl, -, -⟩ := Mm.sl_addr (HS3.out.sl 4 rfl) (by show 0 < h.Rows.length; have := HML.out; omega)
      obtain ⟨r, hr⟩ : ∃ r, h.Rows[p]? = some r := ⟨_, List.getElem?_eq_getElem (by have := HML.out; omega)⟩
      obtain ⟨_, _, _, _, r0, -⟩ := HS3.out.rowSam 4 rfl hr
      have f1 : (p : Int) < (m : Nat) := by omega
      have q1 : (r.Name.toList == x.Name.toList) = false := by
        rw [beq_eq_false_iff_ne]
        exact fun hh => hit ⟨r, hr, Pl.ba_inj hh⟩
      clear hr hit
      refine wp_region_und (by kernel_rfl) (by kernel_rfl) ?_
      repeat (go_big_quiet_step ((first | fail)))
      refine wpQuiet_nil ?_
      intro X hX
      clear r0 q1
      have HZ := Lib.hid (HS3.out.step hX)
      clear hX HS3 c0 s0
      have c0 := HZ.out.cell (k := 0) 3 rfl rfl
      by_cases h8 : m = 8
      · as_aux_lemma =>
        have HF : Hid (Pl.takeS h x = (⟨h.Rows, o1⟩, 4)) := Lib.hid (by rw [HMS.out, ← HO1.out]; exact if_pos (by have := HML.out; omega))
        have f8 : ((m : Int) == 8) = true := by rw [h8]; rfl
        clear h8
        have z0 := HZ.out.frz (k := 0) 1 rfl
        have z1 := HZ.out.frz (k := 1) 1 rfl
        have b0 := HZ.out.cell (k := 0) 1 rfl rfl
        have b1 := HZ.out.cell (k := 1) 1 rfl rfl
        have h0 := HZ.out.cell (k := 0) 3 rfl rfl
        have h1 := HZ.out.cell (k := 1) 3 rfl rfl
        have HSF := Lib.hid ((HZ.out.setBlk (k := 0) 1 rfl ((.slice (some ⟨g2, 0, none⟩) m d))).setBlk (k := 1) 1 rfl (.int .i64 o1))
        have u0 := HSF.out.cell (k := 0) 1 rfl rfl
        have u1 := HSF.out.cell (k := 1) 1 rfl rfl
        go_wp2
        exact bodyPost_ret (v := .tuple #[.agg #[(.slice (some ⟨g2, 0, none⟩) m d), .int .i64 o1], .int .i64 4]) (by simp [results, Tryz.results128, go_sem, u0, u1]) rfl ⟨_, _, _, _, by rw [HO1.out, HF.out], by rw [HF.out]; exact HSF.out.sel [4] (by decide) rfl⟩
      have HF : Hid (Pl.takeS h x = (⟨Mm.insertAt h.Rows p ⟨x.Name, [⟨x.At, x.Value⟩]⟩, o1⟩, 1)) := Lib.hid (by rw [HMS.out, ← HO1.out]; exact if_neg (by have := HML.out; omega))
      have f8 : ((m : Int) == 8) = false := by rw [beq_eq_false_iff_ne]; omega
      go_upto_region 19 with fail
      clear f8 h8
      have s0 := HZ.out.cell (k := 0) 2 rfl rfl
      have t0 := HZ.out.cell (k := 0) 0 rfl rfl
      have t1 := HZ.out.cell (k := 1) 0 rfl rfl
      have hghl : gh < X.heap.size := World.block_lt_of_cell? X ⟨gh, 0, none⟩ c0
      obtain ⟨lc, ho, h1c, hnext⟩ := HZ.out.insLate 4 rfl (k := p) (by rw [← HML.out]; exact hpm)
      rw [← HML.out] at ho hnext
      have ho : X.ownsRow 0 139 2 (.slice (some ⟨g2, 0, none⟩) m d) m lc := ho
      have HNX := Lib.hid hnext
      clear hnext
      have hcc : ∀ j u, lc[j]? = some u → X.cell? ⟨g2, j, none⟩ = some u := fun j u hj => by
        have := ho.cells (g := g2) rfl j u hj
        rwa [Mm.add0] at this
      have hmd : m ≤ d := by
        rcases ho.2 with ⟨hv, _⟩ | ⟨g, cap, cur, hv, _, _, hnc, _⟩
        · cases hv
        · injection hv with _ _ e3
          subst e3
          exact hnc
      have hcl := ho.1
      as_aux_lemma =>
      obtain ⟨A8, c8, w8, e1, kk1, nn8, hV⟩ := put3R X ((some ⟨g2, 0, none⟩)) ((some ⟨g2, p * 2, none⟩)) m p ((m - p)) (d) ((d - p)) lc ho h1c hpm (by omega) (fun hh => by cases hh) (by omega) (fun hh => by cases hh) (fun a ha j u hj => by injection ha with ha; subst ha; rw [Mm.add0]; rw [List.getElem?_take] at hj; split at hj; exact hcc j u hj; cases hj) (fun a ha j u hj => by injection ha with ha; subst ha; rw [Addr.add_lit]; rw [List.getElem?_drop] at hj; exact hcc _ u hj)
      obtain ⟨g8, hg8⟩ : ∃ g, w8.heap.size = g := ⟨_, rfl⟩
      obtain ⟨V, hVd⟩ : ∃ V, w8.alloc (.cells #[.int .i64 x.At, .int .i64 x.Value] 124) = V := ⟨_, rfl⟩
      have hVs : V.heap.size = g8 + 1 := by rw [← hVd, Mm.sz1, hg8]
      have hVb : Below w8.heap.size w8 V := by rw [← hVd]; exact below_new (Below.refl _ _) _
      obtain ⟨A10, c10, w10, e2, k10, A11, c11, w11, e3, r4, kb, k11, n11⟩ := hV V [.string x.Name, .slice (some ⟨g8, 0, none⟩) 1 1] hVb rfl (by simp [Value.oneCell'])
      rw [hVs] at e2 k10 k11 n11
      have hX8 := kk1.size
      have hn8 : (Value.slice A8 p c8).ownBlock ≠ some g8 := fun hh => by have := (nn8 _ hh).2; omega
      have hbl : Mm.Blk w11 g8 124 [.int .i64 x.At, .int .i64 x.Value] := Mm.Blk.keep (by have h9 := Mm.Blk.new w8 124 [.int .i64 x.At, .int .i64 x.Value]; rw [hg8] at h9; rw [← hVd]; exact h9) (k11 g8 (by omega) hn8)
      obtain ⟨fp', hsE⟩ := HNX.out w11 (.slice A11 (m + 1) c11) ⟨x.Name, [⟨x.At, x.Value⟩]⟩ [.string x.Name, .slice (some ⟨g8, 0, none⟩) 1 1] [g8] kb (rRow_own_mk (x := ⟨x.Name, [⟨x.At, x.Value⟩]⟩) HNM.out (Mm.oneSmp (x := ⟨x.At, x.Value⟩) hbl HI.out)) (by simp) (fun b hb => by simp at hb; omega) r4 (fun g hg => by
        rcases n11 g hg with hh | hh
        · have := nn8 g hh
          exact ⟨this.1, by simp; omega⟩
        · exact ⟨by omega, by simp; omega⟩)
      have HSE := Lib.hid hsE
      have HK := Lib.hid (And.intro e1 (And.intro e2 e3))
      have s8 := below_some kk1 s0
      have t80 := below_some kk1 t0
      have t81 := below_some kk1 t1
      have c10' : w10.cell? ⟨gh, 0, none⟩ = some (.slice (some ⟨g2, 0, none⟩) m d) := (World.cell?_of_block (k10 gh (by omega) (fun hh => by have := (nn8 _ hh).1; omega))).trans (below_some (below_step kk1 hVb) c0)
      obtain ⟨XT, hXT⟩ : ∃ XT, w11.setCell ⟨gh, 0, none⟩ (.slice A11 (m + 1) c11) = XT := ⟨_, rfl⟩
      replace HZ := Lib.hid ((HSE.out.setBlk (k := 0) 3 rfl (.slice A11 (m + 1) c11)).atW hXT)
      have h11 := HSE.out.cell (k := 0) 3 rfl rfl
      have z11 := HSE.out.frz (k := 0) 3 rfl
      clear hsE e1 e2 e3 r4 kk1 kb k10 k11 n11 nn8 hV hVb hX8 hn8 hbl HSE HNX h1c ho s0 t0 t1
      go_upto_region 20 with (at_builtin; refine Lib.wpList_append_run _ rfl _ _ _ _ rfl _ _ rfl rfl _ _ (HK.out.1 _) ?_)
      clear c0
      go_upto_region 21 with (at_builtin; refine Lib.wpList_append_run _ rfl _ _ _ _ rfl _ _ rfl rfl _ _ (HK.out.2.1 _) ?_)
      go_upto_region 22 with (at_builtin; refine Lib.wpList_append_run _ rfl _ _ _ _ rfl _ _ rfl rfl _ _ (HK.out.2.2 _) ?_)
      clear hXT h11 z11 c10' s8 t80 t81 HK
      have z0 := HZ.out.frz (k := 0) 1 rfl
      have z1 := HZ.out.frz (k := 1) 1 rfl
      have b0 := HZ.out.cell (k := 0) 1 rfl rfl
      have b1 := HZ.out.cell (k := 1) 1 rfl rfl
      have h0 := HZ.out.cell (k := 0) 3 rfl rfl
      have h1 := HZ.out.cell (k := 1) 3 rfl rfl
      have HSF := Lib.hid ((HZ.out.setBlk (k := 0) 1 rfl ((.slice A11 (m + 1) c11))).setBlk (k := 1) 1 rfl (.int .i64 o1))
      have u0 := HSF.out.cell (k := 0) 1 rfl rfl
      have u1 := HSF.out.cell (k := 1) 1 rfl rfl
      go_wp2
      exact bodyPost_ret (v := .tuple #[.agg #[(.slice A11 (m + 1) c11), .int .i64 o1], .int .i64 1]) (by simp [results, Tryz.results128, go_sem, u0, u1]) rfl ⟨_, _, _, _, by rw [HO1.out, HF.out], by rw [HF.out]; exact HSF.out.sel [4] (by decide) rfl⟩
    · have f1 : ¬ (p : Int) < (m : Nat) := by omega
      have f4 : decide (p < m) = false := by simp; omega
      clear hit hpl
      refine wp_region_und (by kernel_rfl) (by kernel_rfl) ?_
      repeat (go_big_quiet_step ((first | fail)))
      refine wpQuiet_nil ?_
      intro X hX
      have HZ := Lib.hid (HS3.out.step hX)
      clear hX HS3 c0 s0
      have c0 := HZ.out.cell (k := 0) 3 rfl rfl
      by_cases h8 : m = 8
      · as_aux_lemma =>
        have HF : Hid (Pl.takeS h x = (⟨h.Rows, o1⟩, 4)) := Lib.hid (by rw [HMS.out, ← HO1.out]; exact if_pos (by have := HML.out; omega))
        have f8 : ((m : Int) == 8) = true := by rw [h8]; rfl
        clear h8
        have z0 := HZ.out.frz (k := 0) 1 rfl
        have z1 := HZ.out.frz (k := 1) 1 rfl
        have b0 := HZ.out.cell (k := 0) 1 rfl rfl
        have b1 := HZ.out.cell (k := 1) 1 rfl rfl
        have h0 := HZ.out.cell (k := 0) 3 rfl rfl
        have h1 := HZ.out.cell (k := 1) 3 rfl rfl
        have HSF := Lib.hid ((HZ.out.setBlk (k := 0) 1 rfl ((.slice A m d))).setBlk (k := 1) 1 rfl (.int .i64 o1))
        have u0 := HSF.out.cell (k := 0) 1 rfl rfl
        have u1 := HSF.out.cell (k := 1) 1 rfl rfl
        go_wp2
        exact bodyPost_ret (v := .tuple #[.agg #[(.slice A m d), .int .i64 o1], .int .i64 4]) (by simp [results, Tryz.results128, go_sem, u0, u1]) rfl ⟨_, _, _, _, by rw [HO1.out, HF.out], by rw [HF.out]; exact HSF.out.sel [4] (by decide) rfl⟩
      have HF : Hid (Pl.takeS h x = (⟨Mm.insertAt h.Rows p ⟨x.Name, [⟨x.At, x.Value⟩]⟩, o1⟩, 1)) := Lib.hid (by rw [HMS.out, ← HO1.out]; exact if_neg (by have := HML.out; omega))
      have f8 : ((m : Int) == 8) = false := by rw [beq_eq_false_iff_ne]; omega
      go_upto_region 19 with fail
      clear f8 h8
      have s0 := HZ.out.cell (k := 0) 2 rfl rfl
      have t0 := HZ.out.cell (k := 0) 0 rfl rfl
      have t1 := HZ.out.cell (k := 1) 0 rfl rfl
      have hghl : gh < X.heap.size := World.block_lt_of_cell? X ⟨gh, 0, none⟩ c0
      obtain ⟨lc, ho, h1c, hnext⟩ := HZ.out.insLate 4 rfl (k := p) (by rw [← HML.out]; exact hpm)
      rw [← HML.out] at ho hnext
      have ho : X.ownsRow 0 139 2 (.slice A m d) m lc := ho
      have HNX := Lib.hid hnext
      clear hnext
      rcases ho.2 with ⟨hv, hn0⟩ | ⟨g2, cap, cur, hv, _, hg, hnc, hcm, hcs, htake⟩
      · injection hv with e1 e2 e3
        subst e1 e3
        subst hn0
        obtain rfl : p = 0 := by omega
        as_aux_lemma =>
        obtain ⟨A8, c8, w8, e1, kk1, nn8, hV⟩ := put3R X (none) (none) 0 0 (0) (0) (0) lc ho h1c hpm (by omega) (fun _ => ⟨rfl, rfl⟩) rfl (fun _ => ⟨rfl, rfl⟩) (fun a hh => by cases hh) (fun a hh => by cases hh)
        obtain ⟨g8, hg8⟩ : ∃ g, w8.heap.size = g := ⟨_, rfl⟩
        obtain ⟨V, hVd⟩ : ∃ V, w8.alloc (.cells #[.int .i64 x.At, .int .i64 x.Value] 124) = V := ⟨_, rfl⟩
        have hVs : V.heap.size = g8 + 1 := by rw [← hVd, Mm.sz1, hg8]
        have hVb : Below w8.heap.size w8 V := by rw [← hVd]; exact below_new (Below.refl _ _) _
        obtain ⟨A10, c10, w10, e2, k10, A11, c11, w11, e3, r4, kb, k11, n11⟩ := hV V [.string x.Name, .slice (some ⟨g8, 0, none⟩) 1 1] hVb rfl (by simp [Value.oneCell'])
        rw [hVs] at e2 k10 k11 n11
        have hX8 := kk1.size
        have hn8 : (Value.slice A8 0 c8).ownBlock ≠ some g8 := fun hh => by have := (nn8 _ hh).2; omega
        have hbl : Mm.Blk w11 g8 124 [.int .i64 x.At, .int .i64 x.Value] := Mm.Blk.keep (by have h9 := Mm.Blk.new w8 124 [.int .i64 x.At, .int .i64 x.Value]; rw [hg8] at h9; rw [← hVd]; exact h9) (k11 g8 (by omega) hn8)
        obtain ⟨fp', hsE⟩ := HNX.out w11 (.slice A11 (0 + 1) c11) ⟨x.Name, [⟨x.At, x.Value⟩]⟩ [.string x.Name, .slice (some ⟨g8, 0, none⟩) 1 1] [g8] kb (rRow_own_mk (x := ⟨x.Name, [⟨x.At, x.Value⟩]⟩) HNM.out (Mm.oneSmp (x := ⟨x.At, x.Value⟩) hbl HI.out)) (by simp) (fun b hb => by simp at hb; omega) r4 (fun g hg => by
          rcases n11 g hg with hh | hh
          · have := nn8 g hh
            exact ⟨this.1, by simp; omega⟩
          · exact ⟨by omega, by simp; omega⟩)
        have HSE := Lib.hid hsE
        have HK := Lib.hid (And.intro e1 (And.intro e2 e3))
        have s8 := below_some kk1 s0
        have t80 := below_some kk1 t0
        have t81 := below_some kk1 t1
        have c10' : w10.cell? ⟨gh, 0, none⟩ = some (.slice none 0 0) := (World.cell?_of_block (k10 gh (by omega) (fun hh => by have := (nn8 _ hh).1; omega))).trans (below_some (below_step kk1 hVb) c0)
        obtain ⟨XT, hXT⟩ : ∃ XT, w11.setCell ⟨gh, 0, none⟩ (.slice A11 (0 + 1) c11) = XT := ⟨_, rfl⟩
        replace HZ := Lib.hid ((HSE.out.setBlk (k := 0) 3 rfl (.slice A11 (0 + 1) c11)).atW hXT)
        have h11 := HSE.out.cell (k := 0) 3 rfl rfl
        have z11 := HSE.out.frz (k := 0) 3 rfl
        clear hsE e1 e2 e3 r4 kk1 kb k10 k11 n11 nn8 hV hVb hX8 hn8 hbl HSE HNX h1c ho s0 t0 t1
        go_upto_region 20 with (at_builtin; refine Lib.wpList_append_run _ rfl _ _ _ _ rfl _ _ rfl rfl _ _ (HK.out.1 _) ?_)
        clear c0
        go_upto_region 21 with (at_builtin; refine Lib.wpList_append_run _ rfl _ _ _ _ rfl _ _ rfl rfl _ _ (HK.out.2.1 _) ?_)
        go_upto_region 22 with (at_builtin; refine Lib.wpList_append_run _ rfl _ _ _ _ rfl _ _ rfl rfl _ _ (HK.out.2.2 _) ?_)
        clear hXT h11 z11 c10' s8 t80 t81 HK
        have z0 := HZ.out.frz (k := 0) 1 rfl
        have z1 := HZ.out.frz (k := 1) 1 rfl
        have b0 := HZ.out.cell (k := 0) 1 rfl rfl
        have b1 := HZ.out.cell (k := 1) 1 rfl rfl
        have h0 := HZ.out.cell (k := 0) 3 rfl rfl
        have h1 := HZ.out.cell (k := 1) 3 rfl rfl
        have HSF := Lib.hid ((HZ.out.setBlk (k := 0) 1 rfl ((.slice A11 (0 + 1) c11))).setBlk (k := 1) 1 rfl (.int .i64 o1))
        have u0 := HSF.out.cell (k := 0) 1 rfl rfl
        have u1 := HSF.out.cell (k := 1) 1 rfl rfl
        go_wp2
        exact bodyPost_ret (v := .tuple #[.agg #[(.slice A11 (0 + 1) c11), .int .i64 o1], .int .i64 1]) (by simp [results, Tryz.results128, go_sem, u0, u1]) rfl ⟨_, _, _, _, by rw [HO1.out, HF.out], by rw [HF.out]; exact HSF.out.sel [4] (by decide) rfl⟩
      · injection hv with e1 e2 e3
        subst e1 e3
        have hcc : ∀ j u, lc[j]? = some u → X.cell? ⟨g2, j, none⟩ = some u := fun j u hj => by
          have := ho.cells (g := g2) rfl j u hj
          rwa [Mm.add0] at this
        have hcl := ho.1
        unfold maxLen at hcm
        clear hg hcs htake
        by_cases hcp : d = p
        · subst hcp
          as_aux_lemma =>
          obtain ⟨A8, c8, w8, e1, kk1, nn8, hV⟩ := put3R X ((some ⟨g2, 0, none⟩)) ((some ⟨g2, 0, none⟩)) m d (0) (d) (0) lc ho h1c hpm (by omega) (fun hh => by cases hh) (by omega) (fun hh => by cases hh) (fun a ha j u hj => by injection ha with ha; subst ha; rw [Mm.add0]; rw [List.getElem?_take] at hj; split at hj; exact hcc j u hj; cases hj) (fun a ha j u hj => by rw [List.drop_of_length_le (by omega)] at hj; simp at hj)
          obtain ⟨g8, hg8⟩ : ∃ g, w8.heap.size = g := ⟨_, rfl⟩
          obtain ⟨V, hVd⟩ : ∃ V, w8.alloc (.cells #[.int .i64 x.At, .int .i64 x.Value] 124) = V := ⟨_, rfl⟩
          have hVs : V.heap.size = g8 + 1 := by rw [← hVd, Mm.sz1, hg8]
          have hVb : Below w8.heap.size w8 V := by rw [← hVd]; exact below_new (Below.refl _ _) _
          obtain ⟨A10, c10, w10, e2, k10, A11, c11, w11, e3, r4, kb, k11, n11⟩ := hV V [.string x.Name, .slice (some ⟨g8, 0, none⟩) 1 1] hVb rfl (by simp [Value.oneCell'])
          rw [hVs] at e2 k10 k11 n11
          have hX8 := kk1.size
          have hn8 : (Value.slice A8 d c8).ownBlock ≠ some g8 := fun hh => by have := (nn8 _ hh).2; omega
          have hbl : Mm.Blk w11 g8 124 [.int .i64 x.At, .int .i64 x.Value] := Mm.Blk.keep (by have h9 := Mm.Blk.new w8 124 [.int .i64 x.At, .int .i64 x.Value]; rw [hg8] at h9; rw [← hVd]; exact h9) (k11 g8 (by omega) hn8)
          obtain ⟨fp', hsE⟩ := HNX.out w11 (.slice A11 (m + 1) c11) ⟨x.Name, [⟨x.At, x.Value⟩]⟩ [.string x.Name, .slice (some ⟨g8, 0, none⟩) 1 1] [g8] kb (rRow_own_mk (x := ⟨x.Name, [⟨x.At, x.Value⟩]⟩) HNM.out (Mm.oneSmp (x := ⟨x.At, x.Value⟩) hbl HI.out)) (by simp) (fun b hb => by simp at hb; omega) r4 (fun g hg => by
            rcases n11 g hg with hh | hh
            · have := nn8 g hh
              exact ⟨this.1, by simp; omega⟩
            · exact ⟨by omega, by simp; omega⟩)
          have HSE := Lib.hid hsE
          have HK := Lib.hid (And.intro e1 (And.intro e2 e3))
          have s8 := below_some kk1 s0
          have t80 := below_some kk1 t0
          have t81 := below_some kk1 t1
          have c10' : w10.cell? ⟨gh, 0, none⟩ = some (.slice (some ⟨g2, 0, none⟩) m d) := (World.cell?_of_block (k10 gh (by omega) (fun hh => by have := (nn8 _ hh).1; omega))).trans (below_some (below_step kk1 hVb) c0)
          obtain ⟨XT, hXT⟩ : ∃ XT, w11.setCell ⟨gh, 0, none⟩ (.slice A11 (m + 1) c11) = XT := ⟨_, rfl⟩
          replace HZ := Lib.hid ((HSE.out.setBlk (k := 0) 3 rfl (.slice A11 (m + 1) c11)).atW hXT)
          have h11 := HSE.out.cell (k := 0) 3 rfl rfl
          have z11 := HSE.out.frz (k := 0) 3 rfl
          clear hsE e1 e2 e3 r4 kk1 kb k10 k11 n11 nn8 hV hVb hX8 hn8 hbl HSE HNX h1c ho s0 t0 t1
          go_upto_region 20 with (at_builtin; refine Lib.wpList_append_run _ rfl _ _ _ _ rfl _ _ rfl rfl _ _ (HK.out.1 _) ?_)
          clear c0
          go_upto_region 21 with (at_builtin; refine Lib.wpList_append_run _ rfl _ _ _ _ rfl _ _ rfl rfl _ _ (HK.out.2.1 _) ?_)
          go_upto_region 22 with (at_builtin; refine Lib.wpList_append_run _ rfl _ _ _ _ rfl _ _ rfl rfl _ _ (HK.out.2.2 _) ?_)
          clear hXT h11 z11 c10' s8 t80 t81 HK
          have z0 := HZ.out.frz (k := 0) 1 rfl
          have z1 := HZ.out.frz (k := 1) 1 rfl
          have b0 := HZ.out.cell (k := 0) 1 rfl rfl
          have b1 := HZ.out.cell (k := 1) 1 rfl rfl
          have h0 := HZ.out.cell (k := 0) 3 rfl rfl
          have h1 := HZ.out.cell (k := 1) 3 rfl rfl
          have HSF := Lib.hid ((HZ.out.setBlk (k := 0) 1 rfl ((.slice A11 (m + 1) c11))).setBlk (k := 1) 1 rfl (.int .i64 o1))
          have u0 := HSF.out.cell (k := 0) 1 rfl rfl
          have u1 := HSF.out.cell (k := 1) 1 rfl rfl
          go_wp2
          exact bodyPost_ret (v := .tuple #[.agg #[(.slice A11 (m + 1) c11), .int .i64 o1], .int .i64 1]) (by simp [results, Tryz.results128, go_sem, u0, u1]) rfl ⟨_, _, _, _, by rw [HO1.out, HF.out], by rw [HF.out]; exact HSF.out.sel [4] (by decide) rfl⟩
        · have hcp2 : ¬ (d = p) := hcp
          as_aux_lemma =>
          obtain ⟨A8, c8, w8, e1, kk1, nn8, hV⟩ := put3R X ((some ⟨g2, 0, none⟩)) ((some ⟨g2, p * 2, none⟩)) m p ((m - p)) (d) ((d - p)) lc ho h1c hpm (by omega) (fun hh => by cases hh) (by omega) (fun hh => by cases hh) (fun a ha j u hj => by injection ha with ha; subst ha; rw [Mm.add0]; rw [List.getElem?_take] at hj; split at hj; exact hcc j u hj; cases hj) (fun a ha j u hj => by injection ha with ha; subst ha; rw [Addr.add_lit]; rw [List.getElem?_drop] at hj; exact hcc _ u hj)
          obtain ⟨g8, hg8⟩ : ∃ g, w8.heap.size = g := ⟨_, rfl⟩
          obtain ⟨V, hVd⟩ : ∃ V, w8.alloc (.cells #[.int .i64 x.At, .int .i64 x.Value] 124) = V := ⟨_, rfl⟩
          have hVs : V.heap.size = g8 + 1 := by rw [← hVd, Mm.sz1, hg8]
          have hVb : Below w8.heap.size w8 V := by rw [← hVd]; exact below_new (Below.refl _ _) _
          obtain ⟨A10, c10, w10, e2, k10, A11, c11, w11, e3, r4, kb, k11, n11⟩ := hV V [.string x.Name, .slice (some ⟨g8, 0, none⟩) 1 1] hVb rfl (by simp [Value.oneCell'])
          rw [hVs] at e2 k10 k11 n11
          have hX8 := kk1.size
          have hn8 : (Value.slice A8 p c8).ownBlock ≠ some g8 := fun hh => by have := (nn8 _ hh).2; omega
          have hbl : Mm.Blk w11 g8 124 [.int .i64 x.At, .int .i64 x.Value] := Mm.Blk.keep (by have h9 := Mm.Blk.new w8 124 [.int .i64 x.At, .int .i64 x.Value]; rw [hg8] at h9; rw [← hVd]; exact h9) (k11 g8 (by omega) hn8)
          obtain ⟨fp', hsE⟩ := HNX.out w11 (.slice A11 (m + 1) c11) ⟨x.Name, [⟨x.At, x.Value⟩]⟩ [.string x.Name, .slice (some ⟨g8, 0, none⟩) 1 1] [g8] kb (rRow_own_mk (x := ⟨x.Name, [⟨x.At, x.Value⟩]⟩) HNM.out (Mm.oneSmp (x := ⟨x.At, x.Value⟩) hbl HI.out)) (by simp) (fun b hb => by simp at hb; omega) r4 (fun g hg => by
            rcases n11 g hg with hh | hh
            · have := nn8 g hh
              exact ⟨this.1, by simp; omega⟩
            · exact ⟨by omega, by simp; omega⟩)
          have HSE := Lib.hid hsE
          have HK := Lib.hid (And.intro e1 (And.intro e2 e3))
          have s8 := below_some kk1 s0
          have t80 := below_some kk1 t0
          have t81 := below_some kk1 t1
          have c10' : w10.cell? ⟨gh, 0, none⟩ = some (.slice (some ⟨g2, 0, none⟩) m d) := (World.cell?_of_block (k10 gh (by omega) (fun hh => by have := (nn8 _ hh).1; omega))).trans (below_some (below_step kk1 hVb) c0)
          obtain ⟨XT, hXT⟩ : ∃ XT, w11.setCell ⟨gh, 0, none⟩ (.slice A11 (m + 1) c11) = XT := ⟨_, rfl⟩
          replace HZ := Lib.hid ((HSE.out.setBlk (k := 0) 3 rfl (.slice A11 (m + 1) c11)).atW hXT)
          have h11 := HSE.out.cell (k := 0) 3 rfl rfl
          have z11 := HSE.out.frz (k := 0) 3 rfl
          clear hsE e1 e2 e3 r4 kk1 kb k10 k11 n11 nn8 hV hVb hX8 hn8 hbl HSE HNX h1c ho s0 t0 t1
          go_upto_region 20 with (at_builtin; refine Lib.wpList_append_run _ rfl _ _ _ _ rfl _ _ rfl rfl _ _ (HK.out.1 _) ?_)
          clear c0
          go_upto_region 21 with (at_builtin; refine Lib.wpList_append_run _ rfl _ _ _ _ rfl _ _ rfl rfl _ _ (HK.out.2.1 _) ?_)
          go_upto_region 22 with (at_builtin; refine Lib.wpList_append_run _ rfl _ _ _ _ rfl _ _ rfl rfl _ _ (HK.out.2.2 _) ?_)
          clear hXT h11 z11 c10' s8 t80 t81 HK
          have z0 := HZ.out.frz (k := 0) 1 rfl
          have z1 := HZ.out.frz (k := 1) 1 rfl
          have b0 := HZ.out.cell (k := 0) 1 rfl rfl
          have b1 := HZ.out.cell (k := 1) 1 rfl rfl
          have h0 := HZ.out.cell (k := 0) 3 rfl rfl
          have h1 := HZ.out.cell (k := 1) 3 rfl rfl
          have HSF := Lib.hid ((HZ.out.setBlk (k := 0) 1 rfl ((.slice A11 (m + 1) c11))).setBlk (k := 1) 1 rfl (.int .i64 o1))
          have u0 := HSF.out.cell (k := 0) 1 rfl rfl
          have u1 := HSF.out.cell (k := 1) 1 rfl rfl
          go_wp2
          exact bodyPost_ret (v := .tuple #[.agg #[(.slice A11 (m + 1) c11), .int .i64 o1], .int .i64 1]) (by simp [results, Tryz.results128, go_sem, u0, u1]) rfl ⟨_, _, _, _, by rw [HO1.out, HF.out], by rw [HF.out]; exact HSF.out.sel [4] (by decide) rfl⟩
end Go.Proofs.YtbhmdnjammnlnaaGreatDoor

namespace Go.Proofs.YtbhmdnjammnlnaaGreatDoor
open Go.RowKit
attribute [local go_sem] und_cell cha_cell World.cell?_alloc_some
def FoldR (l : List Say) (w : World) (e : Ending) (w' : World) : Prop :=
  ∃ A n c fp, e = .returned (.agg #[.slice A n c, .int .i64 (Pl.foldS ⟨[], 0⟩ l).Offset]) ∧ Mm.SepF [] w w' [Mm.tsl rRow 139 (Pl.foldS ⟨[], 0⟩ l).Rows (.slice A n c) fp]
set_option maxRecDepth 100000 in
set_option maxHeartbeats 4000000 in
theorem l17Fold_c (l : List Say) (A : Option Addr) (n c : Nat) (w : World) (B : Nat) (hl : Mm.SlAt rSay w B l A n c) (hB : B ≤ w.heap.size) (hn : n ≤ 1000) :
    Calls Tryz.prog 73 #[.slice A n c] w (FoldR l w) := by
  have HL := Lib.hid hl
  have HLN : Hid (l.length = n) := hl.1
  have HBW := Lib.hid hB
  have HFO : Hid ((Pl.foldS ⟨[], 0⟩ l).Offset = (n : Nat)) := Lib.hid (by rw [Pl.foldS_off, HLN.out]; simp)
  clear hl hB
  obtain ⟨gr, hgr⟩ : ∃ g, w.heap.size = g := ⟨_, rfl⟩
  obtain ⟨gh, hgh⟩ : ∃ g, gr + 1 = g := ⟨_, rfl⟩
  obtain ⟨W0, hW0⟩ : ∃ W, (w.alloc (.cells #[.slice none 0 0, .int .i64 0] 73)).alloc (.cells #[.slice none 0 0, .int .i64 0] 73) = W := ⟨_, rfl⟩
  have HS := Lib.hid ((((Mm.SepF.start w).alloc' hgr 73 [.slice none 0 0, .int .i64 0]).alloc' (g := gh) (by rw [Mm.sz1, hgr, hgh]) 73 [.slice none 0 0, .int .i64 0]).atW hW0)
  go_enter Tryz.func73, Tryz.ntmps73
  go_upto_region 1 with fail
  go_upto_region 2 with fail
  clear hW0 hgr hgh
  have KS := Lib.hid (HS.out.add (Below.refl _ _) (t := Mm.tsl rRow 139 [] (.slice none 0 0) []) Mm.SlOwn.nil List.nodup_nil (fun b hb => by cases hb))
  go_wp2
  clear HS
  go_loopg [10] n (fun gg i wr => ∃ (k : Nat) (A' : Option Addr) (m' c' : Nat) (o : Int) (fp : List Nat), n - k ≤ gg ∧ k ≤ n ∧ i = .int .i64 k ∧ Hid (o = (k : Nat)) ∧ Hid (Mm.SepF [] w wr [Mm.tsl rRow 139 (Pl.foldS ⟨[], 0⟩ (l.take k)).Rows (.slice A' m' c') fp, Mm.tblk gh 73 [.slice A' m' c', .int .i64 o], Mm.tblk gr 73 [.slice none 0 0, .int .i64 0]]))
  case atStart => exact ⟨0, none, 0, 0, 0, [], Nat.le_refl _, Nat.zero_le _, rfl, rfl, KS.out⟩
  case round =>
    clear KS
    obtain ⟨k, A', m', c', o, fp, hgk, hk', rfl, HO, HS⟩ := hrel
    obtain ⟨W, rfl⟩ : ∃ W : World, W = wr := ⟨_, rfl⟩
    by_cases hlt : k < n
    · as_aux_lemma =>
      have fc : (k : Int) < (n : Nat) := by omega
      obtain ⟨x, b, off, hx, rfl, hb, hnm, ia, iv, e0, e1, e2⟩ := rSay_get (HL.out.keep (w' := W) fun b hb => HS.out.bel0.block b (by have := HBW.out; omega)) hlt
      have HNX := Lib.hid (Pl.fold_next (h := ⟨[], 0⟩) hx)
      have HIX := Lib.hid (And.intro hnm (And.intro ia iv))
      clear hx hnm ia iv
      go_upto_region 5 with fail
      obtain ⟨gn, hgn⟩ : ∃ g, W.heap.size = g := ⟨_, rfl⟩
      obtain ⟨W1, hW1⟩ : ∃ V, W.alloc (.cells #[.string x.Name, .int .i64 x.At, .int .i64 x.Value] 55) = V := ⟨_, rfl⟩
      have HS1 := Lib.hid ((HS.out.alloc' hgn 55 [.string x.Name, .int .i64 x.At, .int .i64 x.Value]).atW hW1)
      rw [hW1, hgn]
      clear hW1 e0 e1 e2 HS hgn
      obtain ⟨fk, hfk⟩ : ∃ fk, Pl.foldS ⟨[], 0⟩ (l.take k) = fk := ⟨_, rfl⟩
      have hof : fk.Offset = o := by rw [← hfk, Pl.foldS_off, List.length_take, HO.out]; have := HLN.out; simp; omega
      have HFW : Hid (Pl.HW fk) := Lib.hid (by rw [← hfk]; exact Pl.HW.zero.fold _)
      rw [hfk] at HS1 HNX
      have HS1 : Hid (Mm.SepF [] w W1 [Mm.tblk gn 55 [.string x.Name, .int .i64 x.At, .int .i64 x.Value], Mm.tsl rRow 139 fk.Rows (.slice A' m' c') fp, Mm.tblk gh 73 [.slice A' m' c', .int .i64 o], Mm.tblk gr 73 [.slice none 0 0, .int .i64 0]]) := HS1
      have CT := l13Take_c fk x A' m' c' fp W1 (HS1.out.sl 1 rfl) (HS1.out.ndat (i := 1) rfl) HFW.out (by rw [hof, HO.out]; omega) HIX.out.1 HIX.out.2.1 HIX.out.2.2
      unfold TakeR at CT
      rw [hof] at CT
      obtain ⟨o1, ho1⟩ : ∃ o1, o + 1 = o1 := ⟨_, rfl⟩
      rw [ho1] at CT
      have HO1 : Hid (o1 = ((k + 1 : Nat) : Int)) := Lib.hid (by have := HO.out; omega)
      obtain ⟨cd, hcd⟩ : ∃ cd, (Pl.takeS fk x).2 = cd := ⟨_, rfl⟩
      rw [hcd] at CT
      have q0 := HS1.out.cell (k := 0) 0 rfl rfl
      have q1 := HS1.out.cell (k := 1) 0 rfl rfl
      have q2 := HS1.out.cell (k := 2) 0 rfl rfl
      have h0 := HS1.out.cell (k := 0) 2 rfl rfl
      have h1 := HS1.out.cell (k := 1) 2 rfl rfl
      clear hfk hof hcd ho1
      go_upto_region 6 with (go_at_call 128; (with_reducible refine CT.mono ?_); clear CT; rintro e w3 ⟨A2, m2, d2, fp3, rfl, hS⟩; (have HS3 := Lib.hid (HS1.out.call 1 rfl hS.left)); clear hS q0 q1 q2 h0 h1)
      obtain ⟨gy, hgy⟩ : ∃ g, w3.heap.size = g := ⟨_, rfl⟩
      obtain ⟨W4, hW4⟩ : ∃ V, w3.alloc (.cells #[.slice A2 m2 d2, .int .i64 o1] 73) = V := ⟨_, rfl⟩
      have HS4 := Lib.hid ((HS3.out.alloc' hgy 73 [.slice A2 m2 d2, .int .i64 o1]).atW hW4)
      rw [hW4, hgy]
      clear hW4 hgy HS3 HS1
      have y0 := HS4.out.cell (k := 0) 0 rfl rfl
      have y1 := HS4.out.cell (k := 1) 0 rfl rfl
      have h0 := HS4.out.cell (k := 0) 3 rfl rfl
      have h1 := HS4.out.cell (k := 1) 3 rfl rfl
      have z0 := HS4.out.frz (k := 0) 3 rfl
      have z1 := HS4.out.frz (k := 1) 3 rfl
      obtain ⟨W5, hW5⟩ : ∃ V, (W4.setCell ⟨gh, 0, none⟩ (.slice A2 m2 d2)).setCell ⟨gh, 1, none⟩ (.int .i64 o1) = V := ⟨_, rfl⟩
      have HS5 := Lib.hid (((HS4.out.setBlk (k := 0) 3 rfl (.slice A2 m2 d2)).setBlk (k := 1) 3 rfl (.int .i64 o1)).atW hW5)
      go_wp2
      go_roundg (n - (k + 1))
      case measure => omega
      case rel => exact ⟨k + 1, A2, m2, d2, o1, fp3, Nat.le_refl _, by omega, by go_num, HO1, by rw [HNX.out.1]; exact HS5.out.sel [2, 3, 4] (by decide) rfl⟩
    · as_aux_lemma =>
      obtain rfl : k = n := by omega
      have HE : Hid (l.take k = l) := Lib.hid (List.take_of_length_le (by have := HLN.out; omega))
      rw [HE.out] at HS
      have fc : ¬ ((k : Nat) : Int) < (k : Nat) := by omega
      have b0 := HS.out.cell (k := 0) 1 rfl rfl
      have b1 := HS.out.cell (k := 1) 1 rfl rfl
      have o0 := HS.out.cell (k := 0) 2 rfl rfl
      have o1 := HS.out.cell (k := 1) 2 rfl rfl
      have z0 := HS.out.frz (k := 0) 2 rfl
      have z1 := HS.out.frz (k := 1) 2 rfl
      have HSF := Lib.hid ((HS.out.setBlk (k := 0) 2 rfl (.slice A' m' c')).setBlk (k := 1) 2 rfl (.int .i64 o))
      have u0 := HSF.out.cell (k := 0) 2 rfl rfl
      have u1 := HSF.out.cell (k := 1) 2 rfl rfl
      go_wp2
      exact bodyPost_ret (v := .agg #[.slice A' m' c', .int .i64 o]) (by simp [results, Tryz.results73, go_sem, u0, u1]) rfl ⟨A', m', c', fp, by rw [HFO.out, HO.out], HSF.out.sel [0] (by decide) rfl⟩
end Go.Proofs.YtbhmdnjammnlnaaGreatDoor

