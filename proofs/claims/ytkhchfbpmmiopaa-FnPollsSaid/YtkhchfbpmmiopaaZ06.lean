/-
  Joined texts, in build order: Vb, V6, V7, Vc, Wg, Ve. Each part says what it proves; no conditions beyond those that a part names.
-/
import Derived.Test.YtkhchfbpmmiopaaZ01
import Derived.Test.YtkhchfbpmmiopaaZ02
import Derived.Test.YtkhchfbpmmiopaaZ03
import Derived.Test.YtkhchfbpmmiopaaZ04
import Derived.Test.YtkhchfbpmmiopaaZ05
import Derived.Lib.Hide
import Derived.Deep.LoopGhost
import Derived.Deep.DeepFit
/-
  Contracts: the reference's election, by value: a letter is taken (chapter 8). No conditions beyond those named.
-/
namespace Go.Proofs.Ytkhchfbpmmiopaa
open Go.RowKit
attribute [local go_sem] und_cell cha_cell World.cell?_alloc_some
set_option maxRecDepth 100000 in
theorem l1PutHas_c (l : List Int) (t : Int) (A : Option Addr) (n c : Nat) (w : World) (B : Nat) (hl : Mm.SlAt Mm.int w B l A n c) (hs : l.Pairwise (· < ·)) (hn : n ≤ 1000) (hin : t ∈ l) :
    Calls Try.prog 101 #[.slice A n c, .int .i64 t] w fun e w' => e = .returned (.slice A n c) ∧ w = w' := by
  have HL := Lib.hid hl
  have HSO := Lib.hid hs
  have HIN := Lib.hid hin
  clear hl hs hin
  go_enter Try.func101, Try.ntmps101
  go_wp2
  go_loop [5] (fun i => ∃ k : Nat, k ≤ n ∧ i = .int .i64 k ∧ Hid (∀ (i : Nat) x, i < k → l[i]? = some x → x < t)) (fun i => n - (intOf i).toNat)
  case atStart => exact ⟨0, Nat.zero_le _, rfl, Lib.hid (fun j x hj => absurd hj (Nat.not_lt_zero _))⟩
  case round =>
    obtain ⟨k, hk, rfl, HA⟩ := hrel
    have hlt : k < n := by
      obtain ⟨i, hi, hx⟩ := List.mem_iff_getElem.1 HIN.out
      have h1 : ¬ i < k := fun h => by
        have := HA.out i _ h (List.getElem?_eq_getElem hi)
        rw [hx] at this; omega
      have := HL.out.1; omega
    obtain ⟨x, b, off, hx, rfl, hb, i1, e0⟩ := int_get HL.out hlt
    by_cases hxt : x < t
    · have HN : Hid (∀ (i : Nat) y, i < k + 1 → l[i]? = some y → y < t) := Lib.hid (fun i y hi hy => by
        rcases Nat.lt_succ_iff_lt_or_eq.1 hi with h1 | rfl
        · exact HA.out i y h1 hy
        · rw [hx] at hy; injection hy with hy; rw [← hy]; exact hxt)
      have f1 : (k : Int) < (n : Nat) := by omega
      have f2 : decide (x < t) = true := by simpa using hxt
      clear hxt hx i1
      go_wp2
      go_round
      case rel => exact ⟨k + 1, by omega, by go_num, HN⟩
      case measure => simp [intOf]; omega
    · have hxe : x = t := by
        obtain ⟨i, hi, hit⟩ := List.mem_iff_getElem.1 HIN.out
        have hkl : k < l.length := by have := HL.out.1; omega
        have hxk : l[k] = x := by rw [List.getElem?_eq_getElem hkl] at hx; injection hx
        rcases Nat.lt_trichotomy i k with h1 | h1 | h1
        · have := HA.out i _ h1 (List.getElem?_eq_getElem hi); omega
        · subst h1; rw [← hxk, ← hit]
        · have h2 := List.pairwise_iff_getElem.1 HSO.out k i hkl hi h1
          omega
      subst hxe
      have f1 : (k : Int) < (n : Nat) := by omega
      clear hxt hx i1
      go_wp2
      go_ret
      exact ⟨rfl, rfl⟩
set_option maxRecDepth 100000 in
set_option maxHeartbeats 4000000 in
theorem l8Take_c (p : Poll) (m : Letter) (cs : List Value) (fp : List Nat) (w : World) (h : (Mm.tow rPoll p cs fp).holds w) (hnd : fp.Nodup) (hw : Pl.PW p) (hm : Pl.LetOk p.Nodes.length m) :
    Calls Try.prog 84 #[.agg cs.toArray, .agg #[.int .i64 m.From, .int .i64 m.To, .int .i64 m.Term, .bool m.Ask, .int .i64 m.Age]] w (PVA (Pl.ptake p m) fp w) := by
  have HMO := Lib.hid hm
  obtain ⟨fr, ds, tm, ask, ag⟩ := m
  obtain ⟨k, rfl⟩ : ∃ k : Nat, ds = k := ⟨ds.toNat, by have := hm.dst.1; dsimp only at this; omega⟩
  have hk : k < p.Nodes.length := by have := hm.dst.2; dsimp only at this; omega
  obtain ⟨A0, n0, c0, A1, n1, c1, A2, n2, c2, f0, f1, f2, rfl, rfl, hs⟩ := openv_Poll (Mm.SepF.one _ w h hnd)
  obtain ⟨g0, rfl, -, -⟩ := Mm.sl_addr (hs.sl 0 rfl) (by omega)
  have hln0 : n0 = p.Nodes.length := by obtain ⟨A', n', c', hv, h1, _⟩ := (hs.sl 0 rfl).form; injection hv with _ h2 _; omega
  have hx := hw.at_ (k := (k : Int)) (by omega) (by omega)
  rw [show ((k : Nat) : Int).toNat = k by omega] at hx
  have hn5 := hw.n5
  have hn05 : n0 ≤ 5 := by omega
  have hno := hw.nok (k := (k : Int)) (by omega) (by omega)
  obtain ⟨nd, hnd'⟩ : ∃ nd, Pl.nodeAt p (k : Int) = nd := ⟨_, rfl⟩
  rw [hnd'] at hx hno
  have HNO := Lib.hid hno
  have HND := Lib.hid hnd'
  have HX := Lib.hid hx
  obtain ⟨ga, hga⟩ : ∃ g, w.heap.size = g := ⟨_, rfl⟩
  obtain ⟨gb, hgb⟩ : ∃ g, ga + 1 = g := ⟨_, rfl⟩
  obtain ⟨gc, hgc⟩ : ∃ g, gb + 1 = g := ⟨_, rfl⟩
  obtain ⟨W0, hW0⟩ : ∃ W, ((w.alloc (.cells #[.slice (some ⟨g0, 0, none⟩) n0 c0, .slice A1 n1 c1, .slice A2 n2 c2] 31)).alloc (.cells #[.int .i64 fr, .int .i64 k, .int .i64 tm, .bool ask, .int .i64 ag] 84)).alloc (.cells #[.slice none 0 0, .slice none 0 0, .slice none 0 0] 31) = W := ⟨_, rfl⟩
  have HS := Lib.hid ((((hs.alloc' hga 31 [.slice (some ⟨g0, 0, none⟩) n0 c0, .slice A1 n1 c1, .slice A2 n2 c2]).alloc' (g := gb) (by rw [Mm.sz1, hga, hgb]) 84 [.int .i64 fr, .int .i64 k, .int .i64 tm, .bool ask, .int .i64 ag]).alloc' (g := gc) (by rw [Mm.sz2, hga]; omega) 31 zPoll).atW hW0)
  have HKN := Lib.hid hk
  have hkn : (k : Int) < (n0 : Nat) := by omega
  have hk0 : (0 : Int) ≤ (k : Nat) := by omega
  have hkt : ((k : Nat) : Int).toNat = k := by omega
  have HN0 := Lib.hid hln0
  have HW := Lib.hid hw
  clear h hs hnd hx hnd' hk hln0 hw hno hm
  obtain ⟨A3, m3', d3, e0, e1, e2, e3, e4, hrd, -, -, -, -⟩ := node_cells (HS.out.sl 3 rfl) (HS.out.ndat (i := 3) rfl) HX.out
  clear hrd
  have b0 := HS.out.cell (k := 0) 2 rfl rfl
  have b1 := HS.out.cell (k := 1) 2 rfl rfl
  have b2 := HS.out.cell (k := 2) 2 rfl rfl
  have l1 := HS.out.cell (k := 1) 1 rfl rfl
  go_enter Try.func84, Try.ntmps84
  go_upto_region 2 with fail
  obtain ⟨gn, hgn⟩ : ∃ g, W0.heap.size = g := ⟨_, rfl⟩
  obtain ⟨W1, hW1⟩ : ∃ W, W0.alloc (.cells #[.int .i64 nd.Term, .int .i64 nd.Voted, .int .i64 nd.Age, .slice A3 m3' d3, .int .i64 nd.Role] 42) = W := ⟨_, rfl⟩
  have e3' := below_some (by rw [← hW1]; exact below_new (Below.refl _ _) _ : Below W0.heap.size W0 W1) e3
  replace HS := Lib.hid ((HS.out.alloc' hgn 42 [.int .i64 nd.Term, .int .i64 nd.Voted, .int .i64 nd.Age, .slice A3 m3' d3, .int .i64 nd.Role]).atW hW1)
  rw [hW1, hgn]
  clear hW1 hgn hW0 hga hgb hgc e0 e1 e2 e3 e4 b0 b1 b2 l1
  have HE3 := Lib.hid e3'
  clear e3'
  obtain ⟨lt1, hlt1⟩ : ∃ b, decide (nd.Term < tm) = b := ⟨_, rfl⟩
  have HLT := Lib.hid hlt1
  have hlt2 : decide (nd.Term < tm) = lt1 := hlt1
  have m0 := HS.out.cell (k := 0) 2 rfl rfl
  have m1 := HS.out.cell (k := 1) 2 rfl rfl
  have m2 := HS.out.cell (k := 2) 2 rfl rfl
  have m3 := HS.out.cell (k := 3) 2 rfl rfl
  have m4 := HS.out.cell (k := 4) 2 rfl rfl
  have q0 := HS.out.cell (k := 0) 0 rfl rfl
  have q1 := HS.out.cell (k := 1) 0 rfl rfl
  have q2 := HS.out.cell (k := 2) 0 rfl rfl
  have q3 := HS.out.cell (k := 3) 0 rfl rfl
  have q4 := HS.out.cell (k := 4) 0 rfl rfl
  have b0 := HS.out.cell (k := 0) 3 rfl rfl
  have b1 := HS.out.cell (k := 1) 3 rfl rfl
  have b2 := HS.out.cell (k := 2) 3 rfl rfl
  go_upto_if 16 with fail
  clear hlt1 hlt2
  clear m0 m1 m2 m3 m4 q0 q1 q2 q3 q4 b0 b1 b2
  go_cut [] (fun wx => ∃ (nq : Node) (f0' : List Nat) (AH : Option Addr) (mH dH : Nat), Hid (Pl.nodeAt (Pl.pnews p ⟨fr, (k : Int), tm, ask, ag⟩) (k : Int) = nq ∧ wx.cell? ⟨g0, k * 5 + 3, none⟩ = some (.slice AH mH dH) ∧ Mm.SepF (f0 ++ (f1 ++ f2)) w wx [Mm.tblk gn 42 [.int .i64 nq.Term, .int .i64 nq.Voted, .int .i64 nq.Age, .slice AH mH dH, .int .i64 nq.Role], Mm.tblk gc 31 zPoll, Mm.tblk gb 84 [.int .i64 fr, .int .i64 k, .int .i64 tm, .bool ask, .int .i64 ag], Mm.tblk ga 31 [.slice (some ⟨g0, 0, none⟩) n0 c0, .slice A1 n1 c1, .slice A2 n2 c2], Mm.tsl rNode 42 (Pl.pnews p ⟨fr, (k : Int), tm, ask, ag⟩).Nodes (.slice (some ⟨g0, 0, none⟩) n0 c0) f0', Mm.tsl rLetter 84 p.Letters (.slice A1 n1 c1) f1, Mm.tsl ints 23 p.Leaders (.slice A2 n2 c2) f2]))
  case first =>
    cases lt1 with
    | false =>
      have HF : Hid (Pl.pnews p ⟨fr, (k : Int), tm, ask, ag⟩ = p) := Lib.hid (if_neg (by have h1 := HLT.out; simp only [decide_eq_false_iff_not] at h1; show ¬ (Pl.nodeAt p (k : Int)).Term < tm; rw [HND.out]; exact h1))
      go_wp2_with fail
      go_meet
      exact ⟨nd, f0, A3, m3', d3, Lib.hid (by rw [HF.out]; exact ⟨HND.out, HE3.out, HS.out⟩)⟩
    | true =>
      have HF : Hid (Pl.pnews p ⟨fr, (k : Int), tm, ask, ag⟩ = Pl.setNode p (k : Int) ⟨tm, -1, nd.Age, [], 0⟩) := Lib.hid ((if_pos (by have h1 := HLT.out; simp only [decide_eq_true_eq] at h1; show (Pl.nodeAt p (k : Int)).Term < tm; rw [HND.out]; exact h1)).trans (by show Pl.setNode p (k : Int) ⟨tm, -1, (Pl.nodeAt p (k : Int)).Age, [], 0⟩ = _; rw [HND.out]))
      have htm := HMO.out.term
      dsimp only at htm
      have m0 := HS.out.cell (k := 0) 2 rfl rfl
      have m1 := HS.out.cell (k := 1) 2 rfl rfl
      have m2 := HS.out.cell (k := 2) 2 rfl rfl
      have m3 := HS.out.cell (k := 3) 2 rfl rfl
      have m4 := HS.out.cell (k := 4) 2 rfl rfl
      have q0 := HS.out.cell (k := 0) 0 rfl rfl
      have q1 := HS.out.cell (k := 1) 0 rfl rfl
      have q2 := HS.out.cell (k := 2) 0 rfl rfl
      have q3 := HS.out.cell (k := 3) 0 rfl rfl
      have q4 := HS.out.cell (k := 4) 0 rfl rfl
      have b0 := HS.out.cell (k := 0) 3 rfl rfl
      have b1 := HS.out.cell (k := 1) 3 rfl rfl
      have b2 := HS.out.cell (k := 2) 3 rfl rfl
      have z0 := HS.out.frz (k := 0) 0 rfl
      have z1 := HS.out.frz (k := 1) 0 rfl
      have z2 := HS.out.frz (k := 2) 0 rfl
      have z3 := HS.out.frz (k := 3) 0 rfl
      have z4 := HS.out.frz (k := 4) 0 rfl
      have HS2 := Lib.hid (((((HS.out.setBlk (k := 0) 0 rfl (.int .i64 tm)).setBlk (k := 1) 0 rfl (.int .i64 (-1))).setBlk (k := 2) 0 rfl (.int .i64 nd.Age)).setBlk (k := 3) 0 rfl (.slice none 0 0)).setBlk (k := 4) 0 rfl (.int .i64 0))
      go_upto_region 4 with fail
      clear z0 z1 z2 z3 z4
      clear m0 m1 m2 m3 m4 q0 q1 q2 q3 q4 b0 b1 b2
      obtain ⟨W2, hW2⟩ : ∃ V, ((((W1.setCell ⟨gn, 0, none⟩ (.int .i64 tm)).setCell ⟨gn, 1, none⟩ (.int .i64 (-1))).setCell ⟨gn, 2, none⟩ (.int .i64 nd.Age)).setCell ⟨gn, 3, none⟩ (.slice none 0 0)).setCell ⟨gn, 4, none⟩ (.int .i64 0) = V := ⟨_, rfl⟩
      rw [hW2] at HS2 ⊢
      clear hW2
      obtain ⟨A6, m6, d6, e0, e1, e2, e3, e4, -, -, -, -, -⟩ := node_cells (HS2.out.sl 4 rfl) (HS2.out.ndat (i := 4) rfl) HX.out
      have z0 := (HS2.out.sl 4 rfl).frozen (k * 5)
      have z1 := (HS2.out.sl 4 rfl).frozen (k * 5 + 1)
      have z2 := (HS2.out.sl 4 rfl).frozen (k * 5 + 2)
      have z3 := (HS2.out.sl 4 rfl).frozen (k * 5 + 3)
      have z4 := (HS2.out.sl 4 rfl).frozen (k * 5 + 4)
      obtain ⟨fx, hst⟩ := HS2.out.nodeStore 4 rfl HX.out
      obtain ⟨fp1, hs3⟩ := hst W2 ⟨tm, -1, nd.Age, [], 0⟩ none 0 0 [] (by unfold Mm.I64; show _ ≤ tm ∧ tm ≤ _; omega) (by unfold Mm.I64; show _ ≤ (-1 : Int) ∧ (-1 : Int) ≤ _; omega) (by unfold Mm.I64; show _ ≤ nd.Age ∧ nd.Age ≤ _; have := HNO.out.age; omega) (by unfold Mm.I64; show _ ≤ (0 : Int) ∧ (0 : Int) ≤ _; omega) (((Mm.SepF.start _).add (Below.refl _ _) (t := Mm.tsl Mm.int 3 [] (.slice none 0 0) []) Mm.SlOwn.nil List.nodup_nil (fun b hb => by cases hb)).widen)
      have HS3 := Lib.hid hs3
      clear hst hs3
      have m0 := HS2.out.cell (k := 0) 2 rfl rfl
      have m1 := HS2.out.cell (k := 1) 2 rfl rfl
      have m2 := HS2.out.cell (k := 2) 2 rfl rfl
      have m3 := HS2.out.cell (k := 3) 2 rfl rfl
      have m4 := HS2.out.cell (k := 4) 2 rfl rfl
      have q0 := HS2.out.cell (k := 0) 0 rfl rfl
      have q1 := HS2.out.cell (k := 1) 0 rfl rfl
      have q2 := HS2.out.cell (k := 2) 0 rfl rfl
      have q3 := HS2.out.cell (k := 3) 0 rfl rfl
      have q4 := HS2.out.cell (k := 4) 0 rfl rfl
      have b0 := HS2.out.cell (k := 0) 3 rfl rfl
      have b1 := HS2.out.cell (k := 1) 3 rfl rfl
      have b2 := HS2.out.cell (k := 2) 3 rfl rfl
      go_wp2_with fail
      go_meet
      have hx3 : (p.Nodes.set k (⟨tm, -1, nd.Age, [], 0⟩ : Node))[k]? = some (⟨tm, -1, nd.Age, [], 0⟩ : Node) := List.getElem?_set_self HKN.out
      refine ⟨⟨tm, -1, nd.Age, [], 0⟩, fp1, none, 0, 0, Lib.hid ⟨?_, ?_, ?_⟩⟩
      · rw [HF.out, Pl.nodeAt_set (by rw [hkt]; exact HKN.out) hk0 hk0, if_pos rfl]
      · rw [World.cell?_setCell_other _ _ _ _ (by simp)]
        exact World.cell?_setCell_same _ _ _ (by rw [World.cell?_setCell_other _ _ _ _ (by simp), World.cell?_setCell_other _ _ _ _ (by simp), World.cell?_setCell_other _ _ _ _ (by simp)]; exact e3)
      · rw [HF.out]; unfold Pl.setNode; rw [hkt]; exact HS3.out
  case rest =>
  clear HS HE3
  obtain ⟨nq, f0', AH, mH, dH, HC⟩ := hcut
  obtain ⟨q, hq⟩ : ∃ q, Pl.pnews p ⟨fr, (k : Int), tm, ask, ag⟩ = q := ⟨_, rfl⟩
  have hpw := Pl.PW.news HW.out HMO.out
  have hsh := Pl.pnews_shape p ⟨fr, (k : Int), tm, ask, ag⟩
  rw [hq] at HC hpw hsh
  have hnq := HC.out.1
  have hpt : tm ≤ nq.Term := by rw [← hnq]; exact hpw.2
  have HPW := Lib.hid hpw.1
  have hxq := hpw.1.at_ (k := (k : Int)) (by omega) (by rw [hsh.2.2]; have := HKN.out; omega)
  rw [hkt, hnq] at hxq
  have HX := Lib.hid hxq
  have HNQ := Lib.hid hnq
  have HF0 : Hid (Pl.ptake p ⟨fr, (k : Int), tm, ask, ag⟩ = Pl.ptakeN q ⟨fr, (k : Int), tm, ask, ag⟩) := Lib.hid (by unfold Pl.ptake; rw [hq])
  have HQ0 : Hid (q.Nodes.length = n0) := Lib.hid (by rw [hsh.2.2]; exact HN0.out.symm)
  have HCE := Lib.hid HC.out.2.1
  have HS := Lib.hid HC.out.2.2
  rw [← hsh.1, ← hsh.2.1] at HS
  have HMO2 : Hid (Pl.LetOk q.Nodes.length ⟨fr, (k : Int), tm, ask, ag⟩) := Lib.hid (by rw [hsh.2.2]; exact HMO.out)
  clear hq hpw hsh hnq hxq HN0 HKN HW HND HLT HMO HC
  have m0 := HS.out.cell (k := 0) 2 rfl rfl
  have m1 := HS.out.cell (k := 1) 2 rfl rfl
  have m2 := HS.out.cell (k := 2) 2 rfl rfl
  have m3 := HS.out.cell (k := 3) 2 rfl rfl
  have m4 := HS.out.cell (k := 4) 2 rfl rfl
  have q0 := HS.out.cell (k := 0) 0 rfl rfl
  have q1 := HS.out.cell (k := 1) 0 rfl rfl
  have q2 := HS.out.cell (k := 2) 0 rfl rfl
  have q3 := HS.out.cell (k := 3) 0 rfl rfl
  have q4 := HS.out.cell (k := 4) 0 rfl rfl
  have b0 := HS.out.cell (k := 0) 3 rfl rfl
  have b1 := HS.out.cell (k := 1) 3 rfl rfl
  have b2 := HS.out.cell (k := 2) 3 rfl rfl
  by_cases htm : tm = nq.Term
  rotate_left
  · have HF : Hid (Pl.ptake p ⟨fr, (k : Int), tm, ask, ag⟩ = q) := Lib.hid (by rw [HF0.out]; exact if_pos (by show tm < (Pl.nodeAt q (k : Int)).Term; rw [HNQ.out]; omega))
    have fa : tm < nq.Term := by omega
    clear htm
    have r0 := HS.out.cell (k := 0) 1 rfl rfl
    have r1 := HS.out.cell (k := 1) 1 rfl rfl
    have r2 := HS.out.cell (k := 2) 1 rfl rfl
    have z0 := HS.out.frz (k := 0) 1 rfl
    have z1 := HS.out.frz (k := 1) 1 rfl
    have z2 := HS.out.frz (k := 2) 1 rfl
    go_wp2
    have HSF := Lib.hid (((HS.out.setBlk (k := 0) 1 rfl (.slice (some ⟨g0, 0, none⟩) n0 c0)).setBlk (k := 1) 1 rfl (.slice A1 n1 c1)).setBlk (k := 2) 1 rfl (.slice A2 n2 c2))
    have u0 := HSF.out.cell (k := 0) 1 rfl rfl
    have u1 := HSF.out.cell (k := 1) 1 rfl rfl
    have u2 := HSF.out.cell (k := 2) 1 rfl rfl
    exact bodyPost_ret (v := .agg #[(.slice (some ⟨g0, 0, none⟩) n0 c0), (.slice A1 n1 c1), (.slice A2 n2 c2)]) (by simp [results, Try.results84, go_sem, u0, u1, u2]) rfl ⟨_, _, rfl, by rw [HF.out]; exact (shutv_Poll (x := q) (HSF.out.sel [4,5,6] (by decide) rfl)).left⟩
  have fa : ¬ tm < nq.Term := by omega
  have HTM := Lib.hid htm
  have HF1 : Hid (Pl.ptake p ⟨fr, (k : Int), tm, ask, ag⟩ = if ask = true then (if (nq.Voted = -1 ∨ nq.Voted = fr) ∧ nq.Age ≤ ag then Pl.pgive q ⟨fr, (k : Int), tm, ask, ag⟩ else q) else if nq.Role = 1 then Pl.pcount q ⟨fr, (k : Int), tm, ask, ag⟩ else q) := Lib.hid (by
    rw [HF0.out]
    unfold Pl.ptakeN
    dsimp only
    rw [HNQ.out, if_neg (by omega)])
  clear htm HF0
  have HN : Hid (Pl.NodeOk q.Nodes.length nq) := Lib.hid (by rw [← HNQ.out]; exact HPW.out.nok (k := (k : Int)) hk0 (by rw [HQ0.out]; exact hkn))
  have hfr : 0 ≤ fr ∧ fr < (n0 : Nat) := by have := HMO2.out.src; dsimp only at this; have := HQ0.out; omega
  have hfi : Mm.I64 fr := by unfold Mm.I64; omega
  have HFI := Lib.hid hfi
  clear hfi
  cases ask with
  | true =>
    rw [if_pos rfl] at HF1
    by_cases hcnd : (nq.Voted = -1 ∨ nq.Voted = fr) ∧ nq.Age ≤ ag
    · have HF : Hid (Pl.ptake p ⟨fr, (k : Int), tm, true, ag⟩ = Pl.psend (Pl.setNode q (k : Int) (Pl.withVoted nq fr)) ⟨(k : Int), fr, tm, false, 0⟩) := Lib.hid (by
        rw [HF1.out, if_pos hcnd]
        unfold Pl.pgive
        dsimp only
        rw [HNQ.out])
      have fc : nq.Age ≤ ag := hcnd.2
      have HV : Hid (nq.Voted = -1 ∨ nq.Voted = fr) := Lib.hid hcnd.1
      clear hcnd
      have HTMI := HMO2.out.term
      dsimp only at HTMI
      obtain ⟨A6, m6, d6, e0, e1, e2, e3, e4, -, -, -, -, -⟩ := node_cells (HS.out.sl 4 rfl) (HS.out.ndat (i := 4) rfl) HX.out
      have z1' := (HS.out.sl 4 rfl).frozen (k * 5 + 1)
      have HS5 := Lib.hid (HS.out.nodeNum (k := k) (m := 1) (v := fr) 4 rfl HX.out (by omega) (fun cs fx hh => rNode_set1 hh HFI.out))
      go_upto_region 8 with fail
      by_cases hv1 : nq.Voted = -1
      · have fd : (nq.Voted == -1) = true := by simpa using hv1
        clear hv1 HV
        go_upto_region 10 with fail
        clear m0 m1 m2 m3 m4 q0 q1 q2 q3 q4 b0 b1 b2
        clear e0 e1 e2 e3 e4 z1' HS
        obtain ⟨W5, hW5⟩ : ∃ V, wc.setCell ⟨g0, k * 5 + 1, none⟩ (.int .i64 fr) = V := ⟨_, rfl⟩
        rw [hW5] at HS5 ⊢
        clear hW5
        have HT := Lib.hid (shutv_Poll (x := Pl.setNode q (k : Int) (Pl.withVoted nq fr)) (by have h := HS5.out.sel [4, 5, 6, 3, 2, 1, 0] (by decide) rfl; unfold Pl.setNode Pl.withVoted; rw [hkt]; exact h))
        have CS := l8Write_c (Pl.setNode q (k : Int) (Pl.withVoted nq fr)) ⟨(k : Int), fr, tm, false, 0⟩ _ _ W5 (HT.out.at_ 0 rfl) (HT.out.ndat (i := 0) rfl) ⟨by unfold Mm.I64; show _ ≤ (k : Int) ∧ (k : Int) ≤ _; omega, HFI.out, by unfold Mm.I64; show _ ≤ tm ∧ tm ≤ _; omega, by unfold Mm.I64; show _ ≤ (0 : Int) ∧ (0 : Int) ≤ _; omega⟩ HPW.out.lets
        have b0 := HT.out.cell (k := 0) 1 rfl rfl
        have b1 := HT.out.cell (k := 1) 1 rfl rfl
        have b2 := HT.out.cell (k := 2) 1 rfl rfl
        have m0 := HT.out.cell (k := 0) 2 rfl rfl
        have m1 := HT.out.cell (k := 1) 2 rfl rfl
        have m2 := HT.out.cell (k := 2) 2 rfl rfl
        go_upto_region 11 with (go_at_call 83; (with_reducible refine CS.mono ?_); clear CS; rintro e w6 ⟨cq, fq, rfl, hL⟩; obtain ⟨C0, x0, y0, C1, x1, y1, C2, x2, y2, rfl⟩ := own_formP hL.2.2.2; (have HS7 := Lib.hid (HT.out.call 0 rfl hL)); clear hL; (clear b0 b1 b2); clear m0 m1 m2; (have r0 := HS7.out.cell (k := 0) 1 rfl rfl); (have r1 := HS7.out.cell (k := 1) 1 rfl rfl); (have r2 := HS7.out.cell (k := 2) 1 rfl rfl); (have z0 := HS7.out.frz (k := 0) 1 rfl); (have z1 := HS7.out.frz (k := 1) 1 rfl); (have z2 := HS7.out.frz (k := 2) 1 rfl))
        have HS8 := Lib.hid (((HS7.out.setBlk (k := 0) 1 rfl (.slice C0 x0 y0)).setBlk (k := 1) 1 rfl (.slice C1 x1 y1)).setBlk (k := 2) 1 rfl (.slice C2 x2 y2))
        clear r0 r1 r2 z0 z1 z2
        obtain ⟨W7, hW7⟩ : ∃ V, ((w6.setCell ⟨ga, 0, none⟩ (.slice C0 x0 y0)).setCell ⟨ga, 1, none⟩ (.slice C1 x1 y1)).setCell ⟨ga, 2, none⟩ (.slice C2 x2 y2) = V := ⟨_, rfl⟩
        rw [hW7] at HS8 ⊢
        clear hW7
        have b0 := HS8.out.cell (k := 0) 1 rfl rfl
        have b1 := HS8.out.cell (k := 1) 1 rfl rfl
        have b2 := HS8.out.cell (k := 2) 1 rfl rfl
        have r0 := HS8.out.cell (k := 0) 3 rfl rfl
        have r1 := HS8.out.cell (k := 1) 3 rfl rfl
        have r2 := HS8.out.cell (k := 2) 3 rfl rfl
        have z0 := HS8.out.frz (k := 0) 3 rfl
        have z1 := HS8.out.frz (k := 1) 3 rfl
        have z2 := HS8.out.frz (k := 2) 3 rfl
        go_wp2
        have HS9 := Lib.hid (((HS8.out.setBlk (k := 0) 3 rfl (.slice C0 x0 y0)).setBlk (k := 1) 3 rfl (.slice C1 x1 y1)).setBlk (k := 2) 3 rfl (.slice C2 x2 y2))
        have u0 := HS9.out.cell (k := 0) 3 rfl rfl
        have u1 := HS9.out.cell (k := 1) 3 rfl rfl
        have u2 := HS9.out.cell (k := 2) 3 rfl rfl
        exact bodyPost_ret (v := .agg #[.slice C0 x0 y0, .slice C1 x1 y1, .slice C2 x2 y2]) (by simp [results, Try.results84, go_sem, u0, u1, u2]) rfl ⟨_, _, rfl, by rw [HF.out]; exact (HS9.out.sel [0] (by decide) rfl).left⟩
      · have fd : (nq.Voted == -1) = false := by simpa using hv1
        have fe : (nq.Voted == fr) = true := by rcases HV.out with h | h; exact absurd h hv1; rw [h]; simp
        clear hv1 HV
        go_upto_region 10 with fail
        clear m0 m1 m2 m3 m4 q0 q1 q2 q3 q4 b0 b1 b2
        clear e0 e1 e2 e3 e4 z1' HS
        obtain ⟨W5, hW5⟩ : ∃ V, wc.setCell ⟨g0, k * 5 + 1, none⟩ (.int .i64 fr) = V := ⟨_, rfl⟩
        rw [hW5] at HS5 ⊢
        clear hW5
        have HT := Lib.hid (shutv_Poll (x := Pl.setNode q (k : Int) (Pl.withVoted nq fr)) (by have h := HS5.out.sel [4, 5, 6, 3, 2, 1, 0] (by decide) rfl; unfold Pl.setNode Pl.withVoted; rw [hkt]; exact h))
        have CS := l8Write_c (Pl.setNode q (k : Int) (Pl.withVoted nq fr)) ⟨(k : Int), fr, tm, false, 0⟩ _ _ W5 (HT.out.at_ 0 rfl) (HT.out.ndat (i := 0) rfl) ⟨by unfold Mm.I64; show _ ≤ (k : Int) ∧ (k : Int) ≤ _; omega, HFI.out, by unfold Mm.I64; show _ ≤ tm ∧ tm ≤ _; omega, by unfold Mm.I64; show _ ≤ (0 : Int) ∧ (0 : Int) ≤ _; omega⟩ HPW.out.lets
        have b0 := HT.out.cell (k := 0) 1 rfl rfl
        have b1 := HT.out.cell (k := 1) 1 rfl rfl
        have b2 := HT.out.cell (k := 2) 1 rfl rfl
        have m0 := HT.out.cell (k := 0) 2 rfl rfl
        have m1 := HT.out.cell (k := 1) 2 rfl rfl
        have m2 := HT.out.cell (k := 2) 2 rfl rfl
        go_upto_region 11 with (go_at_call 83; (with_reducible refine CS.mono ?_); clear CS; rintro e w6 ⟨cq, fq, rfl, hL⟩; obtain ⟨C0, x0, y0, C1, x1, y1, C2, x2, y2, rfl⟩ := own_formP hL.2.2.2; (have HS7 := Lib.hid (HT.out.call 0 rfl hL)); clear hL; (clear b0 b1 b2); clear m0 m1 m2; (have r0 := HS7.out.cell (k := 0) 1 rfl rfl); (have r1 := HS7.out.cell (k := 1) 1 rfl rfl); (have r2 := HS7.out.cell (k := 2) 1 rfl rfl); (have z0 := HS7.out.frz (k := 0) 1 rfl); (have z1 := HS7.out.frz (k := 1) 1 rfl); (have z2 := HS7.out.frz (k := 2) 1 rfl))
        have HS8 := Lib.hid (((HS7.out.setBlk (k := 0) 1 rfl (.slice C0 x0 y0)).setBlk (k := 1) 1 rfl (.slice C1 x1 y1)).setBlk (k := 2) 1 rfl (.slice C2 x2 y2))
        clear r0 r1 r2 z0 z1 z2
        obtain ⟨W7, hW7⟩ : ∃ V, ((w6.setCell ⟨ga, 0, none⟩ (.slice C0 x0 y0)).setCell ⟨ga, 1, none⟩ (.slice C1 x1 y1)).setCell ⟨ga, 2, none⟩ (.slice C2 x2 y2) = V := ⟨_, rfl⟩
        rw [hW7] at HS8 ⊢
        clear hW7
        have b0 := HS8.out.cell (k := 0) 1 rfl rfl
        have b1 := HS8.out.cell (k := 1) 1 rfl rfl
        have b2 := HS8.out.cell (k := 2) 1 rfl rfl
        have r0 := HS8.out.cell (k := 0) 3 rfl rfl
        have r1 := HS8.out.cell (k := 1) 3 rfl rfl
        have r2 := HS8.out.cell (k := 2) 3 rfl rfl
        have z0 := HS8.out.frz (k := 0) 3 rfl
        have z1 := HS8.out.frz (k := 1) 3 rfl
        have z2 := HS8.out.frz (k := 2) 3 rfl
        go_wp2
        have HS9 := Lib.hid (((HS8.out.setBlk (k := 0) 3 rfl (.slice C0 x0 y0)).setBlk (k := 1) 3 rfl (.slice C1 x1 y1)).setBlk (k := 2) 3 rfl (.slice C2 x2 y2))
        have u0 := HS9.out.cell (k := 0) 3 rfl rfl
        have u1 := HS9.out.cell (k := 1) 3 rfl rfl
        have u2 := HS9.out.cell (k := 2) 3 rfl rfl
        exact bodyPost_ret (v := .agg #[.slice C0 x0 y0, .slice C1 x1 y1, .slice C2 x2 y2]) (by simp [results, Try.results84, go_sem, u0, u1, u2]) rfl ⟨_, _, rfl, by rw [HF.out]; exact (HS9.out.sel [0] (by decide) rfl).left⟩
    · have HF : Hid (Pl.ptake p ⟨fr, (k : Int), tm, true, ag⟩ = q) := Lib.hid (by rw [HF1.out, if_neg hcnd])
      have HCN := Lib.hid hcnd
      clear hcnd
      have r0 := HS.out.cell (k := 0) 1 rfl rfl
      have r1 := HS.out.cell (k := 1) 1 rfl rfl
      have r2 := HS.out.cell (k := 2) 1 rfl rfl
      have z0 := HS.out.frz (k := 0) 1 rfl
      have z1 := HS.out.frz (k := 1) 1 rfl
      have z2 := HS.out.frz (k := 2) 1 rfl
      go_upto_region 8 with fail
      by_cases hv1 : nq.Voted = -1
      · have fd : (nq.Voted == -1) = true := by simpa using hv1
        have fc : ¬ nq.Age ≤ ag := fun hh => HCN.out ⟨.inl hv1, hh⟩
        clear hv1
        go_wp2
        have HSF := Lib.hid (((HS.out.setBlk (k := 0) 1 rfl (.slice (some ⟨g0, 0, none⟩) n0 c0)).setBlk (k := 1) 1 rfl (.slice A1 n1 c1)).setBlk (k := 2) 1 rfl (.slice A2 n2 c2))
        have u0 := HSF.out.cell (k := 0) 1 rfl rfl
        have u1 := HSF.out.cell (k := 1) 1 rfl rfl
        have u2 := HSF.out.cell (k := 2) 1 rfl rfl
        exact bodyPost_ret (v := .agg #[(.slice (some ⟨g0, 0, none⟩) n0 c0), (.slice A1 n1 c1), (.slice A2 n2 c2)]) (by simp [results, Try.results84, go_sem, u0, u1, u2]) rfl ⟨_, _, rfl, by rw [HF.out]; exact (shutv_Poll (x := q) (HSF.out.sel [4,5,6] (by decide) rfl)).left⟩
      · have fd : (nq.Voted == -1) = false := by simpa using hv1
        by_cases hv2 : nq.Voted = fr
        · have fe : (nq.Voted == fr) = true := by rw [hv2]; simp
          have fc : ¬ nq.Age ≤ ag := fun hh => HCN.out ⟨.inr hv2, hh⟩
          clear hv1 hv2
          go_wp2
          have HSF := Lib.hid (((HS.out.setBlk (k := 0) 1 rfl (.slice (some ⟨g0, 0, none⟩) n0 c0)).setBlk (k := 1) 1 rfl (.slice A1 n1 c1)).setBlk (k := 2) 1 rfl (.slice A2 n2 c2))
          have u0 := HSF.out.cell (k := 0) 1 rfl rfl
          have u1 := HSF.out.cell (k := 1) 1 rfl rfl
          have u2 := HSF.out.cell (k := 2) 1 rfl rfl
          exact bodyPost_ret (v := .agg #[(.slice (some ⟨g0, 0, none⟩) n0 c0), (.slice A1 n1 c1), (.slice A2 n2 c2)]) (by simp [results, Try.results84, go_sem, u0, u1, u2]) rfl ⟨_, _, rfl, by rw [HF.out]; exact (shutv_Poll (x := q) (HSF.out.sel [4,5,6] (by decide) rfl)).left⟩
        · have fe : (nq.Voted == fr) = false := by simpa using hv2
          clear hv1 hv2
          go_wp2
          have HSF := Lib.hid (((HS.out.setBlk (k := 0) 1 rfl (.slice (some ⟨g0, 0, none⟩) n0 c0)).setBlk (k := 1) 1 rfl (.slice A1 n1 c1)).setBlk (k := 2) 1 rfl (.slice A2 n2 c2))
          have u0 := HSF.out.cell (k := 0) 1 rfl rfl
          have u1 := HSF.out.cell (k := 1) 1 rfl rfl
          have u2 := HSF.out.cell (k := 2) 1 rfl rfl
          exact bodyPost_ret (v := .agg #[(.slice (some ⟨g0, 0, none⟩) n0 c0), (.slice A1 n1 c1), (.slice A2 n2 c2)]) (by simp [results, Try.results84, go_sem, u0, u1, u2]) rfl ⟨_, _, rfl, by rw [HF.out]; exact (shutv_Poll (x := q) (HSF.out.sel [4,5,6] (by decide) rfl)).left⟩
  | false =>
    rw [if_neg (by simp)] at HF1
    by_cases hr1 : nq.Role = 1
    rotate_left
    · have HF : Hid (Pl.ptake p ⟨fr, (k : Int), tm, false, ag⟩ = Pl.plead q (k : Int)) := Lib.hid (by
        rw [HF1.out, if_neg hr1]
        exact (if_neg (fun hh => hr1 (by rw [← HNQ.out]; exact hh.1))).symm)
      have fd : (nq.Role == 1) = false := by simpa using hr1
      clear hr1
      have HT := Lib.hid (shutv_Poll (x := q) (HS.out.sel [4, 5, 6, 3, 2, 1, 0] (by decide) rfl))
      go_upto_region 14 with fail
      clear m0 m1 m2 m3 m4 q0 q1 q2 q3 q4 b0 b1 b2
      have CL := l8Lead_c q k _ _ wc (HT.out.at_ 0 rfl) (HT.out.ndat (i := 0) rfl) HPW.out (by first | (rw [HQ0.out]; omega) | (rw [Pl.set_len, HQ0.out]; omega))
      have b0 := HT.out.cell (k := 0) 1 rfl rfl
      have b1 := HT.out.cell (k := 1) 1 rfl rfl
      have b2 := HT.out.cell (k := 2) 1 rfl rfl
      have m1 := HT.out.cell (k := 1) 2 rfl rfl
      go_wp2_with (go_at_call 100; (with_reducible refine CL.mono ?_); clear CL; rintro e w6 ⟨cq, fq, rfl, hL⟩; obtain ⟨C0, x0, y0, C1, x1, y1, C2, x2, y2, rfl⟩ := own_formP hL.2.2.2; (have HS7 := Lib.hid (HT.out.call 0 rfl hL)); clear hL; (clear b0 b1 b2); clear m1; (have r0 := HS7.out.cell (k := 0) 3 rfl rfl); (have r1 := HS7.out.cell (k := 1) 3 rfl rfl); (have r2 := HS7.out.cell (k := 2) 3 rfl rfl); (have z0 := HS7.out.frz (k := 0) 3 rfl); (have z1 := HS7.out.frz (k := 1) 3 rfl); (have z2 := HS7.out.frz (k := 2) 3 rfl))
      have HS9 := Lib.hid (((HS7.out.setBlk (k := 0) 3 rfl (.slice C0 x0 y0)).setBlk (k := 1) 3 rfl (.slice C1 x1 y1)).setBlk (k := 2) 3 rfl (.slice C2 x2 y2))
      have u0 := HS9.out.cell (k := 0) 3 rfl rfl
      have u1 := HS9.out.cell (k := 1) 3 rfl rfl
      have u2 := HS9.out.cell (k := 2) 3 rfl rfl
      exact bodyPost_ret (v := .agg #[.slice C0 x0 y0, .slice C1 x1 y1, .slice C2 x2 y2]) (by simp [results, Try.results84, go_sem, u0, u1, u2]) rfl ⟨_, _, rfl, by rw [HF.out]; exact (HS9.out.sel [0] (by decide) rfl).left⟩
    have HR1 := Lib.hid hr1
    have fd : (nq.Role == 1) = true := by rw [hr1]; rfl
    clear hr1
    have HF : Hid (Pl.ptake p ⟨fr, (k : Int), tm, false, ag⟩ = Pl.plead (Pl.setNode q (k : Int) (Pl.withHeard nq (Pl.putI nq.Heard fr))) (k : Int)) := Lib.hid (by
      rw [HF1.out, if_pos HR1.out]
      unfold Pl.pcount
      dsimp only
      rw [HNQ.out])
    have HPC : Hid (Pl.PW (Pl.setNode q (k : Int) (Pl.withHeard nq (Pl.putI nq.Heard fr)))) := Lib.hid (by
      have h := HPW.out.count (k := (k : Int)) (fr := fr) hk0 (by rw [HQ0.out]; exact hkn) (by rw [HQ0.out]; exact hfr) (by rw [HNQ.out]; exact HR1.out)
      rw [HNQ.out] at h; exact h)
    obtain ⟨A5, m5, d5, fx, ec, hml, hso, hfn, hfx, hnext⟩ := HS.out.nodeHeard 4 rfl HX.out
    rw [HCE.out] at ec
    injection ec with ec
    injection ec with t1 t2 t3
    subst t1 t2 t3
    have HNX := Lib.hid hnext
    have n0' : g0 ∉ fx := fun hh => (hfx _ hh).2 rfl
    have hlt0 : g0 < wc.heap.size := (HS.out.sl 4 rfl).olt g0 (HS.out.sl 4 rfl).mem_block
    have zf := (HS.out.sl 4 rfl).frozen (k * 5 + 3)
    have hm5 : mH ≤ 1000 := by rw [hml]; have h5 := Pl.rising_bound nq.Heard 0 n0 HN.out.heard (fun i hi => by have := HN.out.hin i hi; have := HQ0.out; omega); rw [if_pos (by omega)] at h5; omega
    have HGO := Lib.hid (And.intro hso hfn)
    have hwk := hso.weak hso.olt
    clear hnext hfx hml hso hfn
    by_cases hin : fr ∈ nq.Heard
    · have CP := fun z : Und wc => und_same z (l1PutHas_c nq.Heard fr AH mH dH (und wc z) wc.heap.size (hwk.und (Nat.le_refl _) z) HN.out.heard hm5 hin)
      have hpu : Pl.putI nq.Heard fr = nq.Heard := Pl.putI_has _ _ HN.out.heard hin
      have HPU := Lib.hid hpu
      clear hin hpu hwk
      go_upto_region 13 with fail
      refine wp_region_und_tail 11 (by kernel_rfl) (by kernel_rfl) ?_
      simp only [List.take_succ_cons, List.take_zero, List.drop_succ_cons, List.drop_zero]
      repeat (go_big_quiet_step ((first | (go_at_call 101; with_reducible exact CP _))))
      refine wpQuiet_nil ?_
      intro X hX
      clear CP
      obtain ⟨fp7, hs7⟩ := HNX.out X nq.Heard AH mH dH fx ((Mm.SepF.one (Mm.tsl Mm.int 3 nq.Heard (.slice AH mH dH) fx) wc HGO.out.1 HGO.out.2).step hX)
      have ec6 := below_some hX HCE.out
      have z36 : X.frozen? ⟨g0, k * 5 + 3, none⟩ = false := (World.frozen?_of_block (hX.block g0 hlt0)).trans zf
      have HS7 := Lib.hid hs7
      clear m0 m1 m2 m3 m4 q0 q1 q2 q3 q4 b0 b1 b2
      clear hs7 n0' zf hlt0 HNX HGO HCE hX
      go_upto_region 14 with fail
      clear ec6 z36
      obtain ⟨XT, hXT⟩ : ∃ XT, X.setCell ⟨g0, k * 5 + 3, none⟩ (.slice AH mH dH) = XT := ⟨_, rfl⟩
      rw [hXT] at HS7 ⊢
      clear hXT
      have HT := Lib.hid (shutv_Poll (x := Pl.setNode q (k : Int) (Pl.withHeard nq (Pl.putI nq.Heard fr))) (by have h := HS7.out.sel [4, 5, 6, 3, 2, 1, 0] (by decide) rfl; rw [HPU.out]; unfold Pl.setNode Pl.withHeard; rw [hkt]; exact h))
      have CL := l8Lead_c (Pl.setNode q (k : Int) (Pl.withHeard nq (Pl.putI nq.Heard fr))) k _ _ XT (HT.out.at_ 0 rfl) (HT.out.ndat (i := 0) rfl) HPC.out (by first | (rw [HQ0.out]; omega) | (rw [Pl.set_len, HQ0.out]; omega))
      have b0 := HT.out.cell (k := 0) 1 rfl rfl
      have b1 := HT.out.cell (k := 1) 1 rfl rfl
      have b2 := HT.out.cell (k := 2) 1 rfl rfl
      have m1 := HT.out.cell (k := 1) 2 rfl rfl
      go_wp2_with (go_at_call 100; (with_reducible refine CL.mono ?_); clear CL; rintro e w6 ⟨cq, fq, rfl, hL⟩; obtain ⟨C0, x0, y0, C1, x1, y1, C2, x2, y2, rfl⟩ := own_formP hL.2.2.2; (have HS7 := Lib.hid (HT.out.call 0 rfl hL)); clear hL; (clear b0 b1 b2); clear m1; (have r0 := HS7.out.cell (k := 0) 3 rfl rfl); (have r1 := HS7.out.cell (k := 1) 3 rfl rfl); (have r2 := HS7.out.cell (k := 2) 3 rfl rfl); (have z0 := HS7.out.frz (k := 0) 3 rfl); (have z1 := HS7.out.frz (k := 1) 3 rfl); (have z2 := HS7.out.frz (k := 2) 3 rfl))
      have HS9 := Lib.hid (((HS7.out.setBlk (k := 0) 3 rfl (.slice C0 x0 y0)).setBlk (k := 1) 3 rfl (.slice C1 x1 y1)).setBlk (k := 2) 3 rfl (.slice C2 x2 y2))
      have u0 := HS9.out.cell (k := 0) 3 rfl rfl
      have u1 := HS9.out.cell (k := 1) 3 rfl rfl
      have u2 := HS9.out.cell (k := 2) 3 rfl rfl
      exact bodyPost_ret (v := .agg #[.slice C0 x0 y0, .slice C1 x1 y1, .slice C2 x2 y2]) (by simp [results, Try.results84, go_sem, u0, u1, u2]) rfl ⟨_, _, rfl, by rw [HF.out]; exact (HS9.out.sel [0] (by decide) rfl).left⟩
    · have hno : Pl.hasI nq.Heard fr = false := by
        cases hh : Pl.hasI nq.Heard fr with
        | false => rfl
        | true => exact absurd (Pl.hasI_iff.1 hh) hin
      have CP := fun (W : World) (hB : wc.heap.size ≤ W.heap.size) (hl : Mm.SlAt Mm.int W wc.heap.size nq.Heard AH mH dH) => l1Put_c nq.Heard fr AH mH dH W wc.heap.size hl hB HN.out.heard hm5 HFI.out hno
      clear hin hno
      have HWK := Lib.hid hwk
      clear hwk
      go_upto_region 13 with fail
      refine Mm.wp_region_give 11 (fun i => match i with | 8 => some (Mm.gSl Mm.int 3 (Pl.insI nq.Heard fr)) | _ => none) (fun _ => []) (fun _ => []) (F := []) (D := fun w' => ∃ x : Und wc, w' = und wc x) (fun X us h => Mm.sep_und h) (by kernel_rfl) (by kernel_rfl) (by kernel_rfl) (Mm.SepF.startDrew _) ?_
      repeat (refine Mm.give_det (by rfl) (by rfl) (by rfl) (fun K hK => ?_); go_big_quiet_op; refine hK _ ?_; clear hK K)
      refine Mm.give_op0 82 (by rfl) rfl (by rfl) (by rfl) (by rfl) (by rfl) Mm.gSl_in (fun others X6 hX6 => ?_) ?_
      · go_wp2_with (go_at_call 101; (with_reducible refine (CP X6 hX6.bel0.size (HWK.out.keep fun b hb => hX6.bel0.block b hb)).mono ?_); rintro e w5 ⟨A', n', c', fp', rfl, ho, hnd5, hnew, hb5⟩)
        exact Mm.gvq_sl hX6 hb5 ho hnd5 hnew rfl rfl
      rintro v ds ⟨A6, n6, c6, f6, rfl, rfl, hn6⟩
      simp only [Act.put, List.setIfInBounds_toArray, List.set_cons_succ, List.set_cons_zero]
      repeat (refine Mm.give_det (by rfl) (by rfl) (by rfl) (fun K hK => ?_); go_big_quiet_op; refine hK _ ?_; clear hK K)
      refine Mm.give_nil ?_
      rintro X hX6
      have hX : Below wc.heap.size wc X := hX6.bel0
      obtain ⟨fp7, hs7⟩ := HNX.out X (Pl.putI nq.Heard fr) A6 n6 c6 f6 (Mm.SepF.widen (Mm.sep_eq hX6 rfl))
      have ec6 := below_some hX HCE.out
      have z36 : X.frozen? ⟨g0, k * 5 + 3, none⟩ = false := (World.frozen?_of_block (hX.block g0 hlt0)).trans zf
      have HS7 := Lib.hid hs7
      clear m0 m1 m2 m3 m4 q0 q1 q2 q3 q4 b0 b1 b2
      clear hs7 n0' zf hlt0 HNX HGO HCE hX hX6 CP
      go_upto_region 14 with fail
      clear ec6 z36
      obtain ⟨XT, hXT⟩ : ∃ XT, X.setCell ⟨g0, k * 5 + 3, none⟩ (.slice A6 n6 c6) = XT := ⟨_, rfl⟩
      rw [hXT] at HS7 ⊢
      clear hXT
      have HT := Lib.hid (shutv_Poll (x := Pl.setNode q (k : Int) (Pl.withHeard nq (Pl.putI nq.Heard fr))) (by have h := HS7.out.sel [4, 5, 6, 3, 2, 1, 0] (by decide) rfl; unfold Pl.setNode Pl.withHeard; rw [hkt]; exact h))
      have CL := l8Lead_c (Pl.setNode q (k : Int) (Pl.withHeard nq (Pl.putI nq.Heard fr))) k _ _ XT (HT.out.at_ 0 rfl) (HT.out.ndat (i := 0) rfl) HPC.out (by first | (rw [HQ0.out]; omega) | (rw [Pl.set_len, HQ0.out]; omega))
      have b0 := HT.out.cell (k := 0) 1 rfl rfl
      have b1 := HT.out.cell (k := 1) 1 rfl rfl
      have b2 := HT.out.cell (k := 2) 1 rfl rfl
      have m1 := HT.out.cell (k := 1) 2 rfl rfl
      go_wp2_with (go_at_call 100; (with_reducible refine CL.mono ?_); clear CL; rintro e w6 ⟨cq, fq, rfl, hL⟩; obtain ⟨C0, x0, y0, C1, x1, y1, C2, x2, y2, rfl⟩ := own_formP hL.2.2.2; (have HS7 := Lib.hid (HT.out.call 0 rfl hL)); clear hL; (clear b0 b1 b2); clear m1; (have r0 := HS7.out.cell (k := 0) 3 rfl rfl); (have r1 := HS7.out.cell (k := 1) 3 rfl rfl); (have r2 := HS7.out.cell (k := 2) 3 rfl rfl); (have z0 := HS7.out.frz (k := 0) 3 rfl); (have z1 := HS7.out.frz (k := 1) 3 rfl); (have z2 := HS7.out.frz (k := 2) 3 rfl))
      have HS9 := Lib.hid (((HS7.out.setBlk (k := 0) 3 rfl (.slice C0 x0 y0)).setBlk (k := 1) 3 rfl (.slice C1 x1 y1)).setBlk (k := 2) 3 rfl (.slice C2 x2 y2))
      have u0 := HS9.out.cell (k := 0) 3 rfl rfl
      have u1 := HS9.out.cell (k := 1) 3 rfl rfl
      have u2 := HS9.out.cell (k := 2) 3 rfl rfl
      exact bodyPost_ret (v := .agg #[.slice C0 x0 y0, .slice C1 x1 y1, .slice C2 x2 y2]) (by simp [results, Try.results84, go_sem, u0, u1, u2]) rfl ⟨_, _, rfl, by rw [HF.out]; exact (HS9.out.sel [0] (by decide) rfl).left⟩
end Go.Proofs.Ytkhchfbpmmiopaa

/-
  Contracts: a step of an election: a candidate, a stop, none (chapter 8). No conditions beyond those named.
-/
namespace Go.Proofs.Ytkhchfbpmmiopaa
open Go.RowKit
attribute [local go_sem] und_cell cha_cell World.cell?_alloc_some
def PAns (g : Nat) (fp : List Nat) (w : World) (r : Poll × Bool) (e : Ending) (w' : World) : Prop := e = .returned (.bool r.2) ∧ ∃ fp', Mm.Left (g :: fp) w w' (Mm.tptr rPoll 31 g r.1 fp')
theorem within_is8 {n a b : Int} {r : Bool} (h : Pl.isIn n a b = r) (w : World) : Calls Try.prog 43 #[.int .i64 n, .int .i64 a, .int .i64 b] w fun e w' => e = .returned (.bool r) ∧ w = w' := h ▸ within_c n a b w
theorem Pl.isIn_not {n a b : Int} (h : ¬ (a ≤ n ∧ n ≤ b)) : Pl.isIn n a b = false := by
  cases hh : Pl.isIn n a b with
  | false => rfl
  | true => exact absurd (Pl.isIn_iff.1 hh) h
set_option maxRecDepth 100000 in
set_option maxHeartbeats 4000000 in
theorem stepStand_c (p : Poll) (kk : Int) (g : Nat) (fp : List Nat) (w : World) (h : (Mm.tptr rPoll 31 g p fp).holds w) (hnd : (g :: fp).Nodup) (hw : Pl.PW p) :
    Calls Try.prog 48 #[.pointer (some ⟨g, 0, none⟩), .agg #[.int .i64 1, .int .i64 kk]] w (PAns g fp w (Pl.pstep p ⟨1, kk⟩)) := by
  obtain ⟨A0, n0, c0, A1, n1, c1, A2, n2, c2, f0, f1, f2, rfl, hs⟩ := open_Poll (Mm.SepF.one _ w h hnd)
  obtain ⟨g0, rfl, -, -⟩ := Mm.sl_addr (hs.sl 1 rfl) (by have := hw.n1; omega)
  have hln0 : n0 = p.Nodes.length := by obtain ⟨A', n', c', hv, h1, _⟩ := (hs.sl 1 rfl).form; injection hv with _ h2 _; omega
  have hln1 : n1 = p.Letters.length := by obtain ⟨A', n', c', hv, h1, _⟩ := (hs.sl 2 rfl).form; injection hv with _ h2 _; omega
  have hn5 := hw.n5
  have hl60 := hw.lets
  have hn05 : n0 ≤ 5 := by omega
  have hn160 : n1 ≤ 60 := by omega
  obtain ⟨gs, hgs⟩ : ∃ g, w.heap.size = g := ⟨_, rfl⟩
  obtain ⟨W0, hW0⟩ : ∃ W, w.alloc (.cells #[.int .i64 1, .int .i64 kk] 56) = W := ⟨_, rfl⟩
  have HS := Lib.hid ((hs.alloc' hgs 56 [.int .i64 1, .int .i64 kk]).atW hW0)
  have HW := Lib.hid hw
  have HN0 := Lib.hid hln0
  have HN1 := Lib.hid hln1
  clear h hs hnd hw hln0 hln1
  have fw0 : IntKind.i64.wrap ((n0 : Int) - 1) = (n0 : Int) - 1 := IntWalk.i64_in _ (by omega)
  have fw1 : IntKind.i64.wrap ((n1 : Int) - 1) = (n1 : Int) - 1 := IntWalk.i64_in _ (by omega)
  go_enter Try.func48, Try.ntmps48
  go_upto_region 1 with fail
  clear hW0 hgs
  have s0 := HS.out.cell (k := 0) 0 rfl rfl
  have s1 := HS.out.cell (k := 1) 0 rfl rfl
  have b0 := HS.out.cell (k := 0) 1 rfl rfl
  have b1 := HS.out.cell (k := 1) 1 rfl rfl
  have HP : Hid (Pl.pstep p ⟨1, kk⟩ = if 0 ≤ kk ∧ kk < p.Nodes.length ∧ (Pl.nodeAt p kk).Term ≠ 200 then (Pl.pstand p kk, true) else (p, false)) := Lib.hid (if_pos rfl)
  by_cases hin : 0 ≤ kk ∧ kk ≤ (n0 : Int) - 1
  rotate_left
  · have CW := fun z : Und W0 => und_same z (within_is8 (Pl.isIn_not hin) (und W0 z))
    have HF : Hid (Pl.pstep p ⟨1, kk⟩ = (p, false)) := Lib.hid (by rw [HP.out, if_neg (fun hh => hin ⟨hh.1, by have := hh.2.1; have := HN0.out; omega⟩)])
    clear hin
    go_wp2
    refine wp_region_und (by kernel_rfl) (by kernel_rfl) ?_
    repeat (go_big_quiet_step ((first | (go_at_call 43; with_reducible exact CW _))))
    refine wpQuiet_nil ?_
    intro X hX
    replace HS := Lib.hid (HS.out.step hX)
    go_wp2
    exact bodyPost_ret (v := .bool false) (by simp [results, Try.results48, go_sem]) rfl ⟨by rw [HF.out], _, by rw [HF.out]; exact (shut_Poll HS.out.tail).left⟩
  have CW := fun z : Und W0 => und_same z (within_is8 (Pl.isIn_iff.2 hin) (und W0 z))
  obtain ⟨k, rfl⟩ : ∃ k : Nat, kk = k := ⟨kk.toNat, by omega⟩
  have hk : k < p.Nodes.length := by have := HN0.out; omega
  have HK := Lib.hid hk
  clear hin hk
  go_wp2
  refine wp_region_und (by kernel_rfl) (by kernel_rfl) ?_
  repeat (go_big_quiet_step ((first | (go_at_call 43; with_reducible exact CW _))))
  refine wpQuiet_nil ?_
  intro X hX
  replace HS := Lib.hid (HS.out.step hX)
  clear CW hX s0 s1 b0 b1
  have HT := Lib.hid (shut_Poll (HS.out.sel [1, 2, 3, 4, 0] (by decide) rfl))
  have s0 := HS.out.cell (k := 0) 0 rfl rfl
  have s1 := HS.out.cell (k := 1) 0 rfl rfl
  have b0 := HS.out.cell (k := 0) 1 rfl rfl
  have b1 := HS.out.cell (k := 1) 1 rfl rfl
  by_cases ht : (Pl.nodeAt p (k : Int)).Term = 200
  · have HF : Hid (Pl.pstep p ⟨1, (k : Int)⟩ = (p, false)) := Lib.hid (by rw [HP.out, if_neg (fun hh => hh.2.2 ht)])
    have CS := standNo_c p k g _ X (HT.out.at_ 0 rfl) (HT.out.ndat (i := 0) rfl) HW.out HK.out ht
    go_wp2_with (go_at_call 79; (with_reducible refine CS.mono ?_); clear CS; rintro e w6 ⟨rfl, rfl⟩)
    exact bodyPost_ret (v := .bool false) (by simp [results, Try.results48, go_sem]) rfl ⟨by rw [HF.out], _, by rw [HF.out]; exact (shut_Poll HS.out.tail).left⟩
  · have HF : Hid (Pl.pstep p ⟨1, (k : Int)⟩ = (Pl.pstand p (k : Int), true)) := Lib.hid (by rw [HP.out, if_pos ⟨by omega, by have := HK.out; show (k : Int) < _; omega, ht⟩])
    have CS := standYes_c p k g _ X (HT.out.at_ 0 rfl) (HT.out.ndat (i := 0) rfl) HW.out HK.out ht
    go_wp2_with (go_at_call 79; (with_reducible refine CS.mono ?_); clear CS; rintro e w6 ⟨rfl, fp6, hL⟩; (have HT7 := Lib.hid (HT.out.call 0 rfl hL)); clear hL)
    exact bodyPost_ret (v := .bool true) (by simp [results, Try.results48, go_sem]) rfl ⟨by rw [HF.out], _, by rw [HF.out]; exact (HT7.out.sel [0] (by decide) rfl).left⟩
set_option maxRecDepth 100000 in
set_option maxHeartbeats 4000000 in
theorem stepStop_c (p : Poll) (kk : Int) (g : Nat) (fp : List Nat) (w : World) (h : (Mm.tptr rPoll 31 g p fp).holds w) (hnd : (g :: fp).Nodup) (hw : Pl.PW p) :
    Calls Try.prog 48 #[.pointer (some ⟨g, 0, none⟩), .agg #[.int .i64 5, .int .i64 kk]] w (PAns g fp w (Pl.pstep p ⟨5, kk⟩)) := by
  obtain ⟨A0, n0, c0, A1, n1, c1, A2, n2, c2, f0, f1, f2, rfl, hs⟩ := open_Poll (Mm.SepF.one _ w h hnd)
  obtain ⟨g0, rfl, -, -⟩ := Mm.sl_addr (hs.sl 1 rfl) (by have := hw.n1; omega)
  have hln0 : n0 = p.Nodes.length := by obtain ⟨A', n', c', hv, h1, _⟩ := (hs.sl 1 rfl).form; injection hv with _ h2 _; omega
  have hln1 : n1 = p.Letters.length := by obtain ⟨A', n', c', hv, h1, _⟩ := (hs.sl 2 rfl).form; injection hv with _ h2 _; omega
  have hn5 := hw.n5
  have hl60 := hw.lets
  have hn05 : n0 ≤ 5 := by omega
  have hn160 : n1 ≤ 60 := by omega
  obtain ⟨gs, hgs⟩ : ∃ g, w.heap.size = g := ⟨_, rfl⟩
  obtain ⟨W0, hW0⟩ : ∃ W, w.alloc (.cells #[.int .i64 5, .int .i64 kk] 56) = W := ⟨_, rfl⟩
  have HS := Lib.hid ((hs.alloc' hgs 56 [.int .i64 5, .int .i64 kk]).atW hW0)
  have HW := Lib.hid hw
  have HN0 := Lib.hid hln0
  have HN1 := Lib.hid hln1
  clear h hs hnd hw hln0 hln1
  have fw0 : IntKind.i64.wrap ((n0 : Int) - 1) = (n0 : Int) - 1 := IntWalk.i64_in _ (by omega)
  have fw1 : IntKind.i64.wrap ((n1 : Int) - 1) = (n1 : Int) - 1 := IntWalk.i64_in _ (by omega)
  go_enter Try.func48, Try.ntmps48
  go_upto_region 1 with fail
  clear hW0 hgs
  have s0 := HS.out.cell (k := 0) 0 rfl rfl
  have s1 := HS.out.cell (k := 1) 0 rfl rfl
  have b0 := HS.out.cell (k := 0) 1 rfl rfl
  have b1 := HS.out.cell (k := 1) 1 rfl rfl
  have HP : Hid (Pl.pstep p ⟨5, kk⟩ = if 0 ≤ kk ∧ kk < p.Nodes.length then (Pl.pstop p kk, true) else (p, false)) := Lib.hid ((if_neg (show ¬ (5 : Int) = 1 by omega)).trans (if_pos rfl))
  by_cases hin : 0 ≤ kk ∧ kk ≤ (n0 : Int) - 1
  rotate_left
  · have CW := fun z : Und W0 => und_same z (within_is8 (Pl.isIn_not hin) (und W0 z))
    have HF : Hid (Pl.pstep p ⟨5, kk⟩ = (p, false)) := Lib.hid (by rw [HP.out, if_neg (fun hh => hin ⟨hh.1, by have := hh.2; have := HN0.out; omega⟩)])
    clear hin
    go_wp2
    refine wp_region_und (by kernel_rfl) (by kernel_rfl) ?_
    repeat (go_big_quiet_step ((first | (go_at_call 43; with_reducible exact CW _))))
    refine wpQuiet_nil ?_
    intro X hX
    replace HS := Lib.hid (HS.out.step hX)
    go_wp2
    exact bodyPost_ret (v := .bool false) (by simp [results, Try.results48, go_sem]) rfl ⟨by rw [HF.out], _, by rw [HF.out]; exact (shut_Poll HS.out.tail).left⟩
  have CW := fun z : Und W0 => und_same z (within_is8 (Pl.isIn_iff.2 hin) (und W0 z))
  obtain ⟨k, rfl⟩ : ∃ k : Nat, kk = k := ⟨kk.toNat, by omega⟩
  have hk : k < p.Nodes.length := by have := HN0.out; omega
  have HK := Lib.hid hk
  have hkn : (k : Int) < (n0 : Nat) := by omega
  have hk0 : (0 : Int) ≤ (k : Nat) := by omega
  have hkt : ((k : Nat) : Int).toNat = k := by omega
  clear hin hk
  have hx := HW.out.at_ (k := (k : Int)) (by omega) (by have := HK.out; omega)
  rw [hkt] at hx
  obtain ⟨nd, hnd'⟩ : ∃ nd, Pl.nodeAt p (k : Int) = nd := ⟨_, rfl⟩
  rw [hnd'] at hx
  have HX := Lib.hid hx
  have HF : Hid (Pl.pstep p ⟨5, (k : Int)⟩ = (Pl.setNode p (k : Int) ⟨nd.Term, nd.Voted, nd.Age, [], 0⟩, true)) := Lib.hid (by
    rw [HP.out, if_pos ⟨by omega, by have := HK.out; show (k : Int) < _; omega⟩]
    unfold Pl.pstop
    rw [hnd'])
  clear hx hnd'
  go_wp2
  refine wp_region_und (by kernel_rfl) (by kernel_rfl) ?_
  repeat (go_big_quiet_step ((first | (go_at_call 43; with_reducible exact CW _))))
  refine wpQuiet_nil ?_
  intro X hX
  replace HS := Lib.hid (HS.out.step hX)
  clear CW hX s0 s1 b0 b1
  have s0 := HS.out.cell (k := 0) 0 rfl rfl
  have s1 := HS.out.cell (k := 1) 0 rfl rfl
  have b0 := HS.out.cell (k := 0) 1 rfl rfl
  have b1 := HS.out.cell (k := 1) 1 rfl rfl
  go_upto_region 16 with fail
  clear s0 s1 b0 b1
  have s0 := HS.out.cell (k := 0) 0 rfl rfl
  have s1 := HS.out.cell (k := 1) 0 rfl rfl
  have b0 := HS.out.cell (k := 0) 1 rfl rfl
  have b1 := HS.out.cell (k := 1) 1 rfl rfl
  obtain ⟨A3, m3, d3, e0, e1, e2, e3, e4, -, -, -, -, -⟩ := node_cells (HS.out.sl 2 rfl) (HS.out.ndat (i := 2) rfl) HX.out
  have z3 := (HS.out.sl 2 rfl).frozen (k * 5 + 3)
  have z4 := (HS.out.sl 2 rfl).frozen (k * 5 + 4)
  have hx1 : ∀ y : Node, (p.Nodes.set k y)[k]? = some y := fun y => List.getElem?_set_self HK.out
  have ha := HS.out.nodeNum (k := k) (m := 4) (v := 0) 2 rfl HX.out (by omega) (fun cs fx hh => rNode_set4 hh (by unfold Mm.I64; omega))
  simp only [List.set_cons_succ, List.set_cons_zero, List.set_set] at ha
  obtain ⟨A5, m5, d5, fx5, -, -, -, -, -, hnext⟩ := ha.nodeHeard 2 rfl (hx1 _)
  obtain ⟨fp1, hd⟩ := hnext _ [] none 0 0 [] (((Mm.SepF.start _).add (Below.refl _ _) (t := Mm.tsl Mm.int 3 [] (.slice none 0 0) []) Mm.SlOwn.nil List.nodup_nil (fun b hb => by cases hb)).widen)
  simp only [List.set_cons_succ, List.set_cons_zero, List.set_set] at hd
  have HD := Lib.hid hd
  have HT := Lib.hid (shut_Poll (x := Pl.setNode p (k : Int) ⟨nd.Term, nd.Voted, nd.Age, [], 0⟩) (by have h := HD.out.sel [1, 2, 3, 4, 0] (by decide) rfl; unfold Pl.setNode; rw [hkt]; exact h))
  clear ha hnext hd HD hx1
  go_region_law (fail)
  all_goals
    go_wp2
    exact bodyPost_ret (v := .bool true) (by simp [results, Try.results48, go_sem]) rfl ⟨by rw [HF.out], _, by rw [HF.out]; exact ((HT.out.sel [0] (by decide) rfl).step (Below.refl _ _).drew).left⟩
set_option maxRecDepth 100000 in
set_option maxHeartbeats 4000000 in
theorem stepNone_c (p : Poll) (kd kk : Int) (g : Nat) (fp : List Nat) (w : World) (h : (Mm.tptr rPoll 31 g p fp).holds w) (hnd : (g :: fp).Nodup) (hw : Pl.PW p) (h1 : kd < 1 ∨ 5 < kd) :
    Calls Try.prog 48 #[.pointer (some ⟨g, 0, none⟩), .agg #[.int .i64 kd, .int .i64 kk]] w (PAns g fp w (Pl.pstep p ⟨kd, kk⟩)) := by
  have HF : Hid (Pl.pstep p ⟨kd, kk⟩ = (p, false)) := Lib.hid (by
    unfold Pl.pstep
    rw [if_neg (show ¬ kd = 1 by omega), if_neg (show ¬ kd = 5 by omega), if_neg (show ¬ kd = 2 by omega), if_neg (show ¬ kd = 3 by omega), if_neg (show ¬ kd = 4 by omega)])
  have g1 : (kd == 1) = false := by simp; omega
  have g5 : (kd == 5) = false := by simp; omega
  have g2 : (kd == 2) = false := by simp; omega
  have g3 : (kd == 3) = false := by simp; omega
  have g4 : (kd == 4) = false := by simp; omega
  clear h1
  obtain ⟨A0, n0, c0, A1, n1, c1, A2, n2, c2, f0, f1, f2, rfl, hs⟩ := open_Poll (Mm.SepF.one _ w h hnd)
  obtain ⟨g0, rfl, -, -⟩ := Mm.sl_addr (hs.sl 1 rfl) (by have := hw.n1; omega)
  have hln0 : n0 = p.Nodes.length := by obtain ⟨A', n', c', hv, h1, _⟩ := (hs.sl 1 rfl).form; injection hv with _ h2 _; omega
  have hln1 : n1 = p.Letters.length := by obtain ⟨A', n', c', hv, h1, _⟩ := (hs.sl 2 rfl).form; injection hv with _ h2 _; omega
  have hn5 := hw.n5
  have hl60 := hw.lets
  have hn05 : n0 ≤ 5 := by omega
  have hn160 : n1 ≤ 60 := by omega
  obtain ⟨gs, hgs⟩ : ∃ g, w.heap.size = g := ⟨_, rfl⟩
  obtain ⟨W0, hW0⟩ : ∃ W, w.alloc (.cells #[.int .i64 kd, .int .i64 kk] 56) = W := ⟨_, rfl⟩
  have HS := Lib.hid ((hs.alloc' hgs 56 [.int .i64 kd, .int .i64 kk]).atW hW0)
  have HW := Lib.hid hw
  have HN0 := Lib.hid hln0
  have HN1 := Lib.hid hln1
  clear h hs hnd hw hln0 hln1
  have fw0 : IntKind.i64.wrap ((n0 : Int) - 1) = (n0 : Int) - 1 := IntWalk.i64_in _ (by omega)
  have fw1 : IntKind.i64.wrap ((n1 : Int) - 1) = (n1 : Int) - 1 := IntWalk.i64_in _ (by omega)
  go_enter Try.func48, Try.ntmps48
  go_upto_region 1 with fail
  clear hW0 hgs
  have s0 := HS.out.cell (k := 0) 0 rfl rfl
  have s1 := HS.out.cell (k := 1) 0 rfl rfl
  have b0 := HS.out.cell (k := 0) 1 rfl rfl
  have b1 := HS.out.cell (k := 1) 1 rfl rfl
  go_wp2
  exact bodyPost_ret (v := .bool false) (by simp [results, Try.results48, go_sem]) rfl ⟨by rw [HF.out], _, by rw [HF.out]; exact (shut_Poll HS.out.tail).left⟩
end Go.Proofs.Ytkhchfbpmmiopaa

/-
  Contracts: a step of an election: a letter is delivered, lost, doubled (chapter 8). No conditions beyond those named.
-/
namespace Go.Proofs.Ytkhchfbpmmiopaa
open Go.RowKit
attribute [local go_sem] und_cell cha_cell World.cell?_alloc_some
def Mm.encLetter (m : Letter) : List Value := [.int .i64 m.From, .int .i64 m.To, .int .i64 m.Term, .bool m.Ask, .int .i64 m.Age]
def Mm.zLetter : Value := .agg #[.int .i64 0, .int .i64 0, .int .i64 0, .bool false, .int .i64 0]
theorem Mm.flat_letter : Mm.FlatN rLetter Mm.encLetter := ⟨by decide, fun h => by
  obtain ⟨rfl, h1, rfl⟩ := rLetter_own h
  exact ⟨rfl, rfl, fun w' => rLetter_own_mk h1⟩⟩
theorem Try.infoDel_NAME : (Try.prog.info? 84).map (fun i => (i.zero, i.size, i.bytes)) = some (some Mm.zLetter, 5, 40) := by kernel_rfl
set_option maxRecDepth 100000 in
set_option maxHeartbeats 2000000 in
theorem delLetter_c (xs : List Letter) (g n c k : Nat) (fp : List Nat) (w : World) (hs : Mm.SlOwn rLetter 84 w xs (.slice (some ⟨g, 0, none⟩) n c) fp) (hk : k < n) (hn : n ≤ 1000000) :
    Calls Try.prog 80 #[.slice (some ⟨g, 0, none⟩) n c, .int .i64 k, .int .i64 (k + 1 : Nat)] w fun e w' => e = .returned (.slice (some ⟨g, 0, none⟩) (n - 1) c) ∧ Mm.Chg fp w w' ∧ Mm.SlOwn rLetter 84 w' (xs.eraseIdx k) (.slice (some ⟨g, 0, none⟩) (n - 1) c) fp := by
  obtain ⟨i0, hi, hz0, hz1, hz2⟩ := info_parts Try.infoDel_NAME
  have hF := Mm.flat_letter
  obtain ⟨_, _, hown, hlen⟩ := hF.owns hs
  obtain ⟨cur, hb, hcl, ht, hnx, hnc, hcm, rfl⟩ := hF.blk hs
  have herase := hF.erase hs hk (z := (Mm.zLetter : Value).cells.toList) (by rfl) (o1 := k * 5) (o2 := (n - 1) * 5) rfl rfl
  obtain ⟨news, hnews⟩ : ∃ news, (xs.drop (k + 1)).flatMap Mm.encLetter = news := ⟨_, rfl⟩
  rw [hnews] at herase
  have hln : news.length = (n - (k + 1)) * 5 := by rw [← hnews, Mm.flatMap_len (s := 5) (fun x hx => hlen x (List.mem_of_mem_drop hx)), List.length_drop, hnx]
  have hone : Hid (∀ u ∈ news, u.oneCell' = true) := by
    intro u hu
    rw [← hnews] at hu
    obtain ⟨x, hx, hu⟩ := List.mem_flatMap.1 hu
    exact (rLetter).one (hown x (List.mem_of_mem_drop hx) w) u hu
  have hcells : ∀ j u, news[j]? = some u → w.cell? ⟨g, (k + 1) * 5 + j, none⟩ = some u := fun j u hj => by
    refine hF.cells hs (j := (k + 1) * 5 + j) ?_
    rw [← hnews, Mm.flatMap_drop (s := 5) (k + 1) hlen, List.getElem?_drop] at hj
    exact hj
  obtain ⟨A, hA, hsrc⟩ : ∃ A : Addr, (if c = k + 1 then (some ⟨g, 0, none⟩ : Option Addr) else some ⟨g, (k + 1) * 5, none⟩) = some A ∧ Hid (∀ j u, news[j]? = some u → w.drew.cell? (A.add j) = some u) := by
    by_cases h : c = k + 1
    · refine ⟨⟨g, 0, none⟩, by simp [h], fun t u hu => ?_⟩
      have h0 : news.length = 0 := by rw [hln, show n - (k + 1) = 0 by omega, Nat.zero_mul]
      rw [List.length_eq_zero_iff.1 h0] at hu
      simp at hu
    · refine ⟨⟨g, (k + 1) * 5, none⟩, by simp [h], fun t u hu => ?_⟩
      rw [Addr.add_lit]
      exact hcells t u hu
  have s1 : Hid (news.length = (n - (k + 1)) * 5) := hln
  have hroom : Hid (∀ j, j < news.length → (w.drew.cell? ⟨g, 0 + k * 5 + j, none⟩).isSome = true ∧ w.drew.frozen? ⟨g, 0 + k * 5 + j, none⟩ = false) := by
    intro t ht
    have h1 : n * 5 ≤ cur.length := by rw [hcl]; exact Nat.mul_le_mul_right _ hnc
    rw [hln] at ht
    have h2 : 0 + k * 5 + t < cur.length := by omega
    exact ⟨by show (w.cell? _).isSome = true; rw [hb.cell (List.getElem?_eq_getElem h2)]; rfl, hb.frozen _⟩
  obtain ⟨W1, hW1⟩ : ∃ W1, w.drew.setCells g (0 + k * 5) news = W1 := ⟨_, rfl⟩
  have hb1 : Mm.Blk W1 g 84 (Mm.setList cur (0 + k * 5) news) := by rw [← hW1]; exact Mm.setCells_blk news _ _ _ hb
  rw [Nat.zero_add] at hW1
  rw [hW1] at herase
  have hcl1 : ∀ ty, (Builtin.clear_ #[28] ty #[.slice (some ⟨g, (k + (n - (k + 1))) * 5, none⟩) (n - (k + (n - (k + 1)))) (c - (k + (n - (k + 1))))]).run Try.prog W1 = .ok (.tuple #[]) (W1.setCells g ((n - 1) * 5) (Mm.zLetter : Value).cells.toList) := fun ty => by
    rw [show k + (n - (k + 1)) = n - 1 by omega, show n - (n - 1) = 1 by omega]
    have hsz : ((Mm.zLetter : Value).cells).size = 5 := by rfl
    have h1 : n * 5 ≤ cur.length := by rw [hcl]; exact Nat.mul_le_mul_right _ hnc
    have h2 : ∀ j, j < 5 → (n - 1) * 5 + j < (Mm.setList cur (0 + k * 5) news).length := fun j hj => by rw [Mm.setList_len]; omega
    refine Mm.run_clear_one W1 _ 84 ty Mm.zLetter Try.underlying28 (fun w => by simp [zeroValue, typeInfo, hi, hz0]) (by decide) g _ _ (fun j hj => ?_) (fun j hj => hb1.frozen _)
    rw [hsz] at hj
    rw [hb1.cell (List.getElem?_eq_getElem (h2 j hj))]; rfl
  obtain ⟨zl, hzl⟩ : ∃ zl, (Mm.zLetter : Value).cells.toList = zl := ⟨_, rfl⟩
  rw [hzl] at herase
  simp only [hzl] at hcl1
  clear hzl
  have HE := Lib.hid herase
  have hW : Hid (w.drew.setCells g (0 + k * 5) news = W1) := by rw [Nat.zero_add]; exact hW1
  have hkc : k ≤ c := by omega
  have hk1c : k + 1 ≤ c := by omega
  have hkn : k + 1 ≤ n := by omega
  have hc2 := hcm
  have hnx2 := Lib.hid hnx
  have f1 : (0 : Int) ≤ (k : Int) + 1 := by omega
  have f2 : (k : Int) + 1 ≤ ((n : Nat) : Int) := by omega
  have f3 : (k : Int) ≤ ((n : Nat) : Int) := by omega
  unfold maxLen at hc2
  clear hnx hW1 herase hcells hb hb1 hcl ht hown hlen hnews hs hln
  go_enter Try.func80, Try.ntmps80
  go_wp2_with fail
  go_region_law (refine step_append_room rfl (.tmp 22) (.tmp 25) 28 rfl 84 i0 5 Try.underlying28 hi hz1 g 0 k c (by simp [Act.eval, Act.put]) A (n - (k + 1)) (c - (k + 1)) news (by simp [Act.eval, Act.put]) s1.out hsrc.out hone.out (by omega) hroom.out ?_; rw [hW.out])
  go_wp2
  exact bodyPost_ret (v := .slice (some ⟨g, 0, none⟩) (k + (n - (k + 1))) c) (by simp [results, Try.results80, go_sem]) rfl ⟨by rw [show k + (n - (k + 1)) = n - 1 by omega], HE.out⟩
theorem Mm.letter_inv {w : World} {xs : List Letter} {v : Value} {fp : List Nat} (h : Mm.SlOwn rLetter 84 w xs v fp) {k : Nat} {m : Letter} (hk : xs[k]? = some m) : Mm.I64 m.From ∧ Mm.I64 m.To ∧ Mm.I64 m.Term ∧ Mm.I64 m.Age := by
  obtain ⟨es, he, -, -⟩ := h
  have hl := (List.getElem?_eq_some_iff.1 hk).1
  exact (rLetter_own (he.2 k _ _ hk (List.getElem?_eq_getElem (show k < es.length by rw [he.1]; exact hl)))).2.1
theorem Pl.pstepL (p : Poll) (kd kk : Int) (hd : 2 ≤ kd ∧ kd ≤ 4) : Pl.pstep p ⟨kd, kk⟩ = if 0 ≤ kk ∧ kk < p.Letters.length then
    (if kd = 4 then (if p.Letters.length = 60 then (p, false) else ({ p with Letters := p.Letters ++ [Pl.letAt p kk] }, true))
    else if kd = 2 then (Pl.ptake (Pl.pdrop p kk) (Pl.letAt p kk), true)
    else (Pl.pdrop p kk, true)) else (p, false) := by
  have hkd : kd = 2 ∨ kd = 3 ∨ kd = 4 := by omega
  by_cases h : 0 ≤ kk ∧ kk < p.Letters.length
  · by_cases h4 : p.Letters.length = 60
    · rcases hkd with rfl | rfl | rfl <;> simp [Pl.pstep, h, h4] <;> omega
    · rcases hkd with rfl | rfl | rfl <;> simp [Pl.pstep, h, h4]
  · have h' : ¬ (0 ≤ kk ∧ kk < (p.Letters.length : Int) ∧ p.Letters.length ≠ 60) := fun hh => h ⟨hh.1, hh.2.1⟩
    rcases hkd with rfl | rfl | rfl
    · rw [if_neg h]; exact (if_neg (show ¬ (2 : Int) = 1 by decide)).trans ((if_neg (show ¬ (2 : Int) = 5 by decide)).trans ((if_pos rfl).trans (if_neg h)))
    · rw [if_neg h]; exact (if_neg (show ¬ (3 : Int) = 1 by decide)).trans ((if_neg (show ¬ (3 : Int) = 5 by decide)).trans ((if_neg (show ¬ (3 : Int) = 2 by decide)).trans ((if_pos rfl).trans (if_neg h))))
    · rw [if_neg h]; exact (if_neg (show ¬ (4 : Int) = 1 by decide)).trans ((if_neg (show ¬ (4 : Int) = 5 by decide)).trans ((if_neg (show ¬ (4 : Int) = 2 by decide)).trans ((if_neg (show ¬ (4 : Int) = 3 by decide)).trans ((if_pos rfl).trans (if_neg h')))))
theorem Pl.PW.drop {p : Poll} (h : Pl.PW p) (k : Int) : Pl.PW (Pl.pdrop p k) :=
  ⟨h.n1, h.n5, Nat.le_trans (List.length_eraseIdx_le _ _) h.lets, h.leads, h.node, fun x hx => h.letr x (List.mem_of_mem_eraseIdx hx), h.lead⟩
set_option maxRecDepth 100000 in
set_option maxHeartbeats 4000000 in
theorem stepTake_c (p : Poll) (kk : Int) (g : Nat) (fp : List Nat) (w : World) (h : (Mm.tptr rPoll 31 g p fp).holds w) (hnd : (g :: fp).Nodup) (hw : Pl.PW p) :
    Calls Try.prog 48 #[.pointer (some ⟨g, 0, none⟩), .agg #[.int .i64 2, .int .i64 kk]] w (PAns g fp w (Pl.pstep p ⟨2, kk⟩)) := by
  obtain ⟨A0, n0, c0, A1, n1, c1, A2, n2, c2, f0, f1, f2, rfl, hs⟩ := open_Poll (Mm.SepF.one _ w h hnd)
  obtain ⟨g0, rfl, -, -⟩ := Mm.sl_addr (hs.sl 1 rfl) (by have := hw.n1; omega)
  have hln0 : n0 = p.Nodes.length := by obtain ⟨A', n', c', hv, h1, _⟩ := (hs.sl 1 rfl).form; injection hv with _ h2 _; omega
  have hln1 : n1 = p.Letters.length := by obtain ⟨A', n', c', hv, h1, _⟩ := (hs.sl 2 rfl).form; injection hv with _ h2 _; omega
  have hn5 := hw.n5
  have hl60 := hw.lets
  have hn05 : n0 ≤ 5 := by omega
  have hn160 : n1 ≤ 60 := by omega
  obtain ⟨gs, hgs⟩ : ∃ g, w.heap.size = g := ⟨_, rfl⟩
  obtain ⟨W0, hW0⟩ : ∃ W, w.alloc (.cells #[.int .i64 2, .int .i64 kk] 56) = W := ⟨_, rfl⟩
  have HS := Lib.hid ((hs.alloc' hgs 56 [.int .i64 2, .int .i64 kk]).atW hW0)
  have HW := Lib.hid hw
  have HN0 := Lib.hid hln0
  have HN1 := Lib.hid hln1
  clear h hs hnd hw hln0 hln1
  have fw0 : IntKind.i64.wrap ((n0 : Int) - 1) = (n0 : Int) - 1 := IntWalk.i64_in _ (by omega)
  have fw1 : IntKind.i64.wrap ((n1 : Int) - 1) = (n1 : Int) - 1 := IntWalk.i64_in _ (by omega)
  go_enter Try.func48, Try.ntmps48
  go_upto_region 1 with fail
  clear hW0 hgs
  have s0 := HS.out.cell (k := 0) 0 rfl rfl
  have s1 := HS.out.cell (k := 1) 0 rfl rfl
  have b0 := HS.out.cell (k := 0) 1 rfl rfl
  have b1 := HS.out.cell (k := 1) 1 rfl rfl
  have HP := Lib.hid (Pl.pstepL p 2 kk (by omega))
  by_cases hin : 0 ≤ kk ∧ kk ≤ (n1 : Int) - 1
  rotate_left
  · have CW := fun z : Und W0 => und_same z (within_is8 (Pl.isIn_not hin) (und W0 z))
    have HF : Hid (Pl.pstep p ⟨2, kk⟩ = (p, false)) := Lib.hid (by rw [HP.out, if_neg (fun hh => hin ⟨hh.1, by have := hh.2; have := HN1.out; omega⟩)])
    clear hin
    go_wp2
    refine wp_region_und (by kernel_rfl) (by kernel_rfl) ?_
    repeat (go_big_quiet_step ((first | (go_at_call 43; with_reducible exact CW _))))
    refine wpQuiet_nil ?_
    intro X hX
    replace HS := Lib.hid (HS.out.step hX)
    go_wp2
    exact bodyPost_ret (v := .bool false) (by simp [results, Try.results48, go_sem]) rfl ⟨by rw [HF.out], _, by rw [HF.out]; exact (shut_Poll HS.out.tail).left⟩
  have CW := fun z : Und W0 => und_same z (within_is8 (Pl.isIn_iff.2 hin) (und W0 z))
  obtain ⟨k, rfl⟩ : ∃ k : Nat, kk = k := ⟨kk.toNat, by omega⟩
  have hk : k < p.Letters.length := by have := HN1.out; omega
  have hkn : (k : Int) < (n1 : Nat) := by omega
  have hk0 : (0 : Int) ≤ (k : Nat) := by omega
  have hkt : ((k : Nat) : Int).toNat = k := by omega
  rw [if_pos ⟨hk0, by omega⟩] at HP
  have hx := HW.out.lat (k := (k : Int)) (by omega) (by omega)
  have hmk := HW.out.lok (k := (k : Int)) (by omega) (by omega)
  rw [hkt] at hx
  obtain ⟨m, hm⟩ : ∃ m, Pl.letAt p (k : Int) = m := ⟨_, rfl⟩
  rw [hm] at hx hmk HP
  have HX := Lib.hid hx
  have HMK := Lib.hid hmk
  have HK := Lib.hid hk
  clear hin hk hx hmk hm
  go_wp2
  refine wp_region_und (by kernel_rfl) (by kernel_rfl) ?_
  repeat (go_big_quiet_step ((first | (go_at_call 43; with_reducible exact CW _))))
  refine wpQuiet_nil ?_
  intro X hX
  replace HS := Lib.hid (HS.out.step hX)
  clear CW hX s0 s1 b0 b1
  obtain ⟨g2, rfl, -, -⟩ := Mm.sl_addr (HS.out.sl 3 rfl) (by have := HK.out; omega)
  have HMI := Lib.hid (Mm.letter_inv (HS.out.sl 3 rfl) HX.out)
  have hcap : n1 ≤ c1 ∧ c1 ≤ maxLen := by obtain ⟨A', n', c', hv, h1, h2, h3, _⟩ := (HS.out.sl 3 rfl).form; injection hv with _ h4 h5; omega
  unfold maxLen at hcap
  have s0 := HS.out.cell (k := 0) 0 rfl rfl
  have s1 := HS.out.cell (k := 1) 0 rfl rfl
  have b0 := HS.out.cell (k := 0) 1 rfl rfl
  have b1 := HS.out.cell (k := 1) 1 rfl rfl
  go_upto_region 23 with fail
  obtain ⟨q0, q1, q2, q3, q4⟩ := rLetter_ocell (HS.out.sl 3 rfl) (HS.out.ndat (i := 3) rfl) HX.out
  refine Mm.wp_region_give 9 (fun i => match i with | 8 => some (Mm.gPtr 84 [.int .i64 0, .int .i64 0, .int .i64 0, .bool false, .int .i64 0]) | _ => none) (fun _ => []) (fun _ => []) (F := []) (D := fun w' => ∃ x : Und X, w' = und X x) (fun X us h => Mm.sep_und h) (by kernel_rfl) (by kernel_rfl) (by kernel_rfl) (Mm.SepF.startDrew _) ?_
  repeat (refine Mm.give_det (by rfl) (by rfl) (by rfl) (fun K hK => ?_); go_big_quiet_op; refine hK _ ?_; clear hK K)
  refine Mm.give_op0 5 (by rfl) rfl (by rfl) (by rfl) (by rfl) (by rfl) Mm.gPtr_in (fun others X2 hX2 => ?_) ?_
  · go_wp2
    exact Mm.gvq_ptr hX2 rfl rfl rfl
  rintro v ds ⟨g6, rfl, rfl⟩
  simp only [Act.put, List.setIfInBounds_toArray, List.set_cons_succ, List.set_cons_zero]
  refine Mm.give_nil ?_
  rintro X2 hX2
  have HS2 := Lib.hid (HS.out.join (us := [Mm.tblk g6 84 [.int .i64 0, .int .i64 0, .int .i64 0, .bool false, .int .i64 0]]) hX2)
  clear hX2 s0 s1 b0 b1 q0 q1 q2 q3 q4
  have p0 := HS2.out.frz (k := 0) 0 rfl
  have p1 := HS2.out.frz (k := 1) 0 rfl
  have p2 := HS2.out.frz (k := 2) 0 rfl
  have p3 := HS2.out.frz (k := 3) 0 rfl
  have p4 := HS2.out.frz (k := 4) 0 rfl
  have s0 := HS2.out.cell (k := 0) 0 rfl rfl
  have s1 := HS2.out.cell (k := 1) 0 rfl rfl
  have s2 := HS2.out.cell (k := 2) 0 rfl rfl
  have s3 := HS2.out.cell (k := 3) 0 rfl rfl
  have s4 := HS2.out.cell (k := 4) 0 rfl rfl
  have HS3 : Hid (Mm.SepF _ w _ [_, _, _, _, _, _]) := (((((HS2.out.setBlk (k := 0) 0 rfl (.int .i64 m.From)).setBlk (k := 1) 0 rfl (.int .i64 m.To)).setBlk (k := 2) 0 rfl (.int .i64 m.Term)).setBlk (k := 3) 0 rfl (.bool m.Ask)).setBlk (k := 4) 0 rfl (.int .i64 m.Age))
  go_upto_region 24 with fail
  clear p0 p1 p2 p3 p4 s0 s1 s2 s3 s4
  obtain ⟨W3, hW3⟩ : ∃ W3, ((((X2.setCell ⟨g6, 0, none⟩ (.int .i64 m.From)).setCell ⟨g6, 1, none⟩ (.int .i64 m.To)).setCell ⟨g6, 2, none⟩ (.int .i64 m.Term)).setCell ⟨g6, 3, none⟩ (.bool m.Ask)).setCell ⟨g6, 4, none⟩ (.int .i64 m.Age) = W3 := ⟨_, rfl⟩
  rw [hW3] at HS3 ⊢
  clear hW3
  have s0 := HS3.out.cell (k := 0) 1 rfl rfl
  have s1 := HS3.out.cell (k := 1) 1 rfl rfl
  have b1 := HS3.out.cell (k := 1) 2 rfl rfl
  have n0 : g ∉ f1 := HS3.out.apart (i := 2) (j := 4) rfl rfl (by decide) g (by simp [Mm.tblk])
  have n1' : gs ∉ f1 := HS3.out.apart (i := 1) (j := 4) rfl rfl (by decide) _ (by simp [Mm.tblk])
  refine Mm.wp_region_give 13 (fun i => match i with | 10 => some (Mm.gSl rLetter 84 (p.Letters.eraseIdx k)) | _ => none) (fun i => match i with | 10 => [14] | _ => []) (fun i => match i with | 14 => [Mm.tsl rLetter 84 p.Letters (.slice (some ⟨g2, 0, none⟩) n1 c1) f1] | _ => []) (F := f1) (D := fun w' => ∃ x : Cha f1 W3, w' = cha f1 W3 x) (fun X us h => Mm.sep_cha h) (by kernel_rfl) (by kernel_rfl) (by kernel_rfl) (Mm.sep_eq ((Mm.SepF.one (Mm.tsl rLetter 84 p.Letters (.slice (some ⟨g2, 0, none⟩) n1 c1) f1) W3 (HS3.out.at_ 4 rfl) (HS3.out.ndat (i := 4) rfl)).step (Below.refl _ _).drew) rfl) ?_
  repeat (refine Mm.give_det (by rfl) (by rfl) (by rfl) (fun K hK => ?_); go_big_quiet_op; refine hK _ ?_; clear hK K)
  refine Mm.give_op1 104 14 (by rfl) rfl (by rfl) (by rfl) (by rfl) rfl (by rfl) _ rfl Mm.gSl_in (fun others X4 hX4 => ?_) ?_
  · go_wp2_with (go_at_call 80; refine (delLetter_c p.Letters g2 _ c1 k f1 X4 (hX4.sl 0 rfl) (by omega) (by omega)).mono ?_; rintro e w5 ⟨rfl, k1, k2⟩)
    exact ⟨rfl, rfl, _, ⟨_, _, _, f1, rfl, rfl, by show _ = _; rw [List.length_eraseIdx_of_lt HK.out, HN1.out]⟩, hX4.upd (i := 0) (t' := Mm.tsl rLetter 84 (p.Letters.eraseIdx k) (.slice (some ⟨g2, 0, none⟩) (n1 - 1) c1) f1) rfl k1 k2 (hX4.ndat (i := 0) (t := Mm.tsl rLetter 84 p.Letters (.slice (some ⟨g2, 0, none⟩) n1 c1) f1) rfl) (fun b hb => .inl hb)⟩
  rintro v ds ⟨A5, n5, c5, f5, rfl, rfl, hn5⟩
  simp only [Act.put, List.setIfInBounds_toArray, List.set_cons_succ, List.set_cons_zero]
  repeat (refine Mm.give_det (by rfl) (by rfl) (by rfl) (fun K hK => ?_); go_big_quiet_op; refine hK _ ?_; clear hK K)
  refine Mm.give_nil ?_
  rintro X4 hX4
  have HS4 := Lib.hid (HS3.out.call 4 rfl (Mm.sep_eq (us := [Mm.tsl rLetter 84 (p.Letters.eraseIdx k) (.slice A5 n5 c5) f5]) hX4 rfl).left)
  clear hX4 s0 s1 b1
  have b1 := HS4.out.cell (k := 1) 2 rfl rfl
  have z1 := HS4.out.frz (k := 1) 2 rfl
  have HS5 : Hid (Mm.SepF _ w _ [_, _, _, _, _, _]) := HS4.out.setBlk (k := 1) 2 rfl (.slice A5 n5 c5)
  go_upto_region 25 with fail
  clear b1 z1
  obtain ⟨W5, hW5⟩ : ∃ W5, X4.setCell ⟨g, 1, none⟩ (.slice A5 n5 c5) = W5 := ⟨_, rfl⟩
  rw [hW5] at HS5 ⊢
  clear hW5
  have s0 := HS5.out.cell (k := 0) 1 rfl rfl
  have m0 := HS5.out.cell (k := 0) 0 rfl rfl
  have m1 := HS5.out.cell (k := 1) 0 rfl rfl
  have m2 := HS5.out.cell (k := 2) 0 rfl rfl
  have m3 := HS5.out.cell (k := 3) 0 rfl rfl
  have m4 := HS5.out.cell (k := 4) 0 rfl rfl
  have HS6 := Lib.hid (shut_Poll (x := Pl.pdrop p (k : Int)) (by have h := HS5.out.sel [2, 3, 4, 5, 0, 1] (by decide) rfl; unfold Pl.pdrop; rw [hkt]; exact h))
  have CT := deliver_c (Pl.pdrop p (k : Int)) m g _ W5 (HS6.out.at_ 0 rfl) (HS6.out.ndat (i := 0) rfl) (HW.out.drop _) HMK.out
  rw [if_neg (show ¬ (2 : Int) = 4 by decide), if_pos trivial] at HP
  go_wp2_with (go_at_call 81; (with_reducible refine CT.mono ?_); clear CT; rintro e w9 ⟨rfl, fp9, hL⟩; (have HC4 := Lib.hid (HS6.out.call 0 rfl hL)); clear hL)
  exact bodyPost_ret (v := .bool true) (by simp [results, Try.results48, go_sem]) rfl ⟨by rw [HP.out], _, by rw [HP.out]; exact (HC4.out.sel [0] (by decide) rfl).left⟩
set_option maxRecDepth 100000 in
set_option maxHeartbeats 4000000 in
theorem stepLose_c (p : Poll) (kk : Int) (g : Nat) (fp : List Nat) (w : World) (h : (Mm.tptr rPoll 31 g p fp).holds w) (hnd : (g :: fp).Nodup) (hw : Pl.PW p) :
    Calls Try.prog 48 #[.pointer (some ⟨g, 0, none⟩), .agg #[.int .i64 3, .int .i64 kk]] w (PAns g fp w (Pl.pstep p ⟨3, kk⟩)) := by
  obtain ⟨A0, n0, c0, A1, n1, c1, A2, n2, c2, f0, f1, f2, rfl, hs⟩ := open_Poll (Mm.SepF.one _ w h hnd)
  obtain ⟨g0, rfl, -, -⟩ := Mm.sl_addr (hs.sl 1 rfl) (by have := hw.n1; omega)
  have hln0 : n0 = p.Nodes.length := by obtain ⟨A', n', c', hv, h1, _⟩ := (hs.sl 1 rfl).form; injection hv with _ h2 _; omega
  have hln1 : n1 = p.Letters.length := by obtain ⟨A', n', c', hv, h1, _⟩ := (hs.sl 2 rfl).form; injection hv with _ h2 _; omega
  have hn5 := hw.n5
  have hl60 := hw.lets
  have hn05 : n0 ≤ 5 := by omega
  have hn160 : n1 ≤ 60 := by omega
  obtain ⟨gs, hgs⟩ : ∃ g, w.heap.size = g := ⟨_, rfl⟩
  obtain ⟨W0, hW0⟩ : ∃ W, w.alloc (.cells #[.int .i64 3, .int .i64 kk] 56) = W := ⟨_, rfl⟩
  have HS := Lib.hid ((hs.alloc' hgs 56 [.int .i64 3, .int .i64 kk]).atW hW0)
  have HW := Lib.hid hw
  have HN0 := Lib.hid hln0
  have HN1 := Lib.hid hln1
  clear h hs hnd hw hln0 hln1
  have fw0 : IntKind.i64.wrap ((n0 : Int) - 1) = (n0 : Int) - 1 := IntWalk.i64_in _ (by omega)
  have fw1 : IntKind.i64.wrap ((n1 : Int) - 1) = (n1 : Int) - 1 := IntWalk.i64_in _ (by omega)
  go_enter Try.func48, Try.ntmps48
  go_upto_region 1 with fail
  clear hW0 hgs
  have s0 := HS.out.cell (k := 0) 0 rfl rfl
  have s1 := HS.out.cell (k := 1) 0 rfl rfl
  have b0 := HS.out.cell (k := 0) 1 rfl rfl
  have b1 := HS.out.cell (k := 1) 1 rfl rfl
  have HP := Lib.hid (Pl.pstepL p 3 kk (by omega))
  by_cases hin : 0 ≤ kk ∧ kk ≤ (n1 : Int) - 1
  rotate_left
  · have CW := fun z : Und W0 => und_same z (within_is8 (Pl.isIn_not hin) (und W0 z))
    have HF : Hid (Pl.pstep p ⟨3, kk⟩ = (p, false)) := Lib.hid (by rw [HP.out, if_neg (fun hh => hin ⟨hh.1, by have := hh.2; have := HN1.out; omega⟩)])
    clear hin
    go_wp2
    refine wp_region_und (by kernel_rfl) (by kernel_rfl) ?_
    repeat (go_big_quiet_step ((first | (go_at_call 43; with_reducible exact CW _))))
    refine wpQuiet_nil ?_
    intro X hX
    replace HS := Lib.hid (HS.out.step hX)
    go_wp2
    exact bodyPost_ret (v := .bool false) (by simp [results, Try.results48, go_sem]) rfl ⟨by rw [HF.out], _, by rw [HF.out]; exact (shut_Poll HS.out.tail).left⟩
  have CW := fun z : Und W0 => und_same z (within_is8 (Pl.isIn_iff.2 hin) (und W0 z))
  obtain ⟨k, rfl⟩ : ∃ k : Nat, kk = k := ⟨kk.toNat, by omega⟩
  have hk : k < p.Letters.length := by have := HN1.out; omega
  have hkn : (k : Int) < (n1 : Nat) := by omega
  have hk0 : (0 : Int) ≤ (k : Nat) := by omega
  have hkt : ((k : Nat) : Int).toNat = k := by omega
  rw [if_pos ⟨hk0, by omega⟩] at HP
  have hx := HW.out.lat (k := (k : Int)) (by omega) (by omega)
  have hmk := HW.out.lok (k := (k : Int)) (by omega) (by omega)
  rw [hkt] at hx
  obtain ⟨m, hm⟩ : ∃ m, Pl.letAt p (k : Int) = m := ⟨_, rfl⟩
  rw [hm] at hx hmk HP
  have HX := Lib.hid hx
  have HMK := Lib.hid hmk
  have HK := Lib.hid hk
  clear hin hk hx hmk hm
  go_wp2
  refine wp_region_und (by kernel_rfl) (by kernel_rfl) ?_
  repeat (go_big_quiet_step ((first | (go_at_call 43; with_reducible exact CW _))))
  refine wpQuiet_nil ?_
  intro X hX
  replace HS := Lib.hid (HS.out.step hX)
  clear CW hX s0 s1 b0 b1
  obtain ⟨g2, rfl, -, -⟩ := Mm.sl_addr (HS.out.sl 3 rfl) (by have := HK.out; omega)
  have HMI := Lib.hid (Mm.letter_inv (HS.out.sl 3 rfl) HX.out)
  have hcap : n1 ≤ c1 ∧ c1 ≤ maxLen := by obtain ⟨A', n', c', hv, h1, h2, h3, _⟩ := (HS.out.sl 3 rfl).form; injection hv with _ h4 h5; omega
  unfold maxLen at hcap
  have s0 := HS.out.cell (k := 0) 0 rfl rfl
  have s1 := HS.out.cell (k := 1) 0 rfl rfl
  have b0 := HS.out.cell (k := 0) 1 rfl rfl
  have b1 := HS.out.cell (k := 1) 1 rfl rfl
  go_upto_region 23 with fail
  obtain ⟨q0, q1, q2, q3, q4⟩ := rLetter_ocell (HS.out.sl 3 rfl) (HS.out.ndat (i := 3) rfl) HX.out
  refine Mm.wp_region_give 9 (fun i => match i with | 8 => some (Mm.gPtr 84 [.int .i64 0, .int .i64 0, .int .i64 0, .bool false, .int .i64 0]) | _ => none) (fun _ => []) (fun _ => []) (F := []) (D := fun w' => ∃ x : Und X, w' = und X x) (fun X us h => Mm.sep_und h) (by kernel_rfl) (by kernel_rfl) (by kernel_rfl) (Mm.SepF.startDrew _) ?_
  repeat (refine Mm.give_det (by rfl) (by rfl) (by rfl) (fun K hK => ?_); go_big_quiet_op; refine hK _ ?_; clear hK K)
  refine Mm.give_op0 5 (by rfl) rfl (by rfl) (by rfl) (by rfl) (by rfl) Mm.gPtr_in (fun others X2 hX2 => ?_) ?_
  · go_wp2
    exact Mm.gvq_ptr hX2 rfl rfl rfl
  rintro v ds ⟨g6, rfl, rfl⟩
  simp only [Act.put, List.setIfInBounds_toArray, List.set_cons_succ, List.set_cons_zero]
  refine Mm.give_nil ?_
  rintro X2 hX2
  have HS2 := Lib.hid (HS.out.join (us := [Mm.tblk g6 84 [.int .i64 0, .int .i64 0, .int .i64 0, .bool false, .int .i64 0]]) hX2)
  clear hX2 s0 s1 b0 b1 q0 q1 q2 q3 q4
  have p0 := HS2.out.frz (k := 0) 0 rfl
  have p1 := HS2.out.frz (k := 1) 0 rfl
  have p2 := HS2.out.frz (k := 2) 0 rfl
  have p3 := HS2.out.frz (k := 3) 0 rfl
  have p4 := HS2.out.frz (k := 4) 0 rfl
  have s0 := HS2.out.cell (k := 0) 0 rfl rfl
  have s1 := HS2.out.cell (k := 1) 0 rfl rfl
  have s2 := HS2.out.cell (k := 2) 0 rfl rfl
  have s3 := HS2.out.cell (k := 3) 0 rfl rfl
  have s4 := HS2.out.cell (k := 4) 0 rfl rfl
  have HS3 : Hid (Mm.SepF _ w _ [_, _, _, _, _, _]) := (((((HS2.out.setBlk (k := 0) 0 rfl (.int .i64 m.From)).setBlk (k := 1) 0 rfl (.int .i64 m.To)).setBlk (k := 2) 0 rfl (.int .i64 m.Term)).setBlk (k := 3) 0 rfl (.bool m.Ask)).setBlk (k := 4) 0 rfl (.int .i64 m.Age))
  go_upto_region 24 with fail
  clear p0 p1 p2 p3 p4 s0 s1 s2 s3 s4
  obtain ⟨W3, hW3⟩ : ∃ W3, ((((X2.setCell ⟨g6, 0, none⟩ (.int .i64 m.From)).setCell ⟨g6, 1, none⟩ (.int .i64 m.To)).setCell ⟨g6, 2, none⟩ (.int .i64 m.Term)).setCell ⟨g6, 3, none⟩ (.bool m.Ask)).setCell ⟨g6, 4, none⟩ (.int .i64 m.Age) = W3 := ⟨_, rfl⟩
  rw [hW3] at HS3 ⊢
  clear hW3
  have s0 := HS3.out.cell (k := 0) 1 rfl rfl
  have s1 := HS3.out.cell (k := 1) 1 rfl rfl
  have b1 := HS3.out.cell (k := 1) 2 rfl rfl
  have n0 : g ∉ f1 := HS3.out.apart (i := 2) (j := 4) rfl rfl (by decide) g (by simp [Mm.tblk])
  have n1' : gs ∉ f1 := HS3.out.apart (i := 1) (j := 4) rfl rfl (by decide) _ (by simp [Mm.tblk])
  refine Mm.wp_region_give 13 (fun i => match i with | 10 => some (Mm.gSl rLetter 84 (p.Letters.eraseIdx k)) | _ => none) (fun i => match i with | 10 => [14] | _ => []) (fun i => match i with | 14 => [Mm.tsl rLetter 84 p.Letters (.slice (some ⟨g2, 0, none⟩) n1 c1) f1] | _ => []) (F := f1) (D := fun w' => ∃ x : Cha f1 W3, w' = cha f1 W3 x) (fun X us h => Mm.sep_cha h) (by kernel_rfl) (by kernel_rfl) (by kernel_rfl) (Mm.sep_eq ((Mm.SepF.one (Mm.tsl rLetter 84 p.Letters (.slice (some ⟨g2, 0, none⟩) n1 c1) f1) W3 (HS3.out.at_ 4 rfl) (HS3.out.ndat (i := 4) rfl)).step (Below.refl _ _).drew) rfl) ?_
  repeat (refine Mm.give_det (by rfl) (by rfl) (by rfl) (fun K hK => ?_); go_big_quiet_op; refine hK _ ?_; clear hK K)
  refine Mm.give_op1 104 14 (by rfl) rfl (by rfl) (by rfl) (by rfl) rfl (by rfl) _ rfl Mm.gSl_in (fun others X4 hX4 => ?_) ?_
  · go_wp2_with (go_at_call 80; refine (delLetter_c p.Letters g2 _ c1 k f1 X4 (hX4.sl 0 rfl) (by omega) (by omega)).mono ?_; rintro e w5 ⟨rfl, k1, k2⟩)
    exact ⟨rfl, rfl, _, ⟨_, _, _, f1, rfl, rfl, by show _ = _; rw [List.length_eraseIdx_of_lt HK.out, HN1.out]⟩, hX4.upd (i := 0) (t' := Mm.tsl rLetter 84 (p.Letters.eraseIdx k) (.slice (some ⟨g2, 0, none⟩) (n1 - 1) c1) f1) rfl k1 k2 (hX4.ndat (i := 0) (t := Mm.tsl rLetter 84 p.Letters (.slice (some ⟨g2, 0, none⟩) n1 c1) f1) rfl) (fun b hb => .inl hb)⟩
  rintro v ds ⟨A5, n5, c5, f5, rfl, rfl, hn5⟩
  simp only [Act.put, List.setIfInBounds_toArray, List.set_cons_succ, List.set_cons_zero]
  repeat (refine Mm.give_det (by rfl) (by rfl) (by rfl) (fun K hK => ?_); go_big_quiet_op; refine hK _ ?_; clear hK K)
  refine Mm.give_nil ?_
  rintro X4 hX4
  have HS4 := Lib.hid (HS3.out.call 4 rfl (Mm.sep_eq (us := [Mm.tsl rLetter 84 (p.Letters.eraseIdx k) (.slice A5 n5 c5) f5]) hX4 rfl).left)
  clear hX4 s0 s1 b1
  have b1 := HS4.out.cell (k := 1) 2 rfl rfl
  have z1 := HS4.out.frz (k := 1) 2 rfl
  have HS5 : Hid (Mm.SepF _ w _ [_, _, _, _, _, _]) := HS4.out.setBlk (k := 1) 2 rfl (.slice A5 n5 c5)
  go_upto_region 25 with fail
  clear b1 z1
  obtain ⟨W5, hW5⟩ : ∃ W5, X4.setCell ⟨g, 1, none⟩ (.slice A5 n5 c5) = W5 := ⟨_, rfl⟩
  rw [hW5] at HS5 ⊢
  clear hW5
  have s0 := HS5.out.cell (k := 0) 1 rfl rfl
  have m0 := HS5.out.cell (k := 0) 0 rfl rfl
  have m1 := HS5.out.cell (k := 1) 0 rfl rfl
  have m2 := HS5.out.cell (k := 2) 0 rfl rfl
  have m3 := HS5.out.cell (k := 3) 0 rfl rfl
  have m4 := HS5.out.cell (k := 4) 0 rfl rfl
  have HS6 := Lib.hid (shut_Poll (x := Pl.pdrop p (k : Int)) (by have h := HS5.out.sel [2, 3, 4, 5, 0, 1] (by decide) rfl; unfold Pl.pdrop; rw [hkt]; exact h))
  rw [if_neg (show ¬ (3 : Int) = 4 by decide), if_neg (show ¬ (3 : Int) = 2 by decide)] at HP
  go_wp2
  exact bodyPost_ret (v := .bool true) (by simp [results, Try.results48, go_sem]) rfl ⟨by rw [HP.out], _, by rw [HP.out]; exact (HS6.out.sel [0] (by decide) rfl).left⟩
set_option maxRecDepth 100000 in
set_option maxHeartbeats 4000000 in
theorem stepTwice_c (p : Poll) (kk : Int) (g : Nat) (fp : List Nat) (w : World) (h : (Mm.tptr rPoll 31 g p fp).holds w) (hnd : (g :: fp).Nodup) (hw : Pl.PW p) :
    Calls Try.prog 48 #[.pointer (some ⟨g, 0, none⟩), .agg #[.int .i64 4, .int .i64 kk]] w (PAns g fp w (Pl.pstep p ⟨4, kk⟩)) := by
  obtain ⟨A0, n0, c0, A1, n1, c1, A2, n2, c2, f0, f1, f2, rfl, hs⟩ := open_Poll (Mm.SepF.one _ w h hnd)
  obtain ⟨g0, rfl, -, -⟩ := Mm.sl_addr (hs.sl 1 rfl) (by have := hw.n1; omega)
  have hln0 : n0 = p.Nodes.length := by obtain ⟨A', n', c', hv, h1, _⟩ := (hs.sl 1 rfl).form; injection hv with _ h2 _; omega
  have hln1 : n1 = p.Letters.length := by obtain ⟨A', n', c', hv, h1, _⟩ := (hs.sl 2 rfl).form; injection hv with _ h2 _; omega
  have hn5 := hw.n5
  have hl60 := hw.lets
  have hn05 : n0 ≤ 5 := by omega
  have hn160 : n1 ≤ 60 := by omega
  obtain ⟨gs, hgs⟩ : ∃ g, w.heap.size = g := ⟨_, rfl⟩
  obtain ⟨W0, hW0⟩ : ∃ W, w.alloc (.cells #[.int .i64 4, .int .i64 kk] 56) = W := ⟨_, rfl⟩
  have HS := Lib.hid ((hs.alloc' hgs 56 [.int .i64 4, .int .i64 kk]).atW hW0)
  have HW := Lib.hid hw
  have HN0 := Lib.hid hln0
  have HN1 := Lib.hid hln1
  clear h hs hnd hw hln0 hln1
  have fw0 : IntKind.i64.wrap ((n0 : Int) - 1) = (n0 : Int) - 1 := IntWalk.i64_in _ (by omega)
  have fw1 : IntKind.i64.wrap ((n1 : Int) - 1) = (n1 : Int) - 1 := IntWalk.i64_in _ (by omega)
  go_enter Try.func48, Try.ntmps48
  go_upto_region 1 with fail
  clear hW0 hgs
  have s0 := HS.out.cell (k := 0) 0 rfl rfl
  have s1 := HS.out.cell (k := 1) 0 rfl rfl
  have b0 := HS.out.cell (k := 0) 1 rfl rfl
  have b1 := HS.out.cell (k := 1) 1 rfl rfl
  have HP := Lib.hid (Pl.pstepL p 4 kk (by omega))
  by_cases hin : 0 ≤ kk ∧ kk ≤ (n1 : Int) - 1
  rotate_left
  · have CW := fun z : Und W0 => und_same z (within_is8 (Pl.isIn_not hin) (und W0 z))
    have HF : Hid (Pl.pstep p ⟨4, kk⟩ = (p, false)) := Lib.hid (by rw [HP.out, if_neg (fun hh => hin ⟨hh.1, by have := hh.2; have := HN1.out; omega⟩)])
    clear hin
    go_wp2
    refine wp_region_und (by kernel_rfl) (by kernel_rfl) ?_
    repeat (go_big_quiet_step ((first | (go_at_call 43; with_reducible exact CW _))))
    refine wpQuiet_nil ?_
    intro X hX
    replace HS := Lib.hid (HS.out.step hX)
    go_wp2
    exact bodyPost_ret (v := .bool false) (by simp [results, Try.results48, go_sem]) rfl ⟨by rw [HF.out], _, by rw [HF.out]; exact (shut_Poll HS.out.tail).left⟩
  have CW := fun z : Und W0 => und_same z (within_is8 (Pl.isIn_iff.2 hin) (und W0 z))
  obtain ⟨k, rfl⟩ : ∃ k : Nat, kk = k := ⟨kk.toNat, by omega⟩
  have hk : k < p.Letters.length := by have := HN1.out; omega
  have hkn : (k : Int) < (n1 : Nat) := by omega
  have hk0 : (0 : Int) ≤ (k : Nat) := by omega
  have hkt : ((k : Nat) : Int).toNat = k := by omega
  rw [if_pos ⟨hk0, by omega⟩] at HP
  have hx := HW.out.lat (k := (k : Int)) (by omega) (by omega)
  have hmk := HW.out.lok (k := (k : Int)) (by omega) (by omega)
  rw [hkt] at hx
  obtain ⟨m, hm⟩ : ∃ m, Pl.letAt p (k : Int) = m := ⟨_, rfl⟩
  rw [hm] at hx hmk HP
  have HX := Lib.hid hx
  have HMK := Lib.hid hmk
  have HK := Lib.hid hk
  clear hin hk hx hmk hm
  go_wp2
  refine wp_region_und (by kernel_rfl) (by kernel_rfl) ?_
  repeat (go_big_quiet_step ((first | (go_at_call 43; with_reducible exact CW _))))
  refine wpQuiet_nil ?_
  intro X hX
  replace HS := Lib.hid (HS.out.step hX)
  clear CW hX s0 s1 b0 b1
  obtain ⟨g2, rfl, -, -⟩ := Mm.sl_addr (HS.out.sl 3 rfl) (by have := HK.out; omega)
  have HMI := Lib.hid (Mm.letter_inv (HS.out.sl 3 rfl) HX.out)
  have hcap : n1 ≤ c1 ∧ c1 ≤ maxLen := by obtain ⟨A', n', c', hv, h1, h2, h3, _⟩ := (HS.out.sl 3 rfl).form; injection hv with _ h4 h5; omega
  unfold maxLen at hcap
  have s0 := HS.out.cell (k := 0) 0 rfl rfl
  have s1 := HS.out.cell (k := 1) 0 rfl rfl
  have b0 := HS.out.cell (k := 0) 1 rfl rfl
  have b1 := HS.out.cell (k := 1) 1 rfl rfl
  rw [if_pos trivial] at HP
  by_cases hl : p.Letters.length = 60
  · have HF : Hid (Pl.pstep p ⟨4, (k : Int)⟩ = (p, false)) := Lib.hid (by rw [HP.out, if_pos hl])
    have f4' : ((n1 : Int) == 60) = true := by have := HN1.out; simp; omega
    go_wp2
    exact bodyPost_ret (v := .bool false) (by simp [results, Try.results48, go_sem]) rfl ⟨by rw [HF.out], _, by rw [HF.out]; exact (shut_Poll HS.out.tail).left⟩
  · have HF : Hid (Pl.pstep p ⟨4, (k : Int)⟩ = ({ p with Letters := p.Letters ++ [m] }, true)) := Lib.hid (by rw [HP.out, if_neg hl])
    have f4' : ((n1 : Int) == 60) = false := by have := HN1.out; simp; omega
    have hn59 : n1 < 60 := by have := HN1.out; omega
    go_upto_region 21 with fail
    obtain ⟨q0, q1, q2, q3, q4⟩ := rLetter_ocell (HS.out.sl 3 rfl) (HS.out.ndat (i := 3) rfl) HX.out
    have z1 := HS.out.frz (k := 1) 1 rfl
    obtain ⟨i0, hi, hz0, hz1, hz2⟩ := info_parts Try.infoLetter
    obtain ⟨l0, ho2, hnext⟩ := HS.out.push0 3 rfl (W2 := (X.alloc (.cells #[.int .i64 m.From, .int .i64 m.To, .int .i64 m.Term, .bool m.Ask, .int .i64 m.Age] 84)).drew) (x := m) (below_new (Below.refl _ _) _).drew (rLetter_own_mk HMI.out)
    rw [← HN1.out] at ho2 hnext
    have HNX := Lib.hid hnext
    have HO2 := Lib.hid ho2
    clear hnext ho2
    go_region_law (first
      | (refine step_append_lies _ (by rfl) (.tmp 73) (.tmp 82) 28 (by rfl) 0 84 i0 _ 5 40 Try.underlying28 hi hz0 hz1 hz2 rfl (by omega) _ n1 l0 (by rfl) HO2.out ⟨X.heap.size, 0, none⟩ 1 1 [.int .i64 m.From, .int .i64 m.To, .int .i64 m.Term, .bool m.Ask, .int .i64 m.Age] (by rfl) (by rfl) (World.news_of_block (B := X.heap.size) (cs := #[.int .i64 m.From, .int .i64 m.To, .int .i64 m.Term, .bool m.Ask, .int .i64 m.Age]) (t := 84) (fr := (0, 0)) (Mm.heap_new X rfl _)) (by simp [Value.oneCell']) (by omega) (by unfold maxLen; omega) (by omega) (Nat.zero_le _) _ rfl ?_; intro gg cap w4 hown1 hgrow hat hlt'; obtain ⟨fp', hs4⟩ := HNX.out gg cap w4 hown1 hgrow hat; (have HS4 := Lib.hid hs4); (have d4 := HS4.out.cell (k := 1) 1 rfl rfl); (have z4 := HS4.out.frz (k := 1) 1 rfl); clear hs4 hown1 hgrow hat))
    all_goals
      go_wp2
      exact bodyPost_ret (v := .bool true) (by simp [results, Try.results48, go_sem]) rfl ⟨by rw [HF.out], _, by rw [HF.out]; exact (shut_Poll (x := { p with Letters := p.Letters ++ [m] }) (HS4.out.setBlk 1 rfl _).tail).left⟩
theorem step8_c (p : Poll) (s : VoteStep) (g : Nat) (fp : List Nat) (w : World) (h : (Mm.tptr rPoll 31 g p fp).holds w) (hnd : (g :: fp).Nodup) (hw : Pl.PW p) :
    Calls Try.prog 48 #[.pointer (some ⟨g, 0, none⟩), .agg #[.int .i64 s.Kind, .int .i64 s.K]] w (PAns g fp w (Pl.pstep p s)) := by
  obtain ⟨kd, kk⟩ := s
  by_cases h1 : kd = 1
  · subst h1; exact stepStand_c p kk g fp w h hnd hw
  by_cases h2 : kd = 2
  · subst h2; exact stepTake_c p kk g fp w h hnd hw
  by_cases h3 : kd = 3
  · subst h3; exact stepLose_c p kk g fp w h hnd hw
  by_cases h4 : kd = 4
  · subst h4; exact stepTwice_c p kk g fp w h hnd hw
  by_cases h5 : kd = 5
  · subst h5; exact stepStop_c p kk g fp w h hnd hw
  exact stepNone_c p kd kk g fp w h hnd hw (by omega)
end Go.Proofs.Ytkhchfbpmmiopaa

/-
  Contracts: the reference's election, by value: a step (chapter 8). No conditions beyond those named.
-/
namespace Go.Proofs.Ytkhchfbpmmiopaa
open Go.RowKit
attribute [local go_sem] und_cell cha_cell World.cell?_alloc_some
def PVA2 (r : Poll × Bool) (fp : List Nat) (w : World) (e : Ending) (w' : World) : Prop := ∃ cs' fp', e = .returned (.tuple #[.agg cs'.toArray, .bool r.2]) ∧ Mm.Left fp w w' (Mm.tow rPoll r.1 cs' fp')
theorem Mm.flatA_letter : Mm.Flat rLetter Mm.encLetter := ⟨fun h => (rLetter_at h).1, fun h w' => rLetter_own_mk (rLetter_at h).2⟩
theorem l8NodeIn_c (k : Int) (A0 : Option Addr) (n0 c0 : Nat) (v1 v2 : Value) (w : World) (h : 0 ≤ k ∧ k < n0) : Calls Try.prog 69 #[.agg #[.slice A0 n0 c0, v1, v2], .int .i64 k] w fun e w' => e = .returned (.bool true) ∧ Below w.heap.size w w' := by
  have f1 : (0 : Int) ≤ k := h.1
  have f2 : k < (n0 : Nat) := h.2
  have f3 : decide ((0 : Int) ≤ k) = true := by simpa using h.1
  have f4 : decide (k < (n0 : Int)) = true := by simpa using h.2
  clear h
  have HB := Lib.hid (below_new (Below.refl w.heap.size w) (.cells #[.slice A0 n0 c0, v1, v2] 31))
  go_enter Try.func69, Try.ntmps69
  go_wp2
  go_ret
  exact ⟨rfl, HB.out⟩
theorem l8NodeOut_c (k : Int) (A0 : Option Addr) (n0 c0 : Nat) (v1 v2 : Value) (w : World) (h : ¬ (0 ≤ k ∧ k < n0)) : Calls Try.prog 69 #[.agg #[.slice A0 n0 c0, v1, v2], .int .i64 k] w fun e w' => e = .returned (.bool false) ∧ Below w.heap.size w w' := by
  have HB := Lib.hid (below_new (Below.refl w.heap.size w) (.cells #[.slice A0 n0 c0, v1, v2] 31))
  by_cases h1 : 0 ≤ k
  · have f1 : (0 : Int) ≤ k := h1
    have f2 : ¬ k < (n0 : Nat) := fun h2 => h ⟨h1, h2⟩
    have f3 : decide ((0 : Int) ≤ k) = true := by simpa using h1
    have f4 : decide (k < (n0 : Int)) = false := by simpa using f2
    clear h h1
    go_enter Try.func69, Try.ntmps69
    go_wp2
    go_ret
    exact ⟨rfl, HB.out⟩
  · have f3 : decide ((0 : Int) ≤ k) = false := by simpa using h1
    clear h
    go_enter Try.func69, Try.ntmps69
    go_wp2
    go_ret
    exact ⟨rfl, HB.out⟩
set_option maxRecDepth 100000 in
set_option maxHeartbeats 4000000 in
theorem l8StepStand_c (p : Poll) (kk : Int) (cs : List Value) (fp : List Nat) (w : World) (h : (Mm.tow rPoll p cs fp).holds w) (hnd : fp.Nodup) (hw : Pl.PW p) :
    Calls Try.prog 49 #[.agg cs.toArray, .agg #[.int .i64 1, .int .i64 kk]] w (PVA2 (Pl.pstep p ⟨1, kk⟩) fp w) := by
  obtain ⟨A0, n0, c0, A1, n1, c1, A2, n2, c2, f0, f1, f2, rfl, rfl, hs⟩ := openv_Poll (Mm.SepF.one _ w h hnd)
  obtain ⟨g0, rfl, -, -⟩ := Mm.sl_addr (hs.sl 0 rfl) (by have := hw.n1; omega)
  have hln0 : n0 = p.Nodes.length := by obtain ⟨A', n', c', hv, h1, _⟩ := (hs.sl 0 rfl).form; injection hv with _ h2 _; omega
  have hln1 : n1 = p.Letters.length := by obtain ⟨A', n', c', hv, h1, _⟩ := (hs.sl 1 rfl).form; injection hv with _ h2 _; omega
  have hn5 := hw.n5
  have hl60 := hw.lets
  have hn05 : n0 ≤ 5 := by omega
  have hn160 : n1 ≤ 60 := by omega
  obtain ⟨ga, hga⟩ : ∃ g, w.heap.size = g := ⟨_, rfl⟩
  obtain ⟨gs, hgs⟩ : ∃ g, ga + 1 = g := ⟨_, rfl⟩
  obtain ⟨gc, hgc⟩ : ∃ g, gs + 1 = g := ⟨_, rfl⟩
  obtain ⟨W0, hW0⟩ : ∃ W, ((w.alloc (.cells #[.slice (some ⟨g0, 0, none⟩) n0 c0, .slice A1 n1 c1, .slice A2 n2 c2] 31)).alloc (.cells #[.int .i64 1, .int .i64 kk] 56)).alloc (.cells #[.slice none 0 0, .slice none 0 0, .slice none 0 0] 31) = W := ⟨_, rfl⟩
  have HS := Lib.hid ((((hs.alloc' hga 31 [.slice (some ⟨g0, 0, none⟩) n0 c0, .slice A1 n1 c1, .slice A2 n2 c2]).alloc' (g := gs) (by rw [Mm.sz1, hga, hgs]) 56 [.int .i64 1, .int .i64 kk]).alloc' (g := gc) (by rw [Mm.sz2, hga]; omega) 31 zPoll).atW hW0)
  have HW := Lib.hid hw
  have HN0 := Lib.hid hln0
  have HN1 := Lib.hid hln1
  clear h hs hnd hw hln0 hln1
  go_enter Try.func49, Try.ntmps49
  go_upto_region 1 with fail
  clear hW0 hga hgs hgc
  have s0 := HS.out.cell (k := 0) 1 rfl rfl
  have s1 := HS.out.cell (k := 1) 1 rfl rfl
  have b0 := HS.out.cell (k := 0) 2 rfl rfl
  have b1 := HS.out.cell (k := 1) 2 rfl rfl
  have b2 := HS.out.cell (k := 2) 2 rfl rfl
  have HP : Hid (Pl.pstep p ⟨1, kk⟩ = if 0 ≤ kk ∧ kk < p.Nodes.length ∧ (Pl.nodeAt p kk).Term ≠ 200 then (Pl.pstand p kk, true) else (p, false)) := Lib.hid (if_pos rfl)
  by_cases hin : 0 ≤ kk ∧ kk < (n0 : Int)
  rotate_left
  · have CW := l8NodeOut_c kk (some ⟨g0, 0, none⟩) n0 c0 (.slice A1 n1 c1) (.slice A2 n2 c2) W0 hin
    have HF : Hid (Pl.pstep p ⟨1, kk⟩ = (p, false)) := Lib.hid (by rw [HP.out, if_neg (fun hh => hin ⟨hh.1, by have := hh.2.1; have := HN0.out; omega⟩)])
    clear hin
    go_upto_region 5 with ((go_at_call 69); ((with_reducible refine CW.mono ?_)); (clear CW); (rintro e wn ⟨rfl, hbn⟩); ((replace HS := Lib.hid (HS.out.step hbn))); (clear hbn); ((clear s0 s1 b0 b1 b2)); ((have s0 := HS.out.cell (k := 0) 1 rfl rfl); (have s1 := HS.out.cell (k := 1) 1 rfl rfl); (have b0 := HS.out.cell (k := 0) 2 rfl rfl); (have b1 := HS.out.cell (k := 1) 2 rfl rfl); (have b2 := HS.out.cell (k := 2) 2 rfl rfl)))
    have r0 := HS.out.cell (k := 0) 0 rfl rfl
    have r1 := HS.out.cell (k := 1) 0 rfl rfl
    have r2 := HS.out.cell (k := 2) 0 rfl rfl
    have z0 := HS.out.frz (k := 0) 0 rfl
    have z1 := HS.out.frz (k := 1) 0 rfl
    have z2 := HS.out.frz (k := 2) 0 rfl
    go_wp2
    have HSF := Lib.hid (((HS.out.setBlk (k := 0) 0 rfl (.slice (some ⟨g0, 0, none⟩) n0 c0)).setBlk (k := 1) 0 rfl (.slice A1 n1 c1)).setBlk (k := 2) 0 rfl (.slice A2 n2 c2))
    have u0 := HSF.out.cell (k := 0) 0 rfl rfl
    have u1 := HSF.out.cell (k := 1) 0 rfl rfl
    have u2 := HSF.out.cell (k := 2) 0 rfl rfl
    exact bodyPost_ret (v := .tuple #[.agg #[(.slice (some ⟨g0, 0, none⟩) n0 c0), (.slice A1 n1 c1), (.slice A2 n2 c2)], .bool false]) (by simp [results, Try.results49, go_sem, u0, u1, u2]) rfl ⟨[(.slice (some ⟨g0, 0, none⟩) n0 c0), (.slice A1 n1 c1), (.slice A2 n2 c2)], _, by rw [HF.out], by rw [HF.out]; exact (shutv_Poll (x := p) (HSF.out.sel [3, 4, 5] (by decide) rfl)).left⟩
  have CW := l8NodeIn_c kk (some ⟨g0, 0, none⟩) n0 c0 (.slice A1 n1 c1) (.slice A2 n2 c2) W0 hin
  obtain ⟨k, rfl⟩ : ∃ k : Nat, kk = k := ⟨kk.toNat, by omega⟩
  have hk : k < p.Nodes.length := by have := HN0.out; omega
  have HK := Lib.hid hk
  have hkn : (k : Int) < (n0 : Nat) := by omega
  have hk0 : (0 : Int) ≤ (k : Nat) := by omega
  have hkt : ((k : Nat) : Int).toNat = k := by omega
  have hx := HW.out.at_ (k := (k : Int)) (by omega) (by omega)
  rw [hkt] at hx
  obtain ⟨nd, hnd'⟩ : ∃ nd, Pl.nodeAt p (k : Int) = nd := ⟨_, rfl⟩
  rw [hnd'] at hx
  have HX := Lib.hid hx
  have HND := Lib.hid hnd'
  clear hin hk hx hnd'
  obtain ⟨A3, m3, d3, e0, -, -, -, -, -, -, -, -, -⟩ := node_cells (HS.out.sl 3 rfl) (HS.out.ndat (i := 3) rfl) HX.out
  by_cases ht : nd.Term = 200
  · have HF : Hid (Pl.pstep p ⟨1, (k : Int)⟩ = (p, false)) := Lib.hid (by rw [HP.out, if_neg (fun hh => hh.2.2 (by rw [HND.out]; exact ht))])
    have fa : (nd.Term == 200) = true := by rw [ht]; rfl
    clear ht
    go_upto_region 5 with ((go_at_call 69); ((with_reducible refine CW.mono ?_)); (clear CW); (rintro e wn ⟨rfl, hbn⟩); ((replace HS := Lib.hid (HS.out.step hbn))); (clear hbn); ((clear s0 s1 b0 b1 b2)); ((have s0 := HS.out.cell (k := 0) 1 rfl rfl); (have s1 := HS.out.cell (k := 1) 1 rfl rfl); (have b0 := HS.out.cell (k := 0) 2 rfl rfl); (have b1 := HS.out.cell (k := 1) 2 rfl rfl); (have b2 := HS.out.cell (k := 2) 2 rfl rfl)); (replace e0 := (node_cells (HS.out.sl 3 rfl) (HS.out.ndat (i := 3) rfl) HX.out).choose_spec.choose_spec.choose_spec.1))
    clear e0
    have r0 := HS.out.cell (k := 0) 0 rfl rfl
    have r1 := HS.out.cell (k := 1) 0 rfl rfl
    have r2 := HS.out.cell (k := 2) 0 rfl rfl
    have z0 := HS.out.frz (k := 0) 0 rfl
    have z1 := HS.out.frz (k := 1) 0 rfl
    have z2 := HS.out.frz (k := 2) 0 rfl
    go_wp2
    have HSF := Lib.hid (((HS.out.setBlk (k := 0) 0 rfl (.slice (some ⟨g0, 0, none⟩) n0 c0)).setBlk (k := 1) 0 rfl (.slice A1 n1 c1)).setBlk (k := 2) 0 rfl (.slice A2 n2 c2))
    have u0 := HSF.out.cell (k := 0) 0 rfl rfl
    have u1 := HSF.out.cell (k := 1) 0 rfl rfl
    have u2 := HSF.out.cell (k := 2) 0 rfl rfl
    exact bodyPost_ret (v := .tuple #[.agg #[(.slice (some ⟨g0, 0, none⟩) n0 c0), (.slice A1 n1 c1), (.slice A2 n2 c2)], .bool false]) (by simp [results, Try.results49, go_sem, u0, u1, u2]) rfl ⟨[(.slice (some ⟨g0, 0, none⟩) n0 c0), (.slice A1 n1 c1), (.slice A2 n2 c2)], _, by rw [HF.out], by rw [HF.out]; exact (shutv_Poll (x := p) (HSF.out.sel [3, 4, 5] (by decide) rfl)).left⟩
  · have HF : Hid (Pl.pstep p ⟨1, (k : Int)⟩ = (Pl.pstand p (k : Int), true)) := Lib.hid (by rw [HP.out, if_pos ⟨by omega, by have := HK.out; show (k : Int) < _; omega, by rw [HND.out]; exact ht⟩])
    have fa : (nd.Term == 200) = false := by simpa using ht
    have HTT := Lib.hid ht
    clear ht
    go_upto_region 7 with ((go_at_call 69); ((with_reducible refine CW.mono ?_)); (clear CW); (rintro e wn ⟨rfl, hbn⟩); ((replace HS := Lib.hid (HS.out.step hbn))); (clear hbn); ((clear s0 s1 b0 b1 b2)); ((have s0 := HS.out.cell (k := 0) 1 rfl rfl); (have s1 := HS.out.cell (k := 1) 1 rfl rfl); (have b0 := HS.out.cell (k := 0) 2 rfl rfl); (have b1 := HS.out.cell (k := 1) 2 rfl rfl); (have b2 := HS.out.cell (k := 2) 2 rfl rfl)); (replace e0 := (node_cells (HS.out.sl 3 rfl) (HS.out.ndat (i := 3) rfl) HX.out).choose_spec.choose_spec.choose_spec.1))
    clear e0
    have HT := Lib.hid (shutv_Poll (x := p) (HS.out.sel [3, 4, 5, 2, 1, 0] (by decide) rfl))
    have CS := l8Stand_c p k _ _ _ (HT.out.at_ 0 rfl) (HT.out.ndat (i := 0) rfl) HW.out HK.out (by rw [HND.out]; exact HTT.out)
    go_wp2_with (go_at_call 82; (with_reducible refine CS.mono ?_); clear CS; (rintro e w6 ⟨cq, fq, rfl, hL⟩); (obtain ⟨C0, x0, y0, C1, x1, y1, C2, x2, y2, rfl⟩ := own_formP hL.2.2.2); ((have HS7 := Lib.hid (HT.out.call 0 rfl hL))); (clear hL); (clear s0 s1 b0 b1 b2); (have r0 := HS7.out.cell (k := 0) 3 rfl rfl); (have r1 := HS7.out.cell (k := 1) 3 rfl rfl); (have r2 := HS7.out.cell (k := 2) 3 rfl rfl); (have z0 := HS7.out.frz (k := 0) 3 rfl); (have z1 := HS7.out.frz (k := 1) 3 rfl); (have z2 := HS7.out.frz (k := 2) 3 rfl))
    have HSF := Lib.hid (((HS7.out.setBlk (k := 0) 3 rfl (.slice C0 x0 y0)).setBlk (k := 1) 3 rfl (.slice C1 x1 y1)).setBlk (k := 2) 3 rfl (.slice C2 x2 y2))
    have u0 := HSF.out.cell (k := 0) 3 rfl rfl
    have u1 := HSF.out.cell (k := 1) 3 rfl rfl
    have u2 := HSF.out.cell (k := 2) 3 rfl rfl
    exact bodyPost_ret (v := .tuple #[.agg #[(.slice C0 x0 y0), (.slice C1 x1 y1), (.slice C2 x2 y2)], .bool true]) (by simp [results, Try.results49, go_sem, u0, u1, u2]) rfl ⟨[(.slice C0 x0 y0), (.slice C1 x1 y1), (.slice C2 x2 y2)], _, by rw [HF.out], by rw [HF.out]; exact (HSF.out.sel [0] (by decide) rfl).left⟩
set_option maxRecDepth 100000 in
set_option maxHeartbeats 4000000 in
theorem l8StepStop_c (p : Poll) (kk : Int) (cs : List Value) (fp : List Nat) (w : World) (h : (Mm.tow rPoll p cs fp).holds w) (hnd : fp.Nodup) (hw : Pl.PW p) :
    Calls Try.prog 49 #[.agg cs.toArray, .agg #[.int .i64 5, .int .i64 kk]] w (PVA2 (Pl.pstep p ⟨5, kk⟩) fp w) := by
  obtain ⟨A0, n0, c0, A1, n1, c1, A2, n2, c2, f0, f1, f2, rfl, rfl, hs⟩ := openv_Poll (Mm.SepF.one _ w h hnd)
  obtain ⟨g0, rfl, -, -⟩ := Mm.sl_addr (hs.sl 0 rfl) (by have := hw.n1; omega)
  have hln0 : n0 = p.Nodes.length := by obtain ⟨A', n', c', hv, h1, _⟩ := (hs.sl 0 rfl).form; injection hv with _ h2 _; omega
  have hln1 : n1 = p.Letters.length := by obtain ⟨A', n', c', hv, h1, _⟩ := (hs.sl 1 rfl).form; injection hv with _ h2 _; omega
  have hn5 := hw.n5
  have hl60 := hw.lets
  have hn05 : n0 ≤ 5 := by omega
  have hn160 : n1 ≤ 60 := by omega
  obtain ⟨ga, hga⟩ : ∃ g, w.heap.size = g := ⟨_, rfl⟩
  obtain ⟨gs, hgs⟩ : ∃ g, ga + 1 = g := ⟨_, rfl⟩
  obtain ⟨gc, hgc⟩ : ∃ g, gs + 1 = g := ⟨_, rfl⟩
  obtain ⟨W0, hW0⟩ : ∃ W, ((w.alloc (.cells #[.slice (some ⟨g0, 0, none⟩) n0 c0, .slice A1 n1 c1, .slice A2 n2 c2] 31)).alloc (.cells #[.int .i64 5, .int .i64 kk] 56)).alloc (.cells #[.slice none 0 0, .slice none 0 0, .slice none 0 0] 31) = W := ⟨_, rfl⟩
  have HS := Lib.hid ((((hs.alloc' hga 31 [.slice (some ⟨g0, 0, none⟩) n0 c0, .slice A1 n1 c1, .slice A2 n2 c2]).alloc' (g := gs) (by rw [Mm.sz1, hga, hgs]) 56 [.int .i64 5, .int .i64 kk]).alloc' (g := gc) (by rw [Mm.sz2, hga]; omega) 31 zPoll).atW hW0)
  have HW := Lib.hid hw
  have HN0 := Lib.hid hln0
  have HN1 := Lib.hid hln1
  clear h hs hnd hw hln0 hln1
  go_enter Try.func49, Try.ntmps49
  go_upto_region 1 with fail
  clear hW0 hga hgs hgc
  have s0 := HS.out.cell (k := 0) 1 rfl rfl
  have s1 := HS.out.cell (k := 1) 1 rfl rfl
  have b0 := HS.out.cell (k := 0) 2 rfl rfl
  have b1 := HS.out.cell (k := 1) 2 rfl rfl
  have b2 := HS.out.cell (k := 2) 2 rfl rfl
  have HP : Hid (Pl.pstep p ⟨5, kk⟩ = if 0 ≤ kk ∧ kk < p.Nodes.length then (Pl.pstop p kk, true) else (p, false)) := Lib.hid ((if_neg (show ¬ (5 : Int) = 1 by omega)).trans (if_pos rfl))
  by_cases hin : 0 ≤ kk ∧ kk < (n0 : Int)
  rotate_left
  · have CW := l8NodeOut_c kk (some ⟨g0, 0, none⟩) n0 c0 (.slice A1 n1 c1) (.slice A2 n2 c2) W0 hin
    have HF : Hid (Pl.pstep p ⟨5, kk⟩ = (p, false)) := Lib.hid (by rw [HP.out, if_neg (fun hh => hin ⟨hh.1, by have := hh.2; have := HN0.out; omega⟩)])
    clear hin
    go_upto_region 5 with ((go_at_call 69); ((with_reducible refine CW.mono ?_)); (clear CW); (rintro e wn ⟨rfl, hbn⟩); ((replace HS := Lib.hid (HS.out.step hbn))); (clear hbn); ((clear s0 s1 b0 b1 b2)); ((have s0 := HS.out.cell (k := 0) 1 rfl rfl); (have s1 := HS.out.cell (k := 1) 1 rfl rfl); (have b0 := HS.out.cell (k := 0) 2 rfl rfl); (have b1 := HS.out.cell (k := 1) 2 rfl rfl); (have b2 := HS.out.cell (k := 2) 2 rfl rfl)))
    have r0 := HS.out.cell (k := 0) 0 rfl rfl
    have r1 := HS.out.cell (k := 1) 0 rfl rfl
    have r2 := HS.out.cell (k := 2) 0 rfl rfl
    have z0 := HS.out.frz (k := 0) 0 rfl
    have z1 := HS.out.frz (k := 1) 0 rfl
    have z2 := HS.out.frz (k := 2) 0 rfl
    go_wp2
    have HSF := Lib.hid (((HS.out.setBlk (k := 0) 0 rfl (.slice (some ⟨g0, 0, none⟩) n0 c0)).setBlk (k := 1) 0 rfl (.slice A1 n1 c1)).setBlk (k := 2) 0 rfl (.slice A2 n2 c2))
    have u0 := HSF.out.cell (k := 0) 0 rfl rfl
    have u1 := HSF.out.cell (k := 1) 0 rfl rfl
    have u2 := HSF.out.cell (k := 2) 0 rfl rfl
    exact bodyPost_ret (v := .tuple #[.agg #[(.slice (some ⟨g0, 0, none⟩) n0 c0), (.slice A1 n1 c1), (.slice A2 n2 c2)], .bool false]) (by simp [results, Try.results49, go_sem, u0, u1, u2]) rfl ⟨[(.slice (some ⟨g0, 0, none⟩) n0 c0), (.slice A1 n1 c1), (.slice A2 n2 c2)], _, by rw [HF.out], by rw [HF.out]; exact (shutv_Poll (x := p) (HSF.out.sel [3, 4, 5] (by decide) rfl)).left⟩
  have CW := l8NodeIn_c kk (some ⟨g0, 0, none⟩) n0 c0 (.slice A1 n1 c1) (.slice A2 n2 c2) W0 hin
  obtain ⟨k, rfl⟩ : ∃ k : Nat, kk = k := ⟨kk.toNat, by omega⟩
  have hk : k < p.Nodes.length := by have := HN0.out; omega
  have HK := Lib.hid hk
  have hkn : (k : Int) < (n0 : Nat) := by omega
  have hk0 : (0 : Int) ≤ (k : Nat) := by omega
  have hkt : ((k : Nat) : Int).toNat = k := by omega
  have hx := HW.out.at_ (k := (k : Int)) (by omega) (by omega)
  rw [hkt] at hx
  obtain ⟨nd, hnd'⟩ : ∃ nd, Pl.nodeAt p (k : Int) = nd := ⟨_, rfl⟩
  rw [hnd'] at hx
  have HX := Lib.hid hx
  have HF : Hid (Pl.pstep p ⟨5, (k : Int)⟩ = (Pl.setNode p (k : Int) ⟨nd.Term, nd.Voted, nd.Age, [], 0⟩, true)) := Lib.hid (by
    rw [HP.out, if_pos ⟨by omega, by have := HK.out; show (k : Int) < _; omega⟩]
    unfold Pl.pstop
    rw [hnd'])
  clear hin hk hx hnd'
  go_upto_region 8 with ((go_at_call 69); ((with_reducible refine CW.mono ?_)); (clear CW); (rintro e wn ⟨rfl, hbn⟩); ((replace HS := Lib.hid (HS.out.step hbn))); (clear hbn); ((clear s0 s1 b0 b1 b2)); ((have s0 := HS.out.cell (k := 0) 1 rfl rfl); (have s1 := HS.out.cell (k := 1) 1 rfl rfl); (have b0 := HS.out.cell (k := 0) 2 rfl rfl); (have b1 := HS.out.cell (k := 1) 2 rfl rfl); (have b2 := HS.out.cell (k := 2) 2 rfl rfl)))
  obtain ⟨A3, m3, d3, e0, e1, e2, e3, e4, -, -, -, -, -⟩ := node_cells (HS.out.sl 3 rfl) (HS.out.ndat (i := 3) rfl) HX.out
  have y3 := (HS.out.sl 3 rfl).frozen (k * 5 + 3)
  have y4 := (HS.out.sl 3 rfl).frozen (k * 5 + 4)
  have hx1 : ∀ y : Node, (p.Nodes.set k y)[k]? = some y := fun y => List.getElem?_set_self HK.out
  have ha := HS.out.nodeNum (k := k) (m := 4) (v := 0) 3 rfl HX.out (by omega) (fun cs fx hh => rNode_set4 hh (by unfold Mm.I64; omega))
  simp only [List.set_cons_succ, List.set_cons_zero, List.set_set] at ha
  obtain ⟨A5, m5, d5, fx5, -, -, -, -, -, hnext⟩ := ha.nodeHeard 3 rfl (hx1 _)
  obtain ⟨fp1, hd⟩ := hnext _ [] none 0 0 [] (((Mm.SepF.start _).add (Below.refl _ _) (t := Mm.tsl Mm.int 3 [] (.slice none 0 0) []) Mm.SlOwn.nil List.nodup_nil (fun b hb => by cases hb)).widen)
  simp only [List.set_cons_succ, List.set_cons_zero, List.set_set] at hd
  have HD := Lib.hid hd
  clear ha hnext hd hx1
  go_upto_region 10 with fail
  clear s0 s1 b0 b1 b2
  clear e0 e1 e2 e3 e4 y3 y4 HS
  obtain ⟨W5, hW5⟩ : ∃ V, (wn.setCell ⟨g0, k * 5 + 4, none⟩ (.int .i64 0)).setCell ⟨g0, k * 5 + 3, none⟩ (.slice none 0 0) = V := ⟨_, rfl⟩
  rw [hW5] at HD ⊢
  clear hW5
  have HS := HD
  clear HD
  have s0 := HS.out.cell (k := 0) 1 rfl rfl
  have s1 := HS.out.cell (k := 1) 1 rfl rfl
  have b0 := HS.out.cell (k := 0) 2 rfl rfl
  have b1 := HS.out.cell (k := 1) 2 rfl rfl
  have b2 := HS.out.cell (k := 2) 2 rfl rfl
  have r0 := HS.out.cell (k := 0) 0 rfl rfl
  have r1 := HS.out.cell (k := 1) 0 rfl rfl
  have r2 := HS.out.cell (k := 2) 0 rfl rfl
  have z0 := HS.out.frz (k := 0) 0 rfl
  have z1 := HS.out.frz (k := 1) 0 rfl
  have z2 := HS.out.frz (k := 2) 0 rfl
  go_wp2
  have HSF := Lib.hid (((HS.out.setBlk (k := 0) 0 rfl (.slice (some ⟨g0, 0, none⟩) n0 c0)).setBlk (k := 1) 0 rfl (.slice A1 n1 c1)).setBlk (k := 2) 0 rfl (.slice A2 n2 c2))
  have u0 := HSF.out.cell (k := 0) 0 rfl rfl
  have u1 := HSF.out.cell (k := 1) 0 rfl rfl
  have u2 := HSF.out.cell (k := 2) 0 rfl rfl
  exact bodyPost_ret (v := .tuple #[.agg #[(.slice (some ⟨g0, 0, none⟩) n0 c0), (.slice A1 n1 c1), (.slice A2 n2 c2)], .bool true]) (by simp [results, Try.results49, go_sem, u0, u1, u2]) rfl ⟨[(.slice (some ⟨g0, 0, none⟩) n0 c0), (.slice A1 n1 c1), (.slice A2 n2 c2)], _, by rw [HF.out], by rw [HF.out]; exact (shutv_Poll (x := Pl.setNode p (k : Int) ⟨nd.Term, nd.Voted, nd.Age, [], 0⟩) (by have h := HSF.out.sel [3, 4, 5] (by decide) rfl; unfold Pl.setNode; rw [hkt]; exact h)).left⟩
set_option maxRecDepth 100000 in
set_option maxHeartbeats 4000000 in
theorem l8StepNone_c (p : Poll) (kd kk : Int) (cs : List Value) (fp : List Nat) (w : World) (h : (Mm.tow rPoll p cs fp).holds w) (hnd : fp.Nodup) (hw : Pl.PW p) (h1 : kd < 1 ∨ 5 < kd) :
    Calls Try.prog 49 #[.agg cs.toArray, .agg #[.int .i64 kd, .int .i64 kk]] w (PVA2 (Pl.pstep p ⟨kd, kk⟩) fp w) := by
  have HF : Hid (Pl.pstep p ⟨kd, kk⟩ = (p, false)) := Lib.hid (by
    unfold Pl.pstep
    rw [if_neg (show ¬ kd = 1 by omega), if_neg (show ¬ kd = 5 by omega), if_neg (show ¬ kd = 2 by omega), if_neg (show ¬ kd = 3 by omega), if_neg (show ¬ kd = 4 by omega)])
  have g1 : (kd == 1) = false := by simp; omega
  have g5 : (kd == 5) = false := by simp; omega
  have g2 : (kd == 2) = false := by simp; omega
  have g3 : (kd == 3) = false := by simp; omega
  have g4 : (kd == 4) = false := by simp; omega
  clear h1
  obtain ⟨A0, n0, c0, A1, n1, c1, A2, n2, c2, f0, f1, f2, rfl, rfl, hs⟩ := openv_Poll (Mm.SepF.one _ w h hnd)
  obtain ⟨g0, rfl, -, -⟩ := Mm.sl_addr (hs.sl 0 rfl) (by have := hw.n1; omega)
  have hln0 : n0 = p.Nodes.length := by obtain ⟨A', n', c', hv, h1, _⟩ := (hs.sl 0 rfl).form; injection hv with _ h2 _; omega
  have hln1 : n1 = p.Letters.length := by obtain ⟨A', n', c', hv, h1, _⟩ := (hs.sl 1 rfl).form; injection hv with _ h2 _; omega
  have hn5 := hw.n5
  have hl60 := hw.lets
  have hn05 : n0 ≤ 5 := by omega
  have hn160 : n1 ≤ 60 := by omega
  obtain ⟨ga, hga⟩ : ∃ g, w.heap.size = g := ⟨_, rfl⟩
  obtain ⟨gs, hgs⟩ : ∃ g, ga + 1 = g := ⟨_, rfl⟩
  obtain ⟨gc, hgc⟩ : ∃ g, gs + 1 = g := ⟨_, rfl⟩
  obtain ⟨W0, hW0⟩ : ∃ W, ((w.alloc (.cells #[.slice (some ⟨g0, 0, none⟩) n0 c0, .slice A1 n1 c1, .slice A2 n2 c2] 31)).alloc (.cells #[.int .i64 kd, .int .i64 kk] 56)).alloc (.cells #[.slice none 0 0, .slice none 0 0, .slice none 0 0] 31) = W := ⟨_, rfl⟩
  have HS := Lib.hid ((((hs.alloc' hga 31 [.slice (some ⟨g0, 0, none⟩) n0 c0, .slice A1 n1 c1, .slice A2 n2 c2]).alloc' (g := gs) (by rw [Mm.sz1, hga, hgs]) 56 [.int .i64 kd, .int .i64 kk]).alloc' (g := gc) (by rw [Mm.sz2, hga]; omega) 31 zPoll).atW hW0)
  have HW := Lib.hid hw
  have HN0 := Lib.hid hln0
  have HN1 := Lib.hid hln1
  clear h hs hnd hw hln0 hln1
  go_enter Try.func49, Try.ntmps49
  go_upto_region 1 with fail
  clear hW0 hga hgs hgc
  have s0 := HS.out.cell (k := 0) 1 rfl rfl
  have s1 := HS.out.cell (k := 1) 1 rfl rfl
  have b0 := HS.out.cell (k := 0) 2 rfl rfl
  have b1 := HS.out.cell (k := 1) 2 rfl rfl
  have b2 := HS.out.cell (k := 2) 2 rfl rfl
  have r0 := HS.out.cell (k := 0) 0 rfl rfl
  have r1 := HS.out.cell (k := 1) 0 rfl rfl
  have r2 := HS.out.cell (k := 2) 0 rfl rfl
  have z0 := HS.out.frz (k := 0) 0 rfl
  have z1 := HS.out.frz (k := 1) 0 rfl
  have z2 := HS.out.frz (k := 2) 0 rfl
  go_wp2
  have HSF := Lib.hid (((HS.out.setBlk (k := 0) 0 rfl (.slice (some ⟨g0, 0, none⟩) n0 c0)).setBlk (k := 1) 0 rfl (.slice A1 n1 c1)).setBlk (k := 2) 0 rfl (.slice A2 n2 c2))
  have u0 := HSF.out.cell (k := 0) 0 rfl rfl
  have u1 := HSF.out.cell (k := 1) 0 rfl rfl
  have u2 := HSF.out.cell (k := 2) 0 rfl rfl
  exact bodyPost_ret (v := .tuple #[.agg #[(.slice (some ⟨g0, 0, none⟩) n0 c0), (.slice A1 n1 c1), (.slice A2 n2 c2)], .bool false]) (by simp [results, Try.results49, go_sem, u0, u1, u2]) rfl ⟨[(.slice (some ⟨g0, 0, none⟩) n0 c0), (.slice A1 n1 c1), (.slice A2 n2 c2)], _, by rw [HF.out], by rw [HF.out]; exact (shutv_Poll (x := p) (HSF.out.sel [3, 4, 5] (by decide) rfl)).left⟩
end Go.Proofs.Ytkhchfbpmmiopaa

/-
  Contracts on sketches: the functions that only read. No conditions.
-/
namespace Go.Proofs.Ytkhchfbpmmiopaa
open Go.RowKit
attribute [local go_sem] und_cell World.cell?_alloc_some
theorem l1All_c (l : List Int) (A : Option Addr) (n c : Nat) (a b : Int) (w : World) (B : Nat) (hl : Mm.SlAt Mm.int w B l A n c) :
    Calls Try.prog 76 #[.slice A n c, .int .i64 a, .int .i64 b] w fun e w' => e = .returned (.bool (Pl.allIn a b l)) ∧ w = w' := by
  have hlen : Hid (l.length = n) := hl.1
  have hn : n ≤ 9223372036854775807 := by have := hl.2.1; have := hl.2.2.1; unfold maxLen at this; omega
  have HL : Hid (Mm.SlAt Mm.int w B l A n c) := hl
  clear hl
  go_enter Try.func76, Try.ntmps76
  go_wp2
  go_loop [8, 11] (fun _ i => ∃ k : Nat, k ≤ n ∧ i = .int .i64 k ∧ Hid (Pl.upTo (fun x => Pl.isIn x a b) l k)) (fun _ i => n - (intOf i).toNat)
  case atStart => exact ⟨0, Nat.zero_le _, rfl, Pl.upTo0⟩
  case round =>
    obtain ⟨k, hk, rfl, HU⟩ := hrel
    by_cases hlt : k < n
    · obtain ⟨x, b0, off, hx, rfl, hb, b1, c1⟩ := int_get HL.out hlt
      have HX := Lib.hid hx
      clear hx
      cases hs : Pl.isIn x a b
      · go_wp2_with (go_at_call 67; refine (l1In_c _ _ _ _).mono ?_; rintro e w' ⟨rfl, rfl⟩)
        go_ret
        exact ⟨ret_bool (Pl.upToB HX.out hs).symm, rfl⟩
      · go_wp2_with (go_at_call 67; refine (l1In_c _ _ _ _).mono ?_; rintro e w' ⟨rfl, rfl⟩)
        go_round
        case rel => exact ⟨k + 1, by omega, by go_num, Pl.upTo1 HU.out HX.out hs⟩
        case measure => simp [intOf]; omega
    · go_wp2
      go_ret
      exact ⟨ret_bool (Pl.upToE HU.out (by rw [hlen.out]; omega)).symm, rfl⟩
end Go.Proofs.Ytkhchfbpmmiopaa

/-
  Contracts: new elections, both sides; the reference's copy (chapter 8). No conditions beyond those named.
-/
namespace Go.Proofs.Ytkhchfbpmmiopaa
open Go.RowKit
attribute [local go_sem] und_cell cha_cell World.cell?_alloc_some
theorem Try.infoNode : (Try.prog.info? 42).map (fun i => (i.zero, i.size, i.bytes)) = some (some (.agg #[.int .i64 0, .int .i64 0, .int .i64 0, .slice none 0 0, .int .i64 0]), 5, 56) := by kernel_rfl
theorem Try.infoIntP : (Try.prog.info? 3).map (fun i => (i.zero, i.size, i.bytes)) = some (some (.int .i64 0), 1, 8) := by kernel_rfl
def Pl.ageOk (a : Int) : Bool := Pl.isIn a 0 9
def Pl.agesOk (l : List Int) : Bool := Pl.isIn l.length 1 5 && l.all Pl.ageOk
def Pl.zPo : Poll := ⟨[], [], []⟩
def Pl.newPoll (l : List Int) : Poll × Bool := if Pl.agesOk l = true then (Pl.newPo l, true) else (Pl.zPo, false)
theorem Pl.agesOk_book {l : List Int} (h : Pl.agesOk l = true) : ∃ V, Pl.PBook V (Pl.newPo l) := by
  unfold Pl.agesOk at h
  rw [Bool.and_eq_true, List.all_eq_true] at h
  have h1 := Pl.isIn_iff.1 h.1
  exact ⟨_, Pl.newPo_book (by omega) (by omega) (fun a ha => Pl.isIn_iff.1 (h.2 a ha))⟩
theorem Pl.any_snoc {α : Type} {p : α → Bool} {l : List α} {k : Nat} {x : α} (h : l[k]? = some x) : (l.take (k + 1)).any p = ((l.take k).any p || p x) := by
  rw [Mm.take_succ_some h, List.any_append]; simp
theorem Pl.newPo_take {l : List Int} {k : Nat} {x : Int} (h : l[k]? = some x) : (Pl.newPo (l.take (k + 1))).Nodes = (Pl.newPo (l.take k)).Nodes ++ [⟨0, -1, x, [], 0⟩] := by
  unfold Pl.newPo
  rw [Mm.take_succ_some h, List.map_append]; rfl
theorem zPo_own {w : World} : rPoll.own w Pl.zPo zPoll [] := rPoll_own_mk (x := Pl.zPo) (f0 := []) (f1 := []) (f2 := []) Mm.SlOwn.nil Mm.SlOwn.nil Mm.SlOwn.nil
theorem poll_ret {w wr : World} {x : Poll} {cs : List Value} {fp : List Nat} {ts : List Mm.Thing} (h : Mm.SepF [] w wr (Mm.tow rPoll x cs fp :: ts)) : Mm.NewAg rPoll w x (.returned (.agg cs.toArray)) wr :=
  ⟨cs, fp, rfl, h.at_ 0 rfl, h.ndat (i := 0) rfl, fun b hb => (h.new b (Mm.SepF.mem (i := 0) rfl hb)).resolve_left (fun h => by cases h), h.bel0⟩
theorem poll_ret2 {w wr : World} {x : Poll} {b : Bool} {cs : List Value} {fp : List Nat} {ts : List Mm.Thing} (h : Mm.SepF [] w wr (Mm.tow rPoll x cs fp :: ts)) : Mm.Ret2 rPoll w x b (.returned (.tuple #[.agg cs.toArray, .bool b])) wr :=
  ⟨cs, fp, rfl, h.at_ 0 rfl, h.ndat (i := 0) rfl, fun b hb => (h.new b (Mm.SepF.mem (i := 0) rfl hb)).resolve_left (fun h => by cases h), h.bel0⟩
theorem zPo_ret2 {w w' : World} (h : Below w.heap.size w w') : Mm.Ret2 rPoll w Pl.zPo false (.returned (.tuple #[.agg zPoll.toArray, .bool false])) w' :=
  ⟨zPoll, [], rfl, zPo_own, List.nodup_nil, (fun b hb => by cases hb), h⟩
set_option maxRecDepth 100000 in
set_option maxHeartbeats 1000000 in
theorem newPoll_c (ages : List Int) (A : Option Addr) (n c : Nat) (w : World) (B : Nat) (hl : Mm.SlAt Mm.int w B ages A n c) (hB : B ≤ w.heap.size) (hn : n ≤ 5) : Calls Try.prog 47 #[.slice A n c] w (Mm.NewAg rPoll w (Pl.newPo ages)) := by
  have HL := Lib.hid hl
  clear hl
  obtain ⟨gz, hgz⟩ : ∃ g, w.heap.size = g := ⟨_, rfl⟩
  obtain ⟨gp, hgp⟩ : ∃ g, gz + 1 = g := ⟨_, rfl⟩
  obtain ⟨i0, hi, hz0, hz1, hz2⟩ := info_parts Try.infoNode
  have KS2 := Lib.hid ((((Mm.SepF.start w).alloc' hgz 31 zPoll).alloc' (g := gp) (by rw [Mm.sz1, hgz, hgp]) 31 zPoll).add (Below.refl _ _) (t := Mm.tsl rNode 42 [] (.slice none 0 0) []) Mm.SlOwn.nil List.nodup_nil (fun b hb => by cases hb))
  go_enter Try.func47, Try.ntmps47
  go_wp2
  clear hgz hgp
  go_loopg [8] n (fun g i wr => ∃ (k : Nat) (A' : Option Addr) (c' : Nat) (fp : List Nat), n - k ≤ g ∧ k ≤ n ∧ i = .int .i64 k ∧ Hid (Mm.SepF [] w wr [Mm.tsl rNode 42 (Pl.newPo (ages.take k)).Nodes (.slice A' k c') fp, Mm.tblk gp 31 [.slice A' k c', .slice none 0 0, .slice none 0 0], Mm.tblk gz 31 zPoll]))
  case atStart => exact ⟨0, none, 0, [], Nat.le_refl _, Nat.zero_le _, rfl, KS2.out⟩
  case round =>
    obtain ⟨k, A', c', fp, hgk, hk', rfl, HS⟩ := hrel
    clear KS2
    by_cases hlt : k < n
    · obtain ⟨x, b0', off, hx, rfl, hb, ix, e0⟩ := int_get (HL.out.keep (w' := wr) fun b hb => HS.out.bel0.block b (by omega)) hlt
      have HN := Lib.hid (Pl.newPo_take hx)
      have HIX := Lib.hid ix
      have hlk : (Pl.newPo (ages.take k)).Nodes.length = k := by unfold Pl.newPo; rw [List.length_map, List.length_take]; have := HL.out.1; omega
      have HLK := Lib.hid hlk
      have f1 : ((k : Nat) : Int) < (n : Nat) := by omega
      have d0 := HS.out.cell (k := 0) 1 rfl rfl
      have z0 := HS.out.frz (k := 0) 1 rfl
      clear hx ix hlk
      go_upto_region 6 with (at_builtin; refine Mm.app_list (x := (⟨0, -1, x, [], 0⟩ : Node)) HS.out 0 rfl rfl (.tmp 13) (.tmp 16) 27 rfl i0 _ 56 Try.underlying27 hi hz0 hz1 hz2 rfl (by decide) rfl rfl (fun W => rNode_own_mk (x := ⟨0, -1, x, [], 0⟩) (by unfold Mm.I64; show _ ≤ (0:Int) ∧ (0:Int) ≤ _; omega) (by unfold Mm.I64; show _ ≤ (-1:Int) ∧ (-1:Int) ≤ _; omega) HIX.out Mm.SlOwn.nil (by unfold Mm.I64; show _ ≤ (0:Int) ∧ (0:Int) ≤ _; omega)) HLK.out (by unfold maxLen; omega) (by omega) ?_; intro gg cap w4 fp4 hs4; (have HS4 := Lib.hid hs4); clear d0 z0; (have d0 := HS4.out.cell (k := 0) 1 rfl rfl); (have z0 := HS4.out.frz (k := 0) 1 rfl); clear hs4)
      go_wp2
      go_roundg (n - (k + 1))
      case measure => omega
      case rel => exact ⟨k + 1, _, cap, fp4, Nat.le_refl _, by omega, by go_num, by rw [HN.out]; exact HS4.out.setBlk (k := 0) 1 rfl _⟩
    · obtain rfl : k = n := by omega
      have HE : Hid (ages.take k = ages) := Lib.hid (List.take_of_length_le (by have := HL.out.1; omega))
      rw [HE.out] at HS
      have f1 : ¬ ((k : Nat) : Int) < (k : Nat) := by omega
      have b0 := HS.out.cell (k := 0) 1 rfl rfl
      have b1 := HS.out.cell (k := 1) 1 rfl rfl
      have b2 := HS.out.cell (k := 2) 1 rfl rfl
      have r0 := HS.out.cell (k := 0) 2 rfl rfl
      have r1 := HS.out.cell (k := 1) 2 rfl rfl
      have r2 := HS.out.cell (k := 2) 2 rfl rfl
      have z0 := HS.out.frz (k := 0) 2 rfl
      have z1 := HS.out.frz (k := 1) 2 rfl
      have z2 := HS.out.frz (k := 2) 2 rfl
      have HSF := Lib.hid (((HS.out.setBlk (k := 0) 2 rfl (.slice A' k c')).setBlk (k := 1) 2 rfl (.slice none 0 0)).setBlk (k := 2) 2 rfl (.slice none 0 0))
      have u0 := HSF.out.cell (k := 0) 2 rfl rfl
      have u1 := HSF.out.cell (k := 1) 2 rfl rfl
      have u2 := HSF.out.cell (k := 2) 2 rfl rfl
      have HFI := Lib.hid (shutv_Poll (x := Pl.newPo ages) (((HSF.out.addEnd (Below.refl _ _) (t := Mm.tsl rLetter 84 [] (.slice none 0 0) []) Mm.SlOwn.nil List.nodup_nil (fun b hb => by cases hb)).addEnd (Below.refl _ _) (t := Mm.tsl ints 23 [] (.slice none 0 0) []) Mm.SlOwn.nil List.nodup_nil (fun b hb => by cases hb)).sel [0, 3, 4] (by decide) rfl))
      go_wp2
      exact bodyPost_ret (v := .agg #[.slice A' k c', .slice none 0 0, .slice none 0 0]) (by simp [results, Try.results47, go_sem, u0, u1, u2]) rfl (poll_ret HFI.out)
set_option maxRecDepth 100000 in
set_option maxHeartbeats 1000000 in
theorem specNewPoll_c (ages : List Int) (A : Option Addr) (n c : Nat) (w : World) (B : Nat) (hl : Mm.SlAt Mm.int w B ages A n c) (hB : B ≤ w.heap.size) : Calls Try.prog 36 #[.slice A n c] w (Mm.Ret2 rPoll w (Pl.newPoll ages).1 (Pl.newPoll ages).2) := by
  have hlen := hl.1
  have hcap : n ≤ 9223372036854775807 := by have := hl.2.1; have := hl.2.2.1; unfold maxLen at this; omega
  have HL := Lib.hid hl
  have HOK : Hid (Pl.agesOk ages = (Pl.isIn (n : Int) 1 5 && Pl.allIn 0 9 ages)) := Lib.hid (by unfold Pl.agesOk; rw [hlen]; rfl)
  clear hl hlen
  cases h1 : Pl.isIn (n : Int) 1 5 with
  | false =>
    have HF : Hid (Pl.newPoll ages = (Pl.zPo, false)) := Lib.hid (if_neg (by rw [HOK.out, h1]; simp))
    go_enter Try.func36, Try.ntmps36
    go_wp2_with (go_at_call 67; (with_reducible refine (l1In_c _ _ _ _).mono ?_); rintro e w' ⟨rfl, rfl⟩)
    rw [HF.out]
    exact bodyPost_ret (v := .tuple #[.agg zPoll.toArray, .bool false]) (by simp [results, Try.results36, go_sem, zPoll]) rfl (zPo_ret2 (below_new (Below.refl _ _) _))
  | true =>
  have hn5 := Pl.isIn_iff.1 h1
  cases h2 : Pl.allIn 0 9 ages with
  | false =>
    have HF : Hid (Pl.newPoll ages = (Pl.zPo, false)) := Lib.hid (if_neg (by rw [HOK.out, h1, h2]; simp))
    go_enter Try.func36, Try.ntmps36
    go_wp2_with first
      | (go_at_call 67; (with_reducible refine (l1In_c _ _ _ _).mono ?_); rintro e w' ⟨rfl, rfl⟩)
      | (go_at_call 76; (with_reducible refine (l1All_c ages A n c _ _ _ _ (HL.out.keep fun b hb => (below_new (Below.refl w.heap.size w) _).block b (by omega))).mono ?_); rintro e w' ⟨rfl, rfl⟩)
    rw [HF.out]
    exact bodyPost_ret (v := .tuple #[.agg zPoll.toArray, .bool false]) (by simp [results, Try.results36, go_sem, zPoll]) rfl (zPo_ret2 (below_new (Below.refl _ _) _))
  | true =>
  have HF : Hid (Pl.newPoll ages = (Pl.newPo ages, true)) := Lib.hid (if_pos (by rw [HOK.out, h1, h2]; rfl))
  obtain ⟨gz, hgz⟩ : ∃ g, w.heap.size = g := ⟨_, rfl⟩
  obtain ⟨gp, hgp⟩ : ∃ g, gz + 1 = g := ⟨_, rfl⟩
  obtain ⟨i0, hi, hz0, hz1, hz2⟩ := info_parts Try.infoNode
  have KS2 := Lib.hid ((((Mm.SepF.start w).alloc' hgz 31 zPoll).alloc' (g := gp) (by rw [Mm.sz1, hgz, hgp]) 31 zPoll).add (Below.refl _ _) (t := Mm.tsl rNode 42 [] (.slice none 0 0) []) Mm.SlOwn.nil List.nodup_nil (fun b hb => by cases hb))
  go_enter Try.func36, Try.ntmps36
  go_wp2_with first
    | (go_at_call 67; (with_reducible refine (l1In_c _ _ _ _).mono ?_); rintro e w' ⟨rfl, rfl⟩)
    | (go_at_call 76; (with_reducible refine (l1All_c ages A n c _ _ _ _ (HL.out.keep fun b hb => (below_new (Below.refl w.heap.size w) _).block b (by omega))).mono ?_); rintro e w' ⟨rfl, rfl⟩)
  clear hgz hgp
  go_loopg [19] n (fun g i wr => ∃ (k : Nat) (A' : Option Addr) (c' : Nat) (fp : List Nat), n - k ≤ g ∧ k ≤ n ∧ i = .int .i64 k ∧ Hid (Mm.SepF [] w wr [Mm.tsl rNode 42 (Pl.newPo (ages.take k)).Nodes (.slice A' k c') fp, Mm.tblk gp 31 [.slice A' k c', .slice none 0 0, .slice none 0 0], Mm.tblk gz 31 zPoll]))
  case atStart => exact ⟨0, none, 0, [], Nat.le_refl _, Nat.zero_le _, rfl, KS2.out⟩
  case round =>
    obtain ⟨k, A', c', fp, hgk, hk', rfl, HS⟩ := hrel
    clear KS2
    by_cases hlt : k < n
    · obtain ⟨x, b0', off, hx, rfl, hb, ix, e0⟩ := int_get (HL.out.keep (w' := wr) fun b hb => HS.out.bel0.block b (by omega)) hlt
      have HN := Lib.hid (Pl.newPo_take hx)
      have HIX := Lib.hid ix
      have hlk : (Pl.newPo (ages.take k)).Nodes.length = k := by unfold Pl.newPo; rw [List.length_map, List.length_take]; have := HL.out.1; omega
      have HLK := Lib.hid hlk
      have f1 : ((k : Nat) : Int) < (n : Nat) := by omega
      have d0 := HS.out.cell (k := 0) 1 rfl rfl
      have z0 := HS.out.frz (k := 0) 1 rfl
      clear hx ix hlk
      go_upto_region 8 with (at_builtin; refine Mm.app_list (x := (⟨0, -1, x, [], 0⟩ : Node)) HS.out 0 rfl rfl (.tmp 24) (.tmp 27) 27 rfl i0 _ 56 Try.underlying27 hi hz0 hz1 hz2 rfl (by decide) rfl rfl (fun W => rNode_own_mk (x := ⟨0, -1, x, [], 0⟩) (by unfold Mm.I64; show _ ≤ (0:Int) ∧ (0:Int) ≤ _; omega) (by unfold Mm.I64; show _ ≤ (-1:Int) ∧ (-1:Int) ≤ _; omega) HIX.out Mm.SlOwn.nil (by unfold Mm.I64; show _ ≤ (0:Int) ∧ (0:Int) ≤ _; omega)) HLK.out (by unfold maxLen; omega) (by omega) ?_; intro gg cap w4 fp4 hs4; (have HS4 := Lib.hid hs4); clear d0 z0; (have d0 := HS4.out.cell (k := 0) 1 rfl rfl); (have z0 := HS4.out.frz (k := 0) 1 rfl); clear hs4)
      go_wp2
      go_roundg (n - (k + 1))
      case measure => omega
      case rel => exact ⟨k + 1, _, cap, fp4, Nat.le_refl _, by omega, by go_num, by rw [HN.out]; exact HS4.out.setBlk (k := 0) 1 rfl _⟩
    · obtain rfl : k = n := by omega
      have HE : Hid (ages.take k = ages) := Lib.hid (List.take_of_length_le (by have := HL.out.1; omega))
      rw [HE.out] at HS
      have f1 : ¬ ((k : Nat) : Int) < (k : Nat) := by omega
      have b0 := HS.out.cell (k := 0) 1 rfl rfl
      have b1 := HS.out.cell (k := 1) 1 rfl rfl
      have b2 := HS.out.cell (k := 2) 1 rfl rfl
      have r0 := HS.out.cell (k := 0) 2 rfl rfl
      have r1 := HS.out.cell (k := 1) 2 rfl rfl
      have r2 := HS.out.cell (k := 2) 2 rfl rfl
      have z0 := HS.out.frz (k := 0) 2 rfl
      have z1 := HS.out.frz (k := 1) 2 rfl
      have z2 := HS.out.frz (k := 2) 2 rfl
      have HSF := Lib.hid (((HS.out.setBlk (k := 0) 2 rfl (.slice A' k c')).setBlk (k := 1) 2 rfl (.slice none 0 0)).setBlk (k := 2) 2 rfl (.slice none 0 0))
      have u0 := HSF.out.cell (k := 0) 2 rfl rfl
      have u1 := HSF.out.cell (k := 1) 2 rfl rfl
      have u2 := HSF.out.cell (k := 2) 2 rfl rfl
      have HFI := Lib.hid (shutv_Poll (x := Pl.newPo ages) (((HSF.out.addEnd (Below.refl _ _) (t := Mm.tsl rLetter 84 [] (.slice none 0 0) []) Mm.SlOwn.nil List.nodup_nil (fun b hb => by cases hb)).addEnd (Below.refl _ _) (t := Mm.tsl ints 23 [] (.slice none 0 0) []) Mm.SlOwn.nil List.nodup_nil (fun b hb => by cases hb)).sel [0, 3, 4] (by decide) rfl))
      go_wp2
      rw [HF.out]
      exact bodyPost_ret (v := .tuple #[.agg #[.slice A' k c', .slice none 0 0, .slice none 0 0], .bool true]) (by simp [results, Try.results36, go_sem, u0, u1, u2]) rfl (poll_ret2 HFI.out)
theorem isAge_c (a : Int) (w : World) : Calls Try.prog 46 #[.int .i64 a] w fun e w' => e = .returned (.bool (Pl.ageOk a)) ∧ w = w' := by
  go_enter Try.func46, Try.ntmps46
  go_wp2_with (go_at_call 43; (with_reducible refine (within_c _ _ _ _).mono ?_); rintro e w' ⟨rfl, rfl⟩)
  go_ret
  exact ⟨rfl, rfl⟩
theorem agesPlay1_c (a : Int) (w : World) : Calls Try.prog 45 #[.int .i64 a] w fun e w' => e = .returned (.bool (!Pl.ageOk a)) ∧ Below w.heap.size w w' := by
  have C := isAge_c a w
  obtain ⟨b, hb⟩ : ∃ b, Pl.ageOk a = b := ⟨_, rfl⟩
  rw [hb] at C ⊢
  clear hb
  go_enter Try.func45, Try.ntmps45
  go_wp2_with (go_at_call 46; (with_reducible refine C.mono ?_); clear C; rintro e w1 ⟨rfl, rfl⟩)
  cases b <;> (go_ret; exact ⟨rfl, Below.refl _ _⟩)
set_option maxRecDepth 100000 in
set_option maxHeartbeats 1000000 in
theorem agesPlay2_c (l : List Int) (A : Option Addr) (n c : Nat) (w : World) (B : Nat) (hl : Mm.SlAt Mm.int w B l A n c) (hB : B ≤ w.heap.size) :
    Calls Try.prog 78 #[.slice A n c, .func (Fn.func 45) #[] #[]] w fun e w' => ∃ i : Int, e = .returned (.int .i64 i) ∧ decide (0 ≤ i) = l.any (fun x => !Pl.ageOk x) ∧ Below w.heap.size w w' := by
  have hn : n ≤ 9223372036854775807 := by have := hl.2.1; have := hl.2.2.1; unfold maxLen at this; omega
  have hlen : Hid (l.length = n) := hl.1
  have HL := Lib.hid hl
  clear hl
  go_enter Try.func78, Try.ntmps78
  go_wp2
  go_loopg [5, 8] n (fun g _ i wr => ∃ k : Nat, n - k ≤ g ∧ k ≤ n ∧ i = .int .i64 k ∧ Hid ((l.take k).any (fun x => !Pl.ageOk x) = false) ∧ Hid (Below w.heap.size w wr))
  case atStart => exact ⟨0, Nat.le_refl _, Nat.zero_le _, rfl, rfl, Below.refl _ _⟩
  case round =>
    obtain ⟨k, hgk, hk, rfl, HA, HB⟩ := hrel
    obtain ⟨W, rfl⟩ : ∃ W : World, W = wr := ⟨_, rfl⟩
    have hsz := HB.out.size
    by_cases hlt : k < n
    · (obtain ⟨x, b, off, hx, rfl, hb, ix, e0⟩ := int_get (HL.out.keep (w' := W) fun b hb => HB.out.block b (by omega)) hlt);(have C := agesPlay1_c x W);(clear ix)
      have HN : Hid ((l.take (k + 1)).any (fun x => !Pl.ageOk x) = ((l.take k).any (fun x => !Pl.ageOk x) || (fun x => !Pl.ageOk x) x)) := Lib.hid (Pl.any_snoc hx)
      have HX := Lib.hid hx
      have f1 : (k : Int) < (n : Nat) := by omega
      have f2 : (0 : Int) ≤ (k : Nat) := by omega
      have f3 : ((k : Nat) : Int).toNat = k := by omega
      clear hx
      obtain ⟨pb, hs⟩ : ∃ pb, (fun x => !Pl.ageOk x) x = pb := ⟨_, rfl⟩
      have hs2 : (!Pl.ageOk x) = pb := hs
      rw [hs2] at C
      clear hs2
      cases pb with
      | false =>
        rw [hs, HA.out] at HN
        clear hs
        go_wp2_with (go_at_call 45; (with_reducible refine C.mono ?_); clear C; rintro e w1 ⟨rfl, hb1⟩)
        go_roundg (n - (k + 1))
        case measure => omega
        case rel => exact ⟨k + 1, Nat.le_refl _, by omega, by go_num, HN.out, below_step HB.out hb1⟩
      | true =>
        have HF : Hid (l.any (fun x => !Pl.ageOk x) = true) := Lib.hid (List.any_eq_true.2 ⟨x, List.mem_of_getElem? HX.out, hs⟩)
        clear hs
        go_wp2_with (go_at_call 45; (with_reducible refine C.mono ?_); clear C; rintro e w1 ⟨rfl, hb1⟩)
        go_ret
        exact ⟨k, rfl, by rw [HF.out]; exact decide_eq_true (by omega), below_step HB.out hb1⟩
    · have HF : Hid (l.any (fun x => !Pl.ageOk x) = false) := Lib.hid (by rw [← List.take_of_length_le (show l.length ≤ k by rw [hlen.out]; omega)]; exact HA.out)
      have f1 : ¬ (k : Int) < (n : Nat) := by omega
      go_wp2
      go_ret
      exact ⟨-1, rfl, by rw [HF.out]; rfl, HB.out⟩
set_option maxRecDepth 100000 in
theorem agesPlay_c (l : List Int) (A : Option Addr) (n c : Nat) (w : World) (B : Nat) (hl : Mm.SlAt Mm.int w B l A n c) (hB : B ≤ w.heap.size) :
    Calls Try.prog 44 #[.slice A n c, .func (Fn.func 45) #[] #[]] w fun e w' => e = .returned (.bool (l.any (fun x => !Pl.ageOk x))) ∧ Below w.heap.size w w' := by
  have C := agesPlay2_c l A n c w B hl hB
  clear hl
  obtain ⟨b, hb⟩ : ∃ b, l.any (fun x => !Pl.ageOk x) = b := ⟨_, rfl⟩
  rw [hb] at C ⊢
  clear hb
  cases b with
  | false =>
    go_enter Try.func44, Try.ntmps44
    go_wp2_with (go_at_call 78; (with_reducible refine C.mono ?_); clear C; rintro e w1 ⟨i, rfl, hi, hb1⟩)
    go_ret
    exact ⟨rfl, hb1⟩
  | true =>
    go_enter Try.func44, Try.ntmps44
    go_wp2_with (go_at_call 78; (with_reducible refine C.mono ?_); clear C; rintro e w1 ⟨i, rfl, hi, hb1⟩)
    go_ret
    exact ⟨rfl, hb1⟩
theorem agesNew1_c (a : Int) (w : World) : Calls Try.prog 75 #[.int .i64 a] w fun e w' => e = .returned (.bool (!Pl.ageOk a)) ∧ Below w.heap.size w w' := by
  have C := isAge_c a w
  obtain ⟨b, hb⟩ : ∃ b, Pl.ageOk a = b := ⟨_, rfl⟩
  rw [hb] at C ⊢
  clear hb
  go_enter Try.func75, Try.ntmps75
  go_wp2_with (go_at_call 46; (with_reducible refine C.mono ?_); clear C; rintro e w1 ⟨rfl, rfl⟩)
  cases b <;> (go_ret; exact ⟨rfl, Below.refl _ _⟩)
set_option maxRecDepth 100000 in
set_option maxHeartbeats 1000000 in
theorem agesNew2_c (l : List Int) (A : Option Addr) (n c : Nat) (w : World) (B : Nat) (hl : Mm.SlAt Mm.int w B l A n c) (hB : B ≤ w.heap.size) :
    Calls Try.prog 78 #[.slice A n c, .func (Fn.func 75) #[] #[]] w fun e w' => ∃ i : Int, e = .returned (.int .i64 i) ∧ decide (0 ≤ i) = l.any (fun x => !Pl.ageOk x) ∧ Below w.heap.size w w' := by
  have hn : n ≤ 9223372036854775807 := by have := hl.2.1; have := hl.2.2.1; unfold maxLen at this; omega
  have hlen : Hid (l.length = n) := hl.1
  have HL := Lib.hid hl
  clear hl
  go_enter Try.func78, Try.ntmps78
  go_wp2
  go_loopg [5, 8] n (fun g _ i wr => ∃ k : Nat, n - k ≤ g ∧ k ≤ n ∧ i = .int .i64 k ∧ Hid ((l.take k).any (fun x => !Pl.ageOk x) = false) ∧ Hid (Below w.heap.size w wr))
  case atStart => exact ⟨0, Nat.le_refl _, Nat.zero_le _, rfl, rfl, Below.refl _ _⟩
  case round =>
    obtain ⟨k, hgk, hk, rfl, HA, HB⟩ := hrel
    obtain ⟨W, rfl⟩ : ∃ W : World, W = wr := ⟨_, rfl⟩
    have hsz := HB.out.size
    by_cases hlt : k < n
    · (obtain ⟨x, b, off, hx, rfl, hb, ix, e0⟩ := int_get (HL.out.keep (w' := W) fun b hb => HB.out.block b (by omega)) hlt);(have C := agesNew1_c x W);(clear ix)
      have HN : Hid ((l.take (k + 1)).any (fun x => !Pl.ageOk x) = ((l.take k).any (fun x => !Pl.ageOk x) || (fun x => !Pl.ageOk x) x)) := Lib.hid (Pl.any_snoc hx)
      have HX := Lib.hid hx
      have f1 : (k : Int) < (n : Nat) := by omega
      have f2 : (0 : Int) ≤ (k : Nat) := by omega
      have f3 : ((k : Nat) : Int).toNat = k := by omega
      clear hx
      obtain ⟨pb, hs⟩ : ∃ pb, (fun x => !Pl.ageOk x) x = pb := ⟨_, rfl⟩
      have hs2 : (!Pl.ageOk x) = pb := hs
      rw [hs2] at C
      clear hs2
      cases pb with
      | false =>
        rw [hs, HA.out] at HN
        clear hs
        go_wp2_with (go_at_call 75; (with_reducible refine C.mono ?_); clear C; rintro e w1 ⟨rfl, hb1⟩)
        go_roundg (n - (k + 1))
        case measure => omega
        case rel => exact ⟨k + 1, Nat.le_refl _, by omega, by go_num, HN.out, below_step HB.out hb1⟩
      | true =>
        have HF : Hid (l.any (fun x => !Pl.ageOk x) = true) := Lib.hid (List.any_eq_true.2 ⟨x, List.mem_of_getElem? HX.out, hs⟩)
        clear hs
        go_wp2_with (go_at_call 75; (with_reducible refine C.mono ?_); clear C; rintro e w1 ⟨rfl, hb1⟩)
        go_ret
        exact ⟨k, rfl, by rw [HF.out]; exact decide_eq_true (by omega), below_step HB.out hb1⟩
    · have HF : Hid (l.any (fun x => !Pl.ageOk x) = false) := Lib.hid (by rw [← List.take_of_length_le (show l.length ≤ k by rw [hlen.out]; omega)]; exact HA.out)
      have f1 : ¬ (k : Int) < (n : Nat) := by omega
      go_wp2
      go_ret
      exact ⟨-1, rfl, by rw [HF.out]; rfl, HB.out⟩
set_option maxRecDepth 100000 in
theorem agesNew_c (l : List Int) (A : Option Addr) (n c : Nat) (w : World) (B : Nat) (hl : Mm.SlAt Mm.int w B l A n c) (hB : B ≤ w.heap.size) :
    Calls Try.prog 44 #[.slice A n c, .func (Fn.func 75) #[] #[]] w fun e w' => e = .returned (.bool (l.any (fun x => !Pl.ageOk x))) ∧ Below w.heap.size w w' := by
  have C := agesNew2_c l A n c w B hl hB
  clear hl
  obtain ⟨b, hb⟩ : ∃ b, l.any (fun x => !Pl.ageOk x) = b := ⟨_, rfl⟩
  rw [hb] at C ⊢
  clear hb
  cases b with
  | false =>
    go_enter Try.func44, Try.ntmps44
    go_wp2_with (go_at_call 78; (with_reducible refine C.mono ?_); clear C; rintro e w1 ⟨i, rfl, hi, hb1⟩)
    go_ret
    exact ⟨rfl, hb1⟩
  | true =>
    go_enter Try.func44, Try.ntmps44
    go_wp2_with (go_at_call 78; (with_reducible refine C.mono ?_); clear C; rintro e w1 ⟨i, rfl, hi, hb1⟩)
    go_ret
    exact ⟨rfl, hb1⟩
theorem Pl.ages_any (l : List Int) : l.any (fun x => !Pl.ageOk x) = !l.all Pl.ageOk := by rw [List.all_eq_not_any_not, Bool.not_not]
end Go.Proofs.Ytkhchfbpmmiopaa
