/-
  Joined texts, in build order: V5, V8, V9, Va, Vb, V6. Each part says what it proves; no conditions beyond those that a part names.
-/
import Derived.Test.YtkhchfbpmmiopaaZ04
import Derived.Deep.DeepCutAuto
/-
  Contracts: a letter is delivered (chapter 8). No conditions beyond those named.
-/
namespace Go.Proofs.Ytkhchfbpmmiopaa
open Go.RowKit
attribute [local go_sem] und_cell cha_cell World.cell?_alloc_some
theorem Pl.pnews_shape (p : Poll) (x : Letter) : (Pl.pnews p x).Letters = p.Letters ∧ (Pl.pnews p x).Leaders = p.Leaders ∧ (Pl.pnews p x).Nodes.length = p.Nodes.length := by
  unfold Pl.pnews
  split
  · exact ⟨rfl, rfl, Pl.set_len _ _ _⟩
  · exact ⟨rfl, rfl, rfl⟩
theorem Pl.PW.news {p : Poll} (h : PW p) {x : Letter} (hx : LetOk p.Nodes.length x) : PW (Pl.pnews p x) ∧ x.Term ≤ (nodeAt (pnews p x) x.To).Term := by
  have hn := h.nok hx.dst.1 hx.dst.2
  unfold Pl.pnews
  split
  · refine ⟨h.set ⟨by show 0 ≤ x.Term ∧ x.Term ≤ 200; have := hx.term; omega, by show (-1 : Int) ≤ -1 ∧ (-1 : Int) ≤ _; omega, hn.age, List.Pairwise.nil, (fun i hi => by cases hi), ⟨show (0:Int) ≤ 0 by omega, show (0:Int) ≤ 2 by omega⟩, fun _ => rfl⟩, ?_⟩
    rw [nodeAt_set (by have := hx.dst; omega) hx.dst.1 hx.dst.1, if_pos rfl]
    exact Int.le_refl _
  · exact ⟨h, by omega⟩
theorem Pl.putI_has : ∀ (l : List Int) (k : Int), l.Pairwise (· < ·) → k ∈ l → Pl.putI l k = l
  | [], k, _, h => by cases h
  | x :: t, k, hp, h => by
    have h2 := List.pairwise_cons.1 hp
    by_cases hx : x < k
    · have hk : k ∈ t := by
        rcases List.mem_cons.1 h with rfl | h
        · omega
        · exact h
      have ih := putI_has t k h2.2 hk
      unfold Pl.putI at ih ⊢
      rw [List.filter_cons_of_pos (by simpa using hx), List.filter_cons_of_neg (by simp; omega), List.cons_append, ih]
    · have hxk : x = k := by
        rcases List.mem_cons.1 h with h | h
        · exact h.symm
        · have := h2.1 k h; omega
      subst hxk
      unfold Pl.putI
      rw [List.filter_cons_of_neg (by simp), List.filter_cons_of_neg (by simp), List.filter_eq_nil_iff.2 (fun y hy => by have := h2.1 y hy; simp; omega), List.filter_eq_self.2 (fun y hy => by simpa using h2.1 y hy)]
      rfl
theorem Pl.PW.count {q : Poll} (h : Pl.PW q) {k : Int} {fr : Int} (k0 : 0 ≤ k) (k1 : k < q.Nodes.length) (hf : 0 ≤ fr ∧ fr < q.Nodes.length) (hr : (Pl.nodeAt q k).Role = 1) : Pl.PW (Pl.setNode q k (Pl.withHeard (Pl.nodeAt q k) (Pl.putI (Pl.nodeAt q k).Heard fr))) := by
  have hn := h.nok k0 k1
  refine h.set ⟨hn.term, hn.voted, hn.age, Pl.putI_sorted hn.heard _, fun i hi => ?_, hn.role, fun hh => by have : (Pl.nodeAt q k).Role = 0 := hh; omega⟩
  rcases Pl.mem_putI.1 hi with rfl | hi
  · exact hf
  · exact hn.hin i hi
set_option maxRecDepth 100000 in
set_option maxHeartbeats 4000000 in
theorem deliver_c (p : Poll) (m : Letter) (g : Nat) (fp : List Nat) (w : World) (h : (Mm.tptr rPoll 31 g p fp).holds w) (hnd : (g :: fp).Nodup) (hw : Pl.PW p) (hm : Pl.LetOk p.Nodes.length m) :
    Calls Try.prog 81 #[.pointer (some ⟨g, 0, none⟩), .agg #[.int .i64 m.From, .int .i64 m.To, .int .i64 m.Term, .bool m.Ask, .int .i64 m.Age]] w fun e w' => e = .returned (.tuple #[]) ∧ ∃ fp', Mm.Left (g :: fp) w w' (Mm.tptr rPoll 31 g (Pl.ptake p m) fp') := by
  have HMO := Lib.hid hm
  obtain ⟨fr, ds, tm, ask, ag⟩ := m
  obtain ⟨k, rfl⟩ : ∃ k : Nat, ds = k := ⟨ds.toNat, by have := hm.dst.1; dsimp only at this; omega⟩
  have hk : k < p.Nodes.length := by have := hm.dst.2; dsimp only at this; omega
  obtain ⟨A0, n0, c0, A1, n1, c1, A2, n2, c2, f0, f1, f2, rfl, hs⟩ := open_Poll (Mm.SepF.one _ w h hnd)
  obtain ⟨g0, rfl, -, -⟩ := Mm.sl_addr (hs.sl 1 rfl) (by omega)
  have hln0 : n0 = p.Nodes.length := by obtain ⟨A', n', c', hv, h1, _⟩ := (hs.sl 1 rfl).form; injection hv with _ h2 _; omega
  have hx := hw.at_ (k := (k : Int)) (by omega) (by omega)
  rw [show ((k : Nat) : Int).toNat = k by omega] at hx
  have hn5 := hw.n5
  have hn05 : n0 ≤ 5 := by omega
  obtain ⟨nd, hnd'⟩ : ∃ nd, Pl.nodeAt p (k : Int) = nd := ⟨_, rfl⟩
  rw [hnd'] at hx
  have HND := Lib.hid hnd'
  have HX := Lib.hid hx
  obtain ⟨gl, hgl⟩ : ∃ g, w.heap.size = g := ⟨_, rfl⟩
  obtain ⟨W0, hW0⟩ : ∃ W, w.alloc (.cells #[.int .i64 fr, .int .i64 k, .int .i64 tm, .bool ask, .int .i64 ag] 84) = W := ⟨_, rfl⟩
  have HS := Lib.hid ((hs.alloc' hgl 84 [.int .i64 fr, .int .i64 k, .int .i64 tm, .bool ask, .int .i64 ag]).atW hW0)
  have HW := Lib.hid hw
  have HKN := Lib.hid hk
  have hkn : (k : Int) < (n0 : Nat) := by omega
  have hk0 : (0 : Int) ≤ (k : Nat) := by omega
  have hkt : ((k : Nat) : Int).toNat = k := by omega
  have HN0 := Lib.hid hln0
  clear h hs hnd hx hnd' hw hk hln0 hm
  go_enter Try.func81, Try.ntmps81
  go_upto_region 1 with fail
  clear hW0 hgl
  obtain ⟨A3, m3, d3, e0, e1, e2, e3, e4, hrd, -, -, -, -⟩ := node_cells (HS.out.sl 2 rfl) (HS.out.ndat (i := 2) rfl) HX.out
  have b0 := HS.out.cell (k := 0) 1 rfl rfl
  have l0 := HS.out.cell (k := 0) 0 rfl rfl
  have l1 := HS.out.cell (k := 1) 0 rfl rfl
  have l2 := HS.out.cell (k := 2) 0 rfl rfl
  have l3 := HS.out.cell (k := 3) 0 rfl rfl
  have l4 := HS.out.cell (k := 4) 0 rfl rfl
  go_wp2
  refine wp_region_und (by kernel_rfl) (by kernel_rfl) ?_
  repeat (go_big_quiet_step ((first | fail)))
  refine wpQuiet_nil ?_
  intro X hX
  replace HS := Lib.hid (HS.out.step hX)
  clear e0 e1 e2 e3 e4 b0 l0 l1 l2 l3 l4 hrd
  obtain ⟨W1, rfl⟩ : ∃ V : World, V = X := ⟨_, rfl⟩
  clear hX
  obtain ⟨lt1, hlt1⟩ : ∃ b, decide (nd.Term < tm) = b := ⟨_, rfl⟩
  have HLT := Lib.hid hlt1
  obtain ⟨A3, m3, d3, e0, e1, e2, e3, e4, hrd, -, -, -, -⟩ := node_cells (HS.out.sl 2 rfl) (HS.out.ndat (i := 2) rfl) HX.out
  have b0 := HS.out.cell (k := 0) 1 rfl rfl
  have l0 := HS.out.cell (k := 0) 0 rfl rfl
  have l1 := HS.out.cell (k := 1) 0 rfl rfl
  have l2 := HS.out.cell (k := 2) 0 rfl rfl
  have l3 := HS.out.cell (k := 3) 0 rfl rfl
  have l4 := HS.out.cell (k := 4) 0 rfl rfl
  go_wp2
  refine wp_region_und (by kernel_rfl) (by kernel_rfl) ?_
  repeat (go_big_quiet_step ((first | fail)))
  refine wpQuiet_nil ?_
  intro X hX
  clear hlt1
  replace HS := Lib.hid (HS.out.step hX)
  clear e0 e1 e2 e3 e4 b0 l0 l1 l2 l3 l4 hrd
  obtain ⟨W2, rfl⟩ : ∃ V : World, V = X := ⟨_, rfl⟩
  clear hX
  go_upto_if 20 with fail
  go_cut [] (fun wx => ∃ f0' : List Nat, Hid (Mm.SepF (g :: (f0 ++ (f1 ++ f2))) w wx [Mm.tblk gl 84 [.int .i64 fr, .int .i64 k, .int .i64 tm, .bool ask, .int .i64 ag], Mm.tblk g 31 [.slice (some ⟨g0, 0, none⟩) n0 c0, .slice A1 n1 c1, .slice A2 n2 c2], Mm.tsl rNode 42 (Pl.pnews p ⟨fr, (k : Int), tm, ask, ag⟩).Nodes (.slice (some ⟨g0, 0, none⟩) n0 c0) f0', Mm.tsl rLetter 84 p.Letters (.slice A1 n1 c1) f1, Mm.tsl ints 23 p.Leaders (.slice A2 n2 c2) f2]))
  case first =>
    cases lt1 with
    | false =>
      have HF : Hid (Pl.pnews p ⟨fr, (k : Int), tm, ask, ag⟩ = p) := Lib.hid (if_neg (by have h1 := HLT.out; simp only [decide_eq_false_iff_not] at h1; show ¬ (Pl.nodeAt p (k : Int)).Term < tm; rw [HND.out]; exact h1))
      go_wp2_with fail
      go_meet
      exact ⟨f0, by rw [HF.out]; exact HS⟩
    | true =>
      have HF : Hid (Pl.pnews p ⟨fr, (k : Int), tm, ask, ag⟩ = Pl.setNode p (k : Int) ⟨tm, -1, nd.Age, [], 0⟩) := Lib.hid ((if_pos (by have h1 := HLT.out; simp only [decide_eq_true_eq] at h1; show (Pl.nodeAt p (k : Int)).Term < tm; rw [HND.out]; exact h1)).trans (by show Pl.setNode p (k : Int) ⟨tm, -1, (Pl.nodeAt p (k : Int)).Age, [], 0⟩ = _; rw [HND.out]))
      have htm := HMO.out.term
      dsimp only at htm
      obtain ⟨A3, m3, d3, e0, e1, e2, e3, e4, hrd, -, -, -, -⟩ := node_cells (HS.out.sl 2 rfl) (HS.out.ndat (i := 2) rfl) HX.out
      have b0 := HS.out.cell (k := 0) 1 rfl rfl
      have l0 := HS.out.cell (k := 0) 0 rfl rfl
      have l1 := HS.out.cell (k := 1) 0 rfl rfl
      have l2 := HS.out.cell (k := 2) 0 rfl rfl
      have l3 := HS.out.cell (k := 3) 0 rfl rfl
      have l4 := HS.out.cell (k := 4) 0 rfl rfl
      have z0 := (HS.out.sl 2 rfl).frozen (k * 5)
      have z1 := (HS.out.sl 2 rfl).frozen (k * 5 + 1)
      have z3 := (HS.out.sl 2 rfl).frozen (k * 5 + 3)
      have z4 := (HS.out.sl 2 rfl).frozen (k * 5 + 4)
      have ha := HS.out.nodeNum (k := k) (m := 0) (v := tm) 2 rfl HX.out (by omega) (fun cs fx hh => rNode_set0 hh (by unfold Mm.I64; omega))
      rw [Nat.add_zero] at ha
      have hx1 : ∀ y : Node, (p.Nodes.set k y)[k]? = some y := fun y => List.getElem?_set_self HKN.out
      have hb := ha.nodeNum (k := k) (m := 1) (v := -1) 2 rfl (hx1 _) (by omega) (fun cs fx hh => rNode_set1 hh (by unfold Mm.I64; omega))
      simp only [List.set_cons_succ, List.set_cons_zero, List.set_set] at hb
      have hc := hb.nodeNum (k := k) (m := 4) (v := 0) 2 rfl (hx1 _) (by omega) (fun cs fx hh => rNode_set4 hh (by unfold Mm.I64; omega))
      simp only [List.set_cons_succ, List.set_cons_zero, List.set_set] at hc
      obtain ⟨A5, m5, d5, fx5, -, -, -, -, -, hnext⟩ := hc.nodeHeard 2 rfl (hx1 _)
      obtain ⟨fp1, hd⟩ := hnext _ [] none 0 0 [] (((Mm.SepF.start _).add (Below.refl _ _) (t := Mm.tsl Mm.int 3 [] (.slice none 0 0) []) Mm.SlOwn.nil List.nodup_nil (fun b hb => by cases hb)).widen)
      simp only [List.set_cons_succ, List.set_cons_zero, List.set_set] at hd
      have HD := Lib.hid hd
      clear ha hb hc hnext hd hx1 hrd
      go_wp2_with fail
      go_meet
      exact ⟨fp1, by rw [HF.out]; unfold Pl.setNode; rw [hkt]; exact HD⟩
  case rest =>
  clear HS
  obtain ⟨f0', HS⟩ := hcut
  obtain ⟨q, hq⟩ : ∃ q, Pl.pnews p ⟨fr, (k : Int), tm, ask, ag⟩ = q := ⟨_, rfl⟩
  have hpw := Pl.PW.news HW.out HMO.out
  have hsh := Pl.pnews_shape p ⟨fr, (k : Int), tm, ask, ag⟩
  rw [hq] at HS hpw hsh
  obtain ⟨nq, hnq⟩ : ∃ nq, Pl.nodeAt q (k : Int) = nq := ⟨_, rfl⟩
  have hpt : tm ≤ nq.Term := by rw [← hnq]; exact hpw.2
  have HPW := Lib.hid hpw.1
  have hxq := hpw.1.at_ (k := (k : Int)) (by omega) (by rw [hsh.2.2]; have := HKN.out; omega)
  rw [hkt, hnq] at hxq
  have HX := Lib.hid hxq
  have HNQ := Lib.hid hnq
  have HF0 : Hid (Pl.ptake p ⟨fr, (k : Int), tm, ask, ag⟩ = Pl.ptakeN q ⟨fr, (k : Int), tm, ask, ag⟩) := Lib.hid (by unfold Pl.ptake; rw [hq])
  have HQ0 : Hid (q.Nodes.length = n0) := Lib.hid (by rw [hsh.2.2]; exact HN0.out.symm)
  rw [← hsh.1, ← hsh.2.1] at HS
  have HMO2 : Hid (Pl.LetOk q.Nodes.length ⟨fr, (k : Int), tm, ask, ag⟩) := Lib.hid (by rw [hsh.2.2]; exact HMO.out)
  clear hq hpw hsh hnq hxq HN0 HKN HW HND HLT HMO
  by_cases htm : tm = nq.Term
  rotate_left
  · have HF : Hid (Pl.ptake p ⟨fr, (k : Int), tm, ask, ag⟩ = q) := Lib.hid (by rw [HF0.out]; exact if_pos (by show tm < (Pl.nodeAt q (k : Int)).Term; rw [HNQ.out]; omega))
    have fa : (tm != nq.Term) = true := by simpa using htm
    clear htm
    obtain ⟨A3, m3, d3, e0, e1, e2, e3, e4, hrd, -, -, -, -⟩ := node_cells (HS.out.sl 2 rfl) (HS.out.ndat (i := 2) rfl) HX.out
    have b0 := HS.out.cell (k := 0) 1 rfl rfl
    have l0 := HS.out.cell (k := 0) 0 rfl rfl
    have l1 := HS.out.cell (k := 1) 0 rfl rfl
    have l2 := HS.out.cell (k := 2) 0 rfl rfl
    have l3 := HS.out.cell (k := 3) 0 rfl rfl
    have l4 := HS.out.cell (k := 4) 0 rfl rfl
    go_wp2
    refine wp_region_und (by kernel_rfl) (by kernel_rfl) ?_
    repeat (go_big_quiet_step ((first | fail)))
    refine wpQuiet_nil ?_
    intro X hX
    go_wp2
    go_end0
    exact ⟨rfl, _, by rw [HF.out]; exact (shut_Poll (HS.out.step hX).tail).left⟩
  have fa : (tm != nq.Term) = false := by simp [htm]
  have HTM := Lib.hid htm
  have HF1 : Hid (Pl.ptake p ⟨fr, (k : Int), tm, ask, ag⟩ = if ask = true then (if (nq.Voted = -1 ∨ nq.Voted = fr) ∧ nq.Age ≤ ag then Pl.pgive q ⟨fr, (k : Int), tm, ask, ag⟩ else q) else if nq.Role = 1 then Pl.pcount q ⟨fr, (k : Int), tm, ask, ag⟩ else q) := Lib.hid (by
    rw [HF0.out]
    unfold Pl.ptakeN
    dsimp only
    rw [HNQ.out, if_neg (by omega)])
  clear htm HF0
  obtain ⟨A3, m3, d3, e0, e1, e2, e3, e4, hrd, -, -, -, -⟩ := node_cells (HS.out.sl 2 rfl) (HS.out.ndat (i := 2) rfl) HX.out
  have b0 := HS.out.cell (k := 0) 1 rfl rfl
  have l0 := HS.out.cell (k := 0) 0 rfl rfl
  have l1 := HS.out.cell (k := 1) 0 rfl rfl
  have l2 := HS.out.cell (k := 2) 0 rfl rfl
  have l3 := HS.out.cell (k := 3) 0 rfl rfl
  have l4 := HS.out.cell (k := 4) 0 rfl rfl
  go_wp2
  refine wp_region_und (by kernel_rfl) (by kernel_rfl) ?_
  repeat (go_big_quiet_step ((first | fail)))
  refine wpQuiet_nil ?_
  intro X hX
  replace HS := Lib.hid (HS.out.step hX)
  clear e0 e1 e2 e3 e4 b0 l0 l1 l2 l3 l4 hrd
  clear fa
  obtain ⟨W4, rfl⟩ : ∃ V : World, V = X := ⟨_, rfl⟩
  clear hX
  obtain ⟨A3, m3, d3, e0, e1, e2, e3, e4, hrd, -, -, -, -⟩ := node_cells (HS.out.sl 2 rfl) (HS.out.ndat (i := 2) rfl) HX.out
  have b0 := HS.out.cell (k := 0) 1 rfl rfl
  have l0 := HS.out.cell (k := 0) 0 rfl rfl
  have l1 := HS.out.cell (k := 1) 0 rfl rfl
  have l2 := HS.out.cell (k := 2) 0 rfl rfl
  have l3 := HS.out.cell (k := 3) 0 rfl rfl
  have l4 := HS.out.cell (k := 4) 0 rfl rfl
  cases ask with
  | true =>
    rw [if_pos rfl] at HF1
    have HN : Hid (Pl.NodeOk q.Nodes.length nq) := Lib.hid (by rw [← HNQ.out]; exact HPW.out.nok (k := (k : Int)) hk0 (by rw [HQ0.out]; exact hkn))
    by_cases hcnd : (nq.Voted = -1 ∨ nq.Voted = fr) ∧ nq.Age ≤ ag
    · have HF : Hid (Pl.ptake p ⟨fr, (k : Int), tm, true, ag⟩ = Pl.psend (Pl.setNode q (k : Int) (Pl.withVoted nq fr)) ⟨(k : Int), fr, nq.Term, false, 0⟩) := Lib.hid (by
        rw [HF1.out, if_pos hcnd, ← HTM.out]
        unfold Pl.pgive
        dsimp only
        rw [HNQ.out])
      have fc : decide (nq.Age ≤ ag) = true := by simpa using hcnd.2
      obtain ⟨v1, hv1⟩ : ∃ b, (nq.Voted == -1) = b := ⟨_, rfl⟩
      obtain ⟨v2, hv2⟩ : ∃ b, (nq.Voted == fr) = b := ⟨_, rfl⟩
      have HV : Hid (v1 = true ∨ v2 = true) := Lib.hid (by rcases hcnd.1 with h | h; exact .inl (by rw [← hv1, h]; rfl); exact .inr (by rw [← hv2, h]; simp))
      have hfi : Mm.I64 fr := by unfold Mm.I64; have := HMO2.out.src; dsimp only at this; have := HQ0.out; omega
      have HFI := Lib.hid hfi
      clear hcnd hfi
      go_upto_region 6 with fail
      cases v1 with
      | true =>
        refine wp_region_und (by kernel_rfl) (by kernel_rfl) ?_
        repeat (go_big_quiet_step ((first | fail)))
        refine wpQuiet_nil ?_
        intro X hX
        replace HS := Lib.hid (HS.out.step hX)
        clear e0 e1 e2 e3 e4 b0 l0 l1 l2 l3 l4 hrd
        clear hX fc hv1 hv2
        go_upto_region 7 with fail
        have z1 := (HS.out.sl 2 rfl).frozen (k * 5 + 1)
        obtain ⟨A3, m3, d3, e0, e1, e2, e3, e4, hrd, -, -, -, -⟩ := node_cells (HS.out.sl 2 rfl) (HS.out.ndat (i := 2) rfl) HX.out
        have b0 := HS.out.cell (k := 0) 1 rfl rfl
        have l0 := HS.out.cell (k := 0) 0 rfl rfl
        have l1 := HS.out.cell (k := 1) 0 rfl rfl
        have l2 := HS.out.cell (k := 2) 0 rfl rfl
        have l3 := HS.out.cell (k := 3) 0 rfl rfl
        have l4 := HS.out.cell (k := 4) 0 rfl rfl
        have HS5 := Lib.hid (HS.out.nodeNum (k := k) (m := 1) (v := fr) 2 rfl HX.out (by omega) (fun cs fx hh => rNode_set1 hh HFI.out))
        go_upto_region 8 with fail
        clear e0 e1 e2 e3 e4 b0 l0 l1 l2 l3 l4 hrd
        clear z1 HS
        obtain ⟨W5, hW5⟩ : ∃ V : World, X.setCell ⟨g0, k * 5 + 1, none⟩ (.int .i64 fr) = V := ⟨_, rfl⟩
        rw [hW5] at HS5 ⊢
        clear hW5
        have hx5 : (q.Nodes.set k (⟨nq.Term, fr, nq.Age, nq.Heard, nq.Role⟩ : Node))[k]? = some (⟨nq.Term, fr, nq.Age, nq.Heard, nq.Role⟩ : Node) := List.getElem?_set_self (by rw [HQ0.out]; omega)
        have HX5 := Lib.hid hx5
        have HSD := Lib.hid (HS5.out.step (Below.refl _ _).drew)
        have HT := Lib.hid (shut_Poll (x := Pl.setNode q (k : Int) (Pl.withVoted nq fr)) (by have h := HSD.out.sel [1, 2, 3, 4, 0] (by decide) rfl; unfold Pl.setNode Pl.withVoted; rw [hkt]; exact h))
        have CS := send_c (Pl.setNode q (k : Int) (Pl.withVoted nq fr)) ⟨(k : Int), fr, nq.Term, false, 0⟩ g _ W5.drew (HT.out.at_ 0 rfl) (HT.out.ndat (i := 0) rfl) ⟨by unfold Mm.I64; show _ ≤ (k : Int) ∧ (k : Int) ≤ _; omega, HFI.out, by unfold Mm.I64; show _ ≤ nq.Term ∧ nq.Term ≤ _; have := HN.out.term; omega, by unfold Mm.I64; show _ ≤ (0 : Int) ∧ (0 : Int) ≤ _; omega⟩ HPW.out.lets
        obtain ⟨A3, m3, d3, e0, e1, e2, e3, e4, hrd, -, -, -, -⟩ := node_cells (HSD.out.sl 2 rfl) (HSD.out.ndat (i := 2) rfl) HX5.out
        have b0 := HSD.out.cell (k := 0) 1 rfl rfl
        have l0 := HSD.out.cell (k := 0) 0 rfl rfl
        have l1 := HSD.out.cell (k := 1) 0 rfl rfl
        have l2 := HSD.out.cell (k := 2) 0 rfl rfl
        have l3 := HSD.out.cell (k := 3) 0 rfl rfl
        have l4 := HSD.out.cell (k := 4) 0 rfl rfl
        clear hx5
        go_region_law (go_simp; go_at_call 96; (with_reducible refine CS.mono ?_); clear CS; rintro e w6 ⟨rfl, fp6, hL⟩; (have HT7 := Lib.hid (HT.out.call 0 rfl hL)); clear hL)
        all_goals
          go_wp2
          go_end0
          exact ⟨rfl, _, by rw [HF.out]; exact (HT7.out.sel [0] (by decide) rfl).left⟩
      | false =>
        obtain rfl : v2 = true := by rcases HV.out with h | h; cases h; exact h
        refine wp_region_und (by kernel_rfl) (by kernel_rfl) ?_
        repeat (go_big_quiet_step ((first | fail)))
        refine wpQuiet_nil ?_
        intro X hX
        replace HS := Lib.hid (HS.out.step hX)
        clear e0 e1 e2 e3 e4 b0 l0 l1 l2 l3 l4 hrd
        clear hX fc hv1 hv2
        go_upto_region 7 with fail
        have z1 := (HS.out.sl 2 rfl).frozen (k * 5 + 1)
        obtain ⟨A3, m3, d3, e0, e1, e2, e3, e4, hrd, -, -, -, -⟩ := node_cells (HS.out.sl 2 rfl) (HS.out.ndat (i := 2) rfl) HX.out
        have b0 := HS.out.cell (k := 0) 1 rfl rfl
        have l0 := HS.out.cell (k := 0) 0 rfl rfl
        have l1 := HS.out.cell (k := 1) 0 rfl rfl
        have l2 := HS.out.cell (k := 2) 0 rfl rfl
        have l3 := HS.out.cell (k := 3) 0 rfl rfl
        have l4 := HS.out.cell (k := 4) 0 rfl rfl
        have HS5 := Lib.hid (HS.out.nodeNum (k := k) (m := 1) (v := fr) 2 rfl HX.out (by omega) (fun cs fx hh => rNode_set1 hh HFI.out))
        go_upto_region 8 with fail
        clear e0 e1 e2 e3 e4 b0 l0 l1 l2 l3 l4 hrd
        clear z1 HS
        obtain ⟨W5, hW5⟩ : ∃ V : World, X.setCell ⟨g0, k * 5 + 1, none⟩ (.int .i64 fr) = V := ⟨_, rfl⟩
        rw [hW5] at HS5 ⊢
        clear hW5
        have hx5 : (q.Nodes.set k (⟨nq.Term, fr, nq.Age, nq.Heard, nq.Role⟩ : Node))[k]? = some (⟨nq.Term, fr, nq.Age, nq.Heard, nq.Role⟩ : Node) := List.getElem?_set_self (by rw [HQ0.out]; omega)
        have HX5 := Lib.hid hx5
        have HSD := Lib.hid (HS5.out.step (Below.refl _ _).drew)
        have HT := Lib.hid (shut_Poll (x := Pl.setNode q (k : Int) (Pl.withVoted nq fr)) (by have h := HSD.out.sel [1, 2, 3, 4, 0] (by decide) rfl; unfold Pl.setNode Pl.withVoted; rw [hkt]; exact h))
        have CS := send_c (Pl.setNode q (k : Int) (Pl.withVoted nq fr)) ⟨(k : Int), fr, nq.Term, false, 0⟩ g _ W5.drew (HT.out.at_ 0 rfl) (HT.out.ndat (i := 0) rfl) ⟨by unfold Mm.I64; show _ ≤ (k : Int) ∧ (k : Int) ≤ _; omega, HFI.out, by unfold Mm.I64; show _ ≤ nq.Term ∧ nq.Term ≤ _; have := HN.out.term; omega, by unfold Mm.I64; show _ ≤ (0 : Int) ∧ (0 : Int) ≤ _; omega⟩ HPW.out.lets
        obtain ⟨A3, m3, d3, e0, e1, e2, e3, e4, hrd, -, -, -, -⟩ := node_cells (HSD.out.sl 2 rfl) (HSD.out.ndat (i := 2) rfl) HX5.out
        have b0 := HSD.out.cell (k := 0) 1 rfl rfl
        have l0 := HSD.out.cell (k := 0) 0 rfl rfl
        have l1 := HSD.out.cell (k := 1) 0 rfl rfl
        have l2 := HSD.out.cell (k := 2) 0 rfl rfl
        have l3 := HSD.out.cell (k := 3) 0 rfl rfl
        have l4 := HSD.out.cell (k := 4) 0 rfl rfl
        clear hx5
        go_region_law (go_simp; go_at_call 96; (with_reducible refine CS.mono ?_); clear CS; rintro e w6 ⟨rfl, fp6, hL⟩; (have HT7 := Lib.hid (HT.out.call 0 rfl hL)); clear hL)
        all_goals
          go_wp2
          go_end0
          exact ⟨rfl, _, by rw [HF.out]; exact (HT7.out.sel [0] (by decide) rfl).left⟩
    · have HF : Hid (Pl.ptake p ⟨fr, (k : Int), tm, true, ag⟩ = q) := Lib.hid (by rw [HF1.out, if_neg hcnd])
      obtain ⟨v1, hv1⟩ : ∃ b, (nq.Voted == -1) = b := ⟨_, rfl⟩
      obtain ⟨v2, hv2⟩ : ∃ b, (nq.Voted == fr) = b := ⟨_, rfl⟩
      obtain ⟨v3, hv3⟩ : ∃ b, decide (nq.Age ≤ ag) = b := ⟨_, rfl⟩
      have HV : Hid ((v1 = true ∨ v2 = true) → v3 = false) := Lib.hid (fun h => by
        rw [← hv3, decide_eq_false_iff_not]
        exact fun h3 => hcnd ⟨h.imp (fun h => by rw [← hv1] at h; simpa using h) (fun h => by rw [← hv2] at h; simpa using h), h3⟩)
      clear hcnd
      go_upto_region 6 with fail
      cases v1 with
      | true =>
        obtain rfl : v3 = false := HV.out (.inl rfl)
        refine wp_region_und (by kernel_rfl) (by kernel_rfl) ?_
        repeat (go_big_quiet_step ((first | fail)))
        refine wpQuiet_nil ?_
        intro X hX
        go_wp2
        go_end0
        exact ⟨rfl, _, by rw [HF.out]; exact (shut_Poll (HS.out.step hX).tail).left⟩
      | false =>
        cases v2 with
        | true =>
          obtain rfl : v3 = false := HV.out (.inr rfl)
          refine wp_region_und (by kernel_rfl) (by kernel_rfl) ?_
          repeat (go_big_quiet_step ((first | fail)))
          refine wpQuiet_nil ?_
          intro X hX
          go_wp2
          go_end0
          exact ⟨rfl, _, by rw [HF.out]; exact (shut_Poll (HS.out.step hX).tail).left⟩
        | false =>
          refine wp_region_und (by kernel_rfl) (by kernel_rfl) ?_
          repeat (go_big_quiet_step ((first | fail)))
          refine wpQuiet_nil ?_
          intro X hX
          go_wp2
          go_end0
          exact ⟨rfl, _, by rw [HF.out]; exact (shut_Poll (HS.out.step hX).tail).left⟩
  | false =>
    rw [if_neg (by simp)] at HF1
    by_cases hr1 : nq.Role = 1
    rotate_left
    · have HF : Hid (Pl.ptake p ⟨fr, (k : Int), tm, false, ag⟩ = q) := Lib.hid (by rw [HF1.out, if_neg hr1])
      have fa : (nq.Role == 1) = false := by simpa using hr1
      clear hr1
      go_wp2
      go_end0
      exact ⟨rfl, _, by rw [HF.out]; exact (shut_Poll HS.out.tail).left⟩
    have HF : Hid (Pl.ptake p ⟨fr, (k : Int), tm, false, ag⟩ = Pl.pcount q ⟨fr, (k : Int), tm, false, ag⟩) := Lib.hid (by rw [HF1.out, if_pos hr1])
    have fa : (nq.Role == 1) = true := by rw [hr1]; rfl
    have HR1 := Lib.hid hr1
    clear hr1
    have HN : Hid (Pl.NodeOk q.Nodes.length nq) := Lib.hid (by rw [← HNQ.out]; exact HPW.out.nok (k := (k : Int)) hk0 (by rw [HQ0.out]; exact hkn))
    have hfr : 0 ≤ fr ∧ fr < (n0 : Nat) := by have := HMO2.out.src; dsimp only at this; have := HQ0.out; omega
    have hfi : Mm.I64 fr := by unfold Mm.I64; omega
    have HFI := Lib.hid hfi
    clear hfi
    have HPC : Hid (Pl.PW (Pl.setNode q (k : Int) (Pl.withHeard nq (Pl.putI nq.Heard fr)))) := Lib.hid (by
      have h := HPW.out.count (k := (k : Int)) (fr := fr) hk0 (by rw [HQ0.out]; exact hkn) (by rw [HQ0.out]; exact hfr) (by rw [HNQ.out]; exact HR1.out)
      rw [HNQ.out] at h; exact h)
    have HF2 : Hid (Pl.ptake p ⟨fr, (k : Int), tm, false, ag⟩ = Pl.plead (Pl.setNode q (k : Int) (Pl.withHeard nq (Pl.putI nq.Heard fr))) (k : Int)) := Lib.hid (by
      rw [HF.out]
      unfold Pl.pcount
      dsimp only
      rw [HNQ.out])
    have HRR : Hid ((Pl.nodeAt (Pl.setNode q (k : Int) (Pl.withHeard nq (Pl.putI nq.Heard fr))) (k : Int)).Role = 1) := Lib.hid (by
      rw [Pl.nodeAt_set (by rw [hkt, HQ0.out]; omega) hk0 hk0, if_pos rfl]
      exact HR1.out)
    have hm3 : m3 ≤ 1000 := by
      have h5 := Pl.rising_bound nq.Heard 0 n0 HN.out.heard (fun i hi => by have := HN.out.hin i hi; have := HQ0.out; omega)
      rw [hrd.1, if_pos (by omega)] at h5
      omega
    have CB := fun z : Und W4 => und_same z (bsInt_c nq.Heard fr A3 m3 d3 (und W4 z) W4.heap.size (hrd.und (Nat.le_refl _) z) HN.out.heard hm3)
    obtain ⟨ip, hip⟩ : ∃ ip, Pl.ipos nq.Heard fr = ip := ⟨_, rfl⟩
    obtain ⟨ii, hii⟩ : ∃ ii, Pl.hasI nq.Heard fr = ii := ⟨_, rfl⟩
    rw [hip, hii] at CB
    have hipn : ip ≤ m3 := by rw [← hip, ← hrd.1]; exact Pl.ipos_le _ _
    have HIP := Lib.hid hip
    have HII := Lib.hid hii
    clear hip hii
    go_upto_region 10 with fail
    refine wp_region_und (by kernel_rfl) (by kernel_rfl) ?_
    repeat (go_big_quiet_step ((first | (go_at_call 98; with_reducible exact CB _))))
    refine wpQuiet_nil ?_
    intro X hX
    replace HS := Lib.hid (HS.out.step hX)
    clear CB
    cases ii with
    | true =>
      have hpu : Pl.putI nq.Heard fr = nq.Heard := Pl.putI_has _ _ HN.out.heard (Pl.hasI_iff.1 HII.out)
      have hset : Pl.setNode q (k : Int) (Pl.withHeard nq (Pl.putI nq.Heard fr)) = q := by
        rw [hpu]
        unfold Pl.setNode Pl.withHeard
        rw [hkt]
        have e : q.Nodes.set k ⟨nq.Term, nq.Voted, nq.Age, nq.Heard, nq.Role⟩ = q.Nodes := by
          apply List.ext_getElem?
          intro i
          by_cases hik : k = i
          · subst hik; rw [List.getElem?_set_self (by rw [HQ0.out]; omega), HX.out]
          · rw [List.getElem?_set_ne hik]
        rw [e]
      rw [hset] at HF2 HRR HPC
      clear hpu hset
      have HT := Lib.hid (shut_Poll (HS.out.sel [1, 2, 3, 4, 0] (by decide) rfl))
      have CL := lead_c q k g _ X (HT.out.at_ 0 rfl) (HT.out.ndat (i := 0) rfl) HPW.out (by rw [HQ0.out]; omega) HRR.out
      clear e0 e1 e2 e3 e4 b0 l0 l1 l2 l3 l4 hrd
      obtain ⟨A3, m3, d3, e0, e1, e2, e3, e4, hrd, -, -, -, -⟩ := node_cells (HS.out.sl 2 rfl) (HS.out.ndat (i := 2) rfl) HX.out
      have b0 := HS.out.cell (k := 0) 1 rfl rfl
      have l0 := HS.out.cell (k := 0) 0 rfl rfl
      have l1 := HS.out.cell (k := 1) 0 rfl rfl
      have l2 := HS.out.cell (k := 2) 0 rfl rfl
      have l3 := HS.out.cell (k := 3) 0 rfl rfl
      have l4 := HS.out.cell (k := 4) 0 rfl rfl
      go_wp2_with (go_at_call 97; (with_reducible refine CL.mono ?_); clear CL; rintro e w6 ⟨rfl, fp6, hL⟩; (have HT7 := Lib.hid (HT.out.call 0 rfl hL)); clear hL)
      go_end0
      exact ⟨rfl, _, by rw [HF2.out]; exact (HT7.out.sel [0] (by decide) rfl).left⟩
    | false =>
      have hno : fr ∉ nq.Heard := fun hh => by rw [Pl.hasI_iff.2 hh] at HII; cases HII.out
      have HO : Hid (nq.Heard.take ip ++ fr :: nq.Heard.drop ip = Pl.putI nq.Heard fr) := Lib.hid (by
        have h := Pl.insI_at HN.out.heard hno
        rw [HIP.out] at h
        exact h)
      clear hno
      clear e0 e1 e2 e3 e4 b0 l0 l1 l2 l3 l4 hrd
      obtain ⟨A5, m5, d5, fx, ec, hml, hso, hfn, hfx, hnext⟩ := HS.out.nodeHeard 2 rfl HX.out
      have HNX := Lib.hid hnext
      have n0' : g0 ∉ fx := fun hh => (hfx _ hh).2 rfl
      have n1' : gl ∉ fx := fun hh => HS.out.apart (i := 0) (j := 2) rfl rfl (by decide) gl (by simp [Mm.tblk]) (hfx _ hh).1
      have l0 := HS.out.cell (k := 0) 0 rfl rfl
      have hlt0 : g0 < X.heap.size := (HS.out.sl 2 rfl).olt g0 (HS.out.sl 2 rfl).mem_block
      have z3 := (HS.out.sl 2 rfl).frozen (k * 5 + 3)
      have hm5 : m5 ≤ 1000 := by rw [hml]; have h5 := Pl.rising_bound nq.Heard 0 n0 HN.out.heard (fun i hi => by have := HN.out.hin i hi; have := HQ0.out; omega); rw [if_pos (by omega)] at h5; omega
      have hip5 : ip ≤ m5 := by rw [hml, ← HIP.out]; exact Pl.ipos_le _ _
      have HML := Lib.hid hml
      have HGO := Lib.hid (And.intro hso hfn)
      clear hnext hfx hml hso hfn
      go_upto_region 12 with fail
      refine Mm.wp_region_give 12 (fun i => match i with | 8 => some (Mm.gBs 3 [.int .i64 fr]) | 9 => some (Mm.gSl Mm.int 3 (nq.Heard.take ip ++ fr :: nq.Heard.drop ip)) | _ => none) (fun i => match i with | 9 => [8, 13] | _ => []) (fun i => match i with | 13 => [Mm.tsl Mm.int 3 nq.Heard (.slice A5 m5 d5) fx] | _ => []) (F := fx) (D := fun w' => ∃ z : Cha fx X, w' = cha fx X z) (fun X us h => Mm.sep_cha h) (by kernel_rfl) (by kernel_rfl) (by kernel_rfl) (Mm.sep_eq ((Mm.SepF.one (Mm.tsl Mm.int 3 nq.Heard (.slice A5 m5 d5) fx) X HGO.out.1 HGO.out.2).step (Below.refl _ _).drew) rfl) ?_
      repeat (refine Mm.give_det (by rfl) (by rfl) (by rfl) (fun K hK => ?_); go_big_quiet_op; refine hK _ ?_; clear hK K)
      refine Mm.give_op0 111 (by rfl) rfl (by rfl) (by rfl) (by rfl) (by rfl) Mm.gBs_in (fun others X6 hX6 => ?_) ?_
      · go_wp2
        exact Mm.gvq_bs hX6 rfl rfl rfl
      rintro v ds ⟨gb, rfl, rfl⟩
      simp only [Act.put, List.setIfInBounds_toArray, List.set_cons_succ, List.set_cons_zero]
      refine Mm.give_op2 112 8 13 (by rfl) rfl (by rfl) (by rfl) (by rfl) rfl (by rfl) (by rfl) (by rfl) _ _ rfl rfl Mm.gSl_in (fun others X6 hX6 => ?_) ?_
      · go_wp2_with (go_at_call 99; (with_reducible refine (insOne_c (i := 1) (j := 0) hX6 (by decide) rfl rfl hip5 hm5 HFI.out).mono ?_); rintro e w5 ⟨A', n', c', fp', rfl, rfl, hS5⟩)
        exact ⟨rfl, rfl, _, ⟨_, _, _, fp', rfl, rfl, Lib.hid (by rw [List.length_append, List.length_cons, List.length_take, List.length_drop]; have := HML.out; omega)⟩, (hS5.tail)⟩
      rintro v ds ⟨A6, n6, c6, f6, rfl, rfl, hn6⟩
      simp only [Act.put, List.setIfInBounds_toArray, List.set_cons_succ, List.set_cons_zero]
      repeat (refine Mm.give_det (by rfl) (by rfl) (by rfl) (fun K hK => ?_); go_big_quiet_op; refine hK _ ?_; clear hK K)
      refine Mm.give_nil ?_
      rintro X6 hX6
      have hx6 : Mm.SepF fx X X6 [Mm.tsl Mm.int 3 (nq.Heard.take ip ++ fr :: nq.Heard.drop ip) (.slice A6 n6 c6) f6] := Mm.sep_eq hX6 rfl
      obtain ⟨fp7, hs7⟩ := HNX.out X6 _ _ _ _ _ hx6
      have ec6 : X6.cell? ⟨g0, k * 5 + 3, none⟩ = some (.slice A5 m5 d5) := (World.cell?_of_block (hx6.chg.block g0 hlt0 n0')).trans ec
      have z36 : X6.frozen? ⟨g0, k * 5 + 3, none⟩ = false := (World.frozen?_of_block (hx6.chg.block g0 hlt0 n0')).trans z3
      rw [HO.out] at hs7
      have HS7 := Lib.hid hs7
      clear hX6 hx6 hs7 n0' n1' ec z3 l0 hlt0 HNX HGO
      go_upto_region 13 with fail
      clear ec6 z36
      obtain ⟨XT, hXT⟩ : ∃ XT, X6.setCell ⟨g0, k * 5 + 3, none⟩ (.slice A6 n6 c6) = XT := ⟨_, rfl⟩
      rw [hXT] at HS7 ⊢
      clear hXT
      have HT := Lib.hid (shut_Poll (x := Pl.setNode q (k : Int) (Pl.withHeard nq (Pl.putI nq.Heard fr))) (by have h := HS7.out.sel [1, 2, 3, 4, 0] (by decide) rfl; unfold Pl.setNode Pl.withHeard; rw [hkt]; exact h))
      have CL := lead_c (Pl.setNode q (k : Int) (Pl.withHeard nq (Pl.putI nq.Heard fr))) k g _ XT (HT.out.at_ 0 rfl) (HT.out.ndat (i := 0) rfl) HPC.out (by rw [Pl.set_len, HQ0.out]; omega) HRR.out
      have l1 := HS7.out.cell (k := 1) 0 rfl rfl
      go_wp2_with (go_at_call 97; (with_reducible refine CL.mono ?_); clear CL; rintro e w6 ⟨rfl, fp6, hL⟩; (have HT7 := Lib.hid (HT.out.call 0 rfl hL)); clear hL)
      go_end0
      exact ⟨rfl, _, by rw [HF2.out]; exact (HT7.out.sel [0] (by decide) rfl).left⟩
end Go.Proofs.Ytkhchfbpmmiopaa

/-
  Contracts: the reference's election, by value: a letter, a leader, a candidate (chapter 8). No conditions beyond those named.
-/
namespace Go.Proofs.Ytkhchfbpmmiopaa
open Go.RowKit
attribute [local go_sem] und_cell cha_cell World.cell?_alloc_some
def zPoll : List Value := [.slice none 0 0, .slice none 0 0, .slice none 0 0]
def PVA (r : Poll) (fp : List Nat) (w : World) (e : Ending) (w' : World) : Prop := ∃ cs' fp', e = .returned (.agg cs'.toArray) ∧ Mm.Left fp w w' (Mm.tow rPoll r cs' fp')
theorem openv_Poll {F : List Nat} {w0 wr : World} {ts : List Mm.Thing} {x : Poll} {cs : List Value} {fp : List Nat} (h : Mm.SepF F w0 wr (Mm.tow rPoll x cs fp :: ts)) :
    ∃ A0 n0 c0 A1 n1 c1 A2 n2 c2 f0 f1 f2, cs = [.slice A0 n0 c0, .slice A1 n1 c1, .slice A2 n2 c2] ∧ fp = f0 ++ (f1 ++ f2) ∧ Mm.SepF F w0 wr (Mm.tsl rNode 42 x.Nodes (.slice A0 n0 c0) f0 :: Mm.tsl rLetter 84 x.Letters (.slice A1 n1 c1) f1 :: Mm.tsl ints 23 x.Leaders (.slice A2 n2 c2) f2 :: ts) := by
  have h0 := h.hold _ (List.mem_cons_self)
  obtain ⟨A0, n0, c0, A1, n1, c1, A2, n2, c2, f0, f1, f2, rfl, rfl, k0, k1, k2⟩ := rPoll_own h0
  exact ⟨_, _, _, _, _, _, _, _, _, _, _, _, rfl, rfl, h.conv (by simp [Mm.tsl, Mm.tow]) (List.forall_mem_cons.2 ⟨k0, List.forall_mem_cons.2 ⟨k1, List.forall_mem_cons.2 ⟨k2, fun u hu => h.hold u (List.mem_cons_of_mem _ hu)⟩⟩⟩)⟩
theorem shutv_Poll {F : List Nat} {w0 wr : World} {ts : List Mm.Thing} {x : Poll} {A0 A1 A2 : Option Addr} {n0 c0 n1 c1 n2 c2 : Nat} {f0 f1 f2 : List Nat} (h : Mm.SepF F w0 wr (Mm.tsl rNode 42 x.Nodes (.slice A0 n0 c0) f0 :: Mm.tsl rLetter 84 x.Letters (.slice A1 n1 c1) f1 :: Mm.tsl ints 23 x.Leaders (.slice A2 n2 c2) f2 :: ts)) :
    Mm.SepF F w0 wr (Mm.tow rPoll x [.slice A0 n0 c0, .slice A1 n1 c1, .slice A2 n2 c2] (f0 ++ (f1 ++ f2)) :: ts) :=
  h.conv (by simp [Mm.tsl, Mm.tow]) (List.forall_mem_cons.2 ⟨rPoll_own_mk (h.sl 0 rfl) (h.sl 1 rfl) (h.sl 2 rfl), fun u hu => h.hold u (by
    iterate 3 apply List.mem_cons_of_mem
    exact hu)⟩)
theorem own_formP {w : World} {x : Poll} {cs : List Value} {fp : List Nat} (h : rPoll.own w x cs fp) : ∃ A0 n0 c0 A1 n1 c1 A2 n2 c2, cs = [.slice A0 n0 c0, .slice A1 n1 c1, .slice A2 n2 c2] := by
  obtain ⟨A0, n0, c0, A1, n1, c1, A2, n2, c2, f0, f1, f2, rfl, -⟩ := rPoll_own h
  exact ⟨_, _, _, _, _, _, _, _, _, rfl⟩
/-- element k of the nodes is stored whole -/
theorem Mm.SepF.nodeStore {F : List Nat} {w0 wr : World} {ts : List Mm.Thing} {xs : List Node} {g n c k : Nat} {x : Node} {fp : List Nat} (h : Mm.SepF F w0 wr ts) (i : Nat) (hi : ts[i]? = some (Mm.tsl rNode 42 xs (.slice (some ⟨g, 0, none⟩) n c) fp)) (hk : xs[k]? = some x) :
    ∃ fx, ∀ W y A' m' d' fx', Mm.I64 y.Term → Mm.I64 y.Voted → Mm.I64 y.Age → Mm.I64 y.Role → Mm.SepF fx wr W [Mm.tsl Mm.int 3 y.Heard (.slice A' m' d') fx'] →
        ∃ fp', Mm.SepF F w0 (((((W.setCell ⟨g, k * 5, none⟩ (.int .i64 y.Term)).setCell ⟨g, k * 5 + 1, none⟩ (.int .i64 y.Voted)).setCell ⟨g, k * 5 + 2, none⟩ (.int .i64 y.Age)).setCell ⟨g, k * 5 + 3, none⟩ (.slice A' m' d')).setCell ⟨g, k * 5 + 4, none⟩ (.int .i64 y.Role)) (ts.set i (Mm.tsl rNode 42 (xs.set k y) (.slice (some ⟨g, 0, none⟩) n c) fp')) := by
  obtain ⟨A5, m5, d5, fx, -, -, -, -, -, hnext⟩ := h.nodeHeard i hi hk
  refine ⟨fx, fun W y A' m' d' fx' i0 i1 i2 i4 hS => ?_⟩
  have hil : i < ts.length := (List.getElem?_eq_some_iff.1 hi).1
  have hkl : k < xs.length := (List.getElem?_eq_some_iff.1 hk).1
  obtain ⟨fp', h3⟩ := hnext W y.Heard A' m' d' fx' hS
  have g3 : ∀ (us : List Node) (z : Node), (us.set k z)[k]? = if k < us.length then some z else none := fun us z => by rw [List.getElem?_set]; simp
  have h0 := h3.nodeNum (k := k) (m := 0) (v := y.Term) i (List.getElem?_set_self hil) (by rw [g3, if_pos hkl]) (by omega) (fun cs fx hh => rNode_set0 hh i0)
  rw [Nat.add_zero, Mm.setCell_comm _ _ _ _ _ _ (by omega), List.set_set, List.set_set] at h0
  have h1 := h0.nodeNum (k := k) (m := 1) (v := y.Voted) i (List.getElem?_set_self hil) (by rw [g3, if_pos hkl]) (by omega) (fun cs fx hh => rNode_set1 hh i1)
  rw [Mm.setCell_comm _ _ _ _ _ _ (by omega), List.set_set, List.set_set] at h1
  have h2 := h1.nodeNum (k := k) (m := 2) (v := y.Age) i (List.getElem?_set_self hil) (by rw [g3, if_pos hkl]) (by omega) (x' := ⟨y.Term, y.Voted, y.Age, y.Heard, x.Role⟩) (fun cs fx hh => by
    obtain ⟨A, n, c, f, rfl, rfl, q0, q1, q2, q3, q4⟩ := rNode_own hh
    exact rNode_own_mk (x := ⟨y.Term, y.Voted, y.Age, y.Heard, x.Role⟩) q0 q1 i2 q3 q4)
  rw [Mm.setCell_comm _ _ _ _ _ _ (by omega), List.set_set, List.set_set] at h2
  have h4 := h2.nodeNum (k := k) (m := 4) (v := y.Role) i (List.getElem?_set_self hil) (by rw [g3, if_pos hkl]) (by omega) (fun cs fx hh => rNode_set4 hh i4)
  rw [List.set_set, List.set_set] at h4
  exact ⟨fp', h4⟩
set_option maxRecDepth 100000 in
set_option maxHeartbeats 2000000 in
theorem l8Write_c (p : Poll) (m : Letter) (cs : List Value) (fp : List Nat) (w : World) (h : (Mm.tow rPoll p cs fp).holds w) (hnd : fp.Nodup) (hm : Mm.I64 m.From ∧ Mm.I64 m.To ∧ Mm.I64 m.Term ∧ Mm.I64 m.Age) (hl : p.Letters.length ≤ 60) :
    Calls Try.prog 83 #[.agg cs.toArray, .agg #[.int .i64 m.From, .int .i64 m.To, .int .i64 m.Term, .bool m.Ask, .int .i64 m.Age]] w (PVA (Pl.psend p m) fp w) := by
  obtain ⟨A0, n0, c0, A1, n1, c1, A2, n2, c2, f0, f1, f2, rfl, rfl, hs⟩ := openv_Poll (Mm.SepF.one _ w h hnd)
  have hln1 : n1 = p.Letters.length := by obtain ⟨A', n', c', hv, h1, _⟩ := (hs.sl 1 rfl).form; injection hv with _ h2 _; omega
  subst hln1
  obtain ⟨ga, hga⟩ : ∃ g, w.heap.size = g := ⟨_, rfl⟩
  obtain ⟨gb, hgb⟩ : ∃ g, ga + 1 = g := ⟨_, rfl⟩
  obtain ⟨gc, hgc⟩ : ∃ g, gb + 1 = g := ⟨_, rfl⟩
  obtain ⟨W0, hW0⟩ : ∃ W, ((w.alloc (.cells #[.slice A0 n0 c0, .slice A1 p.Letters.length c1, .slice A2 n2 c2] 31)).alloc (.cells #[.int .i64 m.From, .int .i64 m.To, .int .i64 m.Term, .bool m.Ask, .int .i64 m.Age] 84)).alloc (.cells #[.slice none 0 0, .slice none 0 0, .slice none 0 0] 31) = W := ⟨_, rfl⟩
  have HS := Lib.hid ((((hs.alloc' hga 31 [.slice A0 n0 c0, .slice A1 p.Letters.length c1, .slice A2 n2 c2]).alloc' (g := gb) (by rw [Mm.sz1, hga, hgb]) 84 [.int .i64 m.From, .int .i64 m.To, .int .i64 m.Term, .bool m.Ask, .int .i64 m.Age]).alloc' (g := gc) (by rw [Mm.sz2, hga]; omega) 31 zPoll).atW hW0)
  have HMI := Lib.hid hm
  clear h hs hm hnd
  go_enter Try.func83, Try.ntmps83
  go_upto_region 1 with fail
  clear hW0 hga hgb hgc
  have b0 := HS.out.cell (k := 0) 2 rfl rfl
  have b1 := HS.out.cell (k := 1) 2 rfl rfl
  have b2 := HS.out.cell (k := 2) 2 rfl rfl
  by_cases hl60 : p.Letters.length < 60
  · have HF : Hid (Pl.psend p m = { p with Letters := p.Letters ++ [m] }) := if_pos hl60
    have f1 : ((p.Letters.length : Nat) : Int) < 60 := by omega
    have z1' := HS.out.frz (k := 1) 2 rfl
    have m0 := HS.out.cell (k := 0) 1 rfl rfl
    have m1 := HS.out.cell (k := 1) 1 rfl rfl
    have m2 := HS.out.cell (k := 2) 1 rfl rfl
    have m3 := HS.out.cell (k := 3) 1 rfl rfl
    have m4 := HS.out.cell (k := 4) 1 rfl rfl
    obtain ⟨i0, hi, hz0, hz1, hz2⟩ := info_parts Try.infoLetter
    go_upto_region 3 with (at_builtin; refine Mm.app_list (x := m) HS.out 4 rfl rfl (.tmp 10) (.tmp 12) 28 rfl i0 _ 40 Try.underlying28 hi hz0 hz1 hz2 rfl (by decide) rfl rfl (fun W => rLetter_own_mk HMI.out) rfl (by unfold maxLen; omega) (by omega) ?_; intro gg cap w' fp' hs; (have HS4 := Lib.hid hs); clear hs; (clear b0 b1 b2); clear m0 m1 m2 m3 m4 z1'; (have b1 := HS4.out.cell (k := 1) 2 rfl rfl); (have y1 := HS4.out.frz (k := 1) 2 rfl))
    clear b1 y1
    obtain ⟨W5, hW5⟩ : ∃ W, w'.setCell ⟨ga, 1, none⟩ (.slice (some ⟨gg, 0, none⟩) (p.Letters.length + 1) cap) = W := ⟨_, rfl⟩
    have HS5 := Lib.hid ((HS4.out.setBlk (k := 1) 2 rfl (.slice (some ⟨gg, 0, none⟩) (p.Letters.length + 1) cap)).atW hW5)
    rw [hW5]
    clear hW5
    have b0 := HS5.out.cell (k := 0) 2 rfl rfl
    have b1 := HS5.out.cell (k := 1) 2 rfl rfl
    have b2 := HS5.out.cell (k := 2) 2 rfl rfl
    have r0 := HS5.out.cell (k := 0) 0 rfl rfl
    have r1 := HS5.out.cell (k := 1) 0 rfl rfl
    have r2 := HS5.out.cell (k := 2) 0 rfl rfl
    have z0 := HS5.out.frz (k := 0) 0 rfl
    have z1 := HS5.out.frz (k := 1) 0 rfl
    have z2 := HS5.out.frz (k := 2) 0 rfl
    go_wp2
    have HSF := Lib.hid (((HS5.out.setBlk (k := 0) 0 rfl (.slice A0 n0 c0)).setBlk (k := 1) 0 rfl (.slice (some ⟨gg, 0, none⟩) (p.Letters.length + 1) cap)).setBlk (k := 2) 0 rfl (.slice A2 n2 c2))
    have u0 := HSF.out.cell (k := 0) 0 rfl rfl
    have u1 := HSF.out.cell (k := 1) 0 rfl rfl
    have u2 := HSF.out.cell (k := 2) 0 rfl rfl
    exact bodyPost_ret (v := .agg #[(.slice A0 n0 c0), (.slice (some ⟨gg, 0, none⟩) (p.Letters.length + 1) cap), (.slice A2 n2 c2)]) (by simp [results, Try.results83, go_sem, u0, u1, u2]) rfl ⟨_, _, rfl, by rw [HF.out]; exact (shutv_Poll (x := ({ p with Letters := p.Letters ++ [m] })) (HSF.out.sel [3,4,5] (by decide) rfl)).left⟩
  · have HF : Hid (Pl.psend p m = p) := if_neg hl60
    have f1 : ¬ ((p.Letters.length : Nat) : Int) < 60 := by omega
    have r0 := HS.out.cell (k := 0) 0 rfl rfl
    have r1 := HS.out.cell (k := 1) 0 rfl rfl
    have r2 := HS.out.cell (k := 2) 0 rfl rfl
    have z0 := HS.out.frz (k := 0) 0 rfl
    have z1 := HS.out.frz (k := 1) 0 rfl
    have z2 := HS.out.frz (k := 2) 0 rfl
    go_wp2
    have HSF := Lib.hid (((HS.out.setBlk (k := 0) 0 rfl (.slice A0 n0 c0)).setBlk (k := 1) 0 rfl (.slice A1 p.Letters.length c1)).setBlk (k := 2) 0 rfl (.slice A2 n2 c2))
    have u0 := HSF.out.cell (k := 0) 0 rfl rfl
    have u1 := HSF.out.cell (k := 1) 0 rfl rfl
    have u2 := HSF.out.cell (k := 2) 0 rfl rfl
    exact bodyPost_ret (v := .agg #[(.slice A0 n0 c0), (.slice A1 p.Letters.length c1), (.slice A2 n2 c2)]) (by simp [results, Try.results83, go_sem, u0, u1, u2]) rfl ⟨_, _, rfl, by rw [HF.out]; exact (shutv_Poll (x := p) (HSF.out.sel [3,4,5] (by decide) rfl)).left⟩
end Go.Proofs.Ytkhchfbpmmiopaa

/-
  Contracts: the reference's election, by value: who leads, who stands (chapter 8). No conditions beyond those named.
-/
namespace Go.Proofs.Ytkhchfbpmmiopaa
open Go.RowKit
attribute [local go_sem] und_cell cha_cell World.cell?_alloc_some
namespace Mm
/-- append of one element that is a thing of the list, in a region in the order of the text -/
theorem app_thing {P : Program} {F : List Nat} {w0 wr : World} {ts : List Thing} {ops : Array Oper} {rest : List Oper} {o : Oper} {a : Act} {Q : Exit → Act → World → Prop} {α : Type} {E : Rep α} {e : TypeId} {xs : List α} {x : α} {cx : List Value} {v : Value} {fp : List Nat} {m : Nat} {s0 : Thing}
    (hS : SepF F w0 wr ts) (k j : Nat) (hkj : k ≠ j) (hk : ts[k]? = some (tsl E e xs v fp)) (hj : ts[j]? = some s0) (hgd : o.guard = none) (s y : Operand) (t : TypeId)
    (ho : o.op = .call { callee := .builtin .append, args := #[s, y], argTypes := #[t, t] }) (i : TypeInfo) (z : Value) (bytes : Nat)
    (ht : P.underlying t = some (.slice e)) (hi : P.info? e = some i) (hz : i.zero = some z) (hsize : i.size = E.size) (hby : i.bytes = bytes) (hzs : z.cells.size = E.size) (h0 : 0 < E.size)
    (hsv : a.eval s = v) (hyv : a.eval y = .slice (some ⟨wr.heap.size, 0, none⟩) 1 1) (hx : ∀ W, s0.holds W → E.own W x cx s0.fp) (hm : xs.length = m) (h63 : m + 1 ≤ maxLen) (hbytes : (m + 1) * bytes ≤ 140737488355328)
    (h : ∀ g cap w' fp', SepF F w0 w' ((ts.set j tnil).set k (tsl E e (xs ++ [x]) (.slice (some ⟨g, 0, none⟩) (m + 1) cap) fp')) → wpList P ops Q rest (a.put o.dst (.slice (some ⟨g, 0, none⟩) (m + 1) cap)) w') :
    wpList P ops Q (o :: rest) a (wr.alloc (.cells cx.toArray e)) := by
  subst hm
  obtain ⟨l0, ho1, hnext⟩ := hS.push k j hkj hk hj (W2 := wr.alloc (.cells cx.toArray e)) (below_new (Below.refl _ _) _) hx
  have hb : Blk (wr.alloc (.cells cx.toArray e)) wr.heap.size e cx := Blk.new _ _ _
  have hown := hx _ (hS.at_ j hj)
  refine wpList_append_lies _ hgd s y t ho 0 e i z E.size bytes ht hi hz hsize hby hzs h0 v xs.length l0 hsv ho1 ⟨wr.heap.size, 0, none⟩ 1 1 cx hyv (by rw [Nat.one_mul]; exact E.olen hown) ?_ (E.one hown) (by omega) h63 hbytes (Nat.zero_le _) _ rfl ?_
  · have h1 := World.news_of_block hb
    simpa using h1
  · intro gg cap w4 hown1 hgrow hat hlt
    obtain ⟨fp', hs4⟩ := hnext gg cap w4 hown1 hgrow hat
    exact h gg cap w4 fp' hs4
end Mm
theorem l8Majority_c (n hf : Nat) (hn : n ≤ 1000) (hh : n / 2 = hf) (w : World) : Calls Try.prog 73 #[.int .i64 n] w fun e w' => e = .returned (.int .i64 ((hf : Nat) + 1 : Int)) ∧ w = w' := by
  have f0 : wrap64 ((n : Int) / 2) = (hf : Nat) := by rw [IntWalk.wrap64_in _ (by omega)]; omega
  have f1 : IntKind.i64.wrap ((hf : Int) + 1) = (hf : Int) + 1 := IntWalk.i64_in _ (by omega)
  have HH := Lib.hid hh
  clear hh
  go_enter Try.func73, Try.ntmps73
  go_wp2
  go_ret
  exact ⟨by simp; have := HH.out; omega, rfl⟩
set_option maxRecDepth 100000 in
set_option maxHeartbeats 4000000 in
theorem l8Lead_c (p : Poll) (k : Nat) (cs : List Value) (fp : List Nat) (w : World) (h : (Mm.tow rPoll p cs fp).holds w) (hnd : fp.Nodup) (hw : Pl.PW p) (hk : k < p.Nodes.length) :
    Calls Try.prog 100 #[.agg cs.toArray, .int .i64 k] w (PVA (Pl.plead p (k : Int)) fp w) := by
  obtain ⟨A0, n0, c0, A1, n1, c1, A2, n2, c2, f0, f1, f2, rfl, rfl, hs⟩ := openv_Poll (Mm.SepF.one _ w h hnd)
  obtain ⟨g0, rfl, -, -⟩ := Mm.sl_addr (hs.sl 0 rfl) (by omega)
  have hln0 : n0 = p.Nodes.length := by obtain ⟨A', n', c', hv, h1, _⟩ := (hs.sl 0 rfl).form; injection hv with _ h2 _; omega
  have hln2 : n2 = p.Leaders.length := by obtain ⟨A', n', c', hv, h1, _⟩ := (hs.sl 2 rfl).form; injection hv with _ h2 _; omega
  subst hln2
  have hx := hw.at_ (k := (k : Int)) (by omega) (by omega)
  rw [show ((k : Nat) : Int).toNat = k by omega] at hx
  have hn5 := hw.n5
  have hn05 : n0 ≤ 5 := by omega
  have hl300 := hw.leads
  obtain ⟨nd, hnd'⟩ : ∃ nd, Pl.nodeAt p (k : Int) = nd := ⟨_, rfl⟩
  rw [hnd'] at hx
  have HND := Lib.hid hnd'
  have HX := Lib.hid hx
  obtain ⟨ga, hga⟩ : ∃ g, w.heap.size = g := ⟨_, rfl⟩
  obtain ⟨gc, hgc⟩ : ∃ g, ga + 1 = g := ⟨_, rfl⟩
  obtain ⟨W0, hW0⟩ : ∃ W, (w.alloc (.cells #[.slice (some ⟨g0, 0, none⟩) n0 c0, .slice A1 n1 c1, .slice A2 p.Leaders.length c2] 31)).alloc (.cells #[.slice none 0 0, .slice none 0 0, .slice none 0 0] 31) = W := ⟨_, rfl⟩
  have HS := Lib.hid (((hs.alloc' hga 31 [.slice (some ⟨g0, 0, none⟩) n0 c0, .slice A1 n1 c1, .slice A2 p.Leaders.length c2]).alloc' (g := gc) (by rw [Mm.sz1, hga, hgc]) 31 zPoll).atW hW0)
  have HKN := Lib.hid hk
  have hkn : (k : Int) < (n0 : Nat) := by omega
  have hk0 : (0 : Int) ≤ (k : Nat) := by omega
  have hkt : ((k : Nat) : Int).toNat = k := by omega
  have HN0 := Lib.hid hln0
  obtain ⟨hf, hhf⟩ : ∃ hf : Nat, n0 / 2 = hf := ⟨_, rfl⟩
  have HHF : Hid (p.Nodes.length / 2 = hf) := Lib.hid (by rw [← hln0]; exact hhf)
  have CM0 := fun W => l8Majority_c n0 hf (by omega) hhf W
  clear h hs hnd hx hnd' hk hln0 hw hhf
  obtain ⟨A3, m3, d3, e0, e1, e2, e3, e4, hrd, i0', i1', i2', i4'⟩ := node_cells (HS.out.sl 2 rfl) (HS.out.ndat (i := 2) rfl) HX.out
  have HM3 : Hid (nd.Heard.length = m3) := hrd.1
  have HI0 := Lib.hid i0'
  clear hrd i0' i1' i2' i4'
  have b0 := HS.out.cell (k := 0) 1 rfl rfl
  have b1 := HS.out.cell (k := 1) 1 rfl rfl
  have b2 := HS.out.cell (k := 2) 1 rfl rfl
  go_enter Try.func100, Try.ntmps100
  go_upto_region 2 with fail
  obtain ⟨gn, hgn⟩ : ∃ g, W0.heap.size = g := ⟨_, rfl⟩
  obtain ⟨W1, hW1⟩ : ∃ W, W0.alloc (.cells #[.int .i64 nd.Term, .int .i64 nd.Voted, .int .i64 nd.Age, .slice A3 m3 d3, .int .i64 nd.Role] 42) = W := ⟨_, rfl⟩
  replace HS := Lib.hid ((HS.out.alloc' hgn 42 [.int .i64 nd.Term, .int .i64 nd.Voted, .int .i64 nd.Age, .slice A3 m3 d3, .int .i64 nd.Role]).atW hW1)
  rw [hW1, hgn]
  clear hW1 hgn hW0 hga hgc e0 e1 e2 e3 e4 b0 b1 b2
  have q0 := HS.out.cell (k := 0) 0 rfl rfl
  have q3 := HS.out.cell (k := 3) 0 rfl rfl
  have q4 := HS.out.cell (k := 4) 0 rfl rfl
  have b0 := HS.out.cell (k := 0) 2 rfl rfl
  have b1 := HS.out.cell (k := 1) 2 rfl rfl
  have b2 := HS.out.cell (k := 2) 2 rfl rfl
  have CM := fun z : Und W1 => und_same z (CM0 (und W1 z))
  by_cases hcd : nd.Role = 1 ∧ hf + 1 ≤ m3
  rotate_left
  · have HF : Hid (Pl.plead p (k : Int) = p) := Lib.hid (if_neg (by rw [HND.out, HM3.out, HHF.out]; omega))
    by_cases hr : nd.Role = 1
    · have fa : (nd.Role == 1) = true := by rw [hr]; rfl
      have fb : decide ((hf : Int) + 1 ≤ (m3 : Nat)) = false := by simp; omega
      clear hr hcd
      refine wp_region_und (by kernel_rfl) (by kernel_rfl) ?_
      repeat (go_big_quiet_step ((first | (go_at_call 73; with_reducible exact CM _))))
      refine wpQuiet_nil ?_
      intro X hX
      replace HS := Lib.hid (HS.out.step hX)
      clear q0 q3 q4 b0 b1 b2
      have b0 := HS.out.cell (k := 0) 2 rfl rfl
      have b1 := HS.out.cell (k := 1) 2 rfl rfl
      have b2 := HS.out.cell (k := 2) 2 rfl rfl
      have r0 := HS.out.cell (k := 0) 1 rfl rfl
      have r1 := HS.out.cell (k := 1) 1 rfl rfl
      have r2 := HS.out.cell (k := 2) 1 rfl rfl
      have z0 := HS.out.frz (k := 0) 1 rfl
      have z1 := HS.out.frz (k := 1) 1 rfl
      have z2 := HS.out.frz (k := 2) 1 rfl
      go_wp2
      have HSF := Lib.hid (((HS.out.setBlk (k := 0) 1 rfl (.slice (some ⟨g0, 0, none⟩) n0 c0)).setBlk (k := 1) 1 rfl (.slice A1 n1 c1)).setBlk (k := 2) 1 rfl (.slice A2 p.Leaders.length c2))
      have u0 := HSF.out.cell (k := 0) 1 rfl rfl
      have u1 := HSF.out.cell (k := 1) 1 rfl rfl
      have u2 := HSF.out.cell (k := 2) 1 rfl rfl
      exact bodyPost_ret (v := .agg #[(.slice (some ⟨g0, 0, none⟩) n0 c0), (.slice A1 n1 c1), (.slice A2 p.Leaders.length c2)]) (by simp [results, Try.results100, go_sem, u0, u1, u2]) rfl ⟨_, _, rfl, by rw [HF.out]; exact (shutv_Poll (x := p) (HSF.out.sel [3,4,5] (by decide) rfl)).left⟩
    · have fa : (nd.Role == 1) = false := by simpa using hr
      clear hr hcd CM
      refine wp_region_und (by kernel_rfl) (by kernel_rfl) ?_
      repeat (go_big_quiet_step ((first | fail)))
      refine wpQuiet_nil ?_
      intro X hX
      replace HS := Lib.hid (HS.out.step hX)
      clear q0 q3 q4 b0 b1 b2
      have b0 := HS.out.cell (k := 0) 2 rfl rfl
      have b1 := HS.out.cell (k := 1) 2 rfl rfl
      have b2 := HS.out.cell (k := 2) 2 rfl rfl
      have r0 := HS.out.cell (k := 0) 1 rfl rfl
      have r1 := HS.out.cell (k := 1) 1 rfl rfl
      have r2 := HS.out.cell (k := 2) 1 rfl rfl
      have z0 := HS.out.frz (k := 0) 1 rfl
      have z1 := HS.out.frz (k := 1) 1 rfl
      have z2 := HS.out.frz (k := 2) 1 rfl
      go_wp2
      have HSF := Lib.hid (((HS.out.setBlk (k := 0) 1 rfl (.slice (some ⟨g0, 0, none⟩) n0 c0)).setBlk (k := 1) 1 rfl (.slice A1 n1 c1)).setBlk (k := 2) 1 rfl (.slice A2 p.Leaders.length c2))
      have u0 := HSF.out.cell (k := 0) 1 rfl rfl
      have u1 := HSF.out.cell (k := 1) 1 rfl rfl
      have u2 := HSF.out.cell (k := 2) 1 rfl rfl
      exact bodyPost_ret (v := .agg #[(.slice (some ⟨g0, 0, none⟩) n0 c0), (.slice A1 n1 c1), (.slice A2 p.Leaders.length c2)]) (by simp [results, Try.results100, go_sem, u0, u1, u2]) rfl ⟨_, _, rfl, by rw [HF.out]; exact (shutv_Poll (x := p) (HSF.out.sel [3,4,5] (by decide) rfl)).left⟩
  have HF1 : Hid (Pl.plead p (k : Int) = Pl.pcrown (Pl.setNode p (k : Int) (Pl.withRole nd 2)) (k : Int)) := Lib.hid ((if_pos (by rw [HND.out, HM3.out, HHF.out]; omega)).trans (by rw [HND.out]))
  have fa : (nd.Role == 1) = true := by rw [hcd.1]; rfl
  have fb : decide ((hf : Int) + 1 ≤ (m3 : Nat)) = true := by simp; omega
  clear hcd
  refine wp_region_und (by kernel_rfl) (by kernel_rfl) ?_
  repeat (go_big_quiet_step ((first | (go_at_call 73; with_reducible exact CM _))))
  refine wpQuiet_nil ?_
  intro X hX
  replace HS := Lib.hid (HS.out.step hX)
  clear q0 q3 q4 b0 b1 b2 CM CM0
  obtain ⟨A4, m4, d4, e0, e1, e2, e3, e4, -, -, -, -, -⟩ := node_cells (HS.out.sl 3 rfl) (HS.out.ndat (i := 3) rfl) HX.out
  have z4 := (HS.out.sl 3 rfl).frozen (k * 5 + 4)
  have b0 := HS.out.cell (k := 0) 2 rfl rfl
  have b1 := HS.out.cell (k := 1) 2 rfl rfl
  have b2 := HS.out.cell (k := 2) 2 rfl rfl
  have HS2 := Lib.hid (HS.out.nodeNum (k := k) (m := 4) (v := 2) 3 rfl HX.out (by omega) (fun cs fx hh => rNode_set4 hh (by unfold Mm.I64; omega)))
  go_upto_region 4 with fail
  clear e0 e1 e2 e3 e4 b0 b1 b2 z4
  obtain ⟨W3, hW3⟩ : ∃ W3, X.setCell ⟨g0, k * 5 + 4, none⟩ (.int .i64 2) = W3 := ⟨_, rfl⟩
  rw [hW3] at HS2 ⊢
  clear hW3 HS hX
  have hpn : Pl.nodeAt (Pl.setNode p (k : Int) (Pl.withRole nd 2)) (k : Int) = Pl.withRole nd 2 := by rw [Pl.nodeAt_set (by rw [hkt]; exact HKN.out) hk0 hk0, if_pos rfl]
  have b0 := HS2.out.cell (k := 0) 2 rfl rfl
  have b1 := HS2.out.cell (k := 1) 2 rfl rfl
  have b2 := HS2.out.cell (k := 2) 2 rfl rfl
  by_cases h300 : p.Leaders.length < 300
  · have HF : Hid (Pl.plead p (k : Int) = { Pl.setNode p (k : Int) (Pl.withRole nd 2) with Leaders := p.Leaders ++ [[nd.Term, (k : Int)]] }) := Lib.hid (by
      rw [HF1.out]
      refine (if_pos h300).trans ?_
      rw [hpn]
      rfl)
    have fc : ((p.Leaders.length : Nat) : Int) < 300 := by omega
    clear hpn
    obtain ⟨i0, hi, hz0, hz1, hz2⟩ := info_parts Try.infoIntsP
    have q0 := HS2.out.cell (k := 0) 0 rfl rfl
    have HSA := Lib.hid (HS2.out.add (below_new (Below.refl _ _) (.cells #[.int .i64 nd.Term, .int .i64 k] 3)) (t := Mm.tsl Mm.int 3 [nd.Term, (k : Int)] (.slice (some ⟨W3.heap.size, 0, none⟩) 2 2) [W3.heap.size]) (ints_lit W3 [nd.Term, (k : Int)] 2 rfl (fun x hx => by rcases List.mem_cons.1 hx with rfl | hx; exact HI0.out; rw [List.mem_singleton.1 hx]; unfold Mm.I64; omega) (by decide)) (by simp [Mm.tsl]) (by simp [Mm.tsl]))
    go_upto_region 6 with (at_builtin; refine Mm.app_thing (x := [nd.Term, (k : Int)]) (cx := [.slice (some ⟨W3.heap.size, 0, none⟩) 2 2]) HSA.out 6 0 (by decide) rfl rfl rfl (.tmp 34) (.tmp 39) 29 rfl i0 _ 24 Try.underlying29 hi hz0 hz1 hz2 rfl (by decide) rfl (by rw [Mm.sz1]; rfl) (fun W hh => ⟨_, rfl, hh⟩) rfl (by unfold maxLen; omega) (by omega) ?_; intro gg cap w' fp' hs; (have HS4 := Lib.hid hs); clear hs; (clear b0 b1 b2); clear q0; (have b2 := HS4.out.cell (k := 2) 3 rfl rfl); (have y2 := HS4.out.frz (k := 2) 3 rfl))
    clear b2 y2
    obtain ⟨W5, hW5⟩ : ∃ W, w'.setCell ⟨ga, 2, none⟩ (.slice (some ⟨gg, 0, none⟩) (p.Leaders.length + 1) cap) = W := ⟨_, rfl⟩
    have HS5 := Lib.hid ((HS4.out.setBlk (k := 2) 3 rfl (.slice (some ⟨gg, 0, none⟩) (p.Leaders.length + 1) cap)).atW hW5)
    rw [hW5]
    clear hW5
    have b0 := HS5.out.cell (k := 0) 3 rfl rfl
    have b1 := HS5.out.cell (k := 1) 3 rfl rfl
    have b2 := HS5.out.cell (k := 2) 3 rfl rfl
    have r0 := HS5.out.cell (k := 0) 2 rfl rfl
    have r1 := HS5.out.cell (k := 1) 2 rfl rfl
    have r2 := HS5.out.cell (k := 2) 2 rfl rfl
    have z0 := HS5.out.frz (k := 0) 2 rfl
    have z1 := HS5.out.frz (k := 1) 2 rfl
    have z2 := HS5.out.frz (k := 2) 2 rfl
    go_wp2
    have HSF := Lib.hid (((HS5.out.setBlk (k := 0) 2 rfl (.slice (some ⟨g0, 0, none⟩) n0 c0)).setBlk (k := 1) 2 rfl (.slice A1 n1 c1)).setBlk (k := 2) 2 rfl (.slice (some ⟨gg, 0, none⟩) (p.Leaders.length + 1) cap))
    have u0 := HSF.out.cell (k := 0) 2 rfl rfl
    have u1 := HSF.out.cell (k := 1) 2 rfl rfl
    have u2 := HSF.out.cell (k := 2) 2 rfl rfl
    exact bodyPost_ret (v := .agg #[(.slice (some ⟨g0, 0, none⟩) n0 c0), (.slice A1 n1 c1), (.slice (some ⟨gg, 0, none⟩) (p.Leaders.length + 1) cap)]) (by simp [results, Try.results100, go_sem, u0, u1, u2]) rfl ⟨_, _, rfl, by rw [HF.out]; exact (shutv_Poll (x := ({ Pl.setNode p (k : Int) (Pl.withRole nd 2) with Leaders := p.Leaders ++ [[nd.Term, (k : Int)]] })) (HSF.out.sel [4,5,6] (by decide) rfl)).left⟩
  · have HF : Hid (Pl.plead p (k : Int) = Pl.setNode p (k : Int) (Pl.withRole nd 2)) := Lib.hid (by
      rw [HF1.out]
      exact if_neg h300)
    have fc : ¬ ((p.Leaders.length : Nat) : Int) < 300 := by omega
    have r0 := HS2.out.cell (k := 0) 1 rfl rfl
    have r1 := HS2.out.cell (k := 1) 1 rfl rfl
    have r2 := HS2.out.cell (k := 2) 1 rfl rfl
    have z0 := HS2.out.frz (k := 0) 1 rfl
    have z1 := HS2.out.frz (k := 1) 1 rfl
    have z2 := HS2.out.frz (k := 2) 1 rfl
    go_wp2
    have HSF := Lib.hid (((HS2.out.setBlk (k := 0) 1 rfl (.slice (some ⟨g0, 0, none⟩) n0 c0)).setBlk (k := 1) 1 rfl (.slice A1 n1 c1)).setBlk (k := 2) 1 rfl (.slice A2 p.Leaders.length c2))
    have u0 := HSF.out.cell (k := 0) 1 rfl rfl
    have u1 := HSF.out.cell (k := 1) 1 rfl rfl
    have u2 := HSF.out.cell (k := 2) 1 rfl rfl
    exact bodyPost_ret (v := .agg #[(.slice (some ⟨g0, 0, none⟩) n0 c0), (.slice A1 n1 c1), (.slice A2 p.Leaders.length c2)]) (by simp [results, Try.results100, go_sem, u0, u1, u2]) rfl ⟨_, _, rfl, by rw [HF.out]; exact (shutv_Poll (x := (Pl.setNode p (k : Int) (Pl.withRole nd 2))) (HSF.out.sel [3,4,5] (by decide) rfl)).left⟩
end Go.Proofs.Ytkhchfbpmmiopaa

/-
  Contracts: the reference's election, by value: a node stands (chapter 8). No conditions beyond those named.
-/
namespace Go.Proofs.Ytkhchfbpmmiopaa
open Go.RowKit
attribute [local go_sem] und_cell cha_cell World.cell?_alloc_some
set_option maxRecDepth 100000 in
set_option maxHeartbeats 4000000 in
theorem l8Stand_c (p : Poll) (k : Nat) (cs : List Value) (fp : List Nat) (w : World) (h : (Mm.tow rPoll p cs fp).holds w) (hnd : fp.Nodup) (hw : Pl.PW p) (hk : k < p.Nodes.length) (ht : (Pl.nodeAt p (k : Int)).Term ≠ 200) :
    Calls Try.prog 82 #[.agg cs.toArray, .int .i64 k] w (PVA (Pl.pstand p (k : Int)) fp w) := by
  obtain ⟨A0, n0, c0, A1, n1, c1, A2, n2, c2, f0, f1, f2, rfl, rfl, hs⟩ := openv_Poll (Mm.SepF.one _ w h hnd)
  obtain ⟨g0, rfl, -, -⟩ := Mm.sl_addr (hs.sl 0 rfl) (by omega)
  have hln0 : n0 = p.Nodes.length := by obtain ⟨A', n', c', hv, h1, _⟩ := (hs.sl 0 rfl).form; injection hv with _ h2 _; omega
  have hx := hw.at_ (k := (k : Int)) (by omega) (by omega)
  rw [show ((k : Nat) : Int).toNat = k by omega] at hx
  have hn5 := hw.n5
  have hn05 : n0 ≤ 5 := by omega
  have hno := hw.nok (k := (k : Int)) (by omega) (by omega)
  obtain ⟨nd, hnd'⟩ : ∃ nd, Pl.nodeAt p (k : Int) = nd := ⟨_, rfl⟩
  rw [hnd'] at hx hno ht
  have HNO := Lib.hid hno
  have HND := Lib.hid hnd'
  have HX := Lib.hid hx
  obtain ⟨ga, hga⟩ : ∃ g, w.heap.size = g := ⟨_, rfl⟩
  obtain ⟨gc, hgc⟩ : ∃ g, ga + 1 = g := ⟨_, rfl⟩
  obtain ⟨W0, hW0⟩ : ∃ W, (w.alloc (.cells #[.slice (some ⟨g0, 0, none⟩) n0 c0, .slice A1 n1 c1, .slice A2 n2 c2] 31)).alloc (.cells #[.slice none 0 0, .slice none 0 0, .slice none 0 0] 31) = W := ⟨_, rfl⟩
  have HS := Lib.hid (((hs.alloc' hga 31 [.slice (some ⟨g0, 0, none⟩) n0 c0, .slice A1 n1 c1, .slice A2 n2 c2]).alloc' (g := gc) (by rw [Mm.sz1, hga, hgc]) 31 zPoll).atW hW0)
  have HKN := Lib.hid hk
  have hkn : (k : Int) < (n0 : Nat) := by omega
  have hk0 : (0 : Int) ≤ (k : Nat) := by omega
  have hkt : ((k : Nat) : Int).toNat = k := by omega
  have HN0 := Lib.hid hln0
  have HW := Lib.hid hw
  have HT := Lib.hid ht
  have hterm := hno.term
  clear h hs hnd hx hnd' hk hln0 hw hno ht
  obtain ⟨A3, m3, d3, e0, e1, e2, e3, e4, hrd, -, -, -, -⟩ := node_cells (HS.out.sl 2 rfl) (HS.out.ndat (i := 2) rfl) HX.out
  clear hrd
  have b0 := HS.out.cell (k := 0) 1 rfl rfl
  have b1 := HS.out.cell (k := 1) 1 rfl rfl
  have b2 := HS.out.cell (k := 2) 1 rfl rfl
  have fb : IntKind.i64.wrap (nd.Term + 1) = nd.Term + 1 := IntWalk.i64_in _ (by omega)
  go_enter Try.func82, Try.ntmps82
  go_upto_region 2 with fail
  obtain ⟨gn, hgn⟩ : ∃ g, W0.heap.size = g := ⟨_, rfl⟩
  obtain ⟨W1, hW1⟩ : ∃ W, W0.alloc (.cells #[.int .i64 nd.Term, .int .i64 nd.Voted, .int .i64 nd.Age, .slice A3 m3 d3, .int .i64 nd.Role] 42) = W := ⟨_, rfl⟩
  replace HS := Lib.hid ((HS.out.alloc' hgn 42 [.int .i64 nd.Term, .int .i64 nd.Voted, .int .i64 nd.Age, .slice A3 m3 d3, .int .i64 nd.Role]).atW hW1)
  rw [hW1, hgn]
  clear hW1 hgn hW0 hga hgc e0 e1 e2 e3 e4 b0 b1 b2
  have hIk : Mm.I64 (k : Int) := by unfold Mm.I64; omega
  obtain ⟨fx, hst⟩ := HS.out.nodeStore 3 rfl HX.out
  obtain ⟨fp1, hs3⟩ := hst (W1.alloc (.cells #[.int .i64 k] 3)) ⟨nd.Term + 1, (k : Int), nd.Age, [(k : Int)], 1⟩ (some ⟨W1.heap.size, 0, none⟩) 1 1 [W1.heap.size] (by unfold Mm.I64; show _ ≤ nd.Term + 1 ∧ nd.Term + 1 ≤ _; omega) hIk (by unfold Mm.I64; show _ ≤ nd.Age ∧ nd.Age ≤ _; have := HNO.out.age; omega) (by unfold Mm.I64; show _ ≤ (1 : Int) ∧ (1 : Int) ≤ _; omega) (((Mm.SepF.start W1).add (below_new (Below.refl _ _) (.cells #[.int .i64 k] 3)) (t := Mm.tsl Mm.int 3 [(k : Int)] (.slice (some ⟨W1.heap.size, 0, none⟩) 1 1) [W1.heap.size]) (ints_lit W1 [(k : Int)] 1 rfl (fun x hx => by rw [List.mem_singleton.1 hx]; exact hIk) (by decide)) (by simp [Mm.tsl]) (by simp [Mm.tsl])).widen)
  have HS3 := Lib.hid hs3
  have HSB := Lib.hid (HS.out.step (below_new (Below.refl _ _) (.cells #[.int .i64 k] 3)))
  obtain ⟨A6, m6, d6, e0, e1, e2, e3, e4, -, -, -, -, -⟩ := node_cells (HSB.out.sl 3 rfl) (HSB.out.ndat (i := 3) rfl) HX.out
  have z0 := (HSB.out.sl 3 rfl).frozen (k * 5)
  have z1 := (HSB.out.sl 3 rfl).frozen (k * 5 + 1)
  have z2 := (HSB.out.sl 3 rfl).frozen (k * 5 + 2)
  have z3 := (HSB.out.sl 3 rfl).frozen (k * 5 + 3)
  have z4 := (HSB.out.sl 3 rfl).frozen (k * 5 + 4)
  have q0 := HS.out.cell (k := 0) 0 rfl rfl
  have q2 := HS.out.cell (k := 2) 0 rfl rfl
  have b0 := HS.out.cell (k := 0) 2 rfl rfl
  have b1 := HS.out.cell (k := 1) 2 rfl rfl
  have b2 := HS.out.cell (k := 2) 2 rfl rfl
  clear hst hs3
  go_upto_region 3 with fail
  clear e0 e1 e2 e3 e4 z0 z1 z2 z3 z4 q0 q2 b0 b1 b2
  obtain ⟨W5, hW5⟩ : ∃ V, (((((W1.alloc (.cells #[.int .i64 k] 3)).setCell ⟨g0, k * 5, none⟩ (.int .i64 (nd.Term + 1))).setCell ⟨g0, k * 5 + 1, none⟩ (.int .i64 k)).setCell ⟨g0, k * 5 + 2, none⟩ (.int .i64 nd.Age)).setCell ⟨g0, k * 5 + 3, none⟩ (.slice (some ⟨W1.heap.size, 0, none⟩) 1 1)).setCell ⟨g0, k * 5 + 4, none⟩ (.int .i64 1) = V := ⟨_, rfl⟩
  rw [hW5] at HS3 ⊢
  clear hW5 HSB HS
  obtain ⟨p1, hp1⟩ : ∃ p1, Pl.setNode p (k : Int) ⟨nd.Term + 1, (k : Int), nd.Age, [(k : Int)], 1⟩ = p1 := ⟨_, rfl⟩
  have HPE : Hid (Pl.pstand p (k : Int) = Pl.plead (Pl.pasks p1 (k : Int) (nd.Term + 1) nd.Age n0) (k : Int)) := Lib.hid (by
    unfold Pl.pstand
    rw [HND.out, hp1, HN0.out])
  have hpw1 : Pl.PW p1 := by
    rw [← hp1]
    refine HW.out.set ?_
    have hn := HNO.out
    have hkn' := HKN.out
    exact ⟨by show 0 ≤ nd.Term + 1 ∧ nd.Term + 1 ≤ 200; have := HT.out; omega, by show (-1 : Int) ≤ (k : Int) ∧ (k : Int) ≤ _; omega, hn.age, List.pairwise_singleton _ _, fun i hi => by rw [List.mem_singleton.1 hi]; omega, ⟨show (0:Int) ≤ 1 by omega, show (1:Int) ≤ 2 by omega⟩, fun hh => by cases hh⟩
  have HP := Lib.hid hpw1
  have HL0 : Hid (p1.Nodes.length = n0) := Lib.hid (by rw [← hp1, Pl.set_len]; exact HN0.out.symm)
  have HS4 := Lib.hid (shutv_Poll (x := p1) (by have h := HS3.out.sel [3, 4, 5, 2, 1, 0] (by decide) rfl; rw [← hp1]; unfold Pl.setNode; rw [hkt]; exact h))
  have hT1 : 1 ≤ nd.Term + 1 ∧ nd.Term + 1 ≤ 200 := by have := HT.out; omega
  have hA1 := HNO.out.age
  clear hpw1 hp1 HS3
  have b0 := HS4.out.cell (k := 0) 1 rfl rfl
  have b1 := HS4.out.cell (k := 1) 1 rfl rfl
  have b2 := HS4.out.cell (k := 2) 1 rfl rfl
  go_upto_region 4 with fail
  clear b0 b1 b2
  go_loopg [28] n0 (fun gg i wr => ∃ (j : Nat) (cj : List Value) (fj : List Nat), n0 - j ≤ gg ∧ j ≤ n0 ∧ i = .int .i64 j ∧ Hid (Mm.SepF (f0 ++ (f1 ++ f2)) w wr [Mm.tow rPoll (Pl.pasks p1 (k : Int) (nd.Term + 1) nd.Age j) cj fj, Mm.tblk ga 31 cj, Mm.tblk gc 31 zPoll, Mm.tblk gn 42 [.int .i64 nd.Term, .int .i64 nd.Voted, .int .i64 nd.Age, .slice A3 m3 d3, .int .i64 nd.Role]]))
  case atStart => exact ⟨0, _, _, Nat.le_refl _, Nat.zero_le _, rfl, HS4⟩
  case round =>
    clear HS4
    obtain ⟨j, cj, fj, hgj, hj, rfl, HS⟩ := hrel
    obtain ⟨W, rfl⟩ : ∃ W : World, W = wr := ⟨_, rfl⟩
    have hkn : (k : Int) < (n0 : Nat) := by have := HKN.out; have := HN0.out; omega
    have hn05 : n0 ≤ 5 := by omega
    obtain ⟨B0, m0, d0, B1, m1, d1, B2, m2, d2, rfl⟩ := own_formP (HS.out.at_ 0 rfl)
    by_cases hlt : j < n0
    · have fc : (j : Int) < (n0 : Nat) := by omega
      by_cases hjk : (j : Int) = (k : Int)
      · have fd : ((j : Int) != (k : Int)) = false := by simp [hjk]
        have HJ : Hid (Pl.pasks p1 (k : Int) (nd.Term + 1) nd.Age (j + 1) = Pl.pasks p1 (k : Int) (nd.Term + 1) nd.Age j) := Lib.hid (by rw [Pl.pasks, if_pos hjk])
        clear hjk
        go_wp2
        go_roundg (n0 - (j + 1))
        case measure => omega
        case rel => exact ⟨j + 1, _, _, Nat.le_refl _, by omega, by go_num, by rw [HJ.out]; exact HS⟩
      · have fd : ((j : Int) != (k : Int)) = true := by simpa using hjk
        have HJ : Hid (Pl.pasks p1 (k : Int) (nd.Term + 1) nd.Age (j + 1) = Pl.psend (Pl.pasks p1 (k : Int) (nd.Term + 1) nd.Age j) ⟨(k : Int), (j : Int), nd.Term + 1, true, nd.Age⟩) := Lib.hid (by rw [Pl.pasks, if_neg hjk])
        have HL60 := Lib.hid (HP.out.asks (k := (k : Int)) (t := nd.Term + 1) (a := nd.Age) (by rw [HL0.out]; omega) hT1 hA1 j (by rw [HL0.out]; omega)).lets
        clear hjk
        obtain ⟨Q, hQ⟩ : ∃ Q, Pl.pasks p1 (k : Int) (nd.Term + 1) nd.Age j = Q := ⟨_, rfl⟩
        rw [hQ] at HS HL60 HJ
        clear hQ
        have CS := l8Write_c Q ⟨(k : Int), (j : Int), nd.Term + 1, true, nd.Age⟩ _ _ W (HS.out.at_ 0 rfl) (HS.out.ndat (i := 0) rfl) ⟨by unfold Mm.I64; show _ ≤ (k : Int) ∧ (k : Int) ≤ _; omega, by unfold Mm.I64; show _ ≤ (j : Int) ∧ (j : Int) ≤ _; omega, by unfold Mm.I64; show _ ≤ nd.Term + 1 ∧ nd.Term + 1 ≤ _; omega, by unfold Mm.I64; show _ ≤ nd.Age ∧ nd.Age ≤ _; omega⟩ HL60.out
        have b0 := HS.out.cell (k := 0) 1 rfl rfl
        have b1 := HS.out.cell (k := 1) 1 rfl rfl
        have b2 := HS.out.cell (k := 2) 1 rfl rfl
        have q0 := HS.out.cell (k := 0) 3 rfl rfl
        have q2 := HS.out.cell (k := 2) 3 rfl rfl
        go_wp2_with (go_at_call 83; (with_reducible refine CS.mono ?_); clear CS; rintro e w6 ⟨cq, fq, rfl, hL⟩; obtain ⟨C0, x0, y0, C1, x1, y1, C2, x2, y2, rfl⟩ := own_formP hL.2.2.2; (have HS7 := Lib.hid (HS.out.call 0 rfl hL)); clear hL; (clear b0 b1 b2); clear q0 q2; (have r0 := HS7.out.cell (k := 0) 1 rfl rfl); (have r1 := HS7.out.cell (k := 1) 1 rfl rfl); (have r2 := HS7.out.cell (k := 2) 1 rfl rfl); (have z0 := HS7.out.frz (k := 0) 1 rfl); (have z1 := HS7.out.frz (k := 1) 1 rfl); (have z2 := HS7.out.frz (k := 2) 1 rfl))
        have HS8 := Lib.hid (((HS7.out.setBlk (k := 0) 1 rfl (.slice C0 x0 y0)).setBlk (k := 1) 1 rfl (.slice C1 x1 y1)).setBlk (k := 2) 1 rfl (.slice C2 x2 y2))
        clear r0 r1 r2 z0 z1 z2
        go_roundg (n0 - (j + 1))
        case measure => omega
        case rel => exact ⟨j + 1, _, _, Nat.le_refl _, by omega, by go_num, by rw [HJ.out]; exact HS8⟩
    · obtain rfl : j = n0 := by omega
      have fc : ¬ (j : Int) < (j : Nat) := by omega
      have HPA := Lib.hid (HP.out.asks (k := (k : Int)) (t := nd.Term + 1) (a := nd.Age) (by rw [HL0.out]; omega) hT1 hA1 j (by rw [HL0.out]; omega))
      have hsn := (Pl.pasks_same p1 (k : Int) (nd.Term + 1) nd.Age j).1
      have CL := l8Lead_c (Pl.pasks p1 (k : Int) (nd.Term + 1) nd.Age j) k _ _ W (HS.out.at_ 0 rfl) (HS.out.ndat (i := 0) rfl) HPA.out (by rw [hsn, HL0.out]; omega)
      clear hsn
      have b0 := HS.out.cell (k := 0) 1 rfl rfl
      have b1 := HS.out.cell (k := 1) 1 rfl rfl
      have b2 := HS.out.cell (k := 2) 1 rfl rfl
      go_wp2_with (go_at_call 100; (with_reducible refine CL.mono ?_); clear CL; rintro e w6 ⟨cq, fq, rfl, hL⟩; obtain ⟨C0, x0, y0, C1, x1, y1, C2, x2, y2, rfl⟩ := own_formP hL.2.2.2; (have HS7 := Lib.hid (HS.out.call 0 rfl hL)); clear hL; (clear b0 b1 b2); (have r0 := HS7.out.cell (k := 0) 2 rfl rfl); (have r1 := HS7.out.cell (k := 1) 2 rfl rfl); (have r2 := HS7.out.cell (k := 2) 2 rfl rfl); (have z0 := HS7.out.frz (k := 0) 2 rfl); (have z1 := HS7.out.frz (k := 1) 2 rfl); (have z2 := HS7.out.frz (k := 2) 2 rfl))
      have HS8 := Lib.hid (((HS7.out.setBlk (k := 0) 2 rfl (.slice C0 x0 y0)).setBlk (k := 1) 2 rfl (.slice C1 x1 y1)).setBlk (k := 2) 2 rfl (.slice C2 x2 y2))
      have u0 := HS8.out.cell (k := 0) 2 rfl rfl
      have u1 := HS8.out.cell (k := 1) 2 rfl rfl
      have u2 := HS8.out.cell (k := 2) 2 rfl rfl
      exact bodyPost_ret (v := .agg #[.slice C0 x0 y0, .slice C1 x1 y1, .slice C2 x2 y2]) (by simp [results, Try.results82, go_sem, u0, u1, u2]) rfl ⟨_, _, rfl, by rw [HPE.out]; exact (HS8.out.sel [0] (by decide) rfl).left⟩
end Go.Proofs.Ytkhchfbpmmiopaa

/-
  Contracts: the reference's election, by value: a letter is taken (chapter 8). No conditions beyond those named.
-/
namespace Go.Proofs.Ytkhchfbpmmiopaa
open Go.RowKit
attribute [local go_sem] und_cell cha_cell World.cell?_alloc_some
set_option maxRecDepth 100000 in
theorem l1PutHas_c (l : List Int) (t : Int) (A : Option Addr) (n c : Nat) (w : World) (B : Nat) (hl : Mm.SlAt Mm.int w B l A n c) (hs : l.Pairwise (· < ·)) (hn : n ≤ 1000) (hin : t ∈ l) :
    Calls Try.prog 101 #[.slice A n c, .int .i64 t] w fun e w' => e = .returned (.slice A n c) ∧ w = w' := by
  have HL := Lib.hid hl
  have HSO := Lib.hid hs
  have HIN := Lib.hid hin
  clear hl hs hin
  go_enter Try.func101, Try.ntmps101
  go_wp2
  go_loop [5] (fun i => ∃ k : Nat, k ≤ n ∧ i = .int .i64 k ∧ Hid (∀ (i : Nat) x, i < k → l[i]? = some x → x < t)) (fun i => n - (intOf i).toNat)
  case atStart => exact ⟨0, Nat.zero_le _, rfl, Lib.hid (fun j x hj => absurd hj (Nat.not_lt_zero _))⟩
  case round =>
    obtain ⟨k, hk, rfl, HA⟩ := hrel
    have hlt : k < n := by
      obtain ⟨i, hi, hx⟩ := List.mem_iff_getElem.1 HIN.out
      have h1 : ¬ i < k := fun h => by
        have := HA.out i _ h (List.getElem?_eq_getElem hi)
        rw [hx] at this; omega
      have := HL.out.1; omega
    obtain ⟨x, b, off, hx, rfl, hb, i1, e0⟩ := int_get HL.out hlt
    by_cases hxt : x < t
    · have HN : Hid (∀ (i : Nat) y, i < k + 1 → l[i]? = some y → y < t) := Lib.hid (fun i y hi hy => by
        rcases Nat.lt_succ_iff_lt_or_eq.1 hi with h1 | rfl
        · exact HA.out i y h1 hy
        · rw [hx] at hy; injection hy with hy; rw [← hy]; exact hxt)
      have f1 : (k : Int) < (n : Nat) := by omega
      have f2 : decide (x < t) = true := by simpa using hxt
      clear hxt hx i1
      go_wp2
      go_round
      case rel => exact ⟨k + 1, by omega, by go_num, HN⟩
      case measure => simp [intOf]; omega
    · have hxe : x = t := by
        obtain ⟨i, hi, hit⟩ := List.mem_iff_getElem.1 HIN.out
        have hkl : k < l.length := by have := HL.out.1; omega
        have hxk : l[k] = x := by rw [List.getElem?_eq_getElem hkl] at hx; injection hx
        rcases Nat.lt_trichotomy i k with h1 | h1 | h1
        · have := HA.out i _ h1 (List.getElem?_eq_getElem hi); omega
        · subst h1; rw [← hxk, ← hit]
        · have h2 := List.pairwise_iff_getElem.1 HSO.out k i hkl hi h1
          omega
      subst hxe
      have f1 : (k : Int) < (n : Nat) := by omega
      clear hxt hx i1
      go_wp2
      go_ret
      exact ⟨rfl, rfl⟩
set_option maxRecDepth 100000 in
set_option maxHeartbeats 4000000 in
theorem l8Take_c (p : Poll) (m : Letter) (cs : List Value) (fp : List Nat) (w : World) (h : (Mm.tow rPoll p cs fp).holds w) (hnd : fp.Nodup) (hw : Pl.PW p) (hm : Pl.LetOk p.Nodes.length m) :
    Calls Try.prog 84 #[.agg cs.toArray, .agg #[.int .i64 m.From, .int .i64 m.To, .int .i64 m.Term, .bool m.Ask, .int .i64 m.Age]] w (PVA (Pl.ptake p m) fp w) := by
  have HMO := Lib.hid hm
  obtain ⟨fr, ds, tm, ask, ag⟩ := m
  obtain ⟨k, rfl⟩ : ∃ k : Nat, ds = k := ⟨ds.toNat, by have := hm.dst.1; dsimp only at this; omega⟩
  have hk : k < p.Nodes.length := by have := hm.dst.2; dsimp only at this; omega
  obtain ⟨A0, n0, c0, A1, n1, c1, A2, n2, c2, f0, f1, f2, rfl, rfl, hs⟩ := openv_Poll (Mm.SepF.one _ w h hnd)
  obtain ⟨g0, rfl, -, -⟩ := Mm.sl_addr (hs.sl 0 rfl) (by omega)
  have hln0 : n0 = p.Nodes.length := by obtain ⟨A', n', c', hv, h1, _⟩ := (hs.sl 0 rfl).form; injection hv with _ h2 _; omega
  have hx := hw.at_ (k := (k : Int)) (by omega) (by omega)
  rw [show ((k : Nat) : Int).toNat = k by omega] at hx
  have hn5 := hw.n5
  have hn05 : n0 ≤ 5 := by omega
  have hno := hw.nok (k := (k : Int)) (by omega) (by omega)
  obtain ⟨nd, hnd'⟩ : ∃ nd, Pl.nodeAt p (k : Int) = nd := ⟨_, rfl⟩
  rw [hnd'] at hx hno
  have HNO := Lib.hid hno
  have HND := Lib.hid hnd'
  have HX := Lib.hid hx
  obtain ⟨ga, hga⟩ : ∃ g, w.heap.size = g := ⟨_, rfl⟩
  obtain ⟨gb, hgb⟩ : ∃ g, ga + 1 = g := ⟨_, rfl⟩
  obtain ⟨gc, hgc⟩ : ∃ g, gb + 1 = g := ⟨_, rfl⟩
  obtain ⟨W0, hW0⟩ : ∃ W, ((w.alloc (.cells #[.slice (some ⟨g0, 0, none⟩) n0 c0, .slice A1 n1 c1, .slice A2 n2 c2] 31)).alloc (.cells #[.int .i64 fr, .int .i64 k, .int .i64 tm, .bool ask, .int .i64 ag] 84)).alloc (.cells #[.slice none 0 0, .slice none 0 0, .slice none 0 0] 31) = W := ⟨_, rfl⟩
  have HS := Lib.hid ((((hs.alloc' hga 31 [.slice (some ⟨g0, 0, none⟩) n0 c0, .slice A1 n1 c1, .slice A2 n2 c2]).alloc' (g := gb) (by rw [Mm.sz1, hga, hgb]) 84 [.int .i64 fr, .int .i64 k, .int .i64 tm, .bool ask, .int .i64 ag]).alloc' (g := gc) (by rw [Mm.sz2, hga]; omega) 31 zPoll).atW hW0)
  have HKN := Lib.hid hk
  have hkn : (k : Int) < (n0 : Nat) := by omega
  have hk0 : (0 : Int) ≤ (k : Nat) := by omega
  have hkt : ((k : Nat) : Int).toNat = k := by omega
  have HN0 := Lib.hid hln0
  have HW := Lib.hid hw
  clear h hs hnd hx hnd' hk hln0 hw hno hm
  obtain ⟨A3, m3', d3, e0, e1, e2, e3, e4, hrd, -, -, -, -⟩ := node_cells (HS.out.sl 3 rfl) (HS.out.ndat (i := 3) rfl) HX.out
  clear hrd
  have b0 := HS.out.cell (k := 0) 2 rfl rfl
  have b1 := HS.out.cell (k := 1) 2 rfl rfl
  have b2 := HS.out.cell (k := 2) 2 rfl rfl
  have l1 := HS.out.cell (k := 1) 1 rfl rfl
  go_enter Try.func84, Try.ntmps84
  go_upto_region 2 with fail
  obtain ⟨gn, hgn⟩ : ∃ g, W0.heap.size = g := ⟨_, rfl⟩
  obtain ⟨W1, hW1⟩ : ∃ W, W0.alloc (.cells #[.int .i64 nd.Term, .int .i64 nd.Voted, .int .i64 nd.Age, .slice A3 m3' d3, .int .i64 nd.Role] 42) = W := ⟨_, rfl⟩
  have e3' := below_some (by rw [← hW1]; exact below_new (Below.refl _ _) _ : Below W0.heap.size W0 W1) e3
  replace HS := Lib.hid ((HS.out.alloc' hgn 42 [.int .i64 nd.Term, .int .i64 nd.Voted, .int .i64 nd.Age, .slice A3 m3' d3, .int .i64 nd.Role]).atW hW1)
  rw [hW1, hgn]
  clear hW1 hgn hW0 hga hgb hgc e0 e1 e2 e3 e4 b0 b1 b2 l1
  have HE3 := Lib.hid e3'
  clear e3'
  obtain ⟨lt1, hlt1⟩ : ∃ b, decide (nd.Term < tm) = b := ⟨_, rfl⟩
  have HLT := Lib.hid hlt1
  have hlt2 : decide (nd.Term < tm) = lt1 := hlt1
  have m0 := HS.out.cell (k := 0) 2 rfl rfl
  have m1 := HS.out.cell (k := 1) 2 rfl rfl
  have m2 := HS.out.cell (k := 2) 2 rfl rfl
  have m3 := HS.out.cell (k := 3) 2 rfl rfl
  have m4 := HS.out.cell (k := 4) 2 rfl rfl
  have q0 := HS.out.cell (k := 0) 0 rfl rfl
  have q1 := HS.out.cell (k := 1) 0 rfl rfl
  have q2 := HS.out.cell (k := 2) 0 rfl rfl
  have q3 := HS.out.cell (k := 3) 0 rfl rfl
  have q4 := HS.out.cell (k := 4) 0 rfl rfl
  have b0 := HS.out.cell (k := 0) 3 rfl rfl
  have b1 := HS.out.cell (k := 1) 3 rfl rfl
  have b2 := HS.out.cell (k := 2) 3 rfl rfl
  go_upto_if 16 with fail
  clear hlt1 hlt2
  clear m0 m1 m2 m3 m4 q0 q1 q2 q3 q4 b0 b1 b2
  go_cut [] (fun wx => ∃ (nq : Node) (f0' : List Nat) (AH : Option Addr) (mH dH : Nat), Hid (Pl.nodeAt (Pl.pnews p ⟨fr, (k : Int), tm, ask, ag⟩) (k : Int) = nq ∧ wx.cell? ⟨g0, k * 5 + 3, none⟩ = some (.slice AH mH dH) ∧ Mm.SepF (f0 ++ (f1 ++ f2)) w wx [Mm.tblk gn 42 [.int .i64 nq.Term, .int .i64 nq.Voted, .int .i64 nq.Age, .slice AH mH dH, .int .i64 nq.Role], Mm.tblk gc 31 zPoll, Mm.tblk gb 84 [.int .i64 fr, .int .i64 k, .int .i64 tm, .bool ask, .int .i64 ag], Mm.tblk ga 31 [.slice (some ⟨g0, 0, none⟩) n0 c0, .slice A1 n1 c1, .slice A2 n2 c2], Mm.tsl rNode 42 (Pl.pnews p ⟨fr, (k : Int), tm, ask, ag⟩).Nodes (.slice (some ⟨g0, 0, none⟩) n0 c0) f0', Mm.tsl rLetter 84 p.Letters (.slice A1 n1 c1) f1, Mm.tsl ints 23 p.Leaders (.slice A2 n2 c2) f2]))
  case first =>
    cases lt1 with
    | false =>
      have HF : Hid (Pl.pnews p ⟨fr, (k : Int), tm, ask, ag⟩ = p) := Lib.hid (if_neg (by have h1 := HLT.out; simp only [decide_eq_false_iff_not] at h1; show ¬ (Pl.nodeAt p (k : Int)).Term < tm; rw [HND.out]; exact h1))
      go_wp2_with fail
      go_meet
      exact ⟨nd, f0, A3, m3', d3, Lib.hid (by rw [HF.out]; exact ⟨HND.out, HE3.out, HS.out⟩)⟩
    | true =>
      have HF : Hid (Pl.pnews p ⟨fr, (k : Int), tm, ask, ag⟩ = Pl.setNode p (k : Int) ⟨tm, -1, nd.Age, [], 0⟩) := Lib.hid ((if_pos (by have h1 := HLT.out; simp only [decide_eq_true_eq] at h1; show (Pl.nodeAt p (k : Int)).Term < tm; rw [HND.out]; exact h1)).trans (by show Pl.setNode p (k : Int) ⟨tm, -1, (Pl.nodeAt p (k : Int)).Age, [], 0⟩ = _; rw [HND.out]))
      have htm := HMO.out.term
      dsimp only at htm
      have m0 := HS.out.cell (k := 0) 2 rfl rfl
      have m1 := HS.out.cell (k := 1) 2 rfl rfl
      have m2 := HS.out.cell (k := 2) 2 rfl rfl
      have m3 := HS.out.cell (k := 3) 2 rfl rfl
      have m4 := HS.out.cell (k := 4) 2 rfl rfl
      have q0 := HS.out.cell (k := 0) 0 rfl rfl
      have q1 := HS.out.cell (k := 1) 0 rfl rfl
      have q2 := HS.out.cell (k := 2) 0 rfl rfl
      have q3 := HS.out.cell (k := 3) 0 rfl rfl
      have q4 := HS.out.cell (k := 4) 0 rfl rfl
      have b0 := HS.out.cell (k := 0) 3 rfl rfl
      have b1 := HS.out.cell (k := 1) 3 rfl rfl
      have b2 := HS.out.cell (k := 2) 3 rfl rfl
      have z0 := HS.out.frz (k := 0) 0 rfl
      have z1 := HS.out.frz (k := 1) 0 rfl
      have z2 := HS.out.frz (k := 2) 0 rfl
      have z3 := HS.out.frz (k := 3) 0 rfl
      have z4 := HS.out.frz (k := 4) 0 rfl
      have HS2 := Lib.hid (((((HS.out.setBlk (k := 0) 0 rfl (.int .i64 tm)).setBlk (k := 1) 0 rfl (.int .i64 (-1))).setBlk (k := 2) 0 rfl (.int .i64 nd.Age)).setBlk (k := 3) 0 rfl (.slice none 0 0)).setBlk (k := 4) 0 rfl (.int .i64 0))
      go_upto_region 4 with fail
      clear z0 z1 z2 z3 z4
      clear m0 m1 m2 m3 m4 q0 q1 q2 q3 q4 b0 b1 b2
      obtain ⟨W2, hW2⟩ : ∃ V, ((((W1.setCell ⟨gn, 0, none⟩ (.int .i64 tm)).setCell ⟨gn, 1, none⟩ (.int .i64 (-1))).setCell ⟨gn, 2, none⟩ (.int .i64 nd.Age)).setCell ⟨gn, 3, none⟩ (.slice none 0 0)).setCell ⟨gn, 4, none⟩ (.int .i64 0) = V := ⟨_, rfl⟩
      rw [hW2] at HS2 ⊢
      clear hW2
      obtain ⟨A6, m6, d6, e0, e1, e2, e3, e4, -, -, -, -, -⟩ := node_cells (HS2.out.sl 4 rfl) (HS2.out.ndat (i := 4) rfl) HX.out
      have z0 := (HS2.out.sl 4 rfl).frozen (k * 5)
      have z1 := (HS2.out.sl 4 rfl).frozen (k * 5 + 1)
      have z2 := (HS2.out.sl 4 rfl).frozen (k * 5 + 2)
      have z3 := (HS2.out.sl 4 rfl).frozen (k * 5 + 3)
      have z4 := (HS2.out.sl 4 rfl).frozen (k * 5 + 4)
      obtain ⟨fx, hst⟩ := HS2.out.nodeStore 4 rfl HX.out
      obtain ⟨fp1, hs3⟩ := hst W2 ⟨tm, -1, nd.Age, [], 0⟩ none 0 0 [] (by unfold Mm.I64; show _ ≤ tm ∧ tm ≤ _; omega) (by unfold Mm.I64; show _ ≤ (-1 : Int) ∧ (-1 : Int) ≤ _; omega) (by unfold Mm.I64; show _ ≤ nd.Age ∧ nd.Age ≤ _; have := HNO.out.age; omega) (by unfold Mm.I64; show _ ≤ (0 : Int) ∧ (0 : Int) ≤ _; omega) (((Mm.SepF.start _).add (Below.refl _ _) (t := Mm.tsl Mm.int 3 [] (.slice none 0 0) []) Mm.SlOwn.nil List.nodup_nil (fun b hb => by cases hb)).widen)
      have HS3 := Lib.hid hs3
      clear hst hs3
      have m0 := HS2.out.cell (k := 0) 2 rfl rfl
      have m1 := HS2.out.cell (k := 1) 2 rfl rfl
      have m2 := HS2.out.cell (k := 2) 2 rfl rfl
      have m3 := HS2.out.cell (k := 3) 2 rfl rfl
      have m4 := HS2.out.cell (k := 4) 2 rfl rfl
      have q0 := HS2.out.cell (k := 0) 0 rfl rfl
      have q1 := HS2.out.cell (k := 1) 0 rfl rfl
      have q2 := HS2.out.cell (k := 2) 0 rfl rfl
      have q3 := HS2.out.cell (k := 3) 0 rfl rfl
      have q4 := HS2.out.cell (k := 4) 0 rfl rfl
      have b0 := HS2.out.cell (k := 0) 3 rfl rfl
      have b1 := HS2.out.cell (k := 1) 3 rfl rfl
      have b2 := HS2.out.cell (k := 2) 3 rfl rfl
      go_wp2_with fail
      go_meet
      have hx3 : (p.Nodes.set k (⟨tm, -1, nd.Age, [], 0⟩ : Node))[k]? = some (⟨tm, -1, nd.Age, [], 0⟩ : Node) := List.getElem?_set_self HKN.out
      refine ⟨⟨tm, -1, nd.Age, [], 0⟩, fp1, none, 0, 0, Lib.hid ⟨?_, ?_, ?_⟩⟩
      · rw [HF.out, Pl.nodeAt_set (by rw [hkt]; exact HKN.out) hk0 hk0, if_pos rfl]
      · rw [World.cell?_setCell_other _ _ _ _ (by simp)]
        exact World.cell?_setCell_same _ _ _ (by rw [World.cell?_setCell_other _ _ _ _ (by simp), World.cell?_setCell_other _ _ _ _ (by simp), World.cell?_setCell_other _ _ _ _ (by simp)]; exact e3)
      · rw [HF.out]; unfold Pl.setNode; rw [hkt]; exact HS3.out
  case rest =>
  clear HS HE3
  obtain ⟨nq, f0', AH, mH, dH, HC⟩ := hcut
  obtain ⟨q, hq⟩ : ∃ q, Pl.pnews p ⟨fr, (k : Int), tm, ask, ag⟩ = q := ⟨_, rfl⟩
  have hpw := Pl.PW.news HW.out HMO.out
  have hsh := Pl.pnews_shape p ⟨fr, (k : Int), tm, ask, ag⟩
  rw [hq] at HC hpw hsh
  have hnq := HC.out.1
  have hpt : tm ≤ nq.Term := by rw [← hnq]; exact hpw.2
  have HPW := Lib.hid hpw.1
  have hxq := hpw.1.at_ (k := (k : Int)) (by omega) (by rw [hsh.2.2]; have := HKN.out; omega)
  rw [hkt, hnq] at hxq
  have HX := Lib.hid hxq
  have HNQ := Lib.hid hnq
  have HF0 : Hid (Pl.ptake p ⟨fr, (k : Int), tm, ask, ag⟩ = Pl.ptakeN q ⟨fr, (k : Int), tm, ask, ag⟩) := Lib.hid (by unfold Pl.ptake; rw [hq])
  have HQ0 : Hid (q.Nodes.length = n0) := Lib.hid (by rw [hsh.2.2]; exact HN0.out.symm)
  have HCE := Lib.hid HC.out.2.1
  have HS := Lib.hid HC.out.2.2
  rw [← hsh.1, ← hsh.2.1] at HS
  have HMO2 : Hid (Pl.LetOk q.Nodes.length ⟨fr, (k : Int), tm, ask, ag⟩) := Lib.hid (by rw [hsh.2.2]; exact HMO.out)
  clear hq hpw hsh hnq hxq HN0 HKN HW HND HLT HMO HC
  have m0 := HS.out.cell (k := 0) 2 rfl rfl
  have m1 := HS.out.cell (k := 1) 2 rfl rfl
  have m2 := HS.out.cell (k := 2) 2 rfl rfl
  have m3 := HS.out.cell (k := 3) 2 rfl rfl
  have m4 := HS.out.cell (k := 4) 2 rfl rfl
  have q0 := HS.out.cell (k := 0) 0 rfl rfl
  have q1 := HS.out.cell (k := 1) 0 rfl rfl
  have q2 := HS.out.cell (k := 2) 0 rfl rfl
  have q3 := HS.out.cell (k := 3) 0 rfl rfl
  have q4 := HS.out.cell (k := 4) 0 rfl rfl
  have b0 := HS.out.cell (k := 0) 3 rfl rfl
  have b1 := HS.out.cell (k := 1) 3 rfl rfl
  have b2 := HS.out.cell (k := 2) 3 rfl rfl
  by_cases htm : tm = nq.Term
  rotate_left
  · have HF : Hid (Pl.ptake p ⟨fr, (k : Int), tm, ask, ag⟩ = q) := Lib.hid (by rw [HF0.out]; exact if_pos (by show tm < (Pl.nodeAt q (k : Int)).Term; rw [HNQ.out]; omega))
    have fa : tm < nq.Term := by omega
    clear htm
    have r0 := HS.out.cell (k := 0) 1 rfl rfl
    have r1 := HS.out.cell (k := 1) 1 rfl rfl
    have r2 := HS.out.cell (k := 2) 1 rfl rfl
    have z0 := HS.out.frz (k := 0) 1 rfl
    have z1 := HS.out.frz (k := 1) 1 rfl
    have z2 := HS.out.frz (k := 2) 1 rfl
    go_wp2
    have HSF := Lib.hid (((HS.out.setBlk (k := 0) 1 rfl (.slice (some ⟨g0, 0, none⟩) n0 c0)).setBlk (k := 1) 1 rfl (.slice A1 n1 c1)).setBlk (k := 2) 1 rfl (.slice A2 n2 c2))
    have u0 := HSF.out.cell (k := 0) 1 rfl rfl
    have u1 := HSF.out.cell (k := 1) 1 rfl rfl
    have u2 := HSF.out.cell (k := 2) 1 rfl rfl
    exact bodyPost_ret (v := .agg #[(.slice (some ⟨g0, 0, none⟩) n0 c0), (.slice A1 n1 c1), (.slice A2 n2 c2)]) (by simp [results, Try.results84, go_sem, u0, u1, u2]) rfl ⟨_, _, rfl, by rw [HF.out]; exact (shutv_Poll (x := q) (HSF.out.sel [4,5,6] (by decide) rfl)).left⟩
  have fa : ¬ tm < nq.Term := by omega
  have HTM := Lib.hid htm
  have HF1 : Hid (Pl.ptake p ⟨fr, (k : Int), tm, ask, ag⟩ = if ask = true then (if (nq.Voted = -1 ∨ nq.Voted = fr) ∧ nq.Age ≤ ag then Pl.pgive q ⟨fr, (k : Int), tm, ask, ag⟩ else q) else if nq.Role = 1 then Pl.pcount q ⟨fr, (k : Int), tm, ask, ag⟩ else q) := Lib.hid (by
    rw [HF0.out]
    unfold Pl.ptakeN
    dsimp only
    rw [HNQ.out, if_neg (by omega)])
  clear htm HF0
  have HN : Hid (Pl.NodeOk q.Nodes.length nq) := Lib.hid (by rw [← HNQ.out]; exact HPW.out.nok (k := (k : Int)) hk0 (by rw [HQ0.out]; exact hkn))
  have hfr : 0 ≤ fr ∧ fr < (n0 : Nat) := by have := HMO2.out.src; dsimp only at this; have := HQ0.out; omega
  have hfi : Mm.I64 fr := by unfold Mm.I64; omega
  have HFI := Lib.hid hfi
  clear hfi
  cases ask with
  | true =>
    rw [if_pos rfl] at HF1
    by_cases hcnd : (nq.Voted = -1 ∨ nq.Voted = fr) ∧ nq.Age ≤ ag
    · have HF : Hid (Pl.ptake p ⟨fr, (k : Int), tm, true, ag⟩ = Pl.psend (Pl.setNode q (k : Int) (Pl.withVoted nq fr)) ⟨(k : Int), fr, tm, false, 0⟩) := Lib.hid (by
        rw [HF1.out, if_pos hcnd]
        unfold Pl.pgive
        dsimp only
        rw [HNQ.out])
      have fc : nq.Age ≤ ag := hcnd.2
      have HV : Hid (nq.Voted = -1 ∨ nq.Voted = fr) := Lib.hid hcnd.1
      clear hcnd
      have HTMI := HMO2.out.term
      dsimp only at HTMI
      obtain ⟨A6, m6, d6, e0, e1, e2, e3, e4, -, -, -, -, -⟩ := node_cells (HS.out.sl 4 rfl) (HS.out.ndat (i := 4) rfl) HX.out
      have z1' := (HS.out.sl 4 rfl).frozen (k * 5 + 1)
      have HS5 := Lib.hid (HS.out.nodeNum (k := k) (m := 1) (v := fr) 4 rfl HX.out (by omega) (fun cs fx hh => rNode_set1 hh HFI.out))
      go_upto_region 8 with fail
      by_cases hv1 : nq.Voted = -1
      · have fd : (nq.Voted == -1) = true := by simpa using hv1
        clear hv1 HV
        go_upto_region 10 with fail
        clear m0 m1 m2 m3 m4 q0 q1 q2 q3 q4 b0 b1 b2
        clear e0 e1 e2 e3 e4 z1' HS
        obtain ⟨W5, hW5⟩ : ∃ V, wc.setCell ⟨g0, k * 5 + 1, none⟩ (.int .i64 fr) = V := ⟨_, rfl⟩
        rw [hW5] at HS5 ⊢
        clear hW5
        have HT := Lib.hid (shutv_Poll (x := Pl.setNode q (k : Int) (Pl.withVoted nq fr)) (by have h := HS5.out.sel [4, 5, 6, 3, 2, 1, 0] (by decide) rfl; unfold Pl.setNode Pl.withVoted; rw [hkt]; exact h))
        have CS := l8Write_c (Pl.setNode q (k : Int) (Pl.withVoted nq fr)) ⟨(k : Int), fr, tm, false, 0⟩ _ _ W5 (HT.out.at_ 0 rfl) (HT.out.ndat (i := 0) rfl) ⟨by unfold Mm.I64; show _ ≤ (k : Int) ∧ (k : Int) ≤ _; omega, HFI.out, by unfold Mm.I64; show _ ≤ tm ∧ tm ≤ _; omega, by unfold Mm.I64; show _ ≤ (0 : Int) ∧ (0 : Int) ≤ _; omega⟩ HPW.out.lets
        have b0 := HT.out.cell (k := 0) 1 rfl rfl
        have b1 := HT.out.cell (k := 1) 1 rfl rfl
        have b2 := HT.out.cell (k := 2) 1 rfl rfl
        have m0 := HT.out.cell (k := 0) 2 rfl rfl
        have m1 := HT.out.cell (k := 1) 2 rfl rfl
        have m2 := HT.out.cell (k := 2) 2 rfl rfl
        go_upto_region 11 with (go_at_call 83; (with_reducible refine CS.mono ?_); clear CS; rintro e w6 ⟨cq, fq, rfl, hL⟩; obtain ⟨C0, x0, y0, C1, x1, y1, C2, x2, y2, rfl⟩ := own_formP hL.2.2.2; (have HS7 := Lib.hid (HT.out.call 0 rfl hL)); clear hL; (clear b0 b1 b2); clear m0 m1 m2; (have r0 := HS7.out.cell (k := 0) 1 rfl rfl); (have r1 := HS7.out.cell (k := 1) 1 rfl rfl); (have r2 := HS7.out.cell (k := 2) 1 rfl rfl); (have z0 := HS7.out.frz (k := 0) 1 rfl); (have z1 := HS7.out.frz (k := 1) 1 rfl); (have z2 := HS7.out.frz (k := 2) 1 rfl))
        have HS8 := Lib.hid (((HS7.out.setBlk (k := 0) 1 rfl (.slice C0 x0 y0)).setBlk (k := 1) 1 rfl (.slice C1 x1 y1)).setBlk (k := 2) 1 rfl (.slice C2 x2 y2))
        clear r0 r1 r2 z0 z1 z2
        obtain ⟨W7, hW7⟩ : ∃ V, ((w6.setCell ⟨ga, 0, none⟩ (.slice C0 x0 y0)).setCell ⟨ga, 1, none⟩ (.slice C1 x1 y1)).setCell ⟨ga, 2, none⟩ (.slice C2 x2 y2) = V := ⟨_, rfl⟩
        rw [hW7] at HS8 ⊢
        clear hW7
        have b0 := HS8.out.cell (k := 0) 1 rfl rfl
        have b1 := HS8.out.cell (k := 1) 1 rfl rfl
        have b2 := HS8.out.cell (k := 2) 1 rfl rfl
        have r0 := HS8.out.cell (k := 0) 3 rfl rfl
        have r1 := HS8.out.cell (k := 1) 3 rfl rfl
        have r2 := HS8.out.cell (k := 2) 3 rfl rfl
        have z0 := HS8.out.frz (k := 0) 3 rfl
        have z1 := HS8.out.frz (k := 1) 3 rfl
        have z2 := HS8.out.frz (k := 2) 3 rfl
        go_wp2
        have HS9 := Lib.hid (((HS8.out.setBlk (k := 0) 3 rfl (.slice C0 x0 y0)).setBlk (k := 1) 3 rfl (.slice C1 x1 y1)).setBlk (k := 2) 3 rfl (.slice C2 x2 y2))
        have u0 := HS9.out.cell (k := 0) 3 rfl rfl
        have u1 := HS9.out.cell (k := 1) 3 rfl rfl
        have u2 := HS9.out.cell (k := 2) 3 rfl rfl
        exact bodyPost_ret (v := .agg #[.slice C0 x0 y0, .slice C1 x1 y1, .slice C2 x2 y2]) (by simp [results, Try.results84, go_sem, u0, u1, u2]) rfl ⟨_, _, rfl, by rw [HF.out]; exact (HS9.out.sel [0] (by decide) rfl).left⟩
      · have fd : (nq.Voted == -1) = false := by simpa using hv1
        have fe : (nq.Voted == fr) = true := by rcases HV.out with h | h; exact absurd h hv1; rw [h]; simp
        clear hv1 HV
        go_upto_region 10 with fail
        clear m0 m1 m2 m3 m4 q0 q1 q2 q3 q4 b0 b1 b2
        clear e0 e1 e2 e3 e4 z1' HS
        obtain ⟨W5, hW5⟩ : ∃ V, wc.setCell ⟨g0, k * 5 + 1, none⟩ (.int .i64 fr) = V := ⟨_, rfl⟩
        rw [hW5] at HS5 ⊢
        clear hW5
        have HT := Lib.hid (shutv_Poll (x := Pl.setNode q (k : Int) (Pl.withVoted nq fr)) (by have h := HS5.out.sel [4, 5, 6, 3, 2, 1, 0] (by decide) rfl; unfold Pl.setNode Pl.withVoted; rw [hkt]; exact h))
        have CS := l8Write_c (Pl.setNode q (k : Int) (Pl.withVoted nq fr)) ⟨(k : Int), fr, tm, false, 0⟩ _ _ W5 (HT.out.at_ 0 rfl) (HT.out.ndat (i := 0) rfl) ⟨by unfold Mm.I64; show _ ≤ (k : Int) ∧ (k : Int) ≤ _; omega, HFI.out, by unfold Mm.I64; show _ ≤ tm ∧ tm ≤ _; omega, by unfold Mm.I64; show _ ≤ (0 : Int) ∧ (0 : Int) ≤ _; omega⟩ HPW.out.lets
        have b0 := HT.out.cell (k := 0) 1 rfl rfl
        have b1 := HT.out.cell (k := 1) 1 rfl rfl
        have b2 := HT.out.cell (k := 2) 1 rfl rfl
        have m0 := HT.out.cell (k := 0) 2 rfl rfl
        have m1 := HT.out.cell (k := 1) 2 rfl rfl
        have m2 := HT.out.cell (k := 2) 2 rfl rfl
        go_upto_region 11 with (go_at_call 83; (with_reducible refine CS.mono ?_); clear CS; rintro e w6 ⟨cq, fq, rfl, hL⟩; obtain ⟨C0, x0, y0, C1, x1, y1, C2, x2, y2, rfl⟩ := own_formP hL.2.2.2; (have HS7 := Lib.hid (HT.out.call 0 rfl hL)); clear hL; (clear b0 b1 b2); clear m0 m1 m2; (have r0 := HS7.out.cell (k := 0) 1 rfl rfl); (have r1 := HS7.out.cell (k := 1) 1 rfl rfl); (have r2 := HS7.out.cell (k := 2) 1 rfl rfl); (have z0 := HS7.out.frz (k := 0) 1 rfl); (have z1 := HS7.out.frz (k := 1) 1 rfl); (have z2 := HS7.out.frz (k := 2) 1 rfl))
        have HS8 := Lib.hid (((HS7.out.setBlk (k := 0) 1 rfl (.slice C0 x0 y0)).setBlk (k := 1) 1 rfl (.slice C1 x1 y1)).setBlk (k := 2) 1 rfl (.slice C2 x2 y2))
        clear r0 r1 r2 z0 z1 z2
        obtain ⟨W7, hW7⟩ : ∃ V, ((w6.setCell ⟨ga, 0, none⟩ (.slice C0 x0 y0)).setCell ⟨ga, 1, none⟩ (.slice C1 x1 y1)).setCell ⟨ga, 2, none⟩ (.slice C2 x2 y2) = V := ⟨_, rfl⟩
        rw [hW7] at HS8 ⊢
        clear hW7
        have b0 := HS8.out.cell (k := 0) 1 rfl rfl
        have b1 := HS8.out.cell (k := 1) 1 rfl rfl
        have b2 := HS8.out.cell (k := 2) 1 rfl rfl
        have r0 := HS8.out.cell (k := 0) 3 rfl rfl
        have r1 := HS8.out.cell (k := 1) 3 rfl rfl
        have r2 := HS8.out.cell (k := 2) 3 rfl rfl
        have z0 := HS8.out.frz (k := 0) 3 rfl
        have z1 := HS8.out.frz (k := 1) 3 rfl
        have z2 := HS8.out.frz (k := 2) 3 rfl
        go_wp2
        have HS9 := Lib.hid (((HS8.out.setBlk (k := 0) 3 rfl (.slice C0 x0 y0)).setBlk (k := 1) 3 rfl (.slice C1 x1 y1)).setBlk (k := 2) 3 rfl (.slice C2 x2 y2))
        have u0 := HS9.out.cell (k := 0) 3 rfl rfl
        have u1 := HS9.out.cell (k := 1) 3 rfl rfl
        have u2 := HS9.out.cell (k := 2) 3 rfl rfl
        exact bodyPost_ret (v := .agg #[.slice C0 x0 y0, .slice C1 x1 y1, .slice C2 x2 y2]) (by simp [results, Try.results84, go_sem, u0, u1, u2]) rfl ⟨_, _, rfl, by rw [HF.out]; exact (HS9.out.sel [0] (by decide) rfl).left⟩
    · have HF : Hid (Pl.ptake p ⟨fr, (k : Int), tm, true, ag⟩ = q) := Lib.hid (by rw [HF1.out, if_neg hcnd])
      have HCN := Lib.hid hcnd
      clear hcnd
      have r0 := HS.out.cell (k := 0) 1 rfl rfl
      have r1 := HS.out.cell (k := 1) 1 rfl rfl
      have r2 := HS.out.cell (k := 2) 1 rfl rfl
      have z0 := HS.out.frz (k := 0) 1 rfl
      have z1 := HS.out.frz (k := 1) 1 rfl
      have z2 := HS.out.frz (k := 2) 1 rfl
      go_upto_region 8 with fail
      by_cases hv1 : nq.Voted = -1
      · have fd : (nq.Voted == -1) = true := by simpa using hv1
        have fc : ¬ nq.Age ≤ ag := fun hh => HCN.out ⟨.inl hv1, hh⟩
        clear hv1
        go_wp2
        have HSF := Lib.hid (((HS.out.setBlk (k := 0) 1 rfl (.slice (some ⟨g0, 0, none⟩) n0 c0)).setBlk (k := 1) 1 rfl (.slice A1 n1 c1)).setBlk (k := 2) 1 rfl (.slice A2 n2 c2))
        have u0 := HSF.out.cell (k := 0) 1 rfl rfl
        have u1 := HSF.out.cell (k := 1) 1 rfl rfl
        have u2 := HSF.out.cell (k := 2) 1 rfl rfl
        exact bodyPost_ret (v := .agg #[(.slice (some ⟨g0, 0, none⟩) n0 c0), (.slice A1 n1 c1), (.slice A2 n2 c2)]) (by simp [results, Try.results84, go_sem, u0, u1, u2]) rfl ⟨_, _, rfl, by rw [HF.out]; exact (shutv_Poll (x := q) (HSF.out.sel [4,5,6] (by decide) rfl)).left⟩
      · have fd : (nq.Voted == -1) = false := by simpa using hv1
        by_cases hv2 : nq.Voted = fr
        · have fe : (nq.Voted == fr) = true := by rw [hv2]; simp
          have fc : ¬ nq.Age ≤ ag := fun hh => HCN.out ⟨.inr hv2, hh⟩
          clear hv1 hv2
          go_wp2
          have HSF := Lib.hid (((HS.out.setBlk (k := 0) 1 rfl (.slice (some ⟨g0, 0, none⟩) n0 c0)).setBlk (k := 1) 1 rfl (.slice A1 n1 c1)).setBlk (k := 2) 1 rfl (.slice A2 n2 c2))
          have u0 := HSF.out.cell (k := 0) 1 rfl rfl
          have u1 := HSF.out.cell (k := 1) 1 rfl rfl
          have u2 := HSF.out.cell (k := 2) 1 rfl rfl
          exact bodyPost_ret (v := .agg #[(.slice (some ⟨g0, 0, none⟩) n0 c0), (.slice A1 n1 c1), (.slice A2 n2 c2)]) (by simp [results, Try.results84, go_sem, u0, u1, u2]) rfl ⟨_, _, rfl, by rw [HF.out]; exact (shutv_Poll (x := q) (HSF.out.sel [4,5,6] (by decide) rfl)).left⟩
        · have fe : (nq.Voted == fr) = false := by simpa using hv2
          clear hv1 hv2
          go_wp2
          have HSF := Lib.hid (((HS.out.setBlk (k := 0) 1 rfl (.slice (some ⟨g0, 0, none⟩) n0 c0)).setBlk (k := 1) 1 rfl (.slice A1 n1 c1)).setBlk (k := 2) 1 rfl (.slice A2 n2 c2))
          have u0 := HSF.out.cell (k := 0) 1 rfl rfl
          have u1 := HSF.out.cell (k := 1) 1 rfl rfl
          have u2 := HSF.out.cell (k := 2) 1 rfl rfl
          exact bodyPost_ret (v := .agg #[(.slice (some ⟨g0, 0, none⟩) n0 c0), (.slice A1 n1 c1), (.slice A2 n2 c2)]) (by simp [results, Try.results84, go_sem, u0, u1, u2]) rfl ⟨_, _, rfl, by rw [HF.out]; exact (shutv_Poll (x := q) (HSF.out.sel [4,5,6] (by decide) rfl)).left⟩
  | false =>
    rw [if_neg (by simp)] at HF1
    by_cases hr1 : nq.Role = 1
    rotate_left
    · have HF : Hid (Pl.ptake p ⟨fr, (k : Int), tm, false, ag⟩ = Pl.plead q (k : Int)) := Lib.hid (by
        rw [HF1.out, if_neg hr1]
        exact (if_neg (fun hh => hr1 (by rw [← HNQ.out]; exact hh.1))).symm)
      have fd : (nq.Role == 1) = false := by simpa using hr1
      clear hr1
      have HT := Lib.hid (shutv_Poll (x := q) (HS.out.sel [4, 5, 6, 3, 2, 1, 0] (by decide) rfl))
      go_upto_region 14 with fail
      clear m0 m1 m2 m3 m4 q0 q1 q2 q3 q4 b0 b1 b2
      have CL := l8Lead_c q k _ _ wc (HT.out.at_ 0 rfl) (HT.out.ndat (i := 0) rfl) HPW.out (by first | (rw [HQ0.out]; omega) | (rw [Pl.set_len, HQ0.out]; omega))
      have b0 := HT.out.cell (k := 0) 1 rfl rfl
      have b1 := HT.out.cell (k := 1) 1 rfl rfl
      have b2 := HT.out.cell (k := 2) 1 rfl rfl
      have m1 := HT.out.cell (k := 1) 2 rfl rfl
      go_wp2_with (go_at_call 100; (with_reducible refine CL.mono ?_); clear CL; rintro e w6 ⟨cq, fq, rfl, hL⟩; obtain ⟨C0, x0, y0, C1, x1, y1, C2, x2, y2, rfl⟩ := own_formP hL.2.2.2; (have HS7 := Lib.hid (HT.out.call 0 rfl hL)); clear hL; (clear b0 b1 b2); clear m1; (have r0 := HS7.out.cell (k := 0) 3 rfl rfl); (have r1 := HS7.out.cell (k := 1) 3 rfl rfl); (have r2 := HS7.out.cell (k := 2) 3 rfl rfl); (have z0 := HS7.out.frz (k := 0) 3 rfl); (have z1 := HS7.out.frz (k := 1) 3 rfl); (have z2 := HS7.out.frz (k := 2) 3 rfl))
      have HS9 := Lib.hid (((HS7.out.setBlk (k := 0) 3 rfl (.slice C0 x0 y0)).setBlk (k := 1) 3 rfl (.slice C1 x1 y1)).setBlk (k := 2) 3 rfl (.slice C2 x2 y2))
      have u0 := HS9.out.cell (k := 0) 3 rfl rfl
      have u1 := HS9.out.cell (k := 1) 3 rfl rfl
      have u2 := HS9.out.cell (k := 2) 3 rfl rfl
      exact bodyPost_ret (v := .agg #[.slice C0 x0 y0, .slice C1 x1 y1, .slice C2 x2 y2]) (by simp [results, Try.results84, go_sem, u0, u1, u2]) rfl ⟨_, _, rfl, by rw [HF.out]; exact (HS9.out.sel [0] (by decide) rfl).left⟩
    have HR1 := Lib.hid hr1
    have fd : (nq.Role == 1) = true := by rw [hr1]; rfl
    clear hr1
    have HF : Hid (Pl.ptake p ⟨fr, (k : Int), tm, false, ag⟩ = Pl.plead (Pl.setNode q (k : Int) (Pl.withHeard nq (Pl.putI nq.Heard fr))) (k : Int)) := Lib.hid (by
      rw [HF1.out, if_pos HR1.out]
      unfold Pl.pcount
      dsimp only
      rw [HNQ.out])
    have HPC : Hid (Pl.PW (Pl.setNode q (k : Int) (Pl.withHeard nq (Pl.putI nq.Heard fr)))) := Lib.hid (by
      have h := HPW.out.count (k := (k : Int)) (fr := fr) hk0 (by rw [HQ0.out]; exact hkn) (by rw [HQ0.out]; exact hfr) (by rw [HNQ.out]; exact HR1.out)
      rw [HNQ.out] at h; exact h)
    obtain ⟨A5, m5, d5, fx, ec, hml, hso, hfn, hfx, hnext⟩ := HS.out.nodeHeard 4 rfl HX.out
    rw [HCE.out] at ec
    injection ec with ec
    injection ec with t1 t2 t3
    subst t1 t2 t3
    have HNX := Lib.hid hnext
    have n0' : g0 ∉ fx := fun hh => (hfx _ hh).2 rfl
    have hlt0 : g0 < wc.heap.size := (HS.out.sl 4 rfl).olt g0 (HS.out.sl 4 rfl).mem_block
    have zf := (HS.out.sl 4 rfl).frozen (k * 5 + 3)
    have hm5 : mH ≤ 1000 := by rw [hml]; have h5 := Pl.rising_bound nq.Heard 0 n0 HN.out.heard (fun i hi => by have := HN.out.hin i hi; have := HQ0.out; omega); rw [if_pos (by omega)] at h5; omega
    have HGO := Lib.hid (And.intro hso hfn)
    have hwk := hso.weak hso.olt
    clear hnext hfx hml hso hfn
    by_cases hin : fr ∈ nq.Heard
    · have CP := fun z : Und wc => und_same z (l1PutHas_c nq.Heard fr AH mH dH (und wc z) wc.heap.size (hwk.und (Nat.le_refl _) z) HN.out.heard hm5 hin)
      have hpu : Pl.putI nq.Heard fr = nq.Heard := Pl.putI_has _ _ HN.out.heard hin
      have HPU := Lib.hid hpu
      clear hin hpu hwk
      go_upto_region 13 with fail
      refine wp_region_und_tail 11 (by kernel_rfl) (by kernel_rfl) ?_
      simp only [List.take_succ_cons, List.take_zero, List.drop_succ_cons, List.drop_zero]
      repeat (go_big_quiet_step ((first | (go_at_call 101; with_reducible exact CP _))))
      refine wpQuiet_nil ?_
      intro X hX
      clear CP
      obtain ⟨fp7, hs7⟩ := HNX.out X nq.Heard AH mH dH fx ((Mm.SepF.one (Mm.tsl Mm.int 3 nq.Heard (.slice AH mH dH) fx) wc HGO.out.1 HGO.out.2).step hX)
      have ec6 := below_some hX HCE.out
      have z36 : X.frozen? ⟨g0, k * 5 + 3, none⟩ = false := (World.frozen?_of_block (hX.block g0 hlt0)).trans zf
      have HS7 := Lib.hid hs7
      clear m0 m1 m2 m3 m4 q0 q1 q2 q3 q4 b0 b1 b2
      clear hs7 n0' zf hlt0 HNX HGO HCE hX
      go_upto_region 14 with fail
      clear ec6 z36
      obtain ⟨XT, hXT⟩ : ∃ XT, X.setCell ⟨g0, k * 5 + 3, none⟩ (.slice AH mH dH) = XT := ⟨_, rfl⟩
      rw [hXT] at HS7 ⊢
      clear hXT
      have HT := Lib.hid (shutv_Poll (x := Pl.setNode q (k : Int) (Pl.withHeard nq (Pl.putI nq.Heard fr))) (by have h := HS7.out.sel [4, 5, 6, 3, 2, 1, 0] (by decide) rfl; rw [HPU.out]; unfold Pl.setNode Pl.withHeard; rw [hkt]; exact h))
      have CL := l8Lead_c (Pl.setNode q (k : Int) (Pl.withHeard nq (Pl.putI nq.Heard fr))) k _ _ XT (HT.out.at_ 0 rfl) (HT.out.ndat (i := 0) rfl) HPC.out (by first | (rw [HQ0.out]; omega) | (rw [Pl.set_len, HQ0.out]; omega))
      have b0 := HT.out.cell (k := 0) 1 rfl rfl
      have b1 := HT.out.cell (k := 1) 1 rfl rfl
      have b2 := HT.out.cell (k := 2) 1 rfl rfl
      have m1 := HT.out.cell (k := 1) 2 rfl rfl
      go_wp2_with (go_at_call 100; (with_reducible refine CL.mono ?_); clear CL; rintro e w6 ⟨cq, fq, rfl, hL⟩; obtain ⟨C0, x0, y0, C1, x1, y1, C2, x2, y2, rfl⟩ := own_formP hL.2.2.2; (have HS7 := Lib.hid (HT.out.call 0 rfl hL)); clear hL; (clear b0 b1 b2); clear m1; (have r0 := HS7.out.cell (k := 0) 3 rfl rfl); (have r1 := HS7.out.cell (k := 1) 3 rfl rfl); (have r2 := HS7.out.cell (k := 2) 3 rfl rfl); (have z0 := HS7.out.frz (k := 0) 3 rfl); (have z1 := HS7.out.frz (k := 1) 3 rfl); (have z2 := HS7.out.frz (k := 2) 3 rfl))
      have HS9 := Lib.hid (((HS7.out.setBlk (k := 0) 3 rfl (.slice C0 x0 y0)).setBlk (k := 1) 3 rfl (.slice C1 x1 y1)).setBlk (k := 2) 3 rfl (.slice C2 x2 y2))
      have u0 := HS9.out.cell (k := 0) 3 rfl rfl
      have u1 := HS9.out.cell (k := 1) 3 rfl rfl
      have u2 := HS9.out.cell (k := 2) 3 rfl rfl
      exact bodyPost_ret (v := .agg #[.slice C0 x0 y0, .slice C1 x1 y1, .slice C2 x2 y2]) (by simp [results, Try.results84, go_sem, u0, u1, u2]) rfl ⟨_, _, rfl, by rw [HF.out]; exact (HS9.out.sel [0] (by decide) rfl).left⟩
    · have hno : Pl.hasI nq.Heard fr = false := by
        cases hh : Pl.hasI nq.Heard fr with
        | false => rfl
        | true => exact absurd (Pl.hasI_iff.1 hh) hin
      have CP := fun (W : World) (hB : wc.heap.size ≤ W.heap.size) (hl : Mm.SlAt Mm.int W wc.heap.size nq.Heard AH mH dH) => l1Put_c nq.Heard fr AH mH dH W wc.heap.size hl hB HN.out.heard hm5 HFI.out hno
      clear hin hno
      have HWK := Lib.hid hwk
      clear hwk
      go_upto_region 13 with fail
      refine Mm.wp_region_give 11 (fun i => match i with | 8 => some (Mm.gSl Mm.int 3 (Pl.insI nq.Heard fr)) | _ => none) (fun _ => []) (fun _ => []) (F := []) (D := fun w' => ∃ x : Und wc, w' = und wc x) (fun X us h => Mm.sep_und h) (by kernel_rfl) (by kernel_rfl) (by kernel_rfl) (Mm.SepF.startDrew _) ?_
      repeat (refine Mm.give_det (by rfl) (by rfl) (by rfl) (fun K hK => ?_); go_big_quiet_op; refine hK _ ?_; clear hK K)
      refine Mm.give_op0 82 (by rfl) rfl (by rfl) (by rfl) (by rfl) (by rfl) Mm.gSl_in (fun others X6 hX6 => ?_) ?_
      · go_wp2_with (go_at_call 101; (with_reducible refine (CP X6 hX6.bel0.size (HWK.out.keep fun b hb => hX6.bel0.block b hb)).mono ?_); rintro e w5 ⟨A', n', c', fp', rfl, ho, hnd5, hnew, hb5⟩)
        exact Mm.gvq_sl hX6 hb5 ho hnd5 hnew rfl rfl
      rintro v ds ⟨A6, n6, c6, f6, rfl, rfl, hn6⟩
      simp only [Act.put, List.setIfInBounds_toArray, List.set_cons_succ, List.set_cons_zero]
      repeat (refine Mm.give_det (by rfl) (by rfl) (by rfl) (fun K hK => ?_); go_big_quiet_op; refine hK _ ?_; clear hK K)
      refine Mm.give_nil ?_
      rintro X hX6
      have hX : Below wc.heap.size wc X := hX6.bel0
      obtain ⟨fp7, hs7⟩ := HNX.out X (Pl.putI nq.Heard fr) A6 n6 c6 f6 (Mm.SepF.widen (Mm.sep_eq hX6 rfl))
      have ec6 := below_some hX HCE.out
      have z36 : X.frozen? ⟨g0, k * 5 + 3, none⟩ = false := (World.frozen?_of_block (hX.block g0 hlt0)).trans zf
      have HS7 := Lib.hid hs7
      clear m0 m1 m2 m3 m4 q0 q1 q2 q3 q4 b0 b1 b2
      clear hs7 n0' zf hlt0 HNX HGO HCE hX hX6 CP
      go_upto_region 14 with fail
      clear ec6 z36
      obtain ⟨XT, hXT⟩ : ∃ XT, X.setCell ⟨g0, k * 5 + 3, none⟩ (.slice A6 n6 c6) = XT := ⟨_, rfl⟩
      rw [hXT] at HS7 ⊢
      clear hXT
      have HT := Lib.hid (shutv_Poll (x := Pl.setNode q (k : Int) (Pl.withHeard nq (Pl.putI nq.Heard fr))) (by have h := HS7.out.sel [4, 5, 6, 3, 2, 1, 0] (by decide) rfl; unfold Pl.setNode Pl.withHeard; rw [hkt]; exact h))
      have CL := l8Lead_c (Pl.setNode q (k : Int) (Pl.withHeard nq (Pl.putI nq.Heard fr))) k _ _ XT (HT.out.at_ 0 rfl) (HT.out.ndat (i := 0) rfl) HPC.out (by first | (rw [HQ0.out]; omega) | (rw [Pl.set_len, HQ0.out]; omega))
      have b0 := HT.out.cell (k := 0) 1 rfl rfl
      have b1 := HT.out.cell (k := 1) 1 rfl rfl
      have b2 := HT.out.cell (k := 2) 1 rfl rfl
      have m1 := HT.out.cell (k := 1) 2 rfl rfl
      go_wp2_with (go_at_call 100; (with_reducible refine CL.mono ?_); clear CL; rintro e w6 ⟨cq, fq, rfl, hL⟩; obtain ⟨C0, x0, y0, C1, x1, y1, C2, x2, y2, rfl⟩ := own_formP hL.2.2.2; (have HS7 := Lib.hid (HT.out.call 0 rfl hL)); clear hL; (clear b0 b1 b2); clear m1; (have r0 := HS7.out.cell (k := 0) 3 rfl rfl); (have r1 := HS7.out.cell (k := 1) 3 rfl rfl); (have r2 := HS7.out.cell (k := 2) 3 rfl rfl); (have z0 := HS7.out.frz (k := 0) 3 rfl); (have z1 := HS7.out.frz (k := 1) 3 rfl); (have z2 := HS7.out.frz (k := 2) 3 rfl))
      have HS9 := Lib.hid (((HS7.out.setBlk (k := 0) 3 rfl (.slice C0 x0 y0)).setBlk (k := 1) 3 rfl (.slice C1 x1 y1)).setBlk (k := 2) 3 rfl (.slice C2 x2 y2))
      have u0 := HS9.out.cell (k := 0) 3 rfl rfl
      have u1 := HS9.out.cell (k := 1) 3 rfl rfl
      have u2 := HS9.out.cell (k := 2) 3 rfl rfl
      exact bodyPost_ret (v := .agg #[.slice C0 x0 y0, .slice C1 x1 y1, .slice C2 x2 y2]) (by simp [results, Try.results84, go_sem, u0, u1, u2]) rfl ⟨_, _, rfl, by rw [HF.out]; exact (HS9.out.sel [0] (by decide) rfl).left⟩
end Go.Proofs.Ytkhchfbpmmiopaa

/-
  Contracts: a step of an election: a candidate, a stop, none (chapter 8). No conditions beyond those named.
-/
namespace Go.Proofs.Ytkhchfbpmmiopaa
open Go.RowKit
attribute [local go_sem] und_cell cha_cell World.cell?_alloc_some
def PAns (g : Nat) (fp : List Nat) (w : World) (r : Poll × Bool) (e : Ending) (w' : World) : Prop := e = .returned (.bool r.2) ∧ ∃ fp', Mm.Left (g :: fp) w w' (Mm.tptr rPoll 31 g r.1 fp')
theorem within_is8 {n a b : Int} {r : Bool} (h : Pl.isIn n a b = r) (w : World) : Calls Try.prog 43 #[.int .i64 n, .int .i64 a, .int .i64 b] w fun e w' => e = .returned (.bool r) ∧ w = w' := h ▸ within_c n a b w
theorem Pl.isIn_not {n a b : Int} (h : ¬ (a ≤ n ∧ n ≤ b)) : Pl.isIn n a b = false := by
  cases hh : Pl.isIn n a b with
  | false => rfl
  | true => exact absurd (Pl.isIn_iff.1 hh) h
set_option maxRecDepth 100000 in
set_option maxHeartbeats 4000000 in
theorem stepStand_c (p : Poll) (kk : Int) (g : Nat) (fp : List Nat) (w : World) (h : (Mm.tptr rPoll 31 g p fp).holds w) (hnd : (g :: fp).Nodup) (hw : Pl.PW p) :
    Calls Try.prog 48 #[.pointer (some ⟨g, 0, none⟩), .agg #[.int .i64 1, .int .i64 kk]] w (PAns g fp w (Pl.pstep p ⟨1, kk⟩)) := by
  obtain ⟨A0, n0, c0, A1, n1, c1, A2, n2, c2, f0, f1, f2, rfl, hs⟩ := open_Poll (Mm.SepF.one _ w h hnd)
  obtain ⟨g0, rfl, -, -⟩ := Mm.sl_addr (hs.sl 1 rfl) (by have := hw.n1; omega)
  have hln0 : n0 = p.Nodes.length := by obtain ⟨A', n', c', hv, h1, _⟩ := (hs.sl 1 rfl).form; injection hv with _ h2 _; omega
  have hln1 : n1 = p.Letters.length := by obtain ⟨A', n', c', hv, h1, _⟩ := (hs.sl 2 rfl).form; injection hv with _ h2 _; omega
  have hn5 := hw.n5
  have hl60 := hw.lets
  have hn05 : n0 ≤ 5 := by omega
  have hn160 : n1 ≤ 60 := by omega
  obtain ⟨gs, hgs⟩ : ∃ g, w.heap.size = g := ⟨_, rfl⟩
  obtain ⟨W0, hW0⟩ : ∃ W, w.alloc (.cells #[.int .i64 1, .int .i64 kk] 56) = W := ⟨_, rfl⟩
  have HS := Lib.hid ((hs.alloc' hgs 56 [.int .i64 1, .int .i64 kk]).atW hW0)
  have HW := Lib.hid hw
  have HN0 := Lib.hid hln0
  have HN1 := Lib.hid hln1
  clear h hs hnd hw hln0 hln1
  have fw0 : IntKind.i64.wrap ((n0 : Int) - 1) = (n0 : Int) - 1 := IntWalk.i64_in _ (by omega)
  have fw1 : IntKind.i64.wrap ((n1 : Int) - 1) = (n1 : Int) - 1 := IntWalk.i64_in _ (by omega)
  go_enter Try.func48, Try.ntmps48
  go_upto_region 1 with fail
  clear hW0 hgs
  have s0 := HS.out.cell (k := 0) 0 rfl rfl
  have s1 := HS.out.cell (k := 1) 0 rfl rfl
  have b0 := HS.out.cell (k := 0) 1 rfl rfl
  have b1 := HS.out.cell (k := 1) 1 rfl rfl
  have HP : Hid (Pl.pstep p ⟨1, kk⟩ = if 0 ≤ kk ∧ kk < p.Nodes.length ∧ (Pl.nodeAt p kk).Term ≠ 200 then (Pl.pstand p kk, true) else (p, false)) := Lib.hid (if_pos rfl)
  by_cases hin : 0 ≤ kk ∧ kk ≤ (n0 : Int) - 1
  rotate_left
  · have CW := fun z : Und W0 => und_same z (within_is8 (Pl.isIn_not hin) (und W0 z))
    have HF : Hid (Pl.pstep p ⟨1, kk⟩ = (p, false)) := Lib.hid (by rw [HP.out, if_neg (fun hh => hin ⟨hh.1, by have := hh.2.1; have := HN0.out; omega⟩)])
    clear hin
    go_wp2
    refine wp_region_und (by kernel_rfl) (by kernel_rfl) ?_
    repeat (go_big_quiet_step ((first | (go_at_call 43; with_reducible exact CW _))))
    refine wpQuiet_nil ?_
    intro X hX
    replace HS := Lib.hid (HS.out.step hX)
    go_wp2
    exact bodyPost_ret (v := .bool false) (by simp [results, Try.results48, go_sem]) rfl ⟨by rw [HF.out], _, by rw [HF.out]; exact (shut_Poll HS.out.tail).left⟩
  have CW := fun z : Und W0 => und_same z (within_is8 (Pl.isIn_iff.2 hin) (und W0 z))
  obtain ⟨k, rfl⟩ : ∃ k : Nat, kk = k := ⟨kk.toNat, by omega⟩
  have hk : k < p.Nodes.length := by have := HN0.out; omega
  have HK := Lib.hid hk
  clear hin hk
  go_wp2
  refine wp_region_und (by kernel_rfl) (by kernel_rfl) ?_
  repeat (go_big_quiet_step ((first | (go_at_call 43; with_reducible exact CW _))))
  refine wpQuiet_nil ?_
  intro X hX
  replace HS := Lib.hid (HS.out.step hX)
  clear CW hX s0 s1 b0 b1
  have HT := Lib.hid (shut_Poll (HS.out.sel [1, 2, 3, 4, 0] (by decide) rfl))
  have s0 := HS.out.cell (k := 0) 0 rfl rfl
  have s1 := HS.out.cell (k := 1) 0 rfl rfl
  have b0 := HS.out.cell (k := 0) 1 rfl rfl
  have b1 := HS.out.cell (k := 1) 1 rfl rfl
  by_cases ht : (Pl.nodeAt p (k : Int)).Term = 200
  · have HF : Hid (Pl.pstep p ⟨1, (k : Int)⟩ = (p, false)) := Lib.hid (by rw [HP.out, if_neg (fun hh => hh.2.2 ht)])
    have CS := standNo_c p k g _ X (HT.out.at_ 0 rfl) (HT.out.ndat (i := 0) rfl) HW.out HK.out ht
    go_wp2_with (go_at_call 79; (with_reducible refine CS.mono ?_); clear CS; rintro e w6 ⟨rfl, rfl⟩)
    exact bodyPost_ret (v := .bool false) (by simp [results, Try.results48, go_sem]) rfl ⟨by rw [HF.out], _, by rw [HF.out]; exact (shut_Poll HS.out.tail).left⟩
  · have HF : Hid (Pl.pstep p ⟨1, (k : Int)⟩ = (Pl.pstand p (k : Int), true)) := Lib.hid (by rw [HP.out, if_pos ⟨by omega, by have := HK.out; show (k : Int) < _; omega, ht⟩])
    have CS := standYes_c p k g _ X (HT.out.at_ 0 rfl) (HT.out.ndat (i := 0) rfl) HW.out HK.out ht
    go_wp2_with (go_at_call 79; (with_reducible refine CS.mono ?_); clear CS; rintro e w6 ⟨rfl, fp6, hL⟩; (have HT7 := Lib.hid (HT.out.call 0 rfl hL)); clear hL)
    exact bodyPost_ret (v := .bool true) (by simp [results, Try.results48, go_sem]) rfl ⟨by rw [HF.out], _, by rw [HF.out]; exact (HT7.out.sel [0] (by decide) rfl).left⟩
set_option maxRecDepth 100000 in
set_option maxHeartbeats 4000000 in
theorem stepStop_c (p : Poll) (kk : Int) (g : Nat) (fp : List Nat) (w : World) (h : (Mm.tptr rPoll 31 g p fp).holds w) (hnd : (g :: fp).Nodup) (hw : Pl.PW p) :
    Calls Try.prog 48 #[.pointer (some ⟨g, 0, none⟩), .agg #[.int .i64 5, .int .i64 kk]] w (PAns g fp w (Pl.pstep p ⟨5, kk⟩)) := by
  obtain ⟨A0, n0, c0, A1, n1, c1, A2, n2, c2, f0, f1, f2, rfl, hs⟩ := open_Poll (Mm.SepF.one _ w h hnd)
  obtain ⟨g0, rfl, -, -⟩ := Mm.sl_addr (hs.sl 1 rfl) (by have := hw.n1; omega)
  have hln0 : n0 = p.Nodes.length := by obtain ⟨A', n', c', hv, h1, _⟩ := (hs.sl 1 rfl).form; injection hv with _ h2 _; omega
  have hln1 : n1 = p.Letters.length := by obtain ⟨A', n', c', hv, h1, _⟩ := (hs.sl 2 rfl).form; injection hv with _ h2 _; omega
  have hn5 := hw.n5
  have hl60 := hw.lets
  have hn05 : n0 ≤ 5 := by omega
  have hn160 : n1 ≤ 60 := by omega
  obtain ⟨gs, hgs⟩ : ∃ g, w.heap.size = g := ⟨_, rfl⟩
  obtain ⟨W0, hW0⟩ : ∃ W, w.alloc (.cells #[.int .i64 5, .int .i64 kk] 56) = W := ⟨_, rfl⟩
  have HS := Lib.hid ((hs.alloc' hgs 56 [.int .i64 5, .int .i64 kk]).atW hW0)
  have HW := Lib.hid hw
  have HN0 := Lib.hid hln0
  have HN1 := Lib.hid hln1
  clear h hs hnd hw hln0 hln1
  have fw0 : IntKind.i64.wrap ((n0 : Int) - 1) = (n0 : Int) - 1 := IntWalk.i64_in _ (by omega)
  have fw1 : IntKind.i64.wrap ((n1 : Int) - 1) = (n1 : Int) - 1 := IntWalk.i64_in _ (by omega)
  go_enter Try.func48, Try.ntmps48
  go_upto_region 1 with fail
  clear hW0 hgs
  have s0 := HS.out.cell (k := 0) 0 rfl rfl
  have s1 := HS.out.cell (k := 1) 0 rfl rfl
  have b0 := HS.out.cell (k := 0) 1 rfl rfl
  have b1 := HS.out.cell (k := 1) 1 rfl rfl
  have HP : Hid (Pl.pstep p ⟨5, kk⟩ = if 0 ≤ kk ∧ kk < p.Nodes.length then (Pl.pstop p kk, true) else (p, false)) := Lib.hid ((if_neg (show ¬ (5 : Int) = 1 by omega)).trans (if_pos rfl))
  by_cases hin : 0 ≤ kk ∧ kk ≤ (n0 : Int) - 1
  rotate_left
  · have CW := fun z : Und W0 => und_same z (within_is8 (Pl.isIn_not hin) (und W0 z))
    have HF : Hid (Pl.pstep p ⟨5, kk⟩ = (p, false)) := Lib.hid (by rw [HP.out, if_neg (fun hh => hin ⟨hh.1, by have := hh.2; have := HN0.out; omega⟩)])
    clear hin
    go_wp2
    refine wp_region_und (by kernel_rfl) (by kernel_rfl) ?_
    repeat (go_big_quiet_step ((first | (go_at_call 43; with_reducible exact CW _))))
    refine wpQuiet_nil ?_
    intro X hX
    replace HS := Lib.hid (HS.out.step hX)
    go_wp2
    exact bodyPost_ret (v := .bool false) (by simp [results, Try.results48, go_sem]) rfl ⟨by rw [HF.out], _, by rw [HF.out]; exact (shut_Poll HS.out.tail).left⟩
  have CW := fun z : Und W0 => und_same z (within_is8 (Pl.isIn_iff.2 hin) (und W0 z))
  obtain ⟨k, rfl⟩ : ∃ k : Nat, kk = k := ⟨kk.toNat, by omega⟩
  have hk : k < p.Nodes.length := by have := HN0.out; omega
  have HK := Lib.hid hk
  have hkn : (k : Int) < (n0 : Nat) := by omega
  have hk0 : (0 : Int) ≤ (k : Nat) := by omega
  have hkt : ((k : Nat) : Int).toNat = k := by omega
  clear hin hk
  have hx := HW.out.at_ (k := (k : Int)) (by omega) (by have := HK.out; omega)
  rw [hkt] at hx
  obtain ⟨nd, hnd'⟩ : ∃ nd, Pl.nodeAt p (k : Int) = nd := ⟨_, rfl⟩
  rw [hnd'] at hx
  have HX := Lib.hid hx
  have HF : Hid (Pl.pstep p ⟨5, (k : Int)⟩ = (Pl.setNode p (k : Int) ⟨nd.Term, nd.Voted, nd.Age, [], 0⟩, true)) := Lib.hid (by
    rw [HP.out, if_pos ⟨by omega, by have := HK.out; show (k : Int) < _; omega⟩]
    unfold Pl.pstop
    rw [hnd'])
  clear hx hnd'
  go_wp2
  refine wp_region_und (by kernel_rfl) (by kernel_rfl) ?_
  repeat (go_big_quiet_step ((first | (go_at_call 43; with_reducible exact CW _))))
  refine wpQuiet_nil ?_
  intro X hX
  replace HS := Lib.hid (HS.out.step hX)
  clear CW hX s0 s1 b0 b1
  have s0 := HS.out.cell (k := 0) 0 rfl rfl
  have s1 := HS.out.cell (k := 1) 0 rfl rfl
  have b0 := HS.out.cell (k := 0) 1 rfl rfl
  have b1 := HS.out.cell (k := 1) 1 rfl rfl
  go_upto_region 16 with fail
  clear s0 s1 b0 b1
  have s0 := HS.out.cell (k := 0) 0 rfl rfl
  have s1 := HS.out.cell (k := 1) 0 rfl rfl
  have b0 := HS.out.cell (k := 0) 1 rfl rfl
  have b1 := HS.out.cell (k := 1) 1 rfl rfl
  obtain ⟨A3, m3, d3, e0, e1, e2, e3, e4, -, -, -, -, -⟩ := node_cells (HS.out.sl 2 rfl) (HS.out.ndat (i := 2) rfl) HX.out
  have z3 := (HS.out.sl 2 rfl).frozen (k * 5 + 3)
  have z4 := (HS.out.sl 2 rfl).frozen (k * 5 + 4)
  have hx1 : ∀ y : Node, (p.Nodes.set k y)[k]? = some y := fun y => List.getElem?_set_self HK.out
  have ha := HS.out.nodeNum (k := k) (m := 4) (v := 0) 2 rfl HX.out (by omega) (fun cs fx hh => rNode_set4 hh (by unfold Mm.I64; omega))
  simp only [List.set_cons_succ, List.set_cons_zero, List.set_set] at ha
  obtain ⟨A5, m5, d5, fx5, -, -, -, -, -, hnext⟩ := ha.nodeHeard 2 rfl (hx1 _)
  obtain ⟨fp1, hd⟩ := hnext _ [] none 0 0 [] (((Mm.SepF.start _).add (Below.refl _ _) (t := Mm.tsl Mm.int 3 [] (.slice none 0 0) []) Mm.SlOwn.nil List.nodup_nil (fun b hb => by cases hb)).widen)
  simp only [List.set_cons_succ, List.set_cons_zero, List.set_set] at hd
  have HD := Lib.hid hd
  have HT := Lib.hid (shut_Poll (x := Pl.setNode p (k : Int) ⟨nd.Term, nd.Voted, nd.Age, [], 0⟩) (by have h := HD.out.sel [1, 2, 3, 4, 0] (by decide) rfl; unfold Pl.setNode; rw [hkt]; exact h))
  clear ha hnext hd HD hx1
  go_region_law (fail)
  all_goals
    go_wp2
    exact bodyPost_ret (v := .bool true) (by simp [results, Try.results48, go_sem]) rfl ⟨by rw [HF.out], _, by rw [HF.out]; exact ((HT.out.sel [0] (by decide) rfl).step (Below.refl _ _).drew).left⟩
set_option maxRecDepth 100000 in
set_option maxHeartbeats 4000000 in
theorem stepNone_c (p : Poll) (kd kk : Int) (g : Nat) (fp : List Nat) (w : World) (h : (Mm.tptr rPoll 31 g p fp).holds w) (hnd : (g :: fp).Nodup) (hw : Pl.PW p) (h1 : kd < 1 ∨ 5 < kd) :
    Calls Try.prog 48 #[.pointer (some ⟨g, 0, none⟩), .agg #[.int .i64 kd, .int .i64 kk]] w (PAns g fp w (Pl.pstep p ⟨kd, kk⟩)) := by
  have HF : Hid (Pl.pstep p ⟨kd, kk⟩ = (p, false)) := Lib.hid (by
    unfold Pl.pstep
    rw [if_neg (show ¬ kd = 1 by omega), if_neg (show ¬ kd = 5 by omega), if_neg (show ¬ kd = 2 by omega), if_neg (show ¬ kd = 3 by omega), if_neg (show ¬ kd = 4 by omega)])
  have g1 : (kd == 1) = false := by simp; omega
  have g5 : (kd == 5) = false := by simp; omega
  have g2 : (kd == 2) = false := by simp; omega
  have g3 : (kd == 3) = false := by simp; omega
  have g4 : (kd == 4) = false := by simp; omega
  clear h1
  obtain ⟨A0, n0, c0, A1, n1, c1, A2, n2, c2, f0, f1, f2, rfl, hs⟩ := open_Poll (Mm.SepF.one _ w h hnd)
  obtain ⟨g0, rfl, -, -⟩ := Mm.sl_addr (hs.sl 1 rfl) (by have := hw.n1; omega)
  have hln0 : n0 = p.Nodes.length := by obtain ⟨A', n', c', hv, h1, _⟩ := (hs.sl 1 rfl).form; injection hv with _ h2 _; omega
  have hln1 : n1 = p.Letters.length := by obtain ⟨A', n', c', hv, h1, _⟩ := (hs.sl 2 rfl).form; injection hv with _ h2 _; omega
  have hn5 := hw.n5
  have hl60 := hw.lets
  have hn05 : n0 ≤ 5 := by omega
  have hn160 : n1 ≤ 60 := by omega
  obtain ⟨gs, hgs⟩ : ∃ g, w.heap.size = g := ⟨_, rfl⟩
  obtain ⟨W0, hW0⟩ : ∃ W, w.alloc (.cells #[.int .i64 kd, .int .i64 kk] 56) = W := ⟨_, rfl⟩
  have HS := Lib.hid ((hs.alloc' hgs 56 [.int .i64 kd, .int .i64 kk]).atW hW0)
  have HW := Lib.hid hw
  have HN0 := Lib.hid hln0
  have HN1 := Lib.hid hln1
  clear h hs hnd hw hln0 hln1
  have fw0 : IntKind.i64.wrap ((n0 : Int) - 1) = (n0 : Int) - 1 := IntWalk.i64_in _ (by omega)
  have fw1 : IntKind.i64.wrap ((n1 : Int) - 1) = (n1 : Int) - 1 := IntWalk.i64_in _ (by omega)
  go_enter Try.func48, Try.ntmps48
  go_upto_region 1 with fail
  clear hW0 hgs
  have s0 := HS.out.cell (k := 0) 0 rfl rfl
  have s1 := HS.out.cell (k := 1) 0 rfl rfl
  have b0 := HS.out.cell (k := 0) 1 rfl rfl
  have b1 := HS.out.cell (k := 1) 1 rfl rfl
  go_wp2
  exact bodyPost_ret (v := .bool false) (by simp [results, Try.results48, go_sem]) rfl ⟨by rw [HF.out], _, by rw [HF.out]; exact (shut_Poll HS.out.tail).left⟩
end Go.Proofs.Ytkhchfbpmmiopaa
