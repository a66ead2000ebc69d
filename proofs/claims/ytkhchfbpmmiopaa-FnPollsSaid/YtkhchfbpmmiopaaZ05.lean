/-
  Joined texts, in build order: V2, Vi, Vt, V3, V4, Ij, V5, V8, V9, Va. Each part says what it proves; no conditions beyond those that a part names.
-/
import Derived.Test.YtkhchfbpmmiopaaZ01
import Derived.Test.YtkhchfbpmmiopaaZ02
import Derived.Test.YtkhchfbpmmiopaaZ03
import Derived.Test.YtkhchfbpmmiopaaZ04
import Derived.Deep.RegionLaw
import Derived.Deep.DeepCutAuto
import Derived.Deep.CutBlock
/-
  Contracts: an election's letters are sent, a candidate with a majority leads (chapter 8). No conditions beyond those named.
-/
namespace Go.Proofs.Ytkhchfbpmmiopaa
open Go.RowKit
attribute [local go_sem] und_cell cha_cell World.cell?_alloc_some
theorem Try.infoLetter : (Try.prog.info? 84).map (fun i => (i.zero, i.size, i.bytes)) = some (some (.agg #[.int .i64 0, .int .i64 0, .int .i64 0, .bool false, .int .i64 0]), 5, 40) := by kernel_rfl
theorem Try.infoIntsP : (Try.prog.info? 23).map (fun i => (i.zero, i.size, i.bytes)) = some (some (.slice none 0 0), 1, 24) := by kernel_rfl
namespace Mm
theorem setCell_comm (w : World) (g i j : Nat) (u v : Value) (h : i ≠ j) : (w.setCell ⟨g, i, none⟩ u).setCell ⟨g, j, none⟩ v = (w.setCell ⟨g, j, none⟩ v).setCell ⟨g, i, none⟩ u := by
  unfold World.setCell
  congr 1
  apply Array.ext
  · simp
  intro k h1 h2
  simp only [Array.getElem_modify]
  by_cases hk : g = k
  · simp only [hk, if_true]
    cases w.heap[k]'(by simpa using h1) with
    | cells c e f =>
      simp only [Option.isSome_none, Bool.false_eq_true, if_false]
      congr 1
      exact Array.setIfInBounds_comm _ _ h
    | _ => rfl
  · simp [hk]
/-- two things as one -/
def tand (t s : Thing) : Thing := ⟨t.fp ++ s.fp, fun w => t.holds w ∧ s.holds w, fun hh k => ⟨t.keep hh.1 fun b hb => k b (List.mem_append_left _ hb), s.keep hh.2 fun b hb => k b (List.mem_append_right _ hb)⟩, fun hh b hb => (List.mem_append.1 hb).elim (t.lt hh.1 b) (s.lt hh.2 b)⟩
theorem SepF.both {F : List Nat} {w0 wr : World} {ts : List Thing} {t s : Thing} (h : SepF F w0 wr (t :: s :: ts)) : SepF F w0 wr (tand t s :: ts) :=
  h.conv (by simp [tand]) (List.forall_mem_cons.2 ⟨⟨h.at_ 0 rfl, h.at_ 1 rfl⟩, fun u hu => h.hold u (List.mem_cons_of_mem _ (List.mem_cons_of_mem _ hu))⟩)
theorem SepF.unboth {F : List Nat} {w0 wr : World} {ts : List Thing} {t s : Thing} (h : SepF F w0 wr (tand t s :: ts)) : SepF F w0 wr (t :: s :: ts) :=
  h.conv (by simp [tand]) (List.forall_mem_cons.2 ⟨(h.at_ 0 rfl).1, List.forall_mem_cons.2 ⟨(h.at_ 0 rfl).2, fun u hu => h.hold u (List.mem_cons_of_mem _ hu)⟩⟩)
theorem SepF.widen {F : List Nat} {w0 wr : World} {ts : List Thing} (h : SepF [] w0 wr ts) : SepF F w0 wr ts := ⟨h.chg.more (by simp), h.nd, fun b hb => (h.new b hb).imp (fun h => by cases h) id, h.hold⟩
end Mm
/-- the letters behind a sending -/
def Pl.lsend (L : List Letter) (m : Letter) : List Letter := if L.length < 60 then L ++ [m] else L
theorem Pl.psend_eq (p : Poll) (m : Letter) : Pl.psend p m = { p with Letters := Pl.lsend p.Letters m } := by
  unfold Pl.psend Pl.lsend
  split <;> rfl
set_option maxRecDepth 100000 in
set_option maxHeartbeats 2000000 in
theorem sendO_c (L : List Letter) (m : Letter) (v0 v2 : Value) (A1 : Option Addr) (n1 c1 : Nat) (g : Nat) (F f1 : List Nat) (w : World) (hs : Mm.SepF F w w [Mm.tblk g 31 [v0, .slice A1 n1 c1, v2], Mm.tsl rLetter 84 L (.slice A1 n1 c1) f1]) (hm : Mm.I64 m.From ∧ Mm.I64 m.To ∧ Mm.I64 m.Term ∧ Mm.I64 m.Age) (hl : L.length ≤ 60) :
    Calls Try.prog 96 #[.pointer (some ⟨g, 0, none⟩), .agg #[.int .i64 m.From, .int .i64 m.To, .int .i64 m.Term, .bool m.Ask, .int .i64 m.Age]] w fun e w' => e = .returned (.tuple #[]) ∧ ∃ A1' n1' c1' f1', Mm.SepF F w w' [Mm.tblk g 31 [v0, .slice A1' n1' c1', v2], Mm.tsl rLetter 84 (Pl.lsend L m) (.slice A1' n1' c1') f1'] := by
  have hln1 : n1 = L.length := by obtain ⟨A', n', c', hv, h1, _⟩ := (hs.sl 1 rfl).form; injection hv with _ h2 _; omega
  subst hln1
  obtain ⟨gl, hgl⟩ : ∃ g, w.heap.size = g := ⟨_, rfl⟩
  obtain ⟨W3, hW3⟩ : ∃ W, w.alloc (.cells #[.int .i64 m.From, .int .i64 m.To, .int .i64 m.Term, .bool m.Ask, .int .i64 m.Age] 84) = W := ⟨_, rfl⟩
  have HS3 := Lib.hid ((hs.alloc' hgl 84 [.int .i64 m.From, .int .i64 m.To, .int .i64 m.Term, .bool m.Ask, .int .i64 m.Age]).atW hW3)
  have HMI := Lib.hid hm
  clear hs hm
  go_enter Try.func96, Try.ntmps96
  go_upto_region 1 with fail
  clear hW3 hgl
  have d1 := HS3.out.cell (k := 1) 1 rfl rfl
  by_cases hl60 : L.length < 60
  · have HF : Hid (Pl.lsend L m = L ++ [m]) := if_pos hl60
    have f1 : ((L.length : Nat) : Int) < 60 := by omega
    go_upto_region 2 with fail
    have z1 := HS3.out.frz (k := 1) 1 rfl
    have m0 := HS3.out.cell (k := 0) 0 rfl rfl
    have m1 := HS3.out.cell (k := 1) 0 rfl rfl
    have m2 := HS3.out.cell (k := 2) 0 rfl rfl
    have m3 := HS3.out.cell (k := 3) 0 rfl rfl
    have m4 := HS3.out.cell (k := 4) 0 rfl rfl
    obtain ⟨i0, hi, hz0, hz1, hz2⟩ := info_parts Try.infoLetter
    obtain ⟨l0, ho2, hnext⟩ := HS3.out.push0 2 rfl (W2 := (W3.alloc (.cells #[.int .i64 m.From, .int .i64 m.To, .int .i64 m.Term, .bool m.Ask, .int .i64 m.Age] 84)).drew) (x := m) (below_new (Below.refl _ _) _).drew (rLetter_own_mk HMI.out)
    have HNX := Lib.hid hnext
    have HO2 := Lib.hid ho2
    clear hnext ho2
    go_region_law (first
      | (refine step_append_lies _ (by rfl) (.tmp 14) (.tmp 16) 28 (by rfl) 0 84 i0 _ 5 40 Try.underlying28 hi hz0 hz1 hz2 rfl (by omega) _ L.length l0 (by rfl) HO2.out ⟨W3.heap.size, 0, none⟩ 1 1 [.int .i64 m.From, .int .i64 m.To, .int .i64 m.Term, .bool m.Ask, .int .i64 m.Age] (by rfl) (by rfl) (World.news_of_block (B := W3.heap.size) (cs := #[.int .i64 m.From, .int .i64 m.To, .int .i64 m.Term, .bool m.Ask, .int .i64 m.Age]) (t := 84) (fr := (0, 0)) (Mm.heap_new W3 rfl _)) (by simp [Value.oneCell']) (by omega) (by unfold maxLen; omega) (by omega) (Nat.zero_le _) _ rfl ?_; intro gg cap w4 hown1 hgrow hat hlt'; obtain ⟨fp', hs4⟩ := HNX.out gg cap w4 hown1 hgrow hat; (have HS4 := Lib.hid hs4); (have d4 := HS4.out.cell (k := 1) 1 rfl rfl); (have z4 := HS4.out.frz (k := 1) 1 rfl); clear hs4 hown1 hgrow hat))
    all_goals
      go_wp2
      go_end0
      exact ⟨rfl, _, _, _, _, by rw [HF.out]; exact (HS4.out.setBlk 1 rfl _).tail⟩
  · have HF : Hid (Pl.lsend L m = L) := if_neg hl60
    have f1 : ¬ ((L.length : Nat) : Int) < 60 := by omega
    go_wp2
    go_end0
    exact ⟨rfl, _, _, _, _, by rw [HF.out]; exact HS3.out.tail⟩
theorem send_c (p : Poll) (m : Letter) (g : Nat) (fp : List Nat) (w : World) (h : (Mm.tptr rPoll 31 g p fp).holds w) (hnd : (g :: fp).Nodup) (hm : Mm.I64 m.From ∧ Mm.I64 m.To ∧ Mm.I64 m.Term ∧ Mm.I64 m.Age) (hl : p.Letters.length ≤ 60) :
    Calls Try.prog 96 #[.pointer (some ⟨g, 0, none⟩), .agg #[.int .i64 m.From, .int .i64 m.To, .int .i64 m.Term, .bool m.Ask, .int .i64 m.Age]] w fun e w' => e = .returned (.tuple #[]) ∧ ∃ fp', Mm.Left (g :: fp) w w' (Mm.tptr rPoll 31 g (Pl.psend p m) fp') := by
  obtain ⟨A0, n0, c0, A1, n1, c1, A2, n2, c2, f0, f1, f2, rfl, hs⟩ := open_Poll (Mm.SepF.one _ w h hnd)
  have hs1 := (hs.sel [0, 2, 1, 3] (by decide) rfl).both
  have hone := Mm.SepF.one _ w (hs1.at_ 0 rfl) (hs1.ndat (i := 0) rfl)
  refine (sendO_c p.Letters m _ _ A1 n1 c1 g _ f1 w hone.unboth hm hl).mono ?_
  rintro e w' ⟨rfl, A1', n1', c1', f1', hS⟩
  exact ⟨rfl, _, by rw [Pl.psend_eq]; exact (shut_Poll (x := { p with Letters := Pl.lsend p.Letters m }) ((hs1.callAll 0 rfl hS).sel [3, 1, 4, 2] (by decide) rfl)).left⟩
theorem ints_lit (X : World) (l : List Int) (n : Nat) (hl : l.length = n) (hI : ∀ x, x ∈ l → Mm.I64 x) (hn : n ≤ maxLen) : Mm.SlOwn Mm.int 3 (X.alloc (.cells (l.map (fun x => Value.int .i64 x)).toArray 3)) l (.slice (some ⟨X.heap.size, 0, none⟩) n n) [X.heap.size] := by
  have e : l.flatMap (fun x => [Value.int .i64 x]) = l.map (fun x => Value.int .i64 x) := Mm.fm_val _ _
  exact Mm.SlOwn.of_blk (fun x => [.int .i64 x]) (by rw [e]; exact Mm.Blk.new X 3 _) (fun x hx => ⟨rfl, hI x hx, rfl⟩) hl hn
theorem rNode_set0 {w : World} {x : Node} {cs : List Value} {fx : List Nat} (h : rNode.own w x cs fx) {v : Int} (hv : Mm.I64 v) : rNode.own w ⟨v, x.Voted, x.Age, x.Heard, x.Role⟩ (cs.set 0 (.int .i64 v)) fx := by
  obtain ⟨A, n, c, f, rfl, rfl, h0, h1, h2, h3, h4⟩ := rNode_own h
  exact rNode_own_mk (x := ⟨v, x.Voted, x.Age, x.Heard, x.Role⟩) hv h1 h2 h3 h4
theorem rNode_set1 {w : World} {x : Node} {cs : List Value} {fx : List Nat} (h : rNode.own w x cs fx) {v : Int} (hv : Mm.I64 v) : rNode.own w ⟨x.Term, v, x.Age, x.Heard, x.Role⟩ (cs.set 1 (.int .i64 v)) fx := by
  obtain ⟨A, n, c, f, rfl, rfl, h0, h1, h2, h3, h4⟩ := rNode_own h
  exact rNode_own_mk (x := ⟨x.Term, v, x.Age, x.Heard, x.Role⟩) h0 hv h2 h3 h4
theorem rNode_set4 {w : World} {x : Node} {cs : List Value} {fx : List Nat} (h : rNode.own w x cs fx) {v : Int} (hv : Mm.I64 v) : rNode.own w ⟨x.Term, x.Voted, x.Age, x.Heard, v⟩ (cs.set 4 (.int .i64 v)) fx := by
  obtain ⟨A, n, c, f, rfl, rfl, h0, h1, h2, h3, h4⟩ := rNode_own h
  exact rNode_own_mk (x := ⟨x.Term, x.Voted, x.Age, x.Heard, v⟩) h0 h1 h2 h3 hv
/-- element k of the nodes: its cells, what it leads to -/
theorem node_cells {w : World} {xs : List Node} {g n c i : Nat} {x : Node} {fp : List Nat} (h : Mm.SlOwn rNode 42 w xs (.slice (some ⟨g, 0, none⟩) n c) fp) (hnd : fp.Nodup) (hi : xs[i]? = some x) :
    ∃ A m d, w.cell? ⟨g, i * 5, none⟩ = some (.int .i64 x.Term) ∧ w.cell? ⟨g, i * 5 + 1, none⟩ = some (.int .i64 x.Voted) ∧ w.cell? ⟨g, i * 5 + 2, none⟩ = some (.int .i64 x.Age) ∧ w.cell? ⟨g, i * 5 + 3, none⟩ = some (.slice A m d) ∧ w.cell? ⟨g, i * 5 + 4, none⟩ = some (.int .i64 x.Role) ∧
      Mm.SlAt Mm.int w w.heap.size x.Heard A m d ∧ Mm.I64 x.Term ∧ Mm.I64 x.Voted ∧ Mm.I64 x.Age ∧ Mm.I64 x.Role := by
  obtain ⟨cs, fx, hown, hfn, hfs, hc, _⟩ := h.inner hnd hi
  obtain ⟨A, m, d, f, rfl, rfl, h0, h1, h2, h3, h4⟩ := rNode_own hown
  exact ⟨A, m, d, hc 0 _ rfl, hc 1 _ rfl, hc 2 _ rfl, hc 3 _ rfl, hc 4 _ rfl, h3.weak h3.olt, h0, h1, h2, h4⟩
/-- one of its numbers is stored -/
theorem Mm.SepF.nodeNum {F : List Nat} {w0 wr : World} {ts : List Mm.Thing} {xs : List Node} {g n c k m : Nat} {x x' : Node} {fp : List Nat} {v : Int} (h : Mm.SepF F w0 wr ts) (i : Nat) (hi : ts[i]? = some (Mm.tsl rNode 42 xs (.slice (some ⟨g, 0, none⟩) n c) fp)) (hk : xs[k]? = some x) (hm : m < 5) (hx : ∀ cs fx, rNode.own wr x cs fx → rNode.own wr x' (cs.set m (.int .i64 v)) fx) :
    Mm.SepF F w0 (wr.setCell ⟨g, k * 5 + m, none⟩ (.int .i64 v)) (ts.set i (Mm.tsl rNode 42 (xs.set k x') (.slice (some ⟨g, 0, none⟩) n c) fp)) := h.putSl i hi hk hm hx
/-- the list of the nodes that it has heard of is another -/
theorem Mm.SepF.nodeHeard {F : List Nat} {w0 wr : World} {ts : List Mm.Thing} {xs : List Node} {g n c k : Nat} {x : Node} {fp : List Nat} (h : Mm.SepF F w0 wr ts) (i : Nat) (hi : ts[i]? = some (Mm.tsl rNode 42 xs (.slice (some ⟨g, 0, none⟩) n c) fp)) (hk : xs[k]? = some x) :
    ∃ A m d fx, wr.cell? ⟨g, k * 5 + 3, none⟩ = some (.slice A m d) ∧ m = x.Heard.length ∧ Mm.SlOwn Mm.int 3 wr x.Heard (.slice A m d) fx ∧ fx.Nodup ∧ (∀ b, b ∈ fx → b ∈ fp ∧ b ≠ g) ∧
      ∀ W l A' m' d' fx', Mm.SepF fx wr W [Mm.tsl Mm.int 3 l (.slice A' m' d') fx'] →
        ∃ fp', Mm.SepF F w0 (W.setCell ⟨g, k * 5 + 3, none⟩ (.slice A' m' d')) (ts.set i (Mm.tsl rNode 42 (xs.set k ⟨x.Term, x.Voted, x.Age, l, x.Role⟩) (.slice (some ⟨g, 0, none⟩) n c) fp')) := by
  obtain ⟨cs, fx, hown, hfn, hfs, hc, hnext⟩ := h.swap i hi hk
  obtain ⟨A, m, d, f, rfl, rfl, h0, h1, h2, h3, h4⟩ := rNode_own hown
  obtain ⟨A1, n1, c1, hv, hm, _⟩ := h3.form
  injection hv with _ hv2 _
  refine ⟨A, m, d, fx, hc 3 _ rfl, by omega, h3, hfn, hfs, fun W l A' m' d' fx' hS => ?_⟩
  refine hnext W ⟨x.Term, x.Voted, x.Age, l, x.Role⟩ 3 (.slice A' m' d') fx' hS.chg (by decide) ?_ (hS.ndat (i := 0) rfl) (fun b hb => hS.new b (Mm.SepF.mem (i := 0) rfl hb))
  exact rNode_own_mk (x := ⟨x.Term, x.Voted, x.Age, l, x.Role⟩) h0 h1 h2 (hS.sl 0 rfl) h4
end Go.Proofs.Ytkhchfbpmmiopaa

/-
  Contracts: drawn plays of an election (chapter 8). No conditions.
-/
namespace Go.Proofs.Ytkhchfbpmmiopaa
open Go.RowKit
attribute [local go_sem] und_cell World.cell?_alloc_some
theorem Try.infoIntV : (Try.prog.info? 3).map (fun i => (i.zero, i.size, i.bytes)) = some (some (.int .i64 0), 1, 8) := by kernel_rfl
theorem Try.infoVStep : (Try.prog.info? 56).map (fun i => (i.zero, i.size, i.bytes)) = some (some (.agg #[.int .i64 0, .int .i64 0]), 2, 16) := by kernel_rfl
set_option maxRecDepth 100000 in
set_option maxHeartbeats 4000000 in
theorem agesCur_c (code : List Int) (A : Option Addr) (n c g K : Nat) (w : World) (B : Nat) (hc : Mm.SlAt Mm.u8 w B code A n c) (hBg : B ≤ g) (h : (Mm.tcur 74 A n c g K).holds w) (hK : K < 4611686018427380000) :
    Calls Try.prog 41 #[.pointer (some ⟨g, 0, none⟩)] w fun e w' => ∃ (l : List Int) (A1 : Option Addr) (n1 c1 : Nat) (fp : List Nat), e = .returned (.slice A1 n1 c1) ∧ l.length ≤ 5 ∧ Mm.SepF [g] w w' [Mm.tsl Mm.int 3 l (.slice A1 n1 c1) fp, Mm.tcur 74 A n c g (K + 20)] := by
  have hgw : g < w.heap.size := (Mm.tcur 74 A n c g K).lt h g (by simp [Mm.tcur])
  have HC := Lib.hid hc
  have HS : Hid (Mm.SepF [g] w w [Mm.tcur 74 A n c g K]) := Mm.SepF.one (Mm.tcur 74 A n c g K) w h (by simp [Mm.tcur])
  clear hc h
  go_enter Try.func41, Try.ntmps41
  go_upto_if 8 with first
    | ((go_at_call 65); (refine (pick_c code A n c g _ _ _ B (HC.out.keep fun b hb => HS.out.chg.block b (by omega) (by simp; omega)) hBg (HS.out.at_ 0 rfl) (by omega) (by omega)).mono ?_); (rintro e w1 ⟨b1, rfl, b10, b1x, b11, hL⟩); ((have HS := Lib.hid (HS.out.call 0 rfl hL))); (clear hL))
  have b12 := b11 (by omega)
  clear b11
  have HS := Lib.hid ((HS.out.add (Below.refl _ _) (t := Mm.tsl Mm.int 3 [] (.slice none 0 0) []) Mm.SlOwn.nil List.nodup_nil (fun b hb => by cases hb)))
  have hwr : IntKind.i64.wrap (1 + b1) = 1 + b1 := IntWalk.i64_in _ (by omega)
  go_loopg [3, 4] 5 (fun gg l nn wr => ∃ (k mm : Nat) (ls : List Int) (A1 : Option Addr) (c1 : Nat) (fp : List Nat) (Kc : Nat), k ≤ gg ∧ nn = .int .i64 k ∧ Hid (mm = ls.length) ∧ 1 ≤ k + mm ∧ k + mm ≤ 5 ∧ l = .slice A1 mm c1 ∧ Kc + k ≤ K + 10 ∧ Hid (Mm.SepF [g] w wr [Mm.tsl Mm.int 3 ls (.slice A1 mm c1) fp, Mm.tcur 74 A n c g Kc]))
  case atStart => exact ⟨(1 + b1).toNat, 0, [], none, 0, [], K + 1, by omega, by rw [Int.toNat_of_nonneg (by omega)], rfl, by omega, by omega, rfl, by omega, HS⟩
  case round =>
    obtain ⟨k, mm, ls, A1, c1, fp, Kc, hkg, rfl, hml, hk1', hkm, rfl, hKc, HS⟩ := hrel
    obtain ⟨Wr, rfl⟩ : ∃ Wr : World, Wr = wr := ⟨_, rfl⟩
    by_cases hk0 : 0 < k
    · have hk1 : (0 : Int) < (k : Nat) := by omega
      obtain ⟨i0, hi, hz0, hz1, hz2⟩ := info_parts Try.infoIntV
      go_wp2_with first
        | ((go_at_call 65); (refine (pick_c code A n c g _ _ _ B (HC.out.keep fun b hb => HS.out.chg.block b (by omega) (by simp; omega)) hBg (HS.out.at_ 1 rfl) (by omega) (by omega)).mono ?_); (rintro e w1 ⟨b2, rfl, b20, b2x, b21, hL⟩); ((have HS := Lib.hid (HS.out.call 1 rfl hL))); (clear hL))
        | (at_builtin; refine Mm.app_list (x := b2) HS.out 0 rfl rfl (.tmp 12) (.tmp 15) 23 rfl i0 _ 8 Try.underlying23 hi hz0 hz1 hz2 rfl (by decide) rfl rfl (fun W => ⟨rfl, by unfold Mm.I64; omega, rfl⟩) hml.out.symm (by unfold maxLen; omega) (by omega) ?_; intro ga cap w' fp' hs; (have HS4 := Lib.hid hs); clear hs)
      go_roundg (k - 1)
      case measure => omega
      case rel => exact ⟨k - 1, mm + 1, _, _, cap, fp', Kc + 1, Nat.le_refl _, by go_num, by show _ = _; rw [List.length_append, hml.out]; rfl, by omega, by omega, rfl, by omega, HS4⟩
    · have hk1 : ¬ (0 : Int) < (k : Nat) := by omega
      go_upto_if 18 with ((go_at_call 70); (refine (one_c code A n c g _ _ _ B (HC.out.keep fun b hb => HS.out.chg.block b (by omega) (by simp; omega)) hBg (HS.out.at_ 1 rfl) (by omega) (by omega)).mono ?_); (rintro e w1 ⟨b9, rfl, hL⟩); ((have HS := Lib.hid (HS.out.call 1 rfl hL))); (clear hL))
      cases b9
      · go_wp2_with fail
        go_ret
        first
          | exact ⟨ls, _, _, _, fp, rfl, by rw [← hml.out]; omega, HS.out.more 1 rfl (by omega)⟩
          | exact ⟨ls, _, _, _, rfl, by rw [← hml.out]; omega, fp, HS.out.more 1 rfl (by omega)⟩
      · have HA := Lib.hid (HS.out.alloc' rfl 3 [.int .i64 (-1), .int .i64 9, .int .i64 10])
        have hgW := Nat.lt_of_lt_of_le hgw HS.out.chg.size
        obtain ⟨ga, hga, -, -⟩ := Mm.sl_addr (HS.out.sl 0 rfl) (by rw [← hml.out]; omega)
        subst hga
        obtain ⟨a0, ha0⟩ : ∃ a, ls[0]? = some a := ⟨_, List.getElem?_eq_getElem (by rw [← hml.out]; omega)⟩
        have f1 : (0 : Int) < (mm : Nat) := by omega
        go_wp2_with (go_at_call 77; refine (among_c code A n c g _ [-1, 9, 10] _ 3 _ B (HC.out.keep fun b hb => HA.out.chg.block b (by omega) (by simp; omega)) hBg (HA.out.at_ 2 rfl) (by omega) (HA.out.at_ 0 rfl) (by have := HS.out.chg.size; omega) rfl (by omega) (by omega)).mono ?_; rintro e w5 ⟨v, rfl, hv, hL⟩; (have HS5 := Lib.hid ((HA.out.call 2 rfl hL).tail)); clear hL HA; have e1 := int_ocell (HS5.out.sl 0 rfl) (HS5.out.ndat (i := 0) rfl) ha0; have z1 := (HS5.out.sl 0 rfl).frozen 0)
        have hvi : Mm.I64 v := by simp only [List.mem_cons, List.not_mem_nil, or_false] at hv; unfold Mm.I64; omega
        go_ret
        exact ⟨_, _, _, _, _, rfl, by rw [List.length_set, ← hml.out]; omega, (HS5.out.put1 (k := 0) 0 rfl rfl ha0 (x' := v) (u := .int .i64 v) (fun cs fx hh => by obtain ⟨rfl, _, rfl⟩ := hh; exact ⟨rfl, hvi, rfl⟩)).more 1 rfl (by omega)⟩
set_option maxRecDepth 100000 in
set_option maxHeartbeats 4000000 in
theorem voteSteps_c (code : List Int) (A : Option Addr) (n c g K : Nat) (w : World) (B : Nat) (hc : Mm.SlAt Mm.u8 w B code A n c) (hBg : B ≤ g) (h : (Mm.tcur 74 A n c g K).holds w) (hK : K < 4611686018427380000) :
    Calls Try.prog 42 #[.pointer (some ⟨g, 0, none⟩)] w fun e w' => ∃ (l : List VoteStep) (A1 : Option Addr) (n1 c1 : Nat) (fp : List Nat), e = .returned (.slice A1 n1 c1) ∧ l.length ≤ 201 ∧ Mm.SepF [g] w w' [Mm.tsl rVoteStep 56 l (.slice A1 n1 c1) fp, Mm.tcur 74 A n c g (K + 1000)] := by
  have hgw : g < w.heap.size := (Mm.tcur 74 A n c g K).lt h g (by simp [Mm.tcur])
  have HC := Lib.hid hc
  have HS : Hid (Mm.SepF [g] w w [Mm.tcur 74 A n c g K]) := Mm.SepF.one (Mm.tcur 74 A n c g K) w h (by simp [Mm.tcur])
  clear hc h
  go_enter Try.func42, Try.ntmps42
  go_upto_if 8 with first
    | ((go_at_call 65); (refine (pick_c code A n c g _ _ _ B (HC.out.keep fun b hb => HS.out.chg.block b (by omega) (by simp; omega)) hBg (HS.out.at_ 0 rfl) (by omega) (by omega)).mono ?_); (rintro e w1 ⟨b1, rfl, b10, b1x, b11, hL⟩); ((have HS := Lib.hid (HS.out.call 0 rfl hL))); (clear hL))
    | ((go_at_call 70); (refine (one_c code A n c g _ _ _ B (HC.out.keep fun b hb => HS.out.chg.block b (by omega) (by simp; omega)) hBg (HS.out.at_ 0 rfl) (by omega) (by omega)).mono ?_); (rintro e w1 ⟨b9, rfl, hL⟩); ((have HS := Lib.hid (HS.out.call 0 rfl hL))); (clear hL))
  have b12 := b11 (by omega)
  clear b11
  go_cut [4] (fun s6 wx => ∃ m : Int, s6 = .int .i64 m ∧ 0 ≤ m ∧ m ≤ 201 ∧ Mm.SepF [g] w wx [Mm.tcur 74 A n c g (K + 3)])
  case first =>
    cases b9
    · go_wp2_with fail
      go_meet
      exact ⟨_, rfl, b10, by omega, HS.out.more 0 rfl (by omega)⟩
    · go_wp2_with ((go_at_call 65); (refine (pick_c code A n c g _ _ _ B (HC.out.keep fun b hb => HS.out.chg.block b (by omega) (by simp; omega)) hBg (HS.out.at_ 0 rfl) (by omega) (by omega)).mono ?_); (rintro e w1 ⟨b2, rfl, b20, b2x, b21, hL⟩); ((have HS := Lib.hid (HS.out.call 0 rfl hL))); (clear hL); have b22 := b21 (by omega))
      go_meet
      exact ⟨_, rfl, by omega, by omega, HS.out.more 0 rfl (by omega)⟩
  case rest =>
  obtain ⟨m, rfl, hm0, hm1, HS⟩ := hcut
  have HS := Lib.hid ((HS.add (Below.refl _ _) (t := Mm.tsl rVoteStep 56 [] (.slice none 0 0) []) Mm.SlOwn.nil List.nodup_nil (fun b hb => by cases hb)))
  go_wp2_with fail
  go_loopg [3, 4] 201 (fun gg l nn wr => ∃ (k mm : Nat) (ls : List VoteStep) (A1 : Option Addr) (c1 : Nat) (fp : List Nat) (Kc : Nat), k ≤ gg ∧ nn = .int .i64 k ∧ Hid (mm = ls.length) ∧ k + mm ≤ 201 ∧ l = .slice A1 mm c1 ∧ Kc + 4 * k ≤ K + 900 ∧ Hid (Mm.SepF [g] w wr [Mm.tsl rVoteStep 56 ls (.slice A1 mm c1) fp, Mm.tcur 74 A n c g Kc]))
  case atStart => exact ⟨m.toNat, 0, [], none, 0, [], K + 3, by omega, by rw [Int.toNat_of_nonneg hm0], rfl, by omega, rfl, by omega, HS⟩
  case round =>
    obtain ⟨k, mm, ls, A1, c1, fp, Kc, hkg, rfl, hml, hkm, rfl, hKc, HS⟩ := hrel
    obtain ⟨Wr, rfl⟩ : ∃ Wr : World, Wr = wr := ⟨_, rfl⟩
    by_cases hk0 : 0 < k
    · have hk1 : (0 : Int) < (k : Nat) := by omega
      have HA := Lib.hid (HS.out.alloc' rfl 3 [.int .i64 1, .int .i64 2, .int .i64 2, .int .i64 2, .int .i64 2, .int .i64 2, .int .i64 3, .int .i64 4, .int .i64 5])
      have hgW : g < Wr.heap.size := Nat.lt_of_lt_of_le hgw HS.out.chg.size
      obtain ⟨i0, hi, hz0, hz1, hz2⟩ := info_parts Try.infoVStep
      go_wp2_with first
        | (go_at_call 77; refine (among_c code A n c g _ [1, 2, 2, 2, 2, 2, 3, 4, 5] Wr.heap.size 9 _ B (HC.out.keep fun b hb => HA.out.chg.block b (by omega) (by simp; omega)) hBg (HA.out.at_ 2 rfl) (by omega) (HA.out.at_ 0 rfl) (by omega) rfl (by omega) (by omega)).mono ?_; rintro e w1 ⟨v, rfl, hv, hL⟩; (have HS := Lib.hid ((HA.out.call 2 rfl hL).tail)); clear hL HA; (have hvi : Mm.I64 v := by simp only [List.mem_cons, List.not_mem_nil, or_false] at hv; unfold Mm.I64; omega); clear hv)
        | ((go_at_call 65); (refine (pick_c code A n c g _ _ _ B (HC.out.keep fun b hb => HS.out.chg.block b (by omega) (by simp; omega)) hBg (HS.out.at_ 1 rfl) (by omega) (by omega)).mono ?_); (rintro e w1 ⟨b2, rfl, b20, b2x, b21, hL⟩); ((have HS := Lib.hid (HS.out.call 1 rfl hL))); (clear hL))
        | (at_builtin; refine Mm.app_list (x := (⟨v, b2⟩ : VoteStep)) HS.out 0 rfl rfl (.tmp 16) (.tmp 23) 24 rfl i0 _ 16 Try.underlying24 hi hz0 hz1 hz2 rfl (by decide) rfl rfl (fun W => rVoteStep_own_mk (x := ⟨v, b2⟩) ⟨hvi, by show Mm.I64 b2; unfold Mm.I64; omega⟩) hml.out.symm (by unfold maxLen; omega) (by omega) ?_; intro ga cap w' fp' hs; (have HS4 := Lib.hid hs); clear hs)
      go_roundg (k - 1)
      case measure => omega
      case rel => exact ⟨k - 1, mm + 1, _, _, cap, fp', Kc + 2, Nat.le_refl _, by go_num, by show _ = _; rw [List.length_append, hml.out]; rfl, by omega, rfl, by omega, HS4⟩
    · have hk1 : ¬ (0 : Int) < (k : Nat) := by omega
      by_cases hm0 : mm = 0
      · subst hm0
        have f0 : ¬ (0 : Int) < ((0 : Nat) : Int) := by omega
        go_wp2_with fail
        go_ret
        first
          | exact ⟨ls, _, _, _, fp, rfl, by rw [← hml.out]; omega, HS.out.more 1 rfl (by omega)⟩
          | exact ⟨ls, _, _, _, rfl, by rw [← hml.out]; omega, fp, HS.out.more 1 rfl (by omega)⟩
      have f0 : (0 : Int) < (mm : Nat) := by omega
      go_upto_if 31 with ((go_at_call 70); (refine (one_c code A n c g _ _ _ B (HC.out.keep fun b hb => HS.out.chg.block b (by omega) (by simp; omega)) hBg (HS.out.at_ 1 rfl) (by omega) (by omega)).mono ?_); (rintro e w1 ⟨b9, rfl, hL⟩); ((have HS := Lib.hid (HS.out.call 1 rfl hL))); (clear hL))
      cases b9
      · go_wp2_with fail
        go_ret
        first
          | exact ⟨ls, _, _, _, fp, rfl, by rw [← hml.out]; omega, HS.out.more 1 rfl (by omega)⟩
          | exact ⟨ls, _, _, _, rfl, by rw [← hml.out]; omega, fp, HS.out.more 1 rfl (by omega)⟩
      · obtain ⟨ga, hga, -, -⟩ := Mm.sl_addr (HS.out.sl 0 rfl) (by rw [← hml.out]; omega)
        subst hga
        obtain ⟨a0, ha0⟩ : ∃ a, ls[0]? = some a := ⟨_, List.getElem?_eq_getElem (by rw [← hml.out]; omega)⟩
        go_wp2_with first
          | (go_at_call 65; refine (pick_c code A n c g _ _ _ B (HC.out.keep fun b hb => HS4.out.chg.block b (by omega) (by simp; omega)) hBg (HS4.out.at_ 1 rfl) (by omega) (by omega)).mono ?_; rintro e w5 ⟨b4, rfl, b40, b4x, b41, hL⟩; (have HS5 := Lib.hid (HS4.out.call 1 rfl hL)); clear hL; (have hw4 : IntKind.i64.wrap (b4 - 1) = b4 - 1 := IntWalk.i64_in _ (by omega)); have e1 := rVoteStep_ocell (HS5.out.sl 0 rfl) (HS5.out.ndat (i := 0) rfl) ha0; obtain ⟨e1, e2⟩ := e1; have z1 := (HS5.out.sl 0 rfl).frozen 0; have z2 := (HS5.out.sl 0 rfl).frozen 1)
          | (go_at_call 65; refine (pick_c code A n c g _ _ _ B (HC.out.keep fun b hb => HS.out.chg.block b (by omega) (by simp; omega)) hBg (HS.out.at_ 1 rfl) (by omega) (by omega)).mono ?_; rintro e w4 ⟨b3, rfl, b30, b3x, b31, hL⟩; (have HS4 := Lib.hid (HS.out.call 1 rfl hL)); clear hL)
        have hI3 : Mm.I64 b3 := by unfold Mm.I64; omega
        have hI4 : Mm.I64 (b4 - 1) := by unfold Mm.I64; omega
        go_ret
        have hp1 := HS5.out.putSl (k := 0) (m := 0) (x' := (⟨b3, a0.K⟩ : VoteStep)) (u := .int .i64 b3) 0 rfl ha0 (by decide) (fun cs fx hh => by obtain ⟨rfl, q, rfl⟩ := rVoteStep_own hh; exact rVoteStep_own_mk (x := ⟨b3, a0.K⟩) ⟨hI3, q.2⟩)
        have hp2 := hp1.putSl (k := 0) (m := 1) (x := (⟨b3, a0.K⟩ : VoteStep)) (x' := (⟨b3, b4 - 1⟩ : VoteStep)) (u := .int .i64 (b4 - 1)) 0 rfl (by rw [List.getElem?_set_self (by rw [← hml.out]; omega)]) (by decide) (fun cs fx hh => by obtain ⟨rfl, q, rfl⟩ := rVoteStep_own hh; exact rVoteStep_own_mk (x := ⟨b3, b4 - 1⟩) ⟨hI3, hI4⟩)
        exact ⟨_, _, _, _, _, rfl, by rw [List.length_set, List.length_set, ← hml.out]; omega, hp2.more 1 rfl (by omega)⟩
def DrawnPoll (w : World) (e : Ending) (w' : World) : Prop := ∃ (ages : List Int) (l : List VoteStep) (A0 : Option Addr) (n0 c0 : Nat) (A1 : Option Addr) (n1 c1 : Nat), e = .returned (.tuple #[.slice A0 n0 c0, .slice A1 n1 c1]) ∧ ages.length ≤ 5 ∧ l.length ≤ 201 ∧ Mm.SlAt Mm.int w' w'.heap.size ages A0 n0 c0 ∧ Mm.SlAt rVoteStep w' w'.heap.size l A1 n1 c1 ∧ Below w.heap.size w w'
set_option maxRecDepth 100000 in
theorem DrawPlayPoll_c (code : List Int) (A : Option Addr) (n c : Nat) (w : World) (B : Nat) (hc : Mm.SlAt Mm.u8 w B code A n c) (hB : B ≤ w.heap.size) :
    Calls Try.prog 6 #[.slice A n c] w (DrawnPoll w) := by
  have hg0 : (Mm.tcur 74 A n c w.heap.size 0).holds (w.alloc (.cells #[.slice A n c, .int .i64 0, .int .u64 0] 74)) := ⟨0, 0, Mm.Blk.new w 74 [.slice A n c, .int .i64 0, .int .u64 0], by omega, by omega⟩
  have HC := Lib.hid (hc.keep (w' := w.alloc (.cells #[.slice A n c, .int .i64 0, .int .u64 0] 74)) fun b hb => (below_new (Below.refl _ w) _).block b (by omega))
  have HS : Hid (Mm.SepF [w.heap.size] (w.alloc (.cells #[.slice A n c, .int .i64 0, .int .u64 0] 74)) (w.alloc (.cells #[.slice A n c, .int .i64 0, .int .u64 0] 74)) [Mm.tcur 74 A n c w.heap.size 0]) := Mm.SepF.one (Mm.tcur 74 A n c w.heap.size 0) _ hg0 (by simp [Mm.tcur])
  have hsw : (w.alloc (.cells #[.slice A n c, .int .i64 0, .int .u64 0] 74)).heap.size = w.heap.size + 1 := Mm.sz1 _ _
  obtain ⟨g, hg⟩ : ∃ g, w.heap.size = g := ⟨_, rfl⟩
  rw [hg] at HS hB hsw
  clear hc hg0
  go_enter Try.func6, Try.ntmps6
  go_wp2_with first
    | (go_at_call 41; refine (agesCur_c code A n c g _ _ B (HC.out.keep fun b hb => HS.out.chg.block b (by omega) (by simp; omega)) hB (HS.out.at_ 0 rfl) (by omega)).mono ?_; rintro e w1 ⟨l0, A0, n0, c0, fp0, rfl, hl0, hS0⟩; (have hch0 := (HS.out.chg).trans hS0.chg))
    | (go_at_call 42; refine (voteSteps_c code A n c g _ _ B (HC.out.keep fun b hb => hch0.block b (by omega) (by simp; omega)) hB (hS0.at_ 1 rfl) (by omega)).mono ?_; rintro e w1 ⟨l, A1, n1, c1, fp, rfl, hl, hS⟩; have hch := hch0.trans hS.chg)
  go_ret2
  refine ⟨l0, l, _, _, _, _, _, _, rfl, hl0, hl, ?_, (hS.sl 0 rfl).weak (hS.sl 0 rfl).olt, ?_⟩
  · have hap : ∀ b, b ∈ fp0 → b ≠ g := fun b hb h => hS0.apart (i := 0) (j := 1) rfl rfl (by decide) b hb (by rw [h]; simp [Mm.tcur])
    have hkp : Mm.SlAt Mm.int _ _ l0 A0 n0 c0 := ((hS0.sl 0 rfl).okeep fun b hb => hS.chg.block b ((hS0.sl 0 rfl).olt b hb) (by simp; exact hap b hb)).weak (B := _) (Mm.SlOwn.olt ((hS0.sl 0 rfl).okeep fun b hb => hS.chg.block b ((hS0.sl 0 rfl).olt b hb) (by simp; exact hap b hb)))
    exact hkp
  rw [hg]
  exact Mm.Below.chg (hg ▸ below_new (Below.refl _ w) _) hch (by rw [Mm.sz1]; omega) (by simp)
end Go.Proofs.Ytkhchfbpmmiopaa

/-
  Contracts: drawn ages, numbers and pairs of rising lists (chapter 8). No conditions.
-/
namespace Go.Proofs.Ytkhchfbpmmiopaa
open Go.RowKit
attribute [local go_sem] und_cell World.cell?_alloc_some
theorem Mm.SepF.curV {F : List Nat} {w0 wr : World} {ts : List Mm.Thing} {T : TypeId} {A : Option Addr} {n c g : Nat} (h : Mm.SepF F w0 wr (Mm.tblk g T [.slice A n c, .int .i64 0, .int .u64 0] :: ts)) : Mm.SepF F w0 wr (Mm.tcur T A n c g 0 :: ts) :=
  h.conv (by simp [Mm.tcur, Mm.tblk]) (List.forall_mem_cons.2 ⟨⟨0, 0, h.at_ 0 rfl, by omega, by omega⟩, fun u hu => h.hold u (List.mem_cons_of_mem _ hu)⟩)
def Pl.Up (l : List Int) (k : Nat) : Prop := l.Pairwise (· < ·) ∧ ∀ x, x ∈ l → 0 ≤ x ∧ x < k
theorem Pl.Up.wide {l : List Int} {k : Nat} (h : Pl.Up l k) : Pl.Up l (k + 1) := ⟨h.1, fun x hx => by have := h.2 x hx; omega⟩
theorem Pl.Up.push {l : List Int} {k : Nat} (h : Pl.Up l k) : Pl.Up (l ++ [(k : Int)]) (k + 1) :=
  ⟨List.pairwise_append.2 ⟨h.1, List.pairwise_singleton _ _, fun x hx y hy => by rw [List.mem_singleton.1 hy]; exact (h.2 x hx).2⟩, fun x hx => by
    rcases List.mem_append.1 hx with hx | hx
    · have := h.2 x hx; omega
    · rw [List.mem_singleton.1 hx]; omega⟩
theorem Pl.Up.len {l : List Int} {k : Nat} (h : Pl.Up l k) : l.length ≤ k := by
  have := Pl.rising_bound l 0 k h.1 (fun x hx => by have := h.2 x hx; omega)
  rw [if_pos (by omega)] at this
  omega
theorem Pl.Up.ris {l : List Int} {k : Nat} (h : Pl.Up l k) : Pl.risI (k : Int) l = true := Pl.risI_iff.2 ⟨h.1, fun x hx => h.2 x hx⟩
set_option maxRecDepth 100000 in
theorem DrawNewPoll_c (code : List Int) (A : Option Addr) (n c : Nat) (w : World) (B : Nat) (hc : Mm.SlAt Mm.u8 w B code A n c) (hB : B ≤ w.heap.size) :
    Calls Try.prog 34 #[.slice A n c] w fun e w' => ∃ (l : List Int) (A1 : Option Addr) (n1 c1 : Nat), e = .returned (.slice A1 n1 c1) ∧ Mm.SlAt Mm.int w' w'.heap.size l A1 n1 c1 ∧ Below w.heap.size w w' := by
  have HC := Lib.hid hc
  clear hc
  obtain ⟨g, hg⟩ : ∃ g, w.heap.size = g := ⟨_, rfl⟩
  obtain ⟨W1, hW1⟩ : ∃ W1, w.alloc (.cells #[.slice A n c, .int .i64 0, .int .u64 0] 74) = W1 := ⟨_, rfl⟩
  have HS := Lib.hid ((((Mm.SepF.start w).alloc' hg 74 [.slice A n c, .int .i64 0, .int .u64 0]).atW hW1).curV)
  have hBg : B ≤ g := by omega
  go_enter Try.func34, Try.ntmps34
  go_upto_region 2 with fail
  clear hW1
  go_wp2_with (go_at_call 41; refine (agesCur_c code A n c g _ _ B (HC.out.keep fun b hb => HS.out.chg.block b (Nat.lt_of_lt_of_le hb hB) (by simp)) hBg (HS.out.at_ 0 rfl) (by omega)).mono ?_; rintro e w2 ⟨l, A1, n1, c1, fp, rfl, hl, hS⟩; (have HS4 := Lib.hid (HS.out.callAll 0 rfl hS)); clear hS)
  go_ret
  exact ⟨l, _, _, _, rfl, (HS4.out.sl 1 rfl).weak (HS4.out.sl 1 rfl).olt, HS4.out.bel0⟩
set_option maxRecDepth 100000 in
theorem DrawMajorityOf_c (code : List Int) (A : Option Addr) (n c : Nat) (w : World) (B : Nat) (hc : Mm.SlAt Mm.u8 w B code A n c) (hB : B ≤ w.heap.size) :
    Calls Try.prog 39 #[.slice A n c] w fun e w' => ∃ k : Int, e = .returned (.int .i64 k) ∧ Below w.heap.size w w' := by
  have HC := Lib.hid hc
  clear hc
  obtain ⟨g, hg⟩ : ∃ g, w.heap.size = g := ⟨_, rfl⟩
  obtain ⟨W1, hW1⟩ : ∃ W1, w.alloc (.cells #[.slice A n c, .int .i64 0, .int .u64 0] 74) = W1 := ⟨_, rfl⟩
  have HS := Lib.hid ((((Mm.SepF.start w).alloc' hg 74 [.slice A n c, .int .i64 0, .int .u64 0]).atW hW1).curV)
  have hBg : B ≤ g := by omega
  go_enter Try.func39, Try.ntmps39
  go_upto_region 2 with fail
  clear hW1
  have hgW : g < W1.heap.size := (Mm.tcur 74 A n c g 0).lt (HS.out.at_ 0 rfl) g (by simp [Mm.tcur])
  have HA := Lib.hid (HS.out.alloc' rfl 3 [.int .i64 0, .int .i64 1, .int .i64 2, .int .i64 3, .int .i64 4, .int .i64 5, .int .i64 100, .int .i64 101])
  go_wp2_with (go_at_call 77; refine (among_c code A n c g _ [0, 1, 2, 3, 4, 5, 100, 101] _ 8 _ B (HC.out.keep fun b hb => HA.out.chg.block b (Nat.lt_of_lt_of_le hb hB) (by simp)) hBg (HA.out.at_ 1 rfl) (by omega) (HA.out.at_ 0 rfl) (by omega) rfl (by omega) (by omega)).mono ?_; rintro e w5 ⟨v, rfl, hv, hL⟩; (have HS5 := Lib.hid (HA.out.call 1 rfl hL)); clear hL)
  go_ret
  exact ⟨v, rfl, HS5.out.bel0⟩
set_option maxRecDepth 100000 in
set_option maxHeartbeats 4000000 in
theorem DrawIsOverlap_c (code : List Int) (A : Option Addr) (n c : Nat) (w : World) (B : Nat) (hc : Mm.SlAt Mm.u8 w B code A n c) (hB : B ≤ w.heap.size) :
    Calls Try.prog 31 #[.slice A n c] w fun e w' => ∃ (q : Nat) (a b : List Int) (A1 : Option Addr) (n1 c1 : Nat) (A2 : Option Addr) (n2 c2 : Nat), e = .returned (.tuple #[.int .i64 (q : Nat), .slice A1 n1 c1, .slice A2 n2 c2]) ∧ 1 ≤ q ∧ q ≤ 5 ∧ Pl.Up a q ∧ Pl.Up b q ∧ Mm.SlAt Mm.int w' w'.heap.size a A1 n1 c1 ∧ Mm.SlAt Mm.int w' w'.heap.size b A2 n2 c2 ∧ Below w.heap.size w w' := by
  have HC := Lib.hid hc
  clear hc
  obtain ⟨g, hg⟩ : ∃ g, w.heap.size = g := ⟨_, rfl⟩
  obtain ⟨W1, hW1⟩ : ∃ W1, w.alloc (.cells #[.slice A n c, .int .i64 0, .int .u64 0] 74) = W1 := ⟨_, rfl⟩
  have HS := Lib.hid ((((Mm.SepF.start w).alloc' hg 74 [.slice A n c, .int .i64 0, .int .u64 0]).atW hW1).curV)
  have hBg : B ≤ g := by omega
  go_enter Try.func31, Try.ntmps31
  go_upto_region 2 with fail
  clear hW1
  go_upto_region 3 with (go_at_call 65; refine (pick_c code A n c g _ _ _ B (HC.out.keep fun b hb => HS.out.chg.block b (Nat.lt_of_lt_of_le hb hB) (by simp)) hBg (HS.out.at_ 0 rfl) (by omega) (by omega)).mono ?_; rintro e w2 ⟨b1, rfl, b10, b1x, b11, hL⟩; (have HS2 := Lib.hid (HS.out.call 0 rfl hL)); clear hL)
  have b12 := b11 (by omega)
  clear b11 HS
  obtain ⟨q, hq⟩ : ∃ q : Nat, 1 + b1 = (q : Int) := ⟨(1 + b1).toNat, by omega⟩
  have hq1 : 1 ≤ q ∧ q ≤ 5 := by omega
  rw [hq]
  clear hq b10 b1x b12
  have HS3 := Lib.hid (((HS2.out.add (Below.refl _ _) (t := Mm.tsl Mm.int 3 [] (.slice none 0 0) []) Mm.SlOwn.nil List.nodup_nil (fun b hb => by cases hb))).add (Below.refl _ _) (t := Mm.tsl Mm.int 3 [] (.slice none 0 0) []) Mm.SlOwn.nil List.nodup_nil (fun b hb => by cases hb))
  go_wp2_with fail
  go_loopg [7, 8, 9] q (fun gg sa sb sk wr => ∃ (k : Nat) (a b : List Int) (A1 : Option Addr) (m1 c1 : Nat) (A2 : Option Addr) (m2 c2 : Nat) (f1 f2 : List Nat) (Kc : Nat), q - k ≤ gg ∧ k ≤ q ∧ sk = .int .i64 k ∧ sa = .slice A1 m1 c1 ∧ sb = .slice A2 m2 c2 ∧ Hid (m1 = a.length) ∧ Hid (m2 = b.length) ∧ Hid (Pl.Up a k) ∧ Hid (Pl.Up b k) ∧ Kc ≤ 10 + 10 * k ∧ Hid (Mm.SepF [] w wr [Mm.tsl Mm.int 3 a (.slice A1 m1 c1) f1, Mm.tsl Mm.int 3 b (.slice A2 m2 c2) f2, Mm.tcur 74 A n c g Kc]))
  case atStart => exact ⟨0, [], [], none, 0, 0, none, 0, 0, [], [], 1, Nat.le_refl _, Nat.zero_le _, rfl, rfl, rfl, rfl, rfl, ⟨List.Pairwise.nil, fun x hx => by cases hx⟩, ⟨List.Pairwise.nil, fun x hx => by cases hx⟩, by omega, HS3.out⟩
  case round =>
    clear HS2 HS3
    obtain ⟨k, a, b, A1, m1, c1, A2, m2, c2, f1, f2, Kc, hgk, hk, rfl, rfl, rfl, HLA, HLB, HUA, HUB, hKc, HS⟩ := hrel
    obtain ⟨Wr, rfl⟩ : ∃ Wr : World, Wr = wr := ⟨_, rfl⟩
    have hm1 : m1 ≤ k := by have := HUA.out.len; have := HLA.out; omega
    have hm2 : m2 ≤ k := by have := HUB.out.len; have := HLB.out; omega
    obtain ⟨i0, hi, hz0, hz1, hz2⟩ := info_parts Try.infoIntV
    by_cases hlt : k < q
    · have g1 : (k : Int) < (q : Nat) := by omega
      go_upto_if 23 with (go_at_call 70; refine (one_c code A n c g _ _ _ B (HC.out.keep fun b hb => HS.out.chg.block b (Nat.lt_of_lt_of_le hb hB) (by simp)) hBg (HS.out.at_ 2 rfl) (by omega) (by omega)).mono ?_; rintro e w1 ⟨x1, rfl, hL⟩; (have HS := Lib.hid (HS.out.call 2 rfl hL)); clear hL)
      go_cut [7] (fun s7 wx => ∃ (a' : List Int) (A1' : Option Addr) (m1' c1' : Nat) (f1' : List Nat), s7 = .slice A1' m1' c1' ∧ Hid (m1' = a'.length) ∧ Hid (Pl.Up a' (k + 1)) ∧ Hid (Mm.SepF [] w wx [Mm.tsl Mm.int 3 a' (.slice A1' m1' c1') f1', Mm.tsl Mm.int 3 b (.slice A2 m2 c2) f2, Mm.tcur 74 A n c g (Kc + 1)]))
      case first =>
        cases x1 with
        | true =>
          go_wp2_with fail
          go_meet
          exact ⟨a, _, _, _, _, rfl, HLA, Lib.hid HUA.out.wide, HS⟩
        | false =>
          go_wp2_with (((at_builtin; refine Mm.app_list (x := (k : Int)) HS.out 0 rfl rfl (.tmp 24) (.tmp 26) 23 rfl i0 _ 8 Try.underlying23 hi hz0 hz1 hz2 rfl (by decide) rfl rfl (fun W => ⟨rfl, by unfold Mm.I64; omega, rfl⟩) HLA.out.symm (by unfold maxLen; omega) (by omega) ?_; intro ga cap w' fp' hs; (have HS4 := Lib.hid hs); clear hs)))
          go_meet
          exact ⟨a ++ [(k : Int)], _, _, _, _, rfl, Lib.hid (by show _ = _; rw [List.length_append, HLA.out]; rfl), Lib.hid HUA.out.push, HS4⟩
      case rest =>
        obtain ⟨a', A1', m1', c1', f1', rfl, HLA', HUA', HS⟩ := hcut
        go_upto_if 30 with (go_at_call 70; refine (one_c code A n c g _ _ _ B (HC.out.keep fun b hb => HS.out.chg.block b (Nat.lt_of_lt_of_le hb hB) (by simp)) hBg (HS.out.at_ 2 rfl) (by omega) (by omega)).mono ?_; rintro e w4 ⟨x2, rfl, hL⟩; (have HS := Lib.hid (HS.out.call 2 rfl hL)); clear hL)
        cases x2 with
        | true =>
          go_wp2_with fail
          go_roundg (q - (k + 1))
          case measure => omega
          case rel => exact ⟨k + 1, a', b, _, _, _, _, _, _, _, _, Kc + 1 + 1, Nat.le_refl _, by omega, by go_num, rfl, rfl, HLA', HLB, HUA', Lib.hid HUB.out.wide, by omega, HS⟩
        | false =>
          go_wp2_with (((at_builtin; refine Mm.app_list (x := (k : Int)) HS.out 1 rfl rfl (.tmp 31) (.tmp 33) 23 rfl i0 _ 8 Try.underlying23 hi hz0 hz1 hz2 rfl (by decide) rfl rfl (fun W => ⟨rfl, by unfold Mm.I64; omega, rfl⟩) HLB.out.symm (by unfold maxLen; omega) (by omega) ?_; intro ga cap w' fp' hs; (have HS4 := Lib.hid hs); clear hs)))
          go_roundg (q - (k + 1))
          case measure => omega
          case rel => exact ⟨k + 1, a', b ++ [(k : Int)], _, _, _, _, _, _, _, _, Kc + 1 + 1, Nat.le_refl _, by omega, by go_num, rfl, rfl, HLA', Lib.hid (by show _ = _; rw [List.length_append, HLB.out]; rfl), HUA', Lib.hid HUB.out.push, by omega, HS4⟩
    · obtain rfl : k = q := by omega
      have g1 : ¬ ((k : Nat) : Int) < (k : Nat) := by omega
      go_wp2_with fail
      go_ret3
      exact ⟨k, a, b, _, _, _, _, _, _, rfl, hq1.1, hq1.2, HUA.out, HUB.out, (HS.out.sl 0 rfl).weak (HS.out.sl 0 rfl).olt, (HS.out.sl 1 rfl).weak (HS.out.sl 1 rfl).olt, by rw [← hg]; exact HS.out.bel0⟩
end Go.Proofs.Ytkhchfbpmmiopaa

/-
  Contracts: a candidate with a majority leads (chapter 8). No conditions beyond those named.
-/
namespace Go.Proofs.Ytkhchfbpmmiopaa
open Go.RowKit
attribute [local go_sem] und_cell cha_cell World.cell?_alloc_some
set_option maxRecDepth 100000 in
set_option maxHeartbeats 4000000 in
theorem lead_c (p : Poll) (k : Nat) (g : Nat) (fp : List Nat) (w : World) (h : (Mm.tptr rPoll 31 g p fp).holds w) (hnd : (g :: fp).Nodup) (hw : Pl.PW p) (hk : k < p.Nodes.length) (hr : (Pl.nodeAt p (k : Int)).Role = 1) :
    Calls Try.prog 97 #[.pointer (some ⟨g, 0, none⟩), .int .i64 k] w fun e w' => e = .returned (.tuple #[]) ∧ ∃ fp', Mm.Left (g :: fp) w w' (Mm.tptr rPoll 31 g (Pl.plead p (k : Int)) fp') := by
  obtain ⟨A0, n0, c0, A1, n1, c1, A2, n2, c2, f0, f1, f2, rfl, hs⟩ := open_Poll (Mm.SepF.one _ w h hnd)
  obtain ⟨g0, rfl, -, -⟩ := Mm.sl_addr (hs.sl 1 rfl) (by omega)
  have hln0 : n0 = p.Nodes.length := by obtain ⟨A', n', c', hv, h1, _⟩ := (hs.sl 1 rfl).form; injection hv with _ h2 _; omega
  have hln2 : n2 = p.Leaders.length := by obtain ⟨A', n', c', hv, h1, _⟩ := (hs.sl 3 rfl).form; injection hv with _ h2 _; omega
  subst hln2
  have hx := hw.at_ (k := (k : Int)) (by omega) (by omega)
  rw [show ((k : Nat) : Int).toNat = k by omega] at hx
  have HF0 : Hid (Pl.plead p (k : Int) = if p.Nodes.length / 2 < (Pl.nodeAt p (k : Int)).Heard.length then Pl.pcrown (Pl.setNode p (k : Int) (Pl.withRole (Pl.nodeAt p (k : Int)) 2)) (k : Int) else p) := Lib.hid (by
    unfold Pl.plead
    by_cases h2 : p.Nodes.length / 2 < (Pl.nodeAt p (k : Int)).Heard.length
    · rw [if_pos ⟨hr, h2⟩, if_pos h2]
    · rw [if_neg (fun hh => h2 hh.2), if_neg h2])
  have hn5 := hw.n5
  have hl300 := hw.leads
  obtain ⟨nd, hnd'⟩ : ∃ nd, Pl.nodeAt p (k : Int) = nd := ⟨_, rfl⟩
  rw [hnd'] at hx HF0 hr
  have HND := Lib.hid hnd'
  have HX := Lib.hid hx
  have HS := Lib.hid hs
  have HR := Lib.hid hr
  have HKN := Lib.hid hk
  have hkn : (k : Int) < (n0 : Nat) := by omega
  have hkn' : k < n0 := by omega
  have hk0 : (0 : Int) ≤ (k : Nat) := by omega
  have hkt : ((k : Nat) : Int).toNat = k := by omega
  have HN0 := Lib.hid hln0
  clear h hs hnd hx hnd' hr hw hk hln0
  obtain ⟨A3, m3, d3, e0, e1, e2, e3, e4, hrd, i0', i1', i2', i4'⟩ := node_cells (HS.out.sl 1 rfl) (HS.out.ndat (i := 1) rfl) HX.out
  have HM3 : Hid (nd.Heard.length = m3) := hrd.1
  clear hrd i0' i1' i2' i4'
  have b0 := HS.out.cell (k := 0) 0 rfl rfl
  have b2 := HS.out.cell (k := 2) 0 rfl rfl
  have hgg : g0 ≠ g := fun e => HS.out.apart (i := 1) (j := 0) rfl rfl (by decide) g0 (HS.out.sl 1 rfl).mem_block (by simp [Mm.tblk, e])
  obtain ⟨hf, hhf⟩ : ∃ hf : Nat, n0 / 2 = hf := ⟨_, rfl⟩
  have f0 : wrap64 ((n0 : Int) / 2) = (hf : Nat) := by rw [IntWalk.wrap64_in _ (by have := HN0.out; omega)]; omega
  have HHF : Hid (p.Nodes.length / 2 = hf) := Lib.hid (by rw [← HN0.out]; exact hhf)
  clear hhf
  by_cases hmaj : m3 ≤ hf
  · have HF : Hid (Pl.plead p (k : Int) = p) := Lib.hid (by rw [HF0.out, if_neg (by rw [HM3.out, HHF.out]; omega)])
    have f1 : decide ((m3 : Int) ≤ (hf : Nat)) = true := by simp; omega
    go_enter Try.func97, Try.ntmps97
    go_wp2
    refine wp_region_und (by kernel_rfl) (by kernel_rfl) ?_
    repeat (go_big_quiet_step ((first | fail)))
    refine wpQuiet_nil ?_
    intro X hX
    go_wp2
    exact bodyPost_ret (v := .tuple #[]) (by simp [results, Try.results97, go_sem]) rfl ⟨rfl, _, by rw [HF.out]; exact (shut_Poll (HS.out.step hX)).left⟩
  · have HF1 : Hid (Pl.plead p (k : Int) = Pl.pcrown (Pl.setNode p (k : Int) (Pl.withRole nd 2)) (k : Int)) := Lib.hid (by rw [HF0.out, if_pos (by rw [HM3.out, HHF.out]; omega)])
    have f1 : decide ((m3 : Int) ≤ (hf : Nat)) = false := by simp; omega
    go_enter Try.func97, Try.ntmps97
    go_wp2
    refine wp_region_und (by kernel_rfl) (by kernel_rfl) ?_
    repeat (go_big_quiet_step ((first | fail)))
    refine wpQuiet_nil ?_
    intro X hX
    have HSX := Lib.hid (HS.out.step hX)
    have e4' := below_some hX e4
    have z4 := (HSX.out.sl 1 rfl).frozen (k * 5 + 4)
    have HS2 := Lib.hid (HSX.out.nodeNum (k := k) (m := 4) (v := 2) 1 rfl HX.out (by omega) (fun cs fx hh => rNode_set4 hh (by unfold Mm.I64; omega)))
    go_upto_region 3 with fail
    clear e0 e1 e2 e3 e4 e4' b0 b2 z4
    obtain ⟨W3, hW3⟩ : ∃ W3, X.setCell ⟨g0, k * 5 + 4, none⟩ (.int .i64 2) = W3 := ⟨_, rfl⟩
    rw [hW3] at HS2 ⊢
    clear hW3 HS HSX hX
    have hx2 : (p.Nodes.set k (⟨nd.Term, nd.Voted, nd.Age, nd.Heard, 2⟩ : Node))[k]? = some (⟨nd.Term, nd.Voted, nd.Age, nd.Heard, 2⟩ : Node) := List.getElem?_set_self HKN.out
    obtain ⟨A4, m4, d4, e0, -, -, -, -, hrd, i0', -, -, -⟩ := node_cells (HS2.out.sl 1 rfl) (HS2.out.ndat (i := 1) rfl) hx2
    have HI0 := Lib.hid i0'
    clear hrd i0' hx2
    have hpn : Pl.nodeAt (Pl.setNode p (k : Int) (Pl.withRole nd 2)) (k : Int) = Pl.withRole nd 2 := by rw [Pl.nodeAt_set (by rw [hkt]; exact HKN.out) hk0 hk0, if_pos rfl]
    have b2 := HS2.out.cell (k := 2) 0 rfl rfl
    by_cases h300 : p.Leaders.length < 300
    · have HF : Hid (Pl.plead p (k : Int) = { Pl.setNode p (k : Int) (Pl.withRole nd 2) with Leaders := p.Leaders ++ [[nd.Term, (k : Int)]] }) := Lib.hid (by
        rw [HF1.out]
        refine (if_pos h300).trans ?_
        rw [hpn]
        rfl)
      have f2 : ((p.Leaders.length : Nat) : Int) < 300 := by omega
      clear hpn
      go_upto_region 4 with fail
      obtain ⟨i0, hi, hz0, hz1, hz2⟩ := info_parts Try.infoIntsP
      have z2 := HS2.out.frz (k := 2) 0 rfl
      have HSA := Lib.hid (HS2.out.add (below_new (Below.refl _ _) (.cells #[.int .i64 nd.Term, .int .i64 k] 3)) (t := Mm.tsl Mm.int 3 [nd.Term, (k : Int)] (.slice (some ⟨W3.heap.size, 0, none⟩) 2 2) [W3.heap.size]) (ints_lit W3 [nd.Term, (k : Int)] 2 rfl (fun x hx => by rcases List.mem_cons.1 hx with rfl | hx; exact HI0.out; rw [List.mem_singleton.1 hx]; unfold Mm.I64; have := HKN.out; omega) (by decide)) (by simp [Mm.tsl]) (by simp [Mm.tsl]))
      obtain ⟨l0, ho2, hnext⟩ := HSA.out.push 4 0 (by decide) rfl rfl (W2 := ((W3.alloc (.cells #[.int .i64 nd.Term, .int .i64 k] 3)).alloc (.cells #[.slice (some ⟨W3.heap.size, 0, none⟩) 2 2] 23)).drew) (x := [nd.Term, (k : Int)]) (cx := [.slice (some ⟨W3.heap.size, 0, none⟩) 2 2]) (below_new (Below.refl _ _) _).drew (fun W hh => ⟨_, rfl, hh⟩)
      have HNX := Lib.hid hnext
      have HO2 := Lib.hid ho2
      clear hnext ho2
      go_region_law (first
        | (refine step_append_lies _ (by rfl) (.tmp 36) (.tmp 43) 29 (by rfl) 0 23 i0 _ 1 24 Try.underlying29 hi hz0 hz1 hz2 rfl (by omega) _ p.Leaders.length l0 (by rfl) HO2.out ⟨W3.heap.size + 1, 0, none⟩ 1 1 [.slice (some ⟨W3.heap.size, 0, none⟩) 2 2] (by rfl) (by rfl) (World.news_of_block (B := W3.heap.size + 1) (cs := #[.slice (some ⟨W3.heap.size, 0, none⟩) 2 2]) (t := 23) (fr := (0, 0)) (Mm.heap_new _ (Mm.sz1 _ _) _)) (by simp [Value.oneCell']) (by omega) (by unfold maxLen; omega) (by omega) (Nat.zero_le _) _ rfl ?_; intro gg cap w4 hown1 hgrow hat hlt'; obtain ⟨fp', hs4⟩ := HNX.out gg cap w4 hown1 hgrow hat; (have HS4 := Lib.hid hs4); (have d4 := HS4.out.cell (k := 2) 1 rfl rfl); (have z4 := HS4.out.frz (k := 2) 1 rfl); clear hs4 hown1 hgrow hat))
      all_goals
        go_wp2
        go_end0
        exact ⟨rfl, _, by rw [HF.out]; exact (shut_Poll (x := { Pl.setNode p (k : Int) (Pl.withRole nd 2) with Leaders := p.Leaders ++ [[nd.Term, (k : Int)]] }) ((HS4.out.setBlk 1 rfl _).sel [1, 2, 3, 4] (by decide) rfl)).left⟩
    · have HF : Hid (Pl.plead p (k : Int) = Pl.setNode p (k : Int) (Pl.withRole nd 2)) := Lib.hid (by
        rw [HF1.out]
        exact if_neg h300)
      have f2 : ¬ ((p.Leaders.length : Nat) : Int) < 300 := by omega
      go_wp2
      go_end0
      exact ⟨rfl, _, by rw [HF.out]; exact (shut_Poll (x := Pl.setNode p (k : Int) (Pl.withRole nd 2)) HS2.out).left⟩
end Go.Proofs.Ytkhchfbpmmiopaa

/-
  Contracts: a node becomes a candidate (chapter 8). No conditions beyond those named.
-/
namespace Go.Proofs.Ytkhchfbpmmiopaa
open Go.RowKit
attribute [local go_sem] und_cell cha_cell World.cell?_alloc_some
theorem Pl.pasks_eq (p : Poll) (k t a : Int) (j : Nat) : Pl.pasks p k t a j = { p with Letters := (Pl.pasks p k t a j).Letters } := by
  have h := Pl.pasks_same p k t a j
  cases hq : Pl.pasks p k t a j with
  | mk N L D =>
    rw [hq] at h
    obtain ⟨h1, h2⟩ := h
    dsimp only at h1 h2
    rw [h1, h2]
theorem Pl.pasks_yes (p : Poll) (k t a : Int) (j : Nat) (h : (j : Int) = k) : (Pl.pasks p k t a (j + 1)).Letters = (Pl.pasks p k t a j).Letters := by rw [Pl.pasks, if_pos h]
theorem Pl.pasks_no (p : Poll) (k t a : Int) (j : Nat) (h : (j : Int) ≠ k) : (Pl.pasks p k t a (j + 1)).Letters = Pl.lsend (Pl.pasks p k t a j).Letters ⟨k, j, t, true, a⟩ := by rw [Pl.pasks, if_neg h, Pl.psend_eq]
set_option maxRecDepth 100000 in
set_option maxHeartbeats 4000000 in
theorem standNo_c (p : Poll) (k : Nat) (g : Nat) (fp : List Nat) (w : World) (h : (Mm.tptr rPoll 31 g p fp).holds w) (hnd : (g :: fp).Nodup) (hw : Pl.PW p) (hk : k < p.Nodes.length) (ht : (Pl.nodeAt p (k : Int)).Term = 200) :
    Calls Try.prog 79 #[.pointer (some ⟨g, 0, none⟩), .int .i64 k] w fun e w' => e = .returned (.bool false) ∧ w' = w := by
  obtain ⟨A0, n0, c0, A1, n1, c1, A2, n2, c2, f0, f1, f2, rfl, hs⟩ := open_Poll (Mm.SepF.one _ w h hnd)
  obtain ⟨g0, rfl, -, -⟩ := Mm.sl_addr (hs.sl 1 rfl) (by omega)
  have hln0 : n0 = p.Nodes.length := by obtain ⟨A', n', c', hv, h1, _⟩ := (hs.sl 1 rfl).form; injection hv with _ h2 _; omega
  have hx := hw.at_ (k := (k : Int)) (by omega) (by omega)
  rw [show ((k : Nat) : Int).toNat = k by omega] at hx
  have hn5 := hw.n5
  obtain ⟨nd, hnd'⟩ : ∃ nd, Pl.nodeAt p (k : Int) = nd := ⟨_, rfl⟩
  rw [hnd'] at hx ht
  have HND := Lib.hid hnd'
  have HX := Lib.hid hx
  have HS := Lib.hid hs
  have HW := Lib.hid hw
  have HKN := Lib.hid hk
  have hkn : (k : Int) < (n0 : Nat) := by omega
  have hk0 : (0 : Int) ≤ (k : Nat) := by omega
  have hkt : ((k : Nat) : Int).toNat = k := by omega
  have HN0 := Lib.hid hln0
  have HT := Lib.hid ht
  clear h hs hnd hx hnd' hw hk hln0 ht
  obtain ⟨A3, m3, d3, e0, e1, e2, e3, e4, hrd, i0', i1', i2', i4'⟩ := node_cells (HS.out.sl 1 rfl) (HS.out.ndat (i := 1) rfl) HX.out
  have HI := Lib.hid (And.intro i0' i2')
  clear hrd i0' i1' i2' i4'
  have b0 := HS.out.cell (k := 0) 0 rfl rfl
  have hgg : g0 ≠ g := fun e => HS.out.apart (i := 1) (j := 0) rfl rfl (by decide) g0 (HS.out.sl 1 rfl).mem_block (by simp [Mm.tblk, e])
  have fa : (nd.Term == 200) = true := by rw [HT.out]; rfl
  go_enter Try.func79, Try.ntmps79
  go_wp2
  go_ret
  exact ⟨rfl, rfl⟩
set_option maxRecDepth 100000 in
set_option maxHeartbeats 4000000 in
theorem standYes_c (p : Poll) (k : Nat) (g : Nat) (fp : List Nat) (w : World) (h : (Mm.tptr rPoll 31 g p fp).holds w) (hnd : (g :: fp).Nodup) (hw : Pl.PW p) (hk : k < p.Nodes.length) (ht : (Pl.nodeAt p (k : Int)).Term ≠ 200) :
    Calls Try.prog 79 #[.pointer (some ⟨g, 0, none⟩), .int .i64 k] w fun e w' => e = .returned (.bool true) ∧ ∃ fp', Mm.Left (g :: fp) w w' (Mm.tptr rPoll 31 g (Pl.pstand p (k : Int)) fp') := by
  obtain ⟨A0, n0, c0, A1, n1, c1, A2, n2, c2, f0, f1, f2, rfl, hs⟩ := open_Poll (Mm.SepF.one _ w h hnd)
  obtain ⟨g0, rfl, -, -⟩ := Mm.sl_addr (hs.sl 1 rfl) (by omega)
  have hln0 : n0 = p.Nodes.length := by obtain ⟨A', n', c', hv, h1, _⟩ := (hs.sl 1 rfl).form; injection hv with _ h2 _; omega
  have hx := hw.at_ (k := (k : Int)) (by omega) (by omega)
  rw [show ((k : Nat) : Int).toNat = k by omega] at hx
  have hn5 := hw.n5
  obtain ⟨nd, hnd'⟩ : ∃ nd, Pl.nodeAt p (k : Int) = nd := ⟨_, rfl⟩
  rw [hnd'] at hx ht
  have HND := Lib.hid hnd'
  have HX := Lib.hid hx
  have HS := Lib.hid hs
  have HW := Lib.hid hw
  have HKN := Lib.hid hk
  have hkn : (k : Int) < (n0 : Nat) := by omega
  have hk0 : (0 : Int) ≤ (k : Nat) := by omega
  have hkt : ((k : Nat) : Int).toNat = k := by omega
  have HN0 := Lib.hid hln0
  have HT := Lib.hid ht
  clear h hs hnd hx hnd' hw hk hln0 ht
  obtain ⟨A3, m3, d3, e0, e1, e2, e3, e4, hrd, i0', i1', i2', i4'⟩ := node_cells (HS.out.sl 1 rfl) (HS.out.ndat (i := 1) rfl) HX.out
  have HI := Lib.hid (And.intro i0' i2')
  clear hrd i0' i1' i2' i4'
  have b0 := HS.out.cell (k := 0) 0 rfl rfl
  have hgg : g0 ≠ g := fun e => HS.out.apart (i := 1) (j := 0) rfl rfl (by decide) g0 (HS.out.sl 1 rfl).mem_block (by simp [Mm.tblk, e])
  have hno := HW.out.nok (k := (k : Int)) hk0 (by have := HKN.out; omega)
  rw [HND.out] at hno
  have hterm := hno.term
  have HNO := Lib.hid hno
  clear hno
  have fa : (nd.Term == 200) = false := by have := HT.out; simpa using this
  have fb : IntKind.i64.wrap (nd.Term + 1) = nd.Term + 1 := IntWalk.i64_in _ (by omega)
  have z0 := (HS.out.sl 1 rfl).frozen (k * 5)
  go_enter Try.func79, Try.ntmps79
  have HS1 := Lib.hid (HS.out.nodeNum (k := k) (m := 0) (v := nd.Term + 1) 1 rfl HX.out (by omega) (fun cs fx hh => rNode_set0 hh (by unfold Mm.I64; omega)))
  rw [Nat.add_zero] at HS1
  go_upto_region 5 with fail
  clear e0 e1 e2 e3 e4 b0 z0
  obtain ⟨W4, hW4⟩ : ∃ W4, w.setCell ⟨g0, k * 5, none⟩ (.int .i64 (nd.Term + 1)) = W4 := ⟨_, rfl⟩
  rw [hW4] at HS1 ⊢
  clear hW4 HS
  have hx1 : (p.Nodes.set k (⟨nd.Term + 1, nd.Voted, nd.Age, nd.Heard, nd.Role⟩ : Node))[k]? = some (⟨nd.Term + 1, nd.Voted, nd.Age, nd.Heard, nd.Role⟩ : Node) := List.getElem?_set_self HKN.out
  obtain ⟨A5, m5, d5, fx5, c3, -, -, -, -, hnext⟩ := HS1.out.nodeHeard 1 rfl hx1
  have hIk : Mm.I64 (k : Int) := by unfold Mm.I64; have := HKN.out; omega
  obtain ⟨fp1, hsa⟩ := hnext (W4.alloc (.cells #[.int .i64 k] 3)) [(k : Int)] (some ⟨W4.heap.size, 0, none⟩) 1 1 [W4.heap.size] (((Mm.SepF.start W4).add (below_new (Below.refl _ _) (.cells #[.int .i64 k] 3)) (t := Mm.tsl Mm.int 3 [(k : Int)] (.slice (some ⟨W4.heap.size, 0, none⟩) 1 1) [W4.heap.size]) (ints_lit W4 [(k : Int)] 1 rfl (fun x hx => by rw [List.mem_singleton.1 hx]; exact hIk) (by decide)) (by simp [Mm.tsl]) (by simp [Mm.tsl])).widen)
  simp only [List.set_cons_succ, List.set_cons_zero, List.set_set] at hsa
  have hx2 : (p.Nodes.set k (⟨nd.Term + 1, nd.Voted, nd.Age, [(k : Int)], nd.Role⟩ : Node))[k]? = some (⟨nd.Term + 1, nd.Voted, nd.Age, [(k : Int)], nd.Role⟩ : Node) := List.getElem?_set_self HKN.out
  have hsb := hsa.nodeNum (k := k) (m := 1) (v := (k : Int)) 1 rfl hx2 (by omega) (fun cs fx hh => rNode_set1 hh hIk)
  rw [Mm.setCell_comm _ _ _ _ _ _ (by omega)] at hsb
  simp only [List.set_cons_succ, List.set_cons_zero, List.set_set] at hsb
  have hx3 : (p.Nodes.set k (⟨nd.Term + 1, (k : Int), nd.Age, [(k : Int)], nd.Role⟩ : Node))[k]? = some (⟨nd.Term + 1, (k : Int), nd.Age, [(k : Int)], nd.Role⟩ : Node) := List.getElem?_set_self HKN.out
  have hsc := hsb.nodeNum (k := k) (m := 4) (v := 1) 1 rfl hx3 (by omega) (fun cs fx hh => rNode_set4 hh (by unfold Mm.I64; omega))
  simp only [List.set_cons_succ, List.set_cons_zero, List.set_set] at hsc
  have HS3 := Lib.hid hsc
  have HSB := Lib.hid (HS1.out.step (below_new (Below.refl _ _) (.cells #[.int .i64 k] 3)))
  have g0s := (HSB.out.sl 1 rfl)
  obtain ⟨A6, m6, d6, e0, e1, e2, e3, e4, -, -, -, -, -⟩ := node_cells g0s (HSB.out.ndat (i := 1) rfl) hx1
  have z1 := g0s.frozen (k * 5 + 1)
  have z3 := g0s.frozen (k * 5 + 3)
  have z4 := g0s.frozen (k * 5 + 4)
  clear hnext hsa hsb hsc g0s hx1 hx2 hx3 c3
  go_upto_region 6 with fail
  clear e0 e1 e2 e3 e4 z1 z3 z4 HSB HS1
  obtain ⟨W5, hW5⟩ : ∃ W5, (((W4.alloc (.cells #[.int .i64 k] 3)).setCell ⟨g0, k * 5 + 1, none⟩ (.int .i64 k)).setCell ⟨g0, k * 5 + 3, none⟩ (.slice (some ⟨W4.heap.size, 0, none⟩) 1 1)).setCell ⟨g0, k * 5 + 4, none⟩ (.int .i64 1) = W5 := ⟨_, rfl⟩
  rw [hW5] at HS3 ⊢
  clear hW5
  obtain ⟨p1, hp1⟩ : ∃ p1, Pl.setNode p (k : Int) ⟨nd.Term + 1, (k : Int), nd.Age, [(k : Int)], 1⟩ = p1 := ⟨_, rfl⟩
  have HPE : Hid (Pl.pstand p (k : Int) = Pl.plead (Pl.pasks p1 (k : Int) (nd.Term + 1) nd.Age n0) (k : Int)) := Lib.hid (by
    unfold Pl.pstand
    rw [HND.out, hp1, HN0.out])
  have hpw1 : Pl.PW p1 := by
    rw [← hp1]
    refine HW.out.set ?_
    have hn := HNO.out
    have hkn' := HKN.out
    exact ⟨by show 0 ≤ nd.Term + 1 ∧ nd.Term + 1 ≤ 200; have := HT.out; omega, by show (-1 : Int) ≤ (k : Int) ∧ (k : Int) ≤ _; omega, hn.age, List.pairwise_singleton _ _, fun i hi => by rw [List.mem_singleton.1 hi]; omega, ⟨show (0:Int) ≤ 1 by omega, show (1:Int) ≤ 2 by omega⟩, fun hh => by cases hh⟩
  have hpn1 : p1.Nodes = p.Nodes.set k ⟨nd.Term + 1, (k : Int), nd.Age, [(k : Int)], 1⟩ := by rw [← hp1]; unfold Pl.setNode; rw [hkt]
  have hpl1 : p1.Letters = p.Letters ∧ p1.Leaders = p.Leaders := by rw [← hp1]; exact ⟨rfl, rfl⟩
  have HP := Lib.hid (And.intro hpw1 (And.intro hpn1 hpl1))
  have HL0 : Hid (p1.Nodes.length = n0) := Lib.hid (by rw [hpn1, List.length_set]; exact HN0.out.symm)
  have hT1 : 1 ≤ nd.Term + 1 ∧ nd.Term + 1 ≤ 200 := by have := HT.out; omega
  have hA1 := HNO.out.age
  clear hpw1 hpn1 hpl1 hp1
  have b0 := HS3.out.cell (k := 0) 0 rfl rfl
  go_upto_region 7 with fail
  clear b0
  go_loopg [42] n0 (fun gg i wr => ∃ (j : Nat) (A1' : Option Addr) (n1' c1' : Nat) (f1' : List Nat), n0 - j ≤ gg ∧ j ≤ n0 ∧ i = .int .i64 j ∧ Hid (Mm.SepF (g :: (f0 ++ (f1 ++ f2))) w wr [Mm.tblk g 31 [.slice (some ⟨g0, 0, none⟩) n0 c0, .slice A1' n1' c1', .slice A2 n2 c2], Mm.tsl rNode 42 p1.Nodes (.slice (some ⟨g0, 0, none⟩) n0 c0) fp1, Mm.tsl rLetter 84 (Pl.pasks p1 (k : Int) (nd.Term + 1) nd.Age j).Letters (.slice A1' n1' c1') f1', Mm.tsl ints 23 p1.Leaders (.slice A2 n2 c2) f2]))
  case atStart => exact ⟨0, A1, n1, c1, f1, Nat.le_refl _, Nat.zero_le _, rfl, by rw [HP.out.2.1, HP.out.2.2.2]; show Hid (Mm.SepF _ _ _ [_, _, Mm.tsl rLetter 84 p1.Letters _ _, _]); rw [HP.out.2.2.1]; exact HS3⟩
  case round =>
    clear HS3
    obtain ⟨j, A1', n1', c1', f1', hgj, hj, rfl, HS⟩ := hrel
    obtain ⟨W, rfl⟩ : ∃ W : World, W = wr := ⟨_, rfl⟩
    have hkn : (k : Int) < (n0 : Nat) := by have := HKN.out; have := HN0.out; omega
    have hn05 : n0 ≤ 5 := by have := HN0.out; omega
    by_cases hlt : j < n0
    · have fc : (j : Int) < (n0 : Nat) := by omega
      by_cases hjk : (j : Int) = (k : Int)
      · have fd : ((j : Int) != (k : Int)) = false := by simp [hjk]
        have HJ : Hid ((Pl.pasks p1 (k : Int) (nd.Term + 1) nd.Age (j + 1)).Letters = (Pl.pasks p1 (k : Int) (nd.Term + 1) nd.Age j).Letters) := Lib.hid (Pl.pasks_yes _ _ _ _ _ hjk)
        clear hjk
        go_wp2
        go_roundg (n0 - (j + 1))
        case measure => omega
        case rel => exact ⟨j + 1, _, _, _, _, Nat.le_refl _, by omega, by go_num, by rw [HJ.out]; exact HS⟩
      · have fd : ((j : Int) != (k : Int)) = true := by simpa using hjk
        have HJ : Hid ((Pl.pasks p1 (k : Int) (nd.Term + 1) nd.Age (j + 1)).Letters = Pl.lsend (Pl.pasks p1 (k : Int) (nd.Term + 1) nd.Age j).Letters ⟨(k : Int), (j : Int), nd.Term + 1, true, nd.Age⟩) := Lib.hid (Pl.pasks_no _ _ _ _ _ hjk)
        have hl60 := (HP.out.1.asks (k := (k : Int)) (t := nd.Term + 1) (a := nd.Age) (by rw [HL0.out]; omega) hT1 hA1 j (by rw [HL0.out]; omega)).lets
        have HL60 := Lib.hid hl60
        clear hjk hl60
        obtain ⟨LS, hLS⟩ : ∃ LS, (Pl.pasks p1 (k : Int) (nd.Term + 1) nd.Age j).Letters = LS := ⟨_, rfl⟩
        rw [hLS] at HS HL60 HJ
        clear hLS
        have HSD := Lib.hid (HS.out.step (Below.refl _ _).drew)
        have hs1 := Lib.hid ((HSD.out.sel [0, 2, 1, 3] (by decide) rfl).both)
        have hone := Mm.SepF.one _ W.drew (hs1.out.at_ 0 rfl) (hs1.out.ndat (i := 0) rfl)
        have CS := sendO_c LS ⟨(k : Int), (j : Int), nd.Term + 1, true, nd.Age⟩ _ _ A1' n1' c1' g _ f1' W.drew hone.unboth ⟨by unfold Mm.I64; show _ ≤ (k : Int) ∧ (k : Int) ≤ _; omega, by unfold Mm.I64; show _ ≤ (j : Int) ∧ (j : Int) ≤ _; omega, by unfold Mm.I64; show _ ≤ nd.Term + 1 ∧ nd.Term + 1 ≤ _; omega, by unfold Mm.I64; show _ ≤ nd.Age ∧ nd.Age ≤ _; omega⟩ HL60.out
        have hx1 : p1.Nodes[k]? = some (⟨nd.Term + 1, (k : Int), nd.Age, [(k : Int)], 1⟩ : Node) := by rw [HP.out.2.1]; exact List.getElem?_set_self HKN.out
        obtain ⟨A6, m6, d6, e0, -, e2, -, -, -, -, -, -, -⟩ := node_cells (HSD.out.sl 1 rfl) (HSD.out.ndat (i := 1) rfl) hx1
        clear hone hx1
        go_upto_region 10 with fail
        go_region_law (go_simp; go_at_call 96; (with_reducible refine CS.mono ?_); clear CS; rintro e w6 ⟨rfl, A7, n7, c7, f7, hS⟩; (have HS7 := Lib.hid (((hs1.out.callAll 0 rfl hS)).sel [3, 1, 4, 2] (by decide) rfl)); clear hS)
        all_goals
          go_wp2
          go_roundg (n0 - (j + 1))
          case measure => omega
          case rel => exact ⟨j + 1, _, _, _, _, Nat.le_refl _, by omega, by go_num, by rw [HJ.out]; exact HS7⟩
    · obtain rfl : j = n0 := by omega
      have fc : ¬ (j : Int) < (j : Nat) := by omega
      have hpa := Pl.pasks_eq p1 (k : Int) (nd.Term + 1) nd.Age j
      have HPA := Lib.hid (HP.out.1.asks (k := (k : Int)) (t := nd.Term + 1) (a := nd.Age) (by rw [HL0.out]; omega) hT1 hA1 j (by rw [HL0.out]; omega))
      have HSP := Lib.hid (shut_Poll (x := { p1 with Letters := (Pl.pasks p1 (k : Int) (nd.Term + 1) nd.Age j).Letters }) HS.out)
      rw [← hpa] at HSP
      have hsn := (Pl.pasks_same p1 (k : Int) (nd.Term + 1) nd.Age j).1
      have hrole : (Pl.nodeAt (Pl.pasks p1 (k : Int) (nd.Term + 1) nd.Age j) (k : Int)).Role = 1 := by
        rw [Pl.nodeAt_same hsn, Pl.nodeAt_of (n := (⟨nd.Term + 1, (k : Int), nd.Age, [(k : Int)], 1⟩ : Node)) (by rw [hkt, HP.out.2.1]; exact List.getElem?_set_self HKN.out)]
      have CL := lead_c (Pl.pasks p1 (k : Int) (nd.Term + 1) nd.Age j) k g _ W (HSP.out.at_ 0 rfl) (HSP.out.ndat (i := 0) rfl) HPA.out (by rw [hsn, HL0.out]; omega) hrole
      clear hpa hsn hrole
      go_wp2_with (go_at_call 97; (with_reducible refine CL.mono ?_); clear CL; rintro e w6 ⟨rfl, fp6, hL⟩; (have HS7 := Lib.hid (HSP.out.call 0 rfl hL)); clear hL)
      go_ret
      exact ⟨rfl, _, by rw [HPE.out]; exact HS7.out.left⟩
end Go.Proofs.Ytkhchfbpmmiopaa

/-
  Contracts: slices.Insert of one number, the slice a thing of the call. No conditions beyond those named.
-/
namespace Go.Proofs.Ytkhchfbpmmiopaa
open Go.RowKit
attribute [local go_sem] und_cell cha_cell World.cell?_alloc_some
/-- slices.Insert of one number, the slice and the number's block things of the call -/
theorem insOne_c {F : List Nat} {w0 W : World} {ts : List Mm.Thing} {i j n c vb k : Nat} {A : Option Addr} {xs : List Int} {x : Int} {fp : List Nat} (h : Mm.SepF F w0 W ts) (hij : i ≠ j) (hi : ts[i]? = some (Mm.tsl Mm.int 3 xs (.slice A n c) fp)) (hj : ts[j]? = some (Mm.tblk vb 3 [.int .i64 x])) (hk : k ≤ n) (hn : n ≤ 1000) (hx : Mm.I64 x) :
    Calls Try.prog 99 #[.slice A n c, .int .i64 k, .slice (some ⟨vb, 0, none⟩) 1 1] W fun e w' => ∃ A' n' c' fp', e = .returned (.slice A' n' c') ∧ n' = n + 1 ∧ Mm.SepF F w0 w' (ts.set i (Mm.tsl Mm.int 3 (xs.take k ++ x :: xs.drop k) (.slice A' n' c') fp')) := by
  have hs : Mm.SlOwn Mm.int 3 W xs (.slice A n c) fp := h.at_ i hi
  have hb : Mm.Blk W vb 3 [.int .i64 x] := h.at_ j hj
  obtain ⟨ho, hfp, hown⟩ := Mm.flat1_int.owns hs
  obtain ⟨_, _, _, hv, hnl, _⟩ := hs.form
  injection hv with e1 e2 e3
  subst e1 e2 e3
  rw [← hnl] at ho
  refine (insInt_c (xs.map fun x => .int .i64 x) [.int .i64 x] n k vb A c W ho hk hn rfl (fun t u hu => hb.cell hu) (fun u hu => by rw [List.mem_singleton.1 hu]; rfl) (fun u hu => by obtain ⟨y, _, rfl⟩ := List.mem_map.1 hu; rfl)
    (fun g hg => ?_) (Mm.shape_blk hb) (fun j => hb.frozen j) hb.lt).mono ?_
  · subst hg
    intro e
    exact h.apart hi hj hij vb (by show vb ∈ fp; rw [e]; exact hs.mem_block) (by simp [Mm.tblk])
  · rintro e w' ⟨A', n', c', rfl, h1, h2, h3⟩
    have e5 : (xs.map fun x => Value.int .i64 x).take k ++ ([.int .i64 x] ++ (xs.map fun x => Value.int .i64 x).drop k) = (xs.take k ++ x :: xs.drop k).map fun x => Value.int .i64 x := by
      rw [List.map_append, List.map_cons, List.map_take, List.map_drop]; rfl
    rw [e5] at h1
    have hlen : (xs.take k ++ x :: xs.drop k).length = n + 1 := by rw [List.length_append, List.length_cons, List.length_take, List.length_drop]; omega
    have hE : ∀ y, y ∈ xs.take k ++ x :: xs.drop k → Mm.int.own w' y [.int .i64 y] [] := fun y hy => by
      rcases List.mem_append.1 hy with hy | hy
      · exact hown y (List.mem_of_mem_take hy) w'
      · rcases List.mem_cons.1 hy with rfl | hy
        · exact ⟨rfl, hx, rfl⟩
        · exact hown y (List.mem_of_mem_drop hy) w'
    have hso := Mm.flat1_int.row (by rw [hlen]; exact h1) hE
    obtain ⟨_, _, _, hv2, hn2, _⟩ := hso.form
    injection hv2 with _ e7 _
    refine ⟨A', n', c', _, rfl, by rw [e7, hn2, hlen], h.upd hi ?_ (t' := Mm.tsl Mm.int 3 (xs.take k ++ x :: xs.drop k) (.slice A' n' c') _) hso (by simp only [Mm.tsl]; cases (Value.slice A' n' c').ownBlock <;> simp) (fun b hb' => ?_)⟩
    · exact Mm.Chg.mk h2.os h2.tape h2.output h2.size fun b hb hn => h2.block b hb (fun hh => hn (Mm.row_in hs hh.symm))
    · simp only [Mm.tsl, Option.mem_toList] at hb'
      rcases h3 with h3 | h3
      · rw [h3] at hb'; exact .inl (Mm.row_in hs (by rw [Option.mem_def.1 hb']))
      · rw [h3] at hb'; injection hb' with hb'; exact .inr (by omega)
end Go.Proofs.Ytkhchfbpmmiopaa

/-
  Contracts: a letter is delivered (chapter 8). No conditions beyond those named.
-/
namespace Go.Proofs.Ytkhchfbpmmiopaa
open Go.RowKit
attribute [local go_sem] und_cell cha_cell World.cell?_alloc_some
theorem Pl.pnews_shape (p : Poll) (x : Letter) : (Pl.pnews p x).Letters = p.Letters ∧ (Pl.pnews p x).Leaders = p.Leaders ∧ (Pl.pnews p x).Nodes.length = p.Nodes.length := by
  unfold Pl.pnews
  split
  · exact ⟨rfl, rfl, Pl.set_len _ _ _⟩
  · exact ⟨rfl, rfl, rfl⟩
theorem Pl.PW.news {p : Poll} (h : PW p) {x : Letter} (hx : LetOk p.Nodes.length x) : PW (Pl.pnews p x) ∧ x.Term ≤ (nodeAt (pnews p x) x.To).Term := by
  have hn := h.nok hx.dst.1 hx.dst.2
  unfold Pl.pnews
  split
  · refine ⟨h.set ⟨by show 0 ≤ x.Term ∧ x.Term ≤ 200; have := hx.term; omega, by show (-1 : Int) ≤ -1 ∧ (-1 : Int) ≤ _; omega, hn.age, List.Pairwise.nil, (fun i hi => by cases hi), ⟨show (0:Int) ≤ 0 by omega, show (0:Int) ≤ 2 by omega⟩, fun _ => rfl⟩, ?_⟩
    rw [nodeAt_set (by have := hx.dst; omega) hx.dst.1 hx.dst.1, if_pos rfl]
    exact Int.le_refl _
  · exact ⟨h, by omega⟩
theorem Pl.putI_has : ∀ (l : List Int) (k : Int), l.Pairwise (· < ·) → k ∈ l → Pl.putI l k = l
  | [], k, _, h => by cases h
  | x :: t, k, hp, h => by
    have h2 := List.pairwise_cons.1 hp
    by_cases hx : x < k
    · have hk : k ∈ t := by
        rcases List.mem_cons.1 h with rfl | h
        · omega
        · exact h
      have ih := putI_has t k h2.2 hk
      unfold Pl.putI at ih ⊢
      rw [List.filter_cons_of_pos (by simpa using hx), List.filter_cons_of_neg (by simp; omega), List.cons_append, ih]
    · have hxk : x = k := by
        rcases List.mem_cons.1 h with h | h
        · exact h.symm
        · have := h2.1 k h; omega
      subst hxk
      unfold Pl.putI
      rw [List.filter_cons_of_neg (by simp), List.filter_cons_of_neg (by simp), List.filter_eq_nil_iff.2 (fun y hy => by have := h2.1 y hy; simp; omega), List.filter_eq_self.2 (fun y hy => by simpa using h2.1 y hy)]
      rfl
theorem Pl.PW.count {q : Poll} (h : Pl.PW q) {k : Int} {fr : Int} (k0 : 0 ≤ k) (k1 : k < q.Nodes.length) (hf : 0 ≤ fr ∧ fr < q.Nodes.length) (hr : (Pl.nodeAt q k).Role = 1) : Pl.PW (Pl.setNode q k (Pl.withHeard (Pl.nodeAt q k) (Pl.putI (Pl.nodeAt q k).Heard fr))) := by
  have hn := h.nok k0 k1
  refine h.set ⟨hn.term, hn.voted, hn.age, Pl.putI_sorted hn.heard _, fun i hi => ?_, hn.role, fun hh => by have : (Pl.nodeAt q k).Role = 0 := hh; omega⟩
  rcases Pl.mem_putI.1 hi with rfl | hi
  · exact hf
  · exact hn.hin i hi
set_option maxRecDepth 100000 in
set_option maxHeartbeats 4000000 in
theorem deliver_c (p : Poll) (m : Letter) (g : Nat) (fp : List Nat) (w : World) (h : (Mm.tptr rPoll 31 g p fp).holds w) (hnd : (g :: fp).Nodup) (hw : Pl.PW p) (hm : Pl.LetOk p.Nodes.length m) :
    Calls Try.prog 81 #[.pointer (some ⟨g, 0, none⟩), .agg #[.int .i64 m.From, .int .i64 m.To, .int .i64 m.Term, .bool m.Ask, .int .i64 m.Age]] w fun e w' => e = .returned (.tuple #[]) ∧ ∃ fp', Mm.Left (g :: fp) w w' (Mm.tptr rPoll 31 g (Pl.ptake p m) fp') := by
  have HMO := Lib.hid hm
  obtain ⟨fr, ds, tm, ask, ag⟩ := m
  obtain ⟨k, rfl⟩ : ∃ k : Nat, ds = k := ⟨ds.toNat, by have := hm.dst.1; dsimp only at this; omega⟩
  have hk : k < p.Nodes.length := by have := hm.dst.2; dsimp only at this; omega
  obtain ⟨A0, n0, c0, A1, n1, c1, A2, n2, c2, f0, f1, f2, rfl, hs⟩ := open_Poll (Mm.SepF.one _ w h hnd)
  obtain ⟨g0, rfl, -, -⟩ := Mm.sl_addr (hs.sl 1 rfl) (by omega)
  have hln0 : n0 = p.Nodes.length := by obtain ⟨A', n', c', hv, h1, _⟩ := (hs.sl 1 rfl).form; injection hv with _ h2 _; omega
  have hx := hw.at_ (k := (k : Int)) (by omega) (by omega)
  rw [show ((k : Nat) : Int).toNat = k by omega] at hx
  have hn5 := hw.n5
  have hn05 : n0 ≤ 5 := by omega
  obtain ⟨nd, hnd'⟩ : ∃ nd, Pl.nodeAt p (k : Int) = nd := ⟨_, rfl⟩
  rw [hnd'] at hx
  have HND := Lib.hid hnd'
  have HX := Lib.hid hx
  obtain ⟨gl, hgl⟩ : ∃ g, w.heap.size = g := ⟨_, rfl⟩
  obtain ⟨W0, hW0⟩ : ∃ W, w.alloc (.cells #[.int .i64 fr, .int .i64 k, .int .i64 tm, .bool ask, .int .i64 ag] 84) = W := ⟨_, rfl⟩
  have HS := Lib.hid ((hs.alloc' hgl 84 [.int .i64 fr, .int .i64 k, .int .i64 tm, .bool ask, .int .i64 ag]).atW hW0)
  have HW := Lib.hid hw
  have HKN := Lib.hid hk
  have hkn : (k : Int) < (n0 : Nat) := by omega
  have hk0 : (0 : Int) ≤ (k : Nat) := by omega
  have hkt : ((k : Nat) : Int).toNat = k := by omega
  have HN0 := Lib.hid hln0
  clear h hs hnd hx hnd' hw hk hln0 hm
  go_enter Try.func81, Try.ntmps81
  go_upto_region 1 with fail
  clear hW0 hgl
  obtain ⟨A3, m3, d3, e0, e1, e2, e3, e4, hrd, -, -, -, -⟩ := node_cells (HS.out.sl 2 rfl) (HS.out.ndat (i := 2) rfl) HX.out
  have b0 := HS.out.cell (k := 0) 1 rfl rfl
  have l0 := HS.out.cell (k := 0) 0 rfl rfl
  have l1 := HS.out.cell (k := 1) 0 rfl rfl
  have l2 := HS.out.cell (k := 2) 0 rfl rfl
  have l3 := HS.out.cell (k := 3) 0 rfl rfl
  have l4 := HS.out.cell (k := 4) 0 rfl rfl
  go_wp2
  refine wp_region_und (by kernel_rfl) (by kernel_rfl) ?_
  repeat (go_big_quiet_step ((first | fail)))
  refine wpQuiet_nil ?_
  intro X hX
  replace HS := Lib.hid (HS.out.step hX)
  clear e0 e1 e2 e3 e4 b0 l0 l1 l2 l3 l4 hrd
  obtain ⟨W1, rfl⟩ : ∃ V : World, V = X := ⟨_, rfl⟩
  clear hX
  obtain ⟨lt1, hlt1⟩ : ∃ b, decide (nd.Term < tm) = b := ⟨_, rfl⟩
  have HLT := Lib.hid hlt1
  obtain ⟨A3, m3, d3, e0, e1, e2, e3, e4, hrd, -, -, -, -⟩ := node_cells (HS.out.sl 2 rfl) (HS.out.ndat (i := 2) rfl) HX.out
  have b0 := HS.out.cell (k := 0) 1 rfl rfl
  have l0 := HS.out.cell (k := 0) 0 rfl rfl
  have l1 := HS.out.cell (k := 1) 0 rfl rfl
  have l2 := HS.out.cell (k := 2) 0 rfl rfl
  have l3 := HS.out.cell (k := 3) 0 rfl rfl
  have l4 := HS.out.cell (k := 4) 0 rfl rfl
  go_wp2
  refine wp_region_und (by kernel_rfl) (by kernel_rfl) ?_
  repeat (go_big_quiet_step ((first | fail)))
  refine wpQuiet_nil ?_
  intro X hX
  clear hlt1
  replace HS := Lib.hid (HS.out.step hX)
  clear e0 e1 e2 e3 e4 b0 l0 l1 l2 l3 l4 hrd
  obtain ⟨W2, rfl⟩ : ∃ V : World, V = X := ⟨_, rfl⟩
  clear hX
  go_upto_if 20 with fail
  go_cut [] (fun wx => ∃ f0' : List Nat, Hid (Mm.SepF (g :: (f0 ++ (f1 ++ f2))) w wx [Mm.tblk gl 84 [.int .i64 fr, .int .i64 k, .int .i64 tm, .bool ask, .int .i64 ag], Mm.tblk g 31 [.slice (some ⟨g0, 0, none⟩) n0 c0, .slice A1 n1 c1, .slice A2 n2 c2], Mm.tsl rNode 42 (Pl.pnews p ⟨fr, (k : Int), tm, ask, ag⟩).Nodes (.slice (some ⟨g0, 0, none⟩) n0 c0) f0', Mm.tsl rLetter 84 p.Letters (.slice A1 n1 c1) f1, Mm.tsl ints 23 p.Leaders (.slice A2 n2 c2) f2]))
  case first =>
    cases lt1 with
    | false =>
      have HF : Hid (Pl.pnews p ⟨fr, (k : Int), tm, ask, ag⟩ = p) := Lib.hid (if_neg (by have h1 := HLT.out; simp only [decide_eq_false_iff_not] at h1; show ¬ (Pl.nodeAt p (k : Int)).Term < tm; rw [HND.out]; exact h1))
      go_wp2_with fail
      go_meet
      exact ⟨f0, by rw [HF.out]; exact HS⟩
    | true =>
      have HF : Hid (Pl.pnews p ⟨fr, (k : Int), tm, ask, ag⟩ = Pl.setNode p (k : Int) ⟨tm, -1, nd.Age, [], 0⟩) := Lib.hid ((if_pos (by have h1 := HLT.out; simp only [decide_eq_true_eq] at h1; show (Pl.nodeAt p (k : Int)).Term < tm; rw [HND.out]; exact h1)).trans (by show Pl.setNode p (k : Int) ⟨tm, -1, (Pl.nodeAt p (k : Int)).Age, [], 0⟩ = _; rw [HND.out]))
      have htm := HMO.out.term
      dsimp only at htm
      obtain ⟨A3, m3, d3, e0, e1, e2, e3, e4, hrd, -, -, -, -⟩ := node_cells (HS.out.sl 2 rfl) (HS.out.ndat (i := 2) rfl) HX.out
      have b0 := HS.out.cell (k := 0) 1 rfl rfl
      have l0 := HS.out.cell (k := 0) 0 rfl rfl
      have l1 := HS.out.cell (k := 1) 0 rfl rfl
      have l2 := HS.out.cell (k := 2) 0 rfl rfl
      have l3 := HS.out.cell (k := 3) 0 rfl rfl
      have l4 := HS.out.cell (k := 4) 0 rfl rfl
      have z0 := (HS.out.sl 2 rfl).frozen (k * 5)
      have z1 := (HS.out.sl 2 rfl).frozen (k * 5 + 1)
      have z3 := (HS.out.sl 2 rfl).frozen (k * 5 + 3)
      have z4 := (HS.out.sl 2 rfl).frozen (k * 5 + 4)
      have ha := HS.out.nodeNum (k := k) (m := 0) (v := tm) 2 rfl HX.out (by omega) (fun cs fx hh => rNode_set0 hh (by unfold Mm.I64; omega))
      rw [Nat.add_zero] at ha
      have hx1 : ∀ y : Node, (p.Nodes.set k y)[k]? = some y := fun y => List.getElem?_set_self HKN.out
      have hb := ha.nodeNum (k := k) (m := 1) (v := -1) 2 rfl (hx1 _) (by omega) (fun cs fx hh => rNode_set1 hh (by unfold Mm.I64; omega))
      simp only [List.set_cons_succ, List.set_cons_zero, List.set_set] at hb
      have hc := hb.nodeNum (k := k) (m := 4) (v := 0) 2 rfl (hx1 _) (by omega) (fun cs fx hh => rNode_set4 hh (by unfold Mm.I64; omega))
      simp only [List.set_cons_succ, List.set_cons_zero, List.set_set] at hc
      obtain ⟨A5, m5, d5, fx5, -, -, -, -, -, hnext⟩ := hc.nodeHeard 2 rfl (hx1 _)
      obtain ⟨fp1, hd⟩ := hnext _ [] none 0 0 [] (((Mm.SepF.start _).add (Below.refl _ _) (t := Mm.tsl Mm.int 3 [] (.slice none 0 0) []) Mm.SlOwn.nil List.nodup_nil (fun b hb => by cases hb)).widen)
      simp only [List.set_cons_succ, List.set_cons_zero, List.set_set] at hd
      have HD := Lib.hid hd
      clear ha hb hc hnext hd hx1 hrd
      go_wp2_with fail
      go_meet
      exact ⟨fp1, by rw [HF.out]; unfold Pl.setNode; rw [hkt]; exact HD⟩
  case rest =>
  clear HS
  obtain ⟨f0', HS⟩ := hcut
  obtain ⟨q, hq⟩ : ∃ q, Pl.pnews p ⟨fr, (k : Int), tm, ask, ag⟩ = q := ⟨_, rfl⟩
  have hpw := Pl.PW.news HW.out HMO.out
  have hsh := Pl.pnews_shape p ⟨fr, (k : Int), tm, ask, ag⟩
  rw [hq] at HS hpw hsh
  obtain ⟨nq, hnq⟩ : ∃ nq, Pl.nodeAt q (k : Int) = nq := ⟨_, rfl⟩
  have hpt : tm ≤ nq.Term := by rw [← hnq]; exact hpw.2
  have HPW := Lib.hid hpw.1
  have hxq := hpw.1.at_ (k := (k : Int)) (by omega) (by rw [hsh.2.2]; have := HKN.out; omega)
  rw [hkt, hnq] at hxq
  have HX := Lib.hid hxq
  have HNQ := Lib.hid hnq
  have HF0 : Hid (Pl.ptake p ⟨fr, (k : Int), tm, ask, ag⟩ = Pl.ptakeN q ⟨fr, (k : Int), tm, ask, ag⟩) := Lib.hid (by unfold Pl.ptake; rw [hq])
  have HQ0 : Hid (q.Nodes.length = n0) := Lib.hid (by rw [hsh.2.2]; exact HN0.out.symm)
  rw [← hsh.1, ← hsh.2.1] at HS
  have HMO2 : Hid (Pl.LetOk q.Nodes.length ⟨fr, (k : Int), tm, ask, ag⟩) := Lib.hid (by rw [hsh.2.2]; exact HMO.out)
  clear hq hpw hsh hnq hxq HN0 HKN HW HND HLT HMO
  by_cases htm : tm = nq.Term
  rotate_left
  · have HF : Hid (Pl.ptake p ⟨fr, (k : Int), tm, ask, ag⟩ = q) := Lib.hid (by rw [HF0.out]; exact if_pos (by show tm < (Pl.nodeAt q (k : Int)).Term; rw [HNQ.out]; omega))
    have fa : (tm != nq.Term) = true := by simpa using htm
    clear htm
    obtain ⟨A3, m3, d3, e0, e1, e2, e3, e4, hrd, -, -, -, -⟩ := node_cells (HS.out.sl 2 rfl) (HS.out.ndat (i := 2) rfl) HX.out
    have b0 := HS.out.cell (k := 0) 1 rfl rfl
    have l0 := HS.out.cell (k := 0) 0 rfl rfl
    have l1 := HS.out.cell (k := 1) 0 rfl rfl
    have l2 := HS.out.cell (k := 2) 0 rfl rfl
    have l3 := HS.out.cell (k := 3) 0 rfl rfl
    have l4 := HS.out.cell (k := 4) 0 rfl rfl
    go_wp2
    refine wp_region_und (by kernel_rfl) (by kernel_rfl) ?_
    repeat (go_big_quiet_step ((first | fail)))
    refine wpQuiet_nil ?_
    intro X hX
    go_wp2
    go_end0
    exact ⟨rfl, _, by rw [HF.out]; exact (shut_Poll (HS.out.step hX).tail).left⟩
  have fa : (tm != nq.Term) = false := by simp [htm]
  have HTM := Lib.hid htm
  have HF1 : Hid (Pl.ptake p ⟨fr, (k : Int), tm, ask, ag⟩ = if ask = true then (if (nq.Voted = -1 ∨ nq.Voted = fr) ∧ nq.Age ≤ ag then Pl.pgive q ⟨fr, (k : Int), tm, ask, ag⟩ else q) else if nq.Role = 1 then Pl.pcount q ⟨fr, (k : Int), tm, ask, ag⟩ else q) := Lib.hid (by
    rw [HF0.out]
    unfold Pl.ptakeN
    dsimp only
    rw [HNQ.out, if_neg (by omega)])
  clear htm HF0
  obtain ⟨A3, m3, d3, e0, e1, e2, e3, e4, hrd, -, -, -, -⟩ := node_cells (HS.out.sl 2 rfl) (HS.out.ndat (i := 2) rfl) HX.out
  have b0 := HS.out.cell (k := 0) 1 rfl rfl
  have l0 := HS.out.cell (k := 0) 0 rfl rfl
  have l1 := HS.out.cell (k := 1) 0 rfl rfl
  have l2 := HS.out.cell (k := 2) 0 rfl rfl
  have l3 := HS.out.cell (k := 3) 0 rfl rfl
  have l4 := HS.out.cell (k := 4) 0 rfl rfl
  go_wp2
  refine wp_region_und (by kernel_rfl) (by kernel_rfl) ?_
  repeat (go_big_quiet_step ((first | fail)))
  refine wpQuiet_nil ?_
  intro X hX
  replace HS := Lib.hid (HS.out.step hX)
  clear e0 e1 e2 e3 e4 b0 l0 l1 l2 l3 l4 hrd
  clear fa
  obtain ⟨W4, rfl⟩ : ∃ V : World, V = X := ⟨_, rfl⟩
  clear hX
  obtain ⟨A3, m3, d3, e0, e1, e2, e3, e4, hrd, -, -, -, -⟩ := node_cells (HS.out.sl 2 rfl) (HS.out.ndat (i := 2) rfl) HX.out
  have b0 := HS.out.cell (k := 0) 1 rfl rfl
  have l0 := HS.out.cell (k := 0) 0 rfl rfl
  have l1 := HS.out.cell (k := 1) 0 rfl rfl
  have l2 := HS.out.cell (k := 2) 0 rfl rfl
  have l3 := HS.out.cell (k := 3) 0 rfl rfl
  have l4 := HS.out.cell (k := 4) 0 rfl rfl
  cases ask with
  | true =>
    rw [if_pos rfl] at HF1
    have HN : Hid (Pl.NodeOk q.Nodes.length nq) := Lib.hid (by rw [← HNQ.out]; exact HPW.out.nok (k := (k : Int)) hk0 (by rw [HQ0.out]; exact hkn))
    by_cases hcnd : (nq.Voted = -1 ∨ nq.Voted = fr) ∧ nq.Age ≤ ag
    · have HF : Hid (Pl.ptake p ⟨fr, (k : Int), tm, true, ag⟩ = Pl.psend (Pl.setNode q (k : Int) (Pl.withVoted nq fr)) ⟨(k : Int), fr, nq.Term, false, 0⟩) := Lib.hid (by
        rw [HF1.out, if_pos hcnd, ← HTM.out]
        unfold Pl.pgive
        dsimp only
        rw [HNQ.out])
      have fc : decide (nq.Age ≤ ag) = true := by simpa using hcnd.2
      obtain ⟨v1, hv1⟩ : ∃ b, (nq.Voted == -1) = b := ⟨_, rfl⟩
      obtain ⟨v2, hv2⟩ : ∃ b, (nq.Voted == fr) = b := ⟨_, rfl⟩
      have HV : Hid (v1 = true ∨ v2 = true) := Lib.hid (by rcases hcnd.1 with h | h; exact .inl (by rw [← hv1, h]; rfl); exact .inr (by rw [← hv2, h]; simp))
      have hfi : Mm.I64 fr := by unfold Mm.I64; have := HMO2.out.src; dsimp only at this; have := HQ0.out; omega
      have HFI := Lib.hid hfi
      clear hcnd hfi
      go_upto_region 6 with fail
      cases v1 with
      | true =>
        refine wp_region_und (by kernel_rfl) (by kernel_rfl) ?_
        repeat (go_big_quiet_step ((first | fail)))
        refine wpQuiet_nil ?_
        intro X hX
        replace HS := Lib.hid (HS.out.step hX)
        clear e0 e1 e2 e3 e4 b0 l0 l1 l2 l3 l4 hrd
        clear hX fc hv1 hv2
        go_upto_region 7 with fail
        have z1 := (HS.out.sl 2 rfl).frozen (k * 5 + 1)
        obtain ⟨A3, m3, d3, e0, e1, e2, e3, e4, hrd, -, -, -, -⟩ := node_cells (HS.out.sl 2 rfl) (HS.out.ndat (i := 2) rfl) HX.out
        have b0 := HS.out.cell (k := 0) 1 rfl rfl
        have l0 := HS.out.cell (k := 0) 0 rfl rfl
        have l1 := HS.out.cell (k := 1) 0 rfl rfl
        have l2 := HS.out.cell (k := 2) 0 rfl rfl
        have l3 := HS.out.cell (k := 3) 0 rfl rfl
        have l4 := HS.out.cell (k := 4) 0 rfl rfl
        have HS5 := Lib.hid (HS.out.nodeNum (k := k) (m := 1) (v := fr) 2 rfl HX.out (by omega) (fun cs fx hh => rNode_set1 hh HFI.out))
        go_upto_region 8 with fail
        clear e0 e1 e2 e3 e4 b0 l0 l1 l2 l3 l4 hrd
        clear z1 HS
        obtain ⟨W5, hW5⟩ : ∃ V : World, X.setCell ⟨g0, k * 5 + 1, none⟩ (.int .i64 fr) = V := ⟨_, rfl⟩
        rw [hW5] at HS5 ⊢
        clear hW5
        have hx5 : (q.Nodes.set k (⟨nq.Term, fr, nq.Age, nq.Heard, nq.Role⟩ : Node))[k]? = some (⟨nq.Term, fr, nq.Age, nq.Heard, nq.Role⟩ : Node) := List.getElem?_set_self (by rw [HQ0.out]; omega)
        have HX5 := Lib.hid hx5
        have HSD := Lib.hid (HS5.out.step (Below.refl _ _).drew)
        have HT := Lib.hid (shut_Poll (x := Pl.setNode q (k : Int) (Pl.withVoted nq fr)) (by have h := HSD.out.sel [1, 2, 3, 4, 0] (by decide) rfl; unfold Pl.setNode Pl.withVoted; rw [hkt]; exact h))
        have CS := send_c (Pl.setNode q (k : Int) (Pl.withVoted nq fr)) ⟨(k : Int), fr, nq.Term, false, 0⟩ g _ W5.drew (HT.out.at_ 0 rfl) (HT.out.ndat (i := 0) rfl) ⟨by unfold Mm.I64; show _ ≤ (k : Int) ∧ (k : Int) ≤ _; omega, HFI.out, by unfold Mm.I64; show _ ≤ nq.Term ∧ nq.Term ≤ _; have := HN.out.term; omega, by unfold Mm.I64; show _ ≤ (0 : Int) ∧ (0 : Int) ≤ _; omega⟩ HPW.out.lets
        obtain ⟨A3, m3, d3, e0, e1, e2, e3, e4, hrd, -, -, -, -⟩ := node_cells (HSD.out.sl 2 rfl) (HSD.out.ndat (i := 2) rfl) HX5.out
        have b0 := HSD.out.cell (k := 0) 1 rfl rfl
        have l0 := HSD.out.cell (k := 0) 0 rfl rfl
        have l1 := HSD.out.cell (k := 1) 0 rfl rfl
        have l2 := HSD.out.cell (k := 2) 0 rfl rfl
        have l3 := HSD.out.cell (k := 3) 0 rfl rfl
        have l4 := HSD.out.cell (k := 4) 0 rfl rfl
        clear hx5
        go_region_law (go_simp; go_at_call 96; (with_reducible refine CS.mono ?_); clear CS; rintro e w6 ⟨rfl, fp6, hL⟩; (have HT7 := Lib.hid (HT.out.call 0 rfl hL)); clear hL)
        all_goals
          go_wp2
          go_end0
          exact ⟨rfl, _, by rw [HF.out]; exact (HT7.out.sel [0] (by decide) rfl).left⟩
      | false =>
        obtain rfl : v2 = true := by rcases HV.out with h | h; cases h; exact h
        refine wp_region_und (by kernel_rfl) (by kernel_rfl) ?_
        repeat (go_big_quiet_step ((first | fail)))
        refine wpQuiet_nil ?_
        intro X hX
        replace HS := Lib.hid (HS.out.step hX)
        clear e0 e1 e2 e3 e4 b0 l0 l1 l2 l3 l4 hrd
        clear hX fc hv1 hv2
        go_upto_region 7 with fail
        have z1 := (HS.out.sl 2 rfl).frozen (k * 5 + 1)
        obtain ⟨A3, m3, d3, e0, e1, e2, e3, e4, hrd, -, -, -, -⟩ := node_cells (HS.out.sl 2 rfl) (HS.out.ndat (i := 2) rfl) HX.out
        have b0 := HS.out.cell (k := 0) 1 rfl rfl
        have l0 := HS.out.cell (k := 0) 0 rfl rfl
        have l1 := HS.out.cell (k := 1) 0 rfl rfl
        have l2 := HS.out.cell (k := 2) 0 rfl rfl
        have l3 := HS.out.cell (k := 3) 0 rfl rfl
        have l4 := HS.out.cell (k := 4) 0 rfl rfl
        have HS5 := Lib.hid (HS.out.nodeNum (k := k) (m := 1) (v := fr) 2 rfl HX.out (by omega) (fun cs fx hh => rNode_set1 hh HFI.out))
        go_upto_region 8 with fail
        clear e0 e1 e2 e3 e4 b0 l0 l1 l2 l3 l4 hrd
        clear z1 HS
        obtain ⟨W5, hW5⟩ : ∃ V : World, X.setCell ⟨g0, k * 5 + 1, none⟩ (.int .i64 fr) = V := ⟨_, rfl⟩
        rw [hW5] at HS5 ⊢
        clear hW5
        have hx5 : (q.Nodes.set k (⟨nq.Term, fr, nq.Age, nq.Heard, nq.Role⟩ : Node))[k]? = some (⟨nq.Term, fr, nq.Age, nq.Heard, nq.Role⟩ : Node) := List.getElem?_set_self (by rw [HQ0.out]; omega)
        have HX5 := Lib.hid hx5
        have HSD := Lib.hid (HS5.out.step (Below.refl _ _).drew)
        have HT := Lib.hid (shut_Poll (x := Pl.setNode q (k : Int) (Pl.withVoted nq fr)) (by have h := HSD.out.sel [1, 2, 3, 4, 0] (by decide) rfl; unfold Pl.setNode Pl.withVoted; rw [hkt]; exact h))
        have CS := send_c (Pl.setNode q (k : Int) (Pl.withVoted nq fr)) ⟨(k : Int), fr, nq.Term, false, 0⟩ g _ W5.drew (HT.out.at_ 0 rfl) (HT.out.ndat (i := 0) rfl) ⟨by unfold Mm.I64; show _ ≤ (k : Int) ∧ (k : Int) ≤ _; omega, HFI.out, by unfold Mm.I64; show _ ≤ nq.Term ∧ nq.Term ≤ _; have := HN.out.term; omega, by unfold Mm.I64; show _ ≤ (0 : Int) ∧ (0 : Int) ≤ _; omega⟩ HPW.out.lets
        obtain ⟨A3, m3, d3, e0, e1, e2, e3, e4, hrd, -, -, -, -⟩ := node_cells (HSD.out.sl 2 rfl) (HSD.out.ndat (i := 2) rfl) HX5.out
        have b0 := HSD.out.cell (k := 0) 1 rfl rfl
        have l0 := HSD.out.cell (k := 0) 0 rfl rfl
        have l1 := HSD.out.cell (k := 1) 0 rfl rfl
        have l2 := HSD.out.cell (k := 2) 0 rfl rfl
        have l3 := HSD.out.cell (k := 3) 0 rfl rfl
        have l4 := HSD.out.cell (k := 4) 0 rfl rfl
        clear hx5
        go_region_law (go_simp; go_at_call 96; (with_reducible refine CS.mono ?_); clear CS; rintro e w6 ⟨rfl, fp6, hL⟩; (have HT7 := Lib.hid (HT.out.call 0 rfl hL)); clear hL)
        all_goals
          go_wp2
          go_end0
          exact ⟨rfl, _, by rw [HF.out]; exact (HT7.out.sel [0] (by decide) rfl).left⟩
    · have HF : Hid (Pl.ptake p ⟨fr, (k : Int), tm, true, ag⟩ = q) := Lib.hid (by rw [HF1.out, if_neg hcnd])
      obtain ⟨v1, hv1⟩ : ∃ b, (nq.Voted == -1) = b := ⟨_, rfl⟩
      obtain ⟨v2, hv2⟩ : ∃ b, (nq.Voted == fr) = b := ⟨_, rfl⟩
      obtain ⟨v3, hv3⟩ : ∃ b, decide (nq.Age ≤ ag) = b := ⟨_, rfl⟩
      have HV : Hid ((v1 = true ∨ v2 = true) → v3 = false) := Lib.hid (fun h => by
        rw [← hv3, decide_eq_false_iff_not]
        exact fun h3 => hcnd ⟨h.imp (fun h => by rw [← hv1] at h; simpa using h) (fun h => by rw [← hv2] at h; simpa using h), h3⟩)
      clear hcnd
      go_upto_region 6 with fail
      cases v1 with
      | true =>
        obtain rfl : v3 = false := HV.out (.inl rfl)
        refine wp_region_und (by kernel_rfl) (by kernel_rfl) ?_
        repeat (go_big_quiet_step ((first | fail)))
        refine wpQuiet_nil ?_
        intro X hX
        go_wp2
        go_end0
        exact ⟨rfl, _, by rw [HF.out]; exact (shut_Poll (HS.out.step hX).tail).left⟩
      | false =>
        cases v2 with
        | true =>
          obtain rfl : v3 = false := HV.out (.inr rfl)
          refine wp_region_und (by kernel_rfl) (by kernel_rfl) ?_
          repeat (go_big_quiet_step ((first | fail)))
          refine wpQuiet_nil ?_
          intro X hX
          go_wp2
          go_end0
          exact ⟨rfl, _, by rw [HF.out]; exact (shut_Poll (HS.out.step hX).tail).left⟩
        | false =>
          refine wp_region_und (by kernel_rfl) (by kernel_rfl) ?_
          repeat (go_big_quiet_step ((first | fail)))
          refine wpQuiet_nil ?_
          intro X hX
          go_wp2
          go_end0
          exact ⟨rfl, _, by rw [HF.out]; exact (shut_Poll (HS.out.step hX).tail).left⟩
  | false =>
    rw [if_neg (by simp)] at HF1
    by_cases hr1 : nq.Role = 1
    rotate_left
    · have HF : Hid (Pl.ptake p ⟨fr, (k : Int), tm, false, ag⟩ = q) := Lib.hid (by rw [HF1.out, if_neg hr1])
      have fa : (nq.Role == 1) = false := by simpa using hr1
      clear hr1
      go_wp2
      go_end0
      exact ⟨rfl, _, by rw [HF.out]; exact (shut_Poll HS.out.tail).left⟩
    have HF : Hid (Pl.ptake p ⟨fr, (k : Int), tm, false, ag⟩ = Pl.pcount q ⟨fr, (k : Int), tm, false, ag⟩) := Lib.hid (by rw [HF1.out, if_pos hr1])
    have fa : (nq.Role == 1) = true := by rw [hr1]; rfl
    have HR1 := Lib.hid hr1
    clear hr1
    have HN : Hid (Pl.NodeOk q.Nodes.length nq) := Lib.hid (by rw [← HNQ.out]; exact HPW.out.nok (k := (k : Int)) hk0 (by rw [HQ0.out]; exact hkn))
    have hfr : 0 ≤ fr ∧ fr < (n0 : Nat) := by have := HMO2.out.src; dsimp only at this; have := HQ0.out; omega
    have hfi : Mm.I64 fr := by unfold Mm.I64; omega
    have HFI := Lib.hid hfi
    clear hfi
    have HPC : Hid (Pl.PW (Pl.setNode q (k : Int) (Pl.withHeard nq (Pl.putI nq.Heard fr)))) := Lib.hid (by
      have h := HPW.out.count (k := (k : Int)) (fr := fr) hk0 (by rw [HQ0.out]; exact hkn) (by rw [HQ0.out]; exact hfr) (by rw [HNQ.out]; exact HR1.out)
      rw [HNQ.out] at h; exact h)
    have HF2 : Hid (Pl.ptake p ⟨fr, (k : Int), tm, false, ag⟩ = Pl.plead (Pl.setNode q (k : Int) (Pl.withHeard nq (Pl.putI nq.Heard fr))) (k : Int)) := Lib.hid (by
      rw [HF.out]
      unfold Pl.pcount
      dsimp only
      rw [HNQ.out])
    have HRR : Hid ((Pl.nodeAt (Pl.setNode q (k : Int) (Pl.withHeard nq (Pl.putI nq.Heard fr))) (k : Int)).Role = 1) := Lib.hid (by
      rw [Pl.nodeAt_set (by rw [hkt, HQ0.out]; omega) hk0 hk0, if_pos rfl]
      exact HR1.out)
    have hm3 : m3 ≤ 1000 := by
      have h5 := Pl.rising_bound nq.Heard 0 n0 HN.out.heard (fun i hi => by have := HN.out.hin i hi; have := HQ0.out; omega)
      rw [hrd.1, if_pos (by omega)] at h5
      omega
    have CB := fun z : Und W4 => und_same z (bsInt_c nq.Heard fr A3 m3 d3 (und W4 z) W4.heap.size (hrd.und (Nat.le_refl _) z) HN.out.heard hm3)
    obtain ⟨ip, hip⟩ : ∃ ip, Pl.ipos nq.Heard fr = ip := ⟨_, rfl⟩
    obtain ⟨ii, hii⟩ : ∃ ii, Pl.hasI nq.Heard fr = ii := ⟨_, rfl⟩
    rw [hip, hii] at CB
    have hipn : ip ≤ m3 := by rw [← hip, ← hrd.1]; exact Pl.ipos_le _ _
    have HIP := Lib.hid hip
    have HII := Lib.hid hii
    clear hip hii
    go_upto_region 10 with fail
    refine wp_region_und (by kernel_rfl) (by kernel_rfl) ?_
    repeat (go_big_quiet_step ((first | (go_at_call 98; with_reducible exact CB _))))
    refine wpQuiet_nil ?_
    intro X hX
    replace HS := Lib.hid (HS.out.step hX)
    clear CB
    cases ii with
    | true =>
      have hpu : Pl.putI nq.Heard fr = nq.Heard := Pl.putI_has _ _ HN.out.heard (Pl.hasI_iff.1 HII.out)
      have hset : Pl.setNode q (k : Int) (Pl.withHeard nq (Pl.putI nq.Heard fr)) = q := by
        rw [hpu]
        unfold Pl.setNode Pl.withHeard
        rw [hkt]
        have e : q.Nodes.set k ⟨nq.Term, nq.Voted, nq.Age, nq.Heard, nq.Role⟩ = q.Nodes := by
          apply List.ext_getElem?
          intro i
          by_cases hik : k = i
          · subst hik; rw [List.getElem?_set_self (by rw [HQ0.out]; omega), HX.out]
          · rw [List.getElem?_set_ne hik]
        rw [e]
      rw [hset] at HF2 HRR HPC
      clear hpu hset
      have HT := Lib.hid (shut_Poll (HS.out.sel [1, 2, 3, 4, 0] (by decide) rfl))
      have CL := lead_c q k g _ X (HT.out.at_ 0 rfl) (HT.out.ndat (i := 0) rfl) HPW.out (by rw [HQ0.out]; omega) HRR.out
      clear e0 e1 e2 e3 e4 b0 l0 l1 l2 l3 l4 hrd
      obtain ⟨A3, m3, d3, e0, e1, e2, e3, e4, hrd, -, -, -, -⟩ := node_cells (HS.out.sl 2 rfl) (HS.out.ndat (i := 2) rfl) HX.out
      have b0 := HS.out.cell (k := 0) 1 rfl rfl
      have l0 := HS.out.cell (k := 0) 0 rfl rfl
      have l1 := HS.out.cell (k := 1) 0 rfl rfl
      have l2 := HS.out.cell (k := 2) 0 rfl rfl
      have l3 := HS.out.cell (k := 3) 0 rfl rfl
      have l4 := HS.out.cell (k := 4) 0 rfl rfl
      go_wp2_with (go_at_call 97; (with_reducible refine CL.mono ?_); clear CL; rintro e w6 ⟨rfl, fp6, hL⟩; (have HT7 := Lib.hid (HT.out.call 0 rfl hL)); clear hL)
      go_end0
      exact ⟨rfl, _, by rw [HF2.out]; exact (HT7.out.sel [0] (by decide) rfl).left⟩
    | false =>
      have hno : fr ∉ nq.Heard := fun hh => by rw [Pl.hasI_iff.2 hh] at HII; cases HII.out
      have HO : Hid (nq.Heard.take ip ++ fr :: nq.Heard.drop ip = Pl.putI nq.Heard fr) := Lib.hid (by
        have h := Pl.insI_at HN.out.heard hno
        rw [HIP.out] at h
        exact h)
      clear hno
      clear e0 e1 e2 e3 e4 b0 l0 l1 l2 l3 l4 hrd
      obtain ⟨A5, m5, d5, fx, ec, hml, hso, hfn, hfx, hnext⟩ := HS.out.nodeHeard 2 rfl HX.out
      have HNX := Lib.hid hnext
      have n0' : g0 ∉ fx := fun hh => (hfx _ hh).2 rfl
      have n1' : gl ∉ fx := fun hh => HS.out.apart (i := 0) (j := 2) rfl rfl (by decide) gl (by simp [Mm.tblk]) (hfx _ hh).1
      have l0 := HS.out.cell (k := 0) 0 rfl rfl
      have hlt0 : g0 < X.heap.size := (HS.out.sl 2 rfl).olt g0 (HS.out.sl 2 rfl).mem_block
      have z3 := (HS.out.sl 2 rfl).frozen (k * 5 + 3)
      have hm5 : m5 ≤ 1000 := by rw [hml]; have h5 := Pl.rising_bound nq.Heard 0 n0 HN.out.heard (fun i hi => by have := HN.out.hin i hi; have := HQ0.out; omega); rw [if_pos (by omega)] at h5; omega
      have hip5 : ip ≤ m5 := by rw [hml, ← HIP.out]; exact Pl.ipos_le _ _
      have HML := Lib.hid hml
      have HGO := Lib.hid (And.intro hso hfn)
      clear hnext hfx hml hso hfn
      go_upto_region 12 with fail
      refine Mm.wp_region_give 12 (fun i => match i with | 8 => some (Mm.gBs 3 [.int .i64 fr]) | 9 => some (Mm.gSl Mm.int 3 (nq.Heard.take ip ++ fr :: nq.Heard.drop ip)) | _ => none) (fun i => match i with | 9 => [8, 13] | _ => []) (fun i => match i with | 13 => [Mm.tsl Mm.int 3 nq.Heard (.slice A5 m5 d5) fx] | _ => []) (F := fx) (D := fun w' => ∃ z : Cha fx X, w' = cha fx X z) (fun X us h => Mm.sep_cha h) (by kernel_rfl) (by kernel_rfl) (by kernel_rfl) (Mm.sep_eq ((Mm.SepF.one (Mm.tsl Mm.int 3 nq.Heard (.slice A5 m5 d5) fx) X HGO.out.1 HGO.out.2).step (Below.refl _ _).drew) rfl) ?_
      repeat (refine Mm.give_det (by rfl) (by rfl) (by rfl) (fun K hK => ?_); go_big_quiet_op; refine hK _ ?_; clear hK K)
      refine Mm.give_op0 111 (by rfl) rfl (by rfl) (by rfl) (by rfl) (by rfl) Mm.gBs_in (fun others X6 hX6 => ?_) ?_
      · go_wp2
        exact Mm.gvq_bs hX6 rfl rfl rfl
      rintro v ds ⟨gb, rfl, rfl⟩
      simp only [Act.put, List.setIfInBounds_toArray, List.set_cons_succ, List.set_cons_zero]
      refine Mm.give_op2 112 8 13 (by rfl) rfl (by rfl) (by rfl) (by rfl) rfl (by rfl) (by rfl) (by rfl) _ _ rfl rfl Mm.gSl_in (fun others X6 hX6 => ?_) ?_
      · go_wp2_with (go_at_call 99; (with_reducible refine (insOne_c (i := 1) (j := 0) hX6 (by decide) rfl rfl hip5 hm5 HFI.out).mono ?_); rintro e w5 ⟨A', n', c', fp', rfl, rfl, hS5⟩)
        exact ⟨rfl, rfl, _, ⟨_, _, _, fp', rfl, rfl, Lib.hid (by rw [List.length_append, List.length_cons, List.length_take, List.length_drop]; have := HML.out; omega)⟩, (hS5.tail)⟩
      rintro v ds ⟨A6, n6, c6, f6, rfl, rfl, hn6⟩
      simp only [Act.put, List.setIfInBounds_toArray, List.set_cons_succ, List.set_cons_zero]
      repeat (refine Mm.give_det (by rfl) (by rfl) (by rfl) (fun K hK => ?_); go_big_quiet_op; refine hK _ ?_; clear hK K)
      refine Mm.give_nil ?_
      rintro X6 hX6
      have hx6 : Mm.SepF fx X X6 [Mm.tsl Mm.int 3 (nq.Heard.take ip ++ fr :: nq.Heard.drop ip) (.slice A6 n6 c6) f6] := Mm.sep_eq hX6 rfl
      obtain ⟨fp7, hs7⟩ := HNX.out X6 _ _ _ _ _ hx6
      have ec6 : X6.cell? ⟨g0, k * 5 + 3, none⟩ = some (.slice A5 m5 d5) := (World.cell?_of_block (hx6.chg.block g0 hlt0 n0')).trans ec
      have z36 : X6.frozen? ⟨g0, k * 5 + 3, none⟩ = false := (World.frozen?_of_block (hx6.chg.block g0 hlt0 n0')).trans z3
      rw [HO.out] at hs7
      have HS7 := Lib.hid hs7
      clear hX6 hx6 hs7 n0' n1' ec z3 l0 hlt0 HNX HGO
      go_upto_region 13 with fail
      clear ec6 z36
      obtain ⟨XT, hXT⟩ : ∃ XT, X6.setCell ⟨g0, k * 5 + 3, none⟩ (.slice A6 n6 c6) = XT := ⟨_, rfl⟩
      rw [hXT] at HS7 ⊢
      clear hXT
      have HT := Lib.hid (shut_Poll (x := Pl.setNode q (k : Int) (Pl.withHeard nq (Pl.putI nq.Heard fr))) (by have h := HS7.out.sel [1, 2, 3, 4, 0] (by decide) rfl; unfold Pl.setNode Pl.withHeard; rw [hkt]; exact h))
      have CL := lead_c (Pl.setNode q (k : Int) (Pl.withHeard nq (Pl.putI nq.Heard fr))) k g _ XT (HT.out.at_ 0 rfl) (HT.out.ndat (i := 0) rfl) HPC.out (by rw [Pl.set_len, HQ0.out]; omega) HRR.out
      have l1 := HS7.out.cell (k := 1) 0 rfl rfl
      go_wp2_with (go_at_call 97; (with_reducible refine CL.mono ?_); clear CL; rintro e w6 ⟨rfl, fp6, hL⟩; (have HT7 := Lib.hid (HT.out.call 0 rfl hL)); clear hL)
      go_end0
      exact ⟨rfl, _, by rw [HF2.out]; exact (HT7.out.sel [0] (by decide) rfl).left⟩
end Go.Proofs.Ytkhchfbpmmiopaa

/-
  Contracts: the reference's election, by value: a letter, a leader, a candidate (chapter 8). No conditions beyond those named.
-/
namespace Go.Proofs.Ytkhchfbpmmiopaa
open Go.RowKit
attribute [local go_sem] und_cell cha_cell World.cell?_alloc_some
def zPoll : List Value := [.slice none 0 0, .slice none 0 0, .slice none 0 0]
def PVA (r : Poll) (fp : List Nat) (w : World) (e : Ending) (w' : World) : Prop := ∃ cs' fp', e = .returned (.agg cs'.toArray) ∧ Mm.Left fp w w' (Mm.tow rPoll r cs' fp')
theorem openv_Poll {F : List Nat} {w0 wr : World} {ts : List Mm.Thing} {x : Poll} {cs : List Value} {fp : List Nat} (h : Mm.SepF F w0 wr (Mm.tow rPoll x cs fp :: ts)) :
    ∃ A0 n0 c0 A1 n1 c1 A2 n2 c2 f0 f1 f2, cs = [.slice A0 n0 c0, .slice A1 n1 c1, .slice A2 n2 c2] ∧ fp = f0 ++ (f1 ++ f2) ∧ Mm.SepF F w0 wr (Mm.tsl rNode 42 x.Nodes (.slice A0 n0 c0) f0 :: Mm.tsl rLetter 84 x.Letters (.slice A1 n1 c1) f1 :: Mm.tsl ints 23 x.Leaders (.slice A2 n2 c2) f2 :: ts) := by
  have h0 := h.hold _ (List.mem_cons_self)
  obtain ⟨A0, n0, c0, A1, n1, c1, A2, n2, c2, f0, f1, f2, rfl, rfl, k0, k1, k2⟩ := rPoll_own h0
  exact ⟨_, _, _, _, _, _, _, _, _, _, _, _, rfl, rfl, h.conv (by simp [Mm.tsl, Mm.tow]) (List.forall_mem_cons.2 ⟨k0, List.forall_mem_cons.2 ⟨k1, List.forall_mem_cons.2 ⟨k2, fun u hu => h.hold u (List.mem_cons_of_mem _ hu)⟩⟩⟩)⟩
theorem shutv_Poll {F : List Nat} {w0 wr : World} {ts : List Mm.Thing} {x : Poll} {A0 A1 A2 : Option Addr} {n0 c0 n1 c1 n2 c2 : Nat} {f0 f1 f2 : List Nat} (h : Mm.SepF F w0 wr (Mm.tsl rNode 42 x.Nodes (.slice A0 n0 c0) f0 :: Mm.tsl rLetter 84 x.Letters (.slice A1 n1 c1) f1 :: Mm.tsl ints 23 x.Leaders (.slice A2 n2 c2) f2 :: ts)) :
    Mm.SepF F w0 wr (Mm.tow rPoll x [.slice A0 n0 c0, .slice A1 n1 c1, .slice A2 n2 c2] (f0 ++ (f1 ++ f2)) :: ts) :=
  h.conv (by simp [Mm.tsl, Mm.tow]) (List.forall_mem_cons.2 ⟨rPoll_own_mk (h.sl 0 rfl) (h.sl 1 rfl) (h.sl 2 rfl), fun u hu => h.hold u (by
    iterate 3 apply List.mem_cons_of_mem
    exact hu)⟩)
theorem own_formP {w : World} {x : Poll} {cs : List Value} {fp : List Nat} (h : rPoll.own w x cs fp) : ∃ A0 n0 c0 A1 n1 c1 A2 n2 c2, cs = [.slice A0 n0 c0, .slice A1 n1 c1, .slice A2 n2 c2] := by
  obtain ⟨A0, n0, c0, A1, n1, c1, A2, n2, c2, f0, f1, f2, rfl, -⟩ := rPoll_own h
  exact ⟨_, _, _, _, _, _, _, _, _, rfl⟩
/-- element k of the nodes is stored whole -/
theorem Mm.SepF.nodeStore {F : List Nat} {w0 wr : World} {ts : List Mm.Thing} {xs : List Node} {g n c k : Nat} {x : Node} {fp : List Nat} (h : Mm.SepF F w0 wr ts) (i : Nat) (hi : ts[i]? = some (Mm.tsl rNode 42 xs (.slice (some ⟨g, 0, none⟩) n c) fp)) (hk : xs[k]? = some x) :
    ∃ fx, ∀ W y A' m' d' fx', Mm.I64 y.Term → Mm.I64 y.Voted → Mm.I64 y.Age → Mm.I64 y.Role → Mm.SepF fx wr W [Mm.tsl Mm.int 3 y.Heard (.slice A' m' d') fx'] →
        ∃ fp', Mm.SepF F w0 (((((W.setCell ⟨g, k * 5, none⟩ (.int .i64 y.Term)).setCell ⟨g, k * 5 + 1, none⟩ (.int .i64 y.Voted)).setCell ⟨g, k * 5 + 2, none⟩ (.int .i64 y.Age)).setCell ⟨g, k * 5 + 3, none⟩ (.slice A' m' d')).setCell ⟨g, k * 5 + 4, none⟩ (.int .i64 y.Role)) (ts.set i (Mm.tsl rNode 42 (xs.set k y) (.slice (some ⟨g, 0, none⟩) n c) fp')) := by
  obtain ⟨A5, m5, d5, fx, -, -, -, -, -, hnext⟩ := h.nodeHeard i hi hk
  refine ⟨fx, fun W y A' m' d' fx' i0 i1 i2 i4 hS => ?_⟩
  have hil : i < ts.length := (List.getElem?_eq_some_iff.1 hi).1
  have hkl : k < xs.length := (List.getElem?_eq_some_iff.1 hk).1
  obtain ⟨fp', h3⟩ := hnext W y.Heard A' m' d' fx' hS
  have g3 : ∀ (us : List Node) (z : Node), (us.set k z)[k]? = if k < us.length then some z else none := fun us z => by rw [List.getElem?_set]; simp
  have h0 := h3.nodeNum (k := k) (m := 0) (v := y.Term) i (List.getElem?_set_self hil) (by rw [g3, if_pos hkl]) (by omega) (fun cs fx hh => rNode_set0 hh i0)
  rw [Nat.add_zero, Mm.setCell_comm _ _ _ _ _ _ (by omega), List.set_set, List.set_set] at h0
  have h1 := h0.nodeNum (k := k) (m := 1) (v := y.Voted) i (List.getElem?_set_self hil) (by rw [g3, if_pos hkl]) (by omega) (fun cs fx hh => rNode_set1 hh i1)
  rw [Mm.setCell_comm _ _ _ _ _ _ (by omega), List.set_set, List.set_set] at h1
  have h2 := h1.nodeNum (k := k) (m := 2) (v := y.Age) i (List.getElem?_set_self hil) (by rw [g3, if_pos hkl]) (by omega) (x' := ⟨y.Term, y.Voted, y.Age, y.Heard, x.Role⟩) (fun cs fx hh => by
    obtain ⟨A, n, c, f, rfl, rfl, q0, q1, q2, q3, q4⟩ := rNode_own hh
    exact rNode_own_mk (x := ⟨y.Term, y.Voted, y.Age, y.Heard, x.Role⟩) q0 q1 i2 q3 q4)
  rw [Mm.setCell_comm _ _ _ _ _ _ (by omega), List.set_set, List.set_set] at h2
  have h4 := h2.nodeNum (k := k) (m := 4) (v := y.Role) i (List.getElem?_set_self hil) (by rw [g3, if_pos hkl]) (by omega) (fun cs fx hh => rNode_set4 hh i4)
  rw [List.set_set, List.set_set] at h4
  exact ⟨fp', h4⟩
set_option maxRecDepth 100000 in
set_option maxHeartbeats 2000000 in
theorem l8Write_c (p : Poll) (m : Letter) (cs : List Value) (fp : List Nat) (w : World) (h : (Mm.tow rPoll p cs fp).holds w) (hnd : fp.Nodup) (hm : Mm.I64 m.From ∧ Mm.I64 m.To ∧ Mm.I64 m.Term ∧ Mm.I64 m.Age) (hl : p.Letters.length ≤ 60) :
    Calls Try.prog 83 #[.agg cs.toArray, .agg #[.int .i64 m.From, .int .i64 m.To, .int .i64 m.Term, .bool m.Ask, .int .i64 m.Age]] w (PVA (Pl.psend p m) fp w) := by
  obtain ⟨A0, n0, c0, A1, n1, c1, A2, n2, c2, f0, f1, f2, rfl, rfl, hs⟩ := openv_Poll (Mm.SepF.one _ w h hnd)
  have hln1 : n1 = p.Letters.length := by obtain ⟨A', n', c', hv, h1, _⟩ := (hs.sl 1 rfl).form; injection hv with _ h2 _; omega
  subst hln1
  obtain ⟨ga, hga⟩ : ∃ g, w.heap.size = g := ⟨_, rfl⟩
  obtain ⟨gb, hgb⟩ : ∃ g, ga + 1 = g := ⟨_, rfl⟩
  obtain ⟨gc, hgc⟩ : ∃ g, gb + 1 = g := ⟨_, rfl⟩
  obtain ⟨W0, hW0⟩ : ∃ W, ((w.alloc (.cells #[.slice A0 n0 c0, .slice A1 p.Letters.length c1, .slice A2 n2 c2] 31)).alloc (.cells #[.int .i64 m.From, .int .i64 m.To, .int .i64 m.Term, .bool m.Ask, .int .i64 m.Age] 84)).alloc (.cells #[.slice none 0 0, .slice none 0 0, .slice none 0 0] 31) = W := ⟨_, rfl⟩
  have HS := Lib.hid ((((hs.alloc' hga 31 [.slice A0 n0 c0, .slice A1 p.Letters.length c1, .slice A2 n2 c2]).alloc' (g := gb) (by rw [Mm.sz1, hga, hgb]) 84 [.int .i64 m.From, .int .i64 m.To, .int .i64 m.Term, .bool m.Ask, .int .i64 m.Age]).alloc' (g := gc) (by rw [Mm.sz2, hga]; omega) 31 zPoll).atW hW0)
  have HMI := Lib.hid hm
  clear h hs hm hnd
  go_enter Try.func83, Try.ntmps83
  go_upto_region 1 with fail
  clear hW0 hga hgb hgc
  have b0 := HS.out.cell (k := 0) 2 rfl rfl
  have b1 := HS.out.cell (k := 1) 2 rfl rfl
  have b2 := HS.out.cell (k := 2) 2 rfl rfl
  by_cases hl60 : p.Letters.length < 60
  · have HF : Hid (Pl.psend p m = { p with Letters := p.Letters ++ [m] }) := if_pos hl60
    have f1 : ((p.Letters.length : Nat) : Int) < 60 := by omega
    have z1' := HS.out.frz (k := 1) 2 rfl
    have m0 := HS.out.cell (k := 0) 1 rfl rfl
    have m1 := HS.out.cell (k := 1) 1 rfl rfl
    have m2 := HS.out.cell (k := 2) 1 rfl rfl
    have m3 := HS.out.cell (k := 3) 1 rfl rfl
    have m4 := HS.out.cell (k := 4) 1 rfl rfl
    obtain ⟨i0, hi, hz0, hz1, hz2⟩ := info_parts Try.infoLetter
    go_upto_region 3 with (at_builtin; refine Mm.app_list (x := m) HS.out 4 rfl rfl (.tmp 10) (.tmp 12) 28 rfl i0 _ 40 Try.underlying28 hi hz0 hz1 hz2 rfl (by decide) rfl rfl (fun W => rLetter_own_mk HMI.out) rfl (by unfold maxLen; omega) (by omega) ?_; intro gg cap w' fp' hs; (have HS4 := Lib.hid hs); clear hs; (clear b0 b1 b2); clear m0 m1 m2 m3 m4 z1'; (have b1 := HS4.out.cell (k := 1) 2 rfl rfl); (have y1 := HS4.out.frz (k := 1) 2 rfl))
    clear b1 y1
    obtain ⟨W5, hW5⟩ : ∃ W, w'.setCell ⟨ga, 1, none⟩ (.slice (some ⟨gg, 0, none⟩) (p.Letters.length + 1) cap) = W := ⟨_, rfl⟩
    have HS5 := Lib.hid ((HS4.out.setBlk (k := 1) 2 rfl (.slice (some ⟨gg, 0, none⟩) (p.Letters.length + 1) cap)).atW hW5)
    rw [hW5]
    clear hW5
    have b0 := HS5.out.cell (k := 0) 2 rfl rfl
    have b1 := HS5.out.cell (k := 1) 2 rfl rfl
    have b2 := HS5.out.cell (k := 2) 2 rfl rfl
    have r0 := HS5.out.cell (k := 0) 0 rfl rfl
    have r1 := HS5.out.cell (k := 1) 0 rfl rfl
    have r2 := HS5.out.cell (k := 2) 0 rfl rfl
    have z0 := HS5.out.frz (k := 0) 0 rfl
    have z1 := HS5.out.frz (k := 1) 0 rfl
    have z2 := HS5.out.frz (k := 2) 0 rfl
    go_wp2
    have HSF := Lib.hid (((HS5.out.setBlk (k := 0) 0 rfl (.slice A0 n0 c0)).setBlk (k := 1) 0 rfl (.slice (some ⟨gg, 0, none⟩) (p.Letters.length + 1) cap)).setBlk (k := 2) 0 rfl (.slice A2 n2 c2))
    have u0 := HSF.out.cell (k := 0) 0 rfl rfl
    have u1 := HSF.out.cell (k := 1) 0 rfl rfl
    have u2 := HSF.out.cell (k := 2) 0 rfl rfl
    exact bodyPost_ret (v := .agg #[(.slice A0 n0 c0), (.slice (some ⟨gg, 0, none⟩) (p.Letters.length + 1) cap), (.slice A2 n2 c2)]) (by simp [results, Try.results83, go_sem, u0, u1, u2]) rfl ⟨_, _, rfl, by rw [HF.out]; exact (shutv_Poll (x := ({ p with Letters := p.Letters ++ [m] })) (HSF.out.sel [3,4,5] (by decide) rfl)).left⟩
  · have HF : Hid (Pl.psend p m = p) := if_neg hl60
    have f1 : ¬ ((p.Letters.length : Nat) : Int) < 60 := by omega
    have r0 := HS.out.cell (k := 0) 0 rfl rfl
    have r1 := HS.out.cell (k := 1) 0 rfl rfl
    have r2 := HS.out.cell (k := 2) 0 rfl rfl
    have z0 := HS.out.frz (k := 0) 0 rfl
    have z1 := HS.out.frz (k := 1) 0 rfl
    have z2 := HS.out.frz (k := 2) 0 rfl
    go_wp2
    have HSF := Lib.hid (((HS.out.setBlk (k := 0) 0 rfl (.slice A0 n0 c0)).setBlk (k := 1) 0 rfl (.slice A1 p.Letters.length c1)).setBlk (k := 2) 0 rfl (.slice A2 n2 c2))
    have u0 := HSF.out.cell (k := 0) 0 rfl rfl
    have u1 := HSF.out.cell (k := 1) 0 rfl rfl
    have u2 := HSF.out.cell (k := 2) 0 rfl rfl
    exact bodyPost_ret (v := .agg #[(.slice A0 n0 c0), (.slice A1 p.Letters.length c1), (.slice A2 n2 c2)]) (by simp [results, Try.results83, go_sem, u0, u1, u2]) rfl ⟨_, _, rfl, by rw [HF.out]; exact (shutv_Poll (x := p) (HSF.out.sel [3,4,5] (by decide) rfl)).left⟩
end Go.Proofs.Ytkhchfbpmmiopaa

/-
  Contracts: the reference's election, by value: who leads, who stands (chapter 8). No conditions beyond those named.
-/
namespace Go.Proofs.Ytkhchfbpmmiopaa
open Go.RowKit
attribute [local go_sem] und_cell cha_cell World.cell?_alloc_some
namespace Mm
/-- append of one element that is a thing of the list, in a region in the order of the text -/
theorem app_thing {P : Program} {F : List Nat} {w0 wr : World} {ts : List Thing} {ops : Array Oper} {rest : List Oper} {o : Oper} {a : Act} {Q : Exit → Act → World → Prop} {α : Type} {E : Rep α} {e : TypeId} {xs : List α} {x : α} {cx : List Value} {v : Value} {fp : List Nat} {m : Nat} {s0 : Thing}
    (hS : SepF F w0 wr ts) (k j : Nat) (hkj : k ≠ j) (hk : ts[k]? = some (tsl E e xs v fp)) (hj : ts[j]? = some s0) (hgd : o.guard = none) (s y : Operand) (t : TypeId)
    (ho : o.op = .call { callee := .builtin .append, args := #[s, y], argTypes := #[t, t] }) (i : TypeInfo) (z : Value) (bytes : Nat)
    (ht : P.underlying t = some (.slice e)) (hi : P.info? e = some i) (hz : i.zero = some z) (hsize : i.size = E.size) (hby : i.bytes = bytes) (hzs : z.cells.size = E.size) (h0 : 0 < E.size)
    (hsv : a.eval s = v) (hyv : a.eval y = .slice (some ⟨wr.heap.size, 0, none⟩) 1 1) (hx : ∀ W, s0.holds W → E.own W x cx s0.fp) (hm : xs.length = m) (h63 : m + 1 ≤ maxLen) (hbytes : (m + 1) * bytes ≤ 140737488355328)
    (h : ∀ g cap w' fp', SepF F w0 w' ((ts.set j tnil).set k (tsl E e (xs ++ [x]) (.slice (some ⟨g, 0, none⟩) (m + 1) cap) fp')) → wpList P ops Q rest (a.put o.dst (.slice (some ⟨g, 0, none⟩) (m + 1) cap)) w') :
    wpList P ops Q (o :: rest) a (wr.alloc (.cells cx.toArray e)) := by
  subst hm
  obtain ⟨l0, ho1, hnext⟩ := hS.push k j hkj hk hj (W2 := wr.alloc (.cells cx.toArray e)) (below_new (Below.refl _ _) _) hx
  have hb : Blk (wr.alloc (.cells cx.toArray e)) wr.heap.size e cx := Blk.new _ _ _
  have hown := hx _ (hS.at_ j hj)
  refine wpList_append_lies _ hgd s y t ho 0 e i z E.size bytes ht hi hz hsize hby hzs h0 v xs.length l0 hsv ho1 ⟨wr.heap.size, 0, none⟩ 1 1 cx hyv (by rw [Nat.one_mul]; exact E.olen hown) ?_ (E.one hown) (by omega) h63 hbytes (Nat.zero_le _) _ rfl ?_
  · have h1 := World.news_of_block hb
    simpa using h1
  · intro gg cap w4 hown1 hgrow hat hlt
    obtain ⟨fp', hs4⟩ := hnext gg cap w4 hown1 hgrow hat
    exact h gg cap w4 fp' hs4
end Mm
theorem l8Majority_c (n hf : Nat) (hn : n ≤ 1000) (hh : n / 2 = hf) (w : World) : Calls Try.prog 73 #[.int .i64 n] w fun e w' => e = .returned (.int .i64 ((hf : Nat) + 1 : Int)) ∧ w = w' := by
  have f0 : wrap64 ((n : Int) / 2) = (hf : Nat) := by rw [IntWalk.wrap64_in _ (by omega)]; omega
  have f1 : IntKind.i64.wrap ((hf : Int) + 1) = (hf : Int) + 1 := IntWalk.i64_in _ (by omega)
  have HH := Lib.hid hh
  clear hh
  go_enter Try.func73, Try.ntmps73
  go_wp2
  go_ret
  exact ⟨by simp; have := HH.out; omega, rfl⟩
set_option maxRecDepth 100000 in
set_option maxHeartbeats 4000000 in
theorem l8Lead_c (p : Poll) (k : Nat) (cs : List Value) (fp : List Nat) (w : World) (h : (Mm.tow rPoll p cs fp).holds w) (hnd : fp.Nodup) (hw : Pl.PW p) (hk : k < p.Nodes.length) :
    Calls Try.prog 100 #[.agg cs.toArray, .int .i64 k] w (PVA (Pl.plead p (k : Int)) fp w) := by
  obtain ⟨A0, n0, c0, A1, n1, c1, A2, n2, c2, f0, f1, f2, rfl, rfl, hs⟩ := openv_Poll (Mm.SepF.one _ w h hnd)
  obtain ⟨g0, rfl, -, -⟩ := Mm.sl_addr (hs.sl 0 rfl) (by omega)
  have hln0 : n0 = p.Nodes.length := by obtain ⟨A', n', c', hv, h1, _⟩ := (hs.sl 0 rfl).form; injection hv with _ h2 _; omega
  have hln2 : n2 = p.Leaders.length := by obtain ⟨A', n', c', hv, h1, _⟩ := (hs.sl 2 rfl).form; injection hv with _ h2 _; omega
  subst hln2
  have hx := hw.at_ (k := (k : Int)) (by omega) (by omega)
  rw [show ((k : Nat) : Int).toNat = k by omega] at hx
  have hn5 := hw.n5
  have hn05 : n0 ≤ 5 := by omega
  have hl300 := hw.leads
  obtain ⟨nd, hnd'⟩ : ∃ nd, Pl.nodeAt p (k : Int) = nd := ⟨_, rfl⟩
  rw [hnd'] at hx
  have HND := Lib.hid hnd'
  have HX := Lib.hid hx
  obtain ⟨ga, hga⟩ : ∃ g, w.heap.size = g := ⟨_, rfl⟩
  obtain ⟨gc, hgc⟩ : ∃ g, ga + 1 = g := ⟨_, rfl⟩
  obtain ⟨W0, hW0⟩ : ∃ W, (w.alloc (.cells #[.slice (some ⟨g0, 0, none⟩) n0 c0, .slice A1 n1 c1, .slice A2 p.Leaders.length c2] 31)).alloc (.cells #[.slice none 0 0, .slice none 0 0, .slice none 0 0] 31) = W := ⟨_, rfl⟩
  have HS := Lib.hid (((hs.alloc' hga 31 [.slice (some ⟨g0, 0, none⟩) n0 c0, .slice A1 n1 c1, .slice A2 p.Leaders.length c2]).alloc' (g := gc) (by rw [Mm.sz1, hga, hgc]) 31 zPoll).atW hW0)
  have HKN := Lib.hid hk
  have hkn : (k : Int) < (n0 : Nat) := by omega
  have hk0 : (0 : Int) ≤ (k : Nat) := by omega
  have hkt : ((k : Nat) : Int).toNat = k := by omega
  have HN0 := Lib.hid hln0
  obtain ⟨hf, hhf⟩ : ∃ hf : Nat, n0 / 2 = hf := ⟨_, rfl⟩
  have HHF : Hid (p.Nodes.length / 2 = hf) := Lib.hid (by rw [← hln0]; exact hhf)
  have CM0 := fun W => l8Majority_c n0 hf (by omega) hhf W
  clear h hs hnd hx hnd' hk hln0 hw hhf
  obtain ⟨A3, m3, d3, e0, e1, e2, e3, e4, hrd, i0', i1', i2', i4'⟩ := node_cells (HS.out.sl 2 rfl) (HS.out.ndat (i := 2) rfl) HX.out
  have HM3 : Hid (nd.Heard.length = m3) := hrd.1
  have HI0 := Lib.hid i0'
  clear hrd i0' i1' i2' i4'
  have b0 := HS.out.cell (k := 0) 1 rfl rfl
  have b1 := HS.out.cell (k := 1) 1 rfl rfl
  have b2 := HS.out.cell (k := 2) 1 rfl rfl
  go_enter Try.func100, Try.ntmps100
  go_upto_region 2 with fail
  obtain ⟨gn, hgn⟩ : ∃ g, W0.heap.size = g := ⟨_, rfl⟩
  obtain ⟨W1, hW1⟩ : ∃ W, W0.alloc (.cells #[.int .i64 nd.Term, .int .i64 nd.Voted, .int .i64 nd.Age, .slice A3 m3 d3, .int .i64 nd.Role] 42) = W := ⟨_, rfl⟩
  replace HS := Lib.hid ((HS.out.alloc' hgn 42 [.int .i64 nd.Term, .int .i64 nd.Voted, .int .i64 nd.Age, .slice A3 m3 d3, .int .i64 nd.Role]).atW hW1)
  rw [hW1, hgn]
  clear hW1 hgn hW0 hga hgc e0 e1 e2 e3 e4 b0 b1 b2
  have q0 := HS.out.cell (k := 0) 0 rfl rfl
  have q3 := HS.out.cell (k := 3) 0 rfl rfl
  have q4 := HS.out.cell (k := 4) 0 rfl rfl
  have b0 := HS.out.cell (k := 0) 2 rfl rfl
  have b1 := HS.out.cell (k := 1) 2 rfl rfl
  have b2 := HS.out.cell (k := 2) 2 rfl rfl
  have CM := fun z : Und W1 => und_same z (CM0 (und W1 z))
  by_cases hcd : nd.Role = 1 ∧ hf + 1 ≤ m3
  rotate_left
  · have HF : Hid (Pl.plead p (k : Int) = p) := Lib.hid (if_neg (by rw [HND.out, HM3.out, HHF.out]; omega))
    by_cases hr : nd.Role = 1
    · have fa : (nd.Role == 1) = true := by rw [hr]; rfl
      have fb : decide ((hf : Int) + 1 ≤ (m3 : Nat)) = false := by simp; omega
      clear hr hcd
      refine wp_region_und (by kernel_rfl) (by kernel_rfl) ?_
      repeat (go_big_quiet_step ((first | (go_at_call 73; with_reducible exact CM _))))
      refine wpQuiet_nil ?_
      intro X hX
      replace HS := Lib.hid (HS.out.step hX)
      clear q0 q3 q4 b0 b1 b2
      have b0 := HS.out.cell (k := 0) 2 rfl rfl
      have b1 := HS.out.cell (k := 1) 2 rfl rfl
      have b2 := HS.out.cell (k := 2) 2 rfl rfl
      have r0 := HS.out.cell (k := 0) 1 rfl rfl
      have r1 := HS.out.cell (k := 1) 1 rfl rfl
      have r2 := HS.out.cell (k := 2) 1 rfl rfl
      have z0 := HS.out.frz (k := 0) 1 rfl
      have z1 := HS.out.frz (k := 1) 1 rfl
      have z2 := HS.out.frz (k := 2) 1 rfl
      go_wp2
      have HSF := Lib.hid (((HS.out.setBlk (k := 0) 1 rfl (.slice (some ⟨g0, 0, none⟩) n0 c0)).setBlk (k := 1) 1 rfl (.slice A1 n1 c1)).setBlk (k := 2) 1 rfl (.slice A2 p.Leaders.length c2))
      have u0 := HSF.out.cell (k := 0) 1 rfl rfl
      have u1 := HSF.out.cell (k := 1) 1 rfl rfl
      have u2 := HSF.out.cell (k := 2) 1 rfl rfl
      exact bodyPost_ret (v := .agg #[(.slice (some ⟨g0, 0, none⟩) n0 c0), (.slice A1 n1 c1), (.slice A2 p.Leaders.length c2)]) (by simp [results, Try.results100, go_sem, u0, u1, u2]) rfl ⟨_, _, rfl, by rw [HF.out]; exact (shutv_Poll (x := p) (HSF.out.sel [3,4,5] (by decide) rfl)).left⟩
    · have fa : (nd.Role == 1) = false := by simpa using hr
      clear hr hcd CM
      refine wp_region_und (by kernel_rfl) (by kernel_rfl) ?_
      repeat (go_big_quiet_step ((first | fail)))
      refine wpQuiet_nil ?_
      intro X hX
      replace HS := Lib.hid (HS.out.step hX)
      clear q0 q3 q4 b0 b1 b2
      have b0 := HS.out.cell (k := 0) 2 rfl rfl
      have b1 := HS.out.cell (k := 1) 2 rfl rfl
      have b2 := HS.out.cell (k := 2) 2 rfl rfl
      have r0 := HS.out.cell (k := 0) 1 rfl rfl
      have r1 := HS.out.cell (k := 1) 1 rfl rfl
      have r2 := HS.out.cell (k := 2) 1 rfl rfl
      have z0 := HS.out.frz (k := 0) 1 rfl
      have z1 := HS.out.frz (k := 1) 1 rfl
      have z2 := HS.out.frz (k := 2) 1 rfl
      go_wp2
      have HSF := Lib.hid (((HS.out.setBlk (k := 0) 1 rfl (.slice (some ⟨g0, 0, none⟩) n0 c0)).setBlk (k := 1) 1 rfl (.slice A1 n1 c1)).setBlk (k := 2) 1 rfl (.slice A2 p.Leaders.length c2))
      have u0 := HSF.out.cell (k := 0) 1 rfl rfl
      have u1 := HSF.out.cell (k := 1) 1 rfl rfl
      have u2 := HSF.out.cell (k := 2) 1 rfl rfl
      exact bodyPost_ret (v := .agg #[(.slice (some ⟨g0, 0, none⟩) n0 c0), (.slice A1 n1 c1), (.slice A2 p.Leaders.length c2)]) (by simp [results, Try.results100, go_sem, u0, u1, u2]) rfl ⟨_, _, rfl, by rw [HF.out]; exact (shutv_Poll (x := p) (HSF.out.sel [3,4,5] (by decide) rfl)).left⟩
  have HF1 : Hid (Pl.plead p (k : Int) = Pl.pcrown (Pl.setNode p (k : Int) (Pl.withRole nd 2)) (k : Int)) := Lib.hid ((if_pos (by rw [HND.out, HM3.out, HHF.out]; omega)).trans (by rw [HND.out]))
  have fa : (nd.Role == 1) = true := by rw [hcd.1]; rfl
  have fb : decide ((hf : Int) + 1 ≤ (m3 : Nat)) = true := by simp; omega
  clear hcd
  refine wp_region_und (by kernel_rfl) (by kernel_rfl) ?_
  repeat (go_big_quiet_step ((first | (go_at_call 73; with_reducible exact CM _))))
  refine wpQuiet_nil ?_
  intro X hX
  replace HS := Lib.hid (HS.out.step hX)
  clear q0 q3 q4 b0 b1 b2 CM CM0
  obtain ⟨A4, m4, d4, e0, e1, e2, e3, e4, -, -, -, -, -⟩ := node_cells (HS.out.sl 3 rfl) (HS.out.ndat (i := 3) rfl) HX.out
  have z4 := (HS.out.sl 3 rfl).frozen (k * 5 + 4)
  have b0 := HS.out.cell (k := 0) 2 rfl rfl
  have b1 := HS.out.cell (k := 1) 2 rfl rfl
  have b2 := HS.out.cell (k := 2) 2 rfl rfl
  have HS2 := Lib.hid (HS.out.nodeNum (k := k) (m := 4) (v := 2) 3 rfl HX.out (by omega) (fun cs fx hh => rNode_set4 hh (by unfold Mm.I64; omega)))
  go_upto_region 4 with fail
  clear e0 e1 e2 e3 e4 b0 b1 b2 z4
  obtain ⟨W3, hW3⟩ : ∃ W3, X.setCell ⟨g0, k * 5 + 4, none⟩ (.int .i64 2) = W3 := ⟨_, rfl⟩
  rw [hW3] at HS2 ⊢
  clear hW3 HS hX
  have hpn : Pl.nodeAt (Pl.setNode p (k : Int) (Pl.withRole nd 2)) (k : Int) = Pl.withRole nd 2 := by rw [Pl.nodeAt_set (by rw [hkt]; exact HKN.out) hk0 hk0, if_pos rfl]
  have b0 := HS2.out.cell (k := 0) 2 rfl rfl
  have b1 := HS2.out.cell (k := 1) 2 rfl rfl
  have b2 := HS2.out.cell (k := 2) 2 rfl rfl
  by_cases h300 : p.Leaders.length < 300
  · have HF : Hid (Pl.plead p (k : Int) = { Pl.setNode p (k : Int) (Pl.withRole nd 2) with Leaders := p.Leaders ++ [[nd.Term, (k : Int)]] }) := Lib.hid (by
      rw [HF1.out]
      refine (if_pos h300).trans ?_
      rw [hpn]
      rfl)
    have fc : ((p.Leaders.length : Nat) : Int) < 300 := by omega
    clear hpn
    obtain ⟨i0, hi, hz0, hz1, hz2⟩ := info_parts Try.infoIntsP
    have q0 := HS2.out.cell (k := 0) 0 rfl rfl
    have HSA := Lib.hid (HS2.out.add (below_new (Below.refl _ _) (.cells #[.int .i64 nd.Term, .int .i64 k] 3)) (t := Mm.tsl Mm.int 3 [nd.Term, (k : Int)] (.slice (some ⟨W3.heap.size, 0, none⟩) 2 2) [W3.heap.size]) (ints_lit W3 [nd.Term, (k : Int)] 2 rfl (fun x hx => by rcases List.mem_cons.1 hx with rfl | hx; exact HI0.out; rw [List.mem_singleton.1 hx]; unfold Mm.I64; omega) (by decide)) (by simp [Mm.tsl]) (by simp [Mm.tsl]))
    go_upto_region 6 with (at_builtin; refine Mm.app_thing (x := [nd.Term, (k : Int)]) (cx := [.slice (some ⟨W3.heap.size, 0, none⟩) 2 2]) HSA.out 6 0 (by decide) rfl rfl rfl (.tmp 34) (.tmp 39) 29 rfl i0 _ 24 Try.underlying29 hi hz0 hz1 hz2 rfl (by decide) rfl (by rw [Mm.sz1]; rfl) (fun W hh => ⟨_, rfl, hh⟩) rfl (by unfold maxLen; omega) (by omega) ?_; intro gg cap w' fp' hs; (have HS4 := Lib.hid hs); clear hs; (clear b0 b1 b2); clear q0; (have b2 := HS4.out.cell (k := 2) 3 rfl rfl); (have y2 := HS4.out.frz (k := 2) 3 rfl))
    clear b2 y2
    obtain ⟨W5, hW5⟩ : ∃ W, w'.setCell ⟨ga, 2, none⟩ (.slice (some ⟨gg, 0, none⟩) (p.Leaders.length + 1) cap) = W := ⟨_, rfl⟩
    have HS5 := Lib.hid ((HS4.out.setBlk (k := 2) 3 rfl (.slice (some ⟨gg, 0, none⟩) (p.Leaders.length + 1) cap)).atW hW5)
    rw [hW5]
    clear hW5
    have b0 := HS5.out.cell (k := 0) 3 rfl rfl
    have b1 := HS5.out.cell (k := 1) 3 rfl rfl
    have b2 := HS5.out.cell (k := 2) 3 rfl rfl
    have r0 := HS5.out.cell (k := 0) 2 rfl rfl
    have r1 := HS5.out.cell (k := 1) 2 rfl rfl
    have r2 := HS5.out.cell (k := 2) 2 rfl rfl
    have z0 := HS5.out.frz (k := 0) 2 rfl
    have z1 := HS5.out.frz (k := 1) 2 rfl
    have z2 := HS5.out.frz (k := 2) 2 rfl
    go_wp2
    have HSF := Lib.hid (((HS5.out.setBlk (k := 0) 2 rfl (.slice (some ⟨g0, 0, none⟩) n0 c0)).setBlk (k := 1) 2 rfl (.slice A1 n1 c1)).setBlk (k := 2) 2 rfl (.slice (some ⟨gg, 0, none⟩) (p.Leaders.length + 1) cap))
    have u0 := HSF.out.cell (k := 0) 2 rfl rfl
    have u1 := HSF.out.cell (k := 1) 2 rfl rfl
    have u2 := HSF.out.cell (k := 2) 2 rfl rfl
    exact bodyPost_ret (v := .agg #[(.slice (some ⟨g0, 0, none⟩) n0 c0), (.slice A1 n1 c1), (.slice (some ⟨gg, 0, none⟩) (p.Leaders.length + 1) cap)]) (by simp [results, Try.results100, go_sem, u0, u1, u2]) rfl ⟨_, _, rfl, by rw [HF.out]; exact (shutv_Poll (x := ({ Pl.setNode p (k : Int) (Pl.withRole nd 2) with Leaders := p.Leaders ++ [[nd.Term, (k : Int)]] })) (HSF.out.sel [4,5,6] (by decide) rfl)).left⟩
  · have HF : Hid (Pl.plead p (k : Int) = Pl.setNode p (k : Int) (Pl.withRole nd 2)) := Lib.hid (by
      rw [HF1.out]
      exact if_neg h300)
    have fc : ¬ ((p.Leaders.length : Nat) : Int) < 300 := by omega
    have r0 := HS2.out.cell (k := 0) 1 rfl rfl
    have r1 := HS2.out.cell (k := 1) 1 rfl rfl
    have r2 := HS2.out.cell (k := 2) 1 rfl rfl
    have z0 := HS2.out.frz (k := 0) 1 rfl
    have z1 := HS2.out.frz (k := 1) 1 rfl
    have z2 := HS2.out.frz (k := 2) 1 rfl
    go_wp2
    have HSF := Lib.hid (((HS2.out.setBlk (k := 0) 1 rfl (.slice (some ⟨g0, 0, none⟩) n0 c0)).setBlk (k := 1) 1 rfl (.slice A1 n1 c1)).setBlk (k := 2) 1 rfl (.slice A2 p.Leaders.length c2))
    have u0 := HSF.out.cell (k := 0) 1 rfl rfl
    have u1 := HSF.out.cell (k := 1) 1 rfl rfl
    have u2 := HSF.out.cell (k := 2) 1 rfl rfl
    exact bodyPost_ret (v := .agg #[(.slice (some ⟨g0, 0, none⟩) n0 c0), (.slice A1 n1 c1), (.slice A2 p.Leaders.length c2)]) (by simp [results, Try.results100, go_sem, u0, u1, u2]) rfl ⟨_, _, rfl, by rw [HF.out]; exact (shutv_Poll (x := (Pl.setNode p (k : Int) (Pl.withRole nd 2))) (HSF.out.sel [3,4,5] (by decide) rfl)).left⟩
end Go.Proofs.Ytkhchfbpmmiopaa

/-
  Contracts: the reference's election, by value: a node stands (chapter 8). No conditions beyond those named.
-/
namespace Go.Proofs.Ytkhchfbpmmiopaa
open Go.RowKit
attribute [local go_sem] und_cell cha_cell World.cell?_alloc_some
set_option maxRecDepth 100000 in
set_option maxHeartbeats 4000000 in
theorem l8Stand_c (p : Poll) (k : Nat) (cs : List Value) (fp : List Nat) (w : World) (h : (Mm.tow rPoll p cs fp).holds w) (hnd : fp.Nodup) (hw : Pl.PW p) (hk : k < p.Nodes.length) (ht : (Pl.nodeAt p (k : Int)).Term ≠ 200) :
    Calls Try.prog 82 #[.agg cs.toArray, .int .i64 k] w (PVA (Pl.pstand p (k : Int)) fp w) := by
  obtain ⟨A0, n0, c0, A1, n1, c1, A2, n2, c2, f0, f1, f2, rfl, rfl, hs⟩ := openv_Poll (Mm.SepF.one _ w h hnd)
  obtain ⟨g0, rfl, -, -⟩ := Mm.sl_addr (hs.sl 0 rfl) (by omega)
  have hln0 : n0 = p.Nodes.length := by obtain ⟨A', n', c', hv, h1, _⟩ := (hs.sl 0 rfl).form; injection hv with _ h2 _; omega
  have hx := hw.at_ (k := (k : Int)) (by omega) (by omega)
  rw [show ((k : Nat) : Int).toNat = k by omega] at hx
  have hn5 := hw.n5
  have hn05 : n0 ≤ 5 := by omega
  have hno := hw.nok (k := (k : Int)) (by omega) (by omega)
  obtain ⟨nd, hnd'⟩ : ∃ nd, Pl.nodeAt p (k : Int) = nd := ⟨_, rfl⟩
  rw [hnd'] at hx hno ht
  have HNO := Lib.hid hno
  have HND := Lib.hid hnd'
  have HX := Lib.hid hx
  obtain ⟨ga, hga⟩ : ∃ g, w.heap.size = g := ⟨_, rfl⟩
  obtain ⟨gc, hgc⟩ : ∃ g, ga + 1 = g := ⟨_, rfl⟩
  obtain ⟨W0, hW0⟩ : ∃ W, (w.alloc (.cells #[.slice (some ⟨g0, 0, none⟩) n0 c0, .slice A1 n1 c1, .slice A2 n2 c2] 31)).alloc (.cells #[.slice none 0 0, .slice none 0 0, .slice none 0 0] 31) = W := ⟨_, rfl⟩
  have HS := Lib.hid (((hs.alloc' hga 31 [.slice (some ⟨g0, 0, none⟩) n0 c0, .slice A1 n1 c1, .slice A2 n2 c2]).alloc' (g := gc) (by rw [Mm.sz1, hga, hgc]) 31 zPoll).atW hW0)
  have HKN := Lib.hid hk
  have hkn : (k : Int) < (n0 : Nat) := by omega
  have hk0 : (0 : Int) ≤ (k : Nat) := by omega
  have hkt : ((k : Nat) : Int).toNat = k := by omega
  have HN0 := Lib.hid hln0
  have HW := Lib.hid hw
  have HT := Lib.hid ht
  have hterm := hno.term
  clear h hs hnd hx hnd' hk hln0 hw hno ht
  obtain ⟨A3, m3, d3, e0, e1, e2, e3, e4, hrd, -, -, -, -⟩ := node_cells (HS.out.sl 2 rfl) (HS.out.ndat (i := 2) rfl) HX.out
  clear hrd
  have b0 := HS.out.cell (k := 0) 1 rfl rfl
  have b1 := HS.out.cell (k := 1) 1 rfl rfl
  have b2 := HS.out.cell (k := 2) 1 rfl rfl
  have fb : IntKind.i64.wrap (nd.Term + 1) = nd.Term + 1 := IntWalk.i64_in _ (by omega)
  go_enter Try.func82, Try.ntmps82
  go_upto_region 2 with fail
  obtain ⟨gn, hgn⟩ : ∃ g, W0.heap.size = g := ⟨_, rfl⟩
  obtain ⟨W1, hW1⟩ : ∃ W, W0.alloc (.cells #[.int .i64 nd.Term, .int .i64 nd.Voted, .int .i64 nd.Age, .slice A3 m3 d3, .int .i64 nd.Role] 42) = W := ⟨_, rfl⟩
  replace HS := Lib.hid ((HS.out.alloc' hgn 42 [.int .i64 nd.Term, .int .i64 nd.Voted, .int .i64 nd.Age, .slice A3 m3 d3, .int .i64 nd.Role]).atW hW1)
  rw [hW1, hgn]
  clear hW1 hgn hW0 hga hgc e0 e1 e2 e3 e4 b0 b1 b2
  have hIk : Mm.I64 (k : Int) := by unfold Mm.I64; omega
  obtain ⟨fx, hst⟩ := HS.out.nodeStore 3 rfl HX.out
  obtain ⟨fp1, hs3⟩ := hst (W1.alloc (.cells #[.int .i64 k] 3)) ⟨nd.Term + 1, (k : Int), nd.Age, [(k : Int)], 1⟩ (some ⟨W1.heap.size, 0, none⟩) 1 1 [W1.heap.size] (by unfold Mm.I64; show _ ≤ nd.Term + 1 ∧ nd.Term + 1 ≤ _; omega) hIk (by unfold Mm.I64; show _ ≤ nd.Age ∧ nd.Age ≤ _; have := HNO.out.age; omega) (by unfold Mm.I64; show _ ≤ (1 : Int) ∧ (1 : Int) ≤ _; omega) (((Mm.SepF.start W1).add (below_new (Below.refl _ _) (.cells #[.int .i64 k] 3)) (t := Mm.tsl Mm.int 3 [(k : Int)] (.slice (some ⟨W1.heap.size, 0, none⟩) 1 1) [W1.heap.size]) (ints_lit W1 [(k : Int)] 1 rfl (fun x hx => by rw [List.mem_singleton.1 hx]; exact hIk) (by decide)) (by simp [Mm.tsl]) (by simp [Mm.tsl])).widen)
  have HS3 := Lib.hid hs3
  have HSB := Lib.hid (HS.out.step (below_new (Below.refl _ _) (.cells #[.int .i64 k] 3)))
  obtain ⟨A6, m6, d6, e0, e1, e2, e3, e4, -, -, -, -, -⟩ := node_cells (HSB.out.sl 3 rfl) (HSB.out.ndat (i := 3) rfl) HX.out
  have z0 := (HSB.out.sl 3 rfl).frozen (k * 5)
  have z1 := (HSB.out.sl 3 rfl).frozen (k * 5 + 1)
  have z2 := (HSB.out.sl 3 rfl).frozen (k * 5 + 2)
  have z3 := (HSB.out.sl 3 rfl).frozen (k * 5 + 3)
  have z4 := (HSB.out.sl 3 rfl).frozen (k * 5 + 4)
  have q0 := HS.out.cell (k := 0) 0 rfl rfl
  have q2 := HS.out.cell (k := 2) 0 rfl rfl
  have b0 := HS.out.cell (k := 0) 2 rfl rfl
  have b1 := HS.out.cell (k := 1) 2 rfl rfl
  have b2 := HS.out.cell (k := 2) 2 rfl rfl
  clear hst hs3
  go_upto_region 3 with fail
  clear e0 e1 e2 e3 e4 z0 z1 z2 z3 z4 q0 q2 b0 b1 b2
  obtain ⟨W5, hW5⟩ : ∃ V, (((((W1.alloc (.cells #[.int .i64 k] 3)).setCell ⟨g0, k * 5, none⟩ (.int .i64 (nd.Term + 1))).setCell ⟨g0, k * 5 + 1, none⟩ (.int .i64 k)).setCell ⟨g0, k * 5 + 2, none⟩ (.int .i64 nd.Age)).setCell ⟨g0, k * 5 + 3, none⟩ (.slice (some ⟨W1.heap.size, 0, none⟩) 1 1)).setCell ⟨g0, k * 5 + 4, none⟩ (.int .i64 1) = V := ⟨_, rfl⟩
  rw [hW5] at HS3 ⊢
  clear hW5 HSB HS
  obtain ⟨p1, hp1⟩ : ∃ p1, Pl.setNode p (k : Int) ⟨nd.Term + 1, (k : Int), nd.Age, [(k : Int)], 1⟩ = p1 := ⟨_, rfl⟩
  have HPE : Hid (Pl.pstand p (k : Int) = Pl.plead (Pl.pasks p1 (k : Int) (nd.Term + 1) nd.Age n0) (k : Int)) := Lib.hid (by
    unfold Pl.pstand
    rw [HND.out, hp1, HN0.out])
  have hpw1 : Pl.PW p1 := by
    rw [← hp1]
    refine HW.out.set ?_
    have hn := HNO.out
    have hkn' := HKN.out
    exact ⟨by show 0 ≤ nd.Term + 1 ∧ nd.Term + 1 ≤ 200; have := HT.out; omega, by show (-1 : Int) ≤ (k : Int) ∧ (k : Int) ≤ _; omega, hn.age, List.pairwise_singleton _ _, fun i hi => by rw [List.mem_singleton.1 hi]; omega, ⟨show (0:Int) ≤ 1 by omega, show (1:Int) ≤ 2 by omega⟩, fun hh => by cases hh⟩
  have HP := Lib.hid hpw1
  have HL0 : Hid (p1.Nodes.length = n0) := Lib.hid (by rw [← hp1, Pl.set_len]; exact HN0.out.symm)
  have HS4 := Lib.hid (shutv_Poll (x := p1) (by have h := HS3.out.sel [3, 4, 5, 2, 1, 0] (by decide) rfl; rw [← hp1]; unfold Pl.setNode; rw [hkt]; exact h))
  have hT1 : 1 ≤ nd.Term + 1 ∧ nd.Term + 1 ≤ 200 := by have := HT.out; omega
  have hA1 := HNO.out.age
  clear hpw1 hp1 HS3
  have b0 := HS4.out.cell (k := 0) 1 rfl rfl
  have b1 := HS4.out.cell (k := 1) 1 rfl rfl
  have b2 := HS4.out.cell (k := 2) 1 rfl rfl
  go_upto_region 4 with fail
  clear b0 b1 b2
  go_loopg [28] n0 (fun gg i wr => ∃ (j : Nat) (cj : List Value) (fj : List Nat), n0 - j ≤ gg ∧ j ≤ n0 ∧ i = .int .i64 j ∧ Hid (Mm.SepF (f0 ++ (f1 ++ f2)) w wr [Mm.tow rPoll (Pl.pasks p1 (k : Int) (nd.Term + 1) nd.Age j) cj fj, Mm.tblk ga 31 cj, Mm.tblk gc 31 zPoll, Mm.tblk gn 42 [.int .i64 nd.Term, .int .i64 nd.Voted, .int .i64 nd.Age, .slice A3 m3 d3, .int .i64 nd.Role]]))
  case atStart => exact ⟨0, _, _, Nat.le_refl _, Nat.zero_le _, rfl, HS4⟩
  case round =>
    clear HS4
    obtain ⟨j, cj, fj, hgj, hj, rfl, HS⟩ := hrel
    obtain ⟨W, rfl⟩ : ∃ W : World, W = wr := ⟨_, rfl⟩
    have hkn : (k : Int) < (n0 : Nat) := by have := HKN.out; have := HN0.out; omega
    have hn05 : n0 ≤ 5 := by omega
    obtain ⟨B0, m0, d0, B1, m1, d1, B2, m2, d2, rfl⟩ := own_formP (HS.out.at_ 0 rfl)
    by_cases hlt : j < n0
    · have fc : (j : Int) < (n0 : Nat) := by omega
      by_cases hjk : (j : Int) = (k : Int)
      · have fd : ((j : Int) != (k : Int)) = false := by simp [hjk]
        have HJ : Hid (Pl.pasks p1 (k : Int) (nd.Term + 1) nd.Age (j + 1) = Pl.pasks p1 (k : Int) (nd.Term + 1) nd.Age j) := Lib.hid (by rw [Pl.pasks, if_pos hjk])
        clear hjk
        go_wp2
        go_roundg (n0 - (j + 1))
        case measure => omega
        case rel => exact ⟨j + 1, _, _, Nat.le_refl _, by omega, by go_num, by rw [HJ.out]; exact HS⟩
      · have fd : ((j : Int) != (k : Int)) = true := by simpa using hjk
        have HJ : Hid (Pl.pasks p1 (k : Int) (nd.Term + 1) nd.Age (j + 1) = Pl.psend (Pl.pasks p1 (k : Int) (nd.Term + 1) nd.Age j) ⟨(k : Int), (j : Int), nd.Term + 1, true, nd.Age⟩) := Lib.hid (by rw [Pl.pasks, if_neg hjk])
        have HL60 := Lib.hid (HP.out.asks (k := (k : Int)) (t := nd.Term + 1) (a := nd.Age) (by rw [HL0.out]; omega) hT1 hA1 j (by rw [HL0.out]; omega)).lets
        clear hjk
        obtain ⟨Q, hQ⟩ : ∃ Q, Pl.pasks p1 (k : Int) (nd.Term + 1) nd.Age j = Q := ⟨_, rfl⟩
        rw [hQ] at HS HL60 HJ
        clear hQ
        have CS := l8Write_c Q ⟨(k : Int), (j : Int), nd.Term + 1, true, nd.Age⟩ _ _ W (HS.out.at_ 0 rfl) (HS.out.ndat (i := 0) rfl) ⟨by unfold Mm.I64; show _ ≤ (k : Int) ∧ (k : Int) ≤ _; omega, by unfold Mm.I64; show _ ≤ (j : Int) ∧ (j : Int) ≤ _; omega, by unfold Mm.I64; show _ ≤ nd.Term + 1 ∧ nd.Term + 1 ≤ _; omega, by unfold Mm.I64; show _ ≤ nd.Age ∧ nd.Age ≤ _; omega⟩ HL60.out
        have b0 := HS.out.cell (k := 0) 1 rfl rfl
        have b1 := HS.out.cell (k := 1) 1 rfl rfl
        have b2 := HS.out.cell (k := 2) 1 rfl rfl
        have q0 := HS.out.cell (k := 0) 3 rfl rfl
        have q2 := HS.out.cell (k := 2) 3 rfl rfl
        go_wp2_with (go_at_call 83; (with_reducible refine CS.mono ?_); clear CS; rintro e w6 ⟨cq, fq, rfl, hL⟩; obtain ⟨C0, x0, y0, C1, x1, y1, C2, x2, y2, rfl⟩ := own_formP hL.2.2.2; (have HS7 := Lib.hid (HS.out.call 0 rfl hL)); clear hL; (clear b0 b1 b2); clear q0 q2; (have r0 := HS7.out.cell (k := 0) 1 rfl rfl); (have r1 := HS7.out.cell (k := 1) 1 rfl rfl); (have r2 := HS7.out.cell (k := 2) 1 rfl rfl); (have z0 := HS7.out.frz (k := 0) 1 rfl); (have z1 := HS7.out.frz (k := 1) 1 rfl); (have z2 := HS7.out.frz (k := 2) 1 rfl))
        have HS8 := Lib.hid (((HS7.out.setBlk (k := 0) 1 rfl (.slice C0 x0 y0)).setBlk (k := 1) 1 rfl (.slice C1 x1 y1)).setBlk (k := 2) 1 rfl (.slice C2 x2 y2))
        clear r0 r1 r2 z0 z1 z2
        go_roundg (n0 - (j + 1))
        case measure => omega
        case rel => exact ⟨j + 1, _, _, Nat.le_refl _, by omega, by go_num, by rw [HJ.out]; exact HS8⟩
    · obtain rfl : j = n0 := by omega
      have fc : ¬ (j : Int) < (j : Nat) := by omega
      have HPA := Lib.hid (HP.out.asks (k := (k : Int)) (t := nd.Term + 1) (a := nd.Age) (by rw [HL0.out]; omega) hT1 hA1 j (by rw [HL0.out]; omega))
      have hsn := (Pl.pasks_same p1 (k : Int) (nd.Term + 1) nd.Age j).1
      have CL := l8Lead_c (Pl.pasks p1 (k : Int) (nd.Term + 1) nd.Age j) k _ _ W (HS.out.at_ 0 rfl) (HS.out.ndat (i := 0) rfl) HPA.out (by rw [hsn, HL0.out]; omega)
      clear hsn
      have b0 := HS.out.cell (k := 0) 1 rfl rfl
      have b1 := HS.out.cell (k := 1) 1 rfl rfl
      have b2 := HS.out.cell (k := 2) 1 rfl rfl
      go_wp2_with (go_at_call 100; (with_reducible refine CL.mono ?_); clear CL; rintro e w6 ⟨cq, fq, rfl, hL⟩; obtain ⟨C0, x0, y0, C1, x1, y1, C2, x2, y2, rfl⟩ := own_formP hL.2.2.2; (have HS7 := Lib.hid (HS.out.call 0 rfl hL)); clear hL; (clear b0 b1 b2); (have r0 := HS7.out.cell (k := 0) 2 rfl rfl); (have r1 := HS7.out.cell (k := 1) 2 rfl rfl); (have r2 := HS7.out.cell (k := 2) 2 rfl rfl); (have z0 := HS7.out.frz (k := 0) 2 rfl); (have z1 := HS7.out.frz (k := 1) 2 rfl); (have z2 := HS7.out.frz (k := 2) 2 rfl))
      have HS8 := Lib.hid (((HS7.out.setBlk (k := 0) 2 rfl (.slice C0 x0 y0)).setBlk (k := 1) 2 rfl (.slice C1 x1 y1)).setBlk (k := 2) 2 rfl (.slice C2 x2 y2))
      have u0 := HS8.out.cell (k := 0) 2 rfl rfl
      have u1 := HS8.out.cell (k := 1) 2 rfl rfl
      have u2 := HS8.out.cell (k := 2) 2 rfl rfl
      exact bodyPost_ret (v := .agg #[.slice C0 x0 y0, .slice C1 x1 y1, .slice C2 x2 y2]) (by simp [results, Try.results82, go_sem, u0, u1, u2]) rfl ⟨_, _, rfl, by rw [HPE.out]; exact (HS8.out.sel [0] (by decide) rfl).left⟩
end Go.Proofs.Ytkhchfbpmmiopaa
