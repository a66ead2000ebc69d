/-
  Contracts: the reference's work on a summary of heavy hitters: its copy, one less of each, one name added. No conditions.
-/
import Derived.Test.YtjmcbggdckfefaaWi
import Derived.Test.YtjmcbggdckfefaaWc
import Derived.Test.YtjmcbggdckfefaaSc
import Derived.Test.YtjmcbggdckfefaaSx
import Derived.Test.YtjmcbggdckfefaaIn
namespace Go.Proofs.Ytjmcbggdckfefaa
open Go.RowKit
attribute [local go_sem] und_cell World.cell?_alloc_some
theorem Try.infoHs : (Try.prog.info? 9).map (fun i => (i.zero, i.size, i.bytes)) = some (some (.string ⟨#[]⟩), 1, 16) := by kernel_rfl
theorem Try.infoHi : (Try.prog.info? 3).map (fun i => (i.zero, i.size, i.bytes)) = some (some (.int .i64 0), 1, 8) := by kernel_rfl
theorem hv_mk {x : Heavy} {w : World} {v0 v1 : Value} {f0 f1 : List Nat} {a b : Int} (h0 : Mm.SlOwn Mm.str 9 w x.Names v0 f0) (h1 : Mm.SlOwn Mm.int 3 w x.Counts v1 f1) (ha : x.Gone = a) (hb : x.Total = b) (g2 : Mm.I64 a) (g3 : Mm.I64 b) : rHeavy.own w x [v0, v1, .int .i64 a, .int .i64 b] (f0 ++ f1) := by
  subst ha; subst hb
  obtain ⟨A0, n0, c0, rfl, -⟩ := h0.form
  obtain ⟨A1, n1, c1, rfl, -⟩ := h1.form
  exact rHeavy_own_mk h0 h1 g2 g3
/-- an owned summary is its two lists -/
theorem hv_split {F : List Nat} {w0 wr : World} {ts : List Mm.Thing} {x : Heavy} {cs : List Value} {fp : List Nat} (h : Mm.SepF F w0 wr (Mm.tow rHeavy x cs fp :: ts)) :
    ∃ A0 n0 c0 A1 n1 c1 f0 f1, cs = [.slice A0 n0 c0, .slice A1 n1 c1, .int .i64 x.Gone, .int .i64 x.Total] ∧ Mm.SepF F w0 wr (Mm.tsl Mm.str 9 x.Names (.slice A0 n0 c0) f0 :: Mm.tsl Mm.int 3 x.Counts (.slice A1 n1 c1) f1 :: ts) := by
  have h0 : rHeavy.own wr x cs fp := h.at_ 0 rfl
  obtain ⟨A0, n0, c0, A1, n1, c1, f0, f1, rfl, rfl, k0, k1, -⟩ := rHeavy_own h0
  refine ⟨A0, n0, c0, A1, n1, c1, f0, f1, rfl, h.conv (by simp [Mm.tow, Mm.tsl]) (fun u hu => ?_)⟩
  rcases List.mem_cons.1 hu with rfl | hu
  · exact k0
  · rcases List.mem_cons.1 hu with rfl | hu
    · exact k1
    · exact h.hold u (List.mem_cons_of_mem _ hu)
/-- two lists are an owned summary -/
theorem hv_join {F : List Nat} {w0 wr : World} {ts : List Mm.Thing} {x : Heavy} {v0 v1 : Value} {f0 f1 : List Nat} {a b : Int} (h : Mm.SepF F w0 wr (Mm.tsl Mm.str 9 x.Names v0 f0 :: Mm.tsl Mm.int 3 x.Counts v1 f1 :: ts)) (ha : x.Gone = a) (hb : x.Total = b) (g2 : Mm.I64 a) (g3 : Mm.I64 b) :
    Mm.SepF F w0 wr (Mm.tow rHeavy x [v0, v1, .int .i64 a, .int .i64 b] (f0 ++ f1) :: ts) :=
  h.conv (by simp [Mm.tow, Mm.tsl]) (fun u hu => by
    rcases List.mem_cons.1 hu with rfl | hu
    · exact hv_mk (h.at_ 0 rfl) (h.at_ 1 rfl) ha hb g2 g3
    · exact h.hold u (List.mem_cons_of_mem _ (List.mem_cons_of_mem _ hu)))
set_option maxRecDepth 100000 in
set_option maxHeartbeats 1000000 in
theorem l15OwnHeavy_c (h : Heavy) (cs : List Value) (w : World) (B : Nat) (hh : rHeavy.at_ w B h cs) (hB : B ≤ w.heap.size) (hn0 : h.Names.length ≤ 100) (hn1 : h.Counts.length ≤ 100) :
    Calls Try.prog 68 #[.agg cs.toArray] w (Mm.NewAg rHeavy w h) := by
  have HH := Lib.hid hh
  obtain ⟨A0, n0, c0, A1, n1, c1, rfl, h0, h1, g2, g3⟩ := rHeavy_at hh
  have hl0 := Lib.hid h0.1
  have hl1 := Lib.hid h1.1
  have hn0' : n0 ≤ 100 := by have := hl0.out; omega
  have hn1' : n1 ≤ 100 := by have := hl1.out; omega
  have HL0 := Lib.hid h0
  have HL1 := Lib.hid h1
  have HG := Lib.hid (And.intro g2 g3)
  clear h0 h1 hh g2 g3
  have KS0 := Lib.hid (((Mm.Sep.start w).alloc' rfl 38 [.slice A0 n0 c0, .slice A1 n1 c1, .int .i64 h.Gone, .int .i64 h.Total]).alloc' (Mm.sz1 _ _) 38 [.slice none 0 0, .slice none 0 0, .int .i64 0, .int .i64 0])
  obtain ⟨i0, hi, hz0, hz1, hz2⟩ := info_parts Try.infoHs
  obtain ⟨i1, hi1, hy0, hy1, hy2⟩ := info_parts Try.infoHi
  go_enter Try.func68, Try.ntmps68
  go_wp2_with first
    | (at_builtin; refine Mm.wpList_clone (by rfl) (.tmp 3) (.tmp 5) 33 (by rfl) Mm.flat_str i0 _ 16 Try.underlying33 hi hz0 hz1 hz2 rfl (by decide) KS0.out (below_new (Below.refl _ _) _) (g := w.heap.size + 2) (Mm.heap_new _ (Mm.sz2 _ _ _) _) (by rw [Mm.sz2]; exact Nat.le_refl _) (HL0.out.keep (B := B) fun b hb => (below_new (below_new (below_new (Below.refl w.heap.size w) _) _) _).block b (by omega)) (by unfold maxLen; omega) (by omega) (by rfl) (by rfl) ?_; intro A2 c2 f2 w1 hs1 hb1; (have HS1 := Lib.hid (hs1.setBlk (k := 0) 2 rfl (.slice A2 n0 c2))); (have q1 := hs1.cell (k := 1) 2 rfl rfl); (have q2 := hs1.cell (k := 2) 2 rfl rfl); (have q3 := hs1.cell (k := 3) 2 rfl rfl); (have q0 := hs1.cell (k := 0) 2 rfl rfl); (have z0 := hs1.frz (k := 0) 2 rfl); clear hs1 hb1)
    | (at_builtin; refine Mm.wpList_clone (by rfl) (.tmp 8) (.tmp 10) 34 (by rfl) Mm.flat_int i1 _ 8 Try.underlying34 hi1 hy0 hy1 hy2 rfl (by decide) HS1.out (below_new (Below.refl _ _) _) (g := w1.heap.size) (Mm.heap_new _ (by simp [World.setCell]) _) (by simp [World.setCell]) (HL1.out.keep (B := B) fun b hb => (below_new HS1.out.bel _).block b (by omega)) (by unfold maxLen; omega) (by omega) (by rfl) (by rfl) ?_; intro A3 c3 f3 w2 hs2 hb2; (have HS2 := Lib.hid ((hs2.setBlk (k := 1) 3 rfl (.slice A3 n1 c3)))); (have p0 := hs2.cell (k := 0) 3 rfl rfl); (have p1 := hs2.cell (k := 1) 3 rfl rfl); (have p2 := hs2.cell (k := 2) 3 rfl rfl); (have p3 := hs2.cell (k := 3) 3 rfl rfl); (have y0 := hs2.frz (k := 1) 3 rfl); (have r0 := hs2.cell (k := 0) 2 rfl rfl); (have r1 := hs2.cell (k := 1) 2 rfl rfl); (have r2 := hs2.cell (k := 2) 2 rfl rfl); (have r3 := hs2.cell (k := 3) 2 rfl rfl); (have x0 := hs2.frz (k := 0) 2 rfl); (have x1 := hs2.frz (k := 1) 2 rfl); (have x2 := hs2.frz (k := 2) 2 rfl); (have x3 := hs2.frz (k := 3) 2 rfl); clear hs2 hb2)
  have HS6 := Lib.hid ((((HS2.out.setBlk (k := 0) 2 rfl (.slice A2 n0 c2)).setBlk (k := 1) 2 rfl (.slice A3 n1 c3)).setBlk (k := 2) 2 rfl (.int .i64 h.Gone)).setBlk (k := 3) 2 rfl (.int .i64 h.Total))
  have h60 := HS6.out.own0 0 rfl
  have h61 := HS6.out.own0 1 rfl
  have hap := HS6.out.apart (i := 1) (j := 0) rfl rfl (by decide)
  exact bodyPost_ret (v := .agg #[.slice A2 n0 c2, .slice A3 n1 c3, .int .i64 h.Gone, .int .i64 h.Total]) (by simp [results, Try.results68, go_sem, r0, r1, r2, r3]) rfl
    ⟨_, f2 ++ f3, rfl, rHeavy_own_mk h61.1 h60.1 HG.out.1 HG.out.2, by rw [List.nodup_append]; exact ⟨h61.2.1, h60.2.1, fun a ha b hb e => by subst e; exact hap a ha hb⟩, fun b hb => (List.mem_append.1 hb).elim (h61.2.2.1 b) (h60.2.2.1 b), h60.2.2.2⟩
def lessV (h : Heavy) : Heavy := ⟨(Pl.hless h).Names, (Pl.hless h).Counts, h.Gone + 1, h.Total⟩
set_option maxRecDepth 100000 in
set_option maxHeartbeats 4000000 in
theorem l15Less_c (h : Heavy) (cs : List Value) (w : World) (B : Nat) (hh : rHeavy.at_ w B h cs) (hB : B ≤ w.heap.size) (hn : h.Names.length ≤ 6) (hcl : h.Counts.length = h.Names.length) (hcb : ∀ (i : Nat) y, h.Counts[i]? = some y → 0 ≤ y ∧ y ≤ 10000000) (hgb : 0 ≤ h.Gone ∧ h.Gone ≤ 10000000) :
    Calls Try.prog 95 #[.agg cs.toArray] w (Mm.NewAg rHeavy w (lessV h)) := by
  have HH := Lib.hid hh
  obtain ⟨A0, n0, c0, A1, n1, c1, rfl, h0, h1, g2, g3⟩ := rHeavy_at hh
  have hl0 := Lib.hid h0.1
  have hl1 := Lib.hid h1.1
  have hn0' : n0 ≤ 6 := by have := hl0.out; omega
  obtain rfl : n0 = n1 := by have := hl0.out; have := hl1.out; omega
  have HL0 := Lib.hid h0
  have HL1 := Lib.hid h1
  have HG := Lib.hid g3
  have HCB := Lib.hid hcb
  clear h0 h1 hh g2 g3 hcb hcl hn
  have hgw : IntKind.i64.wrap (h.Gone + 1) = h.Gone + 1 := IntWalk.i64_in _ (by omega)
  have KS0 := Lib.hid (((((Mm.Sep.start w).alloc' rfl 38 [.slice A0 n0 c0, .slice A1 n0 c1, .int .i64 h.Gone, .int .i64 h.Total]).alloc' (Mm.sz1 _ _) 38 [.slice none 0 0, .slice none 0 0, .int .i64 0, .int .i64 0]).alloc' (Mm.sz2 _ _ _) 38 [.slice none 0 0, .slice none 0 0, .int .i64 (h.Gone + 1), .int .i64 h.Total]).add (t := Mm.tsl Mm.int 3 [] (.slice none 0 0) []) (Below.refl _ _) Mm.SlOwn.nil List.nodup_nil (fun b hb => by cases hb) |>.add (t := Mm.tsl Mm.str 9 [] (.slice none 0 0) []) (Below.refl _ _) Mm.SlOwn.nil List.nodup_nil (fun b hb => by cases hb))
  obtain ⟨i0, hi, hz0, hz1, hz2⟩ := info_parts Try.infoHs
  obtain ⟨i1, hi1, hy0, hy1, hy2⟩ := info_parts Try.infoHi
  go_enter Try.func95, Try.ntmps95
  go_wp2
  go_loopg [19] n0 (fun g i wr => ∃ (k m : Nat) (v0 v1 : Value) (f0 f1 : List Nat), n0 - k ≤ g ∧ k ≤ n0 ∧ i = .int .i64 k ∧ Hid (m = (Pl.lessTo h.Names h.Counts k).length) ∧ Hid (Mm.Sep w wr [Mm.tsl Mm.str 9 ((Pl.lessTo h.Names h.Counts k).map (·.1)) v0 f0, Mm.tsl Mm.int 3 ((Pl.lessTo h.Names h.Counts k).map (·.2)) v1 f1, Mm.tblk (w.heap.size + 2) 38 [v0, v1, .int .i64 (h.Gone + 1), .int .i64 h.Total], Mm.tblk (w.heap.size + 1) 38 [.slice none 0 0, .slice none 0 0, .int .i64 0, .int .i64 0], Mm.tblk w.heap.size 38 [.slice A0 n0 c0, .slice A1 n0 c1, .int .i64 h.Gone, .int .i64 h.Total]]))
  case atStart => exact ⟨0, 0, _, _, [], [], Nat.le_refl _, Nat.zero_le _, rfl, rfl, KS0.out⟩
  case round =>
    obtain ⟨k, m, v0, v1, f0, f1, hgk, hk, rfl, HM, HS⟩ := hrel
    have hbel := HS.out.bel
    have hsw := hbel.size
    have hmk : m ≤ 6 := by have := Pl.lessTo_len h.Names h.Counts k; have := HM.out; omega
    have q0 := HS.out.cell (k := 0) 4 rfl rfl
    have q1 := HS.out.cell (k := 1) 4 rfl rfl
    have d0 := HS.out.cell (k := 0) 2 rfl rfl
    have d1 := HS.out.cell (k := 1) 2 rfl rfl
    have z0 := HS.out.frz (k := 0) 2 rfl
    have z1 := HS.out.frz (k := 1) 2 rfl
    by_cases hlt : k < n0
    · obtain ⟨x, b0, o0, hx, rfl, hb0, bx, e0⟩ := str_get HL0.out hlt
      obtain ⟨y, b1, o1, hy, rfl, hb1, by_, e1⟩ := int_get HL1.out hlt
      have e0' := below_some hbel e0
      have e1' := below_some hbel e1
      have hyb := HCB.out k y hy
      by_cases hyt : 1 < y
      · have HN : Hid (Pl.lessTo h.Names h.Counts (k + 1) = Pl.lessTo h.Names h.Counts k ++ [(x, y - 1)]) := by
          show _ = _
          rw [Pl.lessTo, Pl.strAt_of hx, Pl.getD_of hy, if_pos hyt]
        have HLn : Hid (((Pl.lessTo h.Names h.Counts k).map (·.1)).length = m) := by show _ = _; rw [List.length_map]; exact HM.out.symm
        have HLm : Hid (((Pl.lessTo h.Names h.Counts k).map (·.2)).length = m) := by show _ = _; rw [List.length_map]; exact HM.out.symm
        clear hx hy
        have hyw : IntKind.i64.wrap (y - 1) = y - 1 := IntWalk.i64_in _ (by omega)
        obtain ⟨l0, ho0, hnx0⟩ := HS.out.push0 (W2 := wr.alloc (.cells #[.string x] 9)) 0 rfl (below_new (Below.refl _ _) _) (x := x) (cx := [.string x]) ⟨rfl, bx, rfl⟩
        rw [HLn.out] at ho0 hnx0
        have HNX0 := Lib.hid hnx0
        clear hnx0
        have hBw := hbel.size
        go_wp2_with (at_builtin; refine wpList_append_lies _ (by rfl) _ _ _ (by rfl) 0 9 i0 _ 1 16 Try.underlying33 hi hz0 hz1 hz2 rfl (by omega) v0 m l0 (by rfl) ho0 ⟨wr.heap.size, 0, none⟩ 1 1 [.string x] (by rfl) (by rfl) (World.news_of_block (B := wr.heap.size) (cs := #[.string x]) (t := 9) (fr := (0, 0)) (heap_alloc_new wr _)) (by simp [Value.oneCell']) (by omega) (by unfold maxLen; omega) (by omega) (Nat.zero_le _) _ rfl ?_; intro gg cap w1 hown1 hgrow hat hlt'; obtain ⟨f0', hs1⟩ := HNX0.out gg cap w1 hown1 hgrow hat; (have HS1 := Lib.hid (hs1.setBlk (k := 0) 2 rfl (.slice (some ⟨gg, 0, none⟩) (m + 1) cap))); (have u0 := hs1.cell (k := 0) 2 rfl rfl); (have u1 := hs1.cell (k := 1) 2 rfl rfl); (have u2 := hs1.frz (k := 0) 2 rfl); (have u3 := hs1.frz (k := 1) 2 rfl); (have u4 := hs1.cell (k := 1) 4 rfl rfl); (have u5 := below_some hs1.bel e1); clear hs1 hown1 hgrow hat hlt')
        obtain ⟨l1, ho1, hnx1⟩ := HS1.out.push0 (W2 := ((w1.setCell ⟨w.heap.size + 2, 0, none⟩ (.slice (some ⟨gg, 0, none⟩) (m + 1) cap)).alloc (.cells #[.int .i64 (y - 1)] 3)).drew) 1 rfl (below_new (Below.refl _ _) _).drew (x := y - 1) (cx := [.int .i64 (y - 1)]) ⟨rfl, by unfold Mm.I64; omega, rfl⟩
        rw [HLm.out] at ho1 hnx1
        have HNX1 := Lib.hid hnx1
        clear hnx1
        have hsw1 : (w1.setCell ⟨w.heap.size + 2, 0, none⟩ (.slice (some ⟨gg, 0, none⟩) (m + 1) cap)).heap.size = w1.heap.size := by simp [World.setCell]
        have hnews := Lib.hid (World.news_of_block (B := w1.heap.size) (cs := #[.int .i64 (y - 1)]) (t := 3) (fr := (0, 0)) (w := ((w1.setCell ⟨w.heap.size + 2, 0, none⟩ (.slice (some ⟨gg, 0, none⟩) (m + 1) cap)).alloc (.cells #[.int .i64 (y - 1)] 3)).drew) (Mm.heap_new _ hsw1 _))
        go_region_law (refine step_append_lies _ (by rfl) _ _ _ (by rfl) 0 3 i1 _ 1 8 Try.underlying34 hi1 hy0 hy1 hy2 rfl (by omega) v1 m l1 (by rfl) ho1 ⟨w1.heap.size, 0, none⟩ 1 1 [.int .i64 (y - 1)] (by rfl) (by rfl) hnews.out (by simp [Value.oneCell']) (by omega) (by unfold maxLen; omega) (by omega) (Nat.zero_le _) _ rfl ?_; intro g2 cap2 w2 hown2 hgrow2 hat2 hlt2; obtain ⟨f1', hs2⟩ := HNX1.out g2 cap2 w2 hown2 hgrow2 hat2; (have HS2 := Lib.hid (hs2.setBlk (k := 1) 2 rfl (.slice (some ⟨g2, 0, none⟩) (m + 1) cap2))); (have p0 := hs2.cell (k := 1) 2 rfl rfl); (have p1 := hs2.frz (k := 1) 2 rfl); clear hs2 hown2 hgrow2 hat2 hlt2)
        all_goals
          go_wp2
          go_roundg (n0 - (k + 1))
          case measure => omega
          case rel => exact ⟨k + 1, m + 1, _, _, f0', f1', Nat.le_refl _, by omega, by go_num, by show _ = _; rw [HN.out, List.length_append, ← HM.out]; rfl, by rw [HN.out, List.map_append, List.map_append]; exact HS2.out⟩
      · have HN : Hid (Pl.lessTo h.Names h.Counts (k + 1) = Pl.lessTo h.Names h.Counts k) := by
          show _ = _
          rw [Pl.lessTo, Pl.strAt_of hx, Pl.getD_of hy, if_neg hyt, List.append_nil]
        clear hx hy
        go_wp2
        go_roundg (n0 - (k + 1))
        case measure => omega
        case rel => exact ⟨k + 1, m, v0, v1, f0, f1, Nat.le_refl _, by omega, by go_num, by show _ = _; rw [HN.out]; exact HM.out, by rw [HN.out]; exact HS.out⟩
    · obtain rfl : k = n0 := by omega
      have hml := Pl.lessTo_len h.Names h.Counts k
      have hmk' : m ≤ k := by have := HM.out; omega
      obtain ⟨A2, n2, c2, rfl, hn2, -⟩ := (HS.out.sl 0 rfl).form
      have hn2m : n2 = m := by rw [hn2, List.length_map]; exact HM.out.symm
      subst hn2m
      obtain ⟨L, hL⟩ : ∃ L, Pl.lessTo h.Names h.Counts k = L := ⟨_, rfl⟩
      have HLV : Hid (lessV h = ⟨L.map (·.1) ++ List.replicate (k - n2) ⟨#[]⟩, L.map (·.2) ++ List.replicate (k - n2) 0, h.Gone + 1, h.Total⟩) := by
        show _ = _
        unfold lessV Pl.hless
        rw [hl0.out, hL, show n2 = L.length by rw [← hL]; exact HM.out]
      have HLL : Hid (L.length = n2) := by show _ = _; rw [← hL]; exact HM.out.symm
      have HS0 := Lib.hid HS.out
      rw [hL] at HS0
      go_wp2
      obtain ⟨wo, rfl⟩ : ∃ wo : World, wo = wr := ⟨_, rfl⟩
      clear HS HM hn2 hL hml d0 d1 z0 z1 q0 q1 hbel hgk
      go_loopg [] k (fun g wr => ∃ (j : Nat) (A : Option Addr) (c : Nat) (v1 : Value) (f0 f1 : List Nat), k - (n2 + j) ≤ g ∧ n2 + j ≤ k ∧ Hid (Mm.Sep w wr [Mm.tsl Mm.str 9 (L.map (·.1) ++ List.replicate j ⟨#[]⟩) (.slice A (n2 + j) c) f0, Mm.tsl Mm.int 3 (L.map (·.2) ++ List.replicate j 0) v1 f1, Mm.tblk (w.heap.size + 2) 38 [.slice A (n2 + j) c, v1, .int .i64 (h.Gone + 1), .int .i64 h.Total], Mm.tblk (w.heap.size + 1) 38 [.slice none 0 0, .slice none 0 0, .int .i64 0, .int .i64 0], Mm.tblk w.heap.size 38 [.slice A0 k c0, .slice A1 k c1, .int .i64 h.Gone, .int .i64 h.Total]]))
      case atStart => exact ⟨0, A2, c2, v1, f0, f1, by omega, by omega, by rw [List.replicate_zero, List.replicate_zero, List.append_nil, List.append_nil]; exact HS0.out⟩
      case round =>
        obtain ⟨j, A, c, v1, f0, f1, hgk, hk, HS⟩ := hrel
        obtain ⟨A3, n3, c3, rfl, -⟩ := (HS.out.sl 1 rfl).form
        have hbel := HS.out.bel
        have hsw := hbel.size
        have d0 := HS.out.cell (k := 0) 2 rfl rfl
        have d1 := HS.out.cell (k := 1) 2 rfl rfl
        have z0 := HS.out.frz (k := 0) 2 rfl
        have z1 := HS.out.frz (k := 1) 2 rfl
        by_cases hlt : n2 + j < k
        · have HLn : Hid ((L.map (·.1) ++ List.replicate j (⟨#[]⟩ : ByteArray)).length = n2 + j) := by show _ = _; rw [List.length_append, List.length_map, List.length_replicate, HLL.out]
          have HLm : Hid ((L.map (·.2) ++ List.replicate j (0 : Int)).length = n2 + j) := by show _ = _; rw [List.length_append, List.length_map, List.length_replicate, HLL.out]
          obtain ⟨l0, ho0, hnx0⟩ := HS.out.push0 (W2 := wr.alloc (.cells #[.string ⟨#[]⟩] 9)) 0 rfl (below_new (Below.refl _ _) _) (x := ⟨#[]⟩) (cx := [.string ⟨#[]⟩]) ⟨rfl, by show 0 ≤ maxLen; unfold maxLen; omega, rfl⟩
          rw [HLn.out] at ho0 hnx0
          have HNX0 := Lib.hid hnx0
          clear hnx0
          go_wp2_with first
            | (at_builtin; refine wpList_append_lies _ (by rfl) _ _ _ (by rfl) 0 9 i0 _ 1 16 Try.underlying33 hi hz0 hz1 hz2 rfl (by omega) (.slice A (n2 + j) c) (n2 + j) l0 (by rfl) ho0 ⟨wr.heap.size, 0, none⟩ 1 1 [.string ⟨#[]⟩] (by rfl) (by rfl) (World.news_of_block (B := wr.heap.size) (cs := #[.string ⟨#[]⟩]) (t := 9) (fr := (0, 0)) (heap_alloc_new wr _)) (by simp [Value.oneCell']) (by omega) (by unfold maxLen; omega) (by omega) (Nat.zero_le _) _ rfl ?_; intro gg cap w1 hown1 hgrow hat hlt'; obtain ⟨f0', hs1⟩ := HNX0.out gg cap w1 hown1 hgrow hat; (have HS1 := Lib.hid (hs1.setBlk (k := 0) 2 rfl (.slice (some ⟨gg, 0, none⟩) (n2 + j + 1) cap))); (have u0 := hs1.cell (k := 0) 2 rfl rfl); (have u1 := hs1.cell (k := 1) 2 rfl rfl); (have u2 := hs1.frz (k := 0) 2 rfl); (have u3 := hs1.frz (k := 1) 2 rfl); obtain ⟨l1, ho1, hnx1⟩ := HS1.out.push0 (W2 := (w1.setCell ⟨w.heap.size + 2, 0, none⟩ (.slice (some ⟨gg, 0, none⟩) (n2 + j + 1) cap)).alloc (.cells #[.int .i64 0] 3)) 1 rfl (below_new (Below.refl _ _) _) (x := 0) (cx := [.int .i64 0]) ⟨rfl, by unfold Mm.I64; omega, rfl⟩; rw [HLm.out] at ho1 hnx1; (have HNX1 := Lib.hid hnx1); (have hsw1 : (w1.setCell ⟨w.heap.size + 2, 0, none⟩ (.slice (some ⟨gg, 0, none⟩) (n2 + j + 1) cap)).heap.size = w1.heap.size := by simp [World.setCell]); (have hnews := Lib.hid (World.news_of_block (B := w1.heap.size) (cs := #[.int .i64 0]) (t := 3) (fr := (0, 0)) (w := (w1.setCell ⟨w.heap.size + 2, 0, none⟩ (.slice (some ⟨gg, 0, none⟩) (n2 + j + 1) cap)).alloc (.cells #[.int .i64 0] 3)) (Mm.heap_new _ hsw1 _))); clear hs1 hown1 hgrow hat hlt' hnx1)
            | (at_builtin; refine wpList_append_lies _ (by rfl) _ _ _ (by rfl) 0 3 i1 _ 1 8 Try.underlying34 hi1 hy0 hy1 hy2 rfl (by omega) (.slice A3 n3 c3) (n2 + j) l1 (by rfl) ho1 ⟨w1.heap.size, 0, none⟩ 1 1 [.int .i64 0] (by rfl) (by rfl) hnews.out (by simp [Value.oneCell']) (by omega) (by unfold maxLen; omega) (by omega) (Nat.zero_le _) _ rfl ?_; intro g2 cap2 w2 hown2 hgrow2 hat2 hlt2; obtain ⟨f1', hs2⟩ := HNX1.out g2 cap2 w2 hown2 hgrow2 hat2; (have HS2 := Lib.hid (hs2.setBlk (k := 1) 2 rfl (.slice (some ⟨g2, 0, none⟩) (n2 + j + 1) cap2))); (have p0 := hs2.cell (k := 1) 2 rfl rfl); (have p1 := hs2.frz (k := 1) 2 rfl); clear hs2 hown2 hgrow2 hat2 hlt2)
          go_roundg (k - (n2 + (j + 1)))
          case measure => omega
          case rel => exact ⟨j + 1, _, cap, _, f0', f1', Nat.le_refl _, by omega, by rw [List.replicate_succ', List.replicate_succ', ← List.append_assoc, ← List.append_assoc]; exact HS2.out⟩
        · obtain rfl : k = n2 + j := by omega
          have d2 := HS.out.cell (k := 2) 2 rfl rfl
          have d3 := HS.out.cell (k := 3) 2 rfl rfl
          have r0 := HS.out.cell (k := 0) 3 rfl rfl
          have r1 := HS.out.cell (k := 1) 3 rfl rfl
          have r2 := HS.out.cell (k := 2) 3 rfl rfl
          have r3 := HS.out.cell (k := 3) 3 rfl rfl
          have x0 := HS.out.frz (k := 0) 3 rfl
          have x1 := HS.out.frz (k := 1) 3 rfl
          have x2 := HS.out.frz (k := 2) 3 rfl
          have x3 := HS.out.frz (k := 3) 3 rfl
          have HS6 := Lib.hid ((((HS.out.setBlk (k := 0) 3 rfl (.slice A (n2 + j) c)).setBlk (k := 1) 3 rfl (.slice A3 n3 c3)).setBlk (k := 2) 3 rfl (.int .i64 (h.Gone + 1))).setBlk (k := 3) 3 rfl (.int .i64 h.Total))
          go_wp2
          have h60 := HS6.out.own0 0 rfl
          have h61 := HS6.out.own0 1 rfl
          have hap := HS6.out.apart (i := 0) (j := 1) rfl rfl (by decide)
          exact bodyPost_ret (v := .agg #[.slice A (n2 + j) c, .slice A3 n3 c3, .int .i64 (h.Gone + 1), .int .i64 h.Total]) (by simp [results, Try.results95, go_sem, r0, r1, r2, r3]) rfl (by
            rw [HLV.out, Nat.add_sub_cancel_left]
            exact ⟨_, f0 ++ f1, rfl, hv_mk h60.1 h61.1 rfl rfl (by unfold Mm.I64; omega) HG.out, by rw [List.nodup_append]; exact ⟨h60.2.1, h61.2.1, fun a ha b hb e => by subst e; exact hap a ha hb⟩, fun b hb => (List.mem_append.1 hb).elim (h60.2.2.1 b) (h61.2.2.1 b), h60.2.2.2⟩)
end Go.Proofs.Ytjmcbggdckfefaa
