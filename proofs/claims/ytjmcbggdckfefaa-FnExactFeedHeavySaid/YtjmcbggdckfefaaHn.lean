/-
  The laws' own markings of whole structs that are owned. No conditions.
-/
import Derived.Test.YtjmcbggdckfefaaWa
import Derived.Test.YtjmcbggdckfefaaTy
import Derived.Test.YtjmcbggdckfefaaQu
import Derived.Test.YtjmcbggdckfefaaHm
import Derived.Lib.Hide
import Derived.Deep.DeepFit
namespace Go.Proofs.Ytjmcbggdckfefaa
open Go.RowKit
attribute [local go_sem] und_cell
set_option maxHeartbeats 2000000 in
theorem markSketch_c (x : Sketch) (cs : List Value) (fp : List Nat) (k : Int) (w : World) (ho : sk.own w x cs fp) (hnd : fp.Nodup) (h0 : 1 ≤ k) (h1 : k + Pl.ctopSketch x ≤ 1000000000000) :
    Calls Try.prog 13 #[.agg cs.toArray, .int .i64 k] w (Mm.MkTop sk Pl.topSketch Pl.ctopSketch w x cs fp k) := by
  obtain ⟨A, n, c, _, rfl, rfl, g0, g1⟩ := sk_own ho
  have hq0 := Mm.cntL_nn (cnt := (Mm.cntL Pl.cnt1)) (Mm.cntL_nn (cnt := Pl.cnt1) (Pl.cnt1_nn)) x.Rows
  have hct : Pl.ctopSketch x = (Mm.cntL (Mm.cntL Pl.cnt1)) x.Rows := rfl
  rw [hct] at h1
  have HCT := Lib.hid hct
  clear hct
  have HND := Lib.hid hnd
  have KB := Lib.hid (Mm.Blk.new w 26 [.slice A n c, .int .i64 x.Total])
  have CH := Lib.hid (Mm.Chg.of_below (fp := fp) (below_new (Below.refl w.heap.size w) (.cells #[.slice A n c, .int .i64 x.Total] 26)))
  have hl0 := g0.olt
  have O0 := Lib.hid (g0.okeep (w' := (w.alloc (.cells #[.slice A n c, .int .i64 x.Total] 26))) fun b hb => Below.heap_alloc _ _ _ (hl0 b hb))
  have L0 := Lib.hid hl0
  clear hl0
  have HS := Lib.hid g1
  clear ho hnd g0 g1
  go_enter Try.func13, Try.ntmps13
  go_wp2_with fail
  refine (markIntSS_c x.Rows _ _ _ _ _ _ O0.out HND.out (by omega) (by omega)).mono ?_
  rintro e v0 ⟨rfl, hch0, fn0, ho0', hnd0', hsub0'⟩
  have CH := Lib.hid (CH.out.trans (hch0.more fun b hb => hb))
  have KB := Lib.hid (KB.out.keep (hch0.block _ KB.out.lt (fun hm => by have := L0.out _ hm; omega)))
  have O0 := Lib.hid ho0'
  have S0 := Lib.hid (And.intro hnd0' hsub0')
  clear hch0 ho0' hnd0' hsub0'
  go_wp2
  go_ret
  refine ⟨ret_int (by have := HCT.out; omega), CH.out, _, sk_own_mk (x := Pl.topSketch x k) O0.out HS.out, ?_, ?_⟩
  · exact S0.out.1
  · intro b hb
    exact (S0.out.2 b hb)
set_option maxHeartbeats 2000000 in
theorem markHeavy_c (x : Heavy) (cs : List Value) (fp : List Nat) (k : Int) (w : World) (ho : rHeavy.own w x cs fp) (hnd : fp.Nodup) (h0 : 1 ≤ k) (h1 : k + Pl.ctopHeavy x ≤ 1000000000000) :
    Calls Try.prog 20 #[.agg cs.toArray, .int .i64 k] w (Mm.MkTop rHeavy Pl.topHeavy Pl.ctopHeavy w x cs fp k) := by
  obtain ⟨A0, n0, c0, A1, n1, c1, f0, f1, rfl, rfl, g0, g1, g2, g3⟩ := rHeavy_own ho
  have hq0 := Mm.cntL_nn (cnt := Pl.cnt1) (Pl.cnt1_nn) x.Names
  have hq1 := Mm.cntL_nn (cnt := Pl.cnt1) (Pl.cnt1_nn) x.Counts
  have hct : Pl.ctopHeavy x = (Mm.cntL Pl.cnt1) x.Names + (Mm.cntL Pl.cnt1) x.Counts := rfl
  rw [hct] at h1
  have HCT := Lib.hid hct
  clear hct
  have HND := Lib.hid hnd
  have KB := Lib.hid (Mm.Blk.new w 38 [.slice A0 n0 c0, .slice A1 n1 c1, .int .i64 x.Gone, .int .i64 x.Total])
  have CH := Lib.hid (Mm.Chg.of_below (fp := f0 ++ f1) (below_new (Below.refl w.heap.size w) (.cells #[.slice A0 n0 c0, .slice A1 n1 c1, .int .i64 x.Gone, .int .i64 x.Total] 38)))
  have hl0 := g0.olt
  have O0 := Lib.hid (g0.okeep (w' := (w.alloc (.cells #[.slice A0 n0 c0, .slice A1 n1 c1, .int .i64 x.Gone, .int .i64 x.Total] 38))) fun b hb => Below.heap_alloc _ _ _ (hl0 b hb))
  have L0 := Lib.hid hl0
  clear hl0
  have hl1 := g1.olt
  have O1 := Lib.hid (g1.okeep (w' := (w.alloc (.cells #[.slice A0 n0 c0, .slice A1 n1 c1, .int .i64 x.Gone, .int .i64 x.Total] 38))) fun b hb => Below.heap_alloc _ _ _ (hl1 b hb))
  have L1 := Lib.hid hl1
  clear hl1
  have D0_1 : Hid (∀ b, b ∈ f0 → b ∉ f1) := fun b hb hm => (List.nodup_append.1 HND.out).2.2 b hb b hm rfl
  have HS := Lib.hid (And.intro g2 g3)
  clear ho hnd g0 g1 g2 g3
  go_enter Try.func20, Try.ntmps20
  go_wp2_with fail
  refine (markStringS_c x.Names _ _ _ _ _ _ O0.out (List.nodup_append.1 HND.out).1 (by omega) (by omega)).mono ?_
  rintro e v0 ⟨rfl, hch0, fn0, ho0', hnd0', hsub0'⟩
  have CH := Lib.hid (CH.out.trans (hch0.more fun b hb => (List.mem_append_left _ hb)))
  have KB := Lib.hid (KB.out.keep (hch0.block _ KB.out.lt (fun hm => by have := L0.out _ hm; omega)))
  have O1 := Lib.hid (O1.out.okeep fun b hb => hch0.block b (O1.out.olt b hb) (fun hm => D0_1.out b hm hb))
  have O0 := Lib.hid ho0'
  have S0 := Lib.hid (And.intro hnd0' hsub0')
  clear hch0 ho0' hnd0' hsub0'
  have e0_1 := KB.out.cell (i := 1) rfl
  go_wp2_with fail
  refine (markIntS_c x.Counts _ _ _ _ _ _ O1.out (List.nodup_append.1 HND.out).2.1 (by omega) (by omega)).mono ?_
  rintro e v1 ⟨rfl, hch1, fn1, ho1', hnd1', hsub1'⟩
  have CH := Lib.hid (CH.out.trans (hch1.more fun b hb => (List.mem_append_right _ hb)))
  have KB := Lib.hid (KB.out.keep (hch1.block _ KB.out.lt (fun hm => by have := L1.out _ hm; omega)))
  have O0 := Lib.hid (O0.out.okeep fun b hb => hch1.block b (O0.out.olt b hb) (fun hm => D0_1.out b (S0.out.2 b hb) hm))
  have O1 := Lib.hid ho1'
  have S1 := Lib.hid (And.intro hnd1' hsub1')
  clear hch1 ho1' hnd1' hsub1'
  go_wp2
  go_ret
  refine ⟨ret_int (by have := HCT.out; omega), CH.out, _, rHeavy_own_mk (x := Pl.topHeavy x k) O0.out O1.out HS.out.1 HS.out.2, ?_, ?_⟩
  · exact (List.nodup_append.2 ⟨S0.out.1, S1.out.1, fun a ha b hb hab => by subst hab; exact D0_1.out a (S0.out.2 a ha) (S1.out.2 a hb)⟩)
  · intro b hb
    rcases List.mem_append.1 hb with hb | hb
    · exact (List.mem_append_left _ (S0.out.2 b hb))
    · exact (List.mem_append_right _ (S1.out.2 b hb))
end Go.Proofs.Ytjmcbggdckfefaa
