/-
  The laws' own markings of whole structs that are owned. No conditions.
-/
import Derived.Test.YtkedbbaphkcdjaaWa
import Derived.Test.YtkedbbaphkcdjaaTy
import Derived.Test.YtkedbbaphkcdjaaQu
import Derived.Test.YtkedbbaphkcdjaaHm
import Derived.Lib.Hide
import Derived.Deep.DeepFit
namespace Go.Proofs.Ytkedbbaphkcdjaa
open Go.RowKit
attribute [local go_sem] und_cell
set_option maxHeartbeats 2000000 in
theorem markSketch_c (x : Sketch) (cs : List Value) (fp : List Nat) (k : Int) (w : World) (ho : sk.own w x cs fp) (hnd : fp.Nodup) (h0 : 1 ≤ k) (h1 : k + Pl.ctopSketch x ≤ 1000000000000) :
    Calls Try.prog 18 #[.agg cs.toArray, .int .i64 k] w (Mm.MkTop sk Pl.topSketch Pl.ctopSketch w x cs fp k) := by
  obtain ⟨A, n, c, _, rfl, rfl, g0, g1⟩ := sk_own ho
  have hq0 := Mm.cntL_nn (cnt := (Mm.cntL Pl.cnt1)) (Mm.cntL_nn (cnt := Pl.cnt1) (Pl.cnt1_nn)) x.Rows
  have hct : Pl.ctopSketch x = (Mm.cntL (Mm.cntL Pl.cnt1)) x.Rows := rfl
  rw [hct] at h1
  have HCT := Lib.hid hct
  clear hct
  have HND := Lib.hid hnd
  have KB := Lib.hid (Mm.Blk.new w 27 [.slice A n c, .int .i64 x.Total])
  have CH := Lib.hid (Mm.Chg.of_below (fp := fp) (below_new (Below.refl w.heap.size w) (.cells #[.slice A n c, .int .i64 x.Total] 27)))
  have hl0 := g0.olt
  have O0 := Lib.hid (g0.okeep (w' := (w.alloc (.cells #[.slice A n c, .int .i64 x.Total] 27))) fun b hb => Below.heap_alloc _ _ _ (hl0 b hb))
  have L0 := Lib.hid hl0
  clear hl0
  have HS := Lib.hid g1
  clear ho hnd g0 g1
  go_enter Try.func18, Try.ntmps18
  go_wp2_with fail
  refine (markIntSS_c x.Rows _ _ _ _ _ _ O0.out HND.out (by omega) (by omega)).mono ?_
  rintro e v0 ⟨rfl, hch0, fn0, ho0', hnd0', hsub0'⟩
  have CH := Lib.hid (CH.out.trans (hch0.more fun b hb => hb))
  have KB := Lib.hid (KB.out.keep (hch0.block _ KB.out.lt (fun hm => by have := L0.out _ hm; omega)))
  have O0 := Lib.hid ho0'
  have S0 := Lib.hid (And.intro hnd0' hsub0')
  clear hch0 ho0' hnd0' hsub0'
  go_wp2
  go_ret
  refine ⟨ret_int (by have := HCT.out; omega), CH.out, _, sk_own_mk (x := Pl.topSketch x k) O0.out HS.out, ?_, ?_⟩
  · exact S0.out.1
  · intro b hb
    exact (S0.out.2 b hb)
end Go.Proofs.Ytkedbbaphkcdjaa
