/-
  The laws' own markings of whole structs that are owned. No conditions.
-/
import Derived.Test.YtaepohocabealaaWa
import Derived.Test.YtaepohocabealaaTy
import Derived.Test.YtaepohocabealaaQu
import Derived.Test.YtaepohocabealaaHm
import Derived.Lib.Hide
import Derived.Deep.DeepFit
namespace Go.Proofs.Ytaepohocabealaa
open Go.RowKit
attribute [local go_sem] und_cell
set_option maxHeartbeats 2000000 in
theorem markTell_c (x : Tell) (cs : List Value) (fp : List Nat) (k : Int) (w : World) (ho : rTell.own w x cs fp) (hnd : fp.Nodup) (h0 : 1 ≤ k) (h1 : k + Pl.ctopTell x ≤ 1000000000000) :
    Calls Try.prog 37 #[.agg cs.toArray, .int .i64 k] w (Mm.MkTop rTell Pl.topTell Pl.ctopTell w x cs fp k) := by
  obtain ⟨A0, n0, c0, A1, n1, c1, A2, n2, c2, A3, n3, c3, A4, n4, c4, f0, f1, f2, f3, f4, rfl, rfl, g0, g1, g2, g3, g4⟩ := rTell_own ho
  have hq0 := Mm.cntL_nn (cnt := (Mm.cntL Pl.cnt1)) (Mm.cntL_nn (cnt := Pl.cnt1) (Pl.cnt1_nn)) x.Texts
  have hq1 := Mm.cntL_nn (cnt := Pl.cnt1) (Pl.cnt1_nn) x.Heard
  have hq2 := Mm.cntL_nn (cnt := Pl.cntNote) (Pl.cntNote_nn) x.Line
  have hq3 := Mm.cntL_nn (cnt := Pl.cntTold) (Pl.cntTold_nn) x.Log
  have hq4 := Mm.cntL_nn (cnt := Pl.cnt1) (Pl.cnt1_nn) x.Next
  have hct : Pl.ctopTell x = (Mm.cntL (Mm.cntL Pl.cnt1)) x.Texts + (Mm.cntL Pl.cnt1) x.Heard + (Mm.cntL Pl.cntNote) x.Line + (Mm.cntL Pl.cntTold) x.Log + (Mm.cntL Pl.cnt1) x.Next := rfl
  rw [hct] at h1
  have HCT := Lib.hid hct
  clear hct
  have HND := Lib.hid hnd
  have KB := Lib.hid (Mm.Blk.new w 31 [.slice A0 n0 c0, .slice A1 n1 c1, .slice A2 n2 c2, .slice A3 n3 c3, .slice A4 n4 c4])
  have CH := Lib.hid (Mm.Chg.of_below (fp := f0 ++ (f1 ++ (f2 ++ (f3 ++ (f4))))) (below_new (Below.refl w.heap.size w) (.cells #[.slice A0 n0 c0, .slice A1 n1 c1, .slice A2 n2 c2, .slice A3 n3 c3, .slice A4 n4 c4] 31)))
  have hl0 := g0.olt
  have O0 := Lib.hid (g0.okeep (w' := (w.alloc (.cells #[.slice A0 n0 c0, .slice A1 n1 c1, .slice A2 n2 c2, .slice A3 n3 c3, .slice A4 n4 c4] 31))) fun b hb => Below.heap_alloc _ _ _ (hl0 b hb))
  have L0 := Lib.hid hl0
  clear hl0
  have hl1 := g1.olt
  have O1 := Lib.hid (g1.okeep (w' := (w.alloc (.cells #[.slice A0 n0 c0, .slice A1 n1 c1, .slice A2 n2 c2, .slice A3 n3 c3, .slice A4 n4 c4] 31))) fun b hb => Below.heap_alloc _ _ _ (hl1 b hb))
  have L1 := Lib.hid hl1
  clear hl1
  have hl2 := g2.olt
  have O2 := Lib.hid (g2.okeep (w' := (w.alloc (.cells #[.slice A0 n0 c0, .slice A1 n1 c1, .slice A2 n2 c2, .slice A3 n3 c3, .slice A4 n4 c4] 31))) fun b hb => Below.heap_alloc _ _ _ (hl2 b hb))
  have L2 := Lib.hid hl2
  clear hl2
  have hl3 := g3.olt
  have O3 := Lib.hid (g3.okeep (w' := (w.alloc (.cells #[.slice A0 n0 c0, .slice A1 n1 c1, .slice A2 n2 c2, .slice A3 n3 c3, .slice A4 n4 c4] 31))) fun b hb => Below.heap_alloc _ _ _ (hl3 b hb))
  have L3 := Lib.hid hl3
  clear hl3
  have hl4 := g4.olt
  have O4 := Lib.hid (g4.okeep (w' := (w.alloc (.cells #[.slice A0 n0 c0, .slice A1 n1 c1, .slice A2 n2 c2, .slice A3 n3 c3, .slice A4 n4 c4] 31))) fun b hb => Below.heap_alloc _ _ _ (hl4 b hb))
  have L4 := Lib.hid hl4
  clear hl4
  have D0_1 : Hid (∀ b, b ∈ f0 → b ∉ f1) := fun b hb hm => (List.nodup_append.1 HND.out).2.2 b hb b (List.mem_append_left _ hm) rfl
  have D0_2 : Hid (∀ b, b ∈ f0 → b ∉ f2) := fun b hb hm => (List.nodup_append.1 HND.out).2.2 b hb b (List.mem_append_right _ (List.mem_append_left _ hm)) rfl
  have D0_3 : Hid (∀ b, b ∈ f0 → b ∉ f3) := fun b hb hm => (List.nodup_append.1 HND.out).2.2 b hb b (List.mem_append_right _ (List.mem_append_right _ (List.mem_append_left _ hm))) rfl
  have D0_4 : Hid (∀ b, b ∈ f0 → b ∉ f4) := fun b hb hm => (List.nodup_append.1 HND.out).2.2 b hb b (List.mem_append_right _ (List.mem_append_right _ (List.mem_append_right _ hm))) rfl
  have D1_2 : Hid (∀ b, b ∈ f1 → b ∉ f2) := fun b hb hm => (List.nodup_append.1 (List.nodup_append.1 HND.out).2.1).2.2 b hb b (List.mem_append_left _ hm) rfl
  have D1_3 : Hid (∀ b, b ∈ f1 → b ∉ f3) := fun b hb hm => (List.nodup_append.1 (List.nodup_append.1 HND.out).2.1).2.2 b hb b (List.mem_append_right _ (List.mem_append_left _ hm)) rfl
  have D1_4 : Hid (∀ b, b ∈ f1 → b ∉ f4) := fun b hb hm => (List.nodup_append.1 (List.nodup_append.1 HND.out).2.1).2.2 b hb b (List.mem_append_right _ (List.mem_append_right _ hm)) rfl
  have D2_3 : Hid (∀ b, b ∈ f2 → b ∉ f3) := fun b hb hm => (List.nodup_append.1 (List.nodup_append.1 (List.nodup_append.1 HND.out).2.1).2.1).2.2 b hb b (List.mem_append_left _ hm) rfl
  have D2_4 : Hid (∀ b, b ∈ f2 → b ∉ f4) := fun b hb hm => (List.nodup_append.1 (List.nodup_append.1 (List.nodup_append.1 HND.out).2.1).2.1).2.2 b hb b (List.mem_append_right _ hm) rfl
  have D3_4 : Hid (∀ b, b ∈ f3 → b ∉ f4) := fun b hb hm => (List.nodup_append.1 (List.nodup_append.1 (List.nodup_append.1 (List.nodup_append.1 HND.out).2.1).2.1).2.1).2.2 b hb b hm rfl
  clear ho hnd g0 g1 g2 g3 g4
  go_enter Try.func37, Try.ntmps37
  go_wp2_with fail
  refine (markStringSS_c x.Texts _ _ _ _ _ _ O0.out (List.nodup_append.1 HND.out).1 (by omega) (by omega)).mono ?_
  rintro e v0 ⟨rfl, hch0, fn0, ho0', hnd0', hsub0'⟩
  have CH := Lib.hid (CH.out.trans (hch0.more fun b hb => (List.mem_append_left _ hb)))
  have KB := Lib.hid (KB.out.keep (hch0.block _ KB.out.lt (fun hm => by have := L0.out _ hm; omega)))
  have O1 := Lib.hid (O1.out.okeep fun b hb => hch0.block b (O1.out.olt b hb) (fun hm => D0_1.out b hm hb))
  have O2 := Lib.hid (O2.out.okeep fun b hb => hch0.block b (O2.out.olt b hb) (fun hm => D0_2.out b hm hb))
  have O3 := Lib.hid (O3.out.okeep fun b hb => hch0.block b (O3.out.olt b hb) (fun hm => D0_3.out b hm hb))
  have O4 := Lib.hid (O4.out.okeep fun b hb => hch0.block b (O4.out.olt b hb) (fun hm => D0_4.out b hm hb))
  have O0 := Lib.hid ho0'
  have S0 := Lib.hid (And.intro hnd0' hsub0')
  clear hch0 ho0' hnd0' hsub0'
  have e0_1 := KB.out.cell (i := 1) rfl
  have e0_2 := KB.out.cell (i := 2) rfl
  have e0_3 := KB.out.cell (i := 3) rfl
  have e0_4 := KB.out.cell (i := 4) rfl
  go_wp2_with fail
  refine (markIntS_c x.Heard _ _ _ _ _ _ O1.out (List.nodup_append.1 (List.nodup_append.1 HND.out).2.1).1 (by omega) (by omega)).mono ?_
  rintro e v1 ⟨rfl, hch1, fn1, ho1', hnd1', hsub1'⟩
  have CH := Lib.hid (CH.out.trans (hch1.more fun b hb => (List.mem_append_right _ (List.mem_append_left _ hb))))
  have KB := Lib.hid (KB.out.keep (hch1.block _ KB.out.lt (fun hm => by have := L1.out _ hm; omega)))
  have O0 := Lib.hid (O0.out.okeep fun b hb => hch1.block b (O0.out.olt b hb) (fun hm => D0_1.out b (S0.out.2 b hb) hm))
  have O2 := Lib.hid (O2.out.okeep fun b hb => hch1.block b (O2.out.olt b hb) (fun hm => D1_2.out b hm hb))
  have O3 := Lib.hid (O3.out.okeep fun b hb => hch1.block b (O3.out.olt b hb) (fun hm => D1_3.out b hm hb))
  have O4 := Lib.hid (O4.out.okeep fun b hb => hch1.block b (O4.out.olt b hb) (fun hm => D1_4.out b hm hb))
  have O1 := Lib.hid ho1'
  have S1 := Lib.hid (And.intro hnd1' hsub1')
  clear hch1 ho1' hnd1' hsub1'
  have e1_2 := KB.out.cell (i := 2) rfl
  have e1_3 := KB.out.cell (i := 3) rfl
  have e1_4 := KB.out.cell (i := 4) rfl
  go_wp2_with fail
  refine (markNoteS_c x.Line _ _ _ _ _ _ O2.out (List.nodup_append.1 (List.nodup_append.1 (List.nodup_append.1 HND.out).2.1).2.1).1 (by omega) (by omega)).mono ?_
  rintro e v2 ⟨rfl, hch2, fn2, ho2', hnd2', hsub2'⟩
  have CH := Lib.hid (CH.out.trans (hch2.more fun b hb => (List.mem_append_right _ (List.mem_append_right _ (List.mem_append_left _ hb)))))
  have KB := Lib.hid (KB.out.keep (hch2.block _ KB.out.lt (fun hm => by have := L2.out _ hm; omega)))
  have O0 := Lib.hid (O0.out.okeep fun b hb => hch2.block b (O0.out.olt b hb) (fun hm => D0_2.out b (S0.out.2 b hb) hm))
  have O1 := Lib.hid (O1.out.okeep fun b hb => hch2.block b (O1.out.olt b hb) (fun hm => D1_2.out b (S1.out.2 b hb) hm))
  have O3 := Lib.hid (O3.out.okeep fun b hb => hch2.block b (O3.out.olt b hb) (fun hm => D2_3.out b hm hb))
  have O4 := Lib.hid (O4.out.okeep fun b hb => hch2.block b (O4.out.olt b hb) (fun hm => D2_4.out b hm hb))
  have O2 := Lib.hid ho2'
  have S2 := Lib.hid (And.intro hnd2' hsub2')
  clear hch2 ho2' hnd2' hsub2'
  have e2_3 := KB.out.cell (i := 3) rfl
  have e2_4 := KB.out.cell (i := 4) rfl
  go_wp2_with fail
  refine (markToldS_c x.Log _ _ _ _ _ _ O3.out (List.nodup_append.1 (List.nodup_append.1 (List.nodup_append.1 (List.nodup_append.1 HND.out).2.1).2.1).2.1).1 (by omega) (by omega)).mono ?_
  rintro e v3 ⟨rfl, hch3, fn3, ho3', hnd3', hsub3'⟩
  have CH := Lib.hid (CH.out.trans (hch3.more fun b hb => (List.mem_append_right _ (List.mem_append_right _ (List.mem_append_right _ (List.mem_append_left _ hb))))))
  have KB := Lib.hid (KB.out.keep (hch3.block _ KB.out.lt (fun hm => by have := L3.out _ hm; omega)))
  have O0 := Lib.hid (O0.out.okeep fun b hb => hch3.block b (O0.out.olt b hb) (fun hm => D0_3.out b (S0.out.2 b hb) hm))
  have O1 := Lib.hid (O1.out.okeep fun b hb => hch3.block b (O1.out.olt b hb) (fun hm => D1_3.out b (S1.out.2 b hb) hm))
  have O2 := Lib.hid (O2.out.okeep fun b hb => hch3.block b (O2.out.olt b hb) (fun hm => D2_3.out b (S2.out.2 b hb) hm))
  have O4 := Lib.hid (O4.out.okeep fun b hb => hch3.block b (O4.out.olt b hb) (fun hm => D3_4.out b hm hb))
  have O3 := Lib.hid ho3'
  have S3 := Lib.hid (And.intro hnd3' hsub3')
  clear hch3 ho3' hnd3' hsub3'
  have e3_4 := KB.out.cell (i := 4) rfl
  go_wp2_with fail
  refine (markIntS_c x.Next _ _ _ _ _ _ O4.out (List.nodup_append.1 (List.nodup_append.1 (List.nodup_append.1 (List.nodup_append.1 HND.out).2.1).2.1).2.1).2.1 (by omega) (by omega)).mono ?_
  rintro e v4 ⟨rfl, hch4, fn4, ho4', hnd4', hsub4'⟩
  have CH := Lib.hid (CH.out.trans (hch4.more fun b hb => (List.mem_append_right _ (List.mem_append_right _ (List.mem_append_right _ (List.mem_append_right _ hb))))))
  have KB := Lib.hid (KB.out.keep (hch4.block _ KB.out.lt (fun hm => by have := L4.out _ hm; omega)))
  have O0 := Lib.hid (O0.out.okeep fun b hb => hch4.block b (O0.out.olt b hb) (fun hm => D0_4.out b (S0.out.2 b hb) hm))
  have O1 := Lib.hid (O1.out.okeep fun b hb => hch4.block b (O1.out.olt b hb) (fun hm => D1_4.out b (S1.out.2 b hb) hm))
  have O2 := Lib.hid (O2.out.okeep fun b hb => hch4.block b (O2.out.olt b hb) (fun hm => D2_4.out b (S2.out.2 b hb) hm))
  have O3 := Lib.hid (O3.out.okeep fun b hb => hch4.block b (O3.out.olt b hb) (fun hm => D3_4.out b (S3.out.2 b hb) hm))
  have O4 := Lib.hid ho4'
  have S4 := Lib.hid (And.intro hnd4' hsub4')
  clear hch4 ho4' hnd4' hsub4'
  go_wp2
  go_ret
  refine ⟨ret_int (by have := HCT.out; omega), CH.out, _, rTell_own_mk (x := Pl.topTell x k) O0.out O1.out O2.out O3.out O4.out, ?_, ?_⟩
  · exact (List.nodup_append.2 ⟨S0.out.1, (List.nodup_append.2 ⟨S1.out.1, (List.nodup_append.2 ⟨S2.out.1, (List.nodup_append.2 ⟨S3.out.1, S4.out.1, fun a ha b hb hab => by subst hab; exact D3_4.out a (S3.out.2 a ha) (S4.out.2 a hb)⟩), fun a ha b hb hab => by subst hab; exact (List.mem_append.1 hb).elim (fun hb => D2_3.out a (S2.out.2 a ha) (S3.out.2 a hb)) (fun hb => D2_4.out a (S2.out.2 a ha) (S4.out.2 a hb))⟩), fun a ha b hb hab => by subst hab; exact (List.mem_append.1 hb).elim (fun hb => D1_2.out a (S1.out.2 a ha) (S2.out.2 a hb)) (fun hb => (List.mem_append.1 hb).elim (fun hb => D1_3.out a (S1.out.2 a ha) (S3.out.2 a hb)) (fun hb => D1_4.out a (S1.out.2 a ha) (S4.out.2 a hb)))⟩), fun a ha b hb hab => by subst hab; exact (List.mem_append.1 hb).elim (fun hb => D0_1.out a (S0.out.2 a ha) (S1.out.2 a hb)) (fun hb => (List.mem_append.1 hb).elim (fun hb => D0_2.out a (S0.out.2 a ha) (S2.out.2 a hb)) (fun hb => (List.mem_append.1 hb).elim (fun hb => D0_3.out a (S0.out.2 a ha) (S3.out.2 a hb)) (fun hb => D0_4.out a (S0.out.2 a ha) (S4.out.2 a hb))))⟩)
  · intro b hb
    rcases List.mem_append.1 hb with hb | hb
    · exact (List.mem_append_left _ (S0.out.2 b hb))
    · rcases List.mem_append.1 hb with hb | hb
      · exact (List.mem_append_right _ (List.mem_append_left _ (S1.out.2 b hb)))
      · rcases List.mem_append.1 hb with hb | hb
        · exact (List.mem_append_right _ (List.mem_append_right _ (List.mem_append_left _ (S2.out.2 b hb))))
        · rcases List.mem_append.1 hb with hb | hb
          · exact (List.mem_append_right _ (List.mem_append_right _ (List.mem_append_right _ (List.mem_append_left _ (S3.out.2 b hb)))))
          · exact (List.mem_append_right _ (List.mem_append_right _ (List.mem_append_right _ (List.mem_append_right _ (S4.out.2 b hb)))))
end Go.Proofs.Ytaepohocabealaa
