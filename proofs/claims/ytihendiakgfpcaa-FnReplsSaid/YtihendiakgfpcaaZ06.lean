/-
  Joined texts, in build order: Ec, Ed, Ee. Each part says what it proves; no conditions beyond those that a part names.
-/
import Derived.Test.YtihendiakgfpcaaZ05
/-
  Contracts: the program's step of a replication: a node is out (chapter 9). No conditions beyond those named.
-/
namespace Go.Proofs.Ytihendiakgfpcaa
open Go.RowKit
attribute [local go_sem] und_cell cha_cell World.cell?_alloc_some
theorem Pl.RS.out {r : Repl} (h : RS r) {k : Int} (hk : k ≠ r.Leader) : RS { r with InSync := outI r.InSync k } :=
  ⟨h.n5, h.lead, Nat.le_trans (List.length_filter_le _ _) h.sync5, fun j hj => h.syncIn j (mem_outI.1 hj).1, mem_outI.2 ⟨h.leadIn, fun e => hk e.symm⟩, h.len⟩
set_option maxRecDepth 100000 in
set_option maxHeartbeats 4000000 in
theorem stepOut_c (r : Repl) (nd : Int) (g : Nat) (fp : List Nat) (w : World) (h : (Mm.tptr rRepl 31 g r fp).holds w) (hnd : (g :: fp).Nodup) (hw : Pl.RW r) (k0 : 0 ≤ nd) (k1 : nd < r.Logs.length) (_hI : Mm.I64 nd) :
    Calls Try.prog 45 #[.pointer (some ⟨g, 0, none⟩), .agg #[.int .i64 3, .int .i64 nd, .string ⟨#[]⟩]] w (RStepAns g fp w (Pl.rstep r ⟨3, nd, ⟨#[]⟩⟩)) := by
  obtain ⟨A0, n0, c0, A1, n1, c1, A2, n2, c2, A3, n3, c3, f0, f1, f2, f3, rfl, i2, i3, hs⟩ := open_Repl (Mm.SepF.one _ w h hnd)
  have hn0 : n0 = r.Logs.length := by obtain ⟨A', n', c', hv, h1, _⟩ := (hs.sl 1 rfl).form; injection hv with _ h2 _; omega
  have hn1 : n1 = r.Logs.length := by obtain ⟨A', n', c', hv, h1, _⟩ := (hs.sl 2 rfl).form; injection hv with _ h2 _; have := hw.down; omega
  have hn2 : n2 = r.InSync.length := by obtain ⟨A', n', c', hv, h1, _⟩ := (hs.sl 3 rfl).form; injection hv with _ h2 _; omega
  have hsn5 := hw.sync5
  have hp5 := hw.n5
  have hp1 := hw.n1
  have l0 : 0 ≤ r.Leader := hw.lead.1
  have l1 : r.Leader < n1 := by have := hw.lead.2; omega
  obtain ⟨g1, rfl, -, -⟩ := Mm.sl_addr (hs.sl 2 rfl) (by have := hw.down; omega)
  have HI := Lib.hid (And.intro i2 i3)
  have HW := Lib.hid hw
  have HDL : Hid (r.Down[r.Leader.toNat]? = some (Pl.downAt r r.Leader)) := Lib.hid (hw.dat l0 hw.lead.2)
  obtain ⟨gs, hgs⟩ : ∃ gs, w.heap.size = gs := ⟨_, rfl⟩
  have HDN : Hid (r.Down[nd.toNat]? = some (Pl.downAt r nd)) := Lib.hid (hw.dat k0 k1)
  obtain ⟨dn, hdn⟩ : ∃ dn, Pl.downAt r nd = dn := ⟨_, rfl⟩
  obtain ⟨dl, hdl⟩ : ∃ dl, Pl.downAt r r.Leader = dl := ⟨_, rfl⟩
  rw [hdn] at HDN
  rw [hdl] at HDL
  have HED := Lib.hid (And.intro hdl hdn)
  clear hdl hdn
  obtain ⟨W0, hW0⟩ : ∃ W0, w.alloc (.cells #[.int .i64 3, .int .i64 nd, .string ⟨#[]⟩] 53) = W0 := ⟨_, rfl⟩
  have HS := Lib.hid ((hs.alloc' hgs 53 [.int .i64 3, .int .i64 nd, .string ⟨#[]⟩]).atW hW0)
  have hn01 : n1 = n0 := by omega
  have HN := Lib.hid (And.intro hn0 (And.intro hn2 hn01))
  have k1' : nd < n0 := by omega
  have k1'' : nd < n1 := by omega
  have hn05 : n0 ≤ 5 := by omega
  have hn25 : n2 ≤ 5 := by omega
  have fw : IntKind.i64.wrap ((n0 : Int) - 1) = (n0 : Int) - 1 := IntWalk.i64_in _ (by omega)
  have hwi : Pl.isIn nd 0 ((n0 : Int) - 1) = true := Pl.isIn_mk k0 (by omega)
  have CW := fun z : Und W0 => und_same z (within_c nd 0 ((n0 : Int) - 1) (und W0 z))
  rw [hwi] at CW
  clear h hs hnd hw hn0 hn1 hn2 i2 i3 hn01 k1
  have b0 := HS.out.cell (k := 0) 0 rfl rfl
  have b1 := HS.out.cell (k := 1) 0 rfl rfl
  have b2 := HS.out.cell (k := 2) 0 rfl rfl
  have d0 := HS.out.cell (k := 0) 1 rfl rfl
  have d1 := HS.out.cell (k := 1) 1 rfl rfl
  have d2 := HS.out.cell (k := 2) 1 rfl rfl
  have d3 := HS.out.cell (k := 3) 1 rfl rfl
  have d4 := HS.out.cell (k := 4) 1 rfl rfl
  have el := bool_ocell (HS.out.sl 3 rfl) (HS.out.ndat (i := 3) rfl) HDL.out
  have en := bool_ocell (HS.out.sl 3 rfl) (HS.out.ndat (i := 3) rfl) HDN.out
  go_enter Try.func45, Try.ntmps45
  go_wp2
  clear hW0
  refine wp_region_und (by kernel_rfl) (by kernel_rfl) ?_
  repeat (go_big_quiet_step ((first | (go_at_call 43; with_reducible exact CW _))))
  refine wpQuiet_nil ?_
  intro X hX
  clear CW
  have HS1 := Lib.hid (HS.out.step hX)
  clear b0 b1 b2 d0 d1 d2 d3 d4 el en
  obtain ⟨X1, rfl⟩ : ∃ q : World, q = X := ⟨_, rfl⟩
  have b0 := HS1.out.cell (k := 0) 0 rfl rfl
  have b1 := HS1.out.cell (k := 1) 0 rfl rfl
  have b2 := HS1.out.cell (k := 2) 0 rfl rfl
  have d0 := HS1.out.cell (k := 0) 1 rfl rfl
  have d1 := HS1.out.cell (k := 1) 1 rfl rfl
  have d2 := HS1.out.cell (k := 2) 1 rfl rfl
  have d3 := HS1.out.cell (k := 3) 1 rfl rfl
  have d4 := HS1.out.cell (k := 4) 1 rfl rfl
  have el := bool_ocell (HS1.out.sl 3 rfl) (HS1.out.ndat (i := 3) rfl) HDL.out
  have en := bool_ocell (HS1.out.sl 3 rfl) (HS1.out.ndat (i := 3) rfl) HDN.out
  clear hX HS
  have CB := fun z : Und X1 => und_same z (bsInt_c r.InSync nd A2 n2 c2 (und X1 z) X1.heap.size (((HS1.out.sl 4 rfl).weak (HS1.out.sl 4 rfl).olt).und (Nat.le_refl _) z) HW.out.sync (by omega))
  obtain ⟨ip, hip⟩ : ∃ ip, Pl.ipos r.InSync nd = ip := ⟨_, rfl⟩
  obtain ⟨ii, hii⟩ : ∃ ii, Pl.hasI r.InSync nd = ii := ⟨_, rfl⟩
  rw [hip, hii] at CB
  have HIP := Lib.hid hip
  have HII := Lib.hid hii
  clear hip hii fw hwi
  go_wp2
  refine wp_region_und (by kernel_rfl) (by kernel_rfl) ?_
  repeat (go_big_quiet_step ((first | (go_at_call 85; with_reducible exact CB _))))
  refine wpQuiet_nil ?_
  intro X hX
  clear CB
  have HS2 := Lib.hid (HS1.out.step hX)
  clear b0 b1 b2 d0 d1 d2 d3 d4 el en
  obtain ⟨X2, rfl⟩ : ∃ q : World, q = X := ⟨_, rfl⟩
  have b0 := HS2.out.cell (k := 0) 0 rfl rfl
  have b1 := HS2.out.cell (k := 1) 0 rfl rfl
  have b2 := HS2.out.cell (k := 2) 0 rfl rfl
  have d0 := HS2.out.cell (k := 0) 1 rfl rfl
  have d1 := HS2.out.cell (k := 1) 1 rfl rfl
  have d2 := HS2.out.cell (k := 2) 1 rfl rfl
  have d3 := HS2.out.cell (k := 3) 1 rfl rfl
  have d4 := HS2.out.cell (k := 4) 1 rfl rfl
  have el := bool_ocell (HS2.out.sl 3 rfl) (HS2.out.ndat (i := 3) rfl) HDL.out
  have en := bool_ocell (HS2.out.sl 3 rfl) (HS2.out.ndat (i := 3) rfl) HDN.out
  clear hX HS1
  go_wp2
  refine wp_region_und (by kernel_rfl) (by kernel_rfl) ?_
  repeat (go_big_quiet_step ((first | fail)))
  refine wpQuiet_nil ?_
  intro X hX
  have HS3 := Lib.hid (HS2.out.step hX)
  clear b0 b1 b2 d0 d1 d2 d3 d4 el en
  obtain ⟨X3, rfl⟩ : ∃ q : World, q = X := ⟨_, rfl⟩
  have b0 := HS3.out.cell (k := 0) 0 rfl rfl
  have b1 := HS3.out.cell (k := 1) 0 rfl rfl
  have b2 := HS3.out.cell (k := 2) 0 rfl rfl
  have d0 := HS3.out.cell (k := 0) 1 rfl rfl
  have d1 := HS3.out.cell (k := 1) 1 rfl rfl
  have d2 := HS3.out.cell (k := 2) 1 rfl rfl
  have d3 := HS3.out.cell (k := 3) 1 rfl rfl
  have d4 := HS3.out.cell (k := 4) 1 rfl rfl
  have el := bool_ocell (HS3.out.sl 3 rfl) (HS3.out.ndat (i := 3) rfl) HDL.out
  have en := bool_ocell (HS3.out.sl 3 rfl) (HS3.out.ndat (i := 3) rfl) HDN.out
  clear hX HS2
  have bad : ¬ (ii = true ∧ nd ≠ r.Leader ∧ dl = false) → Pl.rstep r ⟨3, nd, ⟨#[]⟩⟩ = (r, false) := fun hh => Pl.rstep_no' (by
    unfold Pl.rdo
    dsimp only
    rw [if_neg (show ¬ (3 : Int) = 1 by omega), if_neg (by simp [ByteArray.size]; have := HN.out.1; omega), if_neg (show ¬ (3 : Int) = 2 by omega), if_pos rfl, HII.out, HED.out.1, if_neg hh])
  have BAD := Lib.hid bad
  clear bad
  cases ii with
  | false =>
    have HF := Lib.hid (BAD.out (fun hh => by cases hh.1))
    clear BAD
    go_wp2
    refine wp_region_und (by kernel_rfl) (by kernel_rfl) ?_
    repeat (go_big_quiet_step ((first | fail)))
    refine wpQuiet_nil ?_
    intro X hX
    have HS3' := Lib.hid (HS3.out.step hX)
    clear b0 b1 b2 d0 d1 d2 d3 d4 el en
    obtain ⟨X4, rfl⟩ : ∃ q : World, q = X := ⟨_, rfl⟩
    have b0 := HS3'.out.cell (k := 0) 0 rfl rfl
    have b1 := HS3'.out.cell (k := 1) 0 rfl rfl
    have b2 := HS3'.out.cell (k := 2) 0 rfl rfl
    have d0 := HS3'.out.cell (k := 0) 1 rfl rfl
    have d1 := HS3'.out.cell (k := 1) 1 rfl rfl
    have d2 := HS3'.out.cell (k := 2) 1 rfl rfl
    have d3 := HS3'.out.cell (k := 3) 1 rfl rfl
    have d4 := HS3'.out.cell (k := 4) 1 rfl rfl
    have el := bool_ocell (HS3'.out.sl 3 rfl) (HS3'.out.ndat (i := 3) rfl) HDL.out
    have en := bool_ocell (HS3'.out.sl 3 rfl) (HS3'.out.ndat (i := 3) rfl) HDN.out
    clear hX HS3
    have HS3 := HS3'
    clear HS3'
    obtain ⟨X3, rfl⟩ : ∃ q : World, q = X4 := ⟨_, rfl⟩
    go_wp2
    refine wp_region_und (by kernel_rfl) (by kernel_rfl) ?_
    repeat (go_big_quiet_step ((first | fail)))
    refine wpQuiet_nil ?_
    intro X hX
    have HS3' := Lib.hid (HS3.out.step hX)
    clear b0 b1 b2 d0 d1 d2 d3 d4 el en
    obtain ⟨X4, rfl⟩ : ∃ q : World, q = X := ⟨_, rfl⟩
    have b0 := HS3'.out.cell (k := 0) 0 rfl rfl
    have b1 := HS3'.out.cell (k := 1) 0 rfl rfl
    have b2 := HS3'.out.cell (k := 2) 0 rfl rfl
    have d0 := HS3'.out.cell (k := 0) 1 rfl rfl
    have d1 := HS3'.out.cell (k := 1) 1 rfl rfl
    have d2 := HS3'.out.cell (k := 2) 1 rfl rfl
    have d3 := HS3'.out.cell (k := 3) 1 rfl rfl
    have d4 := HS3'.out.cell (k := 4) 1 rfl rfl
    have el := bool_ocell (HS3'.out.sl 3 rfl) (HS3'.out.ndat (i := 3) rfl) HDL.out
    have en := bool_ocell (HS3'.out.sl 3 rfl) (HS3'.out.ndat (i := 3) rfl) HDN.out
    clear hX HS3
    have HS3 := HS3'
    clear HS3'
    obtain ⟨X3, rfl⟩ : ∃ q : World, q = X4 := ⟨_, rfl⟩
    go_wp2
    refine wp_region_und (by kernel_rfl) (by kernel_rfl) ?_
    repeat (go_big_quiet_step ((first | fail)))
    refine wpQuiet_nil ?_
    intro X hX
    have HS3' := Lib.hid (HS3.out.step hX)
    clear b0 b1 b2 d0 d1 d2 d3 d4 el en
    obtain ⟨X4, rfl⟩ : ∃ q : World, q = X := ⟨_, rfl⟩
    have b0 := HS3'.out.cell (k := 0) 0 rfl rfl
    have b1 := HS3'.out.cell (k := 1) 0 rfl rfl
    have b2 := HS3'.out.cell (k := 2) 0 rfl rfl
    have d0 := HS3'.out.cell (k := 0) 1 rfl rfl
    have d1 := HS3'.out.cell (k := 1) 1 rfl rfl
    have d2 := HS3'.out.cell (k := 2) 1 rfl rfl
    have d3 := HS3'.out.cell (k := 3) 1 rfl rfl
    have d4 := HS3'.out.cell (k := 4) 1 rfl rfl
    have el := bool_ocell (HS3'.out.sl 3 rfl) (HS3'.out.ndat (i := 3) rfl) HDL.out
    have en := bool_ocell (HS3'.out.sl 3 rfl) (HS3'.out.ndat (i := 3) rfl) HDN.out
    clear hX HS3
    have HS3 := HS3'
    clear HS3'
    obtain ⟨X3, rfl⟩ : ∃ q : World, q = X4 := ⟨_, rfl⟩
    go_wp2
    refine wp_region_und (by kernel_rfl) (by kernel_rfl) ?_
    repeat (go_big_quiet_step ((first | fail)))
    refine wpQuiet_nil ?_
    intro X hX
    have HS3' := Lib.hid (HS3.out.step hX)
    clear b0 b1 b2 d0 d1 d2 d3 d4 el en
    obtain ⟨X4, rfl⟩ : ∃ q : World, q = X := ⟨_, rfl⟩
    have b0 := HS3'.out.cell (k := 0) 0 rfl rfl
    have b1 := HS3'.out.cell (k := 1) 0 rfl rfl
    have b2 := HS3'.out.cell (k := 2) 0 rfl rfl
    have d0 := HS3'.out.cell (k := 0) 1 rfl rfl
    have d1 := HS3'.out.cell (k := 1) 1 rfl rfl
    have d2 := HS3'.out.cell (k := 2) 1 rfl rfl
    have d3 := HS3'.out.cell (k := 3) 1 rfl rfl
    have d4 := HS3'.out.cell (k := 4) 1 rfl rfl
    have el := bool_ocell (HS3'.out.sl 3 rfl) (HS3'.out.ndat (i := 3) rfl) HDL.out
    have en := bool_ocell (HS3'.out.sl 3 rfl) (HS3'.out.ndat (i := 3) rfl) HDN.out
    clear hX HS3
    have HS3 := HS3'
    clear HS3'
    obtain ⟨X3, rfl⟩ : ∃ q : World, q = X4 := ⟨_, rfl⟩
    go_wp2
    refine wp_region_und (by kernel_rfl) (by kernel_rfl) ?_
    repeat (go_big_quiet_step ((first | fail)))
    refine wpQuiet_nil ?_
    intro X hX
    have HS3' := Lib.hid (HS3.out.step hX)
    clear b0 b1 b2 d0 d1 d2 d3 d4 el en
    obtain ⟨X4, rfl⟩ : ∃ q : World, q = X := ⟨_, rfl⟩
    have b0 := HS3'.out.cell (k := 0) 0 rfl rfl
    have b1 := HS3'.out.cell (k := 1) 0 rfl rfl
    have b2 := HS3'.out.cell (k := 2) 0 rfl rfl
    have d0 := HS3'.out.cell (k := 0) 1 rfl rfl
    have d1 := HS3'.out.cell (k := 1) 1 rfl rfl
    have d2 := HS3'.out.cell (k := 2) 1 rfl rfl
    have d3 := HS3'.out.cell (k := 3) 1 rfl rfl
    have d4 := HS3'.out.cell (k := 4) 1 rfl rfl
    have el := bool_ocell (HS3'.out.sl 3 rfl) (HS3'.out.ndat (i := 3) rfl) HDL.out
    have en := bool_ocell (HS3'.out.sl 3 rfl) (HS3'.out.ndat (i := 3) rfl) HDN.out
    clear hX HS3
    have HS3 := HS3'
    clear HS3'
    obtain ⟨X3, rfl⟩ : ∃ q : World, q = X4 := ⟨_, rfl⟩
    go_wp2
    exact bodyPost_ret (v := .bool false) (by simp [results, Try.results45, go_sem]) rfl ⟨by rw [HF.out], _, by rw [HF.out]; exact (shut_Repl HS3.out.tail HI.out.1 HI.out.2).left⟩
  | true =>
    by_cases hnl : nd = r.Leader
    · have f1 : (nd != r.Leader) = false := by simpa using hnl
      have HF := Lib.hid (BAD.out (fun hh => hh.2.1 hnl))
      clear BAD hnl
      go_wp2
      refine wp_region_und (by kernel_rfl) (by kernel_rfl) ?_
      repeat (go_big_quiet_step ((first | fail)))
      refine wpQuiet_nil ?_
      intro X hX
      have HS3' := Lib.hid (HS3.out.step hX)
      clear b0 b1 b2 d0 d1 d2 d3 d4 el en
      obtain ⟨X4, rfl⟩ : ∃ q : World, q = X := ⟨_, rfl⟩
      have b0 := HS3'.out.cell (k := 0) 0 rfl rfl
      have b1 := HS3'.out.cell (k := 1) 0 rfl rfl
      have b2 := HS3'.out.cell (k := 2) 0 rfl rfl
      have d0 := HS3'.out.cell (k := 0) 1 rfl rfl
      have d1 := HS3'.out.cell (k := 1) 1 rfl rfl
      have d2 := HS3'.out.cell (k := 2) 1 rfl rfl
      have d3 := HS3'.out.cell (k := 3) 1 rfl rfl
      have d4 := HS3'.out.cell (k := 4) 1 rfl rfl
      have el := bool_ocell (HS3'.out.sl 3 rfl) (HS3'.out.ndat (i := 3) rfl) HDL.out
      have en := bool_ocell (HS3'.out.sl 3 rfl) (HS3'.out.ndat (i := 3) rfl) HDN.out
      clear hX HS3
      have HS3 := HS3'
      clear HS3'
      obtain ⟨X3, rfl⟩ : ∃ q : World, q = X4 := ⟨_, rfl⟩
      go_wp2
      refine wp_region_und (by kernel_rfl) (by kernel_rfl) ?_
      repeat (go_big_quiet_step ((first | fail)))
      refine wpQuiet_nil ?_
      intro X hX
      have HS3' := Lib.hid (HS3.out.step hX)
      clear b0 b1 b2 d0 d1 d2 d3 d4 el en
      obtain ⟨X4, rfl⟩ : ∃ q : World, q = X := ⟨_, rfl⟩
      have b0 := HS3'.out.cell (k := 0) 0 rfl rfl
      have b1 := HS3'.out.cell (k := 1) 0 rfl rfl
      have b2 := HS3'.out.cell (k := 2) 0 rfl rfl
      have d0 := HS3'.out.cell (k := 0) 1 rfl rfl
      have d1 := HS3'.out.cell (k := 1) 1 rfl rfl
      have d2 := HS3'.out.cell (k := 2) 1 rfl rfl
      have d3 := HS3'.out.cell (k := 3) 1 rfl rfl
      have d4 := HS3'.out.cell (k := 4) 1 rfl rfl
      have el := bool_ocell (HS3'.out.sl 3 rfl) (HS3'.out.ndat (i := 3) rfl) HDL.out
      have en := bool_ocell (HS3'.out.sl 3 rfl) (HS3'.out.ndat (i := 3) rfl) HDN.out
      clear hX HS3
      have HS3 := HS3'
      clear HS3'
      obtain ⟨X3, rfl⟩ : ∃ q : World, q = X4 := ⟨_, rfl⟩
      go_wp2
      refine wp_region_und (by kernel_rfl) (by kernel_rfl) ?_
      repeat (go_big_quiet_step ((first | fail)))
      refine wpQuiet_nil ?_
      intro X hX
      have HS3' := Lib.hid (HS3.out.step hX)
      clear b0 b1 b2 d0 d1 d2 d3 d4 el en
      obtain ⟨X4, rfl⟩ : ∃ q : World, q = X := ⟨_, rfl⟩
      have b0 := HS3'.out.cell (k := 0) 0 rfl rfl
      have b1 := HS3'.out.cell (k := 1) 0 rfl rfl
      have b2 := HS3'.out.cell (k := 2) 0 rfl rfl
      have d0 := HS3'.out.cell (k := 0) 1 rfl rfl
      have d1 := HS3'.out.cell (k := 1) 1 rfl rfl
      have d2 := HS3'.out.cell (k := 2) 1 rfl rfl
      have d3 := HS3'.out.cell (k := 3) 1 rfl rfl
      have d4 := HS3'.out.cell (k := 4) 1 rfl rfl
      have el := bool_ocell (HS3'.out.sl 3 rfl) (HS3'.out.ndat (i := 3) rfl) HDL.out
      have en := bool_ocell (HS3'.out.sl 3 rfl) (HS3'.out.ndat (i := 3) rfl) HDN.out
      clear hX HS3
      have HS3 := HS3'
      clear HS3'
      obtain ⟨X3, rfl⟩ : ∃ q : World, q = X4 := ⟨_, rfl⟩
      go_wp2
      refine wp_region_und (by kernel_rfl) (by kernel_rfl) ?_
      repeat (go_big_quiet_step ((first | fail)))
      refine wpQuiet_nil ?_
      intro X hX
      have HS3' := Lib.hid (HS3.out.step hX)
      clear b0 b1 b2 d0 d1 d2 d3 d4 el en
      obtain ⟨X4, rfl⟩ : ∃ q : World, q = X := ⟨_, rfl⟩
      have b0 := HS3'.out.cell (k := 0) 0 rfl rfl
      have b1 := HS3'.out.cell (k := 1) 0 rfl rfl
      have b2 := HS3'.out.cell (k := 2) 0 rfl rfl
      have d0 := HS3'.out.cell (k := 0) 1 rfl rfl
      have d1 := HS3'.out.cell (k := 1) 1 rfl rfl
      have d2 := HS3'.out.cell (k := 2) 1 rfl rfl
      have d3 := HS3'.out.cell (k := 3) 1 rfl rfl
      have d4 := HS3'.out.cell (k := 4) 1 rfl rfl
      have el := bool_ocell (HS3'.out.sl 3 rfl) (HS3'.out.ndat (i := 3) rfl) HDL.out
      have en := bool_ocell (HS3'.out.sl 3 rfl) (HS3'.out.ndat (i := 3) rfl) HDN.out
      clear hX HS3
      have HS3 := HS3'
      clear HS3'
      obtain ⟨X3, rfl⟩ : ∃ q : World, q = X4 := ⟨_, rfl⟩
      go_wp2
      refine wp_region_und (by kernel_rfl) (by kernel_rfl) ?_
      repeat (go_big_quiet_step ((first | fail)))
      refine wpQuiet_nil ?_
      intro X hX
      have HS3' := Lib.hid (HS3.out.step hX)
      clear b0 b1 b2 d0 d1 d2 d3 d4 el en
      obtain ⟨X4, rfl⟩ : ∃ q : World, q = X := ⟨_, rfl⟩
      have b0 := HS3'.out.cell (k := 0) 0 rfl rfl
      have b1 := HS3'.out.cell (k := 1) 0 rfl rfl
      have b2 := HS3'.out.cell (k := 2) 0 rfl rfl
      have d0 := HS3'.out.cell (k := 0) 1 rfl rfl
      have d1 := HS3'.out.cell (k := 1) 1 rfl rfl
      have d2 := HS3'.out.cell (k := 2) 1 rfl rfl
      have d3 := HS3'.out.cell (k := 3) 1 rfl rfl
      have d4 := HS3'.out.cell (k := 4) 1 rfl rfl
      have el := bool_ocell (HS3'.out.sl 3 rfl) (HS3'.out.ndat (i := 3) rfl) HDL.out
      have en := bool_ocell (HS3'.out.sl 3 rfl) (HS3'.out.ndat (i := 3) rfl) HDN.out
      clear hX HS3
      have HS3 := HS3'
      clear HS3'
      obtain ⟨X3, rfl⟩ : ∃ q : World, q = X4 := ⟨_, rfl⟩
      go_wp2
      exact bodyPost_ret (v := .bool false) (by simp [results, Try.results45, go_sem]) rfl ⟨by rw [HF.out], _, by rw [HF.out]; exact (shut_Repl HS3.out.tail HI.out.1 HI.out.2).left⟩
    · have f1 : (nd != r.Leader) = true := by simpa using hnl
      cases dl with
      | true =>
        have HF := Lib.hid (BAD.out (fun hh => by cases hh.2.2))
        clear BAD hnl
        go_wp2
        refine wp_region_und (by kernel_rfl) (by kernel_rfl) ?_
        repeat (go_big_quiet_step ((first | fail)))
        refine wpQuiet_nil ?_
        intro X hX
        have HS3' := Lib.hid (HS3.out.step hX)
        clear b0 b1 b2 d0 d1 d2 d3 d4 el en
        obtain ⟨X4, rfl⟩ : ∃ q : World, q = X := ⟨_, rfl⟩
        have b0 := HS3'.out.cell (k := 0) 0 rfl rfl
        have b1 := HS3'.out.cell (k := 1) 0 rfl rfl
        have b2 := HS3'.out.cell (k := 2) 0 rfl rfl
        have d0 := HS3'.out.cell (k := 0) 1 rfl rfl
        have d1 := HS3'.out.cell (k := 1) 1 rfl rfl
        have d2 := HS3'.out.cell (k := 2) 1 rfl rfl
        have d3 := HS3'.out.cell (k := 3) 1 rfl rfl
        have d4 := HS3'.out.cell (k := 4) 1 rfl rfl
        have el := bool_ocell (HS3'.out.sl 3 rfl) (HS3'.out.ndat (i := 3) rfl) HDL.out
        have en := bool_ocell (HS3'.out.sl 3 rfl) (HS3'.out.ndat (i := 3) rfl) HDN.out
        clear hX HS3
        have HS3 := HS3'
        clear HS3'
        obtain ⟨X3, rfl⟩ : ∃ q : World, q = X4 := ⟨_, rfl⟩
        go_wp2
        refine wp_region_und (by kernel_rfl) (by kernel_rfl) ?_
        repeat (go_big_quiet_step ((first | fail)))
        refine wpQuiet_nil ?_
        intro X hX
        have HS3' := Lib.hid (HS3.out.step hX)
        clear b0 b1 b2 d0 d1 d2 d3 d4 el en
        obtain ⟨X4, rfl⟩ : ∃ q : World, q = X := ⟨_, rfl⟩
        have b0 := HS3'.out.cell (k := 0) 0 rfl rfl
        have b1 := HS3'.out.cell (k := 1) 0 rfl rfl
        have b2 := HS3'.out.cell (k := 2) 0 rfl rfl
        have d0 := HS3'.out.cell (k := 0) 1 rfl rfl
        have d1 := HS3'.out.cell (k := 1) 1 rfl rfl
        have d2 := HS3'.out.cell (k := 2) 1 rfl rfl
        have d3 := HS3'.out.cell (k := 3) 1 rfl rfl
        have d4 := HS3'.out.cell (k := 4) 1 rfl rfl
        have el := bool_ocell (HS3'.out.sl 3 rfl) (HS3'.out.ndat (i := 3) rfl) HDL.out
        have en := bool_ocell (HS3'.out.sl 3 rfl) (HS3'.out.ndat (i := 3) rfl) HDN.out
        clear hX HS3
        have HS3 := HS3'
        clear HS3'
        obtain ⟨X3, rfl⟩ : ∃ q : World, q = X4 := ⟨_, rfl⟩
        go_wp2
        refine wp_region_und (by kernel_rfl) (by kernel_rfl) ?_
        repeat (go_big_quiet_step ((first | fail)))
        refine wpQuiet_nil ?_
        intro X hX
        have HS3' := Lib.hid (HS3.out.step hX)
        clear b0 b1 b2 d0 d1 d2 d3 d4 el en
        obtain ⟨X4, rfl⟩ : ∃ q : World, q = X := ⟨_, rfl⟩
        have b0 := HS3'.out.cell (k := 0) 0 rfl rfl
        have b1 := HS3'.out.cell (k := 1) 0 rfl rfl
        have b2 := HS3'.out.cell (k := 2) 0 rfl rfl
        have d0 := HS3'.out.cell (k := 0) 1 rfl rfl
        have d1 := HS3'.out.cell (k := 1) 1 rfl rfl
        have d2 := HS3'.out.cell (k := 2) 1 rfl rfl
        have d3 := HS3'.out.cell (k := 3) 1 rfl rfl
        have d4 := HS3'.out.cell (k := 4) 1 rfl rfl
        have el := bool_ocell (HS3'.out.sl 3 rfl) (HS3'.out.ndat (i := 3) rfl) HDL.out
        have en := bool_ocell (HS3'.out.sl 3 rfl) (HS3'.out.ndat (i := 3) rfl) HDN.out
        clear hX HS3
        have HS3 := HS3'
        clear HS3'
        obtain ⟨X3, rfl⟩ : ∃ q : World, q = X4 := ⟨_, rfl⟩
        go_wp2
        refine wp_region_und (by kernel_rfl) (by kernel_rfl) ?_
        repeat (go_big_quiet_step ((first | fail)))
        refine wpQuiet_nil ?_
        intro X hX
        have HS3' := Lib.hid (HS3.out.step hX)
        clear b0 b1 b2 d0 d1 d2 d3 d4 el en
        obtain ⟨X4, rfl⟩ : ∃ q : World, q = X := ⟨_, rfl⟩
        have b0 := HS3'.out.cell (k := 0) 0 rfl rfl
        have b1 := HS3'.out.cell (k := 1) 0 rfl rfl
        have b2 := HS3'.out.cell (k := 2) 0 rfl rfl
        have d0 := HS3'.out.cell (k := 0) 1 rfl rfl
        have d1 := HS3'.out.cell (k := 1) 1 rfl rfl
        have d2 := HS3'.out.cell (k := 2) 1 rfl rfl
        have d3 := HS3'.out.cell (k := 3) 1 rfl rfl
        have d4 := HS3'.out.cell (k := 4) 1 rfl rfl
        have el := bool_ocell (HS3'.out.sl 3 rfl) (HS3'.out.ndat (i := 3) rfl) HDL.out
        have en := bool_ocell (HS3'.out.sl 3 rfl) (HS3'.out.ndat (i := 3) rfl) HDN.out
        clear hX HS3
        have HS3 := HS3'
        clear HS3'
        obtain ⟨X3, rfl⟩ : ∃ q : World, q = X4 := ⟨_, rfl⟩
        go_wp2
        refine wp_region_und (by kernel_rfl) (by kernel_rfl) ?_
        repeat (go_big_quiet_step ((first | fail)))
        refine wpQuiet_nil ?_
        intro X hX
        have HS3' := Lib.hid (HS3.out.step hX)
        clear b0 b1 b2 d0 d1 d2 d3 d4 el en
        obtain ⟨X4, rfl⟩ : ∃ q : World, q = X := ⟨_, rfl⟩
        have b0 := HS3'.out.cell (k := 0) 0 rfl rfl
        have b1 := HS3'.out.cell (k := 1) 0 rfl rfl
        have b2 := HS3'.out.cell (k := 2) 0 rfl rfl
        have d0 := HS3'.out.cell (k := 0) 1 rfl rfl
        have d1 := HS3'.out.cell (k := 1) 1 rfl rfl
        have d2 := HS3'.out.cell (k := 2) 1 rfl rfl
        have d3 := HS3'.out.cell (k := 3) 1 rfl rfl
        have d4 := HS3'.out.cell (k := 4) 1 rfl rfl
        have el := bool_ocell (HS3'.out.sl 3 rfl) (HS3'.out.ndat (i := 3) rfl) HDL.out
        have en := bool_ocell (HS3'.out.sl 3 rfl) (HS3'.out.ndat (i := 3) rfl) HDN.out
        clear hX HS3
        have HS3 := HS3'
        clear HS3'
        obtain ⟨X3, rfl⟩ : ∃ q : World, q = X4 := ⟨_, rfl⟩
        go_wp2
        exact bodyPost_ret (v := .bool false) (by simp [results, Try.results45, go_sem]) rfl ⟨by rw [HF.out], _, by rw [HF.out]; exact (shut_Repl HS3.out.tail HI.out.1 HI.out.2).left⟩
      | false =>
        have hdo : Pl.rdo r ⟨3, nd, ⟨#[]⟩⟩ = ({ r with InSync := Pl.outI r.InSync nd }, true) := by
          unfold Pl.rdo
          dsimp only
          rw [if_neg (show ¬ (3 : Int) = 1 by omega), if_neg (by simp [ByteArray.size]; have := HN.out.1; omega), if_neg (show ¬ (3 : Int) = 2 by omega), if_pos rfl, HII.out, HED.out.1, if_pos ⟨rfl, hnl, rfl⟩]
        have HC := Lib.hid (Pl.rstep_yes hdo)
        clear hdo
        have HRS : Hid (Pl.RS { r with InSync := Pl.outI r.InSync nd }) := Lib.hid (Pl.RS.out HW.out.rs hnl)
        clear BAD hnl
        go_wp2
        refine wp_region_und (by kernel_rfl) (by kernel_rfl) ?_
        repeat (go_big_quiet_step ((first | fail)))
        refine wpQuiet_nil ?_
        intro X hX
        have HS3' := Lib.hid (HS3.out.step hX)
        clear b0 b1 b2 d0 d1 d2 d3 d4 el en
        obtain ⟨X4, rfl⟩ : ∃ q : World, q = X := ⟨_, rfl⟩
        have b0 := HS3'.out.cell (k := 0) 0 rfl rfl
        have b1 := HS3'.out.cell (k := 1) 0 rfl rfl
        have b2 := HS3'.out.cell (k := 2) 0 rfl rfl
        have d0 := HS3'.out.cell (k := 0) 1 rfl rfl
        have d1 := HS3'.out.cell (k := 1) 1 rfl rfl
        have d2 := HS3'.out.cell (k := 2) 1 rfl rfl
        have d3 := HS3'.out.cell (k := 3) 1 rfl rfl
        have d4 := HS3'.out.cell (k := 4) 1 rfl rfl
        have el := bool_ocell (HS3'.out.sl 3 rfl) (HS3'.out.ndat (i := 3) rfl) HDL.out
        have en := bool_ocell (HS3'.out.sl 3 rfl) (HS3'.out.ndat (i := 3) rfl) HDN.out
        clear hX HS3
        have HS3 := HS3'
        clear HS3'
        obtain ⟨X3, rfl⟩ : ∃ q : World, q = X4 := ⟨_, rfl⟩
        go_wp2
        refine wp_region_und (by kernel_rfl) (by kernel_rfl) ?_
        repeat (go_big_quiet_step ((first | fail)))
        refine wpQuiet_nil ?_
        intro X hX
        have HS3' := Lib.hid (HS3.out.step hX)
        clear b0 b1 b2 d0 d1 d2 d3 d4 el en
        obtain ⟨X4, rfl⟩ : ∃ q : World, q = X := ⟨_, rfl⟩
        have b0 := HS3'.out.cell (k := 0) 0 rfl rfl
        have b1 := HS3'.out.cell (k := 1) 0 rfl rfl
        have b2 := HS3'.out.cell (k := 2) 0 rfl rfl
        have d0 := HS3'.out.cell (k := 0) 1 rfl rfl
        have d1 := HS3'.out.cell (k := 1) 1 rfl rfl
        have d2 := HS3'.out.cell (k := 2) 1 rfl rfl
        have d3 := HS3'.out.cell (k := 3) 1 rfl rfl
        have d4 := HS3'.out.cell (k := 4) 1 rfl rfl
        have el := bool_ocell (HS3'.out.sl 3 rfl) (HS3'.out.ndat (i := 3) rfl) HDL.out
        have en := bool_ocell (HS3'.out.sl 3 rfl) (HS3'.out.ndat (i := 3) rfl) HDN.out
        clear hX HS3
        have HS3 := HS3'
        clear HS3'
        obtain ⟨X3, rfl⟩ : ∃ q : World, q = X4 := ⟨_, rfl⟩
        have hmem := Pl.hasI_iff.1 HII.out
        have hip := (Pl.mem_ipos HW.out.sync).1 hmem
        rw [HIP.out] at hip
        have hipn : ip < n2 := by have := (List.getElem?_eq_some_iff.1 hip).1; have := HN.out.2.1; omega
        have HO := Lib.hid (Pl.outI_at HW.out.sync hmem)
        rw [HIP.out] at HO
        obtain ⟨gS, rfl, -, -⟩ := Mm.sl_addr (HS3.out.sl 4 rfl) (by have := HN.out.2.1; omega)
        have hcap : n2 ≤ c2 ∧ c2 ≤ 9223372036854775807 := by obtain ⟨A', n', c', hv, h1, h2, h3, _⟩ := (HS3.out.sl 4 rfl).form; injection hv with _ h4 h5; unfold maxLen at h3; omega
        have CD := delInt_c r.InSync gS n2 c2 ip f2 X3 (HS3.out.sl 4 rfl) hipn (by omega)
        rw [show ((ip + 1 : Nat) : Int) = (ip : Int) + 1 by omega] at CD
        have g1' : IntKind.i64.wrap ((ip : Int) + 1) = (ip : Int) + 1 := IntWalk.i64_in _ (by omega)
        clear hmem hip
        go_wp2_with fail
        refine CD.mono ?_
        rintro e w5 ⟨rfl, q1, q2⟩
        have HS5 := Lib.hid (HS3.out.upd (i := 4) (t := Mm.tsl Mm.int 3 r.InSync (.slice (some ⟨gS, 0, none⟩) n2 c2) f2) (t' := Mm.tsl Mm.int 3 (r.InSync.eraseIdx ip) (.slice (some ⟨gS, 0, none⟩) (n2 - 1) c2) f2) rfl q1 q2 (HS3.out.ndat (i := 4) (t := Mm.tsl Mm.int 3 r.InSync (.slice (some ⟨gS, 0, none⟩) n2 c2) f2) rfl) (fun b hb => .inl hb))
        clear q1 q2
        have y4 := HS5.out.cell (k := 4) 1 rfl rfl
        have z4 := HS5.out.frz (k := 4) 1 rfl
        go_upto_region 23 with fail
        rw [HO.out] at HS5
        have HS6 : Hid (Mm.SepF _ w _ [_, _, _, _, _, _]) := Lib.hid (HS5.out.setBlk (k := 4) 1 rfl (.slice (some ⟨gS, 0, none⟩) (n2 - 1) c2))
        have HT := Lib.hid (shut_Repl (x := { r with InSync := Pl.outI r.InSync nd }) HS6.out.tail HI.out.1 HI.out.2)
        clear HS3 HS5 HS6 y4 z4
        clear b0 b1 b2 d0 d1 d2 d3 d4 el en
        obtain ⟨XT, hXT⟩ : ∃ XT, w5.setCell ⟨g, 4, none⟩ (.slice (some ⟨gS, 0, none⟩) (n2 - 1) c2) = XT := ⟨_, rfl⟩
        rw [hXT] at HT ⊢
        clear hXT
        obtain ⟨x, hx⟩ : ∃ x : Repl, { r with InSync := Pl.outI r.InSync nd } = x := ⟨_, rfl⟩
        rw [hx] at HT HRS HC
        clear hx
        obtain ⟨csx, hbk, hown⟩ := HT.out.at_ 0 rfl
        have CC := certain_c x g csx XT XT.heap.size hbk (rRepl.weak hown (rRepl.olt hown)) (Nat.le_refl _) HRS.out
        obtain ⟨cn, hcn⟩ : ∃ cn, Pl.certain x = cn := ⟨_, rfl⟩
        rw [hcn] at CC
        have HCN := Lib.hid hcn
        have hcl := Pl.certain_le x
        have hcl4 := HRS.out.len' x.Leader
        rw [hcn] at hcl
        clear hcn hbk hown
        go_upto_region 24 with (go_at_call 51; (with_reducible refine CC.mono ?_); clear CC; rintro e w7 ⟨rfl, hb7⟩; (have HT2 := Lib.hid (HT.out.step hb7)); clear hb7)
        clear HT
        obtain ⟨A0, n0, c0, A1, n1, c1, A2, n2, c2, A3, n3, c3, q0, q1, q2, q3, hfq, j2, j3, hq⟩ := open_Repl HT2.out
        have HJ := Lib.hid (And.intro j2 j3)
        have HQ := Lib.hid hq
        have hq3 : n3 = x.Certain.length := by obtain ⟨A', n', c', hv, h1, _⟩ := (hq.sl 4 rfl).form; injection hv with _ h2 _; omega
        have hq0 : n0 = x.Logs.length := by obtain ⟨A', n', c', hv, h1, _⟩ := (hq.sl 1 rfl).form; injection hv with _ h2 _; omega
        have HQ3 := Lib.hid hq3
        have hd0 := hq.cell (k := 0) 0 rfl rfl
        have hd2 := hq.cell (k := 2) 0 rfl rfl
        have hd5 := hq.cell (k := 5) 0 rfl rfl
        have ll0 := HRS.out.lead.1
        have ll1 : x.Leader < n0 := by have := HRS.out.lead.2; omega
        obtain ⟨g0', rfl, -, -⟩ := Mm.sl_addr (hq.sl 1 rfl) (by omega)
        obtain ⟨AL, nL, cL, _, hlL, eL⟩ := log_at' ((hq.sl 1 rfl).weak (hq.sl 1 rfl).olt) ll0 ll1
        simp only [Nat.zero_add] at eL
        have HLL := Lib.hid hlL
        have hnL : (Pl.logAt x x.Leader).length = nL := hlL.1
        have hnLc : nL ≤ cL ∧ cL ≤ 9223372036854775807 := by have h1 := hlL.2.1; have h2 := hlL.2.2.1; unfold maxLen at h2; omega
        rw [hnL] at hcl hcl4
        clear hq hq3 hq0 hfq j2 j3 hlL hnL HT2
        by_cases hct : n3 < cn
        · have HE : Hid (Pl.rstep r ⟨3,nd,⟨#[]⟩⟩ = ({ x with Certain := (Pl.logAt x x.Leader).take cn }, true)) := Lib.hid (by rw [HC.out, Pl.rcert_lt (by rw [HCN.out, ← HQ3.out]; exact hct), HCN.out])
          have f1 : (n3 : Int) < (cn : Nat) := by omega
          have f2 : (0 : Int) ≤ (cn : Nat) := by omega
          have f3 : ((cn : Nat) : Int).toNat = cn := by omega
          have f4 : (cn : Int) ≤ (nL : Nat) := by omega
          have f5 : (cn : Int) ≤ (cL : Nat) := by omega
          have f6 : cn ≤ cL := by omega
          have HTK := Lib.hid (HLL.out.take (show cn ≤ nL by omega))
          go_wp2
          refine Mm.wp_region_give 16 (fun i => match i with | 13 => some (Mm.gSl rEntry 111 ((Pl.logAt x x.Leader).take cn)) | _ => none) (fun _ => []) (fun _ => []) (F := []) (D := fun w' => ∃ z : Und w7, w' = und w7 z) (fun X us h => Mm.sep_und h) (by kernel_rfl) (by kernel_rfl) (by kernel_rfl) (Mm.SepF.startDrew _) ?_
          repeat (refine Mm.give_det (by rfl) (by rfl) (by rfl) (fun K hK => ?_); go_big_quiet_op; refine hK _ ?_; clear hK K)
          refine Mm.give_op0 301 (by rfl) rfl (by rfl) (by rfl) (by rfl) (by rfl) Mm.gSl_in (fun others X8 hX8 => ?_) ?_
          · go_wp2_with (go_at_call 90; (with_reducible refine (clEnt_c ((Pl.logAt x x.Leader).take cn) AL cn cL X8 w7.heap.size (HTK.out.keep (w' := X8) fun b hb => hX8.bel0.block b hb) (by omega)).mono ?_); rintro e w5 ⟨A', n', c', fp', rfl, ho, hnd', hnew, hb5⟩)
            exact Mm.gvq_sl hX8 hb5 ho hnd' hnew rfl rfl
          rintro v ds ⟨A', n', c', fp', rfl, rfl, hn'⟩
          simp only [Act.put, List.setIfInBounds_toArray, List.set_cons_succ, List.set_cons_zero]
          repeat (refine Mm.give_det (by rfl) (by rfl) (by rfl) (fun K hK => ?_); go_big_quiet_op; refine hK _ ?_; clear hK K)
          refine Mm.give_nil ?_
          rintro X4 hX4
          have HS4 := Lib.hid (HQ.out.join (us := [Mm.tsl rEntry 111 ((Pl.logAt x x.Leader).take cn) (.slice A' n' c') fp']) hX4)
          clear hX4 hd0 hd2 hd5 eL
          have z5 := HS4.out.frz (k := 5) 1 rfl
          have z6 := HS4.out.cell (k := 5) 1 rfl rfl
          have HS5 : Hid (Mm.SepF _ w _ [_, _, _, _, _, _]) := Lib.hid (HS4.out.setBlk (k := 5) 1 rfl (.slice A' n' c'))
          go_wp2
          exact bodyPost_ret (v := .bool true) (by simp [results, Try.results45, go_sem]) rfl ⟨by rw [HE.out], _, by rw [HE.out]; exact (shut_Repl (x := { x with Certain := (Pl.logAt x x.Leader).take cn }) (HS5.out.sel [1, 2, 3, 4, 0] (by decide) rfl) HJ.out.1 HJ.out.2).left⟩
        · have HE : Hid (Pl.rstep r ⟨3,nd,⟨#[]⟩⟩ = (x, true)) := Lib.hid (by rw [HC.out, Pl.rcert_ge (by rw [HCN.out, ← HQ3.out]; exact hct)])
          have f1 : ¬ (n3 : Int) < (cn : Nat) := by omega
          go_wp2
          exact bodyPost_ret (v := .bool true) (by simp [results, Try.results45, go_sem]) rfl ⟨by rw [HE.out], _, by rw [HE.out]; exact (shut_Repl HQ.out HJ.out.1 HJ.out.2).left⟩
end Go.Proofs.Ytihendiakgfpcaa

/-
  Contracts: the program's step of a replication: a node is in again (chapter 9). No conditions beyond those named.
-/
namespace Go.Proofs.Ytihendiakgfpcaa
open Go.RowKit
attribute [local go_sem] und_cell cha_cell World.cell?_alloc_some
theorem Pl.insI_len (l : List Int) (k : Int) : (insI l k).length ≤ l.length + 1 := by
  unfold insI
  rw [List.length_append, List.length_cons]
  have h : ∀ m : List Int, (m.filter (fun x => decide (x < k))).length + (m.filter (fun x => decide (k < x))).length ≤ m.length := by
    intro m
    induction m with
    | nil => simp
    | cons a t ih =>
      by_cases h1 : a < k
      · rw [List.filter_cons_of_pos (by simpa using h1), List.filter_cons_of_neg (by simp; omega)]; simp only [List.length_cons]; omega
      · rw [List.filter_cons_of_neg (by simpa using h1)]
        by_cases h2 : k < a
        · rw [List.filter_cons_of_pos (by simpa using h2)]; simp only [List.length_cons]; omega
        · rw [List.filter_cons_of_neg (by simpa using h2)]; simp only [List.length_cons]; omega
  have := h l
  omega
theorem Pl.RS.in_ {r : Repl} (h : RS r) (h5 : r.InSync.length ≤ 5) {k : Int} (h0 : 0 ≤ k) (h1 : k < r.Logs.length) : RS { r with InSync := insI r.InSync k } := by
  refine ⟨h.n5, h.lead, by have := insI_len r.InSync k; show (insI r.InSync k).length ≤ 1000; omega, fun j hj => ?_, mem_insI.2 ?_, h.len⟩
  · rcases mem_insI.1 hj with rfl | hj
    · exact ⟨h0, h1⟩
    · exact h.syncIn j hj.1
  · by_cases e : r.Leader = k
    · exact .inl e
    · exact .inr ⟨h.leadIn, e⟩
/-- slices.Insert of one number, the slice and the number's block things of the call -/
theorem insSl_c {F : List Nat} {w0 W : World} {ts : List Mm.Thing} {i j n c vb k : Nat} {A : Option Addr} {xs : List Int} {x : Int} {fp : List Nat} (h : Mm.SepF F w0 W ts) (hij : i ≠ j) (hi : ts[i]? = some (Mm.tsl Mm.int 3 xs (.slice A n c) fp)) (hj : ts[j]? = some (Mm.tblk vb 3 [.int .i64 x])) (hk : k ≤ n) (hn : n ≤ 1000) (hx : Mm.I64 x) :
    Calls Try.prog 89 #[.slice A n c, .int .i64 k, .slice (some ⟨vb, 0, none⟩) 1 1] W fun e w' => ∃ A' n' c' fp', e = .returned (.slice A' n' c') ∧ n' = n + 1 ∧ Mm.SepF F w0 w' (ts.set i (Mm.tsl Mm.int 3 (xs.take k ++ x :: xs.drop k) (.slice A' n' c') fp')) := by
  have hs : Mm.SlOwn Mm.int 3 W xs (.slice A n c) fp := h.at_ i hi
  have hb : Mm.Blk W vb 3 [.int .i64 x] := h.at_ j hj
  obtain ⟨ho, hfp, hown⟩ := Mm.flat1_int.owns hs
  obtain ⟨_, _, _, hv, hnl, _⟩ := hs.form
  injection hv with e1 e2 e3
  subst e1 e2 e3
  rw [← hnl] at ho
  refine (insInt_c (xs.map fun x => .int .i64 x) [.int .i64 x] n k vb A c W ho hk hn rfl (fun t u hu => hb.cell hu) (fun u hu => by rw [List.mem_singleton.1 hu]; rfl) (fun u hu => by obtain ⟨y, _, rfl⟩ := List.mem_map.1 hu; rfl)
    (fun g hg => ?_) (Mm.shape_blk hb) (fun j => hb.frozen j) hb.lt).mono ?_
  · subst hg
    intro e
    exact h.apart hi hj hij vb (by show vb ∈ fp; rw [e]; exact hs.mem_block) (by simp [Mm.tblk])
  · rintro e w' ⟨A', n', c', rfl, h1, h2, h3⟩
    have e5 : (xs.map fun x => Value.int .i64 x).take k ++ ([.int .i64 x] ++ (xs.map fun x => Value.int .i64 x).drop k) = (xs.take k ++ x :: xs.drop k).map fun x => Value.int .i64 x := by
      rw [List.map_append, List.map_cons, List.map_take, List.map_drop]; rfl
    rw [e5] at h1
    have hlen : (xs.take k ++ x :: xs.drop k).length = n + 1 := by rw [List.length_append, List.length_cons, List.length_take, List.length_drop]; omega
    have hE : ∀ y, y ∈ xs.take k ++ x :: xs.drop k → Mm.int.own w' y [.int .i64 y] [] := fun y hy => by
      rcases List.mem_append.1 hy with hy | hy
      · exact hown y (List.mem_of_mem_take hy) w'
      · rcases List.mem_cons.1 hy with rfl | hy
        · exact ⟨rfl, hx, rfl⟩
        · exact hown y (List.mem_of_mem_drop hy) w'
    have hso := Mm.flat1_int.row (by rw [hlen]; exact h1) hE
    obtain ⟨_, _, _, hv2, hn2, _⟩ := hso.form
    injection hv2 with _ e7 _
    refine ⟨A', n', c', _, rfl, by rw [e7, hn2, hlen], h.upd hi ?_ (t' := Mm.tsl Mm.int 3 (xs.take k ++ x :: xs.drop k) (.slice A' n' c') _) hso (by simp only [Mm.tsl]; cases (Value.slice A' n' c').ownBlock <;> simp) (fun b hb' => ?_)⟩
    · exact Mm.Chg.mk h2.os h2.tape h2.output h2.size fun b hb hn => h2.block b hb (fun hh => hn (Mm.row_in hs hh.symm))
    · simp only [Mm.tsl, Option.mem_toList] at hb'
      rcases h3 with h3 | h3
      · rw [h3] at hb'; exact .inl (Mm.row_in hs (by rw [Option.mem_def.1 hb']))
      · rw [h3] at hb'; injection hb' with hb'; exact .inr (by omega)
set_option maxRecDepth 100000 in
set_option maxHeartbeats 4000000 in
theorem stepIn_c (r : Repl) (nd : Int) (g : Nat) (fp : List Nat) (w : World) (h : (Mm.tptr rRepl 31 g r fp).holds w) (hnd : (g :: fp).Nodup) (hw : Pl.RW r) (k0 : 0 ≤ nd) (k1 : nd < r.Logs.length) (hI : Mm.I64 nd) :
    Calls Try.prog 45 #[.pointer (some ⟨g, 0, none⟩), .agg #[.int .i64 4, .int .i64 nd, .string ⟨#[]⟩]] w (RStepAns g fp w (Pl.rstep r ⟨4, nd, ⟨#[]⟩⟩)) := by
  obtain ⟨A0, n0, c0, A1, n1, c1, A2, n2, c2, A3, n3, c3, f0, f1, f2, f3, rfl, i2, i3, hs⟩ := open_Repl (Mm.SepF.one _ w h hnd)
  have hn0 : n0 = r.Logs.length := by obtain ⟨A', n', c', hv, h1, _⟩ := (hs.sl 1 rfl).form; injection hv with _ h2 _; omega
  have hn1 : n1 = r.Logs.length := by obtain ⟨A', n', c', hv, h1, _⟩ := (hs.sl 2 rfl).form; injection hv with _ h2 _; have := hw.down; omega
  have hn2 : n2 = r.InSync.length := by obtain ⟨A', n', c', hv, h1, _⟩ := (hs.sl 3 rfl).form; injection hv with _ h2 _; omega
  have hsn5 := hw.sync5
  have hp5 := hw.n5
  have hp1 := hw.n1
  have l0 : 0 ≤ r.Leader := hw.lead.1
  have l1 : r.Leader < n1 := by have := hw.lead.2; omega
  obtain ⟨g1, rfl, -, -⟩ := Mm.sl_addr (hs.sl 2 rfl) (by have := hw.down; omega)
  have HI := Lib.hid (And.intro i2 i3)
  have HW := Lib.hid hw
  have HDL : Hid (r.Down[r.Leader.toNat]? = some (Pl.downAt r r.Leader)) := Lib.hid (hw.dat l0 hw.lead.2)
  obtain ⟨gs, hgs⟩ : ∃ gs, w.heap.size = gs := ⟨_, rfl⟩
  have HDN : Hid (r.Down[nd.toNat]? = some (Pl.downAt r nd)) := Lib.hid (hw.dat k0 k1)
  obtain ⟨dn, hdn⟩ : ∃ dn, Pl.downAt r nd = dn := ⟨_, rfl⟩
  obtain ⟨dl, hdl⟩ : ∃ dl, Pl.downAt r r.Leader = dl := ⟨_, rfl⟩
  rw [hdn] at HDN
  rw [hdl] at HDL
  have HED := Lib.hid (And.intro hdl hdn)
  clear hdl hdn
  obtain ⟨W0, hW0⟩ : ∃ W0, w.alloc (.cells #[.int .i64 4, .int .i64 nd, .string ⟨#[]⟩] 53) = W0 := ⟨_, rfl⟩
  have HS := Lib.hid ((hs.alloc' hgs 53 [.int .i64 4, .int .i64 nd, .string ⟨#[]⟩]).atW hW0)
  have hn01 : n1 = n0 := by omega
  have HN := Lib.hid (And.intro hn0 (And.intro hn2 hn01))
  have k1' : nd < n0 := by omega
  have k1'' : nd < n1 := by omega
  have hn05 : n0 ≤ 5 := by omega
  have hn25 : n2 ≤ 5 := by omega
  have fw : IntKind.i64.wrap ((n0 : Int) - 1) = (n0 : Int) - 1 := IntWalk.i64_in _ (by omega)
  have hwi : Pl.isIn nd 0 ((n0 : Int) - 1) = true := Pl.isIn_mk k0 (by omega)
  have CW := fun z : Und W0 => und_same z (within_c nd 0 ((n0 : Int) - 1) (und W0 z))
  rw [hwi] at CW
  clear h hs hnd hw hn0 hn1 hn2 i2 i3 hn01 k1
  have b0 := HS.out.cell (k := 0) 0 rfl rfl
  have b1 := HS.out.cell (k := 1) 0 rfl rfl
  have b2 := HS.out.cell (k := 2) 0 rfl rfl
  have d0 := HS.out.cell (k := 0) 1 rfl rfl
  have d1 := HS.out.cell (k := 1) 1 rfl rfl
  have d2 := HS.out.cell (k := 2) 1 rfl rfl
  have d3 := HS.out.cell (k := 3) 1 rfl rfl
  have d4 := HS.out.cell (k := 4) 1 rfl rfl
  have el := bool_ocell (HS.out.sl 3 rfl) (HS.out.ndat (i := 3) rfl) HDL.out
  have en := bool_ocell (HS.out.sl 3 rfl) (HS.out.ndat (i := 3) rfl) HDN.out
  go_enter Try.func45, Try.ntmps45
  go_wp2
  clear hW0
  refine wp_region_und (by kernel_rfl) (by kernel_rfl) ?_
  repeat (go_big_quiet_step ((first | (go_at_call 43; with_reducible exact CW _))))
  refine wpQuiet_nil ?_
  intro X hX
  clear CW
  have HS1 := Lib.hid (HS.out.step hX)
  clear b0 b1 b2 d0 d1 d2 d3 d4 el en
  obtain ⟨X1, rfl⟩ : ∃ q : World, q = X := ⟨_, rfl⟩
  have b0 := HS1.out.cell (k := 0) 0 rfl rfl
  have b1 := HS1.out.cell (k := 1) 0 rfl rfl
  have b2 := HS1.out.cell (k := 2) 0 rfl rfl
  have d0 := HS1.out.cell (k := 0) 1 rfl rfl
  have d1 := HS1.out.cell (k := 1) 1 rfl rfl
  have d2 := HS1.out.cell (k := 2) 1 rfl rfl
  have d3 := HS1.out.cell (k := 3) 1 rfl rfl
  have d4 := HS1.out.cell (k := 4) 1 rfl rfl
  have el := bool_ocell (HS1.out.sl 3 rfl) (HS1.out.ndat (i := 3) rfl) HDL.out
  have en := bool_ocell (HS1.out.sl 3 rfl) (HS1.out.ndat (i := 3) rfl) HDN.out
  clear hX HS
  have CB := fun z : Und X1 => und_same z (bsInt_c r.InSync nd A2 n2 c2 (und X1 z) X1.heap.size (((HS1.out.sl 4 rfl).weak (HS1.out.sl 4 rfl).olt).und (Nat.le_refl _) z) HW.out.sync (by omega))
  obtain ⟨ip, hip⟩ : ∃ ip, Pl.ipos r.InSync nd = ip := ⟨_, rfl⟩
  obtain ⟨ii, hii⟩ : ∃ ii, Pl.hasI r.InSync nd = ii := ⟨_, rfl⟩
  rw [hip, hii] at CB
  have HIP := Lib.hid hip
  have HII := Lib.hid hii
  clear hip hii fw hwi
  go_wp2
  refine wp_region_und (by kernel_rfl) (by kernel_rfl) ?_
  repeat (go_big_quiet_step ((first | (go_at_call 85; with_reducible exact CB _))))
  refine wpQuiet_nil ?_
  intro X hX
  clear CB
  have HS2 := Lib.hid (HS1.out.step hX)
  clear b0 b1 b2 d0 d1 d2 d3 d4 el en
  obtain ⟨X2, rfl⟩ : ∃ q : World, q = X := ⟨_, rfl⟩
  have b0 := HS2.out.cell (k := 0) 0 rfl rfl
  have b1 := HS2.out.cell (k := 1) 0 rfl rfl
  have b2 := HS2.out.cell (k := 2) 0 rfl rfl
  have d0 := HS2.out.cell (k := 0) 1 rfl rfl
  have d1 := HS2.out.cell (k := 1) 1 rfl rfl
  have d2 := HS2.out.cell (k := 2) 1 rfl rfl
  have d3 := HS2.out.cell (k := 3) 1 rfl rfl
  have d4 := HS2.out.cell (k := 4) 1 rfl rfl
  have el := bool_ocell (HS2.out.sl 3 rfl) (HS2.out.ndat (i := 3) rfl) HDL.out
  have en := bool_ocell (HS2.out.sl 3 rfl) (HS2.out.ndat (i := 3) rfl) HDN.out
  clear hX HS1
  go_wp2
  refine wp_region_und (by kernel_rfl) (by kernel_rfl) ?_
  repeat (go_big_quiet_step ((first | fail)))
  refine wpQuiet_nil ?_
  intro X hX
  have HS3 := Lib.hid (HS2.out.step hX)
  clear b0 b1 b2 d0 d1 d2 d3 d4 el en
  obtain ⟨X3, rfl⟩ : ∃ q : World, q = X := ⟨_, rfl⟩
  have b0 := HS3.out.cell (k := 0) 0 rfl rfl
  have b1 := HS3.out.cell (k := 1) 0 rfl rfl
  have b2 := HS3.out.cell (k := 2) 0 rfl rfl
  have d0 := HS3.out.cell (k := 0) 1 rfl rfl
  have d1 := HS3.out.cell (k := 1) 1 rfl rfl
  have d2 := HS3.out.cell (k := 2) 1 rfl rfl
  have d3 := HS3.out.cell (k := 3) 1 rfl rfl
  have d4 := HS3.out.cell (k := 4) 1 rfl rfl
  have el := bool_ocell (HS3.out.sl 3 rfl) (HS3.out.ndat (i := 3) rfl) HDL.out
  have en := bool_ocell (HS3.out.sl 3 rfl) (HS3.out.ndat (i := 3) rfl) HDN.out
  clear hX HS2
  obtain ⟨sm, hsm⟩ : ∃ sm, Pl.sameLog r nd = sm := ⟨_, rfl⟩
  have HSM := Lib.hid hsm
  clear hsm
  have bad : ¬ (ii = false ∧ dl = false ∧ sm = true) → Pl.rstep r ⟨4, nd, ⟨#[]⟩⟩ = (r, false) := fun hh => Pl.rstep_no' (by
    unfold Pl.rdo
    dsimp only
    rw [if_neg (show ¬ (4 : Int) = 1 by omega), if_neg (by simp [ByteArray.size]; have := HN.out.1; omega), if_neg (show ¬ (4 : Int) = 2 by omega), if_neg (show ¬ (4 : Int) = 3 by omega), if_pos rfl, HII.out, HED.out.1, HSM.out, if_neg hh])
  have BAD := Lib.hid bad
  clear bad
  cases ii with
  | true =>
    have HF := Lib.hid (BAD.out (fun hh => by cases hh.1))
    clear BAD
    go_wp2
    refine wp_region_und (by kernel_rfl) (by kernel_rfl) ?_
    repeat (go_big_quiet_step ((first | fail)))
    refine wpQuiet_nil ?_
    intro X hX
    have HS3' := Lib.hid (HS3.out.step hX)
    clear b0 b1 b2 d0 d1 d2 d3 d4 el en
    obtain ⟨X4, rfl⟩ : ∃ q : World, q = X := ⟨_, rfl⟩
    have b0 := HS3'.out.cell (k := 0) 0 rfl rfl
    have b1 := HS3'.out.cell (k := 1) 0 rfl rfl
    have b2 := HS3'.out.cell (k := 2) 0 rfl rfl
    have d0 := HS3'.out.cell (k := 0) 1 rfl rfl
    have d1 := HS3'.out.cell (k := 1) 1 rfl rfl
    have d2 := HS3'.out.cell (k := 2) 1 rfl rfl
    have d3 := HS3'.out.cell (k := 3) 1 rfl rfl
    have d4 := HS3'.out.cell (k := 4) 1 rfl rfl
    have el := bool_ocell (HS3'.out.sl 3 rfl) (HS3'.out.ndat (i := 3) rfl) HDL.out
    have en := bool_ocell (HS3'.out.sl 3 rfl) (HS3'.out.ndat (i := 3) rfl) HDN.out
    clear hX HS3
    have HS3 := HS3'
    clear HS3'
    obtain ⟨X3, rfl⟩ : ∃ q : World, q = X4 := ⟨_, rfl⟩
    go_wp2
    refine wp_region_und (by kernel_rfl) (by kernel_rfl) ?_
    repeat (go_big_quiet_step ((first | fail)))
    refine wpQuiet_nil ?_
    intro X hX
    have HS3' := Lib.hid (HS3.out.step hX)
    clear b0 b1 b2 d0 d1 d2 d3 d4 el en
    obtain ⟨X4, rfl⟩ : ∃ q : World, q = X := ⟨_, rfl⟩
    have b0 := HS3'.out.cell (k := 0) 0 rfl rfl
    have b1 := HS3'.out.cell (k := 1) 0 rfl rfl
    have b2 := HS3'.out.cell (k := 2) 0 rfl rfl
    have d0 := HS3'.out.cell (k := 0) 1 rfl rfl
    have d1 := HS3'.out.cell (k := 1) 1 rfl rfl
    have d2 := HS3'.out.cell (k := 2) 1 rfl rfl
    have d3 := HS3'.out.cell (k := 3) 1 rfl rfl
    have d4 := HS3'.out.cell (k := 4) 1 rfl rfl
    have el := bool_ocell (HS3'.out.sl 3 rfl) (HS3'.out.ndat (i := 3) rfl) HDL.out
    have en := bool_ocell (HS3'.out.sl 3 rfl) (HS3'.out.ndat (i := 3) rfl) HDN.out
    clear hX HS3
    have HS3 := HS3'
    clear HS3'
    obtain ⟨X3, rfl⟩ : ∃ q : World, q = X4 := ⟨_, rfl⟩
    go_wp2
    refine wp_region_und (by kernel_rfl) (by kernel_rfl) ?_
    repeat (go_big_quiet_step ((first | fail)))
    refine wpQuiet_nil ?_
    intro X hX
    have HS3' := Lib.hid (HS3.out.step hX)
    clear b0 b1 b2 d0 d1 d2 d3 d4 el en
    obtain ⟨X4, rfl⟩ : ∃ q : World, q = X := ⟨_, rfl⟩
    have b0 := HS3'.out.cell (k := 0) 0 rfl rfl
    have b1 := HS3'.out.cell (k := 1) 0 rfl rfl
    have b2 := HS3'.out.cell (k := 2) 0 rfl rfl
    have d0 := HS3'.out.cell (k := 0) 1 rfl rfl
    have d1 := HS3'.out.cell (k := 1) 1 rfl rfl
    have d2 := HS3'.out.cell (k := 2) 1 rfl rfl
    have d3 := HS3'.out.cell (k := 3) 1 rfl rfl
    have d4 := HS3'.out.cell (k := 4) 1 rfl rfl
    have el := bool_ocell (HS3'.out.sl 3 rfl) (HS3'.out.ndat (i := 3) rfl) HDL.out
    have en := bool_ocell (HS3'.out.sl 3 rfl) (HS3'.out.ndat (i := 3) rfl) HDN.out
    clear hX HS3
    have HS3 := HS3'
    clear HS3'
    obtain ⟨X3, rfl⟩ : ∃ q : World, q = X4 := ⟨_, rfl⟩
    go_wp2
    refine wp_region_und (by kernel_rfl) (by kernel_rfl) ?_
    repeat (go_big_quiet_step ((first | fail)))
    refine wpQuiet_nil ?_
    intro X hX
    have HS3' := Lib.hid (HS3.out.step hX)
    clear b0 b1 b2 d0 d1 d2 d3 d4 el en
    obtain ⟨X4, rfl⟩ : ∃ q : World, q = X := ⟨_, rfl⟩
    have b0 := HS3'.out.cell (k := 0) 0 rfl rfl
    have b1 := HS3'.out.cell (k := 1) 0 rfl rfl
    have b2 := HS3'.out.cell (k := 2) 0 rfl rfl
    have d0 := HS3'.out.cell (k := 0) 1 rfl rfl
    have d1 := HS3'.out.cell (k := 1) 1 rfl rfl
    have d2 := HS3'.out.cell (k := 2) 1 rfl rfl
    have d3 := HS3'.out.cell (k := 3) 1 rfl rfl
    have d4 := HS3'.out.cell (k := 4) 1 rfl rfl
    have el := bool_ocell (HS3'.out.sl 3 rfl) (HS3'.out.ndat (i := 3) rfl) HDL.out
    have en := bool_ocell (HS3'.out.sl 3 rfl) (HS3'.out.ndat (i := 3) rfl) HDN.out
    clear hX HS3
    have HS3 := HS3'
    clear HS3'
    obtain ⟨X3, rfl⟩ : ∃ q : World, q = X4 := ⟨_, rfl⟩
    go_wp2
    refine wp_region_und (by kernel_rfl) (by kernel_rfl) ?_
    repeat (go_big_quiet_step ((first | fail)))
    refine wpQuiet_nil ?_
    intro X hX
    have HS3' := Lib.hid (HS3.out.step hX)
    clear b0 b1 b2 d0 d1 d2 d3 d4 el en
    obtain ⟨X4, rfl⟩ : ∃ q : World, q = X := ⟨_, rfl⟩
    have b0 := HS3'.out.cell (k := 0) 0 rfl rfl
    have b1 := HS3'.out.cell (k := 1) 0 rfl rfl
    have b2 := HS3'.out.cell (k := 2) 0 rfl rfl
    have d0 := HS3'.out.cell (k := 0) 1 rfl rfl
    have d1 := HS3'.out.cell (k := 1) 1 rfl rfl
    have d2 := HS3'.out.cell (k := 2) 1 rfl rfl
    have d3 := HS3'.out.cell (k := 3) 1 rfl rfl
    have d4 := HS3'.out.cell (k := 4) 1 rfl rfl
    have el := bool_ocell (HS3'.out.sl 3 rfl) (HS3'.out.ndat (i := 3) rfl) HDL.out
    have en := bool_ocell (HS3'.out.sl 3 rfl) (HS3'.out.ndat (i := 3) rfl) HDN.out
    clear hX HS3
    have HS3 := HS3'
    clear HS3'
    obtain ⟨X3, rfl⟩ : ∃ q : World, q = X4 := ⟨_, rfl⟩
    go_wp2
    exact bodyPost_ret (v := .bool false) (by simp [results, Try.results45, go_sem]) rfl ⟨by rw [HF.out], _, by rw [HF.out]; exact (shut_Repl HS3.out.tail HI.out.1 HI.out.2).left⟩
  | false =>
    cases dl with
    | true =>
      have HF := Lib.hid (BAD.out (fun hh => by cases hh.2.1))
      clear BAD
      go_wp2
      refine wp_region_und (by kernel_rfl) (by kernel_rfl) ?_
      repeat (go_big_quiet_step ((first | fail)))
      refine wpQuiet_nil ?_
      intro X hX
      have HS3' := Lib.hid (HS3.out.step hX)
      clear b0 b1 b2 d0 d1 d2 d3 d4 el en
      obtain ⟨X4, rfl⟩ : ∃ q : World, q = X := ⟨_, rfl⟩
      have b0 := HS3'.out.cell (k := 0) 0 rfl rfl
      have b1 := HS3'.out.cell (k := 1) 0 rfl rfl
      have b2 := HS3'.out.cell (k := 2) 0 rfl rfl
      have d0 := HS3'.out.cell (k := 0) 1 rfl rfl
      have d1 := HS3'.out.cell (k := 1) 1 rfl rfl
      have d2 := HS3'.out.cell (k := 2) 1 rfl rfl
      have d3 := HS3'.out.cell (k := 3) 1 rfl rfl
      have d4 := HS3'.out.cell (k := 4) 1 rfl rfl
      have el := bool_ocell (HS3'.out.sl 3 rfl) (HS3'.out.ndat (i := 3) rfl) HDL.out
      have en := bool_ocell (HS3'.out.sl 3 rfl) (HS3'.out.ndat (i := 3) rfl) HDN.out
      clear hX HS3
      have HS3 := HS3'
      clear HS3'
      obtain ⟨X3, rfl⟩ : ∃ q : World, q = X4 := ⟨_, rfl⟩
      go_wp2
      refine wp_region_und (by kernel_rfl) (by kernel_rfl) ?_
      repeat (go_big_quiet_step ((first | fail)))
      refine wpQuiet_nil ?_
      intro X hX
      have HS3' := Lib.hid (HS3.out.step hX)
      clear b0 b1 b2 d0 d1 d2 d3 d4 el en
      obtain ⟨X4, rfl⟩ : ∃ q : World, q = X := ⟨_, rfl⟩
      have b0 := HS3'.out.cell (k := 0) 0 rfl rfl
      have b1 := HS3'.out.cell (k := 1) 0 rfl rfl
      have b2 := HS3'.out.cell (k := 2) 0 rfl rfl
      have d0 := HS3'.out.cell (k := 0) 1 rfl rfl
      have d1 := HS3'.out.cell (k := 1) 1 rfl rfl
      have d2 := HS3'.out.cell (k := 2) 1 rfl rfl
      have d3 := HS3'.out.cell (k := 3) 1 rfl rfl
      have d4 := HS3'.out.cell (k := 4) 1 rfl rfl
      have el := bool_ocell (HS3'.out.sl 3 rfl) (HS3'.out.ndat (i := 3) rfl) HDL.out
      have en := bool_ocell (HS3'.out.sl 3 rfl) (HS3'.out.ndat (i := 3) rfl) HDN.out
      clear hX HS3
      have HS3 := HS3'
      clear HS3'
      obtain ⟨X3, rfl⟩ : ∃ q : World, q = X4 := ⟨_, rfl⟩
      go_wp2
      refine wp_region_und (by kernel_rfl) (by kernel_rfl) ?_
      repeat (go_big_quiet_step ((first | fail)))
      refine wpQuiet_nil ?_
      intro X hX
      have HS3' := Lib.hid (HS3.out.step hX)
      clear b0 b1 b2 d0 d1 d2 d3 d4 el en
      obtain ⟨X4, rfl⟩ : ∃ q : World, q = X := ⟨_, rfl⟩
      have b0 := HS3'.out.cell (k := 0) 0 rfl rfl
      have b1 := HS3'.out.cell (k := 1) 0 rfl rfl
      have b2 := HS3'.out.cell (k := 2) 0 rfl rfl
      have d0 := HS3'.out.cell (k := 0) 1 rfl rfl
      have d1 := HS3'.out.cell (k := 1) 1 rfl rfl
      have d2 := HS3'.out.cell (k := 2) 1 rfl rfl
      have d3 := HS3'.out.cell (k := 3) 1 rfl rfl
      have d4 := HS3'.out.cell (k := 4) 1 rfl rfl
      have el := bool_ocell (HS3'.out.sl 3 rfl) (HS3'.out.ndat (i := 3) rfl) HDL.out
      have en := bool_ocell (HS3'.out.sl 3 rfl) (HS3'.out.ndat (i := 3) rfl) HDN.out
      clear hX HS3
      have HS3 := HS3'
      clear HS3'
      obtain ⟨X3, rfl⟩ : ∃ q : World, q = X4 := ⟨_, rfl⟩
      go_wp2
      refine wp_region_und (by kernel_rfl) (by kernel_rfl) ?_
      repeat (go_big_quiet_step ((first | fail)))
      refine wpQuiet_nil ?_
      intro X hX
      have HS3' := Lib.hid (HS3.out.step hX)
      clear b0 b1 b2 d0 d1 d2 d3 d4 el en
      obtain ⟨X4, rfl⟩ : ∃ q : World, q = X := ⟨_, rfl⟩
      have b0 := HS3'.out.cell (k := 0) 0 rfl rfl
      have b1 := HS3'.out.cell (k := 1) 0 rfl rfl
      have b2 := HS3'.out.cell (k := 2) 0 rfl rfl
      have d0 := HS3'.out.cell (k := 0) 1 rfl rfl
      have d1 := HS3'.out.cell (k := 1) 1 rfl rfl
      have d2 := HS3'.out.cell (k := 2) 1 rfl rfl
      have d3 := HS3'.out.cell (k := 3) 1 rfl rfl
      have d4 := HS3'.out.cell (k := 4) 1 rfl rfl
      have el := bool_ocell (HS3'.out.sl 3 rfl) (HS3'.out.ndat (i := 3) rfl) HDL.out
      have en := bool_ocell (HS3'.out.sl 3 rfl) (HS3'.out.ndat (i := 3) rfl) HDN.out
      clear hX HS3
      have HS3 := HS3'
      clear HS3'
      obtain ⟨X3, rfl⟩ : ∃ q : World, q = X4 := ⟨_, rfl⟩
      go_wp2
      refine wp_region_und (by kernel_rfl) (by kernel_rfl) ?_
      repeat (go_big_quiet_step ((first | fail)))
      refine wpQuiet_nil ?_
      intro X hX
      have HS3' := Lib.hid (HS3.out.step hX)
      clear b0 b1 b2 d0 d1 d2 d3 d4 el en
      obtain ⟨X4, rfl⟩ : ∃ q : World, q = X := ⟨_, rfl⟩
      have b0 := HS3'.out.cell (k := 0) 0 rfl rfl
      have b1 := HS3'.out.cell (k := 1) 0 rfl rfl
      have b2 := HS3'.out.cell (k := 2) 0 rfl rfl
      have d0 := HS3'.out.cell (k := 0) 1 rfl rfl
      have d1 := HS3'.out.cell (k := 1) 1 rfl rfl
      have d2 := HS3'.out.cell (k := 2) 1 rfl rfl
      have d3 := HS3'.out.cell (k := 3) 1 rfl rfl
      have d4 := HS3'.out.cell (k := 4) 1 rfl rfl
      have el := bool_ocell (HS3'.out.sl 3 rfl) (HS3'.out.ndat (i := 3) rfl) HDL.out
      have en := bool_ocell (HS3'.out.sl 3 rfl) (HS3'.out.ndat (i := 3) rfl) HDN.out
      clear hX HS3
      have HS3 := HS3'
      clear HS3'
      obtain ⟨X3, rfl⟩ : ∃ q : World, q = X4 := ⟨_, rfl⟩
      go_wp2
      exact bodyPost_ret (v := .bool false) (by simp [results, Try.results45, go_sem]) rfl ⟨by rw [HF.out], _, by rw [HF.out]; exact (shut_Repl HS3.out.tail HI.out.1 HI.out.2).left⟩
    | false =>
      have hk1 : nd < r.Logs.length := by have := HN.out.1; omega
      go_wp2
      refine wp_region_und (by kernel_rfl) (by kernel_rfl) ?_
      repeat (go_big_quiet_step ((first | fail)))
      refine wpQuiet_nil ?_
      intro X hX
      have HS3' := Lib.hid (HS3.out.step hX)
      clear b0 b1 b2 d0 d1 d2 d3 d4 el en
      obtain ⟨X4, rfl⟩ : ∃ q : World, q = X := ⟨_, rfl⟩
      have b0 := HS3'.out.cell (k := 0) 0 rfl rfl
      have b1 := HS3'.out.cell (k := 1) 0 rfl rfl
      have b2 := HS3'.out.cell (k := 2) 0 rfl rfl
      have d0 := HS3'.out.cell (k := 0) 1 rfl rfl
      have d1 := HS3'.out.cell (k := 1) 1 rfl rfl
      have d2 := HS3'.out.cell (k := 2) 1 rfl rfl
      have d3 := HS3'.out.cell (k := 3) 1 rfl rfl
      have d4 := HS3'.out.cell (k := 4) 1 rfl rfl
      have el := bool_ocell (HS3'.out.sl 3 rfl) (HS3'.out.ndat (i := 3) rfl) HDL.out
      have en := bool_ocell (HS3'.out.sl 3 rfl) (HS3'.out.ndat (i := 3) rfl) HDN.out
      clear hX HS3
      have HS3 := HS3'
      clear HS3'
      obtain ⟨X3, rfl⟩ : ∃ q : World, q = X4 := ⟨_, rfl⟩
      go_wp2
      refine wp_region_und (by kernel_rfl) (by kernel_rfl) ?_
      repeat (go_big_quiet_step ((first | fail)))
      refine wpQuiet_nil ?_
      intro X hX
      have HS3' := Lib.hid (HS3.out.step hX)
      clear b0 b1 b2 d0 d1 d2 d3 d4 el en
      obtain ⟨X4, rfl⟩ : ∃ q : World, q = X := ⟨_, rfl⟩
      have b0 := HS3'.out.cell (k := 0) 0 rfl rfl
      have b1 := HS3'.out.cell (k := 1) 0 rfl rfl
      have b2 := HS3'.out.cell (k := 2) 0 rfl rfl
      have d0 := HS3'.out.cell (k := 0) 1 rfl rfl
      have d1 := HS3'.out.cell (k := 1) 1 rfl rfl
      have d2 := HS3'.out.cell (k := 2) 1 rfl rfl
      have d3 := HS3'.out.cell (k := 3) 1 rfl rfl
      have d4 := HS3'.out.cell (k := 4) 1 rfl rfl
      have el := bool_ocell (HS3'.out.sl 3 rfl) (HS3'.out.ndat (i := 3) rfl) HDL.out
      have en := bool_ocell (HS3'.out.sl 3 rfl) (HS3'.out.ndat (i := 3) rfl) HDN.out
      clear hX HS3
      have HS3 := HS3'
      clear HS3'
      obtain ⟨X3, rfl⟩ : ∃ q : World, q = X4 := ⟨_, rfl⟩
      have HT0 := Lib.hid (shut_Repl HS3.out.tail HI.out.1 HI.out.2)
      obtain ⟨csx, hbk, hown⟩ := HT0.out.at_ 0 rfl
      have CI := inStep_c r nd g csx X3 X3.heap.size hbk (rRepl.weak hown (rRepl.olt hown)) (Nat.le_refl _) HW.out.rs k0 hk1
      rw [HSM.out] at CI
      clear HT0 hbk hown
      cases sm with
      | false =>
        have HF := Lib.hid (BAD.out (fun hh => by cases hh.2.2))
        clear BAD
        go_upto_region 17 with (go_at_call 70; (with_reducible refine CI.mono ?_); clear CI; rintro e X5 ⟨rfl, hX⟩)
        have HS3' := Lib.hid (HS3.out.step hX)
        clear b0 b1 b2 d0 d1 d2 d3 d4 el en
        obtain ⟨X4, rfl⟩ : ∃ q : World, q = X5 := ⟨_, rfl⟩
        have b0 := HS3'.out.cell (k := 0) 0 rfl rfl
        have b1 := HS3'.out.cell (k := 1) 0 rfl rfl
        have b2 := HS3'.out.cell (k := 2) 0 rfl rfl
        have d0 := HS3'.out.cell (k := 0) 1 rfl rfl
        have d1 := HS3'.out.cell (k := 1) 1 rfl rfl
        have d2 := HS3'.out.cell (k := 2) 1 rfl rfl
        have d3 := HS3'.out.cell (k := 3) 1 rfl rfl
        have d4 := HS3'.out.cell (k := 4) 1 rfl rfl
        have el := bool_ocell (HS3'.out.sl 3 rfl) (HS3'.out.ndat (i := 3) rfl) HDL.out
        have en := bool_ocell (HS3'.out.sl 3 rfl) (HS3'.out.ndat (i := 3) rfl) HDN.out
        clear hX HS3
        have HS3 := HS3'
        clear HS3'
        obtain ⟨X3, rfl⟩ : ∃ q : World, q = X4 := ⟨_, rfl⟩
        refine wp_region_und (by kernel_rfl) (by kernel_rfl) ?_
        repeat (go_big_quiet_step ((first | fail)))
        refine wpQuiet_nil ?_
        intro X hX
        have HS3' := Lib.hid (HS3.out.step hX)
        clear b0 b1 b2 d0 d1 d2 d3 d4 el en
        obtain ⟨X4, rfl⟩ : ∃ q : World, q = X := ⟨_, rfl⟩
        have b0 := HS3'.out.cell (k := 0) 0 rfl rfl
        have b1 := HS3'.out.cell (k := 1) 0 rfl rfl
        have b2 := HS3'.out.cell (k := 2) 0 rfl rfl
        have d0 := HS3'.out.cell (k := 0) 1 rfl rfl
        have d1 := HS3'.out.cell (k := 1) 1 rfl rfl
        have d2 := HS3'.out.cell (k := 2) 1 rfl rfl
        have d3 := HS3'.out.cell (k := 3) 1 rfl rfl
        have d4 := HS3'.out.cell (k := 4) 1 rfl rfl
        have el := bool_ocell (HS3'.out.sl 3 rfl) (HS3'.out.ndat (i := 3) rfl) HDL.out
        have en := bool_ocell (HS3'.out.sl 3 rfl) (HS3'.out.ndat (i := 3) rfl) HDN.out
        clear hX HS3
        have HS3 := HS3'
        clear HS3'
        obtain ⟨X3, rfl⟩ : ∃ q : World, q = X4 := ⟨_, rfl⟩
        go_wp2
        refine wp_region_und (by kernel_rfl) (by kernel_rfl) ?_
        repeat (go_big_quiet_step ((first | fail)))
        refine wpQuiet_nil ?_
        intro X hX
        have HS3' := Lib.hid (HS3.out.step hX)
        clear b0 b1 b2 d0 d1 d2 d3 d4 el en
        obtain ⟨X4, rfl⟩ : ∃ q : World, q = X := ⟨_, rfl⟩
        have b0 := HS3'.out.cell (k := 0) 0 rfl rfl
        have b1 := HS3'.out.cell (k := 1) 0 rfl rfl
        have b2 := HS3'.out.cell (k := 2) 0 rfl rfl
        have d0 := HS3'.out.cell (k := 0) 1 rfl rfl
        have d1 := HS3'.out.cell (k := 1) 1 rfl rfl
        have d2 := HS3'.out.cell (k := 2) 1 rfl rfl
        have d3 := HS3'.out.cell (k := 3) 1 rfl rfl
        have d4 := HS3'.out.cell (k := 4) 1 rfl rfl
        have el := bool_ocell (HS3'.out.sl 3 rfl) (HS3'.out.ndat (i := 3) rfl) HDL.out
        have en := bool_ocell (HS3'.out.sl 3 rfl) (HS3'.out.ndat (i := 3) rfl) HDN.out
        clear hX HS3
        have HS3 := HS3'
        clear HS3'
        obtain ⟨X3, rfl⟩ : ∃ q : World, q = X4 := ⟨_, rfl⟩
        go_wp2
        refine wp_region_und (by kernel_rfl) (by kernel_rfl) ?_
        repeat (go_big_quiet_step ((first | fail)))
        refine wpQuiet_nil ?_
        intro X hX
        have HS3' := Lib.hid (HS3.out.step hX)
        clear b0 b1 b2 d0 d1 d2 d3 d4 el en
        obtain ⟨X4, rfl⟩ : ∃ q : World, q = X := ⟨_, rfl⟩
        have b0 := HS3'.out.cell (k := 0) 0 rfl rfl
        have b1 := HS3'.out.cell (k := 1) 0 rfl rfl
        have b2 := HS3'.out.cell (k := 2) 0 rfl rfl
        have d0 := HS3'.out.cell (k := 0) 1 rfl rfl
        have d1 := HS3'.out.cell (k := 1) 1 rfl rfl
        have d2 := HS3'.out.cell (k := 2) 1 rfl rfl
        have d3 := HS3'.out.cell (k := 3) 1 rfl rfl
        have d4 := HS3'.out.cell (k := 4) 1 rfl rfl
        have el := bool_ocell (HS3'.out.sl 3 rfl) (HS3'.out.ndat (i := 3) rfl) HDL.out
        have en := bool_ocell (HS3'.out.sl 3 rfl) (HS3'.out.ndat (i := 3) rfl) HDN.out
        clear hX HS3
        have HS3 := HS3'
        clear HS3'
        obtain ⟨X3, rfl⟩ : ∃ q : World, q = X4 := ⟨_, rfl⟩
        go_wp2
        exact bodyPost_ret (v := .bool false) (by simp [results, Try.results45, go_sem]) rfl ⟨by rw [HF.out], _, by rw [HF.out]; exact (shut_Repl HS3.out.tail HI.out.1 HI.out.2).left⟩
      | true =>
        have hdo : Pl.rdo r ⟨4, nd, ⟨#[]⟩⟩ = ({ r with InSync := Pl.insI r.InSync nd }, true) := by
          unfold Pl.rdo
          dsimp only
          rw [if_neg (show ¬ (4 : Int) = 1 by omega), if_neg (by simp [ByteArray.size]; have := HN.out.1; omega), if_neg (show ¬ (4 : Int) = 2 by omega), if_neg (show ¬ (4 : Int) = 3 by omega), if_pos rfl, HII.out, HED.out.1, HSM.out, if_pos ⟨rfl, rfl, rfl⟩]
        have HC := Lib.hid (Pl.rstep_yes hdo)
        have HRS : Hid (Pl.RS { r with InSync := Pl.insI r.InSync nd }) := Lib.hid (Pl.RS.in_ HW.out.rs HW.out.sync5 k0 hk1)
        clear hdo BAD
        have hno : nd ∉ r.InSync := fun hh => by rw [Pl.hasI_iff.2 hh] at HII; cases HII.out
        have HO := Lib.hid (Pl.insI_at HW.out.sync hno)
        rw [HIP.out] at HO
        have hipn : ip ≤ n2 := by have h1 := Pl.ipos_le r.InSync nd; have := HN.out.2.1; have := HIP.out; omega
        clear hno
        go_upto_region 16 with (go_at_call 70; (with_reducible refine CI.mono ?_); clear CI; rintro e X5 ⟨rfl, hX⟩)
        have HS3' := Lib.hid (HS3.out.step hX)
        clear b0 b1 b2 d0 d1 d2 d3 d4 el en
        obtain ⟨X4, rfl⟩ : ∃ q : World, q = X5 := ⟨_, rfl⟩
        have b0 := HS3'.out.cell (k := 0) 0 rfl rfl
        have b1 := HS3'.out.cell (k := 1) 0 rfl rfl
        have b2 := HS3'.out.cell (k := 2) 0 rfl rfl
        have d0 := HS3'.out.cell (k := 0) 1 rfl rfl
        have d1 := HS3'.out.cell (k := 1) 1 rfl rfl
        have d2 := HS3'.out.cell (k := 2) 1 rfl rfl
        have d3 := HS3'.out.cell (k := 3) 1 rfl rfl
        have d4 := HS3'.out.cell (k := 4) 1 rfl rfl
        have el := bool_ocell (HS3'.out.sl 3 rfl) (HS3'.out.ndat (i := 3) rfl) HDL.out
        have en := bool_ocell (HS3'.out.sl 3 rfl) (HS3'.out.ndat (i := 3) rfl) HDN.out
        clear hX HS3
        have HS3 := HS3'
        clear HS3'
        obtain ⟨X3, rfl⟩ : ∃ q : World, q = X4 := ⟨_, rfl⟩
        have n0' : g ∉ f2 := HS3.out.apart (i := 1) (j := 4) rfl rfl (by decide) g (by simp [Mm.tblk])
        have n1' : gs ∉ f2 := HS3.out.apart (i := 0) (j := 4) rfl rfl (by decide) _ (by simp [Mm.tblk])
        refine Mm.wp_region_give 12 (fun i => match i with | 8 => some (Mm.gBs 3 [.int .i64 nd]) | 9 => some (Mm.gSl Mm.int 3 (r.InSync.take ip ++ nd :: r.InSync.drop ip)) | _ => none) (fun i => match i with | 9 => [8, 13] | _ => []) (fun i => match i with | 13 => [Mm.tsl Mm.int 3 r.InSync (.slice A2 n2 c2) f2] | _ => []) (F := f2) (D := fun w' => ∃ z : Cha f2 X3, w' = cha f2 X3 z) (fun X us h => Mm.sep_cha h) (by kernel_rfl) (by kernel_rfl) (by kernel_rfl) (Mm.sep_eq ((Mm.SepF.one (Mm.tsl Mm.int 3 r.InSync (.slice A2 n2 c2) f2) X3 (HS3.out.at_ 4 rfl) (HS3.out.ndat (i := 4) rfl)).step (Below.refl _ _).drew) rfl) ?_
        repeat (refine Mm.give_det (by rfl) (by rfl) (by rfl) (fun K hK => ?_); go_big_quiet_op; refine hK _ ?_; clear hK K)
        refine Mm.give_op0 200 (by rfl) rfl (by rfl) (by rfl) (by rfl) (by rfl) Mm.gBs_in (fun others X6 hX6 => ?_) ?_
        · go_wp2
          exact Mm.gvq_bs hX6 rfl rfl rfl
        rintro v ds ⟨gb, rfl, rfl⟩
        simp only [Act.put, List.setIfInBounds_toArray, List.set_cons_succ, List.set_cons_zero]
        refine Mm.give_op2 201 8 13 (by rfl) rfl (by rfl) (by rfl) (by rfl) rfl (by rfl) (by rfl) (by rfl) _ _ rfl rfl Mm.gSl_in (fun others X6 hX6 => ?_) ?_
        · go_wp2_with (go_at_call 89; (with_reducible refine (insSl_c (i := 1) (j := 0) hX6 (by decide) rfl rfl hipn (by omega) hI).mono ?_); rintro e w5 ⟨A', n', c', fp', rfl, rfl, hS5⟩)
          exact ⟨rfl, rfl, _, ⟨_, _, _, fp', rfl, rfl, Lib.hid (by rw [List.length_append, List.length_cons, List.length_take, List.length_drop]; have := HN.out.2.1; omega)⟩, (hS5.tail)⟩
        rintro v ds ⟨A5, n5, c5, f5, rfl, rfl, hn5⟩
        simp only [Act.put, List.setIfInBounds_toArray, List.set_cons_succ, List.set_cons_zero]
        repeat (refine Mm.give_det (by rfl) (by rfl) (by rfl) (fun K hK => ?_); go_big_quiet_op; refine hK _ ?_; clear hK K)
        refine Mm.give_nil ?_
        rintro X6 hX6
        have HS4 := Lib.hid (HS3.out.call 4 rfl (Mm.sep_eq (us := [Mm.tsl Mm.int 3 (r.InSync.take ip ++ nd :: r.InSync.drop ip) (.slice A5 n5 c5) f5]) hX6 rfl).left)
        clear hX6 n0' n1'
        clear b0 b1 b2 d0 d1 d2 d3 d4 el en
        rw [HO.out] at HS4
        have z4 := HS4.out.frz (k := 4) 1 rfl
        have y4 := HS4.out.cell (k := 4) 1 rfl rfl
        have HS5 : Hid (Mm.SepF _ w _ [_, _, _, _, _, _]) := Lib.hid (HS4.out.setBlk (k := 4) 1 rfl (.slice A5 n5 c5))
        go_upto_region 23 with fail
        have HT := Lib.hid (shut_Repl (x := { r with InSync := Pl.insI r.InSync nd }) HS5.out.tail HI.out.1 HI.out.2)
        clear HS3 HS4 HS5 z4 y4
        obtain ⟨XT, hXT⟩ : ∃ XT, X6.setCell ⟨g, 4, none⟩ (.slice A5 n5 c5) = XT := ⟨_, rfl⟩
        rw [hXT] at HT ⊢
        clear hXT
        obtain ⟨x, hx⟩ : ∃ x : Repl, { r with InSync := Pl.insI r.InSync nd } = x := ⟨_, rfl⟩
        rw [hx] at HT HRS HC
        clear hx
        obtain ⟨csx, hbk, hown⟩ := HT.out.at_ 0 rfl
        have CC := certain_c x g csx XT XT.heap.size hbk (rRepl.weak hown (rRepl.olt hown)) (Nat.le_refl _) HRS.out
        obtain ⟨cn, hcn⟩ : ∃ cn, Pl.certain x = cn := ⟨_, rfl⟩
        rw [hcn] at CC
        have HCN := Lib.hid hcn
        have hcl := Pl.certain_le x
        have hcl4 := HRS.out.len' x.Leader
        rw [hcn] at hcl
        clear hcn hbk hown
        go_upto_region 24 with (go_at_call 51; (with_reducible refine CC.mono ?_); clear CC; rintro e w7 ⟨rfl, hb7⟩; (have HT2 := Lib.hid (HT.out.step hb7)); clear hb7)
        clear HT
        obtain ⟨A0, n0, c0, A1, n1, c1, A2, n2, c2, A3, n3, c3, q0, q1, q2, q3, hfq, j2, j3, hq⟩ := open_Repl HT2.out
        have HJ := Lib.hid (And.intro j2 j3)
        have HQ := Lib.hid hq
        have hq3 : n3 = x.Certain.length := by obtain ⟨A', n', c', hv, h1, _⟩ := (hq.sl 4 rfl).form; injection hv with _ h2 _; omega
        have hq0 : n0 = x.Logs.length := by obtain ⟨A', n', c', hv, h1, _⟩ := (hq.sl 1 rfl).form; injection hv with _ h2 _; omega
        have HQ3 := Lib.hid hq3
        have hd0 := hq.cell (k := 0) 0 rfl rfl
        have hd2 := hq.cell (k := 2) 0 rfl rfl
        have hd5 := hq.cell (k := 5) 0 rfl rfl
        have ll0 := HRS.out.lead.1
        have ll1 : x.Leader < n0 := by have := HRS.out.lead.2; omega
        obtain ⟨g0', rfl, -, -⟩ := Mm.sl_addr (hq.sl 1 rfl) (by omega)
        obtain ⟨AL, nL, cL, _, hlL, eL⟩ := log_at' ((hq.sl 1 rfl).weak (hq.sl 1 rfl).olt) ll0 ll1
        simp only [Nat.zero_add] at eL
        have HLL := Lib.hid hlL
        have hnL : (Pl.logAt x x.Leader).length = nL := hlL.1
        have hnLc : nL ≤ cL ∧ cL ≤ 9223372036854775807 := by have h1 := hlL.2.1; have h2 := hlL.2.2.1; unfold maxLen at h2; omega
        rw [hnL] at hcl hcl4
        clear hq hq3 hq0 hfq j2 j3 hlL hnL HT2
        by_cases hct : n3 < cn
        · have HE : Hid (Pl.rstep r ⟨4,nd,⟨#[]⟩⟩ = ({ x with Certain := (Pl.logAt x x.Leader).take cn }, true)) := Lib.hid (by rw [HC.out, Pl.rcert_lt (by rw [HCN.out, ← HQ3.out]; exact hct), HCN.out])
          have f1 : (n3 : Int) < (cn : Nat) := by omega
          have f2 : (0 : Int) ≤ (cn : Nat) := by omega
          have f3 : ((cn : Nat) : Int).toNat = cn := by omega
          have f4 : (cn : Int) ≤ (nL : Nat) := by omega
          have f5 : (cn : Int) ≤ (cL : Nat) := by omega
          have f6 : cn ≤ cL := by omega
          have HTK := Lib.hid (HLL.out.take (show cn ≤ nL by omega))
          go_wp2
          refine Mm.wp_region_give 16 (fun i => match i with | 13 => some (Mm.gSl rEntry 111 ((Pl.logAt x x.Leader).take cn)) | _ => none) (fun _ => []) (fun _ => []) (F := []) (D := fun w' => ∃ z : Und w7, w' = und w7 z) (fun X us h => Mm.sep_und h) (by kernel_rfl) (by kernel_rfl) (by kernel_rfl) (Mm.SepF.startDrew _) ?_
          repeat (refine Mm.give_det (by rfl) (by rfl) (by rfl) (fun K hK => ?_); go_big_quiet_op; refine hK _ ?_; clear hK K)
          refine Mm.give_op0 301 (by rfl) rfl (by rfl) (by rfl) (by rfl) (by rfl) Mm.gSl_in (fun others X8 hX8 => ?_) ?_
          · go_wp2_with (go_at_call 90; (with_reducible refine (clEnt_c ((Pl.logAt x x.Leader).take cn) AL cn cL X8 w7.heap.size (HTK.out.keep (w' := X8) fun b hb => hX8.bel0.block b hb) (by omega)).mono ?_); rintro e w5 ⟨A', n', c', fp', rfl, ho, hnd', hnew, hb5⟩)
            exact Mm.gvq_sl hX8 hb5 ho hnd' hnew rfl rfl
          rintro v ds ⟨A', n', c', fp', rfl, rfl, hn'⟩
          simp only [Act.put, List.setIfInBounds_toArray, List.set_cons_succ, List.set_cons_zero]
          repeat (refine Mm.give_det (by rfl) (by rfl) (by rfl) (fun K hK => ?_); go_big_quiet_op; refine hK _ ?_; clear hK K)
          refine Mm.give_nil ?_
          rintro X4 hX4
          have HS4 := Lib.hid (HQ.out.join (us := [Mm.tsl rEntry 111 ((Pl.logAt x x.Leader).take cn) (.slice A' n' c') fp']) hX4)
          clear hX4 hd0 hd2 hd5 eL
          have z5 := HS4.out.frz (k := 5) 1 rfl
          have z6 := HS4.out.cell (k := 5) 1 rfl rfl
          have HS5 : Hid (Mm.SepF _ w _ [_, _, _, _, _, _]) := Lib.hid (HS4.out.setBlk (k := 5) 1 rfl (.slice A' n' c'))
          go_wp2
          exact bodyPost_ret (v := .bool true) (by simp [results, Try.results45, go_sem]) rfl ⟨by rw [HE.out], _, by rw [HE.out]; exact (shut_Repl (x := { x with Certain := (Pl.logAt x x.Leader).take cn }) (HS5.out.sel [1, 2, 3, 4, 0] (by decide) rfl) HJ.out.1 HJ.out.2).left⟩
        · have HE : Hid (Pl.rstep r ⟨4,nd,⟨#[]⟩⟩ = (x, true)) := Lib.hid (by rw [HC.out, Pl.rcert_ge (by rw [HCN.out, ← HQ3.out]; exact hct)])
          have f1 : ¬ (n3 : Int) < (cn : Nat) := by omega
          go_wp2
          exact bodyPost_ret (v := .bool true) (by simp [results, Try.results45, go_sem]) rfl ⟨by rw [HE.out], _, by rw [HE.out]; exact (shut_Repl HQ.out HJ.out.1 HJ.out.2).left⟩
end Go.Proofs.Ytihendiakgfpcaa

/-
  Contracts: the program's step of a replication: a node fails, or is back (chapter 9). No conditions beyond those named.
-/
namespace Go.Proofs.Ytihendiakgfpcaa
open Go.RowKit
attribute [local go_sem] und_cell cha_cell World.cell?_alloc_some
theorem Pl.RS.down {r : Repl} (h : RS r) (l : List Bool) : RS { r with Down := l } := ⟨h.n5, h.lead, h.sync5, h.syncIn, h.leadIn, h.len⟩
set_option maxRecDepth 100000 in
set_option maxHeartbeats 4000000 in
theorem stepFail_c (r : Repl) (nd : Int) (g : Nat) (fp : List Nat) (w : World) (h : (Mm.tptr rRepl 31 g r fp).holds w) (hnd : (g :: fp).Nodup) (hw : Pl.RW r) (k0 : 0 ≤ nd) (k1 : nd < r.Logs.length) (_hI : Mm.I64 nd) :
    Calls Try.prog 45 #[.pointer (some ⟨g, 0, none⟩), .agg #[.int .i64 5, .int .i64 nd, .string ⟨#[]⟩]] w (RStepAns g fp w (Pl.rstep r ⟨5, nd, ⟨#[]⟩⟩)) := by
  obtain ⟨A0, n0, c0, A1, n1, c1, A2, n2, c2, A3, n3, c3, f0, f1, f2, f3, rfl, i2, i3, hs⟩ := open_Repl (Mm.SepF.one _ w h hnd)
  have hn0 : n0 = r.Logs.length := by obtain ⟨A', n', c', hv, h1, _⟩ := (hs.sl 1 rfl).form; injection hv with _ h2 _; omega
  have hn1 : n1 = r.Logs.length := by obtain ⟨A', n', c', hv, h1, _⟩ := (hs.sl 2 rfl).form; injection hv with _ h2 _; have := hw.down; omega
  have hn2 : n2 = r.InSync.length := by obtain ⟨A', n', c', hv, h1, _⟩ := (hs.sl 3 rfl).form; injection hv with _ h2 _; omega
  have hsn5 := hw.sync5
  have hp5 := hw.n5
  have hp1 := hw.n1
  have l0 : 0 ≤ r.Leader := hw.lead.1
  have l1 : r.Leader < n1 := by have := hw.lead.2; omega
  obtain ⟨g1, rfl, -, -⟩ := Mm.sl_addr (hs.sl 2 rfl) (by have := hw.down; omega)
  have HI := Lib.hid (And.intro i2 i3)
  have HW := Lib.hid hw
  have HDL : Hid (r.Down[r.Leader.toNat]? = some (Pl.downAt r r.Leader)) := Lib.hid (hw.dat l0 hw.lead.2)
  obtain ⟨gs, hgs⟩ : ∃ gs, w.heap.size = gs := ⟨_, rfl⟩
  have HDN : Hid (r.Down[nd.toNat]? = some (Pl.downAt r nd)) := Lib.hid (hw.dat k0 k1)
  obtain ⟨dn, hdn⟩ : ∃ dn, Pl.downAt r nd = dn := ⟨_, rfl⟩
  obtain ⟨dl, hdl⟩ : ∃ dl, Pl.downAt r r.Leader = dl := ⟨_, rfl⟩
  rw [hdn] at HDN
  rw [hdl] at HDL
  have HED := Lib.hid (And.intro hdl hdn)
  clear hdl hdn
  obtain ⟨W0, hW0⟩ : ∃ W0, w.alloc (.cells #[.int .i64 5, .int .i64 nd, .string ⟨#[]⟩] 53) = W0 := ⟨_, rfl⟩
  have HS := Lib.hid ((hs.alloc' hgs 53 [.int .i64 5, .int .i64 nd, .string ⟨#[]⟩]).atW hW0)
  have hn01 : n1 = n0 := by omega
  have HN := Lib.hid (And.intro hn0 (And.intro hn2 hn01))
  have k1' : nd < n0 := by omega
  have k1'' : nd < n1 := by omega
  have hn05 : n0 ≤ 5 := by omega
  have hn25 : n2 ≤ 5 := by omega
  have fw : IntKind.i64.wrap ((n0 : Int) - 1) = (n0 : Int) - 1 := IntWalk.i64_in _ (by omega)
  have hwi : Pl.isIn nd 0 ((n0 : Int) - 1) = true := Pl.isIn_mk k0 (by omega)
  have CW := fun z : Und W0 => und_same z (within_c nd 0 ((n0 : Int) - 1) (und W0 z))
  rw [hwi] at CW
  clear h hs hnd hw hn0 hn1 hn2 i2 i3 hn01 k1
  have b0 := HS.out.cell (k := 0) 0 rfl rfl
  have b1 := HS.out.cell (k := 1) 0 rfl rfl
  have b2 := HS.out.cell (k := 2) 0 rfl rfl
  have d0 := HS.out.cell (k := 0) 1 rfl rfl
  have d1 := HS.out.cell (k := 1) 1 rfl rfl
  have d2 := HS.out.cell (k := 2) 1 rfl rfl
  have d3 := HS.out.cell (k := 3) 1 rfl rfl
  have d4 := HS.out.cell (k := 4) 1 rfl rfl
  have el := bool_ocell (HS.out.sl 3 rfl) (HS.out.ndat (i := 3) rfl) HDL.out
  have en := bool_ocell (HS.out.sl 3 rfl) (HS.out.ndat (i := 3) rfl) HDN.out
  go_enter Try.func45, Try.ntmps45
  go_wp2
  clear hW0
  refine wp_region_und (by kernel_rfl) (by kernel_rfl) ?_
  repeat (go_big_quiet_step ((first | (go_at_call 43; with_reducible exact CW _))))
  refine wpQuiet_nil ?_
  intro X hX
  clear CW
  have HS1 := Lib.hid (HS.out.step hX)
  clear b0 b1 b2 d0 d1 d2 d3 d4 el en
  obtain ⟨X1, rfl⟩ : ∃ q : World, q = X := ⟨_, rfl⟩
  have b0 := HS1.out.cell (k := 0) 0 rfl rfl
  have b1 := HS1.out.cell (k := 1) 0 rfl rfl
  have b2 := HS1.out.cell (k := 2) 0 rfl rfl
  have d0 := HS1.out.cell (k := 0) 1 rfl rfl
  have d1 := HS1.out.cell (k := 1) 1 rfl rfl
  have d2 := HS1.out.cell (k := 2) 1 rfl rfl
  have d3 := HS1.out.cell (k := 3) 1 rfl rfl
  have d4 := HS1.out.cell (k := 4) 1 rfl rfl
  have el := bool_ocell (HS1.out.sl 3 rfl) (HS1.out.ndat (i := 3) rfl) HDL.out
  have en := bool_ocell (HS1.out.sl 3 rfl) (HS1.out.ndat (i := 3) rfl) HDN.out
  clear hX HS
  have CB := fun z : Und X1 => und_same z (bsInt_c r.InSync nd A2 n2 c2 (und X1 z) X1.heap.size (((HS1.out.sl 4 rfl).weak (HS1.out.sl 4 rfl).olt).und (Nat.le_refl _) z) HW.out.sync (by omega))
  obtain ⟨ip, hip⟩ : ∃ ip, Pl.ipos r.InSync nd = ip := ⟨_, rfl⟩
  obtain ⟨ii, hii⟩ : ∃ ii, Pl.hasI r.InSync nd = ii := ⟨_, rfl⟩
  rw [hip, hii] at CB
  have HIP := Lib.hid hip
  have HII := Lib.hid hii
  clear hip hii fw hwi
  go_wp2
  refine wp_region_und (by kernel_rfl) (by kernel_rfl) ?_
  repeat (go_big_quiet_step ((first | (go_at_call 85; with_reducible exact CB _))))
  refine wpQuiet_nil ?_
  intro X hX
  clear CB
  have HS2 := Lib.hid (HS1.out.step hX)
  clear b0 b1 b2 d0 d1 d2 d3 d4 el en
  obtain ⟨X2, rfl⟩ : ∃ q : World, q = X := ⟨_, rfl⟩
  have b0 := HS2.out.cell (k := 0) 0 rfl rfl
  have b1 := HS2.out.cell (k := 1) 0 rfl rfl
  have b2 := HS2.out.cell (k := 2) 0 rfl rfl
  have d0 := HS2.out.cell (k := 0) 1 rfl rfl
  have d1 := HS2.out.cell (k := 1) 1 rfl rfl
  have d2 := HS2.out.cell (k := 2) 1 rfl rfl
  have d3 := HS2.out.cell (k := 3) 1 rfl rfl
  have d4 := HS2.out.cell (k := 4) 1 rfl rfl
  have el := bool_ocell (HS2.out.sl 3 rfl) (HS2.out.ndat (i := 3) rfl) HDL.out
  have en := bool_ocell (HS2.out.sl 3 rfl) (HS2.out.ndat (i := 3) rfl) HDN.out
  clear hX HS1
  go_wp2
  refine wp_region_und (by kernel_rfl) (by kernel_rfl) ?_
  repeat (go_big_quiet_step ((first | fail)))
  refine wpQuiet_nil ?_
  intro X hX
  have HS3 := Lib.hid (HS2.out.step hX)
  clear b0 b1 b2 d0 d1 d2 d3 d4 el en
  obtain ⟨X3, rfl⟩ : ∃ q : World, q = X := ⟨_, rfl⟩
  have b0 := HS3.out.cell (k := 0) 0 rfl rfl
  have b1 := HS3.out.cell (k := 1) 0 rfl rfl
  have b2 := HS3.out.cell (k := 2) 0 rfl rfl
  have d0 := HS3.out.cell (k := 0) 1 rfl rfl
  have d1 := HS3.out.cell (k := 1) 1 rfl rfl
  have d2 := HS3.out.cell (k := 2) 1 rfl rfl
  have d3 := HS3.out.cell (k := 3) 1 rfl rfl
  have d4 := HS3.out.cell (k := 4) 1 rfl rfl
  have el := bool_ocell (HS3.out.sl 3 rfl) (HS3.out.ndat (i := 3) rfl) HDL.out
  have en := bool_ocell (HS3.out.sl 3 rfl) (HS3.out.ndat (i := 3) rfl) HDN.out
  clear hX HS2
  have bad : ¬ (dn = false) → Pl.rstep r ⟨5, nd, ⟨#[]⟩⟩ = (r, false) := fun hh => Pl.rstep_no' (by
    unfold Pl.rdo
    dsimp only
    rw [if_neg (show ¬ (5 : Int) = 1 by omega), if_neg (by simp [ByteArray.size]; have := HN.out.1; omega), if_neg (show ¬ (5 : Int) = 2 by omega), if_neg (show ¬ (5 : Int) = 3 by omega), if_neg (show ¬ (5 : Int) = 4 by omega), if_pos rfl, HED.out.2, if_neg hh])
  have BAD := Lib.hid bad
  clear bad
  cases dn with
  | true =>
    have HF := Lib.hid (BAD.out (fun hh => by cases hh))
    clear BAD
    go_wp2
    refine wp_region_und (by kernel_rfl) (by kernel_rfl) ?_
    repeat (go_big_quiet_step ((first | fail)))
    refine wpQuiet_nil ?_
    intro X hX
    have HS3' := Lib.hid (HS3.out.step hX)
    clear b0 b1 b2 d0 d1 d2 d3 d4 el en
    obtain ⟨X4, rfl⟩ : ∃ q : World, q = X := ⟨_, rfl⟩
    have b0 := HS3'.out.cell (k := 0) 0 rfl rfl
    have b1 := HS3'.out.cell (k := 1) 0 rfl rfl
    have b2 := HS3'.out.cell (k := 2) 0 rfl rfl
    have d0 := HS3'.out.cell (k := 0) 1 rfl rfl
    have d1 := HS3'.out.cell (k := 1) 1 rfl rfl
    have d2 := HS3'.out.cell (k := 2) 1 rfl rfl
    have d3 := HS3'.out.cell (k := 3) 1 rfl rfl
    have d4 := HS3'.out.cell (k := 4) 1 rfl rfl
    have el := bool_ocell (HS3'.out.sl 3 rfl) (HS3'.out.ndat (i := 3) rfl) HDL.out
    have en := bool_ocell (HS3'.out.sl 3 rfl) (HS3'.out.ndat (i := 3) rfl) HDN.out
    clear hX HS3
    have HS3 := HS3'
    clear HS3'
    obtain ⟨X3, rfl⟩ : ∃ q : World, q = X4 := ⟨_, rfl⟩
    go_wp2
    refine wp_region_und (by kernel_rfl) (by kernel_rfl) ?_
    repeat (go_big_quiet_step ((first | fail)))
    refine wpQuiet_nil ?_
    intro X hX
    have HS3' := Lib.hid (HS3.out.step hX)
    clear b0 b1 b2 d0 d1 d2 d3 d4 el en
    obtain ⟨X4, rfl⟩ : ∃ q : World, q = X := ⟨_, rfl⟩
    have b0 := HS3'.out.cell (k := 0) 0 rfl rfl
    have b1 := HS3'.out.cell (k := 1) 0 rfl rfl
    have b2 := HS3'.out.cell (k := 2) 0 rfl rfl
    have d0 := HS3'.out.cell (k := 0) 1 rfl rfl
    have d1 := HS3'.out.cell (k := 1) 1 rfl rfl
    have d2 := HS3'.out.cell (k := 2) 1 rfl rfl
    have d3 := HS3'.out.cell (k := 3) 1 rfl rfl
    have d4 := HS3'.out.cell (k := 4) 1 rfl rfl
    have el := bool_ocell (HS3'.out.sl 3 rfl) (HS3'.out.ndat (i := 3) rfl) HDL.out
    have en := bool_ocell (HS3'.out.sl 3 rfl) (HS3'.out.ndat (i := 3) rfl) HDN.out
    clear hX HS3
    have HS3 := HS3'
    clear HS3'
    obtain ⟨X3, rfl⟩ : ∃ q : World, q = X4 := ⟨_, rfl⟩
    go_wp2
    refine wp_region_und (by kernel_rfl) (by kernel_rfl) ?_
    repeat (go_big_quiet_step ((first | fail)))
    refine wpQuiet_nil ?_
    intro X hX
    have HS3' := Lib.hid (HS3.out.step hX)
    clear b0 b1 b2 d0 d1 d2 d3 d4 el en
    obtain ⟨X4, rfl⟩ : ∃ q : World, q = X := ⟨_, rfl⟩
    have b0 := HS3'.out.cell (k := 0) 0 rfl rfl
    have b1 := HS3'.out.cell (k := 1) 0 rfl rfl
    have b2 := HS3'.out.cell (k := 2) 0 rfl rfl
    have d0 := HS3'.out.cell (k := 0) 1 rfl rfl
    have d1 := HS3'.out.cell (k := 1) 1 rfl rfl
    have d2 := HS3'.out.cell (k := 2) 1 rfl rfl
    have d3 := HS3'.out.cell (k := 3) 1 rfl rfl
    have d4 := HS3'.out.cell (k := 4) 1 rfl rfl
    have el := bool_ocell (HS3'.out.sl 3 rfl) (HS3'.out.ndat (i := 3) rfl) HDL.out
    have en := bool_ocell (HS3'.out.sl 3 rfl) (HS3'.out.ndat (i := 3) rfl) HDN.out
    clear hX HS3
    have HS3 := HS3'
    clear HS3'
    obtain ⟨X3, rfl⟩ : ∃ q : World, q = X4 := ⟨_, rfl⟩
    go_wp2
    refine wp_region_und (by kernel_rfl) (by kernel_rfl) ?_
    repeat (go_big_quiet_step ((first | fail)))
    refine wpQuiet_nil ?_
    intro X hX
    have HS3' := Lib.hid (HS3.out.step hX)
    clear b0 b1 b2 d0 d1 d2 d3 d4 el en
    obtain ⟨X4, rfl⟩ : ∃ q : World, q = X := ⟨_, rfl⟩
    have b0 := HS3'.out.cell (k := 0) 0 rfl rfl
    have b1 := HS3'.out.cell (k := 1) 0 rfl rfl
    have b2 := HS3'.out.cell (k := 2) 0 rfl rfl
    have d0 := HS3'.out.cell (k := 0) 1 rfl rfl
    have d1 := HS3'.out.cell (k := 1) 1 rfl rfl
    have d2 := HS3'.out.cell (k := 2) 1 rfl rfl
    have d3 := HS3'.out.cell (k := 3) 1 rfl rfl
    have d4 := HS3'.out.cell (k := 4) 1 rfl rfl
    have el := bool_ocell (HS3'.out.sl 3 rfl) (HS3'.out.ndat (i := 3) rfl) HDL.out
    have en := bool_ocell (HS3'.out.sl 3 rfl) (HS3'.out.ndat (i := 3) rfl) HDN.out
    clear hX HS3
    have HS3 := HS3'
    clear HS3'
    obtain ⟨X3, rfl⟩ : ∃ q : World, q = X4 := ⟨_, rfl⟩
    go_wp2
    refine wp_region_und (by kernel_rfl) (by kernel_rfl) ?_
    repeat (go_big_quiet_step ((first | fail)))
    refine wpQuiet_nil ?_
    intro X hX
    have HS3' := Lib.hid (HS3.out.step hX)
    clear b0 b1 b2 d0 d1 d2 d3 d4 el en
    obtain ⟨X4, rfl⟩ : ∃ q : World, q = X := ⟨_, rfl⟩
    have b0 := HS3'.out.cell (k := 0) 0 rfl rfl
    have b1 := HS3'.out.cell (k := 1) 0 rfl rfl
    have b2 := HS3'.out.cell (k := 2) 0 rfl rfl
    have d0 := HS3'.out.cell (k := 0) 1 rfl rfl
    have d1 := HS3'.out.cell (k := 1) 1 rfl rfl
    have d2 := HS3'.out.cell (k := 2) 1 rfl rfl
    have d3 := HS3'.out.cell (k := 3) 1 rfl rfl
    have d4 := HS3'.out.cell (k := 4) 1 rfl rfl
    have el := bool_ocell (HS3'.out.sl 3 rfl) (HS3'.out.ndat (i := 3) rfl) HDL.out
    have en := bool_ocell (HS3'.out.sl 3 rfl) (HS3'.out.ndat (i := 3) rfl) HDN.out
    clear hX HS3
    have HS3 := HS3'
    clear HS3'
    obtain ⟨X3, rfl⟩ : ∃ q : World, q = X4 := ⟨_, rfl⟩
    go_wp2
    exact bodyPost_ret (v := .bool false) (by simp [results, Try.results45, go_sem]) rfl ⟨by rw [HF.out], _, by rw [HF.out]; exact (shut_Repl HS3.out.tail HI.out.1 HI.out.2).left⟩
  | false =>
    have hdo : Pl.rdo r ⟨5, nd, ⟨#[]⟩⟩ = ({ r with Down := r.Down.set nd.toNat true }, true) := by
      unfold Pl.rdo
      dsimp only
      rw [if_neg (show ¬ (5 : Int) = 1 by omega), if_neg (by simp [ByteArray.size]; have := HN.out.1; omega), if_neg (show ¬ (5 : Int) = 2 by omega), if_neg (show ¬ (5 : Int) = 3 by omega), if_neg (show ¬ (5 : Int) = 4 by omega), if_pos rfl, HED.out.2, if_pos rfl]
    have HC := Lib.hid (Pl.rstep_yes hdo)
    clear hdo
    have HRS : Hid (Pl.RS { r with Down := r.Down.set nd.toNat true }) := Lib.hid (Pl.RS.down HW.out.rs _)
    clear BAD
    go_wp2
    refine wp_region_und (by kernel_rfl) (by kernel_rfl) ?_
    repeat (go_big_quiet_step ((first | fail)))
    refine wpQuiet_nil ?_
    intro X hX
    have HS3' := Lib.hid (HS3.out.step hX)
    clear b0 b1 b2 d0 d1 d2 d3 d4 el en
    obtain ⟨X4, rfl⟩ : ∃ q : World, q = X := ⟨_, rfl⟩
    have b0 := HS3'.out.cell (k := 0) 0 rfl rfl
    have b1 := HS3'.out.cell (k := 1) 0 rfl rfl
    have b2 := HS3'.out.cell (k := 2) 0 rfl rfl
    have d0 := HS3'.out.cell (k := 0) 1 rfl rfl
    have d1 := HS3'.out.cell (k := 1) 1 rfl rfl
    have d2 := HS3'.out.cell (k := 2) 1 rfl rfl
    have d3 := HS3'.out.cell (k := 3) 1 rfl rfl
    have d4 := HS3'.out.cell (k := 4) 1 rfl rfl
    have el := bool_ocell (HS3'.out.sl 3 rfl) (HS3'.out.ndat (i := 3) rfl) HDL.out
    have en := bool_ocell (HS3'.out.sl 3 rfl) (HS3'.out.ndat (i := 3) rfl) HDN.out
    clear hX HS3
    have HS3 := HS3'
    clear HS3'
    obtain ⟨X3, rfl⟩ : ∃ q : World, q = X4 := ⟨_, rfl⟩
    go_wp2
    refine wp_region_und (by kernel_rfl) (by kernel_rfl) ?_
    repeat (go_big_quiet_step ((first | fail)))
    refine wpQuiet_nil ?_
    intro X hX
    have HS3' := Lib.hid (HS3.out.step hX)
    clear b0 b1 b2 d0 d1 d2 d3 d4 el en
    obtain ⟨X4, rfl⟩ : ∃ q : World, q = X := ⟨_, rfl⟩
    have b0 := HS3'.out.cell (k := 0) 0 rfl rfl
    have b1 := HS3'.out.cell (k := 1) 0 rfl rfl
    have b2 := HS3'.out.cell (k := 2) 0 rfl rfl
    have d0 := HS3'.out.cell (k := 0) 1 rfl rfl
    have d1 := HS3'.out.cell (k := 1) 1 rfl rfl
    have d2 := HS3'.out.cell (k := 2) 1 rfl rfl
    have d3 := HS3'.out.cell (k := 3) 1 rfl rfl
    have d4 := HS3'.out.cell (k := 4) 1 rfl rfl
    have el := bool_ocell (HS3'.out.sl 3 rfl) (HS3'.out.ndat (i := 3) rfl) HDL.out
    have en := bool_ocell (HS3'.out.sl 3 rfl) (HS3'.out.ndat (i := 3) rfl) HDN.out
    clear hX HS3
    have HS3 := HS3'
    clear HS3'
    obtain ⟨X3, rfl⟩ : ∃ q : World, q = X4 := ⟨_, rfl⟩
    go_wp2
    refine wp_region_und (by kernel_rfl) (by kernel_rfl) ?_
    repeat (go_big_quiet_step ((first | fail)))
    refine wpQuiet_nil ?_
    intro X hX
    have HS3' := Lib.hid (HS3.out.step hX)
    clear b0 b1 b2 d0 d1 d2 d3 d4 el en
    obtain ⟨X4, rfl⟩ : ∃ q : World, q = X := ⟨_, rfl⟩
    have b0 := HS3'.out.cell (k := 0) 0 rfl rfl
    have b1 := HS3'.out.cell (k := 1) 0 rfl rfl
    have b2 := HS3'.out.cell (k := 2) 0 rfl rfl
    have d0 := HS3'.out.cell (k := 0) 1 rfl rfl
    have d1 := HS3'.out.cell (k := 1) 1 rfl rfl
    have d2 := HS3'.out.cell (k := 2) 1 rfl rfl
    have d3 := HS3'.out.cell (k := 3) 1 rfl rfl
    have d4 := HS3'.out.cell (k := 4) 1 rfl rfl
    have el := bool_ocell (HS3'.out.sl 3 rfl) (HS3'.out.ndat (i := 3) rfl) HDL.out
    have en := bool_ocell (HS3'.out.sl 3 rfl) (HS3'.out.ndat (i := 3) rfl) HDN.out
    clear hX HS3
    have HS3 := HS3'
    clear HS3'
    obtain ⟨X3, rfl⟩ : ∃ q : World, q = X4 := ⟨_, rfl⟩
    go_wp2
    refine wp_region_und_tail 10 (by kernel_rfl) (by kernel_rfl) ?_
    simp only [List.take_succ_cons, List.take_zero, List.drop_succ_cons, List.drop_zero]
    repeat (go_big_quiet_step ((first | fail)))
    refine wpQuiet_nil ?_
    intro X hX
    have HS4 := Lib.hid (HS3.out.step hX)
    clear b0 b1 b2 d0 d1 d2 d3 d4 el en
    have e7 := bool_ocell (HS4.out.sl 3 rfl) (HS4.out.ndat (i := 3) rfl) HDN.out
    have z7 := (HS4.out.sl 3 rfl).frozen nd.toNat
    have HS5 := Lib.hid (HS4.out.put1 (k := nd.toNat) 3 rfl rfl HDN.out (x' := true) (u := .bool true) (fun cs fx hh => ⟨rfl, trivial, by obtain ⟨_, _, rfl⟩ := hh; rfl⟩))
    go_upto_region 23 with fail
    have HT := Lib.hid (shut_Repl (x := { r with Down := r.Down.set nd.toNat true }) HS5.out.tail HI.out.1 HI.out.2)
    clear HS3 HS4 HS5 e7 z7
    obtain ⟨XT, hXT⟩ : ∃ XT, X.setCell ⟨g1, nd.toNat, none⟩ (.bool true) = XT := ⟨_, rfl⟩
    rw [hXT] at HT ⊢
    clear hXT
    obtain ⟨x, hx⟩ : ∃ x : Repl, { r with Down := r.Down.set nd.toNat true } = x := ⟨_, rfl⟩
    rw [hx] at HT HRS HC
    clear hx
    obtain ⟨csx, hbk, hown⟩ := HT.out.at_ 0 rfl
    have CC := certain_c x g csx XT XT.heap.size hbk (rRepl.weak hown (rRepl.olt hown)) (Nat.le_refl _) HRS.out
    obtain ⟨cn, hcn⟩ : ∃ cn, Pl.certain x = cn := ⟨_, rfl⟩
    rw [hcn] at CC
    have HCN := Lib.hid hcn
    have hcl := Pl.certain_le x
    have hcl4 := HRS.out.len' x.Leader
    rw [hcn] at hcl
    clear hcn hbk hown
    go_upto_region 24 with (go_at_call 51; (with_reducible refine CC.mono ?_); clear CC; rintro e w7 ⟨rfl, hb7⟩; (have HT2 := Lib.hid (HT.out.step hb7)); clear hb7)
    clear HT
    obtain ⟨A0, n0, c0, A1, n1, c1, A2, n2, c2, A3, n3, c3, q0, q1, q2, q3, hfq, j2, j3, hq⟩ := open_Repl HT2.out
    have HJ := Lib.hid (And.intro j2 j3)
    have HQ := Lib.hid hq
    have hq3 : n3 = x.Certain.length := by obtain ⟨A', n', c', hv, h1, _⟩ := (hq.sl 4 rfl).form; injection hv with _ h2 _; omega
    have hq0 : n0 = x.Logs.length := by obtain ⟨A', n', c', hv, h1, _⟩ := (hq.sl 1 rfl).form; injection hv with _ h2 _; omega
    have HQ3 := Lib.hid hq3
    have hd0 := hq.cell (k := 0) 0 rfl rfl
    have hd2 := hq.cell (k := 2) 0 rfl rfl
    have hd5 := hq.cell (k := 5) 0 rfl rfl
    have ll0 := HRS.out.lead.1
    have ll1 : x.Leader < n0 := by have := HRS.out.lead.2; omega
    obtain ⟨g0', rfl, -, -⟩ := Mm.sl_addr (hq.sl 1 rfl) (by omega)
    obtain ⟨AL, nL, cL, _, hlL, eL⟩ := log_at' ((hq.sl 1 rfl).weak (hq.sl 1 rfl).olt) ll0 ll1
    simp only [Nat.zero_add] at eL
    have HLL := Lib.hid hlL
    have hnL : (Pl.logAt x x.Leader).length = nL := hlL.1
    have hnLc : nL ≤ cL ∧ cL ≤ 9223372036854775807 := by have h1 := hlL.2.1; have h2 := hlL.2.2.1; unfold maxLen at h2; omega
    rw [hnL] at hcl hcl4
    clear hq hq3 hq0 hfq j2 j3 hlL hnL HT2
    by_cases hct : n3 < cn
    · have HE : Hid (Pl.rstep r ⟨5,nd,⟨#[]⟩⟩ = ({ x with Certain := (Pl.logAt x x.Leader).take cn }, true)) := Lib.hid (by rw [HC.out, Pl.rcert_lt (by rw [HCN.out, ← HQ3.out]; exact hct), HCN.out])
      have f1 : (n3 : Int) < (cn : Nat) := by omega
      have f2 : (0 : Int) ≤ (cn : Nat) := by omega
      have f3 : ((cn : Nat) : Int).toNat = cn := by omega
      have f4 : (cn : Int) ≤ (nL : Nat) := by omega
      have f5 : (cn : Int) ≤ (cL : Nat) := by omega
      have f6 : cn ≤ cL := by omega
      have HTK := Lib.hid (HLL.out.take (show cn ≤ nL by omega))
      go_wp2
      refine Mm.wp_region_give 16 (fun i => match i with | 13 => some (Mm.gSl rEntry 111 ((Pl.logAt x x.Leader).take cn)) | _ => none) (fun _ => []) (fun _ => []) (F := []) (D := fun w' => ∃ z : Und w7, w' = und w7 z) (fun X us h => Mm.sep_und h) (by kernel_rfl) (by kernel_rfl) (by kernel_rfl) (Mm.SepF.startDrew _) ?_
      repeat (refine Mm.give_det (by rfl) (by rfl) (by rfl) (fun K hK => ?_); go_big_quiet_op; refine hK _ ?_; clear hK K)
      refine Mm.give_op0 301 (by rfl) rfl (by rfl) (by rfl) (by rfl) (by rfl) Mm.gSl_in (fun others X8 hX8 => ?_) ?_
      · go_wp2_with (go_at_call 90; (with_reducible refine (clEnt_c ((Pl.logAt x x.Leader).take cn) AL cn cL X8 w7.heap.size (HTK.out.keep (w' := X8) fun b hb => hX8.bel0.block b hb) (by omega)).mono ?_); rintro e w5 ⟨A', n', c', fp', rfl, ho, hnd', hnew, hb5⟩)
        exact Mm.gvq_sl hX8 hb5 ho hnd' hnew rfl rfl
      rintro v ds ⟨A', n', c', fp', rfl, rfl, hn'⟩
      simp only [Act.put, List.setIfInBounds_toArray, List.set_cons_succ, List.set_cons_zero]
      repeat (refine Mm.give_det (by rfl) (by rfl) (by rfl) (fun K hK => ?_); go_big_quiet_op; refine hK _ ?_; clear hK K)
      refine Mm.give_nil ?_
      rintro X4 hX4
      have HS4 := Lib.hid (HQ.out.join (us := [Mm.tsl rEntry 111 ((Pl.logAt x x.Leader).take cn) (.slice A' n' c') fp']) hX4)
      clear hX4 hd0 hd2 hd5 eL
      have z5 := HS4.out.frz (k := 5) 1 rfl
      have z6 := HS4.out.cell (k := 5) 1 rfl rfl
      have HS5 : Hid (Mm.SepF _ w _ [_, _, _, _, _, _]) := Lib.hid (HS4.out.setBlk (k := 5) 1 rfl (.slice A' n' c'))
      go_wp2
      exact bodyPost_ret (v := .bool true) (by simp [results, Try.results45, go_sem]) rfl ⟨by rw [HE.out], _, by rw [HE.out]; exact (shut_Repl (x := { x with Certain := (Pl.logAt x x.Leader).take cn }) (HS5.out.sel [1, 2, 3, 4, 0] (by decide) rfl) HJ.out.1 HJ.out.2).left⟩
    · have HE : Hid (Pl.rstep r ⟨5,nd,⟨#[]⟩⟩ = (x, true)) := Lib.hid (by rw [HC.out, Pl.rcert_ge (by rw [HCN.out, ← HQ3.out]; exact hct)])
      have f1 : ¬ (n3 : Int) < (cn : Nat) := by omega
      go_wp2
      exact bodyPost_ret (v := .bool true) (by simp [results, Try.results45, go_sem]) rfl ⟨by rw [HE.out], _, by rw [HE.out]; exact (shut_Repl HQ.out HJ.out.1 HJ.out.2).left⟩
set_option maxRecDepth 100000 in
set_option maxHeartbeats 4000000 in
theorem stepBack_c (r : Repl) (nd : Int) (g : Nat) (fp : List Nat) (w : World) (h : (Mm.tptr rRepl 31 g r fp).holds w) (hnd : (g :: fp).Nodup) (hw : Pl.RW r) (k0 : 0 ≤ nd) (k1 : nd < r.Logs.length) (_hI : Mm.I64 nd) :
    Calls Try.prog 45 #[.pointer (some ⟨g, 0, none⟩), .agg #[.int .i64 6, .int .i64 nd, .string ⟨#[]⟩]] w (RStepAns g fp w (Pl.rstep r ⟨6, nd, ⟨#[]⟩⟩)) := by
  obtain ⟨A0, n0, c0, A1, n1, c1, A2, n2, c2, A3, n3, c3, f0, f1, f2, f3, rfl, i2, i3, hs⟩ := open_Repl (Mm.SepF.one _ w h hnd)
  have hn0 : n0 = r.Logs.length := by obtain ⟨A', n', c', hv, h1, _⟩ := (hs.sl 1 rfl).form; injection hv with _ h2 _; omega
  have hn1 : n1 = r.Logs.length := by obtain ⟨A', n', c', hv, h1, _⟩ := (hs.sl 2 rfl).form; injection hv with _ h2 _; have := hw.down; omega
  have hn2 : n2 = r.InSync.length := by obtain ⟨A', n', c', hv, h1, _⟩ := (hs.sl 3 rfl).form; injection hv with _ h2 _; omega
  have hsn5 := hw.sync5
  have hp5 := hw.n5
  have hp1 := hw.n1
  have l0 : 0 ≤ r.Leader := hw.lead.1
  have l1 : r.Leader < n1 := by have := hw.lead.2; omega
  obtain ⟨g1, rfl, -, -⟩ := Mm.sl_addr (hs.sl 2 rfl) (by have := hw.down; omega)
  have HI := Lib.hid (And.intro i2 i3)
  have HW := Lib.hid hw
  have HDL : Hid (r.Down[r.Leader.toNat]? = some (Pl.downAt r r.Leader)) := Lib.hid (hw.dat l0 hw.lead.2)
  obtain ⟨gs, hgs⟩ : ∃ gs, w.heap.size = gs := ⟨_, rfl⟩
  have HDN : Hid (r.Down[nd.toNat]? = some (Pl.downAt r nd)) := Lib.hid (hw.dat k0 k1)
  obtain ⟨dn, hdn⟩ : ∃ dn, Pl.downAt r nd = dn := ⟨_, rfl⟩
  obtain ⟨dl, hdl⟩ : ∃ dl, Pl.downAt r r.Leader = dl := ⟨_, rfl⟩
  rw [hdn] at HDN
  rw [hdl] at HDL
  have HED := Lib.hid (And.intro hdl hdn)
  clear hdl hdn
  obtain ⟨W0, hW0⟩ : ∃ W0, w.alloc (.cells #[.int .i64 6, .int .i64 nd, .string ⟨#[]⟩] 53) = W0 := ⟨_, rfl⟩
  have HS := Lib.hid ((hs.alloc' hgs 53 [.int .i64 6, .int .i64 nd, .string ⟨#[]⟩]).atW hW0)
  have hn01 : n1 = n0 := by omega
  have HN := Lib.hid (And.intro hn0 (And.intro hn2 hn01))
  have k1' : nd < n0 := by omega
  have k1'' : nd < n1 := by omega
  have hn05 : n0 ≤ 5 := by omega
  have hn25 : n2 ≤ 5 := by omega
  have fw : IntKind.i64.wrap ((n0 : Int) - 1) = (n0 : Int) - 1 := IntWalk.i64_in _ (by omega)
  have hwi : Pl.isIn nd 0 ((n0 : Int) - 1) = true := Pl.isIn_mk k0 (by omega)
  have CW := fun z : Und W0 => und_same z (within_c nd 0 ((n0 : Int) - 1) (und W0 z))
  rw [hwi] at CW
  clear h hs hnd hw hn0 hn1 hn2 i2 i3 hn01 k1
  have b0 := HS.out.cell (k := 0) 0 rfl rfl
  have b1 := HS.out.cell (k := 1) 0 rfl rfl
  have b2 := HS.out.cell (k := 2) 0 rfl rfl
  have d0 := HS.out.cell (k := 0) 1 rfl rfl
  have d1 := HS.out.cell (k := 1) 1 rfl rfl
  have d2 := HS.out.cell (k := 2) 1 rfl rfl
  have d3 := HS.out.cell (k := 3) 1 rfl rfl
  have d4 := HS.out.cell (k := 4) 1 rfl rfl
  have el := bool_ocell (HS.out.sl 3 rfl) (HS.out.ndat (i := 3) rfl) HDL.out
  have en := bool_ocell (HS.out.sl 3 rfl) (HS.out.ndat (i := 3) rfl) HDN.out
  go_enter Try.func45, Try.ntmps45
  go_wp2
  clear hW0
  refine wp_region_und (by kernel_rfl) (by kernel_rfl) ?_
  repeat (go_big_quiet_step ((first | (go_at_call 43; with_reducible exact CW _))))
  refine wpQuiet_nil ?_
  intro X hX
  clear CW
  have HS1 := Lib.hid (HS.out.step hX)
  clear b0 b1 b2 d0 d1 d2 d3 d4 el en
  obtain ⟨X1, rfl⟩ : ∃ q : World, q = X := ⟨_, rfl⟩
  have b0 := HS1.out.cell (k := 0) 0 rfl rfl
  have b1 := HS1.out.cell (k := 1) 0 rfl rfl
  have b2 := HS1.out.cell (k := 2) 0 rfl rfl
  have d0 := HS1.out.cell (k := 0) 1 rfl rfl
  have d1 := HS1.out.cell (k := 1) 1 rfl rfl
  have d2 := HS1.out.cell (k := 2) 1 rfl rfl
  have d3 := HS1.out.cell (k := 3) 1 rfl rfl
  have d4 := HS1.out.cell (k := 4) 1 rfl rfl
  have el := bool_ocell (HS1.out.sl 3 rfl) (HS1.out.ndat (i := 3) rfl) HDL.out
  have en := bool_ocell (HS1.out.sl 3 rfl) (HS1.out.ndat (i := 3) rfl) HDN.out
  clear hX HS
  have CB := fun z : Und X1 => und_same z (bsInt_c r.InSync nd A2 n2 c2 (und X1 z) X1.heap.size (((HS1.out.sl 4 rfl).weak (HS1.out.sl 4 rfl).olt).und (Nat.le_refl _) z) HW.out.sync (by omega))
  obtain ⟨ip, hip⟩ : ∃ ip, Pl.ipos r.InSync nd = ip := ⟨_, rfl⟩
  obtain ⟨ii, hii⟩ : ∃ ii, Pl.hasI r.InSync nd = ii := ⟨_, rfl⟩
  rw [hip, hii] at CB
  have HIP := Lib.hid hip
  have HII := Lib.hid hii
  clear hip hii fw hwi
  go_wp2
  refine wp_region_und (by kernel_rfl) (by kernel_rfl) ?_
  repeat (go_big_quiet_step ((first | (go_at_call 85; with_reducible exact CB _))))
  refine wpQuiet_nil ?_
  intro X hX
  clear CB
  have HS2 := Lib.hid (HS1.out.step hX)
  clear b0 b1 b2 d0 d1 d2 d3 d4 el en
  obtain ⟨X2, rfl⟩ : ∃ q : World, q = X := ⟨_, rfl⟩
  have b0 := HS2.out.cell (k := 0) 0 rfl rfl
  have b1 := HS2.out.cell (k := 1) 0 rfl rfl
  have b2 := HS2.out.cell (k := 2) 0 rfl rfl
  have d0 := HS2.out.cell (k := 0) 1 rfl rfl
  have d1 := HS2.out.cell (k := 1) 1 rfl rfl
  have d2 := HS2.out.cell (k := 2) 1 rfl rfl
  have d3 := HS2.out.cell (k := 3) 1 rfl rfl
  have d4 := HS2.out.cell (k := 4) 1 rfl rfl
  have el := bool_ocell (HS2.out.sl 3 rfl) (HS2.out.ndat (i := 3) rfl) HDL.out
  have en := bool_ocell (HS2.out.sl 3 rfl) (HS2.out.ndat (i := 3) rfl) HDN.out
  clear hX HS1
  go_wp2
  refine wp_region_und (by kernel_rfl) (by kernel_rfl) ?_
  repeat (go_big_quiet_step ((first | fail)))
  refine wpQuiet_nil ?_
  intro X hX
  have HS3 := Lib.hid (HS2.out.step hX)
  clear b0 b1 b2 d0 d1 d2 d3 d4 el en
  obtain ⟨X3, rfl⟩ : ∃ q : World, q = X := ⟨_, rfl⟩
  have b0 := HS3.out.cell (k := 0) 0 rfl rfl
  have b1 := HS3.out.cell (k := 1) 0 rfl rfl
  have b2 := HS3.out.cell (k := 2) 0 rfl rfl
  have d0 := HS3.out.cell (k := 0) 1 rfl rfl
  have d1 := HS3.out.cell (k := 1) 1 rfl rfl
  have d2 := HS3.out.cell (k := 2) 1 rfl rfl
  have d3 := HS3.out.cell (k := 3) 1 rfl rfl
  have d4 := HS3.out.cell (k := 4) 1 rfl rfl
  have el := bool_ocell (HS3.out.sl 3 rfl) (HS3.out.ndat (i := 3) rfl) HDL.out
  have en := bool_ocell (HS3.out.sl 3 rfl) (HS3.out.ndat (i := 3) rfl) HDN.out
  clear hX HS2
  have bad : ¬ (dn = true) → Pl.rstep r ⟨6, nd, ⟨#[]⟩⟩ = (r, false) := fun hh => Pl.rstep_no' (by
    unfold Pl.rdo
    dsimp only
    rw [if_neg (show ¬ (6 : Int) = 1 by omega), if_neg (by simp [ByteArray.size]; have := HN.out.1; omega), if_neg (show ¬ (6 : Int) = 2 by omega), if_neg (show ¬ (6 : Int) = 3 by omega), if_neg (show ¬ (6 : Int) = 4 by omega), if_neg (show ¬ (6 : Int) = 5 by omega), if_pos rfl, HED.out.2, if_neg hh])
  have BAD := Lib.hid bad
  clear bad
  cases dn with
  | false =>
    have HF := Lib.hid (BAD.out (fun hh => by cases hh))
    clear BAD
    go_wp2
    refine wp_region_und (by kernel_rfl) (by kernel_rfl) ?_
    repeat (go_big_quiet_step ((first | fail)))
    refine wpQuiet_nil ?_
    intro X hX
    have HS3' := Lib.hid (HS3.out.step hX)
    clear b0 b1 b2 d0 d1 d2 d3 d4 el en
    obtain ⟨X4, rfl⟩ : ∃ q : World, q = X := ⟨_, rfl⟩
    have b0 := HS3'.out.cell (k := 0) 0 rfl rfl
    have b1 := HS3'.out.cell (k := 1) 0 rfl rfl
    have b2 := HS3'.out.cell (k := 2) 0 rfl rfl
    have d0 := HS3'.out.cell (k := 0) 1 rfl rfl
    have d1 := HS3'.out.cell (k := 1) 1 rfl rfl
    have d2 := HS3'.out.cell (k := 2) 1 rfl rfl
    have d3 := HS3'.out.cell (k := 3) 1 rfl rfl
    have d4 := HS3'.out.cell (k := 4) 1 rfl rfl
    have el := bool_ocell (HS3'.out.sl 3 rfl) (HS3'.out.ndat (i := 3) rfl) HDL.out
    have en := bool_ocell (HS3'.out.sl 3 rfl) (HS3'.out.ndat (i := 3) rfl) HDN.out
    clear hX HS3
    have HS3 := HS3'
    clear HS3'
    obtain ⟨X3, rfl⟩ : ∃ q : World, q = X4 := ⟨_, rfl⟩
    go_wp2
    refine wp_region_und (by kernel_rfl) (by kernel_rfl) ?_
    repeat (go_big_quiet_step ((first | fail)))
    refine wpQuiet_nil ?_
    intro X hX
    have HS3' := Lib.hid (HS3.out.step hX)
    clear b0 b1 b2 d0 d1 d2 d3 d4 el en
    obtain ⟨X4, rfl⟩ : ∃ q : World, q = X := ⟨_, rfl⟩
    have b0 := HS3'.out.cell (k := 0) 0 rfl rfl
    have b1 := HS3'.out.cell (k := 1) 0 rfl rfl
    have b2 := HS3'.out.cell (k := 2) 0 rfl rfl
    have d0 := HS3'.out.cell (k := 0) 1 rfl rfl
    have d1 := HS3'.out.cell (k := 1) 1 rfl rfl
    have d2 := HS3'.out.cell (k := 2) 1 rfl rfl
    have d3 := HS3'.out.cell (k := 3) 1 rfl rfl
    have d4 := HS3'.out.cell (k := 4) 1 rfl rfl
    have el := bool_ocell (HS3'.out.sl 3 rfl) (HS3'.out.ndat (i := 3) rfl) HDL.out
    have en := bool_ocell (HS3'.out.sl 3 rfl) (HS3'.out.ndat (i := 3) rfl) HDN.out
    clear hX HS3
    have HS3 := HS3'
    clear HS3'
    obtain ⟨X3, rfl⟩ : ∃ q : World, q = X4 := ⟨_, rfl⟩
    go_wp2
    refine wp_region_und (by kernel_rfl) (by kernel_rfl) ?_
    repeat (go_big_quiet_step ((first | fail)))
    refine wpQuiet_nil ?_
    intro X hX
    have HS3' := Lib.hid (HS3.out.step hX)
    clear b0 b1 b2 d0 d1 d2 d3 d4 el en
    obtain ⟨X4, rfl⟩ : ∃ q : World, q = X := ⟨_, rfl⟩
    have b0 := HS3'.out.cell (k := 0) 0 rfl rfl
    have b1 := HS3'.out.cell (k := 1) 0 rfl rfl
    have b2 := HS3'.out.cell (k := 2) 0 rfl rfl
    have d0 := HS3'.out.cell (k := 0) 1 rfl rfl
    have d1 := HS3'.out.cell (k := 1) 1 rfl rfl
    have d2 := HS3'.out.cell (k := 2) 1 rfl rfl
    have d3 := HS3'.out.cell (k := 3) 1 rfl rfl
    have d4 := HS3'.out.cell (k := 4) 1 rfl rfl
    have el := bool_ocell (HS3'.out.sl 3 rfl) (HS3'.out.ndat (i := 3) rfl) HDL.out
    have en := bool_ocell (HS3'.out.sl 3 rfl) (HS3'.out.ndat (i := 3) rfl) HDN.out
    clear hX HS3
    have HS3 := HS3'
    clear HS3'
    obtain ⟨X3, rfl⟩ : ∃ q : World, q = X4 := ⟨_, rfl⟩
    go_wp2
    refine wp_region_und (by kernel_rfl) (by kernel_rfl) ?_
    repeat (go_big_quiet_step ((first | fail)))
    refine wpQuiet_nil ?_
    intro X hX
    have HS3' := Lib.hid (HS3.out.step hX)
    clear b0 b1 b2 d0 d1 d2 d3 d4 el en
    obtain ⟨X4, rfl⟩ : ∃ q : World, q = X := ⟨_, rfl⟩
    have b0 := HS3'.out.cell (k := 0) 0 rfl rfl
    have b1 := HS3'.out.cell (k := 1) 0 rfl rfl
    have b2 := HS3'.out.cell (k := 2) 0 rfl rfl
    have d0 := HS3'.out.cell (k := 0) 1 rfl rfl
    have d1 := HS3'.out.cell (k := 1) 1 rfl rfl
    have d2 := HS3'.out.cell (k := 2) 1 rfl rfl
    have d3 := HS3'.out.cell (k := 3) 1 rfl rfl
    have d4 := HS3'.out.cell (k := 4) 1 rfl rfl
    have el := bool_ocell (HS3'.out.sl 3 rfl) (HS3'.out.ndat (i := 3) rfl) HDL.out
    have en := bool_ocell (HS3'.out.sl 3 rfl) (HS3'.out.ndat (i := 3) rfl) HDN.out
    clear hX HS3
    have HS3 := HS3'
    clear HS3'
    obtain ⟨X3, rfl⟩ : ∃ q : World, q = X4 := ⟨_, rfl⟩
    go_wp2
    refine wp_region_und (by kernel_rfl) (by kernel_rfl) ?_
    repeat (go_big_quiet_step ((first | fail)))
    refine wpQuiet_nil ?_
    intro X hX
    have HS3' := Lib.hid (HS3.out.step hX)
    clear b0 b1 b2 d0 d1 d2 d3 d4 el en
    obtain ⟨X4, rfl⟩ : ∃ q : World, q = X := ⟨_, rfl⟩
    have b0 := HS3'.out.cell (k := 0) 0 rfl rfl
    have b1 := HS3'.out.cell (k := 1) 0 rfl rfl
    have b2 := HS3'.out.cell (k := 2) 0 rfl rfl
    have d0 := HS3'.out.cell (k := 0) 1 rfl rfl
    have d1 := HS3'.out.cell (k := 1) 1 rfl rfl
    have d2 := HS3'.out.cell (k := 2) 1 rfl rfl
    have d3 := HS3'.out.cell (k := 3) 1 rfl rfl
    have d4 := HS3'.out.cell (k := 4) 1 rfl rfl
    have el := bool_ocell (HS3'.out.sl 3 rfl) (HS3'.out.ndat (i := 3) rfl) HDL.out
    have en := bool_ocell (HS3'.out.sl 3 rfl) (HS3'.out.ndat (i := 3) rfl) HDN.out
    clear hX HS3
    have HS3 := HS3'
    clear HS3'
    obtain ⟨X3, rfl⟩ : ∃ q : World, q = X4 := ⟨_, rfl⟩
    go_wp2
    exact bodyPost_ret (v := .bool false) (by simp [results, Try.results45, go_sem]) rfl ⟨by rw [HF.out], _, by rw [HF.out]; exact (shut_Repl HS3.out.tail HI.out.1 HI.out.2).left⟩
  | true =>
    have hdo : Pl.rdo r ⟨6, nd, ⟨#[]⟩⟩ = ({ r with Down := r.Down.set nd.toNat false }, true) := by
      unfold Pl.rdo
      dsimp only
      rw [if_neg (show ¬ (6 : Int) = 1 by omega), if_neg (by simp [ByteArray.size]; have := HN.out.1; omega), if_neg (show ¬ (6 : Int) = 2 by omega), if_neg (show ¬ (6 : Int) = 3 by omega), if_neg (show ¬ (6 : Int) = 4 by omega), if_neg (show ¬ (6 : Int) = 5 by omega), if_pos rfl, HED.out.2, if_pos rfl]
    have HC := Lib.hid (Pl.rstep_yes hdo)
    clear hdo
    have HRS : Hid (Pl.RS { r with Down := r.Down.set nd.toNat false }) := Lib.hid (Pl.RS.down HW.out.rs _)
    clear BAD
    go_wp2
    refine wp_region_und (by kernel_rfl) (by kernel_rfl) ?_
    repeat (go_big_quiet_step ((first | fail)))
    refine wpQuiet_nil ?_
    intro X hX
    have HS3' := Lib.hid (HS3.out.step hX)
    clear b0 b1 b2 d0 d1 d2 d3 d4 el en
    obtain ⟨X4, rfl⟩ : ∃ q : World, q = X := ⟨_, rfl⟩
    have b0 := HS3'.out.cell (k := 0) 0 rfl rfl
    have b1 := HS3'.out.cell (k := 1) 0 rfl rfl
    have b2 := HS3'.out.cell (k := 2) 0 rfl rfl
    have d0 := HS3'.out.cell (k := 0) 1 rfl rfl
    have d1 := HS3'.out.cell (k := 1) 1 rfl rfl
    have d2 := HS3'.out.cell (k := 2) 1 rfl rfl
    have d3 := HS3'.out.cell (k := 3) 1 rfl rfl
    have d4 := HS3'.out.cell (k := 4) 1 rfl rfl
    have el := bool_ocell (HS3'.out.sl 3 rfl) (HS3'.out.ndat (i := 3) rfl) HDL.out
    have en := bool_ocell (HS3'.out.sl 3 rfl) (HS3'.out.ndat (i := 3) rfl) HDN.out
    clear hX HS3
    have HS3 := HS3'
    clear HS3'
    obtain ⟨X3, rfl⟩ : ∃ q : World, q = X4 := ⟨_, rfl⟩
    go_wp2
    refine wp_region_und (by kernel_rfl) (by kernel_rfl) ?_
    repeat (go_big_quiet_step ((first | fail)))
    refine wpQuiet_nil ?_
    intro X hX
    have HS3' := Lib.hid (HS3.out.step hX)
    clear b0 b1 b2 d0 d1 d2 d3 d4 el en
    obtain ⟨X4, rfl⟩ : ∃ q : World, q = X := ⟨_, rfl⟩
    have b0 := HS3'.out.cell (k := 0) 0 rfl rfl
    have b1 := HS3'.out.cell (k := 1) 0 rfl rfl
    have b2 := HS3'.out.cell (k := 2) 0 rfl rfl
    have d0 := HS3'.out.cell (k := 0) 1 rfl rfl
    have d1 := HS3'.out.cell (k := 1) 1 rfl rfl
    have d2 := HS3'.out.cell (k := 2) 1 rfl rfl
    have d3 := HS3'.out.cell (k := 3) 1 rfl rfl
    have d4 := HS3'.out.cell (k := 4) 1 rfl rfl
    have el := bool_ocell (HS3'.out.sl 3 rfl) (HS3'.out.ndat (i := 3) rfl) HDL.out
    have en := bool_ocell (HS3'.out.sl 3 rfl) (HS3'.out.ndat (i := 3) rfl) HDN.out
    clear hX HS3
    have HS3 := HS3'
    clear HS3'
    obtain ⟨X3, rfl⟩ : ∃ q : World, q = X4 := ⟨_, rfl⟩
    go_wp2
    refine wp_region_und (by kernel_rfl) (by kernel_rfl) ?_
    repeat (go_big_quiet_step ((first | fail)))
    refine wpQuiet_nil ?_
    intro X hX
    have HS3' := Lib.hid (HS3.out.step hX)
    clear b0 b1 b2 d0 d1 d2 d3 d4 el en
    obtain ⟨X4, rfl⟩ : ∃ q : World, q = X := ⟨_, rfl⟩
    have b0 := HS3'.out.cell (k := 0) 0 rfl rfl
    have b1 := HS3'.out.cell (k := 1) 0 rfl rfl
    have b2 := HS3'.out.cell (k := 2) 0 rfl rfl
    have d0 := HS3'.out.cell (k := 0) 1 rfl rfl
    have d1 := HS3'.out.cell (k := 1) 1 rfl rfl
    have d2 := HS3'.out.cell (k := 2) 1 rfl rfl
    have d3 := HS3'.out.cell (k := 3) 1 rfl rfl
    have d4 := HS3'.out.cell (k := 4) 1 rfl rfl
    have el := bool_ocell (HS3'.out.sl 3 rfl) (HS3'.out.ndat (i := 3) rfl) HDL.out
    have en := bool_ocell (HS3'.out.sl 3 rfl) (HS3'.out.ndat (i := 3) rfl) HDN.out
    clear hX HS3
    have HS3 := HS3'
    clear HS3'
    obtain ⟨X3, rfl⟩ : ∃ q : World, q = X4 := ⟨_, rfl⟩
    go_wp2
    refine wp_region_und (by kernel_rfl) (by kernel_rfl) ?_
    repeat (go_big_quiet_step ((first | fail)))
    refine wpQuiet_nil ?_
    intro X hX
    have HS3' := Lib.hid (HS3.out.step hX)
    clear b0 b1 b2 d0 d1 d2 d3 d4 el en
    obtain ⟨X4, rfl⟩ : ∃ q : World, q = X := ⟨_, rfl⟩
    have b0 := HS3'.out.cell (k := 0) 0 rfl rfl
    have b1 := HS3'.out.cell (k := 1) 0 rfl rfl
    have b2 := HS3'.out.cell (k := 2) 0 rfl rfl
    have d0 := HS3'.out.cell (k := 0) 1 rfl rfl
    have d1 := HS3'.out.cell (k := 1) 1 rfl rfl
    have d2 := HS3'.out.cell (k := 2) 1 rfl rfl
    have d3 := HS3'.out.cell (k := 3) 1 rfl rfl
    have d4 := HS3'.out.cell (k := 4) 1 rfl rfl
    have el := bool_ocell (HS3'.out.sl 3 rfl) (HS3'.out.ndat (i := 3) rfl) HDL.out
    have en := bool_ocell (HS3'.out.sl 3 rfl) (HS3'.out.ndat (i := 3) rfl) HDN.out
    clear hX HS3
    have HS3 := HS3'
    clear HS3'
    obtain ⟨X3, rfl⟩ : ∃ q : World, q = X4 := ⟨_, rfl⟩
    go_wp2
    refine wp_region_und_tail 10 (by kernel_rfl) (by kernel_rfl) ?_
    simp only [List.take_succ_cons, List.take_zero, List.drop_succ_cons, List.drop_zero]
    repeat (go_big_quiet_step ((first | fail)))
    refine wpQuiet_nil ?_
    intro X hX
    have HS4 := Lib.hid (HS3.out.step hX)
    clear b0 b1 b2 d0 d1 d2 d3 d4 el en
    have e7 := bool_ocell (HS4.out.sl 3 rfl) (HS4.out.ndat (i := 3) rfl) HDN.out
    have z7 := (HS4.out.sl 3 rfl).frozen nd.toNat
    have HS5 := Lib.hid (HS4.out.put1 (k := nd.toNat) 3 rfl rfl HDN.out (x' := false) (u := .bool false) (fun cs fx hh => ⟨rfl, trivial, by obtain ⟨_, _, rfl⟩ := hh; rfl⟩))
    go_upto_region 23 with fail
    have HT := Lib.hid (shut_Repl (x := { r with Down := r.Down.set nd.toNat false }) HS5.out.tail HI.out.1 HI.out.2)
    clear HS3 HS4 HS5 e7 z7
    obtain ⟨XT, hXT⟩ : ∃ XT, X.setCell ⟨g1, nd.toNat, none⟩ (.bool false) = XT := ⟨_, rfl⟩
    rw [hXT] at HT ⊢
    clear hXT
    obtain ⟨x, hx⟩ : ∃ x : Repl, { r with Down := r.Down.set nd.toNat false } = x := ⟨_, rfl⟩
    rw [hx] at HT HRS HC
    clear hx
    obtain ⟨csx, hbk, hown⟩ := HT.out.at_ 0 rfl
    have CC := certain_c x g csx XT XT.heap.size hbk (rRepl.weak hown (rRepl.olt hown)) (Nat.le_refl _) HRS.out
    obtain ⟨cn, hcn⟩ : ∃ cn, Pl.certain x = cn := ⟨_, rfl⟩
    rw [hcn] at CC
    have HCN := Lib.hid hcn
    have hcl := Pl.certain_le x
    have hcl4 := HRS.out.len' x.Leader
    rw [hcn] at hcl
    clear hcn hbk hown
    go_upto_region 24 with (go_at_call 51; (with_reducible refine CC.mono ?_); clear CC; rintro e w7 ⟨rfl, hb7⟩; (have HT2 := Lib.hid (HT.out.step hb7)); clear hb7)
    clear HT
    obtain ⟨A0, n0, c0, A1, n1, c1, A2, n2, c2, A3, n3, c3, q0, q1, q2, q3, hfq, j2, j3, hq⟩ := open_Repl HT2.out
    have HJ := Lib.hid (And.intro j2 j3)
    have HQ := Lib.hid hq
    have hq3 : n3 = x.Certain.length := by obtain ⟨A', n', c', hv, h1, _⟩ := (hq.sl 4 rfl).form; injection hv with _ h2 _; omega
    have hq0 : n0 = x.Logs.length := by obtain ⟨A', n', c', hv, h1, _⟩ := (hq.sl 1 rfl).form; injection hv with _ h2 _; omega
    have HQ3 := Lib.hid hq3
    have hd0 := hq.cell (k := 0) 0 rfl rfl
    have hd2 := hq.cell (k := 2) 0 rfl rfl
    have hd5 := hq.cell (k := 5) 0 rfl rfl
    have ll0 := HRS.out.lead.1
    have ll1 : x.Leader < n0 := by have := HRS.out.lead.2; omega
    obtain ⟨g0', rfl, -, -⟩ := Mm.sl_addr (hq.sl 1 rfl) (by omega)
    obtain ⟨AL, nL, cL, _, hlL, eL⟩ := log_at' ((hq.sl 1 rfl).weak (hq.sl 1 rfl).olt) ll0 ll1
    simp only [Nat.zero_add] at eL
    have HLL := Lib.hid hlL
    have hnL : (Pl.logAt x x.Leader).length = nL := hlL.1
    have hnLc : nL ≤ cL ∧ cL ≤ 9223372036854775807 := by have h1 := hlL.2.1; have h2 := hlL.2.2.1; unfold maxLen at h2; omega
    rw [hnL] at hcl hcl4
    clear hq hq3 hq0 hfq j2 j3 hlL hnL HT2
    by_cases hct : n3 < cn
    · have HE : Hid (Pl.rstep r ⟨6,nd,⟨#[]⟩⟩ = ({ x with Certain := (Pl.logAt x x.Leader).take cn }, true)) := Lib.hid (by rw [HC.out, Pl.rcert_lt (by rw [HCN.out, ← HQ3.out]; exact hct), HCN.out])
      have f1 : (n3 : Int) < (cn : Nat) := by omega
      have f2 : (0 : Int) ≤ (cn : Nat) := by omega
      have f3 : ((cn : Nat) : Int).toNat = cn := by omega
      have f4 : (cn : Int) ≤ (nL : Nat) := by omega
      have f5 : (cn : Int) ≤ (cL : Nat) := by omega
      have f6 : cn ≤ cL := by omega
      have HTK := Lib.hid (HLL.out.take (show cn ≤ nL by omega))
      go_wp2
      refine Mm.wp_region_give 16 (fun i => match i with | 13 => some (Mm.gSl rEntry 111 ((Pl.logAt x x.Leader).take cn)) | _ => none) (fun _ => []) (fun _ => []) (F := []) (D := fun w' => ∃ z : Und w7, w' = und w7 z) (fun X us h => Mm.sep_und h) (by kernel_rfl) (by kernel_rfl) (by kernel_rfl) (Mm.SepF.startDrew _) ?_
      repeat (refine Mm.give_det (by rfl) (by rfl) (by rfl) (fun K hK => ?_); go_big_quiet_op; refine hK _ ?_; clear hK K)
      refine Mm.give_op0 301 (by rfl) rfl (by rfl) (by rfl) (by rfl) (by rfl) Mm.gSl_in (fun others X8 hX8 => ?_) ?_
      · go_wp2_with (go_at_call 90; (with_reducible refine (clEnt_c ((Pl.logAt x x.Leader).take cn) AL cn cL X8 w7.heap.size (HTK.out.keep (w' := X8) fun b hb => hX8.bel0.block b hb) (by omega)).mono ?_); rintro e w5 ⟨A', n', c', fp', rfl, ho, hnd', hnew, hb5⟩)
        exact Mm.gvq_sl hX8 hb5 ho hnd' hnew rfl rfl
      rintro v ds ⟨A', n', c', fp', rfl, rfl, hn'⟩
      simp only [Act.put, List.setIfInBounds_toArray, List.set_cons_succ, List.set_cons_zero]
      repeat (refine Mm.give_det (by rfl) (by rfl) (by rfl) (fun K hK => ?_); go_big_quiet_op; refine hK _ ?_; clear hK K)
      refine Mm.give_nil ?_
      rintro X4 hX4
      have HS4 := Lib.hid (HQ.out.join (us := [Mm.tsl rEntry 111 ((Pl.logAt x x.Leader).take cn) (.slice A' n' c') fp']) hX4)
      clear hX4 hd0 hd2 hd5 eL
      have z5 := HS4.out.frz (k := 5) 1 rfl
      have z6 := HS4.out.cell (k := 5) 1 rfl rfl
      have HS5 : Hid (Mm.SepF _ w _ [_, _, _, _, _, _]) := Lib.hid (HS4.out.setBlk (k := 5) 1 rfl (.slice A' n' c'))
      go_wp2
      exact bodyPost_ret (v := .bool true) (by simp [results, Try.results45, go_sem]) rfl ⟨by rw [HE.out], _, by rw [HE.out]; exact (shut_Repl (x := { x with Certain := (Pl.logAt x x.Leader).take cn }) (HS5.out.sel [1, 2, 3, 4, 0] (by decide) rfl) HJ.out.1 HJ.out.2).left⟩
    · have HE : Hid (Pl.rstep r ⟨6,nd,⟨#[]⟩⟩ = (x, true)) := Lib.hid (by rw [HC.out, Pl.rcert_ge (by rw [HCN.out, ← HQ3.out]; exact hct)])
      have f1 : ¬ (n3 : Int) < (cn : Nat) := by omega
      go_wp2
      exact bodyPost_ret (v := .bool true) (by simp [results, Try.results45, go_sem]) rfl ⟨by rw [HE.out], _, by rw [HE.out]; exact (shut_Repl HQ.out HJ.out.1 HJ.out.2).left⟩
end Go.Proofs.Ytihendiakgfpcaa
