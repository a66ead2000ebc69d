/-
  Joined texts, in build order: Ef, Eg, F0, Fk, Fb. Each part says what it proves; no conditions beyond those that a part names.
-/
import Derived.Test.YtihendiakgfpcaaZ05
import Derived.Test.YtihendiakgfpcaaZ06
/-
  Contracts: the program's step of a replication: an election (chapter 9). No conditions beyond those named.
-/
namespace Go.Proofs.Ytihendiakgfpcaa
open Go.RowKit
attribute [local go_sem] und_cell cha_cell World.cell?_alloc_some
theorem Pl.RS.elect {r : Repl} (h : RS r) {k e : Int} (hk : hasI r.InSync k = true) : RS { r with Leader := k, Epoch := e } := ⟨h.n5, h.syncIn k (hasI_iff.1 hk), h.sync5, h.syncIn, hasI_iff.1 hk, h.len⟩
set_option maxRecDepth 100000 in
set_option maxHeartbeats 4000000 in
theorem stepElect_c (r : Repl) (nd : Int) (g : Nat) (fp : List Nat) (w : World) (h : (Mm.tptr rRepl 31 g r fp).holds w) (hnd : (g :: fp).Nodup) (hw : Pl.RW r) (k0 : 0 ≤ nd) (k1 : nd < r.Logs.length) (hI : Mm.I64 nd) :
    Calls Try.prog 45 #[.pointer (some ⟨g, 0, none⟩), .agg #[.int .i64 7, .int .i64 nd, .string ⟨#[]⟩]] w (RStepAns g fp w (Pl.rstep r ⟨7, nd, ⟨#[]⟩⟩)) := by
  obtain ⟨A0, n0, c0, A1, n1, c1, A2, n2, c2, A3, n3, c3, f0, f1, f2, f3, rfl, i2, i3, hs⟩ := open_Repl (Mm.SepF.one _ w h hnd)
  have hn0 : n0 = r.Logs.length := by obtain ⟨A', n', c', hv, h1, _⟩ := (hs.sl 1 rfl).form; injection hv with _ h2 _; omega
  have hn1 : n1 = r.Logs.length := by obtain ⟨A', n', c', hv, h1, _⟩ := (hs.sl 2 rfl).form; injection hv with _ h2 _; have := hw.down; omega
  have hn2 : n2 = r.InSync.length := by obtain ⟨A', n', c', hv, h1, _⟩ := (hs.sl 3 rfl).form; injection hv with _ h2 _; omega
  have hsn5 := hw.sync5
  have hp5 := hw.n5
  have hp1 := hw.n1
  have l0 : 0 ≤ r.Leader := hw.lead.1
  have l1 : r.Leader < n1 := by have := hw.lead.2; omega
  obtain ⟨g1, rfl, -, -⟩ := Mm.sl_addr (hs.sl 2 rfl) (by have := hw.down; omega)
  have HI := Lib.hid (And.intro i2 i3)
  have HW := Lib.hid hw
  have HDL : Hid (r.Down[r.Leader.toNat]? = some (Pl.downAt r r.Leader)) := Lib.hid (hw.dat l0 hw.lead.2)
  obtain ⟨gs, hgs⟩ : ∃ gs, w.heap.size = gs := ⟨_, rfl⟩
  have HDN : Hid (r.Down[nd.toNat]? = some (Pl.downAt r nd)) := Lib.hid (hw.dat k0 k1)
  obtain ⟨dn, hdn⟩ : ∃ dn, Pl.downAt r nd = dn := ⟨_, rfl⟩
  obtain ⟨dl, hdl⟩ : ∃ dl, Pl.downAt r r.Leader = dl := ⟨_, rfl⟩
  rw [hdn] at HDN
  rw [hdl] at HDL
  have HED := Lib.hid (And.intro hdl hdn)
  clear hdl hdn
  obtain ⟨W0, hW0⟩ : ∃ W0, w.alloc (.cells #[.int .i64 7, .int .i64 nd, .string ⟨#[]⟩] 53) = W0 := ⟨_, rfl⟩
  have HS := Lib.hid ((hs.alloc' hgs 53 [.int .i64 7, .int .i64 nd, .string ⟨#[]⟩]).atW hW0)
  have hn01 : n1 = n0 := by omega
  have HN := Lib.hid (And.intro hn0 (And.intro hn2 hn01))
  have k1' : nd < n0 := by omega
  have k1'' : nd < n1 := by omega
  have hn05 : n0 ≤ 5 := by omega
  have hn25 : n2 ≤ 5 := by omega
  have fw : IntKind.i64.wrap ((n0 : Int) - 1) = (n0 : Int) - 1 := IntWalk.i64_in _ (by omega)
  have hwi : Pl.isIn nd 0 ((n0 : Int) - 1) = true := Pl.isIn_mk k0 (by omega)
  have CW := fun z : Und W0 => und_same z (within_c nd 0 ((n0 : Int) - 1) (und W0 z))
  rw [hwi] at CW
  clear h hs hnd hw hn0 hn1 hn2 i2 i3 hn01 k1
  have b0 := HS.out.cell (k := 0) 0 rfl rfl
  have b1 := HS.out.cell (k := 1) 0 rfl rfl
  have b2 := HS.out.cell (k := 2) 0 rfl rfl
  have d0 := HS.out.cell (k := 0) 1 rfl rfl
  have d1 := HS.out.cell (k := 1) 1 rfl rfl
  have d2 := HS.out.cell (k := 2) 1 rfl rfl
  have d3 := HS.out.cell (k := 3) 1 rfl rfl
  have d4 := HS.out.cell (k := 4) 1 rfl rfl
  have el := bool_ocell (HS.out.sl 3 rfl) (HS.out.ndat (i := 3) rfl) HDL.out
  have en := bool_ocell (HS.out.sl 3 rfl) (HS.out.ndat (i := 3) rfl) HDN.out
  go_enter Try.func45, Try.ntmps45
  go_wp2
  clear hW0
  refine wp_region_und (by kernel_rfl) (by kernel_rfl) ?_
  repeat (go_big_quiet_step ((first | (go_at_call 43; with_reducible exact CW _))))
  refine wpQuiet_nil ?_
  intro X hX
  clear CW
  have HS1 := Lib.hid (HS.out.step hX)
  clear b0 b1 b2 d0 d1 d2 d3 d4 el en
  obtain ⟨X1, rfl⟩ : ∃ q : World, q = X := ⟨_, rfl⟩
  have b0 := HS1.out.cell (k := 0) 0 rfl rfl
  have b1 := HS1.out.cell (k := 1) 0 rfl rfl
  have b2 := HS1.out.cell (k := 2) 0 rfl rfl
  have d0 := HS1.out.cell (k := 0) 1 rfl rfl
  have d1 := HS1.out.cell (k := 1) 1 rfl rfl
  have d2 := HS1.out.cell (k := 2) 1 rfl rfl
  have d3 := HS1.out.cell (k := 3) 1 rfl rfl
  have d4 := HS1.out.cell (k := 4) 1 rfl rfl
  have el := bool_ocell (HS1.out.sl 3 rfl) (HS1.out.ndat (i := 3) rfl) HDL.out
  have en := bool_ocell (HS1.out.sl 3 rfl) (HS1.out.ndat (i := 3) rfl) HDN.out
  clear hX HS
  have CB := fun z : Und X1 => und_same z (bsInt_c r.InSync nd A2 n2 c2 (und X1 z) X1.heap.size (((HS1.out.sl 4 rfl).weak (HS1.out.sl 4 rfl).olt).und (Nat.le_refl _) z) HW.out.sync (by omega))
  obtain ⟨ip, hip⟩ : ∃ ip, Pl.ipos r.InSync nd = ip := ⟨_, rfl⟩
  obtain ⟨ii, hii⟩ : ∃ ii, Pl.hasI r.InSync nd = ii := ⟨_, rfl⟩
  rw [hip, hii] at CB
  have HIP := Lib.hid hip
  have HII := Lib.hid hii
  clear hip hii fw hwi
  go_wp2
  refine wp_region_und (by kernel_rfl) (by kernel_rfl) ?_
  repeat (go_big_quiet_step ((first | (go_at_call 85; with_reducible exact CB _))))
  refine wpQuiet_nil ?_
  intro X hX
  clear CB
  have HS2 := Lib.hid (HS1.out.step hX)
  clear b0 b1 b2 d0 d1 d2 d3 d4 el en
  obtain ⟨X2, rfl⟩ : ∃ q : World, q = X := ⟨_, rfl⟩
  have b0 := HS2.out.cell (k := 0) 0 rfl rfl
  have b1 := HS2.out.cell (k := 1) 0 rfl rfl
  have b2 := HS2.out.cell (k := 2) 0 rfl rfl
  have d0 := HS2.out.cell (k := 0) 1 rfl rfl
  have d1 := HS2.out.cell (k := 1) 1 rfl rfl
  have d2 := HS2.out.cell (k := 2) 1 rfl rfl
  have d3 := HS2.out.cell (k := 3) 1 rfl rfl
  have d4 := HS2.out.cell (k := 4) 1 rfl rfl
  have el := bool_ocell (HS2.out.sl 3 rfl) (HS2.out.ndat (i := 3) rfl) HDL.out
  have en := bool_ocell (HS2.out.sl 3 rfl) (HS2.out.ndat (i := 3) rfl) HDN.out
  clear hX HS1
  go_wp2
  refine wp_region_und (by kernel_rfl) (by kernel_rfl) ?_
  repeat (go_big_quiet_step ((first | fail)))
  refine wpQuiet_nil ?_
  intro X hX
  have HS3 := Lib.hid (HS2.out.step hX)
  clear b0 b1 b2 d0 d1 d2 d3 d4 el en
  obtain ⟨X3, rfl⟩ : ∃ q : World, q = X := ⟨_, rfl⟩
  have b0 := HS3.out.cell (k := 0) 0 rfl rfl
  have b1 := HS3.out.cell (k := 1) 0 rfl rfl
  have b2 := HS3.out.cell (k := 2) 0 rfl rfl
  have d0 := HS3.out.cell (k := 0) 1 rfl rfl
  have d1 := HS3.out.cell (k := 1) 1 rfl rfl
  have d2 := HS3.out.cell (k := 2) 1 rfl rfl
  have d3 := HS3.out.cell (k := 3) 1 rfl rfl
  have d4 := HS3.out.cell (k := 4) 1 rfl rfl
  have el := bool_ocell (HS3.out.sl 3 rfl) (HS3.out.ndat (i := 3) rfl) HDL.out
  have en := bool_ocell (HS3.out.sl 3 rfl) (HS3.out.ndat (i := 3) rfl) HDN.out
  clear hX HS2
  have bad : ¬ (ii = true ∧ dn = false ∧ r.Epoch < 1000) → Pl.rstep r ⟨7, nd, ⟨#[]⟩⟩ = (r, false) := fun hh => Pl.rstep_no' (by
    unfold Pl.rdo
    dsimp only
    rw [if_neg (show ¬ (7 : Int) = 1 by omega), if_neg (by simp [ByteArray.size]; have := HN.out.1; omega), if_neg (show ¬ (7 : Int) = 2 by omega), if_neg (show ¬ (7 : Int) = 3 by omega), if_neg (show ¬ (7 : Int) = 4 by omega), if_neg (show ¬ (7 : Int) = 5 by omega), if_neg (show ¬ (7 : Int) = 6 by omega), if_pos rfl, HII.out, HED.out.2, if_neg hh])
  have BAD := Lib.hid bad
  clear bad
  cases ii with
  | false =>
    have HF := Lib.hid (BAD.out (fun hh => by cases hh.1))
    clear BAD
    go_wp2
    refine wp_region_und (by kernel_rfl) (by kernel_rfl) ?_
    repeat (go_big_quiet_step ((first | fail)))
    refine wpQuiet_nil ?_
    intro X hX
    have HS3' := Lib.hid (HS3.out.step hX)
    clear b0 b1 b2 d0 d1 d2 d3 d4 el en
    obtain ⟨X4, rfl⟩ : ∃ q : World, q = X := ⟨_, rfl⟩
    have b0 := HS3'.out.cell (k := 0) 0 rfl rfl
    have b1 := HS3'.out.cell (k := 1) 0 rfl rfl
    have b2 := HS3'.out.cell (k := 2) 0 rfl rfl
    have d0 := HS3'.out.cell (k := 0) 1 rfl rfl
    have d1 := HS3'.out.cell (k := 1) 1 rfl rfl
    have d2 := HS3'.out.cell (k := 2) 1 rfl rfl
    have d3 := HS3'.out.cell (k := 3) 1 rfl rfl
    have d4 := HS3'.out.cell (k := 4) 1 rfl rfl
    have el := bool_ocell (HS3'.out.sl 3 rfl) (HS3'.out.ndat (i := 3) rfl) HDL.out
    have en := bool_ocell (HS3'.out.sl 3 rfl) (HS3'.out.ndat (i := 3) rfl) HDN.out
    clear hX HS3
    have HS3 := HS3'
    clear HS3'
    obtain ⟨X3, rfl⟩ : ∃ q : World, q = X4 := ⟨_, rfl⟩
    go_wp2
    refine wp_region_und (by kernel_rfl) (by kernel_rfl) ?_
    repeat (go_big_quiet_step ((first | fail)))
    refine wpQuiet_nil ?_
    intro X hX
    have HS3' := Lib.hid (HS3.out.step hX)
    clear b0 b1 b2 d0 d1 d2 d3 d4 el en
    obtain ⟨X4, rfl⟩ : ∃ q : World, q = X := ⟨_, rfl⟩
    have b0 := HS3'.out.cell (k := 0) 0 rfl rfl
    have b1 := HS3'.out.cell (k := 1) 0 rfl rfl
    have b2 := HS3'.out.cell (k := 2) 0 rfl rfl
    have d0 := HS3'.out.cell (k := 0) 1 rfl rfl
    have d1 := HS3'.out.cell (k := 1) 1 rfl rfl
    have d2 := HS3'.out.cell (k := 2) 1 rfl rfl
    have d3 := HS3'.out.cell (k := 3) 1 rfl rfl
    have d4 := HS3'.out.cell (k := 4) 1 rfl rfl
    have el := bool_ocell (HS3'.out.sl 3 rfl) (HS3'.out.ndat (i := 3) rfl) HDL.out
    have en := bool_ocell (HS3'.out.sl 3 rfl) (HS3'.out.ndat (i := 3) rfl) HDN.out
    clear hX HS3
    have HS3 := HS3'
    clear HS3'
    obtain ⟨X3, rfl⟩ : ∃ q : World, q = X4 := ⟨_, rfl⟩
    go_wp2
    refine wp_region_und (by kernel_rfl) (by kernel_rfl) ?_
    repeat (go_big_quiet_step ((first | fail)))
    refine wpQuiet_nil ?_
    intro X hX
    have HS3' := Lib.hid (HS3.out.step hX)
    clear b0 b1 b2 d0 d1 d2 d3 d4 el en
    obtain ⟨X4, rfl⟩ : ∃ q : World, q = X := ⟨_, rfl⟩
    have b0 := HS3'.out.cell (k := 0) 0 rfl rfl
    have b1 := HS3'.out.cell (k := 1) 0 rfl rfl
    have b2 := HS3'.out.cell (k := 2) 0 rfl rfl
    have d0 := HS3'.out.cell (k := 0) 1 rfl rfl
    have d1 := HS3'.out.cell (k := 1) 1 rfl rfl
    have d2 := HS3'.out.cell (k := 2) 1 rfl rfl
    have d3 := HS3'.out.cell (k := 3) 1 rfl rfl
    have d4 := HS3'.out.cell (k := 4) 1 rfl rfl
    have el := bool_ocell (HS3'.out.sl 3 rfl) (HS3'.out.ndat (i := 3) rfl) HDL.out
    have en := bool_ocell (HS3'.out.sl 3 rfl) (HS3'.out.ndat (i := 3) rfl) HDN.out
    clear hX HS3
    have HS3 := HS3'
    clear HS3'
    obtain ⟨X3, rfl⟩ : ∃ q : World, q = X4 := ⟨_, rfl⟩
    go_wp2
    refine wp_region_und (by kernel_rfl) (by kernel_rfl) ?_
    repeat (go_big_quiet_step ((first | fail)))
    refine wpQuiet_nil ?_
    intro X hX
    have HS3' := Lib.hid (HS3.out.step hX)
    clear b0 b1 b2 d0 d1 d2 d3 d4 el en
    obtain ⟨X4, rfl⟩ : ∃ q : World, q = X := ⟨_, rfl⟩
    have b0 := HS3'.out.cell (k := 0) 0 rfl rfl
    have b1 := HS3'.out.cell (k := 1) 0 rfl rfl
    have b2 := HS3'.out.cell (k := 2) 0 rfl rfl
    have d0 := HS3'.out.cell (k := 0) 1 rfl rfl
    have d1 := HS3'.out.cell (k := 1) 1 rfl rfl
    have d2 := HS3'.out.cell (k := 2) 1 rfl rfl
    have d3 := HS3'.out.cell (k := 3) 1 rfl rfl
    have d4 := HS3'.out.cell (k := 4) 1 rfl rfl
    have el := bool_ocell (HS3'.out.sl 3 rfl) (HS3'.out.ndat (i := 3) rfl) HDL.out
    have en := bool_ocell (HS3'.out.sl 3 rfl) (HS3'.out.ndat (i := 3) rfl) HDN.out
    clear hX HS3
    have HS3 := HS3'
    clear HS3'
    obtain ⟨X3, rfl⟩ : ∃ q : World, q = X4 := ⟨_, rfl⟩
    go_wp2
    refine wp_region_und (by kernel_rfl) (by kernel_rfl) ?_
    repeat (go_big_quiet_step ((first | fail)))
    refine wpQuiet_nil ?_
    intro X hX
    have HS3' := Lib.hid (HS3.out.step hX)
    clear b0 b1 b2 d0 d1 d2 d3 d4 el en
    obtain ⟨X4, rfl⟩ : ∃ q : World, q = X := ⟨_, rfl⟩
    have b0 := HS3'.out.cell (k := 0) 0 rfl rfl
    have b1 := HS3'.out.cell (k := 1) 0 rfl rfl
    have b2 := HS3'.out.cell (k := 2) 0 rfl rfl
    have d0 := HS3'.out.cell (k := 0) 1 rfl rfl
    have d1 := HS3'.out.cell (k := 1) 1 rfl rfl
    have d2 := HS3'.out.cell (k := 2) 1 rfl rfl
    have d3 := HS3'.out.cell (k := 3) 1 rfl rfl
    have d4 := HS3'.out.cell (k := 4) 1 rfl rfl
    have el := bool_ocell (HS3'.out.sl 3 rfl) (HS3'.out.ndat (i := 3) rfl) HDL.out
    have en := bool_ocell (HS3'.out.sl 3 rfl) (HS3'.out.ndat (i := 3) rfl) HDN.out
    clear hX HS3
    have HS3 := HS3'
    clear HS3'
    obtain ⟨X3, rfl⟩ : ∃ q : World, q = X4 := ⟨_, rfl⟩
    go_wp2
    exact bodyPost_ret (v := .bool false) (by simp [results, Try.results45, go_sem]) rfl ⟨by rw [HF.out], _, by rw [HF.out]; exact (shut_Repl HS3.out.tail HI.out.1 HI.out.2).left⟩
  | true =>
    cases dn with
    | true =>
      have HF := Lib.hid (BAD.out (fun hh => by cases hh.2.1))
      clear BAD
      go_wp2
      refine wp_region_und (by kernel_rfl) (by kernel_rfl) ?_
      repeat (go_big_quiet_step ((first | fail)))
      refine wpQuiet_nil ?_
      intro X hX
      have HS3' := Lib.hid (HS3.out.step hX)
      clear b0 b1 b2 d0 d1 d2 d3 d4 el en
      obtain ⟨X4, rfl⟩ : ∃ q : World, q = X := ⟨_, rfl⟩
      have b0 := HS3'.out.cell (k := 0) 0 rfl rfl
      have b1 := HS3'.out.cell (k := 1) 0 rfl rfl
      have b2 := HS3'.out.cell (k := 2) 0 rfl rfl
      have d0 := HS3'.out.cell (k := 0) 1 rfl rfl
      have d1 := HS3'.out.cell (k := 1) 1 rfl rfl
      have d2 := HS3'.out.cell (k := 2) 1 rfl rfl
      have d3 := HS3'.out.cell (k := 3) 1 rfl rfl
      have d4 := HS3'.out.cell (k := 4) 1 rfl rfl
      have el := bool_ocell (HS3'.out.sl 3 rfl) (HS3'.out.ndat (i := 3) rfl) HDL.out
      have en := bool_ocell (HS3'.out.sl 3 rfl) (HS3'.out.ndat (i := 3) rfl) HDN.out
      clear hX HS3
      have HS3 := HS3'
      clear HS3'
      obtain ⟨X3, rfl⟩ : ∃ q : World, q = X4 := ⟨_, rfl⟩
      go_wp2
      refine wp_region_und (by kernel_rfl) (by kernel_rfl) ?_
      repeat (go_big_quiet_step ((first | fail)))
      refine wpQuiet_nil ?_
      intro X hX
      have HS3' := Lib.hid (HS3.out.step hX)
      clear b0 b1 b2 d0 d1 d2 d3 d4 el en
      obtain ⟨X4, rfl⟩ : ∃ q : World, q = X := ⟨_, rfl⟩
      have b0 := HS3'.out.cell (k := 0) 0 rfl rfl
      have b1 := HS3'.out.cell (k := 1) 0 rfl rfl
      have b2 := HS3'.out.cell (k := 2) 0 rfl rfl
      have d0 := HS3'.out.cell (k := 0) 1 rfl rfl
      have d1 := HS3'.out.cell (k := 1) 1 rfl rfl
      have d2 := HS3'.out.cell (k := 2) 1 rfl rfl
      have d3 := HS3'.out.cell (k := 3) 1 rfl rfl
      have d4 := HS3'.out.cell (k := 4) 1 rfl rfl
      have el := bool_ocell (HS3'.out.sl 3 rfl) (HS3'.out.ndat (i := 3) rfl) HDL.out
      have en := bool_ocell (HS3'.out.sl 3 rfl) (HS3'.out.ndat (i := 3) rfl) HDN.out
      clear hX HS3
      have HS3 := HS3'
      clear HS3'
      obtain ⟨X3, rfl⟩ : ∃ q : World, q = X4 := ⟨_, rfl⟩
      go_wp2
      refine wp_region_und (by kernel_rfl) (by kernel_rfl) ?_
      repeat (go_big_quiet_step ((first | fail)))
      refine wpQuiet_nil ?_
      intro X hX
      have HS3' := Lib.hid (HS3.out.step hX)
      clear b0 b1 b2 d0 d1 d2 d3 d4 el en
      obtain ⟨X4, rfl⟩ : ∃ q : World, q = X := ⟨_, rfl⟩
      have b0 := HS3'.out.cell (k := 0) 0 rfl rfl
      have b1 := HS3'.out.cell (k := 1) 0 rfl rfl
      have b2 := HS3'.out.cell (k := 2) 0 rfl rfl
      have d0 := HS3'.out.cell (k := 0) 1 rfl rfl
      have d1 := HS3'.out.cell (k := 1) 1 rfl rfl
      have d2 := HS3'.out.cell (k := 2) 1 rfl rfl
      have d3 := HS3'.out.cell (k := 3) 1 rfl rfl
      have d4 := HS3'.out.cell (k := 4) 1 rfl rfl
      have el := bool_ocell (HS3'.out.sl 3 rfl) (HS3'.out.ndat (i := 3) rfl) HDL.out
      have en := bool_ocell (HS3'.out.sl 3 rfl) (HS3'.out.ndat (i := 3) rfl) HDN.out
      clear hX HS3
      have HS3 := HS3'
      clear HS3'
      obtain ⟨X3, rfl⟩ : ∃ q : World, q = X4 := ⟨_, rfl⟩
      go_wp2
      refine wp_region_und (by kernel_rfl) (by kernel_rfl) ?_
      repeat (go_big_quiet_step ((first | fail)))
      refine wpQuiet_nil ?_
      intro X hX
      have HS3' := Lib.hid (HS3.out.step hX)
      clear b0 b1 b2 d0 d1 d2 d3 d4 el en
      obtain ⟨X4, rfl⟩ : ∃ q : World, q = X := ⟨_, rfl⟩
      have b0 := HS3'.out.cell (k := 0) 0 rfl rfl
      have b1 := HS3'.out.cell (k := 1) 0 rfl rfl
      have b2 := HS3'.out.cell (k := 2) 0 rfl rfl
      have d0 := HS3'.out.cell (k := 0) 1 rfl rfl
      have d1 := HS3'.out.cell (k := 1) 1 rfl rfl
      have d2 := HS3'.out.cell (k := 2) 1 rfl rfl
      have d3 := HS3'.out.cell (k := 3) 1 rfl rfl
      have d4 := HS3'.out.cell (k := 4) 1 rfl rfl
      have el := bool_ocell (HS3'.out.sl 3 rfl) (HS3'.out.ndat (i := 3) rfl) HDL.out
      have en := bool_ocell (HS3'.out.sl 3 rfl) (HS3'.out.ndat (i := 3) rfl) HDN.out
      clear hX HS3
      have HS3 := HS3'
      clear HS3'
      obtain ⟨X3, rfl⟩ : ∃ q : World, q = X4 := ⟨_, rfl⟩
      go_wp2
      refine wp_region_und (by kernel_rfl) (by kernel_rfl) ?_
      repeat (go_big_quiet_step ((first | fail)))
      refine wpQuiet_nil ?_
      intro X hX
      have HS3' := Lib.hid (HS3.out.step hX)
      clear b0 b1 b2 d0 d1 d2 d3 d4 el en
      obtain ⟨X4, rfl⟩ : ∃ q : World, q = X := ⟨_, rfl⟩
      have b0 := HS3'.out.cell (k := 0) 0 rfl rfl
      have b1 := HS3'.out.cell (k := 1) 0 rfl rfl
      have b2 := HS3'.out.cell (k := 2) 0 rfl rfl
      have d0 := HS3'.out.cell (k := 0) 1 rfl rfl
      have d1 := HS3'.out.cell (k := 1) 1 rfl rfl
      have d2 := HS3'.out.cell (k := 2) 1 rfl rfl
      have d3 := HS3'.out.cell (k := 3) 1 rfl rfl
      have d4 := HS3'.out.cell (k := 4) 1 rfl rfl
      have el := bool_ocell (HS3'.out.sl 3 rfl) (HS3'.out.ndat (i := 3) rfl) HDL.out
      have en := bool_ocell (HS3'.out.sl 3 rfl) (HS3'.out.ndat (i := 3) rfl) HDN.out
      clear hX HS3
      have HS3 := HS3'
      clear HS3'
      obtain ⟨X3, rfl⟩ : ∃ q : World, q = X4 := ⟨_, rfl⟩
      go_wp2
      exact bodyPost_ret (v := .bool false) (by simp [results, Try.results45, go_sem]) rfl ⟨by rw [HF.out], _, by rw [HF.out]; exact (shut_Repl HS3.out.tail HI.out.1 HI.out.2).left⟩
    | false =>
      by_cases hep : r.Epoch < 1000
      rotate_left
      · have f1 : decide (r.Epoch < 1000) = false := by simpa using hep
        have HF := Lib.hid (BAD.out (fun hh => hep hh.2.2))
        clear BAD hep
        go_wp2
        refine wp_region_und (by kernel_rfl) (by kernel_rfl) ?_
        repeat (go_big_quiet_step ((first | fail)))
        refine wpQuiet_nil ?_
        intro X hX
        have HS3' := Lib.hid (HS3.out.step hX)
        clear b0 b1 b2 d0 d1 d2 d3 d4 el en
        obtain ⟨X4, rfl⟩ : ∃ q : World, q = X := ⟨_, rfl⟩
        have b0 := HS3'.out.cell (k := 0) 0 rfl rfl
        have b1 := HS3'.out.cell (k := 1) 0 rfl rfl
        have b2 := HS3'.out.cell (k := 2) 0 rfl rfl
        have d0 := HS3'.out.cell (k := 0) 1 rfl rfl
        have d1 := HS3'.out.cell (k := 1) 1 rfl rfl
        have d2 := HS3'.out.cell (k := 2) 1 rfl rfl
        have d3 := HS3'.out.cell (k := 3) 1 rfl rfl
        have d4 := HS3'.out.cell (k := 4) 1 rfl rfl
        have el := bool_ocell (HS3'.out.sl 3 rfl) (HS3'.out.ndat (i := 3) rfl) HDL.out
        have en := bool_ocell (HS3'.out.sl 3 rfl) (HS3'.out.ndat (i := 3) rfl) HDN.out
        clear hX HS3
        have HS3 := HS3'
        clear HS3'
        obtain ⟨X3, rfl⟩ : ∃ q : World, q = X4 := ⟨_, rfl⟩
        go_wp2
        refine wp_region_und (by kernel_rfl) (by kernel_rfl) ?_
        repeat (go_big_quiet_step ((first | fail)))
        refine wpQuiet_nil ?_
        intro X hX
        have HS3' := Lib.hid (HS3.out.step hX)
        clear b0 b1 b2 d0 d1 d2 d3 d4 el en
        obtain ⟨X4, rfl⟩ : ∃ q : World, q = X := ⟨_, rfl⟩
        have b0 := HS3'.out.cell (k := 0) 0 rfl rfl
        have b1 := HS3'.out.cell (k := 1) 0 rfl rfl
        have b2 := HS3'.out.cell (k := 2) 0 rfl rfl
        have d0 := HS3'.out.cell (k := 0) 1 rfl rfl
        have d1 := HS3'.out.cell (k := 1) 1 rfl rfl
        have d2 := HS3'.out.cell (k := 2) 1 rfl rfl
        have d3 := HS3'.out.cell (k := 3) 1 rfl rfl
        have d4 := HS3'.out.cell (k := 4) 1 rfl rfl
        have el := bool_ocell (HS3'.out.sl 3 rfl) (HS3'.out.ndat (i := 3) rfl) HDL.out
        have en := bool_ocell (HS3'.out.sl 3 rfl) (HS3'.out.ndat (i := 3) rfl) HDN.out
        clear hX HS3
        have HS3 := HS3'
        clear HS3'
        obtain ⟨X3, rfl⟩ : ∃ q : World, q = X4 := ⟨_, rfl⟩
        go_wp2
        refine wp_region_und (by kernel_rfl) (by kernel_rfl) ?_
        repeat (go_big_quiet_step ((first | fail)))
        refine wpQuiet_nil ?_
        intro X hX
        have HS3' := Lib.hid (HS3.out.step hX)
        clear b0 b1 b2 d0 d1 d2 d3 d4 el en
        obtain ⟨X4, rfl⟩ : ∃ q : World, q = X := ⟨_, rfl⟩
        have b0 := HS3'.out.cell (k := 0) 0 rfl rfl
        have b1 := HS3'.out.cell (k := 1) 0 rfl rfl
        have b2 := HS3'.out.cell (k := 2) 0 rfl rfl
        have d0 := HS3'.out.cell (k := 0) 1 rfl rfl
        have d1 := HS3'.out.cell (k := 1) 1 rfl rfl
        have d2 := HS3'.out.cell (k := 2) 1 rfl rfl
        have d3 := HS3'.out.cell (k := 3) 1 rfl rfl
        have d4 := HS3'.out.cell (k := 4) 1 rfl rfl
        have el := bool_ocell (HS3'.out.sl 3 rfl) (HS3'.out.ndat (i := 3) rfl) HDL.out
        have en := bool_ocell (HS3'.out.sl 3 rfl) (HS3'.out.ndat (i := 3) rfl) HDN.out
        clear hX HS3
        have HS3 := HS3'
        clear HS3'
        obtain ⟨X3, rfl⟩ : ∃ q : World, q = X4 := ⟨_, rfl⟩
        go_wp2
        refine wp_region_und (by kernel_rfl) (by kernel_rfl) ?_
        repeat (go_big_quiet_step ((first | fail)))
        refine wpQuiet_nil ?_
        intro X hX
        have HS3' := Lib.hid (HS3.out.step hX)
        clear b0 b1 b2 d0 d1 d2 d3 d4 el en
        obtain ⟨X4, rfl⟩ : ∃ q : World, q = X := ⟨_, rfl⟩
        have b0 := HS3'.out.cell (k := 0) 0 rfl rfl
        have b1 := HS3'.out.cell (k := 1) 0 rfl rfl
        have b2 := HS3'.out.cell (k := 2) 0 rfl rfl
        have d0 := HS3'.out.cell (k := 0) 1 rfl rfl
        have d1 := HS3'.out.cell (k := 1) 1 rfl rfl
        have d2 := HS3'.out.cell (k := 2) 1 rfl rfl
        have d3 := HS3'.out.cell (k := 3) 1 rfl rfl
        have d4 := HS3'.out.cell (k := 4) 1 rfl rfl
        have el := bool_ocell (HS3'.out.sl 3 rfl) (HS3'.out.ndat (i := 3) rfl) HDL.out
        have en := bool_ocell (HS3'.out.sl 3 rfl) (HS3'.out.ndat (i := 3) rfl) HDN.out
        clear hX HS3
        have HS3 := HS3'
        clear HS3'
        obtain ⟨X3, rfl⟩ : ∃ q : World, q = X4 := ⟨_, rfl⟩
        go_wp2
        refine wp_region_und (by kernel_rfl) (by kernel_rfl) ?_
        repeat (go_big_quiet_step ((first | fail)))
        refine wpQuiet_nil ?_
        intro X hX
        have HS3' := Lib.hid (HS3.out.step hX)
        clear b0 b1 b2 d0 d1 d2 d3 d4 el en
        obtain ⟨X4, rfl⟩ : ∃ q : World, q = X := ⟨_, rfl⟩
        have b0 := HS3'.out.cell (k := 0) 0 rfl rfl
        have b1 := HS3'.out.cell (k := 1) 0 rfl rfl
        have b2 := HS3'.out.cell (k := 2) 0 rfl rfl
        have d0 := HS3'.out.cell (k := 0) 1 rfl rfl
        have d1 := HS3'.out.cell (k := 1) 1 rfl rfl
        have d2 := HS3'.out.cell (k := 2) 1 rfl rfl
        have d3 := HS3'.out.cell (k := 3) 1 rfl rfl
        have d4 := HS3'.out.cell (k := 4) 1 rfl rfl
        have el := bool_ocell (HS3'.out.sl 3 rfl) (HS3'.out.ndat (i := 3) rfl) HDL.out
        have en := bool_ocell (HS3'.out.sl 3 rfl) (HS3'.out.ndat (i := 3) rfl) HDN.out
        clear hX HS3
        have HS3 := HS3'
        clear HS3'
        obtain ⟨X3, rfl⟩ : ∃ q : World, q = X4 := ⟨_, rfl⟩
        go_wp2
        exact bodyPost_ret (v := .bool false) (by simp [results, Try.results45, go_sem]) rfl ⟨by rw [HF.out], _, by rw [HF.out]; exact (shut_Repl HS3.out.tail HI.out.1 HI.out.2).left⟩
      · have f1 : decide (r.Epoch < 1000) = true := by simpa using hep
        have hep1 := HW.out.epoch.1
        have hdo : Pl.rdo r ⟨7, nd, ⟨#[]⟩⟩ = ({ r with Leader := nd, Epoch := r.Epoch + 1 }, true) := by
          unfold Pl.rdo
          dsimp only
          rw [if_neg (show ¬ (7 : Int) = 1 by omega), if_neg (by simp [ByteArray.size]; have := HN.out.1; omega), if_neg (show ¬ (7 : Int) = 2 by omega), if_neg (show ¬ (7 : Int) = 3 by omega), if_neg (show ¬ (7 : Int) = 4 by omega), if_neg (show ¬ (7 : Int) = 5 by omega), if_neg (show ¬ (7 : Int) = 6 by omega), if_pos rfl, HII.out, HED.out.2, if_pos ⟨rfl, rfl, hep⟩]
        have HC := Lib.hid (Pl.rstep_yes hdo)
        clear hdo
        have HRS : Hid (Pl.RS { r with Leader := nd, Epoch := r.Epoch + 1 }) := Lib.hid (Pl.RS.elect HW.out.rs HII.out)
        clear BAD
        go_wp2
        refine wp_region_und (by kernel_rfl) (by kernel_rfl) ?_
        repeat (go_big_quiet_step ((first | fail)))
        refine wpQuiet_nil ?_
        intro X hX
        have HS3' := Lib.hid (HS3.out.step hX)
        clear b0 b1 b2 d0 d1 d2 d3 d4 el en
        obtain ⟨X4, rfl⟩ : ∃ q : World, q = X := ⟨_, rfl⟩
        have b0 := HS3'.out.cell (k := 0) 0 rfl rfl
        have b1 := HS3'.out.cell (k := 1) 0 rfl rfl
        have b2 := HS3'.out.cell (k := 2) 0 rfl rfl
        have d0 := HS3'.out.cell (k := 0) 1 rfl rfl
        have d1 := HS3'.out.cell (k := 1) 1 rfl rfl
        have d2 := HS3'.out.cell (k := 2) 1 rfl rfl
        have d3 := HS3'.out.cell (k := 3) 1 rfl rfl
        have d4 := HS3'.out.cell (k := 4) 1 rfl rfl
        have el := bool_ocell (HS3'.out.sl 3 rfl) (HS3'.out.ndat (i := 3) rfl) HDL.out
        have en := bool_ocell (HS3'.out.sl 3 rfl) (HS3'.out.ndat (i := 3) rfl) HDN.out
        clear hX HS3
        have HS3 := HS3'
        clear HS3'
        obtain ⟨X3, rfl⟩ : ∃ q : World, q = X4 := ⟨_, rfl⟩
        go_wp2
        refine wp_region_und (by kernel_rfl) (by kernel_rfl) ?_
        repeat (go_big_quiet_step ((first | fail)))
        refine wpQuiet_nil ?_
        intro X hX
        have HS3' := Lib.hid (HS3.out.step hX)
        clear b0 b1 b2 d0 d1 d2 d3 d4 el en
        obtain ⟨X4, rfl⟩ : ∃ q : World, q = X := ⟨_, rfl⟩
        have b0 := HS3'.out.cell (k := 0) 0 rfl rfl
        have b1 := HS3'.out.cell (k := 1) 0 rfl rfl
        have b2 := HS3'.out.cell (k := 2) 0 rfl rfl
        have d0 := HS3'.out.cell (k := 0) 1 rfl rfl
        have d1 := HS3'.out.cell (k := 1) 1 rfl rfl
        have d2 := HS3'.out.cell (k := 2) 1 rfl rfl
        have d3 := HS3'.out.cell (k := 3) 1 rfl rfl
        have d4 := HS3'.out.cell (k := 4) 1 rfl rfl
        have el := bool_ocell (HS3'.out.sl 3 rfl) (HS3'.out.ndat (i := 3) rfl) HDL.out
        have en := bool_ocell (HS3'.out.sl 3 rfl) (HS3'.out.ndat (i := 3) rfl) HDN.out
        clear hX HS3
        have HS3 := HS3'
        clear HS3'
        obtain ⟨X3, rfl⟩ : ∃ q : World, q = X4 := ⟨_, rfl⟩
        go_wp2
        refine wp_region_und (by kernel_rfl) (by kernel_rfl) ?_
        repeat (go_big_quiet_step ((first | fail)))
        refine wpQuiet_nil ?_
        intro X hX
        have HS3' := Lib.hid (HS3.out.step hX)
        clear b0 b1 b2 d0 d1 d2 d3 d4 el en
        obtain ⟨X4, rfl⟩ : ∃ q : World, q = X := ⟨_, rfl⟩
        have b0 := HS3'.out.cell (k := 0) 0 rfl rfl
        have b1 := HS3'.out.cell (k := 1) 0 rfl rfl
        have b2 := HS3'.out.cell (k := 2) 0 rfl rfl
        have d0 := HS3'.out.cell (k := 0) 1 rfl rfl
        have d1 := HS3'.out.cell (k := 1) 1 rfl rfl
        have d2 := HS3'.out.cell (k := 2) 1 rfl rfl
        have d3 := HS3'.out.cell (k := 3) 1 rfl rfl
        have d4 := HS3'.out.cell (k := 4) 1 rfl rfl
        have el := bool_ocell (HS3'.out.sl 3 rfl) (HS3'.out.ndat (i := 3) rfl) HDL.out
        have en := bool_ocell (HS3'.out.sl 3 rfl) (HS3'.out.ndat (i := 3) rfl) HDN.out
        clear hX HS3
        have HS3 := HS3'
        clear HS3'
        obtain ⟨X3, rfl⟩ : ∃ q : World, q = X4 := ⟨_, rfl⟩
        go_wp2
        refine wp_region_und (by kernel_rfl) (by kernel_rfl) ?_
        repeat (go_big_quiet_step ((first | fail)))
        refine wpQuiet_nil ?_
        intro X hX
        have HS3' := Lib.hid (HS3.out.step hX)
        clear b0 b1 b2 d0 d1 d2 d3 d4 el en
        obtain ⟨X4, rfl⟩ : ∃ q : World, q = X := ⟨_, rfl⟩
        have b0 := HS3'.out.cell (k := 0) 0 rfl rfl
        have b1 := HS3'.out.cell (k := 1) 0 rfl rfl
        have b2 := HS3'.out.cell (k := 2) 0 rfl rfl
        have d0 := HS3'.out.cell (k := 0) 1 rfl rfl
        have d1 := HS3'.out.cell (k := 1) 1 rfl rfl
        have d2 := HS3'.out.cell (k := 2) 1 rfl rfl
        have d3 := HS3'.out.cell (k := 3) 1 rfl rfl
        have d4 := HS3'.out.cell (k := 4) 1 rfl rfl
        have el := bool_ocell (HS3'.out.sl 3 rfl) (HS3'.out.ndat (i := 3) rfl) HDL.out
        have en := bool_ocell (HS3'.out.sl 3 rfl) (HS3'.out.ndat (i := 3) rfl) HDN.out
        clear hX HS3
        have HS3 := HS3'
        clear HS3'
        obtain ⟨X3, rfl⟩ : ∃ q : World, q = X4 := ⟨_, rfl⟩
        go_wp2
        refine wp_region_und (by kernel_rfl) (by kernel_rfl) ?_
        repeat (go_big_quiet_step ((first | fail)))
        refine wpQuiet_nil ?_
        intro X hX
        have HS3' := Lib.hid (HS3.out.step hX)
        clear b0 b1 b2 d0 d1 d2 d3 d4 el en
        obtain ⟨X4, rfl⟩ : ∃ q : World, q = X := ⟨_, rfl⟩
        have b0 := HS3'.out.cell (k := 0) 0 rfl rfl
        have b1 := HS3'.out.cell (k := 1) 0 rfl rfl
        have b2 := HS3'.out.cell (k := 2) 0 rfl rfl
        have d0 := HS3'.out.cell (k := 0) 1 rfl rfl
        have d1 := HS3'.out.cell (k := 1) 1 rfl rfl
        have d2 := HS3'.out.cell (k := 2) 1 rfl rfl
        have d3 := HS3'.out.cell (k := 3) 1 rfl rfl
        have d4 := HS3'.out.cell (k := 4) 1 rfl rfl
        have el := bool_ocell (HS3'.out.sl 3 rfl) (HS3'.out.ndat (i := 3) rfl) HDL.out
        have en := bool_ocell (HS3'.out.sl 3 rfl) (HS3'.out.ndat (i := 3) rfl) HDN.out
        clear hX HS3
        have HS3 := HS3'
        clear HS3'
        obtain ⟨X3, rfl⟩ : ∃ q : World, q = X4 := ⟨_, rfl⟩
        have z2 := HS3.out.frz (k := 2) 1 rfl
        have HS4 : Hid (Mm.SepF _ w _ [_, _, _, _, _, _]) := Lib.hid (HS3.out.setBlk (k := 2) 1 rfl (.int .i64 nd))
        have z3 := HS4.out.frz (k := 3) 1 rfl
        have y3 := HS4.out.cell (k := 3) 1 rfl rfl
        have HS5 : Hid (Mm.SepF _ w _ [_, _, _, _, _, _]) := Lib.hid (HS4.out.setBlk (k := 3) 1 rfl (.int .i64 (r.Epoch + 1)))
        go_upto_region 23 with fail
        have HT := Lib.hid (shut_Repl (x := { r with Leader := nd, Epoch := r.Epoch + 1 }) HS5.out.tail hI (by unfold Mm.I64; show _ ≤ r.Epoch + 1 ∧ r.Epoch + 1 ≤ _; omega))
        clear HS3 HS4 HS5 z2 z3 y3
        clear b0 b1 b2 d0 d1 d2 d3 d4 el en
        obtain ⟨XT, hXT⟩ : ∃ XT, (X3.setCell ⟨g, 2, none⟩ (.int .i64 nd)).setCell ⟨g, 3, none⟩ (.int .i64 (r.Epoch + 1)) = XT := ⟨_, rfl⟩
        rw [hXT] at HT ⊢
        clear hXT
        obtain ⟨x, hx⟩ : ∃ x : Repl, { r with Leader := nd, Epoch := r.Epoch + 1 } = x := ⟨_, rfl⟩
        rw [hx] at HT HRS HC
        clear hx
        obtain ⟨csx, hbk, hown⟩ := HT.out.at_ 0 rfl
        have CC := certain_c x g csx XT XT.heap.size hbk (rRepl.weak hown (rRepl.olt hown)) (Nat.le_refl _) HRS.out
        obtain ⟨cn, hcn⟩ : ∃ cn, Pl.certain x = cn := ⟨_, rfl⟩
        rw [hcn] at CC
        have HCN := Lib.hid hcn
        have hcl := Pl.certain_le x
        have hcl4 := HRS.out.len' x.Leader
        rw [hcn] at hcl
        clear hcn hbk hown
        go_upto_region 24 with (go_at_call 51; (with_reducible refine CC.mono ?_); clear CC; rintro e w7 ⟨rfl, hb7⟩; (have HT2 := Lib.hid (HT.out.step hb7)); clear hb7)
        clear HT
        obtain ⟨A0, n0, c0, A1, n1, c1, A2, n2, c2, A3, n3, c3, q0, q1, q2, q3, hfq, j2, j3, hq⟩ := open_Repl HT2.out
        have HJ := Lib.hid (And.intro j2 j3)
        have HQ := Lib.hid hq
        have hq3 : n3 = x.Certain.length := by obtain ⟨A', n', c', hv, h1, _⟩ := (hq.sl 4 rfl).form; injection hv with _ h2 _; omega
        have hq0 : n0 = x.Logs.length := by obtain ⟨A', n', c', hv, h1, _⟩ := (hq.sl 1 rfl).form; injection hv with _ h2 _; omega
        have HQ3 := Lib.hid hq3
        have hd0 := hq.cell (k := 0) 0 rfl rfl
        have hd2 := hq.cell (k := 2) 0 rfl rfl
        have hd5 := hq.cell (k := 5) 0 rfl rfl
        have ll0 := HRS.out.lead.1
        have ll1 : x.Leader < n0 := by have := HRS.out.lead.2; omega
        obtain ⟨g0', rfl, -, -⟩ := Mm.sl_addr (hq.sl 1 rfl) (by omega)
        obtain ⟨AL, nL, cL, _, hlL, eL⟩ := log_at' ((hq.sl 1 rfl).weak (hq.sl 1 rfl).olt) ll0 ll1
        simp only [Nat.zero_add] at eL
        have HLL := Lib.hid hlL
        have hnL : (Pl.logAt x x.Leader).length = nL := hlL.1
        have hnLc : nL ≤ cL ∧ cL ≤ 9223372036854775807 := by have h1 := hlL.2.1; have h2 := hlL.2.2.1; unfold maxLen at h2; omega
        rw [hnL] at hcl hcl4
        clear hq hq3 hq0 hfq j2 j3 hlL hnL HT2
        by_cases hct : n3 < cn
        · have HE : Hid (Pl.rstep r ⟨7,nd,⟨#[]⟩⟩ = ({ x with Certain := (Pl.logAt x x.Leader).take cn }, true)) := Lib.hid (by rw [HC.out, Pl.rcert_lt (by rw [HCN.out, ← HQ3.out]; exact hct), HCN.out])
          have f1 : (n3 : Int) < (cn : Nat) := by omega
          have f2 : (0 : Int) ≤ (cn : Nat) := by omega
          have f3 : ((cn : Nat) : Int).toNat = cn := by omega
          have f4 : (cn : Int) ≤ (nL : Nat) := by omega
          have f5 : (cn : Int) ≤ (cL : Nat) := by omega
          have f6 : cn ≤ cL := by omega
          have HTK := Lib.hid (HLL.out.take (show cn ≤ nL by omega))
          go_wp2
          refine Mm.wp_region_give 16 (fun i => match i with | 13 => some (Mm.gSl rEntry 111 ((Pl.logAt x x.Leader).take cn)) | _ => none) (fun _ => []) (fun _ => []) (F := []) (D := fun w' => ∃ z : Und w7, w' = und w7 z) (fun X us h => Mm.sep_und h) (by kernel_rfl) (by kernel_rfl) (by kernel_rfl) (Mm.SepF.startDrew _) ?_
          repeat (refine Mm.give_det (by rfl) (by rfl) (by rfl) (fun K hK => ?_); go_big_quiet_op; refine hK _ ?_; clear hK K)
          refine Mm.give_op0 301 (by rfl) rfl (by rfl) (by rfl) (by rfl) (by rfl) Mm.gSl_in (fun others X8 hX8 => ?_) ?_
          · go_wp2_with (go_at_call 90; (with_reducible refine (clEnt_c ((Pl.logAt x x.Leader).take cn) AL cn cL X8 w7.heap.size (HTK.out.keep (w' := X8) fun b hb => hX8.bel0.block b hb) (by omega)).mono ?_); rintro e w5 ⟨A', n', c', fp', rfl, ho, hnd', hnew, hb5⟩)
            exact Mm.gvq_sl hX8 hb5 ho hnd' hnew rfl rfl
          rintro v ds ⟨A', n', c', fp', rfl, rfl, hn'⟩
          simp only [Act.put, List.setIfInBounds_toArray, List.set_cons_succ, List.set_cons_zero]
          repeat (refine Mm.give_det (by rfl) (by rfl) (by rfl) (fun K hK => ?_); go_big_quiet_op; refine hK _ ?_; clear hK K)
          refine Mm.give_nil ?_
          rintro X4 hX4
          have HS4 := Lib.hid (HQ.out.join (us := [Mm.tsl rEntry 111 ((Pl.logAt x x.Leader).take cn) (.slice A' n' c') fp']) hX4)
          clear hX4 hd0 hd2 hd5 eL
          have z5 := HS4.out.frz (k := 5) 1 rfl
          have z6 := HS4.out.cell (k := 5) 1 rfl rfl
          have HS5 : Hid (Mm.SepF _ w _ [_, _, _, _, _, _]) := Lib.hid (HS4.out.setBlk (k := 5) 1 rfl (.slice A' n' c'))
          go_wp2
          exact bodyPost_ret (v := .bool true) (by simp [results, Try.results45, go_sem]) rfl ⟨by rw [HE.out], _, by rw [HE.out]; exact (shut_Repl (x := { x with Certain := (Pl.logAt x x.Leader).take cn }) (HS5.out.sel [1, 2, 3, 4, 0] (by decide) rfl) HJ.out.1 HJ.out.2).left⟩
        · have HE : Hid (Pl.rstep r ⟨7,nd,⟨#[]⟩⟩ = (x, true)) := Lib.hid (by rw [HC.out, Pl.rcert_ge (by rw [HCN.out, ← HQ3.out]; exact hct)])
          have f1 : ¬ (n3 : Int) < (cn : Nat) := by omega
          go_wp2
          exact bodyPost_ret (v := .bool true) (by simp [results, Try.results45, go_sem]) rfl ⟨by rw [HE.out], _, by rw [HE.out]; exact (shut_Repl HQ.out HJ.out.1 HJ.out.2).left⟩
end Go.Proofs.Ytihendiakgfpcaa

/-
  Contracts: the program's step of a replication, all of it (chapter 9). No conditions beyond those named.
-/
namespace Go.Proofs.Ytihendiakgfpcaa
open Go.RowKit
attribute [local go_sem] und_cell cha_cell World.cell?_alloc_some
theorem ba_some {x : ByteArray} (h : x.size ≠ 0) : x.toList.isEmpty = false := by
  cases hh : x.toList with
  | nil => exact absurd (by rw [Lib.toList_data] at hh; cases x with | mk a => simp at hh; rw [hh]; rfl) h
  | cons => rfl
set_option maxRecDepth 100000 in
set_option maxHeartbeats 2000000 in
theorem stepBad_c (r : Repl) (kd nd : Int) (tx : ByteArray) (g : Nat) (fp : List Nat) (w : World) (h : (Mm.tptr rRepl 31 g r fp).holds w) (hnd : (g :: fp).Nodup) (hw : Pl.RW r) (hbad : (kd = 1 ∧ nd ≠ 0) ∨ (kd ≠ 1 ∧ (tx.size ≠ 0 ∨ nd < 0 ∨ (r.Logs.length : Int) ≤ nd))) :
    Calls Try.prog 45 #[.pointer (some ⟨g, 0, none⟩), .agg #[.int .i64 kd, .int .i64 nd, .string tx]] w (RStepAns g fp w (Pl.rstep r ⟨kd, nd, tx⟩)) := by
  have HF : Hid (Pl.rstep r ⟨kd, nd, tx⟩ = (r, false)) := by
    refine Lib.hid (Pl.rstep_no' ?_)
    unfold Pl.rdo
    dsimp only
    rcases hbad with ⟨h1, h2⟩ | ⟨h1, h2⟩
    · rw [if_pos h1, if_neg (fun h => h2 h.1)]
    · rw [if_neg h1, if_pos h2]
  obtain ⟨A0, n0, c0, A1, n1, c1, A2, n2, c2, A3, n3, c3, f0, f1, f2, f3, rfl, i2, i3, hs⟩ := open_Repl (Mm.SepF.one _ w h hnd)
  have hn0 : n0 = r.Logs.length := by obtain ⟨A', n', c', hv, h1, _⟩ := (hs.sl 1 rfl).form; injection hv with _ h2 _; omega
  have hn1 : n1 = r.Logs.length := by obtain ⟨A', n', c', hv, h1, _⟩ := (hs.sl 2 rfl).form; injection hv with _ h2 _; have := hw.down; omega
  have hn2 : n2 = r.InSync.length := by obtain ⟨A', n', c', hv, h1, _⟩ := (hs.sl 3 rfl).form; injection hv with _ h2 _; omega
  have hsn5 := hw.sync5
  have hp5 := hw.n5
  have hp1 := hw.n1
  have l0 : 0 ≤ r.Leader := hw.lead.1
  have l1 : r.Leader < n1 := by have := hw.lead.2; omega
  obtain ⟨g1, rfl, -, -⟩ := Mm.sl_addr (hs.sl 2 rfl) (by have := hw.down; omega)
  have HI := Lib.hid (And.intro i2 i3)
  have HW := Lib.hid hw
  have HDL : Hid (r.Down[r.Leader.toNat]? = some (Pl.downAt r r.Leader)) := Lib.hid (hw.dat l0 hw.lead.2)
  obtain ⟨gs, hgs⟩ : ∃ gs, w.heap.size = gs := ⟨_, rfl⟩
  rcases hbad with ⟨h1, h2⟩ | ⟨h1, h2⟩
  · have q1 : (kd == 1) = true := by simpa using h1
    have q2 : (nd != 0) = true := by simpa using h2
    clear h1 h2
    obtain ⟨W0, hW0⟩ : ∃ W0, w.alloc (.cells #[.int .i64 kd, .int .i64 nd, .string tx] 53) = W0 := ⟨_, rfl⟩
    have HS := Lib.hid ((hs.alloc' hgs 53 [.int .i64 kd, .int .i64 nd, .string tx]).atW hW0)
    clear h hs hnd hw hn0 hn1 hn2 i2 i3
    have b0 := HS.out.cell (k := 0) 0 rfl rfl
    have b1 := HS.out.cell (k := 1) 0 rfl rfl
    have b2 := HS.out.cell (k := 2) 0 rfl rfl
    have d0 := HS.out.cell (k := 0) 1 rfl rfl
    go_enter Try.func45, Try.ntmps45
    go_wp2
    clear hW0
    refine wp_region_und (by kernel_rfl) (by kernel_rfl) ?_
    repeat (go_big_quiet_step ((first | fail)))
    refine wpQuiet_nil ?_
    intro X hX
    have HS3 := Lib.hid (HS.out.step hX)
    clear b0 b1 b2 d0 hX
    go_wp2
    exact bodyPost_ret (v := .bool false) (by simp [results, Try.results45, go_sem]) rfl ⟨by rw [HF.out], _, by rw [HF.out]; exact (shut_Repl HS3.out.tail HI.out.1 HI.out.2).left⟩
  · have q1 : (kd == 1) = false := by simpa using h1
    have q2 : (kd != 1) = true := by simpa using h1
    by_cases h3 : tx.size = 0
    · obtain rfl := ba_nil h3
      have fw : IntKind.i64.wrap ((n0 : Int) - 1) = (n0 : Int) - 1 := IntWalk.i64_in _ (by omega)
      have hwi : Pl.isIn nd 0 ((n0 : Int) - 1) = false := Pl.isIn_no.2 (by omega)
      clear h1 h2 h3
      have CW := fun (z : Und (w.alloc (.cells #[.int .i64 kd, .int .i64 nd, .string ⟨#[]⟩] 53))) => und_same z (within_c nd 0 ((n0 : Int) - 1) (und _ z))
      rw [hwi] at CW
      obtain ⟨W0, hW0⟩ : ∃ W0, w.alloc (.cells #[.int .i64 kd, .int .i64 nd, .string ⟨#[]⟩] 53) = W0 := ⟨_, rfl⟩
      rw [hW0] at CW
      have HS := Lib.hid ((hs.alloc' hgs 53 [.int .i64 kd, .int .i64 nd, .string ⟨#[]⟩]).atW hW0)
      clear h hs hnd hw hn0 hn1 hn2 i2 i3
      have b0 := HS.out.cell (k := 0) 0 rfl rfl
      have b1 := HS.out.cell (k := 1) 0 rfl rfl
      have b2 := HS.out.cell (k := 2) 0 rfl rfl
      have d0 := HS.out.cell (k := 0) 1 rfl rfl
      go_enter Try.func45, Try.ntmps45
      go_wp2
      clear hW0
      refine wp_region_und (by kernel_rfl) (by kernel_rfl) ?_
      repeat (go_big_quiet_step ((first | (go_at_call 43; with_reducible exact CW _))))
      refine wpQuiet_nil ?_
      intro X hX
      have HS3 := Lib.hid (HS.out.step hX)
      clear b0 b1 b2 d0 hX CW
      go_wp2
      exact bodyPost_ret (v := .bool false) (by simp [results, Try.results45, go_sem]) rfl ⟨by rw [HF.out], _, by rw [HF.out]; exact (shut_Repl HS3.out.tail HI.out.1 HI.out.2).left⟩
    · have q3 := ba_some h3
      clear h1 h2 h3
      obtain ⟨W0, hW0⟩ : ∃ W0, w.alloc (.cells #[.int .i64 kd, .int .i64 nd, .string tx] 53) = W0 := ⟨_, rfl⟩
      have HS := Lib.hid ((hs.alloc' hgs 53 [.int .i64 kd, .int .i64 nd, .string tx]).atW hW0)
      clear h hs hnd hw hn0 hn1 hn2 i2 i3
      have b0 := HS.out.cell (k := 0) 0 rfl rfl
      have b1 := HS.out.cell (k := 1) 0 rfl rfl
      have b2 := HS.out.cell (k := 2) 0 rfl rfl
      have d0 := HS.out.cell (k := 0) 1 rfl rfl
      go_enter Try.func45, Try.ntmps45
      go_wp2
      clear hW0
      refine wp_region_und (by kernel_rfl) (by kernel_rfl) ?_
      repeat (go_big_quiet_step ((first | fail)))
      refine wpQuiet_nil ?_
      intro X hX
      have HS3 := Lib.hid (HS.out.step hX)
      clear b0 b1 b2 d0 hX
      go_wp2
      exact bodyPost_ret (v := .bool false) (by simp [results, Try.results45, go_sem]) rfl ⟨by rw [HF.out], _, by rw [HF.out]; exact (shut_Repl HS3.out.tail HI.out.1 HI.out.2).left⟩
set_option maxRecDepth 100000 in
set_option maxHeartbeats 2000000 in
theorem stepNo_c (r : Repl) (kd nd : Int) (g : Nat) (fp : List Nat) (w : World) (h : (Mm.tptr rRepl 31 g r fp).holds w) (hnd : (g :: fp).Nodup) (hw : Pl.RW r) (k0 : 0 ≤ nd) (k1 : nd < r.Logs.length) (hk : kd < 1 ∨ 7 < kd) :
    Calls Try.prog 45 #[.pointer (some ⟨g, 0, none⟩), .agg #[.int .i64 kd, .int .i64 nd, .string ⟨#[]⟩]] w (RStepAns g fp w (Pl.rstep r ⟨kd, nd, ⟨#[]⟩⟩)) := by
  have HF : Hid (Pl.rstep r ⟨kd, nd, ⟨#[]⟩⟩ = (r, false)) := by
    refine Lib.hid (Pl.rstep_no' ?_)
    unfold Pl.rdo
    dsimp only
    rw [if_neg (show ¬ kd = 1 by omega), if_neg (by simp [ByteArray.size]; omega), if_neg (show ¬ kd = 2 by omega), if_neg (show ¬ kd = 3 by omega), if_neg (show ¬ kd = 4 by omega), if_neg (show ¬ kd = 5 by omega), if_neg (show ¬ kd = 6 by omega), if_neg (show ¬ kd = 7 by omega)]
  obtain ⟨A0, n0, c0, A1, n1, c1, A2, n2, c2, A3, n3, c3, f0, f1, f2, f3, rfl, i2, i3, hs⟩ := open_Repl (Mm.SepF.one _ w h hnd)
  have hn0 : n0 = r.Logs.length := by obtain ⟨A', n', c', hv, h1, _⟩ := (hs.sl 1 rfl).form; injection hv with _ h2 _; omega
  have hn1 : n1 = r.Logs.length := by obtain ⟨A', n', c', hv, h1, _⟩ := (hs.sl 2 rfl).form; injection hv with _ h2 _; have := hw.down; omega
  have hn2 : n2 = r.InSync.length := by obtain ⟨A', n', c', hv, h1, _⟩ := (hs.sl 3 rfl).form; injection hv with _ h2 _; omega
  have hsn5 := hw.sync5
  have hp5 := hw.n5
  have hp1 := hw.n1
  have l0 : 0 ≤ r.Leader := hw.lead.1
  have l1 : r.Leader < n1 := by have := hw.lead.2; omega
  obtain ⟨g1, rfl, -, -⟩ := Mm.sl_addr (hs.sl 2 rfl) (by have := hw.down; omega)
  have HI := Lib.hid (And.intro i2 i3)
  have HW := Lib.hid hw
  have HDL : Hid (r.Down[r.Leader.toNat]? = some (Pl.downAt r r.Leader)) := Lib.hid (hw.dat l0 hw.lead.2)
  obtain ⟨gs, hgs⟩ : ∃ gs, w.heap.size = gs := ⟨_, rfl⟩
  have q1 : (kd == 1) = false := by simp; omega
  have q1' : (kd != 1) = true := by simp; omega
  have q2 : (kd == 2) = false := by simp; omega
  have q3 : (kd == 3) = false := by simp; omega
  have q4 : (kd == 4) = false := by simp; omega
  have q5 : (kd == 5) = false := by simp; omega
  have q6 : (kd == 6) = false := by simp; omega
  have q7 : (kd == 7) = false := by simp; omega
  clear hk
  have HDN : Hid (r.Down[nd.toNat]? = some (Pl.downAt r nd)) := Lib.hid (hw.dat k0 k1)
  obtain ⟨dn, hdn⟩ : ∃ dn, Pl.downAt r nd = dn := ⟨_, rfl⟩
  obtain ⟨dl, hdl⟩ : ∃ dl, Pl.downAt r r.Leader = dl := ⟨_, rfl⟩
  rw [hdn] at HDN
  rw [hdl] at HDL
  have HED := Lib.hid (And.intro hdl hdn)
  clear hdl hdn
  obtain ⟨W0, hW0⟩ : ∃ W0, w.alloc (.cells #[.int .i64 kd, .int .i64 nd, .string ⟨#[]⟩] 53) = W0 := ⟨_, rfl⟩
  have HS := Lib.hid ((hs.alloc' hgs 53 [.int .i64 kd, .int .i64 nd, .string ⟨#[]⟩]).atW hW0)
  have hn01 : n1 = n0 := by omega
  have HN := Lib.hid (And.intro hn0 (And.intro hn2 hn01))
  have k1' : nd < n0 := by omega
  have k1'' : nd < n1 := by omega
  have hn05 : n0 ≤ 5 := by omega
  have hn25 : n2 ≤ 5 := by omega
  have fw : IntKind.i64.wrap ((n0 : Int) - 1) = (n0 : Int) - 1 := IntWalk.i64_in _ (by omega)
  have hwi : Pl.isIn nd 0 ((n0 : Int) - 1) = true := Pl.isIn_mk k0 (by omega)
  have CW := fun z : Und W0 => und_same z (within_c nd 0 ((n0 : Int) - 1) (und W0 z))
  rw [hwi] at CW
  clear h hs hnd hw hn0 hn1 hn2 i2 i3 hn01 k1
  have b0 := HS.out.cell (k := 0) 0 rfl rfl
  have b1 := HS.out.cell (k := 1) 0 rfl rfl
  have b2 := HS.out.cell (k := 2) 0 rfl rfl
  have d0 := HS.out.cell (k := 0) 1 rfl rfl
  have d1 := HS.out.cell (k := 1) 1 rfl rfl
  have d2 := HS.out.cell (k := 2) 1 rfl rfl
  have d3 := HS.out.cell (k := 3) 1 rfl rfl
  have d4 := HS.out.cell (k := 4) 1 rfl rfl
  have el := bool_ocell (HS.out.sl 3 rfl) (HS.out.ndat (i := 3) rfl) HDL.out
  have en := bool_ocell (HS.out.sl 3 rfl) (HS.out.ndat (i := 3) rfl) HDN.out
  go_enter Try.func45, Try.ntmps45
  go_wp2
  clear hW0
  refine wp_region_und (by kernel_rfl) (by kernel_rfl) ?_
  repeat (go_big_quiet_step ((first | (go_at_call 43; with_reducible exact CW _))))
  refine wpQuiet_nil ?_
  intro X hX
  clear CW
  have HS1 := Lib.hid (HS.out.step hX)
  clear b0 b1 b2 d0 d1 d2 d3 d4 el en
  obtain ⟨X1, rfl⟩ : ∃ q : World, q = X := ⟨_, rfl⟩
  have b0 := HS1.out.cell (k := 0) 0 rfl rfl
  have b1 := HS1.out.cell (k := 1) 0 rfl rfl
  have b2 := HS1.out.cell (k := 2) 0 rfl rfl
  have d0 := HS1.out.cell (k := 0) 1 rfl rfl
  have d1 := HS1.out.cell (k := 1) 1 rfl rfl
  have d2 := HS1.out.cell (k := 2) 1 rfl rfl
  have d3 := HS1.out.cell (k := 3) 1 rfl rfl
  have d4 := HS1.out.cell (k := 4) 1 rfl rfl
  have el := bool_ocell (HS1.out.sl 3 rfl) (HS1.out.ndat (i := 3) rfl) HDL.out
  have en := bool_ocell (HS1.out.sl 3 rfl) (HS1.out.ndat (i := 3) rfl) HDN.out
  clear hX HS
  have CB := fun z : Und X1 => und_same z (bsInt_c r.InSync nd A2 n2 c2 (und X1 z) X1.heap.size (((HS1.out.sl 4 rfl).weak (HS1.out.sl 4 rfl).olt).und (Nat.le_refl _) z) HW.out.sync (by omega))
  obtain ⟨ip, hip⟩ : ∃ ip, Pl.ipos r.InSync nd = ip := ⟨_, rfl⟩
  obtain ⟨ii, hii⟩ : ∃ ii, Pl.hasI r.InSync nd = ii := ⟨_, rfl⟩
  rw [hip, hii] at CB
  have HIP := Lib.hid hip
  have HII := Lib.hid hii
  clear hip hii fw hwi
  go_wp2
  refine wp_region_und (by kernel_rfl) (by kernel_rfl) ?_
  repeat (go_big_quiet_step ((first | (go_at_call 85; with_reducible exact CB _))))
  refine wpQuiet_nil ?_
  intro X hX
  clear CB
  have HS2 := Lib.hid (HS1.out.step hX)
  clear b0 b1 b2 d0 d1 d2 d3 d4 el en
  obtain ⟨X2, rfl⟩ : ∃ q : World, q = X := ⟨_, rfl⟩
  have b0 := HS2.out.cell (k := 0) 0 rfl rfl
  have b1 := HS2.out.cell (k := 1) 0 rfl rfl
  have b2 := HS2.out.cell (k := 2) 0 rfl rfl
  have d0 := HS2.out.cell (k := 0) 1 rfl rfl
  have d1 := HS2.out.cell (k := 1) 1 rfl rfl
  have d2 := HS2.out.cell (k := 2) 1 rfl rfl
  have d3 := HS2.out.cell (k := 3) 1 rfl rfl
  have d4 := HS2.out.cell (k := 4) 1 rfl rfl
  have el := bool_ocell (HS2.out.sl 3 rfl) (HS2.out.ndat (i := 3) rfl) HDL.out
  have en := bool_ocell (HS2.out.sl 3 rfl) (HS2.out.ndat (i := 3) rfl) HDN.out
  clear hX HS1
  go_wp2
  refine wp_region_und (by kernel_rfl) (by kernel_rfl) ?_
  repeat (go_big_quiet_step ((first | fail)))
  refine wpQuiet_nil ?_
  intro X hX
  have HS3 := Lib.hid (HS2.out.step hX)
  clear b0 b1 b2 d0 d1 d2 d3 d4 el en
  obtain ⟨X3, rfl⟩ : ∃ q : World, q = X := ⟨_, rfl⟩
  have b0 := HS3.out.cell (k := 0) 0 rfl rfl
  have b1 := HS3.out.cell (k := 1) 0 rfl rfl
  have b2 := HS3.out.cell (k := 2) 0 rfl rfl
  have d0 := HS3.out.cell (k := 0) 1 rfl rfl
  have d1 := HS3.out.cell (k := 1) 1 rfl rfl
  have d2 := HS3.out.cell (k := 2) 1 rfl rfl
  have d3 := HS3.out.cell (k := 3) 1 rfl rfl
  have d4 := HS3.out.cell (k := 4) 1 rfl rfl
  have el := bool_ocell (HS3.out.sl 3 rfl) (HS3.out.ndat (i := 3) rfl) HDL.out
  have en := bool_ocell (HS3.out.sl 3 rfl) (HS3.out.ndat (i := 3) rfl) HDN.out
  clear hX HS2
  go_wp2
  refine wp_region_und (by kernel_rfl) (by kernel_rfl) ?_
  repeat (go_big_quiet_step ((first | fail)))
  refine wpQuiet_nil ?_
  intro X hX
  have HS3' := Lib.hid (HS3.out.step hX)
  clear b0 b1 b2 d0 d1 d2 d3 d4 el en
  obtain ⟨X4, rfl⟩ : ∃ q : World, q = X := ⟨_, rfl⟩
  have b0 := HS3'.out.cell (k := 0) 0 rfl rfl
  have b1 := HS3'.out.cell (k := 1) 0 rfl rfl
  have b2 := HS3'.out.cell (k := 2) 0 rfl rfl
  have d0 := HS3'.out.cell (k := 0) 1 rfl rfl
  have d1 := HS3'.out.cell (k := 1) 1 rfl rfl
  have d2 := HS3'.out.cell (k := 2) 1 rfl rfl
  have d3 := HS3'.out.cell (k := 3) 1 rfl rfl
  have d4 := HS3'.out.cell (k := 4) 1 rfl rfl
  have el := bool_ocell (HS3'.out.sl 3 rfl) (HS3'.out.ndat (i := 3) rfl) HDL.out
  have en := bool_ocell (HS3'.out.sl 3 rfl) (HS3'.out.ndat (i := 3) rfl) HDN.out
  clear hX HS3
  have HS3 := HS3'
  clear HS3'
  obtain ⟨X3, rfl⟩ : ∃ q : World, q = X4 := ⟨_, rfl⟩
  go_wp2
  refine wp_region_und (by kernel_rfl) (by kernel_rfl) ?_
  repeat (go_big_quiet_step ((first | fail)))
  refine wpQuiet_nil ?_
  intro X hX
  have HS3' := Lib.hid (HS3.out.step hX)
  clear b0 b1 b2 d0 d1 d2 d3 d4 el en
  obtain ⟨X4, rfl⟩ : ∃ q : World, q = X := ⟨_, rfl⟩
  have b0 := HS3'.out.cell (k := 0) 0 rfl rfl
  have b1 := HS3'.out.cell (k := 1) 0 rfl rfl
  have b2 := HS3'.out.cell (k := 2) 0 rfl rfl
  have d0 := HS3'.out.cell (k := 0) 1 rfl rfl
  have d1 := HS3'.out.cell (k := 1) 1 rfl rfl
  have d2 := HS3'.out.cell (k := 2) 1 rfl rfl
  have d3 := HS3'.out.cell (k := 3) 1 rfl rfl
  have d4 := HS3'.out.cell (k := 4) 1 rfl rfl
  have el := bool_ocell (HS3'.out.sl 3 rfl) (HS3'.out.ndat (i := 3) rfl) HDL.out
  have en := bool_ocell (HS3'.out.sl 3 rfl) (HS3'.out.ndat (i := 3) rfl) HDN.out
  clear hX HS3
  have HS3 := HS3'
  clear HS3'
  obtain ⟨X3, rfl⟩ : ∃ q : World, q = X4 := ⟨_, rfl⟩
  go_wp2
  refine wp_region_und (by kernel_rfl) (by kernel_rfl) ?_
  repeat (go_big_quiet_step ((first | fail)))
  refine wpQuiet_nil ?_
  intro X hX
  have HS3' := Lib.hid (HS3.out.step hX)
  clear b0 b1 b2 d0 d1 d2 d3 d4 el en
  obtain ⟨X4, rfl⟩ : ∃ q : World, q = X := ⟨_, rfl⟩
  have b0 := HS3'.out.cell (k := 0) 0 rfl rfl
  have b1 := HS3'.out.cell (k := 1) 0 rfl rfl
  have b2 := HS3'.out.cell (k := 2) 0 rfl rfl
  have d0 := HS3'.out.cell (k := 0) 1 rfl rfl
  have d1 := HS3'.out.cell (k := 1) 1 rfl rfl
  have d2 := HS3'.out.cell (k := 2) 1 rfl rfl
  have d3 := HS3'.out.cell (k := 3) 1 rfl rfl
  have d4 := HS3'.out.cell (k := 4) 1 rfl rfl
  have el := bool_ocell (HS3'.out.sl 3 rfl) (HS3'.out.ndat (i := 3) rfl) HDL.out
  have en := bool_ocell (HS3'.out.sl 3 rfl) (HS3'.out.ndat (i := 3) rfl) HDN.out
  clear hX HS3
  have HS3 := HS3'
  clear HS3'
  obtain ⟨X3, rfl⟩ : ∃ q : World, q = X4 := ⟨_, rfl⟩
  go_wp2
  refine wp_region_und (by kernel_rfl) (by kernel_rfl) ?_
  repeat (go_big_quiet_step ((first | fail)))
  refine wpQuiet_nil ?_
  intro X hX
  have HS3' := Lib.hid (HS3.out.step hX)
  clear b0 b1 b2 d0 d1 d2 d3 d4 el en
  obtain ⟨X4, rfl⟩ : ∃ q : World, q = X := ⟨_, rfl⟩
  have b0 := HS3'.out.cell (k := 0) 0 rfl rfl
  have b1 := HS3'.out.cell (k := 1) 0 rfl rfl
  have b2 := HS3'.out.cell (k := 2) 0 rfl rfl
  have d0 := HS3'.out.cell (k := 0) 1 rfl rfl
  have d1 := HS3'.out.cell (k := 1) 1 rfl rfl
  have d2 := HS3'.out.cell (k := 2) 1 rfl rfl
  have d3 := HS3'.out.cell (k := 3) 1 rfl rfl
  have d4 := HS3'.out.cell (k := 4) 1 rfl rfl
  have el := bool_ocell (HS3'.out.sl 3 rfl) (HS3'.out.ndat (i := 3) rfl) HDL.out
  have en := bool_ocell (HS3'.out.sl 3 rfl) (HS3'.out.ndat (i := 3) rfl) HDN.out
  clear hX HS3
  have HS3 := HS3'
  clear HS3'
  obtain ⟨X3, rfl⟩ : ∃ q : World, q = X4 := ⟨_, rfl⟩
  go_wp2
  refine wp_region_und (by kernel_rfl) (by kernel_rfl) ?_
  repeat (go_big_quiet_step ((first | fail)))
  refine wpQuiet_nil ?_
  intro X hX
  have HS3' := Lib.hid (HS3.out.step hX)
  clear b0 b1 b2 d0 d1 d2 d3 d4 el en
  obtain ⟨X4, rfl⟩ : ∃ q : World, q = X := ⟨_, rfl⟩
  have b0 := HS3'.out.cell (k := 0) 0 rfl rfl
  have b1 := HS3'.out.cell (k := 1) 0 rfl rfl
  have b2 := HS3'.out.cell (k := 2) 0 rfl rfl
  have d0 := HS3'.out.cell (k := 0) 1 rfl rfl
  have d1 := HS3'.out.cell (k := 1) 1 rfl rfl
  have d2 := HS3'.out.cell (k := 2) 1 rfl rfl
  have d3 := HS3'.out.cell (k := 3) 1 rfl rfl
  have d4 := HS3'.out.cell (k := 4) 1 rfl rfl
  have el := bool_ocell (HS3'.out.sl 3 rfl) (HS3'.out.ndat (i := 3) rfl) HDL.out
  have en := bool_ocell (HS3'.out.sl 3 rfl) (HS3'.out.ndat (i := 3) rfl) HDN.out
  clear hX HS3
  have HS3 := HS3'
  clear HS3'
  obtain ⟨X3, rfl⟩ : ∃ q : World, q = X4 := ⟨_, rfl⟩
  go_wp2
  exact bodyPost_ret (v := .bool false) (by simp [results, Try.results45, go_sem]) rfl ⟨by rw [HF.out], _, by rw [HF.out]; exact (shut_Repl HS3.out.tail HI.out.1 HI.out.2).left⟩
theorem step_c (r : Repl) (s : ReplStep) (g : Nat) (fp : List Nat) (w : World) (h : (Mm.tptr rRepl 31 g r fp).holds w) (hnd : (g :: fp).Nodup) (hI : Mm.I64 s.Node) (hw : Pl.RW r) :
    Calls Try.prog 45 #[.pointer (some ⟨g, 0, none⟩), .agg #[.int .i64 s.Kind, .int .i64 s.Node, .string s.Text]] w (RStepAns g fp w (Pl.rstep r s)) := by
  obtain ⟨kd, nd, tx⟩ := s
  by_cases hbad : (kd = 1 ∧ nd ≠ 0) ∨ (kd ≠ 1 ∧ (tx.size ≠ 0 ∨ nd < 0 ∨ (r.Logs.length : Int) ≤ nd))
  · exact stepBad_c r kd nd tx g fp w h hnd hw hbad
  by_cases h1 : kd = 1
  · subst h1
    exact stepWrite_c r nd tx g fp w h hnd hw (by omega)
  · obtain rfl := ba_nil (x := tx) (by omega)
    have k0 : 0 ≤ nd := by omega
    have k1 : nd < r.Logs.length := by omega
    by_cases hk : kd < 1 ∨ 7 < kd
    · exact stepNo_c r kd nd g fp w h hnd hw k0 k1 hk
    rcases (show kd = 2 ∨ kd = 3 ∨ kd = 4 ∨ kd = 5 ∨ kd = 6 ∨ kd = 7 by omega) with rfl | rfl | rfl | rfl | rfl | rfl
    · exact stepFetch_c r nd g fp w h hnd hw k0 k1 hI
    · exact stepOut_c r nd g fp w h hnd hw k0 k1 hI
    · exact stepIn_c r nd g fp w h hnd hw k0 k1 hI
    · exact stepFail_c r nd g fp w h hnd hw k0 k1 hI
    · exact stepBack_c r nd g fp w h hnd hw k0 k1 hI
    · exact stepElect_c r nd g fp w h hnd hw k0 k1 hI
end Go.Proofs.Ytihendiakgfpcaa

/-
  Contracts: the reference's step of a replication, by value: what begins and ends it (chapter 9). No conditions beyond those named.
-/
namespace Go.Proofs.Ytihendiakgfpcaa
open Go.RowKit
attribute [local go_sem] und_cell cha_cell World.cell?_alloc_some
theorem openv_Repl {F : List Nat} {w0 wr : World} {ts : List Mm.Thing} {x : Repl} {cs : List Value} {fp : List Nat} (h : Mm.SepF F w0 wr (Mm.tow rRepl x cs fp :: ts)) :
    ∃ A0 n0 c0 A1 n1 c1 A2 n2 c2 A3 n3 c3 f0 f1 f2 f3, cs = [.slice A0 n0 c0, .slice A1 n1 c1, .int .i64 x.Leader, .int .i64 x.Epoch, .slice A2 n2 c2, .slice A3 n3 c3] ∧ fp = f0 ++ (f1 ++ (f2 ++ f3)) ∧ Mm.I64 x.Leader ∧ Mm.I64 x.Epoch ∧ Mm.SepF F w0 wr (Mm.tsl rEntryS 29 x.Logs (.slice A0 n0 c0) f0 :: Mm.tsl Mm.bool 4 x.Down (.slice A1 n1 c1) f1 :: Mm.tsl Mm.int 3 x.InSync (.slice A2 n2 c2) f2 :: Mm.tsl rEntry 111 x.Certain (.slice A3 n3 c3) f3 :: ts) := by
  have ho := h.hold _ (List.mem_cons_self)
  obtain ⟨A0, n0, c0, A1, n1, c1, A2, n2, c2, A3, n3, c3, f0, f1, f2, f3, rfl, rfl, k0, k1, k2, k3, k4, k5⟩ := rRepl_own ho
  exact ⟨_, _, _, _, _, _, _, _, _, _, _, _, _, _, _, _, rfl, rfl, k2, k3, h.conv (by simp [Mm.tow, Mm.tsl]) (List.forall_mem_cons.2 ⟨k0, List.forall_mem_cons.2 ⟨k1, List.forall_mem_cons.2 ⟨k4, List.forall_mem_cons.2 ⟨k5, fun u hu => h.hold u (List.mem_cons_of_mem _ hu)⟩⟩⟩⟩)⟩
theorem shutv_Repl {F : List Nat} {w0 wr : World} {ts : List Mm.Thing} {x : Repl} {A0 A1 A2 A3 : Option Addr} {n0 c0 n1 c1 n2 c2 n3 c3 : Nat} {f0 f1 f2 f3 : List Nat} (h : Mm.SepF F w0 wr (Mm.tsl rEntryS 29 x.Logs (.slice A0 n0 c0) f0 :: Mm.tsl Mm.bool 4 x.Down (.slice A1 n1 c1) f1 :: Mm.tsl Mm.int 3 x.InSync (.slice A2 n2 c2) f2 :: Mm.tsl rEntry 111 x.Certain (.slice A3 n3 c3) f3 :: ts)) (s2 : Mm.I64 x.Leader) (s3 : Mm.I64 x.Epoch) :
    Mm.SepF F w0 wr (Mm.tow rRepl x [.slice A0 n0 c0, .slice A1 n1 c1, .int .i64 x.Leader, .int .i64 x.Epoch, .slice A2 n2 c2, .slice A3 n3 c3] (f0 ++ (f1 ++ (f2 ++ f3))) :: ts) :=
  h.conv (by simp [Mm.tow, Mm.tsl]) (List.forall_mem_cons.2 ⟨rRepl_own_mk (h.sl 0 rfl) (h.sl 1 rfl) s2 s3 (h.sl 2 rfl) (h.sl 3 rfl), fun u hu => h.hold u (by
    iterate 4 apply List.mem_cons_of_mem
    exact hu)⟩)
def zRepl : List Value := [.slice none 0 0, .slice none 0 0, .int .i64 0, .int .i64 0, .slice none 0 0, .slice none 0 0]
/-- what a step by value leaves: where it is refused, the same replication in the same place -/
def RDoAns (q : Repl × Bool) (cs : List Value) (fp : List Nat) (w : World) (e : Ending) (w' : World) : Prop :=
  ∃ cs' fp', e = .returned (.tuple #[.agg cs'.toArray, .bool q.2]) ∧ Mm.Left fp w w' (Mm.tow rRepl q.1 cs' fp') ∧ (q.2 = false → cs' = cs ∧ fp' = fp)
set_option maxRecDepth 100000 in
set_option maxHeartbeats 2000000 in
theorem l9DoBad_c (r : Repl) (kd nd : Int) (tx : ByteArray) (cs : List Value) (fp : List Nat) (w : World) (h : (Mm.tow rRepl r cs fp).holds w) (hnd : fp.Nodup) (hw : Pl.RW r) (hk1 : kd ≠ 1) (hbad : tx.size ≠ 0 ∨ nd < 0 ∨ (r.Logs.length : Int) ≤ nd) :
    Calls Try.prog 91 #[.agg cs.toArray, .agg #[.int .i64 kd, .int .i64 nd, .string tx]] w (RDoAns (Pl.rdo r ⟨kd, nd, tx⟩) cs fp w) := by
  have HF : Hid (Pl.rdo r ⟨kd, nd, tx⟩ = (r, false)) := by
    show _ = _
    unfold Pl.rdo
    dsimp only
    rw [if_neg hk1, if_pos hbad]
  have q1 : (kd == 1) = false := by simpa using hk1
  obtain ⟨A0, n0, c0, A1, n1, c1, A2, n2, c2, A3, n3, c3, f0, f1, f2, f3, rfl, rfl, i2, i3, hs⟩ := openv_Repl (Mm.SepF.one _ w h hnd)
  have hn0 : n0 = r.Logs.length := by obtain ⟨A', n', c', hv, h1, _⟩ := (hs.sl 0 rfl).form; injection hv with _ h2 _; omega
  have hn1 : n1 = r.Logs.length := by obtain ⟨A', n', c', hv, h1, _⟩ := (hs.sl 1 rfl).form; injection hv with _ h2 _; have := hw.down; omega
  have hn2 : n2 = r.InSync.length := by obtain ⟨A', n', c', hv, h1, _⟩ := (hs.sl 2 rfl).form; injection hv with _ h2 _; omega
  have hsn5 := hw.sync5
  have hp5 := hw.n5
  have hp1 := hw.n1
  have l0 : 0 ≤ r.Leader := hw.lead.1
  have l1 : r.Leader < n1 := by have := hw.lead.2; omega
  have l1' : r.Leader < n0 := by have := hw.lead.2; omega
  obtain ⟨g0, rfl, -, -⟩ := Mm.sl_addr (hs.sl 0 rfl) (by omega)
  obtain ⟨g1, rfl, -, -⟩ := Mm.sl_addr (hs.sl 1 rfl) (by have := hw.down; omega)
  have HI := Lib.hid (And.intro i2 i3)
  have HW := Lib.hid hw
  have HDL : Hid (r.Down[r.Leader.toNat]? = some (Pl.downAt r r.Leader)) := Lib.hid (hw.dat l0 hw.lead.2)
  have H0 := Lib.hid hs
  have HN := Lib.hid (And.intro hn0 (And.intro hn1 hn2))
  have hn05 : n0 ≤ 5 := by omega
  have hn15 : n1 ≤ 5 := by omega
  have hn25 : n2 ≤ 5 := by omega
  clear h hs hnd hw hn0 hn1 hn2 i2 i3
  by_cases h3 : tx.size = 0
  · obtain rfl := ba_nil h3
    by_cases h4 : nd < 0
    · clear hbad h3 hk1
      go_enter Try.func91, Try.ntmps91
      go_upto_region 1 with fail
      obtain ⟨gr, hgr⟩ : ∃ gr, w.heap.size = gr := ⟨_, rfl⟩
      obtain ⟨gs, hgs⟩ : ∃ gs, gr + 1 = gs := ⟨_, rfl⟩
      obtain ⟨go, hgo⟩ : ∃ go, gs + 1 = go := ⟨_, rfl⟩
      obtain ⟨W, hW⟩ : ∃ W, ((w.alloc (.cells #[.slice (some ⟨g0, 0, none⟩) n0 c0, .slice (some ⟨g1, 0, none⟩) n1 c1, .int .i64 r.Leader, .int .i64 r.Epoch, .slice A2 n2 c2, .slice A3 n3 c3] 31)).alloc (.cells #[.int .i64 kd, .int .i64 nd, .string ⟨#[]⟩] 53)).alloc (.cells #[.slice none 0 0, .slice none 0 0, .int .i64 0, .int .i64 0, .slice none 0 0, .slice none 0 0] 31) = W := ⟨_, rfl⟩
      have HS := Lib.hid ((((H0.out.alloc' hgr 31 [.slice (some ⟨g0, 0, none⟩) n0 c0, .slice (some ⟨g1, 0, none⟩) n1 c1, .int .i64 r.Leader, .int .i64 r.Epoch, .slice A2 n2 c2, .slice A3 n3 c3]).alloc' (g := gs) (by rw [Mm.sz1, hgr, hgs]) 53 [.int .i64 kd, .int .i64 nd, .string ⟨#[]⟩]).alloc' (g := go) (by rw [Mm.sz2, hgr]; omega) 31 zRepl).atW hW)
      rw [hW, hgr, hgs, hgo]
      clear hW hgr hgs hgo
      have HSR := HS
      have d0 := HSR.out.cell (k := 0) 2 rfl rfl
      have d1 := HSR.out.cell (k := 1) 2 rfl rfl
      have d2 := HSR.out.cell (k := 2) 2 rfl rfl
      have d3 := HSR.out.cell (k := 3) 2 rfl rfl
      have d4 := HSR.out.cell (k := 4) 2 rfl rfl
      have d5 := HSR.out.cell (k := 5) 2 rfl rfl
      have b0 := HSR.out.cell (k := 0) 1 rfl rfl
      have b1 := HSR.out.cell (k := 1) 1 rfl rfl
      have b2 := HSR.out.cell (k := 2) 1 rfl rfl
      have r0 := HSR.out.cell (k := 0) 0 rfl rfl
      have r1 := HSR.out.cell (k := 1) 0 rfl rfl
      have r2 := HSR.out.cell (k := 2) 0 rfl rfl
      have r3 := HSR.out.cell (k := 3) 0 rfl rfl
      have r4 := HSR.out.cell (k := 4) 0 rfl rfl
      have r5 := HSR.out.cell (k := 5) 0 rfl rfl
      have z0 := HSR.out.frz (k := 0) 0 rfl
      have z1 := HSR.out.frz (k := 1) 0 rfl
      have z2 := HSR.out.frz (k := 2) 0 rfl
      have z3 := HSR.out.frz (k := 3) 0 rfl
      have z4 := HSR.out.frz (k := 4) 0 rfl
      have z5 := HSR.out.frz (k := 5) 0 rfl
      go_wp2
      have HSF := Lib.hid ((((((HSR.out.setBlk (k := 0) 0 rfl (.slice (some ⟨g0, 0, none⟩) n0 c0)).setBlk (k := 1) 0 rfl (.slice (some ⟨g1, 0, none⟩) n1 c1)).setBlk (k := 2) 0 rfl (.int .i64 r.Leader)).setBlk (k := 3) 0 rfl (.int .i64 r.Epoch)).setBlk (k := 4) 0 rfl (.slice A2 n2 c2)).setBlk (k := 5) 0 rfl (.slice A3 n3 c3))
      have q0 := HSF.out.cell (k := 0) 0 rfl rfl
      have q1 := HSF.out.cell (k := 1) 0 rfl rfl
      have q2 := HSF.out.cell (k := 2) 0 rfl rfl
      have q3 := HSF.out.cell (k := 3) 0 rfl rfl
      have q4 := HSF.out.cell (k := 4) 0 rfl rfl
      have q5 := HSF.out.cell (k := 5) 0 rfl rfl
      exact bodyPost_ret (v := .tuple #[.agg #[.slice (some ⟨g0, 0, none⟩) n0 c0, .slice (some ⟨g1, 0, none⟩) n1 c1, .int .i64 r.Leader, .int .i64 r.Epoch, .slice A2 n2 c2, .slice A3 n3 c3], .bool false]) (by simp [results, Try.results91, go_sem, q0, q1, q2, q3, q4, q5]) rfl ⟨[.slice (some ⟨g0, 0, none⟩) n0 c0, .slice (some ⟨g1, 0, none⟩) n1 c1, .int .i64 r.Leader, .int .i64 r.Epoch, .slice A2 n2 c2, .slice A3 n3 c3], _, by rw [HF.out], by rw [HF.out]; exact (shutv_Repl (x := r) (HSF.out.sel [3,4,5,6] (by decide) rfl) HI.out.1 HI.out.2).left, (fun _ => ⟨rfl, rfl⟩)⟩
    · have h5 : (n0 : Int) ≤ nd := by have := HN.out; rcases hbad with h | h | h <;> omega
      clear hbad h3 hk1
      go_enter Try.func91, Try.ntmps91
      go_upto_region 1 with fail
      obtain ⟨gr, hgr⟩ : ∃ gr, w.heap.size = gr := ⟨_, rfl⟩
      obtain ⟨gs, hgs⟩ : ∃ gs, gr + 1 = gs := ⟨_, rfl⟩
      obtain ⟨go, hgo⟩ : ∃ go, gs + 1 = go := ⟨_, rfl⟩
      obtain ⟨W, hW⟩ : ∃ W, ((w.alloc (.cells #[.slice (some ⟨g0, 0, none⟩) n0 c0, .slice (some ⟨g1, 0, none⟩) n1 c1, .int .i64 r.Leader, .int .i64 r.Epoch, .slice A2 n2 c2, .slice A3 n3 c3] 31)).alloc (.cells #[.int .i64 kd, .int .i64 nd, .string ⟨#[]⟩] 53)).alloc (.cells #[.slice none 0 0, .slice none 0 0, .int .i64 0, .int .i64 0, .slice none 0 0, .slice none 0 0] 31) = W := ⟨_, rfl⟩
      have HS := Lib.hid ((((H0.out.alloc' hgr 31 [.slice (some ⟨g0, 0, none⟩) n0 c0, .slice (some ⟨g1, 0, none⟩) n1 c1, .int .i64 r.Leader, .int .i64 r.Epoch, .slice A2 n2 c2, .slice A3 n3 c3]).alloc' (g := gs) (by rw [Mm.sz1, hgr, hgs]) 53 [.int .i64 kd, .int .i64 nd, .string ⟨#[]⟩]).alloc' (g := go) (by rw [Mm.sz2, hgr]; omega) 31 zRepl).atW hW)
      rw [hW, hgr, hgs, hgo]
      clear hW hgr hgs hgo
      have HSR := HS
      have d0 := HSR.out.cell (k := 0) 2 rfl rfl
      have d1 := HSR.out.cell (k := 1) 2 rfl rfl
      have d2 := HSR.out.cell (k := 2) 2 rfl rfl
      have d3 := HSR.out.cell (k := 3) 2 rfl rfl
      have d4 := HSR.out.cell (k := 4) 2 rfl rfl
      have d5 := HSR.out.cell (k := 5) 2 rfl rfl
      have b0 := HSR.out.cell (k := 0) 1 rfl rfl
      have b1 := HSR.out.cell (k := 1) 1 rfl rfl
      have b2 := HSR.out.cell (k := 2) 1 rfl rfl
      have r0 := HSR.out.cell (k := 0) 0 rfl rfl
      have r1 := HSR.out.cell (k := 1) 0 rfl rfl
      have r2 := HSR.out.cell (k := 2) 0 rfl rfl
      have r3 := HSR.out.cell (k := 3) 0 rfl rfl
      have r4 := HSR.out.cell (k := 4) 0 rfl rfl
      have r5 := HSR.out.cell (k := 5) 0 rfl rfl
      have z0 := HSR.out.frz (k := 0) 0 rfl
      have z1 := HSR.out.frz (k := 1) 0 rfl
      have z2 := HSR.out.frz (k := 2) 0 rfl
      have z3 := HSR.out.frz (k := 3) 0 rfl
      have z4 := HSR.out.frz (k := 4) 0 rfl
      have z5 := HSR.out.frz (k := 5) 0 rfl
      go_wp2
      have HSF := Lib.hid ((((((HSR.out.setBlk (k := 0) 0 rfl (.slice (some ⟨g0, 0, none⟩) n0 c0)).setBlk (k := 1) 0 rfl (.slice (some ⟨g1, 0, none⟩) n1 c1)).setBlk (k := 2) 0 rfl (.int .i64 r.Leader)).setBlk (k := 3) 0 rfl (.int .i64 r.Epoch)).setBlk (k := 4) 0 rfl (.slice A2 n2 c2)).setBlk (k := 5) 0 rfl (.slice A3 n3 c3))
      have q0 := HSF.out.cell (k := 0) 0 rfl rfl
      have q1 := HSF.out.cell (k := 1) 0 rfl rfl
      have q2 := HSF.out.cell (k := 2) 0 rfl rfl
      have q3 := HSF.out.cell (k := 3) 0 rfl rfl
      have q4 := HSF.out.cell (k := 4) 0 rfl rfl
      have q5 := HSF.out.cell (k := 5) 0 rfl rfl
      exact bodyPost_ret (v := .tuple #[.agg #[.slice (some ⟨g0, 0, none⟩) n0 c0, .slice (some ⟨g1, 0, none⟩) n1 c1, .int .i64 r.Leader, .int .i64 r.Epoch, .slice A2 n2 c2, .slice A3 n3 c3], .bool false]) (by simp [results, Try.results91, go_sem, q0, q1, q2, q3, q4, q5]) rfl ⟨[.slice (some ⟨g0, 0, none⟩) n0 c0, .slice (some ⟨g1, 0, none⟩) n1 c1, .int .i64 r.Leader, .int .i64 r.Epoch, .slice A2 n2 c2, .slice A3 n3 c3], _, by rw [HF.out], by rw [HF.out]; exact (shutv_Repl (x := r) (HSF.out.sel [3,4,5,6] (by decide) rfl) HI.out.1 HI.out.2).left, (fun _ => ⟨rfl, rfl⟩)⟩
  · have q3 := ba_some h3
    clear hbad h3 hk1
    go_enter Try.func91, Try.ntmps91
    go_upto_region 1 with fail
    obtain ⟨gr, hgr⟩ : ∃ gr, w.heap.size = gr := ⟨_, rfl⟩
    obtain ⟨gs, hgs⟩ : ∃ gs, gr + 1 = gs := ⟨_, rfl⟩
    obtain ⟨go, hgo⟩ : ∃ go, gs + 1 = go := ⟨_, rfl⟩
    obtain ⟨W, hW⟩ : ∃ W, ((w.alloc (.cells #[.slice (some ⟨g0, 0, none⟩) n0 c0, .slice (some ⟨g1, 0, none⟩) n1 c1, .int .i64 r.Leader, .int .i64 r.Epoch, .slice A2 n2 c2, .slice A3 n3 c3] 31)).alloc (.cells #[.int .i64 kd, .int .i64 nd, .string tx] 53)).alloc (.cells #[.slice none 0 0, .slice none 0 0, .int .i64 0, .int .i64 0, .slice none 0 0, .slice none 0 0] 31) = W := ⟨_, rfl⟩
    have HS := Lib.hid ((((H0.out.alloc' hgr 31 [.slice (some ⟨g0, 0, none⟩) n0 c0, .slice (some ⟨g1, 0, none⟩) n1 c1, .int .i64 r.Leader, .int .i64 r.Epoch, .slice A2 n2 c2, .slice A3 n3 c3]).alloc' (g := gs) (by rw [Mm.sz1, hgr, hgs]) 53 [.int .i64 kd, .int .i64 nd, .string tx]).alloc' (g := go) (by rw [Mm.sz2, hgr]; omega) 31 zRepl).atW hW)
    rw [hW, hgr, hgs, hgo]
    clear hW hgr hgs hgo
    have HSR := HS
    have d0 := HSR.out.cell (k := 0) 2 rfl rfl
    have d1 := HSR.out.cell (k := 1) 2 rfl rfl
    have d2 := HSR.out.cell (k := 2) 2 rfl rfl
    have d3 := HSR.out.cell (k := 3) 2 rfl rfl
    have d4 := HSR.out.cell (k := 4) 2 rfl rfl
    have d5 := HSR.out.cell (k := 5) 2 rfl rfl
    have b0 := HSR.out.cell (k := 0) 1 rfl rfl
    have b1 := HSR.out.cell (k := 1) 1 rfl rfl
    have b2 := HSR.out.cell (k := 2) 1 rfl rfl
    have r0 := HSR.out.cell (k := 0) 0 rfl rfl
    have r1 := HSR.out.cell (k := 1) 0 rfl rfl
    have r2 := HSR.out.cell (k := 2) 0 rfl rfl
    have r3 := HSR.out.cell (k := 3) 0 rfl rfl
    have r4 := HSR.out.cell (k := 4) 0 rfl rfl
    have r5 := HSR.out.cell (k := 5) 0 rfl rfl
    have z0 := HSR.out.frz (k := 0) 0 rfl
    have z1 := HSR.out.frz (k := 1) 0 rfl
    have z2 := HSR.out.frz (k := 2) 0 rfl
    have z3 := HSR.out.frz (k := 3) 0 rfl
    have z4 := HSR.out.frz (k := 4) 0 rfl
    have z5 := HSR.out.frz (k := 5) 0 rfl
    go_wp2
    have HSF := Lib.hid ((((((HSR.out.setBlk (k := 0) 0 rfl (.slice (some ⟨g0, 0, none⟩) n0 c0)).setBlk (k := 1) 0 rfl (.slice (some ⟨g1, 0, none⟩) n1 c1)).setBlk (k := 2) 0 rfl (.int .i64 r.Leader)).setBlk (k := 3) 0 rfl (.int .i64 r.Epoch)).setBlk (k := 4) 0 rfl (.slice A2 n2 c2)).setBlk (k := 5) 0 rfl (.slice A3 n3 c3))
    have q0 := HSF.out.cell (k := 0) 0 rfl rfl
    have q1 := HSF.out.cell (k := 1) 0 rfl rfl
    have q2 := HSF.out.cell (k := 2) 0 rfl rfl
    have q3 := HSF.out.cell (k := 3) 0 rfl rfl
    have q4 := HSF.out.cell (k := 4) 0 rfl rfl
    have q5 := HSF.out.cell (k := 5) 0 rfl rfl
    exact bodyPost_ret (v := .tuple #[.agg #[.slice (some ⟨g0, 0, none⟩) n0 c0, .slice (some ⟨g1, 0, none⟩) n1 c1, .int .i64 r.Leader, .int .i64 r.Epoch, .slice A2 n2 c2, .slice A3 n3 c3], .bool false]) (by simp [results, Try.results91, go_sem, q0, q1, q2, q3, q4, q5]) rfl ⟨[.slice (some ⟨g0, 0, none⟩) n0 c0, .slice (some ⟨g1, 0, none⟩) n1 c1, .int .i64 r.Leader, .int .i64 r.Epoch, .slice A2 n2 c2, .slice A3 n3 c3], _, by rw [HF.out], by rw [HF.out]; exact (shutv_Repl (x := r) (HSF.out.sel [3,4,5,6] (by decide) rfl) HI.out.1 HI.out.2).left, (fun _ => ⟨rfl, rfl⟩)⟩
set_option maxRecDepth 100000 in
set_option maxHeartbeats 2000000 in
theorem l9DoNo_c (r : Repl) (kd nd : Int) (cs : List Value) (fp : List Nat) (w : World) (h : (Mm.tow rRepl r cs fp).holds w) (hnd : fp.Nodup) (hw : Pl.RW r) (k0 : 0 ≤ nd) (k1 : nd < r.Logs.length) (hk : kd < 1 ∨ 7 < kd) :
    Calls Try.prog 91 #[.agg cs.toArray, .agg #[.int .i64 kd, .int .i64 nd, .string ⟨#[]⟩]] w (RDoAns (Pl.rdo r ⟨kd, nd, ⟨#[]⟩⟩) cs fp w) := by
  have HF : Hid (Pl.rdo r ⟨kd, nd, ⟨#[]⟩⟩ = (r, false)) := by
    show _ = _
    unfold Pl.rdo
    dsimp only
    rw [if_neg (show ¬ kd = 1 by omega), if_neg (by simp [ByteArray.size]; omega), if_neg (show ¬ kd = 2 by omega), if_neg (show ¬ kd = 3 by omega), if_neg (show ¬ kd = 4 by omega), if_neg (show ¬ kd = 5 by omega), if_neg (show ¬ kd = 6 by omega), if_neg (show ¬ kd = 7 by omega)]
  have q1 : (kd == 1) = false := by simp; omega
  have q2 : (kd == 2) = false := by simp; omega
  have q3 : (kd == 3) = false := by simp; omega
  have q4 : (kd == 4) = false := by simp; omega
  have q5 : (kd == 5) = false := by simp; omega
  have q6 : (kd == 6) = false := by simp; omega
  have q7 : (kd == 7) = false := by simp; omega
  clear hk
  obtain ⟨A0, n0, c0, A1, n1, c1, A2, n2, c2, A3, n3, c3, f0, f1, f2, f3, rfl, rfl, i2, i3, hs⟩ := openv_Repl (Mm.SepF.one _ w h hnd)
  have hn0 : n0 = r.Logs.length := by obtain ⟨A', n', c', hv, h1, _⟩ := (hs.sl 0 rfl).form; injection hv with _ h2 _; omega
  have hn1 : n1 = r.Logs.length := by obtain ⟨A', n', c', hv, h1, _⟩ := (hs.sl 1 rfl).form; injection hv with _ h2 _; have := hw.down; omega
  have hn2 : n2 = r.InSync.length := by obtain ⟨A', n', c', hv, h1, _⟩ := (hs.sl 2 rfl).form; injection hv with _ h2 _; omega
  have hsn5 := hw.sync5
  have hp5 := hw.n5
  have hp1 := hw.n1
  have l0 : 0 ≤ r.Leader := hw.lead.1
  have l1 : r.Leader < n1 := by have := hw.lead.2; omega
  have l1' : r.Leader < n0 := by have := hw.lead.2; omega
  obtain ⟨g0, rfl, -, -⟩ := Mm.sl_addr (hs.sl 0 rfl) (by omega)
  obtain ⟨g1, rfl, -, -⟩ := Mm.sl_addr (hs.sl 1 rfl) (by have := hw.down; omega)
  have HI := Lib.hid (And.intro i2 i3)
  have HW := Lib.hid hw
  have HDL : Hid (r.Down[r.Leader.toNat]? = some (Pl.downAt r r.Leader)) := Lib.hid (hw.dat l0 hw.lead.2)
  have H0 := Lib.hid hs
  have HN := Lib.hid (And.intro hn0 (And.intro hn1 hn2))
  have hn05 : n0 ≤ 5 := by omega
  have hn15 : n1 ≤ 5 := by omega
  have hn25 : n2 ≤ 5 := by omega
  clear h hs hnd hw hn0 hn1 hn2 i2 i3
  have HDN : Hid (r.Down[nd.toNat]? = some (Pl.downAt r nd)) := Lib.hid (HW.out.dat k0 k1)
  have k1' : nd < n0 := by have := HN.out; omega
  have k1'' : nd < n1 := by have := HN.out; omega
  obtain ⟨dn, hdn⟩ : ∃ dn, Pl.downAt r nd = dn := ⟨_, rfl⟩
  obtain ⟨dl, hdl⟩ : ∃ dl, Pl.downAt r r.Leader = dl := ⟨_, rfl⟩
  rw [hdn] at HDN
  rw [hdl] at HDL
  have HED := Lib.hid (And.intro hdl hdn)
  have HK1 := Lib.hid k1
  clear hdl hdn k1
  go_enter Try.func91, Try.ntmps91
  go_upto_region 1 with fail
  obtain ⟨gr, hgr⟩ : ∃ gr, w.heap.size = gr := ⟨_, rfl⟩
  obtain ⟨gs, hgs⟩ : ∃ gs, gr + 1 = gs := ⟨_, rfl⟩
  obtain ⟨go, hgo⟩ : ∃ go, gs + 1 = go := ⟨_, rfl⟩
  obtain ⟨W, hW⟩ : ∃ W, ((w.alloc (.cells #[.slice (some ⟨g0, 0, none⟩) n0 c0, .slice (some ⟨g1, 0, none⟩) n1 c1, .int .i64 r.Leader, .int .i64 r.Epoch, .slice A2 n2 c2, .slice A3 n3 c3] 31)).alloc (.cells #[.int .i64 kd, .int .i64 nd, .string ⟨#[]⟩] 53)).alloc (.cells #[.slice none 0 0, .slice none 0 0, .int .i64 0, .int .i64 0, .slice none 0 0, .slice none 0 0] 31) = W := ⟨_, rfl⟩
  have HS := Lib.hid ((((H0.out.alloc' hgr 31 [.slice (some ⟨g0, 0, none⟩) n0 c0, .slice (some ⟨g1, 0, none⟩) n1 c1, .int .i64 r.Leader, .int .i64 r.Epoch, .slice A2 n2 c2, .slice A3 n3 c3]).alloc' (g := gs) (by rw [Mm.sz1, hgr, hgs]) 53 [.int .i64 kd, .int .i64 nd, .string ⟨#[]⟩]).alloc' (g := go) (by rw [Mm.sz2, hgr]; omega) 31 zRepl).atW hW)
  rw [hW, hgr, hgs, hgo]
  clear hW hgr hgs hgo
  have HSR := HS
  have d0 := HSR.out.cell (k := 0) 2 rfl rfl
  have d1 := HSR.out.cell (k := 1) 2 rfl rfl
  have d2 := HSR.out.cell (k := 2) 2 rfl rfl
  have d3 := HSR.out.cell (k := 3) 2 rfl rfl
  have d4 := HSR.out.cell (k := 4) 2 rfl rfl
  have d5 := HSR.out.cell (k := 5) 2 rfl rfl
  have b0 := HSR.out.cell (k := 0) 1 rfl rfl
  have b1 := HSR.out.cell (k := 1) 1 rfl rfl
  have b2 := HSR.out.cell (k := 2) 1 rfl rfl
  have r0 := HSR.out.cell (k := 0) 0 rfl rfl
  have r1 := HSR.out.cell (k := 1) 0 rfl rfl
  have r2 := HSR.out.cell (k := 2) 0 rfl rfl
  have r3 := HSR.out.cell (k := 3) 0 rfl rfl
  have r4 := HSR.out.cell (k := 4) 0 rfl rfl
  have r5 := HSR.out.cell (k := 5) 0 rfl rfl
  have z0 := HSR.out.frz (k := 0) 0 rfl
  have z1 := HSR.out.frz (k := 1) 0 rfl
  have z2 := HSR.out.frz (k := 2) 0 rfl
  have z3 := HSR.out.frz (k := 3) 0 rfl
  have z4 := HSR.out.frz (k := 4) 0 rfl
  have z5 := HSR.out.frz (k := 5) 0 rfl
  have el := bool_ocell (HSR.out.sl 4 rfl) (HSR.out.ndat (i := 4) rfl) HDL.out
  have en := bool_ocell (HSR.out.sl 4 rfl) (HSR.out.ndat (i := 4) rfl) HDN.out
  have CH := l1Has_c r.InSync nd A2 n2 c2 W W.heap.size ((HS.out.sl 5 rfl).weak (HS.out.sl 5 rfl).olt)
  obtain ⟨ii, hii⟩ : ∃ ii, Pl.hasI r.InSync nd = ii := ⟨_, rfl⟩
  rw [hii] at CH
  have HII := Lib.hid hii
  clear hii
  go_upto_region 11 with (go_at_call 106; (with_reducible refine CH.mono ?_); clear CH; rintro e w' ⟨rfl, rfl⟩)
  cases dl
  · skip
    go_wp2
    have HSF := Lib.hid ((((((HSR.out.setBlk (k := 0) 0 rfl (.slice (some ⟨g0, 0, none⟩) n0 c0)).setBlk (k := 1) 0 rfl (.slice (some ⟨g1, 0, none⟩) n1 c1)).setBlk (k := 2) 0 rfl (.int .i64 r.Leader)).setBlk (k := 3) 0 rfl (.int .i64 r.Epoch)).setBlk (k := 4) 0 rfl (.slice A2 n2 c2)).setBlk (k := 5) 0 rfl (.slice A3 n3 c3))
    have q0 := HSF.out.cell (k := 0) 0 rfl rfl
    have q1 := HSF.out.cell (k := 1) 0 rfl rfl
    have q2 := HSF.out.cell (k := 2) 0 rfl rfl
    have q3 := HSF.out.cell (k := 3) 0 rfl rfl
    have q4 := HSF.out.cell (k := 4) 0 rfl rfl
    have q5 := HSF.out.cell (k := 5) 0 rfl rfl
    exact bodyPost_ret (v := .tuple #[.agg #[.slice (some ⟨g0, 0, none⟩) n0 c0, .slice (some ⟨g1, 0, none⟩) n1 c1, .int .i64 r.Leader, .int .i64 r.Epoch, .slice A2 n2 c2, .slice A3 n3 c3], .bool false]) (by simp [results, Try.results91, go_sem, q0, q1, q2, q3, q4, q5]) rfl ⟨[.slice (some ⟨g0, 0, none⟩) n0 c0, .slice (some ⟨g1, 0, none⟩) n1 c1, .int .i64 r.Leader, .int .i64 r.Epoch, .slice A2 n2 c2, .slice A3 n3 c3], _, by rw [HF.out], by rw [HF.out]; exact (shutv_Repl (x := r) (HSF.out.sel [3,4,5,6] (by decide) rfl) HI.out.1 HI.out.2).left, (fun _ => ⟨rfl, rfl⟩)⟩
  · skip
    go_wp2
    have HSF := Lib.hid ((((((HSR.out.setBlk (k := 0) 0 rfl (.slice (some ⟨g0, 0, none⟩) n0 c0)).setBlk (k := 1) 0 rfl (.slice (some ⟨g1, 0, none⟩) n1 c1)).setBlk (k := 2) 0 rfl (.int .i64 r.Leader)).setBlk (k := 3) 0 rfl (.int .i64 r.Epoch)).setBlk (k := 4) 0 rfl (.slice A2 n2 c2)).setBlk (k := 5) 0 rfl (.slice A3 n3 c3))
    have q0 := HSF.out.cell (k := 0) 0 rfl rfl
    have q1 := HSF.out.cell (k := 1) 0 rfl rfl
    have q2 := HSF.out.cell (k := 2) 0 rfl rfl
    have q3 := HSF.out.cell (k := 3) 0 rfl rfl
    have q4 := HSF.out.cell (k := 4) 0 rfl rfl
    have q5 := HSF.out.cell (k := 5) 0 rfl rfl
    exact bodyPost_ret (v := .tuple #[.agg #[.slice (some ⟨g0, 0, none⟩) n0 c0, .slice (some ⟨g1, 0, none⟩) n1 c1, .int .i64 r.Leader, .int .i64 r.Epoch, .slice A2 n2 c2, .slice A3 n3 c3], .bool false]) (by simp [results, Try.results91, go_sem, q0, q1, q2, q3, q4, q5]) rfl ⟨[.slice (some ⟨g0, 0, none⟩) n0 c0, .slice (some ⟨g1, 0, none⟩) n1 c1, .int .i64 r.Leader, .int .i64 r.Epoch, .slice A2 n2 c2, .slice A3 n3 c3], _, by rw [HF.out], by rw [HF.out]; exact (shutv_Repl (x := r) (HSF.out.sel [3,4,5,6] (by decide) rfl) HI.out.1 HI.out.2).left, (fun _ => ⟨rfl, rfl⟩)⟩
end Go.Proofs.Ytihendiakgfpcaa

/-
  Contracts: the reference's step of a replication, by value: a node fails, is back, is chosen (chapter 9). No conditions beyond those named.
-/
namespace Go.Proofs.Ytihendiakgfpcaa
open Go.RowKit
attribute [local go_sem] und_cell cha_cell World.cell?_alloc_some
set_option maxRecDepth 100000 in
set_option maxHeartbeats 2000000 in
theorem l9DoFail_c (r : Repl) (nd : Int) (cs : List Value) (fp : List Nat) (w : World) (h : (Mm.tow rRepl r cs fp).holds w) (hnd : fp.Nodup) (hw : Pl.RW r) (k0 : 0 ≤ nd) (k1 : nd < r.Logs.length) :
    Calls Try.prog 91 #[.agg cs.toArray, .agg #[.int .i64 5, .int .i64 nd, .string ⟨#[]⟩]] w (RDoAns (Pl.rdo r ⟨5, nd, ⟨#[]⟩⟩) cs fp w) := by
  obtain ⟨A0, n0, c0, A1, n1, c1, A2, n2, c2, A3, n3, c3, f0, f1, f2, f3, rfl, rfl, i2, i3, hs⟩ := openv_Repl (Mm.SepF.one _ w h hnd)
  have hn0 : n0 = r.Logs.length := by obtain ⟨A', n', c', hv, h1, _⟩ := (hs.sl 0 rfl).form; injection hv with _ h2 _; omega
  have hn1 : n1 = r.Logs.length := by obtain ⟨A', n', c', hv, h1, _⟩ := (hs.sl 1 rfl).form; injection hv with _ h2 _; have := hw.down; omega
  have hn2 : n2 = r.InSync.length := by obtain ⟨A', n', c', hv, h1, _⟩ := (hs.sl 2 rfl).form; injection hv with _ h2 _; omega
  have hsn5 := hw.sync5
  have hp5 := hw.n5
  have hp1 := hw.n1
  have l0 : 0 ≤ r.Leader := hw.lead.1
  have l1 : r.Leader < n1 := by have := hw.lead.2; omega
  have l1' : r.Leader < n0 := by have := hw.lead.2; omega
  obtain ⟨g0, rfl, -, -⟩ := Mm.sl_addr (hs.sl 0 rfl) (by omega)
  obtain ⟨g1, rfl, -, -⟩ := Mm.sl_addr (hs.sl 1 rfl) (by have := hw.down; omega)
  have HI := Lib.hid (And.intro i2 i3)
  have HW := Lib.hid hw
  have HDL : Hid (r.Down[r.Leader.toNat]? = some (Pl.downAt r r.Leader)) := Lib.hid (hw.dat l0 hw.lead.2)
  have H0 := Lib.hid hs
  have HN := Lib.hid (And.intro hn0 (And.intro hn1 hn2))
  have hn05 : n0 ≤ 5 := by omega
  have hn15 : n1 ≤ 5 := by omega
  have hn25 : n2 ≤ 5 := by omega
  clear h hs hnd hw hn0 hn1 hn2 i2 i3
  have HDN : Hid (r.Down[nd.toNat]? = some (Pl.downAt r nd)) := Lib.hid (HW.out.dat k0 k1)
  have k1' : nd < n0 := by have := HN.out; omega
  have k1'' : nd < n1 := by have := HN.out; omega
  obtain ⟨dn, hdn⟩ : ∃ dn, Pl.downAt r nd = dn := ⟨_, rfl⟩
  obtain ⟨dl, hdl⟩ : ∃ dl, Pl.downAt r r.Leader = dl := ⟨_, rfl⟩
  rw [hdn] at HDN
  rw [hdl] at HDL
  have HED := Lib.hid (And.intro hdl hdn)
  have HK1 := Lib.hid k1
  clear hdl hdn k1
  go_enter Try.func91, Try.ntmps91
  go_upto_region 1 with fail
  obtain ⟨gr, hgr⟩ : ∃ gr, w.heap.size = gr := ⟨_, rfl⟩
  obtain ⟨gs, hgs⟩ : ∃ gs, gr + 1 = gs := ⟨_, rfl⟩
  obtain ⟨go, hgo⟩ : ∃ go, gs + 1 = go := ⟨_, rfl⟩
  obtain ⟨W, hW⟩ : ∃ W, ((w.alloc (.cells #[.slice (some ⟨g0, 0, none⟩) n0 c0, .slice (some ⟨g1, 0, none⟩) n1 c1, .int .i64 r.Leader, .int .i64 r.Epoch, .slice A2 n2 c2, .slice A3 n3 c3] 31)).alloc (.cells #[.int .i64 5, .int .i64 nd, .string ⟨#[]⟩] 53)).alloc (.cells #[.slice none 0 0, .slice none 0 0, .int .i64 0, .int .i64 0, .slice none 0 0, .slice none 0 0] 31) = W := ⟨_, rfl⟩
  have HS := Lib.hid ((((H0.out.alloc' hgr 31 [.slice (some ⟨g0, 0, none⟩) n0 c0, .slice (some ⟨g1, 0, none⟩) n1 c1, .int .i64 r.Leader, .int .i64 r.Epoch, .slice A2 n2 c2, .slice A3 n3 c3]).alloc' (g := gs) (by rw [Mm.sz1, hgr, hgs]) 53 [.int .i64 5, .int .i64 nd, .string ⟨#[]⟩]).alloc' (g := go) (by rw [Mm.sz2, hgr]; omega) 31 zRepl).atW hW)
  rw [hW, hgr, hgs, hgo]
  clear hW hgr hgs hgo
  have HSR := HS
  have d0 := HSR.out.cell (k := 0) 2 rfl rfl
  have d1 := HSR.out.cell (k := 1) 2 rfl rfl
  have d2 := HSR.out.cell (k := 2) 2 rfl rfl
  have d3 := HSR.out.cell (k := 3) 2 rfl rfl
  have d4 := HSR.out.cell (k := 4) 2 rfl rfl
  have d5 := HSR.out.cell (k := 5) 2 rfl rfl
  have b0 := HSR.out.cell (k := 0) 1 rfl rfl
  have b1 := HSR.out.cell (k := 1) 1 rfl rfl
  have b2 := HSR.out.cell (k := 2) 1 rfl rfl
  have r0 := HSR.out.cell (k := 0) 0 rfl rfl
  have r1 := HSR.out.cell (k := 1) 0 rfl rfl
  have r2 := HSR.out.cell (k := 2) 0 rfl rfl
  have r3 := HSR.out.cell (k := 3) 0 rfl rfl
  have r4 := HSR.out.cell (k := 4) 0 rfl rfl
  have r5 := HSR.out.cell (k := 5) 0 rfl rfl
  have z0 := HSR.out.frz (k := 0) 0 rfl
  have z1 := HSR.out.frz (k := 1) 0 rfl
  have z2 := HSR.out.frz (k := 2) 0 rfl
  have z3 := HSR.out.frz (k := 3) 0 rfl
  have z4 := HSR.out.frz (k := 4) 0 rfl
  have z5 := HSR.out.frz (k := 5) 0 rfl
  have el := bool_ocell (HSR.out.sl 4 rfl) (HSR.out.ndat (i := 4) rfl) HDL.out
  have en := bool_ocell (HSR.out.sl 4 rfl) (HSR.out.ndat (i := 4) rfl) HDN.out
  have CH := l1Has_c r.InSync nd A2 n2 c2 W W.heap.size ((HS.out.sl 5 rfl).weak (HS.out.sl 5 rfl).olt)
  obtain ⟨ii, hii⟩ : ∃ ii, Pl.hasI r.InSync nd = ii := ⟨_, rfl⟩
  rw [hii] at CH
  have HII := Lib.hid hii
  clear hii
  go_upto_region 11 with (go_at_call 106; (with_reducible refine CH.mono ?_); clear CH; rintro e w' ⟨rfl, rfl⟩)
  have hdo : Pl.rdo r ⟨5, nd, ⟨#[]⟩⟩ = if dn = false then ({ r with Down := r.Down.set nd.toNat true }, true) else (r, false) := by
    rw [← HED.out.2]
    unfold Pl.rdo
    dsimp only
    have hn := HN.out
    rw [if_neg (show ¬ (5 : Int) = 1 by omega), if_neg (by simp [ByteArray.size]; omega), if_neg (show ¬ (5 : Int) = 2 by omega), if_neg (show ¬ (5 : Int) = 3 by omega), if_neg (show ¬ (5 : Int) = 4 by omega), (if_pos rfl)]
  by_cases hdn : dn = false
  · have HF : Hid (Pl.rdo r ⟨5, nd, ⟨#[]⟩⟩ = ({ r with Down := r.Down.set nd.toNat true }, true)) := Lib.hid (by rw [hdo, if_pos hdn])
    clear hdo
    subst hdn
    have z7 := (HSR.out.sl 4 rfl).frozen nd.toNat
    have HS5 := Lib.hid (HSR.out.put1 (k := nd.toNat) 4 rfl rfl HDN.out (x' := true) (u := .bool true) (fun cs fx hh => ⟨rfl, trivial, by obtain ⟨_, _, rfl⟩ := hh; rfl⟩))
    go_upto_region 31 with fail
    clear el en z7
    clear HSR
    have HSR := HS5
    clear HS5
    obtain ⟨XT, hXT⟩ : ∃ XT, (W.setCell ⟨g1, nd.toNat, none⟩ (.bool true)) = XT := ⟨_, rfl⟩
    rw [hXT] at HSR ⊢
    clear hXT
    clear d0 d1 d2 d3 d4 d5 b0 b1 b2 r0 r1 r2 r3 r4 r5 z0 z1 z2 z3 z4 z5
    have d0 := HSR.out.cell (k := 0) 2 rfl rfl
    have d1 := HSR.out.cell (k := 1) 2 rfl rfl
    have d2 := HSR.out.cell (k := 2) 2 rfl rfl
    have d3 := HSR.out.cell (k := 3) 2 rfl rfl
    have d4 := HSR.out.cell (k := 4) 2 rfl rfl
    have d5 := HSR.out.cell (k := 5) 2 rfl rfl
    have r0 := HSR.out.cell (k := 0) 0 rfl rfl
    have r1 := HSR.out.cell (k := 1) 0 rfl rfl
    have r2 := HSR.out.cell (k := 2) 0 rfl rfl
    have r3 := HSR.out.cell (k := 3) 0 rfl rfl
    have r4 := HSR.out.cell (k := 4) 0 rfl rfl
    have r5 := HSR.out.cell (k := 5) 0 rfl rfl
    have z0 := HSR.out.frz (k := 0) 0 rfl
    have z1 := HSR.out.frz (k := 1) 0 rfl
    have z2 := HSR.out.frz (k := 2) 0 rfl
    have z3 := HSR.out.frz (k := 3) 0 rfl
    have z4 := HSR.out.frz (k := 4) 0 rfl
    have z5 := HSR.out.frz (k := 5) 0 rfl
    go_wp2
    have HSF := Lib.hid ((((((HSR.out.setBlk (k := 0) 0 rfl (.slice (some ⟨g0, 0, none⟩) n0 c0)).setBlk (k := 1) 0 rfl (.slice (some ⟨g1, 0, none⟩) n1 c1)).setBlk (k := 2) 0 rfl (.int .i64 r.Leader)).setBlk (k := 3) 0 rfl (.int .i64 r.Epoch)).setBlk (k := 4) 0 rfl (.slice A2 n2 c2)).setBlk (k := 5) 0 rfl (.slice A3 n3 c3))
    have q0 := HSF.out.cell (k := 0) 0 rfl rfl
    have q1 := HSF.out.cell (k := 1) 0 rfl rfl
    have q2 := HSF.out.cell (k := 2) 0 rfl rfl
    have q3 := HSF.out.cell (k := 3) 0 rfl rfl
    have q4 := HSF.out.cell (k := 4) 0 rfl rfl
    have q5 := HSF.out.cell (k := 5) 0 rfl rfl
    exact bodyPost_ret (v := .tuple #[.agg #[.slice (some ⟨g0, 0, none⟩) n0 c0, .slice (some ⟨g1, 0, none⟩) n1 c1, .int .i64 r.Leader, .int .i64 r.Epoch, .slice A2 n2 c2, .slice A3 n3 c3], .bool true]) (by simp [results, Try.results91, go_sem, q0, q1, q2, q3, q4, q5]) rfl ⟨[.slice (some ⟨g0, 0, none⟩) n0 c0, .slice (some ⟨g1, 0, none⟩) n1 c1, .int .i64 r.Leader, .int .i64 r.Epoch, .slice A2 n2 c2, .slice A3 n3 c3], _, by rw [HF.out], by rw [HF.out]; exact (shutv_Repl (x := ({ r with Down := r.Down.set nd.toNat true })) (HSF.out.sel [3,4,5,6] (by decide) rfl) HI.out.1 HI.out.2).left, (by rw [HF.out]; intro h; cases h)⟩
  · have HF : Hid (Pl.rdo r ⟨5, nd, ⟨#[]⟩⟩ = (r, false)) := Lib.hid (by rw [hdo, if_neg hdn])
    clear hdo
    obtain rfl : dn = true := by cases dn <;> simp_all
    clear hdn
    go_wp2
    have HSF := Lib.hid ((((((HSR.out.setBlk (k := 0) 0 rfl (.slice (some ⟨g0, 0, none⟩) n0 c0)).setBlk (k := 1) 0 rfl (.slice (some ⟨g1, 0, none⟩) n1 c1)).setBlk (k := 2) 0 rfl (.int .i64 r.Leader)).setBlk (k := 3) 0 rfl (.int .i64 r.Epoch)).setBlk (k := 4) 0 rfl (.slice A2 n2 c2)).setBlk (k := 5) 0 rfl (.slice A3 n3 c3))
    have q0 := HSF.out.cell (k := 0) 0 rfl rfl
    have q1 := HSF.out.cell (k := 1) 0 rfl rfl
    have q2 := HSF.out.cell (k := 2) 0 rfl rfl
    have q3 := HSF.out.cell (k := 3) 0 rfl rfl
    have q4 := HSF.out.cell (k := 4) 0 rfl rfl
    have q5 := HSF.out.cell (k := 5) 0 rfl rfl
    exact bodyPost_ret (v := .tuple #[.agg #[.slice (some ⟨g0, 0, none⟩) n0 c0, .slice (some ⟨g1, 0, none⟩) n1 c1, .int .i64 r.Leader, .int .i64 r.Epoch, .slice A2 n2 c2, .slice A3 n3 c3], .bool false]) (by simp [results, Try.results91, go_sem, q0, q1, q2, q3, q4, q5]) rfl ⟨[.slice (some ⟨g0, 0, none⟩) n0 c0, .slice (some ⟨g1, 0, none⟩) n1 c1, .int .i64 r.Leader, .int .i64 r.Epoch, .slice A2 n2 c2, .slice A3 n3 c3], _, by rw [HF.out], by rw [HF.out]; exact (shutv_Repl (x := r) (HSF.out.sel [3,4,5,6] (by decide) rfl) HI.out.1 HI.out.2).left, (fun _ => ⟨rfl, rfl⟩)⟩
set_option maxRecDepth 100000 in
set_option maxHeartbeats 2000000 in
theorem l9DoBack_c (r : Repl) (nd : Int) (cs : List Value) (fp : List Nat) (w : World) (h : (Mm.tow rRepl r cs fp).holds w) (hnd : fp.Nodup) (hw : Pl.RW r) (k0 : 0 ≤ nd) (k1 : nd < r.Logs.length) :
    Calls Try.prog 91 #[.agg cs.toArray, .agg #[.int .i64 6, .int .i64 nd, .string ⟨#[]⟩]] w (RDoAns (Pl.rdo r ⟨6, nd, ⟨#[]⟩⟩) cs fp w) := by
  obtain ⟨A0, n0, c0, A1, n1, c1, A2, n2, c2, A3, n3, c3, f0, f1, f2, f3, rfl, rfl, i2, i3, hs⟩ := openv_Repl (Mm.SepF.one _ w h hnd)
  have hn0 : n0 = r.Logs.length := by obtain ⟨A', n', c', hv, h1, _⟩ := (hs.sl 0 rfl).form; injection hv with _ h2 _; omega
  have hn1 : n1 = r.Logs.length := by obtain ⟨A', n', c', hv, h1, _⟩ := (hs.sl 1 rfl).form; injection hv with _ h2 _; have := hw.down; omega
  have hn2 : n2 = r.InSync.length := by obtain ⟨A', n', c', hv, h1, _⟩ := (hs.sl 2 rfl).form; injection hv with _ h2 _; omega
  have hsn5 := hw.sync5
  have hp5 := hw.n5
  have hp1 := hw.n1
  have l0 : 0 ≤ r.Leader := hw.lead.1
  have l1 : r.Leader < n1 := by have := hw.lead.2; omega
  have l1' : r.Leader < n0 := by have := hw.lead.2; omega
  obtain ⟨g0, rfl, -, -⟩ := Mm.sl_addr (hs.sl 0 rfl) (by omega)
  obtain ⟨g1, rfl, -, -⟩ := Mm.sl_addr (hs.sl 1 rfl) (by have := hw.down; omega)
  have HI := Lib.hid (And.intro i2 i3)
  have HW := Lib.hid hw
  have HDL : Hid (r.Down[r.Leader.toNat]? = some (Pl.downAt r r.Leader)) := Lib.hid (hw.dat l0 hw.lead.2)
  have H0 := Lib.hid hs
  have HN := Lib.hid (And.intro hn0 (And.intro hn1 hn2))
  have hn05 : n0 ≤ 5 := by omega
  have hn15 : n1 ≤ 5 := by omega
  have hn25 : n2 ≤ 5 := by omega
  clear h hs hnd hw hn0 hn1 hn2 i2 i3
  have HDN : Hid (r.Down[nd.toNat]? = some (Pl.downAt r nd)) := Lib.hid (HW.out.dat k0 k1)
  have k1' : nd < n0 := by have := HN.out; omega
  have k1'' : nd < n1 := by have := HN.out; omega
  obtain ⟨dn, hdn⟩ : ∃ dn, Pl.downAt r nd = dn := ⟨_, rfl⟩
  obtain ⟨dl, hdl⟩ : ∃ dl, Pl.downAt r r.Leader = dl := ⟨_, rfl⟩
  rw [hdn] at HDN
  rw [hdl] at HDL
  have HED := Lib.hid (And.intro hdl hdn)
  have HK1 := Lib.hid k1
  clear hdl hdn k1
  go_enter Try.func91, Try.ntmps91
  go_upto_region 1 with fail
  obtain ⟨gr, hgr⟩ : ∃ gr, w.heap.size = gr := ⟨_, rfl⟩
  obtain ⟨gs, hgs⟩ : ∃ gs, gr + 1 = gs := ⟨_, rfl⟩
  obtain ⟨go, hgo⟩ : ∃ go, gs + 1 = go := ⟨_, rfl⟩
  obtain ⟨W, hW⟩ : ∃ W, ((w.alloc (.cells #[.slice (some ⟨g0, 0, none⟩) n0 c0, .slice (some ⟨g1, 0, none⟩) n1 c1, .int .i64 r.Leader, .int .i64 r.Epoch, .slice A2 n2 c2, .slice A3 n3 c3] 31)).alloc (.cells #[.int .i64 6, .int .i64 nd, .string ⟨#[]⟩] 53)).alloc (.cells #[.slice none 0 0, .slice none 0 0, .int .i64 0, .int .i64 0, .slice none 0 0, .slice none 0 0] 31) = W := ⟨_, rfl⟩
  have HS := Lib.hid ((((H0.out.alloc' hgr 31 [.slice (some ⟨g0, 0, none⟩) n0 c0, .slice (some ⟨g1, 0, none⟩) n1 c1, .int .i64 r.Leader, .int .i64 r.Epoch, .slice A2 n2 c2, .slice A3 n3 c3]).alloc' (g := gs) (by rw [Mm.sz1, hgr, hgs]) 53 [.int .i64 6, .int .i64 nd, .string ⟨#[]⟩]).alloc' (g := go) (by rw [Mm.sz2, hgr]; omega) 31 zRepl).atW hW)
  rw [hW, hgr, hgs, hgo]
  clear hW hgr hgs hgo
  have HSR := HS
  have d0 := HSR.out.cell (k := 0) 2 rfl rfl
  have d1 := HSR.out.cell (k := 1) 2 rfl rfl
  have d2 := HSR.out.cell (k := 2) 2 rfl rfl
  have d3 := HSR.out.cell (k := 3) 2 rfl rfl
  have d4 := HSR.out.cell (k := 4) 2 rfl rfl
  have d5 := HSR.out.cell (k := 5) 2 rfl rfl
  have b0 := HSR.out.cell (k := 0) 1 rfl rfl
  have b1 := HSR.out.cell (k := 1) 1 rfl rfl
  have b2 := HSR.out.cell (k := 2) 1 rfl rfl
  have r0 := HSR.out.cell (k := 0) 0 rfl rfl
  have r1 := HSR.out.cell (k := 1) 0 rfl rfl
  have r2 := HSR.out.cell (k := 2) 0 rfl rfl
  have r3 := HSR.out.cell (k := 3) 0 rfl rfl
  have r4 := HSR.out.cell (k := 4) 0 rfl rfl
  have r5 := HSR.out.cell (k := 5) 0 rfl rfl
  have z0 := HSR.out.frz (k := 0) 0 rfl
  have z1 := HSR.out.frz (k := 1) 0 rfl
  have z2 := HSR.out.frz (k := 2) 0 rfl
  have z3 := HSR.out.frz (k := 3) 0 rfl
  have z4 := HSR.out.frz (k := 4) 0 rfl
  have z5 := HSR.out.frz (k := 5) 0 rfl
  have el := bool_ocell (HSR.out.sl 4 rfl) (HSR.out.ndat (i := 4) rfl) HDL.out
  have en := bool_ocell (HSR.out.sl 4 rfl) (HSR.out.ndat (i := 4) rfl) HDN.out
  have CH := l1Has_c r.InSync nd A2 n2 c2 W W.heap.size ((HS.out.sl 5 rfl).weak (HS.out.sl 5 rfl).olt)
  obtain ⟨ii, hii⟩ : ∃ ii, Pl.hasI r.InSync nd = ii := ⟨_, rfl⟩
  rw [hii] at CH
  have HII := Lib.hid hii
  clear hii
  go_upto_region 11 with (go_at_call 106; (with_reducible refine CH.mono ?_); clear CH; rintro e w' ⟨rfl, rfl⟩)
  have hdo : Pl.rdo r ⟨6, nd, ⟨#[]⟩⟩ = if dn = true then ({ r with Down := r.Down.set nd.toNat false }, true) else (r, false) := by
    rw [← HED.out.2]
    unfold Pl.rdo
    dsimp only
    have hn := HN.out
    rw [if_neg (show ¬ (6 : Int) = 1 by omega), if_neg (by simp [ByteArray.size]; omega), if_neg (show ¬ (6 : Int) = 2 by omega), if_neg (show ¬ (6 : Int) = 3 by omega), if_neg (show ¬ (6 : Int) = 4 by omega), (if_neg (show ¬ (6 : Int) = 5 by omega)),(if_pos rfl)]
  by_cases hdn : dn = true
  · have HF : Hid (Pl.rdo r ⟨6, nd, ⟨#[]⟩⟩ = ({ r with Down := r.Down.set nd.toNat false }, true)) := Lib.hid (by rw [hdo, if_pos hdn])
    clear hdo
    subst hdn
    have z7 := (HSR.out.sl 4 rfl).frozen nd.toNat
    have HS5 := Lib.hid (HSR.out.put1 (k := nd.toNat) 4 rfl rfl HDN.out (x' := false) (u := .bool false) (fun cs fx hh => ⟨rfl, trivial, by obtain ⟨_, _, rfl⟩ := hh; rfl⟩))
    go_upto_region 31 with fail
    clear el en z7
    clear HSR
    have HSR := HS5
    clear HS5
    obtain ⟨XT, hXT⟩ : ∃ XT, (W.setCell ⟨g1, nd.toNat, none⟩ (.bool false)) = XT := ⟨_, rfl⟩
    rw [hXT] at HSR ⊢
    clear hXT
    clear d0 d1 d2 d3 d4 d5 b0 b1 b2 r0 r1 r2 r3 r4 r5 z0 z1 z2 z3 z4 z5
    have d0 := HSR.out.cell (k := 0) 2 rfl rfl
    have d1 := HSR.out.cell (k := 1) 2 rfl rfl
    have d2 := HSR.out.cell (k := 2) 2 rfl rfl
    have d3 := HSR.out.cell (k := 3) 2 rfl rfl
    have d4 := HSR.out.cell (k := 4) 2 rfl rfl
    have d5 := HSR.out.cell (k := 5) 2 rfl rfl
    have r0 := HSR.out.cell (k := 0) 0 rfl rfl
    have r1 := HSR.out.cell (k := 1) 0 rfl rfl
    have r2 := HSR.out.cell (k := 2) 0 rfl rfl
    have r3 := HSR.out.cell (k := 3) 0 rfl rfl
    have r4 := HSR.out.cell (k := 4) 0 rfl rfl
    have r5 := HSR.out.cell (k := 5) 0 rfl rfl
    have z0 := HSR.out.frz (k := 0) 0 rfl
    have z1 := HSR.out.frz (k := 1) 0 rfl
    have z2 := HSR.out.frz (k := 2) 0 rfl
    have z3 := HSR.out.frz (k := 3) 0 rfl
    have z4 := HSR.out.frz (k := 4) 0 rfl
    have z5 := HSR.out.frz (k := 5) 0 rfl
    go_wp2
    have HSF := Lib.hid ((((((HSR.out.setBlk (k := 0) 0 rfl (.slice (some ⟨g0, 0, none⟩) n0 c0)).setBlk (k := 1) 0 rfl (.slice (some ⟨g1, 0, none⟩) n1 c1)).setBlk (k := 2) 0 rfl (.int .i64 r.Leader)).setBlk (k := 3) 0 rfl (.int .i64 r.Epoch)).setBlk (k := 4) 0 rfl (.slice A2 n2 c2)).setBlk (k := 5) 0 rfl (.slice A3 n3 c3))
    have q0 := HSF.out.cell (k := 0) 0 rfl rfl
    have q1 := HSF.out.cell (k := 1) 0 rfl rfl
    have q2 := HSF.out.cell (k := 2) 0 rfl rfl
    have q3 := HSF.out.cell (k := 3) 0 rfl rfl
    have q4 := HSF.out.cell (k := 4) 0 rfl rfl
    have q5 := HSF.out.cell (k := 5) 0 rfl rfl
    exact bodyPost_ret (v := .tuple #[.agg #[.slice (some ⟨g0, 0, none⟩) n0 c0, .slice (some ⟨g1, 0, none⟩) n1 c1, .int .i64 r.Leader, .int .i64 r.Epoch, .slice A2 n2 c2, .slice A3 n3 c3], .bool true]) (by simp [results, Try.results91, go_sem, q0, q1, q2, q3, q4, q5]) rfl ⟨[.slice (some ⟨g0, 0, none⟩) n0 c0, .slice (some ⟨g1, 0, none⟩) n1 c1, .int .i64 r.Leader, .int .i64 r.Epoch, .slice A2 n2 c2, .slice A3 n3 c3], _, by rw [HF.out], by rw [HF.out]; exact (shutv_Repl (x := ({ r with Down := r.Down.set nd.toNat false })) (HSF.out.sel [3,4,5,6] (by decide) rfl) HI.out.1 HI.out.2).left, (by rw [HF.out]; intro h; cases h)⟩
  · have HF : Hid (Pl.rdo r ⟨6, nd, ⟨#[]⟩⟩ = (r, false)) := Lib.hid (by rw [hdo, if_neg hdn])
    clear hdo
    obtain rfl : dn = false := by cases dn <;> simp_all
    clear hdn
    go_wp2
    have HSF := Lib.hid ((((((HSR.out.setBlk (k := 0) 0 rfl (.slice (some ⟨g0, 0, none⟩) n0 c0)).setBlk (k := 1) 0 rfl (.slice (some ⟨g1, 0, none⟩) n1 c1)).setBlk (k := 2) 0 rfl (.int .i64 r.Leader)).setBlk (k := 3) 0 rfl (.int .i64 r.Epoch)).setBlk (k := 4) 0 rfl (.slice A2 n2 c2)).setBlk (k := 5) 0 rfl (.slice A3 n3 c3))
    have q0 := HSF.out.cell (k := 0) 0 rfl rfl
    have q1 := HSF.out.cell (k := 1) 0 rfl rfl
    have q2 := HSF.out.cell (k := 2) 0 rfl rfl
    have q3 := HSF.out.cell (k := 3) 0 rfl rfl
    have q4 := HSF.out.cell (k := 4) 0 rfl rfl
    have q5 := HSF.out.cell (k := 5) 0 rfl rfl
    exact bodyPost_ret (v := .tuple #[.agg #[.slice (some ⟨g0, 0, none⟩) n0 c0, .slice (some ⟨g1, 0, none⟩) n1 c1, .int .i64 r.Leader, .int .i64 r.Epoch, .slice A2 n2 c2, .slice A3 n3 c3], .bool false]) (by simp [results, Try.results91, go_sem, q0, q1, q2, q3, q4, q5]) rfl ⟨[.slice (some ⟨g0, 0, none⟩) n0 c0, .slice (some ⟨g1, 0, none⟩) n1 c1, .int .i64 r.Leader, .int .i64 r.Epoch, .slice A2 n2 c2, .slice A3 n3 c3], _, by rw [HF.out], by rw [HF.out]; exact (shutv_Repl (x := r) (HSF.out.sel [3,4,5,6] (by decide) rfl) HI.out.1 HI.out.2).left, (fun _ => ⟨rfl, rfl⟩)⟩
set_option maxRecDepth 100000 in
set_option maxHeartbeats 2000000 in
theorem l9DoElect_c (r : Repl) (nd : Int) (cs : List Value) (fp : List Nat) (w : World) (h : (Mm.tow rRepl r cs fp).holds w) (hnd : fp.Nodup) (hw : Pl.RW r) (k0 : 0 ≤ nd) (k1 : nd < r.Logs.length) (hI : Mm.I64 nd) :
    Calls Try.prog 91 #[.agg cs.toArray, .agg #[.int .i64 7, .int .i64 nd, .string ⟨#[]⟩]] w (RDoAns (Pl.rdo r ⟨7, nd, ⟨#[]⟩⟩) cs fp w) := by
  obtain ⟨A0, n0, c0, A1, n1, c1, A2, n2, c2, A3, n3, c3, f0, f1, f2, f3, rfl, rfl, i2, i3, hs⟩ := openv_Repl (Mm.SepF.one _ w h hnd)
  have hn0 : n0 = r.Logs.length := by obtain ⟨A', n', c', hv, h1, _⟩ := (hs.sl 0 rfl).form; injection hv with _ h2 _; omega
  have hn1 : n1 = r.Logs.length := by obtain ⟨A', n', c', hv, h1, _⟩ := (hs.sl 1 rfl).form; injection hv with _ h2 _; have := hw.down; omega
  have hn2 : n2 = r.InSync.length := by obtain ⟨A', n', c', hv, h1, _⟩ := (hs.sl 2 rfl).form; injection hv with _ h2 _; omega
  have hsn5 := hw.sync5
  have hp5 := hw.n5
  have hp1 := hw.n1
  have l0 : 0 ≤ r.Leader := hw.lead.1
  have l1 : r.Leader < n1 := by have := hw.lead.2; omega
  have l1' : r.Leader < n0 := by have := hw.lead.2; omega
  obtain ⟨g0, rfl, -, -⟩ := Mm.sl_addr (hs.sl 0 rfl) (by omega)
  obtain ⟨g1, rfl, -, -⟩ := Mm.sl_addr (hs.sl 1 rfl) (by have := hw.down; omega)
  have HI := Lib.hid (And.intro i2 i3)
  have HW := Lib.hid hw
  have HDL : Hid (r.Down[r.Leader.toNat]? = some (Pl.downAt r r.Leader)) := Lib.hid (hw.dat l0 hw.lead.2)
  have H0 := Lib.hid hs
  have HN := Lib.hid (And.intro hn0 (And.intro hn1 hn2))
  have hn05 : n0 ≤ 5 := by omega
  have hn15 : n1 ≤ 5 := by omega
  have hn25 : n2 ≤ 5 := by omega
  clear h hs hnd hw hn0 hn1 hn2 i2 i3
  have HDN : Hid (r.Down[nd.toNat]? = some (Pl.downAt r nd)) := Lib.hid (HW.out.dat k0 k1)
  have k1' : nd < n0 := by have := HN.out; omega
  have k1'' : nd < n1 := by have := HN.out; omega
  obtain ⟨dn, hdn⟩ : ∃ dn, Pl.downAt r nd = dn := ⟨_, rfl⟩
  obtain ⟨dl, hdl⟩ : ∃ dl, Pl.downAt r r.Leader = dl := ⟨_, rfl⟩
  rw [hdn] at HDN
  rw [hdl] at HDL
  have HED := Lib.hid (And.intro hdl hdn)
  have HK1 := Lib.hid k1
  clear hdl hdn k1
  go_enter Try.func91, Try.ntmps91
  go_upto_region 1 with fail
  obtain ⟨gr, hgr⟩ : ∃ gr, w.heap.size = gr := ⟨_, rfl⟩
  obtain ⟨gs, hgs⟩ : ∃ gs, gr + 1 = gs := ⟨_, rfl⟩
  obtain ⟨go, hgo⟩ : ∃ go, gs + 1 = go := ⟨_, rfl⟩
  obtain ⟨W, hW⟩ : ∃ W, ((w.alloc (.cells #[.slice (some ⟨g0, 0, none⟩) n0 c0, .slice (some ⟨g1, 0, none⟩) n1 c1, .int .i64 r.Leader, .int .i64 r.Epoch, .slice A2 n2 c2, .slice A3 n3 c3] 31)).alloc (.cells #[.int .i64 7, .int .i64 nd, .string ⟨#[]⟩] 53)).alloc (.cells #[.slice none 0 0, .slice none 0 0, .int .i64 0, .int .i64 0, .slice none 0 0, .slice none 0 0] 31) = W := ⟨_, rfl⟩
  have HS := Lib.hid ((((H0.out.alloc' hgr 31 [.slice (some ⟨g0, 0, none⟩) n0 c0, .slice (some ⟨g1, 0, none⟩) n1 c1, .int .i64 r.Leader, .int .i64 r.Epoch, .slice A2 n2 c2, .slice A3 n3 c3]).alloc' (g := gs) (by rw [Mm.sz1, hgr, hgs]) 53 [.int .i64 7, .int .i64 nd, .string ⟨#[]⟩]).alloc' (g := go) (by rw [Mm.sz2, hgr]; omega) 31 zRepl).atW hW)
  rw [hW, hgr, hgs, hgo]
  clear hW hgr hgs hgo
  have HSR := HS
  have d0 := HSR.out.cell (k := 0) 2 rfl rfl
  have d1 := HSR.out.cell (k := 1) 2 rfl rfl
  have d2 := HSR.out.cell (k := 2) 2 rfl rfl
  have d3 := HSR.out.cell (k := 3) 2 rfl rfl
  have d4 := HSR.out.cell (k := 4) 2 rfl rfl
  have d5 := HSR.out.cell (k := 5) 2 rfl rfl
  have b0 := HSR.out.cell (k := 0) 1 rfl rfl
  have b1 := HSR.out.cell (k := 1) 1 rfl rfl
  have b2 := HSR.out.cell (k := 2) 1 rfl rfl
  have r0 := HSR.out.cell (k := 0) 0 rfl rfl
  have r1 := HSR.out.cell (k := 1) 0 rfl rfl
  have r2 := HSR.out.cell (k := 2) 0 rfl rfl
  have r3 := HSR.out.cell (k := 3) 0 rfl rfl
  have r4 := HSR.out.cell (k := 4) 0 rfl rfl
  have r5 := HSR.out.cell (k := 5) 0 rfl rfl
  have z0 := HSR.out.frz (k := 0) 0 rfl
  have z1 := HSR.out.frz (k := 1) 0 rfl
  have z2 := HSR.out.frz (k := 2) 0 rfl
  have z3 := HSR.out.frz (k := 3) 0 rfl
  have z4 := HSR.out.frz (k := 4) 0 rfl
  have z5 := HSR.out.frz (k := 5) 0 rfl
  have el := bool_ocell (HSR.out.sl 4 rfl) (HSR.out.ndat (i := 4) rfl) HDL.out
  have en := bool_ocell (HSR.out.sl 4 rfl) (HSR.out.ndat (i := 4) rfl) HDN.out
  have CH := l1Has_c r.InSync nd A2 n2 c2 W W.heap.size ((HS.out.sl 5 rfl).weak (HS.out.sl 5 rfl).olt)
  obtain ⟨ii, hii⟩ : ∃ ii, Pl.hasI r.InSync nd = ii := ⟨_, rfl⟩
  rw [hii] at CH
  have HII := Lib.hid hii
  clear hii
  go_upto_region 11 with (go_at_call 106; (with_reducible refine CH.mono ?_); clear CH; rintro e w' ⟨rfl, rfl⟩)
  have hdo : Pl.rdo r ⟨7, nd, ⟨#[]⟩⟩ = if ii = true ∧ dn = false ∧ r.Epoch < 1000 then ({ r with Leader := nd, Epoch := r.Epoch + 1 }, true) else (r, false) := by
    rw [← HED.out.2, ← HII.out]
    unfold Pl.rdo
    dsimp only
    have hn := HN.out
    rw [if_neg (show ¬ (7 : Int) = 1 by omega), if_neg (by simp [ByteArray.size]; omega), if_neg (show ¬ (7 : Int) = 2 by omega), if_neg (show ¬ (7 : Int) = 3 by omega), if_neg (show ¬ (7 : Int) = 4 by omega), if_neg (show ¬ (7 : Int) = 5 by omega), if_neg (show ¬ (7 : Int) = 6 by omega), if_pos rfl]
  have HDO := Lib.hid hdo
  clear hdo
  cases ii with
  | false =>
    have HF : Hid (Pl.rdo r ⟨7, nd, ⟨#[]⟩⟩ = (r, false)) := Lib.hid (by rw [HDO.out, if_neg (fun hh => by cases hh.1)])
    go_wp2
    have HSF := Lib.hid ((((((HSR.out.setBlk (k := 0) 0 rfl (.slice (some ⟨g0, 0, none⟩) n0 c0)).setBlk (k := 1) 0 rfl (.slice (some ⟨g1, 0, none⟩) n1 c1)).setBlk (k := 2) 0 rfl (.int .i64 r.Leader)).setBlk (k := 3) 0 rfl (.int .i64 r.Epoch)).setBlk (k := 4) 0 rfl (.slice A2 n2 c2)).setBlk (k := 5) 0 rfl (.slice A3 n3 c3))
    have q0 := HSF.out.cell (k := 0) 0 rfl rfl
    have q1 := HSF.out.cell (k := 1) 0 rfl rfl
    have q2 := HSF.out.cell (k := 2) 0 rfl rfl
    have q3 := HSF.out.cell (k := 3) 0 rfl rfl
    have q4 := HSF.out.cell (k := 4) 0 rfl rfl
    have q5 := HSF.out.cell (k := 5) 0 rfl rfl
    exact bodyPost_ret (v := .tuple #[.agg #[.slice (some ⟨g0, 0, none⟩) n0 c0, .slice (some ⟨g1, 0, none⟩) n1 c1, .int .i64 r.Leader, .int .i64 r.Epoch, .slice A2 n2 c2, .slice A3 n3 c3], .bool false]) (by simp [results, Try.results91, go_sem, q0, q1, q2, q3, q4, q5]) rfl ⟨[.slice (some ⟨g0, 0, none⟩) n0 c0, .slice (some ⟨g1, 0, none⟩) n1 c1, .int .i64 r.Leader, .int .i64 r.Epoch, .slice A2 n2 c2, .slice A3 n3 c3], _, by rw [HF.out], by rw [HF.out]; exact (shutv_Repl (x := r) (HSF.out.sel [3,4,5,6] (by decide) rfl) HI.out.1 HI.out.2).left, (fun _ => ⟨rfl, rfl⟩)⟩
  | true =>
    cases dn with
    | true =>
      have HF : Hid (Pl.rdo r ⟨7, nd, ⟨#[]⟩⟩ = (r, false)) := Lib.hid (by rw [HDO.out, if_neg (fun hh => by cases hh.2.1)])
      go_wp2
      have HSF := Lib.hid ((((((HSR.out.setBlk (k := 0) 0 rfl (.slice (some ⟨g0, 0, none⟩) n0 c0)).setBlk (k := 1) 0 rfl (.slice (some ⟨g1, 0, none⟩) n1 c1)).setBlk (k := 2) 0 rfl (.int .i64 r.Leader)).setBlk (k := 3) 0 rfl (.int .i64 r.Epoch)).setBlk (k := 4) 0 rfl (.slice A2 n2 c2)).setBlk (k := 5) 0 rfl (.slice A3 n3 c3))
      have q0 := HSF.out.cell (k := 0) 0 rfl rfl
      have q1 := HSF.out.cell (k := 1) 0 rfl rfl
      have q2 := HSF.out.cell (k := 2) 0 rfl rfl
      have q3 := HSF.out.cell (k := 3) 0 rfl rfl
      have q4 := HSF.out.cell (k := 4) 0 rfl rfl
      have q5 := HSF.out.cell (k := 5) 0 rfl rfl
      exact bodyPost_ret (v := .tuple #[.agg #[.slice (some ⟨g0, 0, none⟩) n0 c0, .slice (some ⟨g1, 0, none⟩) n1 c1, .int .i64 r.Leader, .int .i64 r.Epoch, .slice A2 n2 c2, .slice A3 n3 c3], .bool false]) (by simp [results, Try.results91, go_sem, q0, q1, q2, q3, q4, q5]) rfl ⟨[.slice (some ⟨g0, 0, none⟩) n0 c0, .slice (some ⟨g1, 0, none⟩) n1 c1, .int .i64 r.Leader, .int .i64 r.Epoch, .slice A2 n2 c2, .slice A3 n3 c3], _, by rw [HF.out], by rw [HF.out]; exact (shutv_Repl (x := r) (HSF.out.sel [3,4,5,6] (by decide) rfl) HI.out.1 HI.out.2).left, (fun _ => ⟨rfl, rfl⟩)⟩
    | false =>
      by_cases hep : r.Epoch < 1000
      rotate_left
      · have HF : Hid (Pl.rdo r ⟨7, nd, ⟨#[]⟩⟩ = (r, false)) := Lib.hid (by rw [HDO.out, if_neg (fun hh => hep hh.2.2)])
        go_wp2
        have HSF := Lib.hid ((((((HSR.out.setBlk (k := 0) 0 rfl (.slice (some ⟨g0, 0, none⟩) n0 c0)).setBlk (k := 1) 0 rfl (.slice (some ⟨g1, 0, none⟩) n1 c1)).setBlk (k := 2) 0 rfl (.int .i64 r.Leader)).setBlk (k := 3) 0 rfl (.int .i64 r.Epoch)).setBlk (k := 4) 0 rfl (.slice A2 n2 c2)).setBlk (k := 5) 0 rfl (.slice A3 n3 c3))
        have q0 := HSF.out.cell (k := 0) 0 rfl rfl
        have q1 := HSF.out.cell (k := 1) 0 rfl rfl
        have q2 := HSF.out.cell (k := 2) 0 rfl rfl
        have q3 := HSF.out.cell (k := 3) 0 rfl rfl
        have q4 := HSF.out.cell (k := 4) 0 rfl rfl
        have q5 := HSF.out.cell (k := 5) 0 rfl rfl
        exact bodyPost_ret (v := .tuple #[.agg #[.slice (some ⟨g0, 0, none⟩) n0 c0, .slice (some ⟨g1, 0, none⟩) n1 c1, .int .i64 r.Leader, .int .i64 r.Epoch, .slice A2 n2 c2, .slice A3 n3 c3], .bool false]) (by simp [results, Try.results91, go_sem, q0, q1, q2, q3, q4, q5]) rfl ⟨[.slice (some ⟨g0, 0, none⟩) n0 c0, .slice (some ⟨g1, 0, none⟩) n1 c1, .int .i64 r.Leader, .int .i64 r.Epoch, .slice A2 n2 c2, .slice A3 n3 c3], _, by rw [HF.out], by rw [HF.out]; exact (shutv_Repl (x := r) (HSF.out.sel [3,4,5,6] (by decide) rfl) HI.out.1 HI.out.2).left, (fun _ => ⟨rfl, rfl⟩)⟩
      · have HF : Hid (Pl.rdo r ⟨7, nd, ⟨#[]⟩⟩ = ({ r with Leader := nd, Epoch := r.Epoch + 1 }, true)) := Lib.hid (by rw [HDO.out, if_pos ⟨rfl, rfl, hep⟩])
        have hep1 := HW.out.epoch.1
        have y2 := HSR.out.frz (k := 2) 2 rfl
        have HS4 : Hid (Mm.SepF _ w _ [_, _, _, _, _, _, _]) := Lib.hid (HSR.out.setBlk (k := 2) 2 rfl (.int .i64 nd))
        have y3 := HS4.out.frz (k := 3) 2 rfl
        have x3 := HS4.out.cell (k := 3) 2 rfl rfl
        have HS5 : Hid (Mm.SepF _ w _ [_, _, _, _, _, _, _]) := Lib.hid (HS4.out.setBlk (k := 3) 2 rfl (.int .i64 (r.Epoch + 1)))
        go_upto_region 31 with fail
        clear HS4 y2 y3 x3 el en
        clear HSR
        have HSR := HS5
        clear HS5
        obtain ⟨XT, hXT⟩ : ∃ XT, ((W.setCell ⟨gr, 2, none⟩ (.int .i64 nd)).setCell ⟨gr, 3, none⟩ (.int .i64 (r.Epoch + 1))) = XT := ⟨_, rfl⟩
        rw [hXT] at HSR ⊢
        clear hXT
        clear d0 d1 d2 d3 d4 d5 b0 b1 b2 r0 r1 r2 r3 r4 r5 z0 z1 z2 z3 z4 z5
        have d0 := HSR.out.cell (k := 0) 2 rfl rfl
        have d1 := HSR.out.cell (k := 1) 2 rfl rfl
        have d2 := HSR.out.cell (k := 2) 2 rfl rfl
        have d3 := HSR.out.cell (k := 3) 2 rfl rfl
        have d4 := HSR.out.cell (k := 4) 2 rfl rfl
        have d5 := HSR.out.cell (k := 5) 2 rfl rfl
        have r0 := HSR.out.cell (k := 0) 0 rfl rfl
        have r1 := HSR.out.cell (k := 1) 0 rfl rfl
        have r2 := HSR.out.cell (k := 2) 0 rfl rfl
        have r3 := HSR.out.cell (k := 3) 0 rfl rfl
        have r4 := HSR.out.cell (k := 4) 0 rfl rfl
        have r5 := HSR.out.cell (k := 5) 0 rfl rfl
        have z0 := HSR.out.frz (k := 0) 0 rfl
        have z1 := HSR.out.frz (k := 1) 0 rfl
        have z2 := HSR.out.frz (k := 2) 0 rfl
        have z3 := HSR.out.frz (k := 3) 0 rfl
        have z4 := HSR.out.frz (k := 4) 0 rfl
        have z5 := HSR.out.frz (k := 5) 0 rfl
        go_wp2
        have HSF := Lib.hid ((((((HSR.out.setBlk (k := 0) 0 rfl (.slice (some ⟨g0, 0, none⟩) n0 c0)).setBlk (k := 1) 0 rfl (.slice (some ⟨g1, 0, none⟩) n1 c1)).setBlk (k := 2) 0 rfl (.int .i64 nd)).setBlk (k := 3) 0 rfl (.int .i64 (r.Epoch + 1))).setBlk (k := 4) 0 rfl (.slice A2 n2 c2)).setBlk (k := 5) 0 rfl (.slice A3 n3 c3))
        have q0 := HSF.out.cell (k := 0) 0 rfl rfl
        have q1 := HSF.out.cell (k := 1) 0 rfl rfl
        have q2 := HSF.out.cell (k := 2) 0 rfl rfl
        have q3 := HSF.out.cell (k := 3) 0 rfl rfl
        have q4 := HSF.out.cell (k := 4) 0 rfl rfl
        have q5 := HSF.out.cell (k := 5) 0 rfl rfl
        exact bodyPost_ret (v := .tuple #[.agg #[.slice (some ⟨g0, 0, none⟩) n0 c0, .slice (some ⟨g1, 0, none⟩) n1 c1, .int .i64 nd, .int .i64 (r.Epoch + 1), .slice A2 n2 c2, .slice A3 n3 c3], .bool true]) (by simp [results, Try.results91, go_sem, q0, q1, q2, q3, q4, q5]) rfl ⟨[.slice (some ⟨g0, 0, none⟩) n0 c0, .slice (some ⟨g1, 0, none⟩) n1 c1, .int .i64 nd, .int .i64 (r.Epoch + 1), .slice A2 n2 c2, .slice A3 n3 c3], _, by rw [HF.out], by rw [HF.out]; exact (shutv_Repl (x := ({ r with Leader := nd, Epoch := r.Epoch + 1 })) (HSF.out.sel [3,4,5,6] (by decide) rfl) hI (by unfold Mm.I64; show _ ≤ r.Epoch + 1 ∧ r.Epoch + 1 ≤ _; omega)).left, (by rw [HF.out]; intro h; cases h)⟩
end Go.Proofs.Ytihendiakgfpcaa

/-
  Contracts: the reference's step of a replication, by value: a node is out, is in (chapter 9). No conditions beyond those named.
-/
namespace Go.Proofs.Ytihendiakgfpcaa
open Go.RowKit
attribute [local go_sem] und_cell cha_cell World.cell?_alloc_some
set_option maxRecDepth 100000 in
set_option maxHeartbeats 2000000 in
theorem l9DoOut_c (r : Repl) (nd : Int) (cs : List Value) (fp : List Nat) (w : World) (h : (Mm.tow rRepl r cs fp).holds w) (hnd : fp.Nodup) (hw : Pl.RW r) (k0 : 0 ≤ nd) (k1 : nd < r.Logs.length) (hI : Mm.I64 nd) :
    Calls Try.prog 91 #[.agg cs.toArray, .agg #[.int .i64 3, .int .i64 nd, .string ⟨#[]⟩]] w (RDoAns (Pl.rdo r ⟨3, nd, ⟨#[]⟩⟩) cs fp w) := by
  obtain ⟨A0, n0, c0, A1, n1, c1, A2, n2, c2, A3, n3, c3, f0, f1, f2, f3, rfl, rfl, i2, i3, hs⟩ := openv_Repl (Mm.SepF.one _ w h hnd)
  have hn0 : n0 = r.Logs.length := by obtain ⟨A', n', c', hv, h1, _⟩ := (hs.sl 0 rfl).form; injection hv with _ h2 _; omega
  have hn1 : n1 = r.Logs.length := by obtain ⟨A', n', c', hv, h1, _⟩ := (hs.sl 1 rfl).form; injection hv with _ h2 _; have := hw.down; omega
  have hn2 : n2 = r.InSync.length := by obtain ⟨A', n', c', hv, h1, _⟩ := (hs.sl 2 rfl).form; injection hv with _ h2 _; omega
  have hsn5 := hw.sync5
  have hp5 := hw.n5
  have hp1 := hw.n1
  have l0 : 0 ≤ r.Leader := hw.lead.1
  have l1 : r.Leader < n1 := by have := hw.lead.2; omega
  have l1' : r.Leader < n0 := by have := hw.lead.2; omega
  obtain ⟨g0, rfl, -, -⟩ := Mm.sl_addr (hs.sl 0 rfl) (by omega)
  obtain ⟨g1, rfl, -, -⟩ := Mm.sl_addr (hs.sl 1 rfl) (by have := hw.down; omega)
  have HI := Lib.hid (And.intro i2 i3)
  have HW := Lib.hid hw
  have HDL : Hid (r.Down[r.Leader.toNat]? = some (Pl.downAt r r.Leader)) := Lib.hid (hw.dat l0 hw.lead.2)
  have H0 := Lib.hid hs
  have HN := Lib.hid (And.intro hn0 (And.intro hn1 hn2))
  have hn05 : n0 ≤ 5 := by omega
  have hn15 : n1 ≤ 5 := by omega
  have hn25 : n2 ≤ 5 := by omega
  clear h hs hnd hw hn0 hn1 hn2 i2 i3
  have HDN : Hid (r.Down[nd.toNat]? = some (Pl.downAt r nd)) := Lib.hid (HW.out.dat k0 k1)
  have k1' : nd < n0 := by have := HN.out; omega
  have k1'' : nd < n1 := by have := HN.out; omega
  obtain ⟨dn, hdn⟩ : ∃ dn, Pl.downAt r nd = dn := ⟨_, rfl⟩
  obtain ⟨dl, hdl⟩ : ∃ dl, Pl.downAt r r.Leader = dl := ⟨_, rfl⟩
  rw [hdn] at HDN
  rw [hdl] at HDL
  have HED := Lib.hid (And.intro hdl hdn)
  have HK1 := Lib.hid k1
  clear hdl hdn k1
  go_enter Try.func91, Try.ntmps91
  go_upto_region 1 with fail
  obtain ⟨gr, hgr⟩ : ∃ gr, w.heap.size = gr := ⟨_, rfl⟩
  obtain ⟨gs, hgs⟩ : ∃ gs, gr + 1 = gs := ⟨_, rfl⟩
  obtain ⟨go, hgo⟩ : ∃ go, gs + 1 = go := ⟨_, rfl⟩
  obtain ⟨W, hW⟩ : ∃ W, ((w.alloc (.cells #[.slice (some ⟨g0, 0, none⟩) n0 c0, .slice (some ⟨g1, 0, none⟩) n1 c1, .int .i64 r.Leader, .int .i64 r.Epoch, .slice A2 n2 c2, .slice A3 n3 c3] 31)).alloc (.cells #[.int .i64 3, .int .i64 nd, .string ⟨#[]⟩] 53)).alloc (.cells #[.slice none 0 0, .slice none 0 0, .int .i64 0, .int .i64 0, .slice none 0 0, .slice none 0 0] 31) = W := ⟨_, rfl⟩
  have HS := Lib.hid ((((H0.out.alloc' hgr 31 [.slice (some ⟨g0, 0, none⟩) n0 c0, .slice (some ⟨g1, 0, none⟩) n1 c1, .int .i64 r.Leader, .int .i64 r.Epoch, .slice A2 n2 c2, .slice A3 n3 c3]).alloc' (g := gs) (by rw [Mm.sz1, hgr, hgs]) 53 [.int .i64 3, .int .i64 nd, .string ⟨#[]⟩]).alloc' (g := go) (by rw [Mm.sz2, hgr]; omega) 31 zRepl).atW hW)
  rw [hW, hgr, hgs, hgo]
  clear hW hgr hgs hgo
  have HSR := HS
  have d0 := HSR.out.cell (k := 0) 2 rfl rfl
  have d1 := HSR.out.cell (k := 1) 2 rfl rfl
  have d2 := HSR.out.cell (k := 2) 2 rfl rfl
  have d3 := HSR.out.cell (k := 3) 2 rfl rfl
  have d4 := HSR.out.cell (k := 4) 2 rfl rfl
  have d5 := HSR.out.cell (k := 5) 2 rfl rfl
  have b0 := HSR.out.cell (k := 0) 1 rfl rfl
  have b1 := HSR.out.cell (k := 1) 1 rfl rfl
  have b2 := HSR.out.cell (k := 2) 1 rfl rfl
  have r0 := HSR.out.cell (k := 0) 0 rfl rfl
  have r1 := HSR.out.cell (k := 1) 0 rfl rfl
  have r2 := HSR.out.cell (k := 2) 0 rfl rfl
  have r3 := HSR.out.cell (k := 3) 0 rfl rfl
  have r4 := HSR.out.cell (k := 4) 0 rfl rfl
  have r5 := HSR.out.cell (k := 5) 0 rfl rfl
  have z0 := HSR.out.frz (k := 0) 0 rfl
  have z1 := HSR.out.frz (k := 1) 0 rfl
  have z2 := HSR.out.frz (k := 2) 0 rfl
  have z3 := HSR.out.frz (k := 3) 0 rfl
  have z4 := HSR.out.frz (k := 4) 0 rfl
  have z5 := HSR.out.frz (k := 5) 0 rfl
  have el := bool_ocell (HSR.out.sl 4 rfl) (HSR.out.ndat (i := 4) rfl) HDL.out
  have en := bool_ocell (HSR.out.sl 4 rfl) (HSR.out.ndat (i := 4) rfl) HDN.out
  have CH := l1Has_c r.InSync nd A2 n2 c2 W W.heap.size ((HS.out.sl 5 rfl).weak (HS.out.sl 5 rfl).olt)
  obtain ⟨ii, hii⟩ : ∃ ii, Pl.hasI r.InSync nd = ii := ⟨_, rfl⟩
  rw [hii] at CH
  have HII := Lib.hid hii
  clear hii
  go_upto_region 11 with (go_at_call 106; (with_reducible refine CH.mono ?_); clear CH; rintro e w' ⟨rfl, rfl⟩)
  have hdo : Pl.rdo r ⟨3, nd, ⟨#[]⟩⟩ = if ii = true ∧ nd ≠ r.Leader ∧ dl = false then ({ r with InSync := Pl.outI r.InSync nd }, true) else (r, false) := by
    rw [← HED.out.1, ← HII.out]
    unfold Pl.rdo
    dsimp only
    have hn := HN.out
    rw [if_neg (show ¬ (3 : Int) = 1 by omega), if_neg (by simp [ByteArray.size]; omega), if_neg (show ¬ (3 : Int) = 2 by omega), if_pos rfl]
  have HDO := Lib.hid hdo
  clear hdo
  by_cases hnl : nd = r.Leader
  · have HF : Hid (Pl.rdo r ⟨3, nd, ⟨#[]⟩⟩ = (r, false)) := Lib.hid (by rw [HDO.out, if_neg (fun hh => hh.2.1 hnl)])
    have f1 : (nd != r.Leader) = false := by simpa using hnl
    clear hnl
    cases dl
    · skip
      go_wp2
      have HSF := Lib.hid ((((((HSR.out.setBlk (k := 0) 0 rfl (.slice (some ⟨g0, 0, none⟩) n0 c0)).setBlk (k := 1) 0 rfl (.slice (some ⟨g1, 0, none⟩) n1 c1)).setBlk (k := 2) 0 rfl (.int .i64 r.Leader)).setBlk (k := 3) 0 rfl (.int .i64 r.Epoch)).setBlk (k := 4) 0 rfl (.slice A2 n2 c2)).setBlk (k := 5) 0 rfl (.slice A3 n3 c3))
      have q0 := HSF.out.cell (k := 0) 0 rfl rfl
      have q1 := HSF.out.cell (k := 1) 0 rfl rfl
      have q2 := HSF.out.cell (k := 2) 0 rfl rfl
      have q3 := HSF.out.cell (k := 3) 0 rfl rfl
      have q4 := HSF.out.cell (k := 4) 0 rfl rfl
      have q5 := HSF.out.cell (k := 5) 0 rfl rfl
      exact bodyPost_ret (v := .tuple #[.agg #[.slice (some ⟨g0, 0, none⟩) n0 c0, .slice (some ⟨g1, 0, none⟩) n1 c1, .int .i64 r.Leader, .int .i64 r.Epoch, .slice A2 n2 c2, .slice A3 n3 c3], .bool false]) (by simp [results, Try.results91, go_sem, q0, q1, q2, q3, q4, q5]) rfl ⟨[.slice (some ⟨g0, 0, none⟩) n0 c0, .slice (some ⟨g1, 0, none⟩) n1 c1, .int .i64 r.Leader, .int .i64 r.Epoch, .slice A2 n2 c2, .slice A3 n3 c3], _, by rw [HF.out], by rw [HF.out]; exact (shutv_Repl (x := r) (HSF.out.sel [3,4,5,6] (by decide) rfl) HI.out.1 HI.out.2).left, (fun _ => ⟨rfl, rfl⟩)⟩
    · skip
      go_wp2
      have HSF := Lib.hid ((((((HSR.out.setBlk (k := 0) 0 rfl (.slice (some ⟨g0, 0, none⟩) n0 c0)).setBlk (k := 1) 0 rfl (.slice (some ⟨g1, 0, none⟩) n1 c1)).setBlk (k := 2) 0 rfl (.int .i64 r.Leader)).setBlk (k := 3) 0 rfl (.int .i64 r.Epoch)).setBlk (k := 4) 0 rfl (.slice A2 n2 c2)).setBlk (k := 5) 0 rfl (.slice A3 n3 c3))
      have q0 := HSF.out.cell (k := 0) 0 rfl rfl
      have q1 := HSF.out.cell (k := 1) 0 rfl rfl
      have q2 := HSF.out.cell (k := 2) 0 rfl rfl
      have q3 := HSF.out.cell (k := 3) 0 rfl rfl
      have q4 := HSF.out.cell (k := 4) 0 rfl rfl
      have q5 := HSF.out.cell (k := 5) 0 rfl rfl
      exact bodyPost_ret (v := .tuple #[.agg #[.slice (some ⟨g0, 0, none⟩) n0 c0, .slice (some ⟨g1, 0, none⟩) n1 c1, .int .i64 r.Leader, .int .i64 r.Epoch, .slice A2 n2 c2, .slice A3 n3 c3], .bool false]) (by simp [results, Try.results91, go_sem, q0, q1, q2, q3, q4, q5]) rfl ⟨[.slice (some ⟨g0, 0, none⟩) n0 c0, .slice (some ⟨g1, 0, none⟩) n1 c1, .int .i64 r.Leader, .int .i64 r.Epoch, .slice A2 n2 c2, .slice A3 n3 c3], _, by rw [HF.out], by rw [HF.out]; exact (shutv_Repl (x := r) (HSF.out.sel [3,4,5,6] (by decide) rfl) HI.out.1 HI.out.2).left, (fun _ => ⟨rfl, rfl⟩)⟩
  · have f1 : (nd != r.Leader) = true := by simpa using hnl
    cases dl with
    | true =>
      have HF : Hid (Pl.rdo r ⟨3, nd, ⟨#[]⟩⟩ = (r, false)) := Lib.hid (by rw [HDO.out, if_neg (fun hh => by cases hh.2.2)])
      clear hnl
      go_wp2
      have HSF := Lib.hid ((((((HSR.out.setBlk (k := 0) 0 rfl (.slice (some ⟨g0, 0, none⟩) n0 c0)).setBlk (k := 1) 0 rfl (.slice (some ⟨g1, 0, none⟩) n1 c1)).setBlk (k := 2) 0 rfl (.int .i64 r.Leader)).setBlk (k := 3) 0 rfl (.int .i64 r.Epoch)).setBlk (k := 4) 0 rfl (.slice A2 n2 c2)).setBlk (k := 5) 0 rfl (.slice A3 n3 c3))
      have q0 := HSF.out.cell (k := 0) 0 rfl rfl
      have q1 := HSF.out.cell (k := 1) 0 rfl rfl
      have q2 := HSF.out.cell (k := 2) 0 rfl rfl
      have q3 := HSF.out.cell (k := 3) 0 rfl rfl
      have q4 := HSF.out.cell (k := 4) 0 rfl rfl
      have q5 := HSF.out.cell (k := 5) 0 rfl rfl
      exact bodyPost_ret (v := .tuple #[.agg #[.slice (some ⟨g0, 0, none⟩) n0 c0, .slice (some ⟨g1, 0, none⟩) n1 c1, .int .i64 r.Leader, .int .i64 r.Epoch, .slice A2 n2 c2, .slice A3 n3 c3], .bool false]) (by simp [results, Try.results91, go_sem, q0, q1, q2, q3, q4, q5]) rfl ⟨[.slice (some ⟨g0, 0, none⟩) n0 c0, .slice (some ⟨g1, 0, none⟩) n1 c1, .int .i64 r.Leader, .int .i64 r.Epoch, .slice A2 n2 c2, .slice A3 n3 c3], _, by rw [HF.out], by rw [HF.out]; exact (shutv_Repl (x := r) (HSF.out.sel [3,4,5,6] (by decide) rfl) HI.out.1 HI.out.2).left, (fun _ => ⟨rfl, rfl⟩)⟩
    | false =>
      cases ii with
      | false =>
        have HF : Hid (Pl.rdo r ⟨3, nd, ⟨#[]⟩⟩ = (r, false)) := Lib.hid (by rw [HDO.out, if_neg (fun hh => by cases hh.1)])
        clear hnl
        go_wp2
        have HSF := Lib.hid ((((((HSR.out.setBlk (k := 0) 0 rfl (.slice (some ⟨g0, 0, none⟩) n0 c0)).setBlk (k := 1) 0 rfl (.slice (some ⟨g1, 0, none⟩) n1 c1)).setBlk (k := 2) 0 rfl (.int .i64 r.Leader)).setBlk (k := 3) 0 rfl (.int .i64 r.Epoch)).setBlk (k := 4) 0 rfl (.slice A2 n2 c2)).setBlk (k := 5) 0 rfl (.slice A3 n3 c3))
        have q0 := HSF.out.cell (k := 0) 0 rfl rfl
        have q1 := HSF.out.cell (k := 1) 0 rfl rfl
        have q2 := HSF.out.cell (k := 2) 0 rfl rfl
        have q3 := HSF.out.cell (k := 3) 0 rfl rfl
        have q4 := HSF.out.cell (k := 4) 0 rfl rfl
        have q5 := HSF.out.cell (k := 5) 0 rfl rfl
        exact bodyPost_ret (v := .tuple #[.agg #[.slice (some ⟨g0, 0, none⟩) n0 c0, .slice (some ⟨g1, 0, none⟩) n1 c1, .int .i64 r.Leader, .int .i64 r.Epoch, .slice A2 n2 c2, .slice A3 n3 c3], .bool false]) (by simp [results, Try.results91, go_sem, q0, q1, q2, q3, q4, q5]) rfl ⟨[.slice (some ⟨g0, 0, none⟩) n0 c0, .slice (some ⟨g1, 0, none⟩) n1 c1, .int .i64 r.Leader, .int .i64 r.Epoch, .slice A2 n2 c2, .slice A3 n3 c3], _, by rw [HF.out], by rw [HF.out]; exact (shutv_Repl (x := r) (HSF.out.sel [3,4,5,6] (by decide) rfl) HI.out.1 HI.out.2).left, (fun _ => ⟨rfl, rfl⟩)⟩
      | true =>
        have HF : Hid (Pl.rdo r ⟨3, nd, ⟨#[]⟩⟩ = ({ r with InSync := Pl.outI r.InSync nd }, true)) := Lib.hid (by rw [HDO.out, if_pos ⟨rfl, hnl, rfl⟩])
        clear hnl
        obtain ⟨gk, hgk⟩ : ∃ gk, W.heap.size = gk := ⟨_, rfl⟩
        obtain ⟨W2, hW2⟩ : ∃ W2, W.alloc (.cells #[.int .i64 nd] 3) = W2 := ⟨_, rfl⟩
        have HS2 := Lib.hid ((HSR.out.alloc' hgk 3 [.int .i64 nd]).atW hW2)
        have hso : Mm.SlOwn Mm.int 3 W2 [nd] (.slice (some ⟨gk, 0, none⟩) 1 1) [gk] := Mm.SlOwn.of_blk (E := Mm.int) (xs := [nd]) (fun x => [.int .i64 x]) (show Mm.Blk W2 gk 3 [.int .i64 nd] from HS2.out.at_ 0 rfl) (fun x hx => by rw [List.mem_singleton.1 hx]; exact ⟨rfl, hI, rfl⟩) (by simp) (by unfold maxLen; simp)
        have CT := l4Those_c r.InSync nd A2 n2 c2 (some ⟨gk, 0, none⟩) 1 W2 W2.heap.size ((HS2.out.sl 6 rfl).weak (HS2.out.sl 6 rfl).olt) (hso.weak hso.olt) (Nat.le_refl _) (by omega)
        clear hso
        go_upto_region 31 with (go_at_call 121; (with_reducible refine CT.mono ?_); clear CT; rintro e w5 ⟨A5, n5, c5, f5, rfl, ho, hnd5, hnew, hb5⟩; (have HS3 := Lib.hid (HS2.out.add (t := Mm.tsl Mm.int 3 (Pl.outI r.InSync nd) (.slice A5 n5 c5) f5) hb5 ho hnd5 hnew)); (have y4 := HS3.out.cell (k := 4) 4 rfl rfl); (have x4 := HS3.out.frz (k := 4) 4 rfl); clear ho hnd5 hnew hb5)
        have HS5 : Hid (Mm.SepF _ w _ [_, _, _, _, _, _, _]) := Lib.hid ((HS3.out.setBlk (k := 4) 4 rfl (.slice A5 n5 c5)).sel [2, 3, 4, 5, 6, 0, 8] (by decide) rfl)
        clear hW2 hgk HS2 HS3 y4 x4 el en
        clear HSR
        have HSR := HS5
        clear HS5
        obtain ⟨XT, hXT⟩ : ∃ XT, (w5.setCell ⟨gr, 4, none⟩ (.slice A5 n5 c5)) = XT := ⟨_, rfl⟩
        rw [hXT] at HSR ⊢
        clear hXT
        clear d0 d1 d2 d3 d4 d5 b0 b1 b2 r0 r1 r2 r3 r4 r5 z0 z1 z2 z3 z4 z5
        have d0 := HSR.out.cell (k := 0) 2 rfl rfl
        have d1 := HSR.out.cell (k := 1) 2 rfl rfl
        have d2 := HSR.out.cell (k := 2) 2 rfl rfl
        have d3 := HSR.out.cell (k := 3) 2 rfl rfl
        have d4 := HSR.out.cell (k := 4) 2 rfl rfl
        have d5 := HSR.out.cell (k := 5) 2 rfl rfl
        have r0 := HSR.out.cell (k := 0) 0 rfl rfl
        have r1 := HSR.out.cell (k := 1) 0 rfl rfl
        have r2 := HSR.out.cell (k := 2) 0 rfl rfl
        have r3 := HSR.out.cell (k := 3) 0 rfl rfl
        have r4 := HSR.out.cell (k := 4) 0 rfl rfl
        have r5 := HSR.out.cell (k := 5) 0 rfl rfl
        have z0 := HSR.out.frz (k := 0) 0 rfl
        have z1 := HSR.out.frz (k := 1) 0 rfl
        have z2 := HSR.out.frz (k := 2) 0 rfl
        have z3 := HSR.out.frz (k := 3) 0 rfl
        have z4 := HSR.out.frz (k := 4) 0 rfl
        have z5 := HSR.out.frz (k := 5) 0 rfl
        go_wp2
        have HSF := Lib.hid ((((((HSR.out.setBlk (k := 0) 0 rfl (.slice (some ⟨g0, 0, none⟩) n0 c0)).setBlk (k := 1) 0 rfl (.slice (some ⟨g1, 0, none⟩) n1 c1)).setBlk (k := 2) 0 rfl (.int .i64 r.Leader)).setBlk (k := 3) 0 rfl (.int .i64 r.Epoch)).setBlk (k := 4) 0 rfl (.slice A5 n5 c5)).setBlk (k := 5) 0 rfl (.slice A3 n3 c3))
        have q0 := HSF.out.cell (k := 0) 0 rfl rfl
        have q1 := HSF.out.cell (k := 1) 0 rfl rfl
        have q2 := HSF.out.cell (k := 2) 0 rfl rfl
        have q3 := HSF.out.cell (k := 3) 0 rfl rfl
        have q4 := HSF.out.cell (k := 4) 0 rfl rfl
        have q5 := HSF.out.cell (k := 5) 0 rfl rfl
        exact bodyPost_ret (v := .tuple #[.agg #[.slice (some ⟨g0, 0, none⟩) n0 c0, .slice (some ⟨g1, 0, none⟩) n1 c1, .int .i64 r.Leader, .int .i64 r.Epoch, .slice A5 n5 c5, .slice A3 n3 c3], .bool true]) (by simp [results, Try.results91, go_sem, q0, q1, q2, q3, q4, q5]) rfl ⟨[.slice (some ⟨g0, 0, none⟩) n0 c0, .slice (some ⟨g1, 0, none⟩) n1 c1, .int .i64 r.Leader, .int .i64 r.Epoch, .slice A5 n5 c5, .slice A3 n3 c3], _, by rw [HF.out], by rw [HF.out]; exact (shutv_Repl (x := ({ r with InSync := Pl.outI r.InSync nd })) (HSF.out.sel [3,4,5,6] (by decide) rfl) HI.out.1 HI.out.2).left, (by rw [HF.out]; intro h; cases h)⟩
set_option maxRecDepth 100000 in
set_option maxHeartbeats 2000000 in
theorem l9DoIn_c (r : Repl) (nd : Int) (cs : List Value) (fp : List Nat) (w : World) (h : (Mm.tow rRepl r cs fp).holds w) (hnd : fp.Nodup) (hw : Pl.RW r) (k0 : 0 ≤ nd) (k1 : nd < r.Logs.length) (hI : Mm.I64 nd) :
    Calls Try.prog 91 #[.agg cs.toArray, .agg #[.int .i64 4, .int .i64 nd, .string ⟨#[]⟩]] w (RDoAns (Pl.rdo r ⟨4, nd, ⟨#[]⟩⟩) cs fp w) := by
  obtain ⟨A0, n0, c0, A1, n1, c1, A2, n2, c2, A3, n3, c3, f0, f1, f2, f3, rfl, rfl, i2, i3, hs⟩ := openv_Repl (Mm.SepF.one _ w h hnd)
  have hn0 : n0 = r.Logs.length := by obtain ⟨A', n', c', hv, h1, _⟩ := (hs.sl 0 rfl).form; injection hv with _ h2 _; omega
  have hn1 : n1 = r.Logs.length := by obtain ⟨A', n', c', hv, h1, _⟩ := (hs.sl 1 rfl).form; injection hv with _ h2 _; have := hw.down; omega
  have hn2 : n2 = r.InSync.length := by obtain ⟨A', n', c', hv, h1, _⟩ := (hs.sl 2 rfl).form; injection hv with _ h2 _; omega
  have hsn5 := hw.sync5
  have hp5 := hw.n5
  have hp1 := hw.n1
  have l0 : 0 ≤ r.Leader := hw.lead.1
  have l1 : r.Leader < n1 := by have := hw.lead.2; omega
  have l1' : r.Leader < n0 := by have := hw.lead.2; omega
  obtain ⟨g0, rfl, -, -⟩ := Mm.sl_addr (hs.sl 0 rfl) (by omega)
  obtain ⟨g1, rfl, -, -⟩ := Mm.sl_addr (hs.sl 1 rfl) (by have := hw.down; omega)
  have HI := Lib.hid (And.intro i2 i3)
  have HW := Lib.hid hw
  have HDL : Hid (r.Down[r.Leader.toNat]? = some (Pl.downAt r r.Leader)) := Lib.hid (hw.dat l0 hw.lead.2)
  have H0 := Lib.hid hs
  have HN := Lib.hid (And.intro hn0 (And.intro hn1 hn2))
  have hn05 : n0 ≤ 5 := by omega
  have hn15 : n1 ≤ 5 := by omega
  have hn25 : n2 ≤ 5 := by omega
  clear h hs hnd hw hn0 hn1 hn2 i2 i3
  have HDN : Hid (r.Down[nd.toNat]? = some (Pl.downAt r nd)) := Lib.hid (HW.out.dat k0 k1)
  have k1' : nd < n0 := by have := HN.out; omega
  have k1'' : nd < n1 := by have := HN.out; omega
  obtain ⟨dn, hdn⟩ : ∃ dn, Pl.downAt r nd = dn := ⟨_, rfl⟩
  obtain ⟨dl, hdl⟩ : ∃ dl, Pl.downAt r r.Leader = dl := ⟨_, rfl⟩
  rw [hdn] at HDN
  rw [hdl] at HDL
  have HED := Lib.hid (And.intro hdl hdn)
  have HK1 := Lib.hid k1
  clear hdl hdn k1
  go_enter Try.func91, Try.ntmps91
  go_upto_region 1 with fail
  obtain ⟨gr, hgr⟩ : ∃ gr, w.heap.size = gr := ⟨_, rfl⟩
  obtain ⟨gs, hgs⟩ : ∃ gs, gr + 1 = gs := ⟨_, rfl⟩
  obtain ⟨go, hgo⟩ : ∃ go, gs + 1 = go := ⟨_, rfl⟩
  obtain ⟨W, hW⟩ : ∃ W, ((w.alloc (.cells #[.slice (some ⟨g0, 0, none⟩) n0 c0, .slice (some ⟨g1, 0, none⟩) n1 c1, .int .i64 r.Leader, .int .i64 r.Epoch, .slice A2 n2 c2, .slice A3 n3 c3] 31)).alloc (.cells #[.int .i64 4, .int .i64 nd, .string ⟨#[]⟩] 53)).alloc (.cells #[.slice none 0 0, .slice none 0 0, .int .i64 0, .int .i64 0, .slice none 0 0, .slice none 0 0] 31) = W := ⟨_, rfl⟩
  have HS := Lib.hid ((((H0.out.alloc' hgr 31 [.slice (some ⟨g0, 0, none⟩) n0 c0, .slice (some ⟨g1, 0, none⟩) n1 c1, .int .i64 r.Leader, .int .i64 r.Epoch, .slice A2 n2 c2, .slice A3 n3 c3]).alloc' (g := gs) (by rw [Mm.sz1, hgr, hgs]) 53 [.int .i64 4, .int .i64 nd, .string ⟨#[]⟩]).alloc' (g := go) (by rw [Mm.sz2, hgr]; omega) 31 zRepl).atW hW)
  rw [hW, hgr, hgs, hgo]
  clear hW hgr hgs hgo
  have HSR := HS
  have d0 := HSR.out.cell (k := 0) 2 rfl rfl
  have d1 := HSR.out.cell (k := 1) 2 rfl rfl
  have d2 := HSR.out.cell (k := 2) 2 rfl rfl
  have d3 := HSR.out.cell (k := 3) 2 rfl rfl
  have d4 := HSR.out.cell (k := 4) 2 rfl rfl
  have d5 := HSR.out.cell (k := 5) 2 rfl rfl
  have b0 := HSR.out.cell (k := 0) 1 rfl rfl
  have b1 := HSR.out.cell (k := 1) 1 rfl rfl
  have b2 := HSR.out.cell (k := 2) 1 rfl rfl
  have r0 := HSR.out.cell (k := 0) 0 rfl rfl
  have r1 := HSR.out.cell (k := 1) 0 rfl rfl
  have r2 := HSR.out.cell (k := 2) 0 rfl rfl
  have r3 := HSR.out.cell (k := 3) 0 rfl rfl
  have r4 := HSR.out.cell (k := 4) 0 rfl rfl
  have r5 := HSR.out.cell (k := 5) 0 rfl rfl
  have z0 := HSR.out.frz (k := 0) 0 rfl
  have z1 := HSR.out.frz (k := 1) 0 rfl
  have z2 := HSR.out.frz (k := 2) 0 rfl
  have z3 := HSR.out.frz (k := 3) 0 rfl
  have z4 := HSR.out.frz (k := 4) 0 rfl
  have z5 := HSR.out.frz (k := 5) 0 rfl
  have el := bool_ocell (HSR.out.sl 4 rfl) (HSR.out.ndat (i := 4) rfl) HDL.out
  have en := bool_ocell (HSR.out.sl 4 rfl) (HSR.out.ndat (i := 4) rfl) HDN.out
  have CH := l1Has_c r.InSync nd A2 n2 c2 W W.heap.size ((HS.out.sl 5 rfl).weak (HS.out.sl 5 rfl).olt)
  obtain ⟨ii, hii⟩ : ∃ ii, Pl.hasI r.InSync nd = ii := ⟨_, rfl⟩
  rw [hii] at CH
  have HII := Lib.hid hii
  clear hii
  go_upto_region 11 with (go_at_call 106; (with_reducible refine CH.mono ?_); clear CH; rintro e w' ⟨rfl, rfl⟩)
  obtain ⟨sm, hsm⟩ : ∃ sm, Pl.sameLog r nd = sm := ⟨_, rfl⟩
  have HSM := Lib.hid hsm
  clear hsm
  have hdo : Pl.rdo r ⟨4, nd, ⟨#[]⟩⟩ = if ii = false ∧ dl = false ∧ sm = true then ({ r with InSync := Pl.insI r.InSync nd }, true) else (r, false) := by
    rw [← HED.out.1, ← HII.out, ← HSM.out]
    unfold Pl.rdo
    dsimp only
    have hn := HN.out
    rw [if_neg (show ¬ (4 : Int) = 1 by omega), if_neg (by simp [ByteArray.size]; omega), if_neg (show ¬ (4 : Int) = 2 by omega), if_neg (show ¬ (4 : Int) = 3 by omega), if_pos rfl]
  have HDO := Lib.hid hdo
  clear hdo
  cases dl with
  | true =>
    have HF : Hid (Pl.rdo r ⟨4, nd, ⟨#[]⟩⟩ = (r, false)) := Lib.hid (by rw [HDO.out, if_neg (fun hh => by cases hh.2.1)])
    go_wp2
    have HSF := Lib.hid ((((((HSR.out.setBlk (k := 0) 0 rfl (.slice (some ⟨g0, 0, none⟩) n0 c0)).setBlk (k := 1) 0 rfl (.slice (some ⟨g1, 0, none⟩) n1 c1)).setBlk (k := 2) 0 rfl (.int .i64 r.Leader)).setBlk (k := 3) 0 rfl (.int .i64 r.Epoch)).setBlk (k := 4) 0 rfl (.slice A2 n2 c2)).setBlk (k := 5) 0 rfl (.slice A3 n3 c3))
    have q0 := HSF.out.cell (k := 0) 0 rfl rfl
    have q1 := HSF.out.cell (k := 1) 0 rfl rfl
    have q2 := HSF.out.cell (k := 2) 0 rfl rfl
    have q3 := HSF.out.cell (k := 3) 0 rfl rfl
    have q4 := HSF.out.cell (k := 4) 0 rfl rfl
    have q5 := HSF.out.cell (k := 5) 0 rfl rfl
    exact bodyPost_ret (v := .tuple #[.agg #[.slice (some ⟨g0, 0, none⟩) n0 c0, .slice (some ⟨g1, 0, none⟩) n1 c1, .int .i64 r.Leader, .int .i64 r.Epoch, .slice A2 n2 c2, .slice A3 n3 c3], .bool false]) (by simp [results, Try.results91, go_sem, q0, q1, q2, q3, q4, q5]) rfl ⟨[.slice (some ⟨g0, 0, none⟩) n0 c0, .slice (some ⟨g1, 0, none⟩) n1 c1, .int .i64 r.Leader, .int .i64 r.Epoch, .slice A2 n2 c2, .slice A3 n3 c3], _, by rw [HF.out], by rw [HF.out]; exact (shutv_Repl (x := r) (HSF.out.sel [3,4,5,6] (by decide) rfl) HI.out.1 HI.out.2).left, (fun _ => ⟨rfl, rfl⟩)⟩
  | false =>
    cases ii with
    | true =>
      have HF : Hid (Pl.rdo r ⟨4, nd, ⟨#[]⟩⟩ = (r, false)) := Lib.hid (by rw [HDO.out, if_neg (fun hh => by cases hh.1)])
      go_wp2
      have HSF := Lib.hid ((((((HSR.out.setBlk (k := 0) 0 rfl (.slice (some ⟨g0, 0, none⟩) n0 c0)).setBlk (k := 1) 0 rfl (.slice (some ⟨g1, 0, none⟩) n1 c1)).setBlk (k := 2) 0 rfl (.int .i64 r.Leader)).setBlk (k := 3) 0 rfl (.int .i64 r.Epoch)).setBlk (k := 4) 0 rfl (.slice A2 n2 c2)).setBlk (k := 5) 0 rfl (.slice A3 n3 c3))
      have q0 := HSF.out.cell (k := 0) 0 rfl rfl
      have q1 := HSF.out.cell (k := 1) 0 rfl rfl
      have q2 := HSF.out.cell (k := 2) 0 rfl rfl
      have q3 := HSF.out.cell (k := 3) 0 rfl rfl
      have q4 := HSF.out.cell (k := 4) 0 rfl rfl
      have q5 := HSF.out.cell (k := 5) 0 rfl rfl
      exact bodyPost_ret (v := .tuple #[.agg #[.slice (some ⟨g0, 0, none⟩) n0 c0, .slice (some ⟨g1, 0, none⟩) n1 c1, .int .i64 r.Leader, .int .i64 r.Epoch, .slice A2 n2 c2, .slice A3 n3 c3], .bool false]) (by simp [results, Try.results91, go_sem, q0, q1, q2, q3, q4, q5]) rfl ⟨[.slice (some ⟨g0, 0, none⟩) n0 c0, .slice (some ⟨g1, 0, none⟩) n1 c1, .int .i64 r.Leader, .int .i64 r.Epoch, .slice A2 n2 c2, .slice A3 n3 c3], _, by rw [HF.out], by rw [HF.out]; exact (shutv_Repl (x := r) (HSF.out.sel [3,4,5,6] (by decide) rfl) HI.out.1 HI.out.2).left, (fun _ => ⟨rfl, rfl⟩)⟩
    | false =>
      have HT0 := Lib.hid (shutv_Repl (x := r) (HSR.out.sel [3, 4, 5, 6] (by decide) rfl) HI.out.1 HI.out.2)
      have ho0 : rRepl.own W r _ _ := HT0.out.at_ 0 rfl
      have CI := l9Same_c r nd _ W W.heap.size (rRepl.weak ho0 (rRepl.olt ho0)) (Nat.le_refl _) HW.out.rs k0 HK1.out
      rw [HSM.out] at CI
      clear HT0 ho0
      cases sm with
      | false =>
        have HF : Hid (Pl.rdo r ⟨4, nd, ⟨#[]⟩⟩ = (r, false)) := Lib.hid (by rw [HDO.out, if_neg (fun hh => by cases hh.2.2)])
        go_upto_region 24 with (go_at_call 72; (with_reducible refine CI.mono ?_); clear CI; rintro e X5 ⟨rfl, hX⟩; (have HS5 := Lib.hid (HSR.out.step hX)); clear hX)
        clear HSR
        have HSR := HS5
        clear HS5 el en
        clear d0 d1 d2 d3 d4 d5 b0 b1 b2 r0 r1 r2 r3 r4 r5 z0 z1 z2 z3 z4 z5
        have d0 := HSR.out.cell (k := 0) 2 rfl rfl
        have d1 := HSR.out.cell (k := 1) 2 rfl rfl
        have d2 := HSR.out.cell (k := 2) 2 rfl rfl
        have d3 := HSR.out.cell (k := 3) 2 rfl rfl
        have d4 := HSR.out.cell (k := 4) 2 rfl rfl
        have d5 := HSR.out.cell (k := 5) 2 rfl rfl
        have b0 := HSR.out.cell (k := 0) 1 rfl rfl
        have b1 := HSR.out.cell (k := 1) 1 rfl rfl
        have b2 := HSR.out.cell (k := 2) 1 rfl rfl
        have r0 := HSR.out.cell (k := 0) 0 rfl rfl
        have r1 := HSR.out.cell (k := 1) 0 rfl rfl
        have r2 := HSR.out.cell (k := 2) 0 rfl rfl
        have r3 := HSR.out.cell (k := 3) 0 rfl rfl
        have r4 := HSR.out.cell (k := 4) 0 rfl rfl
        have r5 := HSR.out.cell (k := 5) 0 rfl rfl
        have z0 := HSR.out.frz (k := 0) 0 rfl
        have z1 := HSR.out.frz (k := 1) 0 rfl
        have z2 := HSR.out.frz (k := 2) 0 rfl
        have z3 := HSR.out.frz (k := 3) 0 rfl
        have z4 := HSR.out.frz (k := 4) 0 rfl
        have z5 := HSR.out.frz (k := 5) 0 rfl
        have el := bool_ocell (HSR.out.sl 4 rfl) (HSR.out.ndat (i := 4) rfl) HDL.out
        have en := bool_ocell (HSR.out.sl 4 rfl) (HSR.out.ndat (i := 4) rfl) HDN.out
        go_wp2
        have HSF := Lib.hid ((((((HSR.out.setBlk (k := 0) 0 rfl (.slice (some ⟨g0, 0, none⟩) n0 c0)).setBlk (k := 1) 0 rfl (.slice (some ⟨g1, 0, none⟩) n1 c1)).setBlk (k := 2) 0 rfl (.int .i64 r.Leader)).setBlk (k := 3) 0 rfl (.int .i64 r.Epoch)).setBlk (k := 4) 0 rfl (.slice A2 n2 c2)).setBlk (k := 5) 0 rfl (.slice A3 n3 c3))
        have q0 := HSF.out.cell (k := 0) 0 rfl rfl
        have q1 := HSF.out.cell (k := 1) 0 rfl rfl
        have q2 := HSF.out.cell (k := 2) 0 rfl rfl
        have q3 := HSF.out.cell (k := 3) 0 rfl rfl
        have q4 := HSF.out.cell (k := 4) 0 rfl rfl
        have q5 := HSF.out.cell (k := 5) 0 rfl rfl
        exact bodyPost_ret (v := .tuple #[.agg #[.slice (some ⟨g0, 0, none⟩) n0 c0, .slice (some ⟨g1, 0, none⟩) n1 c1, .int .i64 r.Leader, .int .i64 r.Epoch, .slice A2 n2 c2, .slice A3 n3 c3], .bool false]) (by simp [results, Try.results91, go_sem, q0, q1, q2, q3, q4, q5]) rfl ⟨[.slice (some ⟨g0, 0, none⟩) n0 c0, .slice (some ⟨g1, 0, none⟩) n1 c1, .int .i64 r.Leader, .int .i64 r.Epoch, .slice A2 n2 c2, .slice A3 n3 c3], _, by rw [HF.out], by rw [HF.out]; exact (shutv_Repl (x := r) (HSF.out.sel [3,4,5,6] (by decide) rfl) HI.out.1 HI.out.2).left, (fun _ => ⟨rfl, rfl⟩)⟩
      | true =>
        have HF : Hid (Pl.rdo r ⟨4, nd, ⟨#[]⟩⟩ = ({ r with InSync := Pl.insI r.InSync nd }, true)) := Lib.hid (by rw [HDO.out, if_pos ⟨rfl, rfl, rfl⟩])
        go_upto_region 23 with (go_at_call 72; (with_reducible refine CI.mono ?_); clear CI; rintro e X5 ⟨rfl, hX⟩; (have HS5 := Lib.hid (HSR.out.step hX)); clear hX)
        clear HSR
        have HSR := HS5
        clear HS5 el en
        clear d0 d1 d2 d3 d4 d5 b0 b1 b2 r0 r1 r2 r3 r4 r5 z0 z1 z2 z3 z4 z5
        have d0 := HSR.out.cell (k := 0) 2 rfl rfl
        have d1 := HSR.out.cell (k := 1) 2 rfl rfl
        have d2 := HSR.out.cell (k := 2) 2 rfl rfl
        have d3 := HSR.out.cell (k := 3) 2 rfl rfl
        have d4 := HSR.out.cell (k := 4) 2 rfl rfl
        have d5 := HSR.out.cell (k := 5) 2 rfl rfl
        have b0 := HSR.out.cell (k := 0) 1 rfl rfl
        have b1 := HSR.out.cell (k := 1) 1 rfl rfl
        have b2 := HSR.out.cell (k := 2) 1 rfl rfl
        have r0 := HSR.out.cell (k := 0) 0 rfl rfl
        have r1 := HSR.out.cell (k := 1) 0 rfl rfl
        have r2 := HSR.out.cell (k := 2) 0 rfl rfl
        have r3 := HSR.out.cell (k := 3) 0 rfl rfl
        have r4 := HSR.out.cell (k := 4) 0 rfl rfl
        have r5 := HSR.out.cell (k := 5) 0 rfl rfl
        have z0 := HSR.out.frz (k := 0) 0 rfl
        have z1 := HSR.out.frz (k := 1) 0 rfl
        have z2 := HSR.out.frz (k := 2) 0 rfl
        have z3 := HSR.out.frz (k := 3) 0 rfl
        have z4 := HSR.out.frz (k := 4) 0 rfl
        have z5 := HSR.out.frz (k := 5) 0 rfl
        have CP := l1Put_c r.InSync nd A2 n2 c2 X5 X5.heap.size ((HSR.out.sl 5 rfl).weak (HSR.out.sl 5 rfl).olt) (Nat.le_refl _) HW.out.sync (by omega) hI HII.out
        go_upto_region 31 with (go_at_call 122; (with_reducible refine CP.mono ?_); clear CP; rintro e w5 ⟨A5, n5, c5, f5, rfl, ho, hnd5, hnew, hb5⟩; (have HS3 := Lib.hid (HSR.out.add (t := Mm.tsl Mm.int 3 (Pl.insI r.InSync nd) (.slice A5 n5 c5) f5) hb5 ho hnd5 hnew)); (have y4 := HS3.out.cell (k := 4) 3 rfl rfl); (have x4 := HS3.out.frz (k := 4) 3 rfl); clear ho hnd5 hnew hb5)
        have HS5 : Hid (Mm.SepF _ w _ [_, _, _, _, _, _, _]) := Lib.hid ((HS3.out.setBlk (k := 4) 3 rfl (.slice A5 n5 c5)).sel [1, 2, 3, 4, 5, 0, 7] (by decide) rfl)
        clear HS3 y4 x4
        clear HSR
        have HSR := HS5
        clear HS5
        obtain ⟨XT, hXT⟩ : ∃ XT, (w5.setCell ⟨gr, 4, none⟩ (.slice A5 n5 c5)) = XT := ⟨_, rfl⟩
        rw [hXT] at HSR ⊢
        clear hXT
        clear d0 d1 d2 d3 d4 d5 b0 b1 b2 r0 r1 r2 r3 r4 r5 z0 z1 z2 z3 z4 z5
        have d0 := HSR.out.cell (k := 0) 2 rfl rfl
        have d1 := HSR.out.cell (k := 1) 2 rfl rfl
        have d2 := HSR.out.cell (k := 2) 2 rfl rfl
        have d3 := HSR.out.cell (k := 3) 2 rfl rfl
        have d4 := HSR.out.cell (k := 4) 2 rfl rfl
        have d5 := HSR.out.cell (k := 5) 2 rfl rfl
        have r0 := HSR.out.cell (k := 0) 0 rfl rfl
        have r1 := HSR.out.cell (k := 1) 0 rfl rfl
        have r2 := HSR.out.cell (k := 2) 0 rfl rfl
        have r3 := HSR.out.cell (k := 3) 0 rfl rfl
        have r4 := HSR.out.cell (k := 4) 0 rfl rfl
        have r5 := HSR.out.cell (k := 5) 0 rfl rfl
        have z0 := HSR.out.frz (k := 0) 0 rfl
        have z1 := HSR.out.frz (k := 1) 0 rfl
        have z2 := HSR.out.frz (k := 2) 0 rfl
        have z3 := HSR.out.frz (k := 3) 0 rfl
        have z4 := HSR.out.frz (k := 4) 0 rfl
        have z5 := HSR.out.frz (k := 5) 0 rfl
        go_wp2
        have HSF := Lib.hid ((((((HSR.out.setBlk (k := 0) 0 rfl (.slice (some ⟨g0, 0, none⟩) n0 c0)).setBlk (k := 1) 0 rfl (.slice (some ⟨g1, 0, none⟩) n1 c1)).setBlk (k := 2) 0 rfl (.int .i64 r.Leader)).setBlk (k := 3) 0 rfl (.int .i64 r.Epoch)).setBlk (k := 4) 0 rfl (.slice A5 n5 c5)).setBlk (k := 5) 0 rfl (.slice A3 n3 c3))
        have q0 := HSF.out.cell (k := 0) 0 rfl rfl
        have q1 := HSF.out.cell (k := 1) 0 rfl rfl
        have q2 := HSF.out.cell (k := 2) 0 rfl rfl
        have q3 := HSF.out.cell (k := 3) 0 rfl rfl
        have q4 := HSF.out.cell (k := 4) 0 rfl rfl
        have q5 := HSF.out.cell (k := 5) 0 rfl rfl
        exact bodyPost_ret (v := .tuple #[.agg #[.slice (some ⟨g0, 0, none⟩) n0 c0, .slice (some ⟨g1, 0, none⟩) n1 c1, .int .i64 r.Leader, .int .i64 r.Epoch, .slice A5 n5 c5, .slice A3 n3 c3], .bool true]) (by simp [results, Try.results91, go_sem, q0, q1, q2, q3, q4, q5]) rfl ⟨[.slice (some ⟨g0, 0, none⟩) n0 c0, .slice (some ⟨g1, 0, none⟩) n1 c1, .int .i64 r.Leader, .int .i64 r.Epoch, .slice A5 n5 c5, .slice A3 n3 c3], _, by rw [HF.out], by rw [HF.out]; exact (shutv_Repl (x := ({ r with InSync := Pl.insI r.InSync nd })) (HSF.out.sel [3,4,5,6] (by decide) rfl) HI.out.1 HI.out.2).left, (by rw [HF.out]; intro h; cases h)⟩
end Go.Proofs.Ytihendiakgfpcaa
