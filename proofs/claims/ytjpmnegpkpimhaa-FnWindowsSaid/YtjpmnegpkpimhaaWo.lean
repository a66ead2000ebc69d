/-
  Contracts: WindowsOf. No conditions.
-/
import Derived.Test.YtjpmnegpkpimhaaWn
namespace Go.Proofs.Ytjpmnegpkpimhaa
open Go.RowKit
attribute [local go_sem] und_cell World.cell?_alloc_some
theorem Try.infoWin : (Try.prog.info? 30).map (fun i => (i.zero, i.size, i.bytes)) = some (some (.agg #[.int .i64 0, .int .i64 0, .int .i64 0, .int .i64 0, .int .i64 0]), 5, 40) := by kernel_rfl
set_option maxRecDepth 100000 in
set_option maxHeartbeats 1000000 in
theorem specWindowsOf_c (l : List Sample) (A : Option Addr) (n c : Nat) (size : Int) (w : World) (B : Nat) (hl : Mm.SlAt smp w B l A n c) (hB : B ≤ w.heap.size) :
    Calls Try.prog 7 #[.slice A n c, .int .i64 size] w (Mm.RetS2 rWindow 30 w (Pl.windowsOf l size).1 (Pl.windowsOf l size).2) := by
  have hlen : Hid (l.length = n) := hl.1
  have HL : Hid (Mm.SlAt smp w B l A n c) := hl
  clear hl
  cases hc : Pl.counterOk l
  · have HF : Hid (Pl.windowsOf l size = ([], false)) := if_neg (by rw [hc]; simp)
    go_enter Try.func7, Try.ntmps7
    go_wp2_with (go_at_call 31; refine (specCounterOk_c l _ _ _ _ B HL.out hB).mono ?_; rintro e w1 ⟨rfl, hb1⟩)
    rw [HF.out]
    go_ret2
    exact (Mm.Acc.nil hb1).ret
  cases hp : Pl.isIn size 1 1000000
  · have HF : Hid (Pl.windowsOf l size = ([], false)) := if_neg (by rw [hp]; simp)
    go_enter Try.func7, Try.ntmps7
    go_wp2_with first
      | (go_at_call 31; refine (specCounterOk_c l _ _ _ _ B HL.out hB).mono ?_; rintro e w1 ⟨rfl, hb1⟩)
      | (go_at_call 32; refine (l16Size_c _ _).mono ?_; rintro e w2 ⟨rfl, rfl⟩)
    rw [HF.out]
    go_ret2
    exact (Mm.Acc.nil hb1).ret
  have HF : Hid (Pl.windowsOf l size = (Pl.windTo size l l.length, true)) := if_pos (by rw [hc, hp]; rfl)
  have hn : n ≤ 40 := by have := Pl.counterOk_len hc; have := hlen.out; omega
  have HTm := Lib.hid (Pl.tame_of hc)
  have hpb := Pl.per_iff.1 hp
  rw [HF.out]
  go_enter Try.func7, Try.ntmps7
  go_wp2_with first
    | (go_at_call 31; refine (specCounterOk_c l _ _ _ _ B HL.out hB).mono ?_; rintro e w1 ⟨rfl, hb1⟩)
    | (go_at_call 32; refine (l16Size_c _ _).mono ?_; rintro e w2 ⟨rfl, rfl⟩)
  have HC := Lib.hid hc
  clear hc
  go_loopg [6, 22] n (fun g o i wr => ∃ k : Nat, n - k ≤ g ∧ k ≤ n ∧ i = .int .i64 k ∧ Mm.Acc rWindow 30 w (Pl.windTo size l k) o wr)
  case atStart => exact ⟨0, Nat.le_refl _, Nat.zero_le _, rfl, Mm.Acc.nil hb1⟩
  case round =>
    obtain ⟨k, hgk, hk, rfl, hacc⟩ := hrel
    have hbel := hacc.bel
    have hsw := hbel.size
    have hln := Pl.windTo_len (size := size) (l := l) k
    obtain ⟨A', m, c', rfl, hm, -, -, -⟩ := hacc.form
    have HLN := Lib.hid hm.symm
    have hmk : m ≤ k := by omega
    have HA := Lib.hid hacc
    by_cases hlt : k < n
    · have hR := HL.out.keep (w' := wr) (fun b hb => hbel.block b (by omega))
      obtain ⟨x, b, off, hx, rfl, hb, b1, b2, c1, c2⟩ := smp_get hR hlt
      have hxb := Pl.counter_at HC.out hx
      have HX := Lib.hid hx
      have hq1 : 0 ≤ x.At / size * size := Int.mul_nonneg (Int.ediv_nonneg (by omega) (by omega)) (by omega)
      have hq2 : x.At / size * size ≤ x.At := Int.ediv_mul_le _ (by omega)
      have hq3 : 0 ≤ x.At / size := Int.ediv_nonneg (by omega) (by omega)
      have hq4 : x.At / size ≤ x.At := Int.ediv_le_self _ (by omega)
      by_cases hm0 : m = 0
      · subst hm0
        have HE : Hid (Pl.windTo size l k = []) := List.length_eq_zero_iff.1 HLN.out
        clear hR hx hacc hbel hm hln
        have HN := Lib.hid ((Pl.windTo_none (size := size) (l := l) HX.out HE.out))
        have HW : Hid (Mm.I64 (x.At / size * size) ∧ Mm.I64 x.Value ∧ Mm.I64 x.Value ∧ Mm.I64 1 ∧ Mm.I64 0) := ⟨by unfold Mm.I64; omega, b2, b2, by unfold Mm.I64; omega, by unfold Mm.I64; omega⟩
        obtain ⟨i0, hi, hz0, hz1, hz2⟩ := info_parts Try.infoWin
        obtain ⟨l0, ho2, hnext⟩ := HA.out.push (W2 := (wr.alloc (.cells #[.int .i64 x.At, .int .i64 x.Value] 37)).alloc (.cells #[.int .i64 (x.At / size * size), .int .i64 x.Value, .int .i64 x.Value, .int .i64 1, .int .i64 0] 30)) (x := Pl.wnew size x) (below_new (below_new (Below.refl _ _) _) _) (rWindow_own_mk HW.out) List.nodup_nil (fun b hb => by cases hb)
        rw [HLN.out] at ho2 hnext
        have HNX := Lib.hid hnext
        have hnews := Lib.hid (World.news_of_block (B := wr.heap.size + 1) (cs := #[.int .i64 (x.At / size * size), .int .i64 x.Value, .int .i64 x.Value, .int .i64 1, .int .i64 0]) (t := 30) (fr := (0, 0)) (Mm.heap_new (wr.alloc (.cells #[.int .i64 x.At, .int .i64 x.Value] 37)) (Mm.sz1 _ _) _))
        clear hnext
        go_wp2_with (at_builtin; refine wpList_append_lies _ (by rfl) _ _ _ (by rfl) 0 30 i0 _ 5 40 Try.underlying26 hi hz0 hz1 hz2 rfl (by omega) _ 0 l0 (by rfl) ho2 ⟨wr.heap.size + 1, 0, none⟩ 1 1 [.int .i64 (x.At / size * size), .int .i64 x.Value, .int .i64 x.Value, .int .i64 1, .int .i64 0] (by rfl) (by rfl) hnews.out (by simp [Value.oneCell']) (by omega) (by unfold maxLen; omega) (by omega) (Nat.zero_le _) _ rfl ?_; intro gg cap w2 hown1 hgrow hat hlt')
        go_roundg (n - (k + 1))
        case measure => omega
        case rel => exact ⟨k + 1, Nat.le_refl _, by omega, by go_num, by rw [HN.out]; exact HNX.out gg cap w2 hown1 hgrow hat⟩
      · obtain ⟨v, hv⟩ : ∃ v, (Pl.windTo size l k).getLast? = some v := by
          cases hh : (Pl.windTo size l k).getLast? with
          | none => rw [List.getLast?_eq_none_iff] at hh; rw [hh] at hm; simp at hm; omega
          | some v => exact ⟨v, rfl⟩
        have HVL := Lib.hid hv
        have hvi := Pl.last_get HLN.out hv
        have hvb := Pl.windTo_bd HTm.out k v (List.mem_of_getLast? hv)
        have hk0 := (Pl.windTo_last k hv).1
        obtain ⟨g, rfl, hg1, hg2⟩ := hacc.addr (by omega)
        obtain ⟨d0, d1, d2, d3, d4⟩ : wr.cell? ⟨g, (m - 1) * 5, none⟩ = some (.int .i64 v.From) ∧ wr.cell? ⟨g, (m - 1) * 5 + 1, none⟩ = some (.int .i64 v.First) ∧ wr.cell? ⟨g, (m - 1) * 5 + 2, none⟩ = some (.int .i64 v.Last) ∧ wr.cell? ⟨g, (m - 1) * 5 + 3, none⟩ = some (.int .i64 v.Count) ∧ wr.cell? ⟨g, (m - 1) * 5 + 4, none⟩ = some (.int .i64 v.Rise) := by
          obtain ⟨fp, h1, h2, _, _⟩ := hacc
          exact rWindow_ocell h1 h2 hvi
        by_cases hf : v.From = x.At / size * size
        · obtain ⟨y, hy, _, _, _, c3, c4⟩ := smp_get' hR (show k - 1 < n by omega)
          have hyb := Pl.counter_at HC.out hy
          have HN := Lib.hid (Pl.windTo_same (size := size) (l := l) HX.out hy hv hf)
          have hst := Pl.step_bd hyb.2.2.1 hxb.2.2.1 hxb.2.2.2
          have hm1 : ((m : Int) == 0) = false := by simp; omega
          have hmp : 0 < m := by omega
          have hf1 : (v.From != x.At / size * size) = false := by simpa using hf
          have hz := HA.out.frozen
          have z0 := hz ((m - 1) * 5)
          have z1 := hz ((m - 1) * 5 + 1)
          have z2 := hz ((m - 1) * 5 + 2)
          have z3 := hz ((m - 1) * 5 + 3)
          have z4 := hz ((m - 1) * 5 + 4)
          have HFF := Lib.hid hf
          clear hR hx hacc hbel hm hln hv hvi hf hy hz hm0
          have KB := Lib.hid (Mm.Blk.new' (wr.alloc (.cells #[.int .i64 x.At, .int .i64 x.Value] 37)) 30 [.int .i64 v.From, .int .i64 v.First, .int .i64 x.Value, .int .i64 (v.Count + 1), .int .i64 v.Rise] (Mm.sz1 _ _))
          have KX := Lib.hid ((Mm.Blk.new wr 37 [.int .i64 x.At, .int .i64 x.Value]).alloc (.cells #[.int .i64 v.From, .int .i64 v.First, .int .i64 x.Value, .int .i64 (v.Count + 1), .int .i64 v.Rise] 30))
          have HB0 := Lib.hid (show Below wr.heap.size wr ((wr.alloc (.cells #[.int .i64 x.At, .int .i64 x.Value] 37)).alloc (.cells #[.int .i64 v.From, .int .i64 v.First, .int .i64 x.Value, .int .i64 (v.Count + 1), .int .i64 v.Rise] 30)) from below_new (below_new (Below.refl _ _) _) _)
          go_wp2
          have q4 := KB.out.cell (i := 4) rfl
          have p1 := KX.out.cell (i := 1) rfl
          have p2 := below_some HB0.out c4
          have j1 : (0 : Int) ≤ (k : Int) - 1 := by omega
          have j2 : (k : Int) - 1 < (n : Int) := by omega
          have j3 : ((k : Int) - 1).toNat = k - 1 := by omega
          have j4 : IntKind.i64.wrap ((k : Int) - 1) = (k : Int) - 1 := IntWalk.i64_in _ (by omega)
          have j5 : IntKind.i64.wrap (v.Rise + Pl.step y.Value x.Value) = v.Rise + Pl.step y.Value x.Value := IntWalk.i64_in _ (by omega)
          refine wp_region_und_tail 13 (by kernel_rfl) (by kernel_rfl) ?_
          simp only [List.take_succ_cons, List.take_zero, List.drop_succ_cons, List.drop_zero]
          repeat (go_big_quiet_step ((first | (go_at_call 33; exact und_same _ (l16Step_c _ _ _ (by omega) (by omega) (by omega) (by omega))))))
          refine wpQuiet_nil ?_
          intro X hX
          have hbX := below_step HB0.out hX
          have KBX := Lib.hid (KB.out.bel hX)
          have e0 := KBX.out.cell (i := 0) rfl
          have e1 := KBX.out.cell (i := 1) rfl
          have e2 := KBX.out.cell (i := 2) rfl
          have e3 := KBX.out.cell (i := 3) rfl
          have e4 := KBX.out.cell (i := 4) rfl
          have ef := KBX.out.frozen 4
          have o0 := below_some hbX d0
          have o1 := below_some hbX d1
          have o2 := below_some hbX d2
          have o3 := below_some hbX d3
          have o4 := below_some hbX d4
          have y0 := below_fz hbX (by rw [d0]; rfl) z0
          have y1 := below_fz hbX (by rw [d1]; rfl) z1
          have y2 := below_fz hbX (by rw [d2]; rfl) z2
          have y3 := below_fz hbX (by rw [d3]; rfl) z3
          have y4 := below_fz hbX (by rw [d4]; rfl) z4
          have hgw : g ≠ wr.heap.size + 1 := by omega
          have HM := Lib.hid (Pl.dropLast_set HLN.out hmp (Pl.wadd v y.Value x))
          have HII : Hid (m - 1 < (Pl.windTo size l k).length) := by show _ < _; rw [HLN.out]; omega
          have HFI := Lib.hid ((HA.out.step (hbX.setCell (p := ⟨wr.heap.size + 1, 4, none⟩) (by show wr.heap.size ≤ wr.heap.size + 1; omega) (.int .i64 (v.Rise + Pl.step y.Value x.Value)))).setAll (i := m - 1) (x := Pl.wadd v y.Value x) HII.out (rWindow_own_mk (x := Pl.wadd v y.Value x) ⟨by show Mm.I64 v.From; rw [HFF.out]; unfold Mm.I64; omega, by show Mm.I64 v.First; unfold Mm.I64; omega, by show Mm.I64 x.Value; unfold Mm.I64; omega, by show Mm.I64 (v.Count + 1); unfold Mm.I64; omega, by show Mm.I64 (v.Rise + _); unfold Mm.I64; omega⟩))
          clear q4 p1 p2 d0 d1 d2 d3 d4 z0 z1 z2 z3 z4 j1 j2 j3 j4 j5
          go_wp2
          go_roundg (n - (k + 1))
          case measure => omega
          case rel => exact ⟨k + 1, Nat.le_refl _, by omega, by go_num, by rw [HN.out, ← HM.out]; exact HFI.out⟩
        · have hf1 : (v.From != x.At / size * size) = true := by simpa using hf
          have hm1 : ((m : Int) == 0) = false := by simp; omega
          have HFF := Lib.hid hf
          clear hR hx hacc hbel hm hln hv hvi hf
          have HN := Lib.hid ((Pl.windTo_other (size := size) (l := l) HX.out HVL.out HFF.out))
          have HW : Hid (Mm.I64 (x.At / size * size) ∧ Mm.I64 x.Value ∧ Mm.I64 x.Value ∧ Mm.I64 1 ∧ Mm.I64 0) := ⟨by unfold Mm.I64; omega, b2, b2, by unfold Mm.I64; omega, by unfold Mm.I64; omega⟩
          obtain ⟨i0, hi, hz0, hz1, hz2⟩ := info_parts Try.infoWin
          obtain ⟨l0, ho2, hnext⟩ := HA.out.push (W2 := (wr.alloc (.cells #[.int .i64 x.At, .int .i64 x.Value] 37)).alloc (.cells #[.int .i64 (x.At / size * size), .int .i64 x.Value, .int .i64 x.Value, .int .i64 1, .int .i64 0] 30)) (x := Pl.wnew size x) (below_new (below_new (Below.refl _ _) _) _) (rWindow_own_mk HW.out) List.nodup_nil (fun b hb => by cases hb)
          rw [HLN.out] at ho2 hnext
          have HNX := Lib.hid hnext
          have hnews := Lib.hid (World.news_of_block (B := wr.heap.size + 1) (cs := #[.int .i64 (x.At / size * size), .int .i64 x.Value, .int .i64 x.Value, .int .i64 1, .int .i64 0]) (t := 30) (fr := (0, 0)) (Mm.heap_new (wr.alloc (.cells #[.int .i64 x.At, .int .i64 x.Value] 37)) (Mm.sz1 _ _) _))
          clear hnext
          go_wp2_with (at_builtin; refine wpList_append_lies _ (by rfl) _ _ _ (by rfl) 0 30 i0 _ 5 40 Try.underlying26 hi hz0 hz1 hz2 rfl (by omega) _ m l0 (by rfl) ho2 ⟨wr.heap.size + 1, 0, none⟩ 1 1 [.int .i64 (x.At / size * size), .int .i64 x.Value, .int .i64 x.Value, .int .i64 1, .int .i64 0] (by rfl) (by rfl) hnews.out (by simp [Value.oneCell']) (by omega) (by unfold maxLen; omega) (by omega) (Nat.zero_le _) _ rfl ?_; intro gg cap w2 hown1 hgrow hat hlt')
          go_roundg (n - (k + 1))
          case measure => omega
          case rel => exact ⟨k + 1, Nat.le_refl _, by omega, by go_num, by rw [HN.out]; exact HNX.out gg cap w2 hown1 hgrow hat⟩
    · have hkn : Hid (Pl.windTo size l k = Pl.windTo size l l.length) := by have := hlen.out; show _ = _; rw [show k = l.length by omega]
      clear hacc hm
      go_wp2
      go_ret2
      rw [← hkn.out]
      exact HA.out.ret
set_option maxRecDepth 100000 in
set_option maxHeartbeats 2000000 in
theorem implWindowsOf_c (l : List Sample) (A : Option Addr) (n c : Nat) (size : Int) (w : World) (B : Nat) (hl : Mm.SlAt smp w B l A n c) (hB : B ≤ w.heap.size) :
    Calls Try.prog 6 #[.slice A n c, .int .i64 size] w (Mm.RetS2 rWindow 30 w (Pl.windowsOf l size).1 (Pl.windowsOf l size).2) := by
  have hlen : Hid (l.length = n) := hl.1
  have HL : Hid (Mm.SlAt smp w B l A n c) := hl
  clear hl
  cases hc : Pl.counterOk l
  · have HF : Hid (Pl.windowsOf l size = ([], false)) := if_neg (by rw [hc]; simp)
    go_enter Try.func6, Try.ntmps6
    go_wp2_with (go_at_call 28; refine (isCounter_c l _ _ _ _ B HL.out hB).mono ?_; rintro e w1 ⟨rfl, hb1⟩)
    rw [HF.out]
    go_ret2
    exact (Mm.Acc.nil hb1).ret
  cases hp : Pl.isIn size 1 1000000
  · have HF : Hid (Pl.windowsOf l size = ([], false)) := if_neg (by rw [hp]; simp)
    go_enter Try.func6, Try.ntmps6
    go_wp2_with first
      | (go_at_call 28; refine (isCounter_c l _ _ _ _ B HL.out hB).mono ?_; rintro e w1 ⟨rfl, hb1⟩)
      | (go_at_call 29; refine (within_c _ _ _ _).mono ?_; rintro e w2 ⟨rfl, rfl⟩)
    rw [HF.out]
    go_ret2
    exact (Mm.Acc.nil hb1).ret
  have HF : Hid (Pl.windowsOf l size = (Pl.windTo size l l.length, true)) := if_pos (by rw [hc, hp]; rfl)
  have hn : n ≤ 40 := by have := Pl.counterOk_len hc; have := hlen.out; omega
  have HTm := Lib.hid (Pl.tame_of hc)
  have hpb := Pl.per_iff.1 hp
  rw [HF.out]
  go_enter Try.func6, Try.ntmps6
  go_wp2_with first
    | (go_at_call 28; refine (isCounter_c l _ _ _ _ B HL.out hB).mono ?_; rintro e w1 ⟨rfl, hb1⟩)
    | (go_at_call 29; refine (within_c _ _ _ _).mono ?_; rintro e w2 ⟨rfl, rfl⟩)
  have HC := Lib.hid hc
  clear hc
  go_loopg [0, 6] n (fun g s o wr => ∃ (j : Nat) (A1 : Option Addr) (n1 c1 : Nat), j + n1 = n ∧ n1 ≤ g ∧ s = .slice A1 n1 c1 ∧ Hid (Mm.SlAt smp wr B (l.drop j) A1 n1 c1) ∧ Mm.Acc rWindow 30 w (Pl.windTo size l j) o wr ∧ Hid (0 < n1 → Pl.gapAt size l j))
  case atStart => exact ⟨0, A, n, c, Nat.zero_add _, Nat.le_refl _, rfl, (HL.out.keep fun b hb => hb1.block b (by omega)), Mm.Acc.nil hb1, fun _ => .inl rfl⟩
  case round =>
    obtain ⟨j, A1, n1, c1, hjn, hgk, rfl, HR, hacc, HG⟩ := hrel
    obtain ⟨wo, rfl⟩ : ∃ wo : World, wo = wr := ⟨_, rfl⟩
    obtain ⟨go, rfl⟩ : ∃ go : Nat, go = gk := ⟨_, rfl⟩
    have hbel := hacc.bel
    have hsw := hbel.size
    have hln := Pl.windTo_len (size := size) (l := l) j
    obtain ⟨A', m, c', rfl, hm, -, -, -⟩ := hacc.form
    have HLN := Lib.hid hm.symm
    have hmj : m ≤ j := by omega
    have HA := Lib.hid hacc
    by_cases hlt : 0 < n1
    · obtain ⟨x, b, off, hx, rfl, hb, b1, b2, c3, c4⟩ := smp_get HR.out hlt
      have hdx : l[j]? = some x := by rw [List.getElem?_drop] at hx; exact hx
      have hxb := Pl.counter_at HC.out hdx
      have HX := Lib.hid hx
      have HXJ := Lib.hid (Pl.sampleAt_of hdx)
      have hq1 : 0 ≤ x.At / size * size := Int.mul_nonneg (Int.ediv_nonneg (by omega) (by omega)) (by omega)
      have hq2 : x.At / size * size ≤ x.At := Int.ediv_mul_le _ (by omega)
      have hq3 : 0 ≤ x.At / size := Int.ediv_nonneg (by omega) (by omega)
      have hq4 : x.At / size ≤ x.At := Int.ediv_le_self _ (by omega)
      have x0 : wo.cell? ⟨b, off, none⟩ = some (.int .i64 x.At) := by simpa using c3
      have x1 : wo.cell? ⟨b, off + 1, none⟩ = some (.int .i64 x.Value) := by simpa using c4
      have hg1 : (0 : Int) < (n1 : Int) := by omega
      have hg2 : decide (0 < n1) = true := by simpa using hlt
      clear hx hdx c3 c4 hacc hm hln
      go_wp2
      go_loopg [8] n1 (fun g k wz => wz = wo ∧ ∃ cnt : Nat, n1 - cnt ≤ g ∧ cnt ≤ n1 ∧ k = .int .i64 cnt ∧ Hid (∀ i, i < cnt → (Pl.sampleAt l (j + i)).At / size = x.At / size))
      case atStart => exact ⟨rfl, 0, Nat.le_refl _, Nat.zero_le _, rfl, fun i hi => absurd hi (Nat.not_lt_zero i)⟩
      case round =>
        obtain ⟨rfl, cnt, hgk2, hcn, rfl, HQ⟩ := hrel
        have goOn : cnt < n1 → (∃ z, (l.drop j)[cnt]? = some z ∧ wr.cell? ⟨b, off + cnt * 2, none⟩ = some (.int .i64 z.At) ∧ (0 ≤ z.At ∧ z.At ≤ 1000000000) ∧ Pl.sampleAt l (j + cnt) = z) := fun h => by
          obtain ⟨z, hz, _, _, _, z1, z2⟩ := smp_get' HR.out h
          have hdz : l[j + cnt]? = some z := by rw [List.getElem?_drop] at hz; exact hz
          have := Pl.counter_at HC.out hdz
          exact ⟨z, hz, z1, ⟨this.1, this.2.1⟩, Pl.sampleAt_of hdz⟩
        by_cases hc1 : cnt < n1 ∧ (Pl.sampleAt l (j + cnt)).At / size = x.At / size
        · obtain ⟨z, hz, z1, hzb, hzs⟩ := goOn hc1.1
          have hk1 := hc1.1
          have hzq : z.At / size = x.At / size := by rw [← hzs]; exact hc1.2
          have hqb1 : 0 ≤ z.At / size := Int.ediv_nonneg (by omega) (by omega)
          have hqb2 : z.At / size ≤ z.At := Int.ediv_le_self _ (by omega)
          have HN : Hid (∀ i, i < cnt + 1 → (Pl.sampleAt l (j + i)).At / size = x.At / size) := Pl.snocB HQ.out hc1.2
          have hd1 : decide ((cnt : Int) < (n1 : Int)) = true := by simp; omega
          have hd2 : decide (cnt < n1) = true := by simp; omega
          have hd3 : (z.At / size == x.At / size) = true := by simpa using hzq
          clear goOn hc1 hz hzs hzq
          go_wp2
          go_roundg (n1 - (cnt + 1))
          case measure => omega
          case rel => exact ⟨rfl, cnt + 1, Nat.le_refl _, by omega, by go_num, HN.out⟩
        · have hcp : 0 < cnt := by
            apply Classical.byContradiction
            intro hh
            have h0 : cnt = 0 := by omega
            subst h0
            exact hc1 ⟨hlt, by rw [Nat.add_zero, HXJ.out]⟩
          obtain ⟨y, hy, _, _, _, y1, y2⟩ := smp_get' HR.out (show cnt - 1 < n1 by omega)
          have hcap := HR.out.2.1
          have hcm := HR.out.2.2.1
          unfold maxLen at hcm
          have HGR : Hid (Pl.windTo size l (j + cnt) = Pl.windTo size l j ++ [⟨x.At / size * size, x.Value, y.Value, cnt, Pl.rise ((l.drop j).take cnt)⟩]) := by
            show _ = _
            obtain ⟨m', rfl⟩ : ∃ m', cnt = m' + 1 := ⟨cnt - 1, by omega⟩
            rw [Pl.windTo_group (HG.out hlt) m' (by rw [hlen.out]; omega) (fun i hi => by rw [HQ.out i hi, HXJ.out]), Pl.group_eq HX.out hy hcp]
          have hdy : l[j + (cnt - 1)]? = some y := by rw [List.getElem?_drop] at hy; exact hy
          have hyb := Pl.counter_at HC.out hdy
          have HRB := Lib.hid (Pl.rise_bd ((HTm.out.drop j).take cnt))
          have hrb := HRB.out
          have HTT := Lib.hid ((HTm.out.drop j).take cnt)
          have HRT := Lib.hid (HR.out.take hcn)
          have HRD : Hid (Mm.SlAt smp wr B (l.drop (j + cnt)) (some ⟨b, off + cnt * 2, none⟩) (n1 - cnt) (c1 - cnt)) := by have hd := HR.out.drop hcn; rw [List.drop_drop] at hd; exact hd
          have HB0 := Lib.hid (show Below wr.heap.size wr wr.drew from (Below.refl wr.heap.size wr).drew)
          have HROW := Lib.hid HA.out.row
          have hbB : b < w.heap.size := by omega
          have HWW : Hid (Mm.I64 (x.At / size * size) ∧ Mm.I64 x.Value ∧ Mm.I64 y.Value ∧ Mm.I64 (cnt : Int) ∧ Mm.I64 (Pl.rise ((l.drop j).take cnt))) := ⟨by unfold Mm.I64; omega, b2, by unfold Mm.I64; omega, by unfold Mm.I64; omega, by unfold Mm.I64; omega⟩
          have HC9 := Lib.hid (riseOf_c ((l.drop j).take cnt) (some ⟨b, off, none⟩) cnt c1 wr.drew B (HRT.out.keep fun b' hb' => rfl) (by show B ≤ wr.heap.size; omega) HTT.out)
          obtain ⟨i0, hi, hz0, hz1, hz2⟩ := info_parts Try.infoWin
          have f1 : (0 : Int) ≤ (cnt : Int) - 1 := by omega
          have f2 : (cnt : Int) - 1 < (n1 : Int) := by omega
          have f1' : (1 : Int) ≤ (cnt : Int) := by omega
          have f1'' : 1 ≤ cnt := by omega
          have f2' : (cnt : Int) ≤ (n1 : Int) := by omega
          have f2'' : (cnt : Int) < (n1 : Int) + 1 := by omega
          have f3 : ((cnt : Int) - 1).toNat = cnt - 1 := by omega
          have f4 : IntKind.i64.wrap ((cnt : Int) - 1) = (cnt : Int) - 1 := IntWalk.i64_in _ (by omega)
          have f5 : IntKind.i64.wrap (x.At / size * size) = x.At / size * size := IntWalk.i64_in _ (by omega)
          have f6 : (cnt : Int) ≤ (c1 : Int) := by omega
          have f7 : (0 : Int) ≤ (cnt : Int) := by omega
          by_cases hcl : cnt < n1
          · obtain ⟨z, hz, z1, hzb, hzs⟩ := goOn hcl
            have hzq : z.At / size ≠ x.At / size := fun hh => hc1 ⟨hcl, by rw [hzs]; exact hh⟩
            have hqb1 : 0 ≤ z.At / size := Int.ediv_nonneg (by omega) (by omega)
            have hqb2 : z.At / size ≤ z.At := Int.ediv_le_self _ (by omega)
            have HGN : Hid (0 < n1 - cnt → Pl.gapAt size l (j + cnt)) := fun _ => by
              refine Pl.gap_next hpb.1 (by rw [HGR.out, Pl.group_eq HX.out hy hcp]) ?_
              rw [hzs, HXJ.out]; exact hzq
            have hd1 : decide ((cnt : Int) < (n1 : Int)) = true := by simp; omega
            have hd2 : decide (cnt < n1) = true := by simp; omega
            have hd3 : (z.At / size == x.At / size) = false := by simpa using hzq
            have hcc : ¬ c1 = cnt := by omega
            clear goOn hc1 hz hzs hzq hy hdy
            go_wp2
            go_region_held3 (fun wx => wx.cell? ⟨b, off + 1, none⟩ = some (.int .i64 x.Value) ∧ wx.cell? ⟨b, off + (cnt - 1) * 2 + 1, none⟩ = some (.int .i64 y.Value))
              (first | (go_keep; done) | ((try dsimp only); go_split_ands; refine ⟨?_, ?_⟩ <;> first | (exact below_some hb3 (by assumption)) | (refine hgrow.cell (by assumption) (fun hh => ?_); have hrow := HROW.out _ hh.symm; dsimp only at hrow; omega) | (go_keep; done)))
              (first
                | (go_at_call 30; (with_reducible refine HC9.out.mono ?_); rintro e w3 ⟨rfl, hb3⟩)
                | (obtain ⟨l0, ho2, hnext⟩ := HA.out.push (W2 := w3.alloc (.cells #[.int .i64 (x.At / size * size), .int .i64 x.Value, .int .i64 y.Value, .int .i64 cnt, .int .i64 (Pl.rise ((l.drop j).take cnt))] 30)) (x := ⟨x.At / size * size, x.Value, y.Value, cnt, Pl.rise ((l.drop j).take cnt)⟩) (below_new (below_step HB0.out hb3) _) (rWindow_own_mk HWW.out) List.nodup_nil (fun b hb => by cases hb); rw [HLN.out] at ho2 hnext; refine step_append_lies _ (by rfl) _ _ _ (by rfl) 0 30 i0 _ 5 40 Try.underlying26 hi hz0 hz1 hz2 rfl (by omega) _ m l0 (by rfl) ho2 ⟨w3.heap.size, 0, none⟩ 1 1 [.int .i64 (x.At / size * size), .int .i64 x.Value, .int .i64 y.Value, .int .i64 cnt, .int .i64 (Pl.rise ((l.drop j).take cnt))] (by rfl) (by rfl) (World.news_of_block (B := w3.heap.size) (cs := #[.int .i64 (x.At / size * size), .int .i64 x.Value, .int .i64 y.Value, .int .i64 cnt, .int .i64 (Pl.rise ((l.drop j).take cnt))]) (t := 30) (fr := (0, 0)) (heap_alloc_new w3 _)) (by simp [Value.oneCell']) (by omega) (by unfold maxLen; omega) (by omega) (Nat.zero_le _) _ rfl ?_; intro gg cap w4 hown1 hgrow hat hlt'))
            have HNX := Lib.hid (hnext gg cap w4 hown1 hgrow hat)
            have hAW := Lib.hid (show Below B wr w4 from (((below_step HB0.out hb3).mono (show B ≤ wr.heap.size by omega)).alloc (by have := hb3.size; have : wr.drew.heap.size = wr.heap.size := rfl; omega) _).grown hgrow (by rw [Mm.sz1]; have := hb3.size; have : wr.drew.heap.size = wr.heap.size := rfl; omega) (fun k hk => by have := (HROW.out k hk).1; omega))
            clear hnext ho2 hown1 hgrow hat hlt'
            go_wp2
            go_roundg ((n1-cnt))
            case measure => omega
            case rel => exact ⟨j + cnt, _, n1 - cnt, c1 - cnt, by omega, Nat.le_refl _, rfl, (HRD.out.keep fun b' hb' => (hAW.out.block b' hb')), by rw [HGR.out]; exact HNX.out, HGN.out⟩
          · have hd1 : decide ((cnt : Int) < (n1 : Int)) = false := by simp; omega
            have hd2 : decide (cnt < n1) = false := by simp; omega
            have HDE : Hid (l.drop (j + cnt) = []) := List.drop_eq_nil_of_le (by rw [hlen.out]; omega)
            obtain rfl : cnt = n1 := by omega
            have HRZ : Hid (Mm.SlAt smp wr B [] (some ⟨b, off + cnt * 2, none⟩) 0 (c1 - cnt)) := Mm.SlAt.nil (by unfold maxLen; omega) (fun hh => by cases hh)
            clear goOn hc1 hy hdy hd1 hd2 hcl
            by_cases hcc : c1 = cnt
            · obtain rfl : cnt = c1 := hcc.symm
              clear hcc
              go_wp2
              go_region_held3 (fun wx => wx.cell? ⟨b, off + 1, none⟩ = some (.int .i64 x.Value) ∧ wx.cell? ⟨b, off + (cnt - 1) * 2 + 1, none⟩ = some (.int .i64 y.Value))
                (first | (go_keep; done) | ((try dsimp only); go_split_ands; refine ⟨?_, ?_⟩ <;> first | (exact below_some hb3 (by assumption)) | (refine hgrow.cell (by assumption) (fun hh => ?_); have hrow := HROW.out _ hh.symm; dsimp only at hrow; omega) | (go_keep; done)))
                (first
                  | (go_at_call 30; (with_reducible refine HC9.out.mono ?_); rintro e w3 ⟨rfl, hb3⟩)
                  | (obtain ⟨l0, ho2, hnext⟩ := HA.out.push (W2 := w3.alloc (.cells #[.int .i64 (x.At / size * size), .int .i64 x.Value, .int .i64 y.Value, .int .i64 cnt, .int .i64 (Pl.rise ((l.drop j).take cnt))] 30)) (x := ⟨x.At / size * size, x.Value, y.Value, cnt, Pl.rise ((l.drop j).take cnt)⟩) (below_new (below_step HB0.out hb3) _) (rWindow_own_mk HWW.out) List.nodup_nil (fun b hb => by cases hb); rw [HLN.out] at ho2 hnext; refine step_append_lies _ (by rfl) _ _ _ (by rfl) 0 30 i0 _ 5 40 Try.underlying26 hi hz0 hz1 hz2 rfl (by omega) _ m l0 (by rfl) ho2 ⟨w3.heap.size, 0, none⟩ 1 1 [.int .i64 (x.At / size * size), .int .i64 x.Value, .int .i64 y.Value, .int .i64 cnt, .int .i64 (Pl.rise ((l.drop j).take cnt))] (by rfl) (by rfl) (World.news_of_block (B := w3.heap.size) (cs := #[.int .i64 (x.At / size * size), .int .i64 x.Value, .int .i64 y.Value, .int .i64 cnt, .int .i64 (Pl.rise ((l.drop j).take cnt))]) (t := 30) (fr := (0, 0)) (heap_alloc_new w3 _)) (by simp [Value.oneCell']) (by omega) (by unfold maxLen; omega) (by omega) (Nat.zero_le _) _ rfl ?_; intro gg cap w4 hown1 hgrow hat hlt'))
              have HNX := Lib.hid (hnext gg cap w4 hown1 hgrow hat)
              have hAW := Lib.hid (show Below B wr w4 from (((below_step HB0.out hb3).mono (show B ≤ wr.heap.size by omega)).alloc (by have := hb3.size; have : wr.drew.heap.size = wr.heap.size := rfl; omega) _).grown hgrow (by rw [Mm.sz1]; have := hb3.size; have : wr.drew.heap.size = wr.heap.size := rfl; omega) (fun k hk => by have := (HROW.out k hk).1; omega))
              clear hnext ho2 hown1 hgrow hat hlt'
              go_wp2
              go_roundg (0)
              case measure => omega
              case rel => exact ⟨j + cnt, _, 0, 0, by omega, by omega, rfl, by rw [HDE.out]; exact Mm.SlAt.nil (Nat.zero_le _) (fun hh => by cases hh), by rw [HGR.out]; exact HNX.out, fun hh => by omega⟩
            · skip
              go_wp2
              go_region_held3 (fun wx => wx.cell? ⟨b, off + 1, none⟩ = some (.int .i64 x.Value) ∧ wx.cell? ⟨b, off + (cnt - 1) * 2 + 1, none⟩ = some (.int .i64 y.Value))
                (first | (go_keep; done) | ((try dsimp only); go_split_ands; refine ⟨?_, ?_⟩ <;> first | (exact below_some hb3 (by assumption)) | (refine hgrow.cell (by assumption) (fun hh => ?_); have hrow := HROW.out _ hh.symm; dsimp only at hrow; omega) | (go_keep; done)))
                (first
                  | (go_at_call 30; (with_reducible refine HC9.out.mono ?_); rintro e w3 ⟨rfl, hb3⟩)
                  | (obtain ⟨l0, ho2, hnext⟩ := HA.out.push (W2 := w3.alloc (.cells #[.int .i64 (x.At / size * size), .int .i64 x.Value, .int .i64 y.Value, .int .i64 cnt, .int .i64 (Pl.rise ((l.drop j).take cnt))] 30)) (x := ⟨x.At / size * size, x.Value, y.Value, cnt, Pl.rise ((l.drop j).take cnt)⟩) (below_new (below_step HB0.out hb3) _) (rWindow_own_mk HWW.out) List.nodup_nil (fun b hb => by cases hb); rw [HLN.out] at ho2 hnext; refine step_append_lies _ (by rfl) _ _ _ (by rfl) 0 30 i0 _ 5 40 Try.underlying26 hi hz0 hz1 hz2 rfl (by omega) _ m l0 (by rfl) ho2 ⟨w3.heap.size, 0, none⟩ 1 1 [.int .i64 (x.At / size * size), .int .i64 x.Value, .int .i64 y.Value, .int .i64 cnt, .int .i64 (Pl.rise ((l.drop j).take cnt))] (by rfl) (by rfl) (World.news_of_block (B := w3.heap.size) (cs := #[.int .i64 (x.At / size * size), .int .i64 x.Value, .int .i64 y.Value, .int .i64 cnt, .int .i64 (Pl.rise ((l.drop j).take cnt))]) (t := 30) (fr := (0, 0)) (heap_alloc_new w3 _)) (by simp [Value.oneCell']) (by omega) (by unfold maxLen; omega) (by omega) (Nat.zero_le _) _ rfl ?_; intro gg cap w4 hown1 hgrow hat hlt'))
              have HNX := Lib.hid (hnext gg cap w4 hown1 hgrow hat)
              have hAW := Lib.hid (show Below B wr w4 from (((below_step HB0.out hb3).mono (show B ≤ wr.heap.size by omega)).alloc (by have := hb3.size; have : wr.drew.heap.size = wr.heap.size := rfl; omega) _).grown hgrow (by rw [Mm.sz1]; have := hb3.size; have : wr.drew.heap.size = wr.heap.size := rfl; omega) (fun k hk => by have := (HROW.out k hk).1; omega))
              clear hnext ho2 hown1 hgrow hat hlt'
              go_wp2
              go_roundg (0)
              case measure => omega
              case rel => exact ⟨j + cnt, _, 0, c1 - cnt, by omega, by omega, rfl, by rw [HDE.out]; exact (HRZ.out.keep fun b' hb' => (hAW.out.block b' hb')), by rw [HGR.out]; exact HNX.out, fun hh => by omega⟩
    · have h0 : n1 = 0 := by omega
      have hkn : Hid (Pl.windTo size l j = Pl.windTo size l l.length) := by have := hlen.out; show _ = _; rw [show j = l.length by omega]
      subst h0
      clear hacc hm
      go_wp2
      go_ret2
      rw [← hkn.out]
      exact HA.out.ret
end Go.Proofs.Ytjpmnegpkpimhaa
