/-
  Joined texts, in build order: G0, G1, G2, Hd, G3, G4. Each part says what it proves; no conditions beyond those that a part names.
-/
import Derived.Test.YtihendiakgfpcaaZ03
import Derived.Test.YtihendiakgfpcaaZ04
import Derived.Test.YtihendiakgfpcaaZ05
import Derived.Test.YtihendiakgfpcaaZ08
/-
  Contracts: what a good replication is: the program (chapter 9). No conditions beyond those named.
-/
namespace Go.Proofs.Ytihendiakgfpcaa
open Go.RowKit
attribute [local go_sem] und_cell World.cell?_alloc_some
theorem within_is9 {n a b : Int} {r : Bool} (h : Pl.isIn n a b = r) (w : World) : Calls Try.prog 43 #[.int .i64 n, .int .i64 a, .int .i64 b] w fun e w' => e = .returned (.bool r) ∧ w = w' := h ▸ within_c n a b w
theorem Pl.any_snoc {α : Type} {p : α → Bool} {l : List α} {k : Nat} {x : α} (h : l[k]? = some x) : (l.take (k + 1)).any p = ((l.take k).any p || p x) := by
  rw [Mm.take_succ_some h, List.any_append]; simp
set_option maxRecDepth 100000 in
theorem isRepl1_c (l : List Entry) (A : Option Addr) (n c : Nat) (w : World) (B : Nat) (hl : Mm.SlAt rEntry w B l A n c) (hB : B ≤ w.heap.size) :
    Calls Try.prog 95 #[.slice A n c] w fun e w' => e = .returned (.bool (!Pl.entsOk l)) ∧ Below w.heap.size w w' := by
  have C := areEntries_c l A n c w B hl hB
  obtain ⟨b, hb⟩ : ∃ b, Pl.entsOk l = b := ⟨_, rfl⟩
  rw [hb] at C ⊢
  clear hb hl
  go_enter Try.func95, Try.ntmps95
  go_wp2_with (go_at_call 52; (with_reducible refine C.mono ?_); clear C; rintro e w1 ⟨rfl, hb1⟩)
  cases b <;> (go_ret; exact ⟨rfl, hb1⟩)
set_option maxRecDepth 100000 in
set_option maxHeartbeats 1000000 in
theorem isRepl2_c (r : Repl) (g : Nat) (k : Int) (A0 : Option Addr) (n0 c0 : Nat) (v1 v2 v3 v4 : Value) (A3 : Option Addr) (n3 c3 : Nat) (w : World) (B : Nat) (hb : Mm.Blk w g 31 [.slice A0 n0 c0, v1, v2, v3, v4, .slice A3 n3 c3]) (h0 : Mm.SlAt rEntryS w B r.Logs A0 n0 c0) (h3 : Mm.SlAt rEntry w B r.Certain A3 n3 c3) (hB : B ≤ w.heap.size) (k0 : 0 ≤ k) (k1 : k < n0) :
    Calls Try.prog 97 #[.int .i64 k, .pointer (some ⟨g, 0, none⟩)] w fun e w' => e = .returned (.bool (!Pl.certP r k)) ∧ Below w.heap.size w w' := by
  obtain ⟨b0, off0, AK, nK, cK, rfl, hb0, hlk, ek⟩ := log_at h0 k0 k1
  have d0 := hb.cell (i := 0) rfl
  have d5 := hb.cell (i := 5) rfl
  have hp3 : Pl.part (Pl.logAt r k) r.Certain ≤ n3 := by have := (Pl.part_le (Pl.logAt r k) r.Certain).2; rw [h3.1] at this; exact this
  have CP := fun z : Und w => und_call z (partAt_c (Pl.logAt r k) r.Certain AK nK cK A3 n3 c3 (und w z) B (hlk.und hB z) (h3.und hB z) (Nat.le_trans hB (und_size z)))
  have HC : Hid (Pl.certP r k = decide (Pl.part (Pl.logAt r k) r.Certain = n3)) := Lib.hid (by unfold Pl.certP; rw [h3.1])
  obtain ⟨p, hp⟩ : ∃ p, Pl.part (Pl.logAt r k) r.Certain = p := ⟨_, rfl⟩
  rw [hp] at CP HC hp3
  clear hp hb h0 h3 hlk
  by_cases hlt : p < n3
  · have f1 : decide ((p : Int) < (n3 : Nat)) = true := by simp; omega
    have HF : Hid ((!Pl.certP r k) = true) := Lib.hid (by rw [HC.out, decide_eq_false (by omega)]; rfl)
    go_enter Try.func97, Try.ntmps97
    go_wp2
    refine wp_region_und (by kernel_rfl) (by kernel_rfl) ?_
    repeat (go_big_quiet_step ((first | (go_at_call 53; with_reducible exact CP _))))
    refine wpQuiet_nil ?_
    intro X hX
    go_wp2
    go_ret
    exact ⟨ret_bool HF.out.symm, hX⟩
  · have f1 : decide ((p : Int) < (n3 : Nat)) = false := by simp; omega
    have HF : Hid ((!Pl.certP r k) = false) := Lib.hid (by rw [HC.out, decide_eq_true (by omega)]; rfl)
    go_enter Try.func97, Try.ntmps97
    go_wp2
    refine wp_region_und (by kernel_rfl) (by kernel_rfl) ?_
    repeat (go_big_quiet_step ((first | (go_at_call 53; with_reducible exact CP _))))
    refine wpQuiet_nil ?_
    intro X hX
    go_wp2
    go_ret
    exact ⟨ret_bool HF.out.symm, hX⟩
set_option maxRecDepth 100000 in
set_option maxHeartbeats 1000000 in
theorem idxLogs_c (l : List (List Entry)) (A : Option Addr) (n c : Nat) (w : World) (B : Nat) (hl : Mm.SlAt rEntryS w B l A n c) (hB : B ≤ w.heap.size) :
    Calls Try.prog 124 #[.slice A n c, .func (Fn.func 95) #[] #[]] w fun e w' => ∃ i : Int, e = .returned (.int .i64 i) ∧ decide (0 ≤ i) = l.any (fun x => !Pl.entsOk x) ∧ Below w.heap.size w w' := by
  have hn : n ≤ 9223372036854775807 := by have := hl.2.1; have := hl.2.2.1; unfold maxLen at this; omega
  have hlen : Hid (l.length = n) := hl.1
  have HL := Lib.hid hl
  clear hl
  go_enter Try.func124, Try.ntmps124
  go_wp2
  go_loopg [5, 8] n (fun g _ i wr => ∃ k : Nat, n - k ≤ g ∧ k ≤ n ∧ i = .int .i64 k ∧ Hid ((l.take k).any (fun x => !Pl.entsOk x) = false) ∧ Hid (Below w.heap.size w wr))
  case atStart => exact ⟨0, Nat.le_refl _, Nat.zero_le _, rfl, rfl, Below.refl _ _⟩
  case round =>
    obtain ⟨k, hgk, hk, rfl, HA, HB⟩ := hrel
    obtain ⟨W, rfl⟩ : ∃ W : World, W = wr := ⟨_, rfl⟩
    have hsz := HB.out.size
    by_cases hlt : k < n
    · (obtain ⟨x, b, off, AX, nX, cX, hx, rfl, hb, hr, e0⟩ := rEntryS_get (HL.out.keep (w' := W) fun b hb => HB.out.block b (by omega)) hlt);(have C := isRepl1_c x AX nX cX W B hr (by omega));(clear hr)
      have HN : Hid ((l.take (k + 1)).any (fun x => !Pl.entsOk x) = ((l.take k).any (fun x => !Pl.entsOk x) || (fun x => !Pl.entsOk x) x)) := Lib.hid (Pl.any_snoc hx)
      have HX := Lib.hid hx
      have f1 : (k : Int) < (n : Nat) := by omega
      have f2 : (0 : Int) ≤ (k : Nat) := by omega
      have f3 : ((k : Nat) : Int).toNat = k := by omega
      clear hx
      obtain ⟨pb, hs⟩ : ∃ pb, (fun x => !Pl.entsOk x) x = pb := ⟨_, rfl⟩
      have hs2 : (!Pl.entsOk x) = pb := hs
      rw [hs2] at C
      clear hs2
      cases pb with
      | false =>
        rw [hs, HA.out] at HN
        clear hs
        go_wp2_with (go_at_call 95; (with_reducible refine C.mono ?_); clear C; rintro e w1 ⟨rfl, hb1⟩)
        go_roundg (n - (k + 1))
        case measure => omega
        case rel => exact ⟨k + 1, Nat.le_refl _, by omega, by go_num, HN.out, below_step HB.out hb1⟩
      | true =>
        have HF : Hid (l.any (fun x => !Pl.entsOk x) = true) := Lib.hid (List.any_eq_true.2 ⟨x, List.mem_of_getElem? HX.out, hs⟩)
        clear hs
        go_wp2_with (go_at_call 95; (with_reducible refine C.mono ?_); clear C; rintro e w1 ⟨rfl, hb1⟩)
        go_ret
        exact ⟨k, rfl, by rw [HF.out]; exact decide_eq_true (by omega), below_step HB.out hb1⟩
    · have HF : Hid (l.any (fun x => !Pl.entsOk x) = false) := Lib.hid (by rw [← List.take_of_length_le (show l.length ≤ k by rw [hlen.out]; omega)]; exact HA.out)
      have f1 : ¬ (k : Int) < (n : Nat) := by omega
      go_wp2
      go_ret
      exact ⟨-1, rfl, by rw [HF.out]; rfl, HB.out⟩
set_option maxRecDepth 100000 in
theorem hasLogs_c (l : List (List Entry)) (A : Option Addr) (n c : Nat) (w : World) (B : Nat) (hl : Mm.SlAt rEntryS w B l A n c) (hB : B ≤ w.heap.size) :
    Calls Try.prog 94 #[.slice A n c, .func (Fn.func 95) #[] #[]] w fun e w' => e = .returned (.bool (l.any (fun x => !Pl.entsOk x))) ∧ Below w.heap.size w w' := by
  have C := idxLogs_c l A n c w B hl hB
  clear hl
  obtain ⟨b, hb⟩ : ∃ b, l.any (fun x => !Pl.entsOk x) = b := ⟨_, rfl⟩
  rw [hb] at C ⊢
  clear hb
  cases b with
  | false =>
    go_enter Try.func94, Try.ntmps94
    go_wp2_with (go_at_call 124; (with_reducible refine C.mono ?_); clear C; rintro e w1 ⟨i, rfl, hi, hb1⟩)
    go_ret
    exact ⟨rfl, hb1⟩
  | true =>
    go_enter Try.func94, Try.ntmps94
    go_wp2_with (go_at_call 124; (with_reducible refine C.mono ?_); clear C; rintro e w1 ⟨i, rfl, hi, hb1⟩)
    go_ret
    exact ⟨rfl, hb1⟩
set_option maxRecDepth 100000 in
set_option maxHeartbeats 1000000 in
theorem idxSync_c (r : Repl) (g : Nat) (A0 : Option Addr) (n0 c0 : Nat) (v1 v2 v3 v4 : Value) (A3 : Option Addr) (n3 c3 : Nat) (l : List Int) (A : Option Addr) (n c : Nat) (w : World) (B : Nat) (hb : Mm.Blk w g 31 [.slice A0 n0 c0, v1, v2, v3, v4, .slice A3 n3 c3]) (h0 : Mm.SlAt rEntryS w B r.Logs A0 n0 c0) (h3 : Mm.SlAt rEntry w B r.Certain A3 n3 c3) (hl : Mm.SlAt Mm.int w B l A n c) (hB : B ≤ w.heap.size) (hin : ∀ k, k ∈ l → 0 ≤ k ∧ k < (n0 : Int)) :
    Calls Try.prog 125 #[.slice A n c, .func (Fn.func 97) #[] #[.pointer (some ⟨g, 0, none⟩)]] w fun e w' => ∃ i : Int, e = .returned (.int .i64 i) ∧ decide (0 ≤ i) = l.any (fun x => !Pl.certP r x) ∧ Below w.heap.size w w' := by
  have hn : n ≤ 9223372036854775807 := by have := hl.2.1; have := hl.2.2.1; unfold maxLen at this; omega
  have hlen : Hid (l.length = n) := hl.1
  have HL := Lib.hid hl
  have HBK := Lib.hid hb
  have H0 := Lib.hid h0
  have H3 := Lib.hid h3
  have HIN := Lib.hid hin
  clear hl hb h0 h3 hin
  go_enter Try.func125, Try.ntmps125
  go_wp2
  go_loopg [5, 8] n (fun g _ i wr => ∃ k : Nat, n - k ≤ g ∧ k ≤ n ∧ i = .int .i64 k ∧ Hid ((l.take k).any (fun x => !Pl.certP r x) = false) ∧ Hid (Below w.heap.size w wr))
  case atStart => exact ⟨0, Nat.le_refl _, Nat.zero_le _, rfl, rfl, Below.refl _ _⟩
  case round =>
    obtain ⟨k, hgk, hk, rfl, HA, HB⟩ := hrel
    obtain ⟨W, rfl⟩ : ∃ W : World, W = wr := ⟨_, rfl⟩
    have hsz := HB.out.size
    by_cases hlt : k < n
    · (obtain ⟨x, b, off, hx, rfl, hb, ix, e0⟩ := int_get (HL.out.keep (w' := W) fun b hb => HB.out.block b (by omega)) hlt);(have C := isRepl2_c r g x A0 n0 c0 v1 v2 v3 v4 A3 n3 c3 W B (HBK.out.bel HB.out) (H0.out.keep (w' := W) fun b hb => HB.out.block b (by omega)) (H3.out.keep (w' := W) fun b hb => HB.out.block b (by omega)) (by omega) (HIN.out x (List.mem_of_getElem? hx)).1 (HIN.out x (List.mem_of_getElem? hx)).2)
      have HN : Hid ((l.take (k + 1)).any (fun x => !Pl.certP r x) = ((l.take k).any (fun x => !Pl.certP r x) || (fun x => !Pl.certP r x) x)) := Lib.hid (Pl.any_snoc hx)
      have HX := Lib.hid hx
      have f1 : (k : Int) < (n : Nat) := by omega
      have f2 : (0 : Int) ≤ (k : Nat) := by omega
      have f3 : ((k : Nat) : Int).toNat = k := by omega
      clear hx
      obtain ⟨pb, hs⟩ : ∃ pb, (fun x => !Pl.certP r x) x = pb := ⟨_, rfl⟩
      have hs2 : (!Pl.certP r x) = pb := hs
      rw [hs2] at C
      clear hs2
      cases pb with
      | false =>
        rw [hs, HA.out] at HN
        clear hs
        go_wp2_with (go_at_call 97; (with_reducible refine C.mono ?_); clear C; rintro e w1 ⟨rfl, hb1⟩)
        go_roundg (n - (k + 1))
        case measure => omega
        case rel => exact ⟨k + 1, Nat.le_refl _, by omega, by go_num, HN.out, below_step HB.out hb1⟩
      | true =>
        have HF : Hid (l.any (fun x => !Pl.certP r x) = true) := Lib.hid (List.any_eq_true.2 ⟨x, List.mem_of_getElem? HX.out, hs⟩)
        clear hs
        go_wp2_with (go_at_call 97; (with_reducible refine C.mono ?_); clear C; rintro e w1 ⟨rfl, hb1⟩)
        go_ret
        exact ⟨k, rfl, by rw [HF.out]; exact decide_eq_true (by omega), below_step HB.out hb1⟩
    · have HF : Hid (l.any (fun x => !Pl.certP r x) = false) := Lib.hid (by rw [← List.take_of_length_le (show l.length ≤ k by rw [hlen.out]; omega)]; exact HA.out)
      have f1 : ¬ (k : Int) < (n : Nat) := by omega
      go_wp2
      go_ret
      exact ⟨-1, rfl, by rw [HF.out]; rfl, HB.out⟩
set_option maxRecDepth 100000 in
theorem hasSync_c (r : Repl) (g : Nat) (A0 : Option Addr) (n0 c0 : Nat) (v1 v2 v3 v4 : Value) (A3 : Option Addr) (n3 c3 : Nat) (l : List Int) (A : Option Addr) (n c : Nat) (w : World) (B : Nat) (hb : Mm.Blk w g 31 [.slice A0 n0 c0, v1, v2, v3, v4, .slice A3 n3 c3]) (h0 : Mm.SlAt rEntryS w B r.Logs A0 n0 c0) (h3 : Mm.SlAt rEntry w B r.Certain A3 n3 c3) (hl : Mm.SlAt Mm.int w B l A n c) (hB : B ≤ w.heap.size) (hin : ∀ k, k ∈ l → 0 ≤ k ∧ k < (n0 : Int)) :
    Calls Try.prog 96 #[.slice A n c, .func (Fn.func 97) #[] #[.pointer (some ⟨g, 0, none⟩)]] w fun e w' => e = .returned (.bool (l.any (fun x => !Pl.certP r x))) ∧ Below w.heap.size w w' := by
  have C := idxSync_c r g A0 n0 c0 v1 v2 v3 v4 A3 n3 c3 l A n c w B hb h0 h3 hl hB hin
  clear hl hb h0 h3 hin
  obtain ⟨b, hb⟩ : ∃ b, l.any (fun x => !Pl.certP r x) = b := ⟨_, rfl⟩
  rw [hb] at C ⊢
  clear hb
  cases b with
  | false =>
    go_enter Try.func96, Try.ntmps96
    go_wp2_with (go_at_call 125; (with_reducible refine C.mono ?_); clear C; rintro e w1 ⟨i, rfl, hi, hb1⟩)
    go_ret
    exact ⟨rfl, hb1⟩
  | true =>
    go_enter Try.func96, Try.ntmps96
    go_wp2_with (go_at_call 125; (with_reducible refine C.mono ?_); clear C; rintro e w1 ⟨i, rfl, hi, hb1⟩)
    go_ret
    exact ⟨rfl, hb1⟩
end Go.Proofs.Ytihendiakgfpcaa

/-
  Contracts: what a good replication is: the program's test (chapter 9). No conditions beyond those named.
-/
namespace Go.Proofs.Ytihendiakgfpcaa
open Go.RowKit
attribute [local go_sem] und_cell World.cell?_alloc_some
set_option maxRecDepth 100000 in
set_option maxHeartbeats 4000000 in
theorem isRepl_c (r : Repl) (cs : List Value) (w : World) (B : Nat) (hr : rRepl.at_ w B r cs) (hB : B ≤ w.heap.size) :
    Calls Try.prog 50 #[.agg cs.toArray] w fun e w' => e = .returned (.bool (Pl.replOk r)) ∧ Below w.heap.size w w' := by
  obtain ⟨A0, n0, c0, A1, n1, c1, A2, n2, c2, A3, n3, c3, rfl, r0, r1, i2, i3, r4, r5⟩ := rRepl_at hr
  have g0 : r.Logs.length = n0 := r0.1
  have g1 : r.Down.length = n1 := r1.1
  have hcap0 : n0 ≤ 9223372036854775807 := by have := r0.2.1; have := r0.2.2.1; unfold maxLen at this; omega
  have fw : IntKind.i64.wrap ((n0 : Int) - 1) = (n0 : Int) - 1 := IntWalk.i64_in _ (by omega)
  obtain ⟨W0, hW0⟩ : ∃ W0, w.alloc (.cells #[.slice A0 n0 c0, .slice A1 n1 c1, .int .i64 r.Leader, .int .i64 r.Epoch, .slice A2 n2 c2, .slice A3 n3 c3] 31) = W0 := ⟨_, rfl⟩
  obtain ⟨g, hg0⟩ : ∃ g, w.heap.size = g := ⟨_, rfl⟩
  have hb : Mm.Blk W0 g 31 [.slice A0 n0 c0, .slice A1 n1 c1, .int .i64 r.Leader, .int .i64 r.Epoch, .slice A2 n2 c2, .slice A3 n3 c3] := by rw [← hW0, ← hg0]; exact Mm.Blk.new w _ _
  have hbw : Below w.heap.size w W0 := by rw [← hW0]; exact below_new (Below.refl _ _) _
  have HBW := Lib.hid hbw
  have HBK := Lib.hid hb
  have HBL := Lib.hid hB
  have R0 := Lib.hid r0
  have R4 := Lib.hid r4
  have R5 := Lib.hid r5
  have Q4 := Lib.hid (r4.keep (w' := W0) fun b hb => hbw.block b (by omega))
  have e0 := hb.cell (i := 0) rfl
  have e1 := hb.cell (i := 1) rfl
  have e2 := hb.cell (i := 2) rfl
  have e3 := hb.cell (i := 3) rfl
  have e4 := hb.cell (i := 4) rfl
  obtain ⟨a1, h1⟩ : ∃ b, Pl.isIn (n0 : Int) 1 5 = b := ⟨_, rfl⟩
  obtain ⟨a3, h3⟩ : ∃ b, Pl.isIn r.Leader 0 ((n0 : Int) - 1) = b := ⟨_, rfl⟩
  obtain ⟨a4, h4⟩ : ∃ b, Pl.isIn r.Epoch 1 1000 = b := ⟨_, rfl⟩
  obtain ⟨a5, h5⟩ : ∃ b, Pl.risI (n0 : Int) r.InSync = b := ⟨_, rfl⟩
  obtain ⟨a6, h6⟩ : ∃ b, Pl.hasI r.InSync r.Leader = b := ⟨_, rfl⟩
  obtain ⟨a7, h7⟩ : ∃ b, Pl.entsOk r.Certain = b := ⟨_, rfl⟩
  obtain ⟨a8, h8⟩ : ∃ b, r.Logs.any (fun x => !Pl.entsOk x) = b := ⟨_, rfl⟩
  obtain ⟨a9, h9⟩ : ∃ b, r.InSync.any (fun x => !Pl.certP r x) = b := ⟨_, rfl⟩
  have HOK : Hid (Pl.replOk r = (a1 && decide (n1 = n0) && a3 && a4 && a5 && a6 && !a8 && !a9)) := by
    refine Lib.hid ?_
    unfold Pl.replOk Pl.replA
    rw [g0, g1, h1, h3, h4, h5, h6, List.all_eq_not_any_not, List.all_eq_not_any_not, h8, h9]
  have HEN : Hid (a7 = false → Pl.replOk r = false) := Lib.hid (fun h => by
    cases ho : Pl.replOk r with
    | false => rfl
    | true => rw [(Pl.replOk_iff.1 ho).ents] at h7; rw [← h7] at h; cases h)
  have HIN : Hid (a5 = true → ∀ k, k ∈ r.InSync → 0 ≤ k ∧ k < (n0 : Int)) := Lib.hid (fun h => by rw [h] at h5; exact (Pl.risI_iff.1 h5).2)
  have H15 : Hid (a1 = true → n0 ≤ 5) := Lib.hid (fun h => by rw [h] at h1; have := Pl.isIn_iff.1 h1; omega)
  have HG1 := Lib.hid h1
  have HG3 := Lib.hid h3
  have HG4 := Lib.hid h4
  have HG5 := Lib.hid h5
  have HG6 := Lib.hid h6
  have HG7 := Lib.hid h7
  have HG8 := Lib.hid h8
  have HG9 := Lib.hid h9
  clear hr r0 r1 i2 i3 r4 r5 hb hbw h1 h3 h4 h5 h6 h7 h8 h9 g0 g1
  cases a1 with
  | false =>
    have HF : Hid (Pl.replOk r = false) := Lib.hid (by rw [HOK.out]; simp)
    go_enter Try.func50, Try.ntmps50
    go_wp2_with ((first | ((go_at_call 43); (with_reducible refine ((within_is9 HG1.out) _).mono ?_); (rintro e w' ⟨rfl, rfl⟩)) | ((go_at_call 43); (with_reducible refine ((within_is9 HG3.out) _).mono ?_); (rintro e w' ⟨rfl, rfl⟩)) | ((go_at_call 43); (with_reducible refine ((within_is9 HG4.out) _).mono ?_); (rintro e w' ⟨rfl, rfl⟩)) | ((go_at_call 92); ((with_reducible refine (areNodes_c n0 r.InSync A2 n2 c2 W0 B Q4.out (by omega)).mono ?_)); (rintro e w5 ⟨hre, hb5⟩); (rw [HG5.out] at hre); (obtain rfl := hre); ((have HB5 := Lib.hid (below_step HBW.out hb5))); ((have HK5 := Lib.hid (HBK.out.bel hb5))); ((have d4 := HK5.out.cell (i := 4) rfl)); ((have d2 := HK5.out.cell (i := 2) rfl)); ((have d5 := HK5.out.cell (i := 5) rfl)); ((have d0 := HK5.out.cell (i := 0) rfl))) | ((go_at_call 93); ((with_reducible refine (hasI_c r.InSync r.Leader A2 n2 c2 w5 B (R4.out.keep fun b hb => HB5.out.block b (by omega))).mono ?_)); (rintro e w' ⟨hre, rfl⟩); (rw [HG6.out] at hre); (obtain rfl := hre)) | ((go_at_call 52); ((with_reducible refine (areEntries_c r.Certain A3 n3 c3 w5 B (R5.out.keep fun b hb => HB5.out.block b (by omega)) (Nat.le_trans HBL.out HB5.out.size)).mono ?_)); (rintro e w6 ⟨hre, hb6⟩); (rw [HG7.out] at hre); (obtain rfl := hre); ((have HB6 := Lib.hid (below_step HB5.out hb6))); ((have HK6 := Lib.hid (HK5.out.bel hb6))); ((have s0 := HK6.out.cell (i := 0) rfl)); ((have s4 := HK6.out.cell (i := 4) rfl))) | ((go_at_call 94); ((with_reducible refine (hasLogs_c r.Logs A0 n0 c0 w6 B (R0.out.keep fun b hb => HB6.out.block b (by omega)) (Nat.le_trans HBL.out HB6.out.size)).mono ?_)); (rintro e w7 ⟨hre, hb7⟩); (rw [HG8.out] at hre); (obtain rfl := hre); ((have HB7 := Lib.hid (below_step HB6.out hb7))); ((have HK7 := Lib.hid (HK6.out.bel hb7))); ((have t4 := HK7.out.cell (i := 4) rfl))) | ((go_at_call 96); ((with_reducible refine (hasSync_c r g A0 n0 c0 _ _ _ _ A3 n3 c3 r.InSync A2 n2 c2 w7 B HK7.out (R0.out.keep fun b hb => HB7.out.block b (by omega)) (R5.out.keep fun b hb => HB7.out.block b (by omega)) (R4.out.keep fun b hb => HB7.out.block b (by omega)) (Nat.le_trans HBL.out HB7.out.size) HIN2.out).mono ?_)); (rintro e w8 ⟨hre, hb8⟩); (rw [HG9.out] at hre); (obtain rfl := hre); ((have HB8 := Lib.hid (below_step HB7.out hb8))))))
    go_ret
    exact ⟨ret_bool HF.out.symm, HBW.out⟩
  | true =>
  have h05 := H15.out rfl
  by_cases h2 : n1 = n0
  rotate_left
  · have f2 : ((n1 : Int) != (n0 : Int)) = true := by simp; omega
    have HF : Hid (Pl.replOk r = false) := Lib.hid (by rw [HOK.out, decide_eq_false h2]; simp)
    clear h2
    go_enter Try.func50, Try.ntmps50
    go_wp2_with ((first | ((go_at_call 43); (with_reducible refine ((within_is9 HG1.out) _).mono ?_); (rintro e w' ⟨rfl, rfl⟩)) | ((go_at_call 43); (with_reducible refine ((within_is9 HG3.out) _).mono ?_); (rintro e w' ⟨rfl, rfl⟩)) | ((go_at_call 43); (with_reducible refine ((within_is9 HG4.out) _).mono ?_); (rintro e w' ⟨rfl, rfl⟩)) | ((go_at_call 92); ((with_reducible refine (areNodes_c n0 r.InSync A2 n2 c2 W0 B Q4.out (by omega)).mono ?_)); (rintro e w5 ⟨hre, hb5⟩); (rw [HG5.out] at hre); (obtain rfl := hre); ((have HB5 := Lib.hid (below_step HBW.out hb5))); ((have HK5 := Lib.hid (HBK.out.bel hb5))); ((have d4 := HK5.out.cell (i := 4) rfl)); ((have d2 := HK5.out.cell (i := 2) rfl)); ((have d5 := HK5.out.cell (i := 5) rfl)); ((have d0 := HK5.out.cell (i := 0) rfl))) | ((go_at_call 93); ((with_reducible refine (hasI_c r.InSync r.Leader A2 n2 c2 w5 B (R4.out.keep fun b hb => HB5.out.block b (by omega))).mono ?_)); (rintro e w' ⟨hre, rfl⟩); (rw [HG6.out] at hre); (obtain rfl := hre)) | ((go_at_call 52); ((with_reducible refine (areEntries_c r.Certain A3 n3 c3 w5 B (R5.out.keep fun b hb => HB5.out.block b (by omega)) (Nat.le_trans HBL.out HB5.out.size)).mono ?_)); (rintro e w6 ⟨hre, hb6⟩); (rw [HG7.out] at hre); (obtain rfl := hre); ((have HB6 := Lib.hid (below_step HB5.out hb6))); ((have HK6 := Lib.hid (HK5.out.bel hb6))); ((have s0 := HK6.out.cell (i := 0) rfl)); ((have s4 := HK6.out.cell (i := 4) rfl))) | ((go_at_call 94); ((with_reducible refine (hasLogs_c r.Logs A0 n0 c0 w6 B (R0.out.keep fun b hb => HB6.out.block b (by omega)) (Nat.le_trans HBL.out HB6.out.size)).mono ?_)); (rintro e w7 ⟨hre, hb7⟩); (rw [HG8.out] at hre); (obtain rfl := hre); ((have HB7 := Lib.hid (below_step HB6.out hb7))); ((have HK7 := Lib.hid (HK6.out.bel hb7))); ((have t4 := HK7.out.cell (i := 4) rfl))) | ((go_at_call 96); ((with_reducible refine (hasSync_c r g A0 n0 c0 _ _ _ _ A3 n3 c3 r.InSync A2 n2 c2 w7 B HK7.out (R0.out.keep fun b hb => HB7.out.block b (by omega)) (R5.out.keep fun b hb => HB7.out.block b (by omega)) (R4.out.keep fun b hb => HB7.out.block b (by omega)) (Nat.le_trans HBL.out HB7.out.size) HIN2.out).mono ?_)); (rintro e w8 ⟨hre, hb8⟩); (rw [HG9.out] at hre); (obtain rfl := hre); ((have HB8 := Lib.hid (below_step HB7.out hb8))))))
    go_ret
    exact ⟨ret_bool HF.out.symm, HBW.out⟩
  have f2 : ((n1 : Int) != (n0 : Int)) = false := by simp; omega
  rw [decide_eq_true h2] at HOK
  clear h2
  cases a3 with
  | false =>
    have HF : Hid (Pl.replOk r = false) := Lib.hid (by rw [HOK.out]; simp)
    go_enter Try.func50, Try.ntmps50
    go_wp2_with ((first | ((go_at_call 43); (with_reducible refine ((within_is9 HG1.out) _).mono ?_); (rintro e w' ⟨rfl, rfl⟩)) | ((go_at_call 43); (with_reducible refine ((within_is9 HG3.out) _).mono ?_); (rintro e w' ⟨rfl, rfl⟩)) | ((go_at_call 43); (with_reducible refine ((within_is9 HG4.out) _).mono ?_); (rintro e w' ⟨rfl, rfl⟩)) | ((go_at_call 92); ((with_reducible refine (areNodes_c n0 r.InSync A2 n2 c2 W0 B Q4.out (by omega)).mono ?_)); (rintro e w5 ⟨hre, hb5⟩); (rw [HG5.out] at hre); (obtain rfl := hre); ((have HB5 := Lib.hid (below_step HBW.out hb5))); ((have HK5 := Lib.hid (HBK.out.bel hb5))); ((have d4 := HK5.out.cell (i := 4) rfl)); ((have d2 := HK5.out.cell (i := 2) rfl)); ((have d5 := HK5.out.cell (i := 5) rfl)); ((have d0 := HK5.out.cell (i := 0) rfl))) | ((go_at_call 93); ((with_reducible refine (hasI_c r.InSync r.Leader A2 n2 c2 w5 B (R4.out.keep fun b hb => HB5.out.block b (by omega))).mono ?_)); (rintro e w' ⟨hre, rfl⟩); (rw [HG6.out] at hre); (obtain rfl := hre)) | ((go_at_call 52); ((with_reducible refine (areEntries_c r.Certain A3 n3 c3 w5 B (R5.out.keep fun b hb => HB5.out.block b (by omega)) (Nat.le_trans HBL.out HB5.out.size)).mono ?_)); (rintro e w6 ⟨hre, hb6⟩); (rw [HG7.out] at hre); (obtain rfl := hre); ((have HB6 := Lib.hid (below_step HB5.out hb6))); ((have HK6 := Lib.hid (HK5.out.bel hb6))); ((have s0 := HK6.out.cell (i := 0) rfl)); ((have s4 := HK6.out.cell (i := 4) rfl))) | ((go_at_call 94); ((with_reducible refine (hasLogs_c r.Logs A0 n0 c0 w6 B (R0.out.keep fun b hb => HB6.out.block b (by omega)) (Nat.le_trans HBL.out HB6.out.size)).mono ?_)); (rintro e w7 ⟨hre, hb7⟩); (rw [HG8.out] at hre); (obtain rfl := hre); ((have HB7 := Lib.hid (below_step HB6.out hb7))); ((have HK7 := Lib.hid (HK6.out.bel hb7))); ((have t4 := HK7.out.cell (i := 4) rfl))) | ((go_at_call 96); ((with_reducible refine (hasSync_c r g A0 n0 c0 _ _ _ _ A3 n3 c3 r.InSync A2 n2 c2 w7 B HK7.out (R0.out.keep fun b hb => HB7.out.block b (by omega)) (R5.out.keep fun b hb => HB7.out.block b (by omega)) (R4.out.keep fun b hb => HB7.out.block b (by omega)) (Nat.le_trans HBL.out HB7.out.size) HIN2.out).mono ?_)); (rintro e w8 ⟨hre, hb8⟩); (rw [HG9.out] at hre); (obtain rfl := hre); ((have HB8 := Lib.hid (below_step HB7.out hb8))))))
    go_ret
    exact ⟨ret_bool HF.out.symm, HBW.out⟩
  | true =>
  cases a4 with
  | false =>
    have HF : Hid (Pl.replOk r = false) := Lib.hid (by rw [HOK.out]; simp)
    go_enter Try.func50, Try.ntmps50
    go_wp2_with ((first | ((go_at_call 43); (with_reducible refine ((within_is9 HG1.out) _).mono ?_); (rintro e w' ⟨rfl, rfl⟩)) | ((go_at_call 43); (with_reducible refine ((within_is9 HG3.out) _).mono ?_); (rintro e w' ⟨rfl, rfl⟩)) | ((go_at_call 43); (with_reducible refine ((within_is9 HG4.out) _).mono ?_); (rintro e w' ⟨rfl, rfl⟩)) | ((go_at_call 92); ((with_reducible refine (areNodes_c n0 r.InSync A2 n2 c2 W0 B Q4.out (by omega)).mono ?_)); (rintro e w5 ⟨hre, hb5⟩); (rw [HG5.out] at hre); (obtain rfl := hre); ((have HB5 := Lib.hid (below_step HBW.out hb5))); ((have HK5 := Lib.hid (HBK.out.bel hb5))); ((have d4 := HK5.out.cell (i := 4) rfl)); ((have d2 := HK5.out.cell (i := 2) rfl)); ((have d5 := HK5.out.cell (i := 5) rfl)); ((have d0 := HK5.out.cell (i := 0) rfl))) | ((go_at_call 93); ((with_reducible refine (hasI_c r.InSync r.Leader A2 n2 c2 w5 B (R4.out.keep fun b hb => HB5.out.block b (by omega))).mono ?_)); (rintro e w' ⟨hre, rfl⟩); (rw [HG6.out] at hre); (obtain rfl := hre)) | ((go_at_call 52); ((with_reducible refine (areEntries_c r.Certain A3 n3 c3 w5 B (R5.out.keep fun b hb => HB5.out.block b (by omega)) (Nat.le_trans HBL.out HB5.out.size)).mono ?_)); (rintro e w6 ⟨hre, hb6⟩); (rw [HG7.out] at hre); (obtain rfl := hre); ((have HB6 := Lib.hid (below_step HB5.out hb6))); ((have HK6 := Lib.hid (HK5.out.bel hb6))); ((have s0 := HK6.out.cell (i := 0) rfl)); ((have s4 := HK6.out.cell (i := 4) rfl))) | ((go_at_call 94); ((with_reducible refine (hasLogs_c r.Logs A0 n0 c0 w6 B (R0.out.keep fun b hb => HB6.out.block b (by omega)) (Nat.le_trans HBL.out HB6.out.size)).mono ?_)); (rintro e w7 ⟨hre, hb7⟩); (rw [HG8.out] at hre); (obtain rfl := hre); ((have HB7 := Lib.hid (below_step HB6.out hb7))); ((have HK7 := Lib.hid (HK6.out.bel hb7))); ((have t4 := HK7.out.cell (i := 4) rfl))) | ((go_at_call 96); ((with_reducible refine (hasSync_c r g A0 n0 c0 _ _ _ _ A3 n3 c3 r.InSync A2 n2 c2 w7 B HK7.out (R0.out.keep fun b hb => HB7.out.block b (by omega)) (R5.out.keep fun b hb => HB7.out.block b (by omega)) (R4.out.keep fun b hb => HB7.out.block b (by omega)) (Nat.le_trans HBL.out HB7.out.size) HIN2.out).mono ?_)); (rintro e w8 ⟨hre, hb8⟩); (rw [HG9.out] at hre); (obtain rfl := hre); ((have HB8 := Lib.hid (below_step HB7.out hb8))))))
    go_ret
    exact ⟨ret_bool HF.out.symm, HBW.out⟩
  | true =>
  cases a5 with
  | false =>
    have HF : Hid (Pl.replOk r = false) := Lib.hid (by rw [HOK.out]; simp)
    go_enter Try.func50, Try.ntmps50
    go_wp2_with ((first | ((go_at_call 43); (with_reducible refine ((within_is9 HG1.out) _).mono ?_); (rintro e w' ⟨rfl, rfl⟩)) | ((go_at_call 43); (with_reducible refine ((within_is9 HG3.out) _).mono ?_); (rintro e w' ⟨rfl, rfl⟩)) | ((go_at_call 43); (with_reducible refine ((within_is9 HG4.out) _).mono ?_); (rintro e w' ⟨rfl, rfl⟩)) | ((go_at_call 92); ((with_reducible refine (areNodes_c n0 r.InSync A2 n2 c2 W0 B Q4.out (by omega)).mono ?_)); (rintro e w5 ⟨hre, hb5⟩); (rw [HG5.out] at hre); (obtain rfl := hre); ((have HB5 := Lib.hid (below_step HBW.out hb5))); ((have HK5 := Lib.hid (HBK.out.bel hb5))); ((have d4 := HK5.out.cell (i := 4) rfl)); ((have d2 := HK5.out.cell (i := 2) rfl)); ((have d5 := HK5.out.cell (i := 5) rfl)); ((have d0 := HK5.out.cell (i := 0) rfl))) | ((go_at_call 93); ((with_reducible refine (hasI_c r.InSync r.Leader A2 n2 c2 w5 B (R4.out.keep fun b hb => HB5.out.block b (by omega))).mono ?_)); (rintro e w' ⟨hre, rfl⟩); (rw [HG6.out] at hre); (obtain rfl := hre)) | ((go_at_call 52); ((with_reducible refine (areEntries_c r.Certain A3 n3 c3 w5 B (R5.out.keep fun b hb => HB5.out.block b (by omega)) (Nat.le_trans HBL.out HB5.out.size)).mono ?_)); (rintro e w6 ⟨hre, hb6⟩); (rw [HG7.out] at hre); (obtain rfl := hre); ((have HB6 := Lib.hid (below_step HB5.out hb6))); ((have HK6 := Lib.hid (HK5.out.bel hb6))); ((have s0 := HK6.out.cell (i := 0) rfl)); ((have s4 := HK6.out.cell (i := 4) rfl))) | ((go_at_call 94); ((with_reducible refine (hasLogs_c r.Logs A0 n0 c0 w6 B (R0.out.keep fun b hb => HB6.out.block b (by omega)) (Nat.le_trans HBL.out HB6.out.size)).mono ?_)); (rintro e w7 ⟨hre, hb7⟩); (rw [HG8.out] at hre); (obtain rfl := hre); ((have HB7 := Lib.hid (below_step HB6.out hb7))); ((have HK7 := Lib.hid (HK6.out.bel hb7))); ((have t4 := HK7.out.cell (i := 4) rfl))) | ((go_at_call 96); ((with_reducible refine (hasSync_c r g A0 n0 c0 _ _ _ _ A3 n3 c3 r.InSync A2 n2 c2 w7 B HK7.out (R0.out.keep fun b hb => HB7.out.block b (by omega)) (R5.out.keep fun b hb => HB7.out.block b (by omega)) (R4.out.keep fun b hb => HB7.out.block b (by omega)) (Nat.le_trans HBL.out HB7.out.size) HIN2.out).mono ?_)); (rintro e w8 ⟨hre, hb8⟩); (rw [HG9.out] at hre); (obtain rfl := hre); ((have HB8 := Lib.hid (below_step HB7.out hb8))))))
    go_ret
    exact ⟨ret_bool HF.out.symm, HB5.out⟩
  | true =>
  have HIN2 := Lib.hid (HIN.out rfl)
  clear HIN
  cases a6 with
  | false =>
    have HF : Hid (Pl.replOk r = false) := Lib.hid (by rw [HOK.out]; simp)
    go_enter Try.func50, Try.ntmps50
    go_wp2_with ((first | ((go_at_call 43); (with_reducible refine ((within_is9 HG1.out) _).mono ?_); (rintro e w' ⟨rfl, rfl⟩)) | ((go_at_call 43); (with_reducible refine ((within_is9 HG3.out) _).mono ?_); (rintro e w' ⟨rfl, rfl⟩)) | ((go_at_call 43); (with_reducible refine ((within_is9 HG4.out) _).mono ?_); (rintro e w' ⟨rfl, rfl⟩)) | ((go_at_call 92); ((with_reducible refine (areNodes_c n0 r.InSync A2 n2 c2 W0 B Q4.out (by omega)).mono ?_)); (rintro e w5 ⟨hre, hb5⟩); (rw [HG5.out] at hre); (obtain rfl := hre); ((have HB5 := Lib.hid (below_step HBW.out hb5))); ((have HK5 := Lib.hid (HBK.out.bel hb5))); ((have d4 := HK5.out.cell (i := 4) rfl)); ((have d2 := HK5.out.cell (i := 2) rfl)); ((have d5 := HK5.out.cell (i := 5) rfl)); ((have d0 := HK5.out.cell (i := 0) rfl))) | ((go_at_call 93); ((with_reducible refine (hasI_c r.InSync r.Leader A2 n2 c2 w5 B (R4.out.keep fun b hb => HB5.out.block b (by omega))).mono ?_)); (rintro e w' ⟨hre, rfl⟩); (rw [HG6.out] at hre); (obtain rfl := hre)) | ((go_at_call 52); ((with_reducible refine (areEntries_c r.Certain A3 n3 c3 w5 B (R5.out.keep fun b hb => HB5.out.block b (by omega)) (Nat.le_trans HBL.out HB5.out.size)).mono ?_)); (rintro e w6 ⟨hre, hb6⟩); (rw [HG7.out] at hre); (obtain rfl := hre); ((have HB6 := Lib.hid (below_step HB5.out hb6))); ((have HK6 := Lib.hid (HK5.out.bel hb6))); ((have s0 := HK6.out.cell (i := 0) rfl)); ((have s4 := HK6.out.cell (i := 4) rfl))) | ((go_at_call 94); ((with_reducible refine (hasLogs_c r.Logs A0 n0 c0 w6 B (R0.out.keep fun b hb => HB6.out.block b (by omega)) (Nat.le_trans HBL.out HB6.out.size)).mono ?_)); (rintro e w7 ⟨hre, hb7⟩); (rw [HG8.out] at hre); (obtain rfl := hre); ((have HB7 := Lib.hid (below_step HB6.out hb7))); ((have HK7 := Lib.hid (HK6.out.bel hb7))); ((have t4 := HK7.out.cell (i := 4) rfl))) | ((go_at_call 96); ((with_reducible refine (hasSync_c r g A0 n0 c0 _ _ _ _ A3 n3 c3 r.InSync A2 n2 c2 w7 B HK7.out (R0.out.keep fun b hb => HB7.out.block b (by omega)) (R5.out.keep fun b hb => HB7.out.block b (by omega)) (R4.out.keep fun b hb => HB7.out.block b (by omega)) (Nat.le_trans HBL.out HB7.out.size) HIN2.out).mono ?_)); (rintro e w8 ⟨hre, hb8⟩); (rw [HG9.out] at hre); (obtain rfl := hre); ((have HB8 := Lib.hid (below_step HB7.out hb8))))))
    go_ret
    exact ⟨ret_bool HF.out.symm, HB5.out⟩
  | true =>
  cases a7 with
  | false =>
    have HF : Hid (Pl.replOk r = false) := Lib.hid (HEN.out rfl)
    go_enter Try.func50, Try.ntmps50
    go_wp2_with ((first | ((go_at_call 43); (with_reducible refine ((within_is9 HG1.out) _).mono ?_); (rintro e w' ⟨rfl, rfl⟩)) | ((go_at_call 43); (with_reducible refine ((within_is9 HG3.out) _).mono ?_); (rintro e w' ⟨rfl, rfl⟩)) | ((go_at_call 43); (with_reducible refine ((within_is9 HG4.out) _).mono ?_); (rintro e w' ⟨rfl, rfl⟩)) | ((go_at_call 92); ((with_reducible refine (areNodes_c n0 r.InSync A2 n2 c2 W0 B Q4.out (by omega)).mono ?_)); (rintro e w5 ⟨hre, hb5⟩); (rw [HG5.out] at hre); (obtain rfl := hre); ((have HB5 := Lib.hid (below_step HBW.out hb5))); ((have HK5 := Lib.hid (HBK.out.bel hb5))); ((have d4 := HK5.out.cell (i := 4) rfl)); ((have d2 := HK5.out.cell (i := 2) rfl)); ((have d5 := HK5.out.cell (i := 5) rfl)); ((have d0 := HK5.out.cell (i := 0) rfl))) | ((go_at_call 93); ((with_reducible refine (hasI_c r.InSync r.Leader A2 n2 c2 w5 B (R4.out.keep fun b hb => HB5.out.block b (by omega))).mono ?_)); (rintro e w' ⟨hre, rfl⟩); (rw [HG6.out] at hre); (obtain rfl := hre)) | ((go_at_call 52); ((with_reducible refine (areEntries_c r.Certain A3 n3 c3 w5 B (R5.out.keep fun b hb => HB5.out.block b (by omega)) (Nat.le_trans HBL.out HB5.out.size)).mono ?_)); (rintro e w6 ⟨hre, hb6⟩); (rw [HG7.out] at hre); (obtain rfl := hre); ((have HB6 := Lib.hid (below_step HB5.out hb6))); ((have HK6 := Lib.hid (HK5.out.bel hb6))); ((have s0 := HK6.out.cell (i := 0) rfl)); ((have s4 := HK6.out.cell (i := 4) rfl))) | ((go_at_call 94); ((with_reducible refine (hasLogs_c r.Logs A0 n0 c0 w6 B (R0.out.keep fun b hb => HB6.out.block b (by omega)) (Nat.le_trans HBL.out HB6.out.size)).mono ?_)); (rintro e w7 ⟨hre, hb7⟩); (rw [HG8.out] at hre); (obtain rfl := hre); ((have HB7 := Lib.hid (below_step HB6.out hb7))); ((have HK7 := Lib.hid (HK6.out.bel hb7))); ((have t4 := HK7.out.cell (i := 4) rfl))) | ((go_at_call 96); ((with_reducible refine (hasSync_c r g A0 n0 c0 _ _ _ _ A3 n3 c3 r.InSync A2 n2 c2 w7 B HK7.out (R0.out.keep fun b hb => HB7.out.block b (by omega)) (R5.out.keep fun b hb => HB7.out.block b (by omega)) (R4.out.keep fun b hb => HB7.out.block b (by omega)) (Nat.le_trans HBL.out HB7.out.size) HIN2.out).mono ?_)); (rintro e w8 ⟨hre, hb8⟩); (rw [HG9.out] at hre); (obtain rfl := hre); ((have HB8 := Lib.hid (below_step HB7.out hb8))))))
    go_ret
    exact ⟨ret_bool HF.out.symm, HB6.out⟩
  | true =>
  cases a8 with
  | true =>
    have HF : Hid (Pl.replOk r = false) := Lib.hid (by rw [HOK.out]; simp)
    go_enter Try.func50, Try.ntmps50
    go_wp2_with ((first | ((go_at_call 43); (with_reducible refine ((within_is9 HG1.out) _).mono ?_); (rintro e w' ⟨rfl, rfl⟩)) | ((go_at_call 43); (with_reducible refine ((within_is9 HG3.out) _).mono ?_); (rintro e w' ⟨rfl, rfl⟩)) | ((go_at_call 43); (with_reducible refine ((within_is9 HG4.out) _).mono ?_); (rintro e w' ⟨rfl, rfl⟩)) | ((go_at_call 92); ((with_reducible refine (areNodes_c n0 r.InSync A2 n2 c2 W0 B Q4.out (by omega)).mono ?_)); (rintro e w5 ⟨hre, hb5⟩); (rw [HG5.out] at hre); (obtain rfl := hre); ((have HB5 := Lib.hid (below_step HBW.out hb5))); ((have HK5 := Lib.hid (HBK.out.bel hb5))); ((have d4 := HK5.out.cell (i := 4) rfl)); ((have d2 := HK5.out.cell (i := 2) rfl)); ((have d5 := HK5.out.cell (i := 5) rfl)); ((have d0 := HK5.out.cell (i := 0) rfl))) | ((go_at_call 93); ((with_reducible refine (hasI_c r.InSync r.Leader A2 n2 c2 w5 B (R4.out.keep fun b hb => HB5.out.block b (by omega))).mono ?_)); (rintro e w' ⟨hre, rfl⟩); (rw [HG6.out] at hre); (obtain rfl := hre)) | ((go_at_call 52); ((with_reducible refine (areEntries_c r.Certain A3 n3 c3 w5 B (R5.out.keep fun b hb => HB5.out.block b (by omega)) (Nat.le_trans HBL.out HB5.out.size)).mono ?_)); (rintro e w6 ⟨hre, hb6⟩); (rw [HG7.out] at hre); (obtain rfl := hre); ((have HB6 := Lib.hid (below_step HB5.out hb6))); ((have HK6 := Lib.hid (HK5.out.bel hb6))); ((have s0 := HK6.out.cell (i := 0) rfl)); ((have s4 := HK6.out.cell (i := 4) rfl))) | ((go_at_call 94); ((with_reducible refine (hasLogs_c r.Logs A0 n0 c0 w6 B (R0.out.keep fun b hb => HB6.out.block b (by omega)) (Nat.le_trans HBL.out HB6.out.size)).mono ?_)); (rintro e w7 ⟨hre, hb7⟩); (rw [HG8.out] at hre); (obtain rfl := hre); ((have HB7 := Lib.hid (below_step HB6.out hb7))); ((have HK7 := Lib.hid (HK6.out.bel hb7))); ((have t4 := HK7.out.cell (i := 4) rfl))) | ((go_at_call 96); ((with_reducible refine (hasSync_c r g A0 n0 c0 _ _ _ _ A3 n3 c3 r.InSync A2 n2 c2 w7 B HK7.out (R0.out.keep fun b hb => HB7.out.block b (by omega)) (R5.out.keep fun b hb => HB7.out.block b (by omega)) (R4.out.keep fun b hb => HB7.out.block b (by omega)) (Nat.le_trans HBL.out HB7.out.size) HIN2.out).mono ?_)); (rintro e w8 ⟨hre, hb8⟩); (rw [HG9.out] at hre); (obtain rfl := hre); ((have HB8 := Lib.hid (below_step HB7.out hb8))))))
    go_ret
    exact ⟨ret_bool HF.out.symm, HB7.out⟩
  | false =>
  cases a9 with
  | true =>
    have HF : Hid (Pl.replOk r = false) := Lib.hid (by rw [HOK.out]; simp)
    go_enter Try.func50, Try.ntmps50
    go_wp2_with ((first | ((go_at_call 43); (with_reducible refine ((within_is9 HG1.out) _).mono ?_); (rintro e w' ⟨rfl, rfl⟩)) | ((go_at_call 43); (with_reducible refine ((within_is9 HG3.out) _).mono ?_); (rintro e w' ⟨rfl, rfl⟩)) | ((go_at_call 43); (with_reducible refine ((within_is9 HG4.out) _).mono ?_); (rintro e w' ⟨rfl, rfl⟩)) | ((go_at_call 92); ((with_reducible refine (areNodes_c n0 r.InSync A2 n2 c2 W0 B Q4.out (by omega)).mono ?_)); (rintro e w5 ⟨hre, hb5⟩); (rw [HG5.out] at hre); (obtain rfl := hre); ((have HB5 := Lib.hid (below_step HBW.out hb5))); ((have HK5 := Lib.hid (HBK.out.bel hb5))); ((have d4 := HK5.out.cell (i := 4) rfl)); ((have d2 := HK5.out.cell (i := 2) rfl)); ((have d5 := HK5.out.cell (i := 5) rfl)); ((have d0 := HK5.out.cell (i := 0) rfl))) | ((go_at_call 93); ((with_reducible refine (hasI_c r.InSync r.Leader A2 n2 c2 w5 B (R4.out.keep fun b hb => HB5.out.block b (by omega))).mono ?_)); (rintro e w' ⟨hre, rfl⟩); (rw [HG6.out] at hre); (obtain rfl := hre)) | ((go_at_call 52); ((with_reducible refine (areEntries_c r.Certain A3 n3 c3 w5 B (R5.out.keep fun b hb => HB5.out.block b (by omega)) (Nat.le_trans HBL.out HB5.out.size)).mono ?_)); (rintro e w6 ⟨hre, hb6⟩); (rw [HG7.out] at hre); (obtain rfl := hre); ((have HB6 := Lib.hid (below_step HB5.out hb6))); ((have HK6 := Lib.hid (HK5.out.bel hb6))); ((have s0 := HK6.out.cell (i := 0) rfl)); ((have s4 := HK6.out.cell (i := 4) rfl))) | ((go_at_call 94); ((with_reducible refine (hasLogs_c r.Logs A0 n0 c0 w6 B (R0.out.keep fun b hb => HB6.out.block b (by omega)) (Nat.le_trans HBL.out HB6.out.size)).mono ?_)); (rintro e w7 ⟨hre, hb7⟩); (rw [HG8.out] at hre); (obtain rfl := hre); ((have HB7 := Lib.hid (below_step HB6.out hb7))); ((have HK7 := Lib.hid (HK6.out.bel hb7))); ((have t4 := HK7.out.cell (i := 4) rfl))) | ((go_at_call 96); ((with_reducible refine (hasSync_c r g A0 n0 c0 _ _ _ _ A3 n3 c3 r.InSync A2 n2 c2 w7 B HK7.out (R0.out.keep fun b hb => HB7.out.block b (by omega)) (R5.out.keep fun b hb => HB7.out.block b (by omega)) (R4.out.keep fun b hb => HB7.out.block b (by omega)) (Nat.le_trans HBL.out HB7.out.size) HIN2.out).mono ?_)); (rintro e w8 ⟨hre, hb8⟩); (rw [HG9.out] at hre); (obtain rfl := hre); ((have HB8 := Lib.hid (below_step HB7.out hb8))))))
    go_ret
    exact ⟨ret_bool HF.out.symm, HB8.out⟩
  | false =>
    have HF : Hid (Pl.replOk r = true) := Lib.hid (by rw [HOK.out]; simp)
    go_enter Try.func50, Try.ntmps50
    go_wp2_with ((first | ((go_at_call 43); (with_reducible refine ((within_is9 HG1.out) _).mono ?_); (rintro e w' ⟨rfl, rfl⟩)) | ((go_at_call 43); (with_reducible refine ((within_is9 HG3.out) _).mono ?_); (rintro e w' ⟨rfl, rfl⟩)) | ((go_at_call 43); (with_reducible refine ((within_is9 HG4.out) _).mono ?_); (rintro e w' ⟨rfl, rfl⟩)) | ((go_at_call 92); ((with_reducible refine (areNodes_c n0 r.InSync A2 n2 c2 W0 B Q4.out (by omega)).mono ?_)); (rintro e w5 ⟨hre, hb5⟩); (rw [HG5.out] at hre); (obtain rfl := hre); ((have HB5 := Lib.hid (below_step HBW.out hb5))); ((have HK5 := Lib.hid (HBK.out.bel hb5))); ((have d4 := HK5.out.cell (i := 4) rfl)); ((have d2 := HK5.out.cell (i := 2) rfl)); ((have d5 := HK5.out.cell (i := 5) rfl)); ((have d0 := HK5.out.cell (i := 0) rfl))) | ((go_at_call 93); ((with_reducible refine (hasI_c r.InSync r.Leader A2 n2 c2 w5 B (R4.out.keep fun b hb => HB5.out.block b (by omega))).mono ?_)); (rintro e w' ⟨hre, rfl⟩); (rw [HG6.out] at hre); (obtain rfl := hre)) | ((go_at_call 52); ((with_reducible refine (areEntries_c r.Certain A3 n3 c3 w5 B (R5.out.keep fun b hb => HB5.out.block b (by omega)) (Nat.le_trans HBL.out HB5.out.size)).mono ?_)); (rintro e w6 ⟨hre, hb6⟩); (rw [HG7.out] at hre); (obtain rfl := hre); ((have HB6 := Lib.hid (below_step HB5.out hb6))); ((have HK6 := Lib.hid (HK5.out.bel hb6))); ((have s0 := HK6.out.cell (i := 0) rfl)); ((have s4 := HK6.out.cell (i := 4) rfl))) | ((go_at_call 94); ((with_reducible refine (hasLogs_c r.Logs A0 n0 c0 w6 B (R0.out.keep fun b hb => HB6.out.block b (by omega)) (Nat.le_trans HBL.out HB6.out.size)).mono ?_)); (rintro e w7 ⟨hre, hb7⟩); (rw [HG8.out] at hre); (obtain rfl := hre); ((have HB7 := Lib.hid (below_step HB6.out hb7))); ((have HK7 := Lib.hid (HK6.out.bel hb7))); ((have t4 := HK7.out.cell (i := 4) rfl))) | ((go_at_call 96); ((with_reducible refine (hasSync_c r g A0 n0 c0 _ _ _ _ A3 n3 c3 r.InSync A2 n2 c2 w7 B HK7.out (R0.out.keep fun b hb => HB7.out.block b (by omega)) (R5.out.keep fun b hb => HB7.out.block b (by omega)) (R4.out.keep fun b hb => HB7.out.block b (by omega)) (Nat.le_trans HBL.out HB7.out.size) HIN2.out).mono ?_)); (rintro e w8 ⟨hre, hb8⟩); (rw [HG9.out] at hre); (obtain rfl := hre); ((have HB8 := Lib.hid (below_step HB7.out hb8))))))
    go_ret
    exact ⟨ret_bool HF.out.symm, HB8.out⟩
end Go.Proofs.Ytihendiakgfpcaa

/-
  Contracts: what a good replication is: the reference's test (chapter 9). No conditions beyond those named.
-/
namespace Go.Proofs.Ytihendiakgfpcaa
open Go.RowKit
attribute [local go_sem] und_cell World.cell?_alloc_some
theorem l1In_is9 {n a b : Int} {r : Bool} (h : Pl.isIn n a b = r) (w : World) : Calls Try.prog 71 #[.int .i64 n, .int .i64 a, .int .i64 b] w fun e w' => e = .returned (.bool r) ∧ w = w' := h ▸ l1In_c n a b w
theorem Pl.all_snoc9 {α : Type} {p : α → Bool} {l : List α} {k : Nat} {x : α} (h : l[k]? = some x) : (l.take (k + 1)).all p = ((l.take k).all p && p x) := by
  rw [Mm.take_succ_some h, List.all_append]; simp
set_option maxRecDepth 100000 in
theorem l9Begins_c (l m : List Entry) (A : Option Addr) (n c : Nat) (A' : Option Addr) (n' c' : Nat) (w : World) (B : Nat) (hl : Mm.SlAt rEntry w B l A n c) (hm : Mm.SlAt rEntry w B m A' n' c') (hB : B ≤ w.heap.size) :
    Calls Try.prog 108 #[.slice A n c, .slice A' n' c'] w fun e w' => e = .returned (.bool (decide (Pl.part l m = m.length))) ∧ Below w.heap.size w w' := by
  have C := l7Part_c l m A n c A' n' c' w B hl hm hB
  have hp := Pl.part_le l m
  have HM : Hid (m.length = n') := hm.1
  rw [hl.1, hm.1] at hp
  rw [HM.out]
  obtain ⟨p, hpp⟩ : ∃ p, Pl.part l m = p := ⟨_, rfl⟩
  rw [hpp] at C hp ⊢
  clear hpp hl hm
  by_cases h1 : n' ≤ n
  · have f1 : decide ((n' : Int) ≤ (n : Nat)) = true := by simp; omega
    have f1' : decide (n' ≤ n) = true := by simp; omega
    by_cases h2 : p = n'
    · have HF : Hid (decide (p = n') = true) := Lib.hid (decide_eq_true h2)
      have f2 : ((p : Int) == (n' : Nat)) = true := by simp; omega
      clear h2
      go_enter Try.func108, Try.ntmps108
      go_wp2_with (go_at_call 109; (with_reducible refine C.mono ?_); clear C; rintro e w1 ⟨rfl, hb1⟩)
      go_ret
      exact ⟨ret_bool HF.out.symm, hb1⟩
    · have HF : Hid (decide (p = n') = false) := Lib.hid (decide_eq_false h2)
      have f2 : ((p : Int) == (n' : Nat)) = false := by simp; omega
      clear h2
      go_enter Try.func108, Try.ntmps108
      go_wp2_with (go_at_call 109; (with_reducible refine C.mono ?_); clear C; rintro e w1 ⟨rfl, hb1⟩)
      go_ret
      exact ⟨ret_bool HF.out.symm, hb1⟩
  · have f1 : decide ((n' : Int) ≤ (n : Nat)) = false := by simp; omega
    have f1' : decide (n' ≤ n) = false := by simp; omega
    have HF : Hid (decide (p = n') = false) := Lib.hid (decide_eq_false (by omega))
    go_enter Try.func108, Try.ntmps108
    go_wp2
    go_ret
    exact ⟨ret_bool HF.out.symm, Below.refl _ _⟩
set_option maxRecDepth 100000 in
set_option maxHeartbeats 4000000 in
theorem specGoodRepl_c (r : Repl) (cs : List Value) (w : World) (B : Nat) (hr : rRepl.at_ w B r cs) (hB : B ≤ w.heap.size) :
    Calls Try.prog 68 #[.agg cs.toArray] w fun e w' => e = .returned (.bool (Pl.replOk r)) ∧ Below w.heap.size w w' := by
  obtain ⟨A0, n0, c0, A1, n1, c1, A2, n2, c2, A3, n3, c3, rfl, r0, r1, i2, i3, r4, r5⟩ := rRepl_at hr
  have g0 : r.Logs.length = n0 := r0.1
  have g1 : r.Down.length = n1 := r1.1
  have g4 : r.InSync.length = n2 := r4.1
  have hcap0 : n0 ≤ 9223372036854775807 := by have := r0.2.1; have := r0.2.2.1; unfold maxLen at this; omega
  have hcap2 : n2 ≤ 9223372036854775807 := by have := r4.2.1; have := r4.2.2.1; unfold maxLen at this; omega
  have fw : IntKind.i64.wrap ((n0 : Int) - 1) = (n0 : Int) - 1 := IntWalk.i64_in _ (by omega)
  obtain ⟨W0, hW0⟩ : ∃ W0, w.alloc (.cells #[.slice A0 n0 c0, .slice A1 n1 c1, .int .i64 r.Leader, .int .i64 r.Epoch, .slice A2 n2 c2, .slice A3 n3 c3] 31) = W0 := ⟨_, rfl⟩
  obtain ⟨g, hg0⟩ : ∃ g, w.heap.size = g := ⟨_, rfl⟩
  have hb : Mm.Blk W0 g 31 [.slice A0 n0 c0, .slice A1 n1 c1, .int .i64 r.Leader, .int .i64 r.Epoch, .slice A2 n2 c2, .slice A3 n3 c3] := by rw [← hW0, ← hg0]; exact Mm.Blk.new w _ _
  have hbw : Below w.heap.size w W0 := by rw [← hW0]; exact below_new (Below.refl _ _) _
  have HBW := Lib.hid hbw
  have HBK := Lib.hid hb
  have HBL := Lib.hid hB
  have R0 := Lib.hid r0
  have R4 := Lib.hid r4
  have R5 := Lib.hid r5
  have G0 := Lib.hid g0
  have G4 := Lib.hid g4
  have Q4 := Lib.hid (r4.keep (w' := W0) fun b hb => hbw.block b (by omega))
  have e0 := hb.cell (i := 0) rfl
  have e1 := hb.cell (i := 1) rfl
  have e2 := hb.cell (i := 2) rfl
  have e3 := hb.cell (i := 3) rfl
  have e4 := hb.cell (i := 4) rfl
  obtain ⟨a1, h1⟩ : ∃ b, Pl.isIn (n0 : Int) 1 5 = b := ⟨_, rfl⟩
  obtain ⟨a3, h3⟩ : ∃ b, Pl.isIn r.Leader 0 ((n0 : Int) - 1) = b := ⟨_, rfl⟩
  obtain ⟨a4, h4⟩ : ∃ b, Pl.isIn r.Epoch 1 1000 = b := ⟨_, rfl⟩
  obtain ⟨a5, h5⟩ : ∃ b, Pl.risI (n0 : Int) r.InSync = b := ⟨_, rfl⟩
  obtain ⟨a6, h6⟩ : ∃ b, Pl.hasI r.InSync r.Leader = b := ⟨_, rfl⟩
  have HOK : Hid (Pl.replOk r = (a1 && decide (n1 = n0) && a3 && a4 && a5 && a6 && r.Logs.all Pl.entsOk && r.InSync.all (Pl.certP r))) := by
    refine Lib.hid ?_
    unfold Pl.replOk Pl.replA
    rw [g0, g1, h1, h3, h4, h5, h6]
  have HIN : Hid (a5 = true → ∀ k, k ∈ r.InSync → 0 ≤ k ∧ k < (n0 : Int)) := Lib.hid (fun h => by rw [h] at h5; exact (Pl.risI_iff.1 h5).2)
  have H15 : Hid (a1 = true → n0 ≤ 5) := Lib.hid (fun h => by rw [h] at h1; have := Pl.isIn_iff.1 h1; omega)
  have HG1 := Lib.hid h1
  have HG3 := Lib.hid h3
  have HG4 := Lib.hid h4
  have HG5 := Lib.hid h5
  have HG6 := Lib.hid h6
  clear hr r0 r1 i2 i3 r4 r5 hb hbw h1 h3 h4 h5 h6 g0 g1 g4
  cases a1 with
  | false =>
    have HF : Hid (Pl.replOk r = false) := Lib.hid (by rw [HOK.out]; simp)
    go_enter Try.func68, Try.ntmps68
    go_wp2_with ((first | ((go_at_call 71); (with_reducible refine ((l1In_is9 HG1.out) _).mono ?_); (rintro e w' ⟨rfl, rfl⟩)) | ((go_at_call 71); (with_reducible refine ((l1In_is9 HG3.out) _).mono ?_); (rintro e w' ⟨rfl, rfl⟩)) | ((go_at_call 71); (with_reducible refine ((l1In_is9 HG4.out) _).mono ?_); (rintro e w' ⟨rfl, rfl⟩)) | ((go_at_call 105); ((with_reducible refine (l8Rising_c n0 r.InSync A2 n2 c2 W0 B Q4.out (by omega)).mono ?_)); (rintro e w5 ⟨hre, hb5⟩); (rw [HG5.out] at hre); (obtain rfl := hre); ((have HB5 := Lib.hid (below_step HBW.out hb5))); ((have HK5 := Lib.hid (HBK.out.bel hb5))); ((have d4 := HK5.out.cell (i := 4) rfl)); ((have d2 := HK5.out.cell (i := 2) rfl)); ((have d0 := HK5.out.cell (i := 0) rfl))) | ((go_at_call 106); ((with_reducible refine (l1Has_c r.InSync r.Leader A2 n2 c2 w5 B (R4.out.keep fun b hb => HB5.out.block b (by omega))).mono ?_)); (rintro e w' ⟨hre, rfl⟩); (rw [HG6.out] at hre); (obtain rfl := hre))))
    go_ret
    exact ⟨ret_bool HF.out.symm, HBW.out⟩
  | true =>
  have h05 := H15.out rfl
  by_cases h2 : n1 = n0
  rotate_left
  · have f2 : ((n1 : Int) != (n0 : Int)) = true := by simp; omega
    have HF : Hid (Pl.replOk r = false) := Lib.hid (by rw [HOK.out, decide_eq_false h2]; simp)
    clear h2
    go_enter Try.func68, Try.ntmps68
    go_wp2_with ((first | ((go_at_call 71); (with_reducible refine ((l1In_is9 HG1.out) _).mono ?_); (rintro e w' ⟨rfl, rfl⟩)) | ((go_at_call 71); (with_reducible refine ((l1In_is9 HG3.out) _).mono ?_); (rintro e w' ⟨rfl, rfl⟩)) | ((go_at_call 71); (with_reducible refine ((l1In_is9 HG4.out) _).mono ?_); (rintro e w' ⟨rfl, rfl⟩)) | ((go_at_call 105); ((with_reducible refine (l8Rising_c n0 r.InSync A2 n2 c2 W0 B Q4.out (by omega)).mono ?_)); (rintro e w5 ⟨hre, hb5⟩); (rw [HG5.out] at hre); (obtain rfl := hre); ((have HB5 := Lib.hid (below_step HBW.out hb5))); ((have HK5 := Lib.hid (HBK.out.bel hb5))); ((have d4 := HK5.out.cell (i := 4) rfl)); ((have d2 := HK5.out.cell (i := 2) rfl)); ((have d0 := HK5.out.cell (i := 0) rfl))) | ((go_at_call 106); ((with_reducible refine (l1Has_c r.InSync r.Leader A2 n2 c2 w5 B (R4.out.keep fun b hb => HB5.out.block b (by omega))).mono ?_)); (rintro e w' ⟨hre, rfl⟩); (rw [HG6.out] at hre); (obtain rfl := hre))))
    go_ret
    exact ⟨ret_bool HF.out.symm, HBW.out⟩
  have f2 : ((n1 : Int) != (n0 : Int)) = false := by simp; omega
  rw [decide_eq_true h2] at HOK
  clear h2
  cases a3 with
  | false =>
    have HF : Hid (Pl.replOk r = false) := Lib.hid (by rw [HOK.out]; simp)
    go_enter Try.func68, Try.ntmps68
    go_wp2_with ((first | ((go_at_call 71); (with_reducible refine ((l1In_is9 HG1.out) _).mono ?_); (rintro e w' ⟨rfl, rfl⟩)) | ((go_at_call 71); (with_reducible refine ((l1In_is9 HG3.out) _).mono ?_); (rintro e w' ⟨rfl, rfl⟩)) | ((go_at_call 71); (with_reducible refine ((l1In_is9 HG4.out) _).mono ?_); (rintro e w' ⟨rfl, rfl⟩)) | ((go_at_call 105); ((with_reducible refine (l8Rising_c n0 r.InSync A2 n2 c2 W0 B Q4.out (by omega)).mono ?_)); (rintro e w5 ⟨hre, hb5⟩); (rw [HG5.out] at hre); (obtain rfl := hre); ((have HB5 := Lib.hid (below_step HBW.out hb5))); ((have HK5 := Lib.hid (HBK.out.bel hb5))); ((have d4 := HK5.out.cell (i := 4) rfl)); ((have d2 := HK5.out.cell (i := 2) rfl)); ((have d0 := HK5.out.cell (i := 0) rfl))) | ((go_at_call 106); ((with_reducible refine (l1Has_c r.InSync r.Leader A2 n2 c2 w5 B (R4.out.keep fun b hb => HB5.out.block b (by omega))).mono ?_)); (rintro e w' ⟨hre, rfl⟩); (rw [HG6.out] at hre); (obtain rfl := hre))))
    go_ret
    exact ⟨ret_bool HF.out.symm, HBW.out⟩
  | true =>
  cases a4 with
  | false =>
    have HF : Hid (Pl.replOk r = false) := Lib.hid (by rw [HOK.out]; simp)
    go_enter Try.func68, Try.ntmps68
    go_wp2_with ((first | ((go_at_call 71); (with_reducible refine ((l1In_is9 HG1.out) _).mono ?_); (rintro e w' ⟨rfl, rfl⟩)) | ((go_at_call 71); (with_reducible refine ((l1In_is9 HG3.out) _).mono ?_); (rintro e w' ⟨rfl, rfl⟩)) | ((go_at_call 71); (with_reducible refine ((l1In_is9 HG4.out) _).mono ?_); (rintro e w' ⟨rfl, rfl⟩)) | ((go_at_call 105); ((with_reducible refine (l8Rising_c n0 r.InSync A2 n2 c2 W0 B Q4.out (by omega)).mono ?_)); (rintro e w5 ⟨hre, hb5⟩); (rw [HG5.out] at hre); (obtain rfl := hre); ((have HB5 := Lib.hid (below_step HBW.out hb5))); ((have HK5 := Lib.hid (HBK.out.bel hb5))); ((have d4 := HK5.out.cell (i := 4) rfl)); ((have d2 := HK5.out.cell (i := 2) rfl)); ((have d0 := HK5.out.cell (i := 0) rfl))) | ((go_at_call 106); ((with_reducible refine (l1Has_c r.InSync r.Leader A2 n2 c2 w5 B (R4.out.keep fun b hb => HB5.out.block b (by omega))).mono ?_)); (rintro e w' ⟨hre, rfl⟩); (rw [HG6.out] at hre); (obtain rfl := hre))))
    go_ret
    exact ⟨ret_bool HF.out.symm, HBW.out⟩
  | true =>
  cases a5 with
  | false =>
    have HF : Hid (Pl.replOk r = false) := Lib.hid (by rw [HOK.out]; simp)
    go_enter Try.func68, Try.ntmps68
    go_wp2_with ((first | ((go_at_call 71); (with_reducible refine ((l1In_is9 HG1.out) _).mono ?_); (rintro e w' ⟨rfl, rfl⟩)) | ((go_at_call 71); (with_reducible refine ((l1In_is9 HG3.out) _).mono ?_); (rintro e w' ⟨rfl, rfl⟩)) | ((go_at_call 71); (with_reducible refine ((l1In_is9 HG4.out) _).mono ?_); (rintro e w' ⟨rfl, rfl⟩)) | ((go_at_call 105); ((with_reducible refine (l8Rising_c n0 r.InSync A2 n2 c2 W0 B Q4.out (by omega)).mono ?_)); (rintro e w5 ⟨hre, hb5⟩); (rw [HG5.out] at hre); (obtain rfl := hre); ((have HB5 := Lib.hid (below_step HBW.out hb5))); ((have HK5 := Lib.hid (HBK.out.bel hb5))); ((have d4 := HK5.out.cell (i := 4) rfl)); ((have d2 := HK5.out.cell (i := 2) rfl)); ((have d0 := HK5.out.cell (i := 0) rfl))) | ((go_at_call 106); ((with_reducible refine (l1Has_c r.InSync r.Leader A2 n2 c2 w5 B (R4.out.keep fun b hb => HB5.out.block b (by omega))).mono ?_)); (rintro e w' ⟨hre, rfl⟩); (rw [HG6.out] at hre); (obtain rfl := hre))))
    go_ret
    exact ⟨ret_bool HF.out.symm, HB5.out⟩
  | true =>
  have HIN2 := Lib.hid (HIN.out rfl)
  clear HIN
  cases a6 with
  | false =>
    have HF : Hid (Pl.replOk r = false) := Lib.hid (by rw [HOK.out]; simp)
    go_enter Try.func68, Try.ntmps68
    go_wp2_with ((first | ((go_at_call 71); (with_reducible refine ((l1In_is9 HG1.out) _).mono ?_); (rintro e w' ⟨rfl, rfl⟩)) | ((go_at_call 71); (with_reducible refine ((l1In_is9 HG3.out) _).mono ?_); (rintro e w' ⟨rfl, rfl⟩)) | ((go_at_call 71); (with_reducible refine ((l1In_is9 HG4.out) _).mono ?_); (rintro e w' ⟨rfl, rfl⟩)) | ((go_at_call 105); ((with_reducible refine (l8Rising_c n0 r.InSync A2 n2 c2 W0 B Q4.out (by omega)).mono ?_)); (rintro e w5 ⟨hre, hb5⟩); (rw [HG5.out] at hre); (obtain rfl := hre); ((have HB5 := Lib.hid (below_step HBW.out hb5))); ((have HK5 := Lib.hid (HBK.out.bel hb5))); ((have d4 := HK5.out.cell (i := 4) rfl)); ((have d2 := HK5.out.cell (i := 2) rfl)); ((have d0 := HK5.out.cell (i := 0) rfl))) | ((go_at_call 106); ((with_reducible refine (l1Has_c r.InSync r.Leader A2 n2 c2 w5 B (R4.out.keep fun b hb => HB5.out.block b (by omega))).mono ?_)); (rintro e w' ⟨hre, rfl⟩); (rw [HG6.out] at hre); (obtain rfl := hre))))
    go_ret
    exact ⟨ret_bool HF.out.symm, HB5.out⟩
  | true =>
  have HOK2 : Hid (Pl.replOk r = (r.Logs.all Pl.entsOk && r.InSync.all (Pl.certP r))) := Lib.hid (by rw [HOK.out]; simp)
  clear HOK
  go_enter Try.func68, Try.ntmps68
  go_wp2_with ((first | ((go_at_call 71); (with_reducible refine ((l1In_is9 HG1.out) _).mono ?_); (rintro e w' ⟨rfl, rfl⟩)) | ((go_at_call 71); (with_reducible refine ((l1In_is9 HG3.out) _).mono ?_); (rintro e w' ⟨rfl, rfl⟩)) | ((go_at_call 71); (with_reducible refine ((l1In_is9 HG4.out) _).mono ?_); (rintro e w' ⟨rfl, rfl⟩)) | ((go_at_call 105); ((with_reducible refine (l8Rising_c n0 r.InSync A2 n2 c2 W0 B Q4.out (by omega)).mono ?_)); (rintro e w5 ⟨hre, hb5⟩); (rw [HG5.out] at hre); (obtain rfl := hre); ((have HB5 := Lib.hid (below_step HBW.out hb5))); ((have HK5 := Lib.hid (HBK.out.bel hb5))); ((have d4 := HK5.out.cell (i := 4) rfl)); ((have d2 := HK5.out.cell (i := 2) rfl)); ((have d0 := HK5.out.cell (i := 0) rfl))) | ((go_at_call 106); ((with_reducible refine (l1Has_c r.InSync r.Leader A2 n2 c2 w5 B (R4.out.keep fun b hb => HB5.out.block b (by omega))).mono ?_)); (rintro e w' ⟨hre, rfl⟩); (rw [HG6.out] at hre); (obtain rfl := hre))))
  clear e0 e1 e2 e3 e4 d0 d2 d4 hb5
  go_loopg [53] n0 (fun gg i wr => ∃ k : Nat, n0 - k ≤ gg ∧ k ≤ n0 ∧ i = .int .i64 k ∧ Hid ((r.Logs.take k).all Pl.entsOk = true) ∧ Hid (Below w5.heap.size w5 wr))
  case atStart => exact ⟨0, Nat.le_refl _, Nat.zero_le _, rfl, rfl, Below.refl _ _⟩
  case round =>
    obtain ⟨k, hgk, hk, rfl, HA, HB⟩ := hrel
    obtain ⟨W, rfl⟩ : ∃ W : World, W = wr := ⟨_, rfl⟩
    have HBX := Lib.hid (below_step HB5.out HB.out)
    have HKX := Lib.hid (HK5.out.bel HB.out)
    have hszx := HBX.out.size
    by_cases hlt : k < n0
    · obtain ⟨x, b, off, AX, nX, cX, hx, rfl, hb, hr, x0⟩ := rEntryS_get (R0.out.keep (w' := W) fun b hb => HBX.out.block b (by omega)) hlt
      have C := GoodEntries_c x AX nX cX W B hr (by omega)
      have HN := Lib.hid (Pl.all_snoc9 (p := Pl.entsOk) hx)
      have HX := Lib.hid hx
      have f1 : (k : Int) < (n0 : Nat) := by omega
      clear hx hr
      obtain ⟨pb, hs⟩ : ∃ pb, Pl.entsOk x = pb := ⟨_, rfl⟩
      rw [hs] at C
      cases pb with
      | true =>
        rw [hs, HA.out] at HN
        clear hs
        go_wp2_with (go_at_call 107; (with_reducible refine C.mono ?_); clear C; rintro e w6 ⟨rfl, hb6⟩)
        go_roundg (n0 - (k + 1))
        case measure => omega
        case rel => exact ⟨k + 1, Nat.le_refl _, by omega, by go_num, HN.out, below_step HB.out hb6⟩
      | false =>
        have HF : Hid (Pl.replOk r = false) := Lib.hid (by
          rw [HOK2.out, show r.Logs.all Pl.entsOk = false from List.all_eq_false.2 ⟨x, List.mem_of_getElem? HX.out, by simp [hs]⟩]; rfl)
        clear hs
        go_wp2_with (go_at_call 107; (with_reducible refine C.mono ?_); clear C; rintro e w6 ⟨rfl, hb6⟩)
        go_ret
        exact ⟨ret_bool HF.out.symm, by first | exact below_step HBX.out hb6 | (rw [← hg0]; exact below_step HBX.out hb6)⟩
    · have HL1 : Hid (r.Logs.all Pl.entsOk = true) := Lib.hid (by rw [← List.take_of_length_le (show r.Logs.length ≤ k by rw [G0.out]; omega)]; exact HA.out)
      have f1 : ¬ (k : Int) < (n0 : Nat) := by omega
      have e4 := HKX.out.cell (i := 4) rfl
      go_wp2
      clear e4
      go_loopg [64] n2 (fun gg i wr => ∃ k : Nat, n2 - k ≤ gg ∧ k ≤ n2 ∧ i = .int .i64 k ∧ Hid ((r.InSync.take k).all (Pl.certP r) = true) ∧ Hid (Below W.heap.size W wr))
      case atStart => exact ⟨0, Nat.le_refl _, Nat.zero_le _, rfl, rfl, Below.refl _ _⟩
      case round =>
        obtain ⟨k2, hgk2, hk2, rfl, HA2, HB2⟩ := hrel
        obtain ⟨V, rfl⟩ : ∃ V : World, V = wr := ⟨_, rfl⟩
        have HBY := Lib.hid (below_step HBX.out HB2.out)
        have HKY := Lib.hid (HKX.out.bel HB2.out)
        have hszy := HBY.out.size
        by_cases hlt2 : k2 < n2
        · obtain ⟨x, b, off, hx, rfl, hb, ix, x0⟩ := int_get (R4.out.keep (w' := V) fun b hb => HBY.out.block b (by omega)) hlt2
          obtain ⟨xx0, xx1⟩ := HIN2.out x (List.mem_of_getElem? hx)
          obtain ⟨b9, off9, AK, nK, cK, rfl, hb9, hlk, ek⟩ := log_at (R0.out.keep (w' := V) fun b hb => HBY.out.block b (by omega)) xx0 xx1
          have y0 := HKY.out.cell (i := 0) rfl
          have y5 := HKY.out.cell (i := 5) rfl
          have hq5 := R5.out.keep (w' := V) fun b hb => HBY.out.block b (by omega)
          have CP := fun z : Und V => und_call z (l9Begins_c (Pl.logAt r x) r.Certain AK nK cK A3 n3 c3 (und V z) B (hlk.und (by omega) z) (hq5.und (by omega) z) (Nat.le_trans (show B ≤ V.heap.size by omega) (und_size z)))
          have HN := Lib.hid (Pl.all_snoc9 (p := Pl.certP r) hx)
          have HX := Lib.hid hx
          have f3 : (k2 : Int) < (n2 : Nat) := by omega
          have hcp : decide (Pl.part (Pl.logAt r x) r.Certain = r.Certain.length) = Pl.certP r x := rfl
          rw [hcp] at CP
          clear hx hlk hq5 hcp ix
          obtain ⟨pb, hs⟩ : ∃ pb, Pl.certP r x = pb := ⟨_, rfl⟩
          rw [hs] at CP
          cases pb with
          | true =>
            rw [hs, HA2.out] at HN
            clear hs
            go_wp2
            refine wp_region_und (by kernel_rfl) (by kernel_rfl) ?_
            repeat (go_big_quiet_step ((first | (go_at_call 108; with_reducible exact CP _))))
            refine wpQuiet_nil ?_
            intro X hX
            clear CP
            go_wp2
            go_roundg (n2 - (k2 + 1))
            case measure => omega
            case rel => exact ⟨k2 + 1, Nat.le_refl _, by omega, by go_num, HN.out, below_step HB2.out hX⟩
          | false =>
            have HF : Hid (Pl.replOk r = false) := Lib.hid (by
              rw [HOK2.out, HL1.out, show r.InSync.all (Pl.certP r) = false from List.all_eq_false.2 ⟨x, List.mem_of_getElem? HX.out, by simp [hs]⟩]; rfl)
            clear hs
            go_wp2
            refine wp_region_und (by kernel_rfl) (by kernel_rfl) ?_
            repeat (go_big_quiet_step ((first | (go_at_call 108; with_reducible exact CP _))))
            refine wpQuiet_nil ?_
            intro X hX
            clear CP
            go_wp2
            go_ret
            exact ⟨ret_bool HF.out.symm, by first | exact below_step HBY.out hX | (rw [← hg0]; exact below_step HBY.out hX)⟩
        · have HF : Hid (Pl.replOk r = true) := Lib.hid (by
            rw [HOK2.out, HL1.out, ← List.take_of_length_le (show r.InSync.length ≤ k2 by rw [G4.out]; omega), HA2.out]; rfl)
          have f3 : ¬ (k2 : Int) < (n2 : Nat) := by omega
          go_wp2
          go_ret
          exact ⟨ret_bool HF.out.symm, by first | exact HBY.out | (rw [← hg0]; exact HBY.out)⟩
end Go.Proofs.Ytihendiakgfpcaa

/-
  Slices of slices that are cloned row by row: first the headers alone are copied, then each row is replaced by its clone. No program in sight. No conditions.
-/
namespace Go.Proofs.Ytihendiakgfpcaa
open Go.RowKit
namespace Mm
abbrev Hdr := Option Addr × Nat × Nat
def hval (h : Hdr) : Value := .slice h.1 h.2.1 h.2.2
def hdr : Rep Hdr := flat 1 (fun h => [hval h]) (fun _ => True) (fun _ => rfl) (fun _ u hu => by rw [List.mem_singleton.1 hu]; rfl)
theorem flat_hdr : Flat hdr (fun h => [hval h]) := ⟨fun h => h.1, fun h w' => ⟨rfl, trivial, rfl⟩⟩
theorem flatN_hdr : FlatN hdr (fun h => [hval h]) := ⟨by decide, fun h => by
  obtain ⟨rfl, h1, rfl⟩ := h
  exact ⟨rfl, rfl, fun w' => ⟨rfl, trivial, rfl⟩⟩⟩
/-- a row of the call's own, or a header alone -/
def orv {α : Type} (E : Rep α) (e : TypeId) : Rep (List α ⊕ Hdr) where
  size := 1
  at_ := fun w B x cs => match x with
    | .inl xs => (slice E e).at_ w B xs cs
    | .inr h => cs = [hval h]
  own := fun w x cs fp => match x with
    | .inl xs => (slice E e).own w xs cs fp
    | .inr h => cs = [hval h] ∧ fp = []
  len := fun {w B x cs} h => by
    cases x with
    | inl xs => exact (slice E e).len h
    | inr y => rw [show cs = [hval y] from h]; rfl
  olen := fun {w x cs fp} h => by
    cases x with
    | inl xs => exact (slice E e).olen h
    | inr y => rw [show cs = [hval y] from h.1]; rfl
  one := fun {w x cs fp} h u hu => by
    cases x with
    | inl xs => exact (slice E e).one h u hu
    | inr y => rw [show cs = [hval y] from h.1] at hu; rw [List.mem_singleton.1 hu]; rfl
  keep := fun {w w' B x cs} h k => by
    cases x with
    | inl xs => exact (slice E e).keep h k
    | inr y => exact h
  more := fun {w B B' x cs} h k => by
    cases x with
    | inl xs => exact (slice E e).more h k
    | inr y => exact h
  okeep := fun {w w' x cs fp} h k => by
    cases x with
    | inl xs => exact (slice E e).okeep h k
    | inr y => exact h
  olt := fun {w x cs fp} h b hb => by
    cases x with
    | inl xs => exact (slice E e).olt h b hb
    | inr y => rw [show fp = [] from h.2] at hb; cases hb
  weak := fun {w B x cs fp} h k => by
    cases x with
    | inl xs => exact (slice E e).weak h k
    | inr y => exact h.1
section
variable {α : Type} {E : Rep α} {e e2 : TypeId} {w : World} {B : Nat} {v : Value} {fp : List Nat}
theorem orv_start {hs : List Hdr} (h : SlOwn hdr e2 w hs v fp) : SlOwn (orv E e) e2 w (hs.map .inr) v fp := by
  obtain ⟨es, he, ho, rfl⟩ := h
  refine ⟨es, ⟨by rw [List.length_map]; exact he.1, fun i x y hx hy => ?_⟩, by rw [List.length_map]; exact ho, rfl⟩
  rw [List.getElem?_map] at hx
  cases hh : hs[i]? with
  | none => rw [hh] at hx; cases hx
  | some h =>
    rw [hh] at hx
    injection hx with hx
    subst hx
    have := he.2 i h y hh hy
    exact ⟨this.1, this.2.2⟩
theorem orv_end {xs : List (List α)} (h : SlOwn (orv E e) e2 w (xs.map .inl) v fp) : SlOwn (slice E e) e2 w xs v fp := by
  obtain ⟨es, he, ho, rfl⟩ := h
  refine ⟨es, ⟨by rw [he.1, List.length_map], fun i x y hx hy => ?_⟩, by rw [List.length_map] at ho; exact ho, rfl⟩
  exact he.2 i (.inl x) y (by rw [List.getElem?_map, hx]; rfl) hy
/-- the headers of a slice of slices that is read -/
theorem hdrs {xs : List (List α)} {A : Option Addr} {n c : Nat} (h : SlAt (slice E e) w B xs A n c) : ∃ hs : List Hdr, SlAt hdr w B hs A n c ∧ ∀ (k : Nat) (x : List α), xs[k]? = some x → ∃ y, hs[k]? = some y ∧ SlAt E w B x y.1 y.2.1 y.2.2 := by
  have key : ∀ k : Nat, ∃ y : Hdr, ∀ x, xs[k]? = some x → ∃ b off, A = some ⟨b, off, none⟩ ∧ b < B ∧ SlAt E w B x y.1 y.2.1 y.2.2 ∧ w.cell? ⟨b, off + k, none⟩ = some (hval y) := fun k => by
    cases hx : xs[k]? with
    | none => exact ⟨(none, 0, 0), fun x h => by cases h⟩
    | some x =>
      obtain ⟨b, off, cs, hA, hb, ⟨A', n', c', rfl, ha⟩, hc⟩ := h.2.2.2.2 k x hx
      refine ⟨(A', n', c'), fun x' hx' => ?_⟩
      injection hx' with hx'
      subst hx'
      refine ⟨b, off, hA, hb, ha, ?_⟩
      have := hc 0 _ rfl
      rw [show (slice E e).size = 1 from rfl, Nat.mul_one, Nat.add_zero] at this
      exact this
  obtain ⟨f, hf⟩ := Classical.axiomOfChoice key
  refine ⟨(List.range n).map f, ⟨by simp, h.2.1, h.2.2.1, h.2.2.2.1, fun i y hy => ?_⟩, fun k x hx => ?_⟩
  · rw [List.getElem?_map] at hy
    have hi : i < n := by
      rcases Nat.lt_or_ge i n with h1 | h1
      · exact h1
      · rw [List.getElem?_eq_none (by simpa using h1)] at hy; cases hy
    rw [List.getElem?_range hi] at hy
    injection hy with hy
    subst hy
    have hl : i < xs.length := by rw [h.1]; exact hi
    obtain ⟨b, off, hA, hb, ha, hc⟩ := hf i _ (List.getElem?_eq_getElem hl)
    refine ⟨b, off, [hval (f i)], hA, hb, ⟨rfl, trivial⟩, fun j u hj => ?_⟩
    cases j with
    | zero =>
      injection hj with hj
      subst hj
      rw [show hdr.size = 1 from rfl, Nat.mul_one, Nat.add_zero]
      exact hc
    | succ j => simp at hj
  · have hk : k < n := by rw [← h.1]; exact (List.getElem?_eq_some_iff.1 hx).1
    obtain ⟨b, off, hA, hb, ha, hc⟩ := hf k x hx
    exact ⟨f k, by rw [List.getElem?_map, List.getElem?_range hk]; rfl, ha⟩
/-- row k, a header alone, becomes a row of the call's own -/
theorem SepF.rowIn {F : List Nat} {w0 wr : World} {ts : List Thing} {ys : List (List α ⊕ Hdr)} {g n c k : Nat} {z : List α ⊕ Hdr} {xs : List α} {A : Option Addr} {m d : Nat} {fx : List Nat} (h : SepF F w0 wr (tsl E e xs (.slice A m d) fx :: tsl (orv E e) e2 ys (.slice (some ⟨g, 0, none⟩) n c) fp :: ts)) (hk : ys[k]? = some z) :
    ∃ fp', SepF F w0 (wr.setCell ⟨g, k, none⟩ (.slice A m d)) (tsl (orv E e) e2 (ys.set k (.inl xs)) (.slice (some ⟨g, 0, none⟩) n c) fp' :: ts) := by
  have ho : SlOwn (orv E e) e2 wr ys (.slice (some ⟨g, 0, none⟩) n c) fp := h.at_ 1 rfl
  have hx : SlOwn E e wr xs (.slice A m d) fx := h.at_ 0 rfl
  have hnx : fx.Nodup := h.ndat (i := 0) rfl
  have hap : ∀ b, b ∈ fx → b ∉ fp := h.apart (i := 0) (j := 1) rfl rfl (by decide)
  have hgf : g ∈ fp := ho.mem_block
  have hown : (orv E e).own wr (.inl xs) [.slice A m d] fx := ⟨_, rfl, hx⟩
  have hkl : k < ys.length := (List.getElem?_eq_some_iff.1 hk).1
  obtain ⟨fp', h1, h2, h3⟩ := ho.set (i := k) hkl hown (h.ndat (i := 1) rfl) hnx (fun b hb hm => hap b hb hm)
  rw [show (orv E e).size = 1 from rfl, Nat.mul_one] at h1
  refine ⟨fp', ?_⟩
  have h4 := h.upd2 (i := 1) (j := 0) (by decide) rfl rfl (W := wr.setCell ⟨g, k, none⟩ (.slice A m d)) (t' := tsl (orv E e) e2 (ys.set k (.inl xs)) (.slice (some ⟨g, 0, none⟩) n c) fp') ((Chg.refl _ _).setCell (List.mem_append_left _ hgf) _) h1 h2 (fun b hb => by
    rcases h3 b hb with h | h
    · exact .inl h
    · exact .inr (.inl h))
  exact h4.tail
end
end Mm
end Go.Proofs.Ytihendiakgfpcaa

/-
  Contracts: the program's copy of a replication (chapter 9). No conditions beyond those named.
-/
namespace Go.Proofs.Ytihendiakgfpcaa
open Go.RowKit
attribute [local go_sem] und_cell cha_cell World.cell?_alloc_some
def Mm.encH9 (h : Mm.Hdr) : List Value := [Mm.hval h]
def Mm.encB (x : Bool) : List Value := [.bool x]
theorem Mm.flatA_b : Mm.Flat Mm.bool Mm.encB := ⟨fun h => h.1, fun h _ => ⟨rfl, h.2, rfl⟩⟩
theorem Try.info_clBool : (Try.prog.info? 4).map (fun i => (i.zero, i.size, i.bytes)) = some (some (.bool false), 1, 1) := by kernel_rfl
set_option maxRecDepth 100000 in
set_option maxHeartbeats 1000000 in
theorem clBool_c (l : List Bool) (A : Option Addr) (n c : Nat) (w : World) (B : Nat) (hl : Mm.SlAt Mm.bool w B l A n c) (hn : n ≤ 1048576) :
    Calls Try.prog 102 #[.slice A n c] w (Mm.NewSl Mm.bool 4 w l) := by
  have hlen := Lib.hid hl.1
  have hcap := hl.2.1
  have hq : ∀ (w : World) (a : Option Addr) (n c n' c' : Nat), (binOp .eql 27 (.slice a n c) (.slice none n' c')).run Try.prog w = .ok (.bool a.isNone) w := fun w a n c n' c' => Lib.run_eql_slice_nil w _ _ a n c n' c' Try.underlying27
  cases A with
  | none =>
    have hc : c = 0 := hl.2.2.2.1 rfl
    have hl0 : l = [] := List.length_eq_zero_iff.1 (by rw [hlen.out]; omega)
    subst hl0
    clear hl
    go_enter Try.func102, Try.ntmps102
    go_wp2
    go_ret
    exact (Mm.Acc.nil (Below.refl _ _)).newsl
  | some a =>
    have HC := Lib.hid (Mm.flat_cells' (E := Mm.bool) (enc := Mm.encB) (fun x cs h => (Mm.flatA_b).at_ h) hl)
    have HLN := Lib.hid (Mm.flat_len (E := Mm.bool) (enc := Mm.encB) (fun x cs h => (Mm.flatA_b).at_ h) hl)
    have HOK : Hid (∀ (w' : World) x, x ∈ l → (Mm.bool).own w' x ((Mm.encB) x) []) := fun w' x hx => by
      obtain ⟨i, hi, rfl⟩ := List.mem_iff_getElem.1 hx
      obtain ⟨y, b, off, cs, hy, _, _, ha, _⟩ := hl.get (k := i) (by rw [← hlen.out]; exact hi)
      rw [List.getElem?_eq_getElem hi] at hy
      injection hy with hy
      subst hy
      exact (Mm.flatA_b).own ha w'
    have H1 : Hid (∀ u : Value, u ∈ l.flatMap Mm.encB → u.oneCell' = true) := fun u hu => by
      obtain ⟨x, hx, hu⟩ := List.mem_flatMap.1 hu
      exact (Mm.bool).one (HOK.out w x hx) u hu
    clear hl
    obtain ⟨i0, hi, hz0, hz1, hz2⟩ := info_parts Try.info_clBool
    go_enter Try.func102, Try.ntmps102
    go_wp2_with (at_builtin; refine wpList_append_own_at _ rfl _ _ 27 rfl w.heap.size 4 i0 (.bool false) 1 1 Try.underlying27 hi hz0 hz1 hz2 rfl (by decide) _ _ _ rfl (World.ownsRow_made w #[] 0 (Nat.le_refl _) (Nat.zero_le _) rfl) a n c (l.flatMap Mm.encB) rfl HLN.out (fun j u hj => Lib.cell?_alloc_some _ (HC.out j u hj)) H1.out (by unfold maxLen; omega) (by omega) (by simp) ?_; intro v' w1 hown hgrow hnil hat)
    have HA := Lib.hid (Mm.clone_post (E := Mm.bool) (e := 4) (Nat.zero_add _) (List.nil_append _) hown hgrow (fun x hx => HOK.out _ x hx) hlen.out)
    clear hown hgrow hat hnil
    go_wp2
    go_ret
    exact HA.out.newsl
theorem Try.info_clEntS : (Try.prog.info? 29).map (fun i => (i.zero, i.size, i.bytes)) = some (some (.slice none 0 0), 1, 24) := by kernel_rfl
set_option maxRecDepth 100000 in
set_option maxHeartbeats 1000000 in
theorem clEntS_c (l : List Mm.Hdr) (A : Option Addr) (n c : Nat) (w : World) (B : Nat) (hl : Mm.SlAt Mm.hdr w B l A n c) (hn : n ≤ 1048576) :
    Calls Try.prog 104 #[.slice A n c] w (Mm.NewSl Mm.hdr 29 w l) := by
  have hlen := Lib.hid hl.1
  have hcap := hl.2.1
  have hq : ∀ (w : World) (a : Option Addr) (n c n' c' : Nat), (binOp .eql 26 (.slice a n c) (.slice none n' c')).run Try.prog w = .ok (.bool a.isNone) w := fun w a n c n' c' => Lib.run_eql_slice_nil w _ _ a n c n' c' Try.underlying26
  cases A with
  | none =>
    have hc : c = 0 := hl.2.2.2.1 rfl
    have hl0 : l = [] := List.length_eq_zero_iff.1 (by rw [hlen.out]; omega)
    subst hl0
    clear hl
    go_enter Try.func104, Try.ntmps104
    go_wp2
    go_ret
    exact (Mm.Acc.nil (Below.refl _ _)).newsl
  | some a =>
    have HC := Lib.hid (Mm.flat_cells' (E := Mm.hdr) (enc := Mm.encH9) (fun x cs h => (Mm.flat_hdr).at_ h) hl)
    have HLN := Lib.hid (Mm.flat_len (E := Mm.hdr) (enc := Mm.encH9) (fun x cs h => (Mm.flat_hdr).at_ h) hl)
    have HOK : Hid (∀ (w' : World) x, x ∈ l → (Mm.hdr).own w' x ((Mm.encH9) x) []) := fun w' x hx => by
      obtain ⟨i, hi, rfl⟩ := List.mem_iff_getElem.1 hx
      obtain ⟨y, b, off, cs, hy, _, _, ha, _⟩ := hl.get (k := i) (by rw [← hlen.out]; exact hi)
      rw [List.getElem?_eq_getElem hi] at hy
      injection hy with hy
      subst hy
      exact (Mm.flat_hdr).own ha w'
    have H1 : Hid (∀ u : Value, u ∈ l.flatMap Mm.encH9 → u.oneCell' = true) := fun u hu => by
      obtain ⟨x, hx, hu⟩ := List.mem_flatMap.1 hu
      exact (Mm.hdr).one (HOK.out w x hx) u hu
    clear hl
    obtain ⟨i0, hi, hz0, hz1, hz2⟩ := info_parts Try.info_clEntS
    go_enter Try.func104, Try.ntmps104
    go_wp2_with (at_builtin; refine wpList_append_own_at _ rfl _ _ 26 rfl w.heap.size 29 i0 (.slice none 0 0) 1 24 Try.underlying26 hi hz0 hz1 hz2 rfl (by decide) _ _ _ rfl (World.ownsRow_made w #[] 0 (Nat.le_refl _) (Nat.zero_le _) rfl) a n c (l.flatMap Mm.encH9) rfl HLN.out (fun j u hj => Lib.cell?_alloc_some _ (HC.out j u hj)) H1.out (by unfold maxLen; omega) (by omega) (by simp) ?_; intro v' w1 hown hgrow hnil hat)
    have HA := Lib.hid (Mm.clone_post (E := Mm.hdr) (e := 29) (Nat.zero_add _) (List.nil_append _) hown hgrow (fun x hx => HOK.out _ x hx) hlen.out)
    clear hown hgrow hat hnil
    go_wp2
    go_ret
    exact HA.out.newsl
set_option maxRecDepth 100000 in
set_option maxHeartbeats 2000000 in
theorem cloneRepl_c (r : Repl) (cs : List Value) (w : World) (B : Nat) (hh : rRepl.at_ w B r cs) (hB : B ≤ w.heap.size) (hz : Pl.RZ r) (h1 : 1 ≤ r.Logs.length) :
    Calls Try.prog 67 #[.agg cs.toArray] w (Mm.NewAg rRepl w r) := by
  obtain ⟨A0, n0, c0, A1, n1, c1, A2, n2, c2, A3, n3, c3, rfl, r0, r1, i2, i3, r2, r3⟩ := rRepl_at hh
  have z0 := hz.logs
  have z1 := hz.down
  have z2 := hz.sync
  have z3 := hz.cert
  have HZL := Lib.hid hz.len
  rw [r0.1] at z0 h1
  rw [r1.1] at z1
  rw [r2.1] at z2
  rw [r3.1] at z3
  have HI := Lib.hid (And.intro i2 i3)
  obtain ⟨hs, rh, hin⟩ := Mm.hdrs r0
  have G0 := Lib.hid r0.1
  have GH := Lib.hid rh.1
  have HIN := Lib.hid hin
  have RH := Lib.hid rh
  have KS0 := Lib.hid (((Mm.SepF.start w).alloc' rfl 31 [.slice A0 n0 c0, .slice A1 n1 c1, .int .i64 r.Leader, .int .i64 r.Epoch, .slice A2 n2 c2, .slice A3 n3 c3]).alloc' (Mm.sz1 _ _) 31 zRepl)
  have R1 := Lib.hid r1
  have R2 := Lib.hid r2
  have R3 := Lib.hid r3
  clear hh hz r0 r1 r2 r3 rh hin i2 i3
  go_enter Try.func67, Try.ntmps67
  go_upto_region 1 with fail
  obtain ⟨ga, hga⟩ : ∃ ga, w.heap.size = ga := ⟨_, rfl⟩
  obtain ⟨gr, hgr⟩ : ∃ gr, ga + 1 = gr := ⟨_, rfl⟩
  obtain ⟨W0, hW0⟩ : ∃ W0, (w.alloc (.cells #[.slice A0 n0 c0, .slice A1 n1 c1, .int .i64 r.Leader, .int .i64 r.Epoch, .slice A2 n2 c2, .slice A3 n3 c3] 31)).alloc (.cells #[.slice none 0 0, .slice none 0 0, .int .i64 0, .int .i64 0, .slice none 0 0, .slice none 0 0] 31) = W0 := ⟨_, rfl⟩
  replace KS0 := Lib.hid (KS0.out.atW hW0)
  rw [hga] at KS0
  rw [hgr] at KS0
  rw [hW0, hga, hgr]
  have HGA := Lib.hid hga
  have HBW := Lib.hid (show B ≤ ga from by omega)
  have hsz0 : ga ≤ W0.heap.size := by have := KS0.out.bel0.size; omega
  have S1 := Lib.hid (R1.out.keep (w' := W0) fun b hb => KS0.out.bel0.block b (by have := HBW.out; have := HGA.out; omega))
  have S2 := Lib.hid (R2.out.keep (w' := W0) fun b hb => KS0.out.bel0.block b (by have := HBW.out; have := HGA.out; omega))
  have S3 := Lib.hid (R3.out.keep (w' := W0) fun b hb => KS0.out.bel0.block b (by have := HBW.out; have := HGA.out; omega))
  have hBW0 : B ≤ W0.heap.size := by have := HBW.out; omega
  clear hW0 hgr hga hB
  have d0 := KS0.out.cell (k := 0) 1 rfl rfl
  have d1 := KS0.out.cell (k := 1) 1 rfl rfl
  have d2 := KS0.out.cell (k := 2) 1 rfl rfl
  have d3 := KS0.out.cell (k := 3) 1 rfl rfl
  have d4 := KS0.out.cell (k := 4) 1 rfl rfl
  have d5 := KS0.out.cell (k := 5) 1 rfl rfl
  refine Mm.wp_region_give 10 (fun i => match i with | 2 => some (Mm.gSl Mm.bool 4 r.Down) | 5 => some (Mm.gSl Mm.int 3 r.InSync) | 8 => some (Mm.gSl rEntry 111 r.Certain) | _ => none) (fun _ => []) (fun _ => []) (F := []) (D := fun w' => ∃ x : Und W0, w' = und W0 x) (fun X us h => Mm.sep_und h) (by kernel_rfl) (by kernel_rfl) (by kernel_rfl) (Mm.SepF.startDrew _) ?_
  repeat (refine Mm.give_det (by rfl) (by rfl) (by rfl) (fun K hK => ?_); go_big_quiet_op; refine hK _ ?_; clear hK K)
  refine Mm.give_op0 8 (by rfl) rfl (by rfl) (by rfl) (by rfl) (by rfl) Mm.gSl_in (fun others X hX => ?_) ?_
  · go_wp2_with (go_at_call 102; refine (clBool_c r.Down _ _ _ X B (S1.out.keep (fun b hb => hX.bel0.block b (by omega))) (by omega)).mono ?_; rintro e w5 ⟨A5, n5, c5, f5, rfl, ho, hnd, hnew, hb5⟩)
    exact Mm.gvq_sl hX hb5 ho hnd hnew rfl rfl
  rintro v ds ⟨a1, q1, k1, f1, rfl, rfl, e1⟩
  simp only [Act.put, List.setIfInBounds_toArray, List.set_cons_succ, List.set_cons_zero]
  repeat (refine Mm.give_det (by rfl) (by rfl) (by rfl) (fun K hK => ?_); go_big_quiet_op; refine hK _ ?_; clear hK K)
  refine Mm.give_op0 11 (by rfl) rfl (by rfl) (by rfl) (by rfl) (by rfl) Mm.gSl_in (fun others X hX => ?_) ?_
  · go_wp2_with (go_at_call 103; refine (clInt_c r.InSync _ _ _ X B (S2.out.keep (fun b hb => hX.bel0.block b (by omega))) (by omega)).mono ?_; rintro e w5 ⟨A5, n5, c5, f5, rfl, ho, hnd, hnew, hb5⟩)
    exact Mm.gvq_sl hX hb5 ho hnd hnew rfl rfl
  rintro v ds ⟨a2, q2, k2, f2, rfl, rfl, e2⟩
  simp only [Act.put, List.setIfInBounds_toArray, List.set_cons_succ, List.set_cons_zero]
  repeat (refine Mm.give_det (by rfl) (by rfl) (by rfl) (fun K hK => ?_); go_big_quiet_op; refine hK _ ?_; clear hK K)
  refine Mm.give_op0 14 (by rfl) rfl (by rfl) (by rfl) (by rfl) (by rfl) Mm.gSl_in (fun others X hX => ?_) ?_
  · go_wp2_with (go_at_call 90; refine (clEnt_c r.Certain _ _ _ X B (S3.out.keep (fun b hb => hX.bel0.block b (by omega))) (by omega)).mono ?_; rintro e w5 ⟨A5, n5, c5, f5, rfl, ho, hnd, hnew, hb5⟩)
    exact Mm.gvq_sl hX hb5 ho hnd hnew rfl rfl
  rintro v ds ⟨a3, q3, k3, f3, rfl, rfl, e3⟩
  simp only [Act.put, List.setIfInBounds_toArray, List.set_cons_succ, List.set_cons_zero]
  repeat (refine Mm.give_det (by rfl) (by rfl) (by rfl) (fun K hK => ?_); go_big_quiet_op; refine hK _ ?_; clear hK K)
  refine Mm.give_nil ?_
  rintro X hX
  have HX := Lib.hid (KS0.out.join (us := [Mm.tsl Mm.bool 4 r.Down (.slice a1 q1 k1) f1, Mm.tsl Mm.int 3 r.InSync (.slice a2 q2 k2) f2, Mm.tsl rEntry 111 r.Certain (.slice a3 q3 k3) f3]) hX)
  clear hX d0 d1 d2 d3 d4 d5
  have r0 := HX.out.cell (k := 0) 4 rfl rfl
  have r1 := HX.out.cell (k := 1) 4 rfl rfl
  have r2 := HX.out.cell (k := 2) 4 rfl rfl
  have r3 := HX.out.cell (k := 3) 4 rfl rfl
  have r4 := HX.out.cell (k := 4) 4 rfl rfl
  have r5 := HX.out.cell (k := 5) 4 rfl rfl
  have z0 := HX.out.frz (k := 0) 4 rfl
  have z1 := HX.out.frz (k := 1) 4 rfl
  have z2 := HX.out.frz (k := 2) 4 rfl
  have z3 := HX.out.frz (k := 3) 4 rfl
  have z4 := HX.out.frz (k := 4) 4 rfl
  have z5 := HX.out.frz (k := 5) 4 rfl
  have HX2 := Lib.hid (((HX.out.setBlk (k := 1) 4 rfl (.slice a1 q1 k1)).setBlk (k := 4) 4 rfl (.slice a2 q2 k2)).setBlk (k := 5) 4 rfl (.slice a3 q3 k3))
  go_upto_region 2 with fail
  clear r0 r1 r2 r3 r4 r5 z0 z1 z2 z3 z4 z5
  obtain ⟨W1, hW1⟩ : ∃ W1, ((X.setCell ⟨ga, 1, none⟩ (.slice a1 q1 k1)).setCell ⟨ga, 4, none⟩ (.slice a2 q2 k2)).setCell ⟨ga, 5, none⟩ (.slice a3 q3 k3) = W1 := ⟨_, rfl⟩
  rw [hW1] at HX2 ⊢
  clear hW1
  have d0 := HX2.out.cell (k := 0) 4 rfl rfl
  have d1 := HX2.out.cell (k := 1) 4 rfl rfl
  have d2 := HX2.out.cell (k := 2) 4 rfl rfl
  have d3 := HX2.out.cell (k := 3) 4 rfl rfl
  have d4 := HX2.out.cell (k := 4) 4 rfl rfl
  have d5 := HX2.out.cell (k := 5) 4 rfl rfl
  go_wp2_with (go_at_call 104; refine (clEntS_c hs _ _ _ W1 B (RH.out.keep fun b hb => HX2.out.bel0.block b (by have := HBW.out; have := HGA.out; omega)) (by omega)).mono ?_; rintro e w1 ⟨A5, n5, c5, f5, rfl, ho, hnd, hnew, hb5⟩; (have KS1 := Lib.hid (HX2.out.add hb5 (t := Mm.tsl (Mm.orv rEntry 111) 29 (hs.map .inr) (.slice A5 n5 c5) f5) (Mm.orv_start ho) hnd hnew)); clear ho hnd hnew hb5)
  obtain ⟨g5, rfl, -, hn5⟩ := Mm.sl_addr (KS1.out.sl 0 rfl) (by rw [List.length_map, GH.out]; omega)
  rw [List.length_map, GH.out] at hn5
  subst hn5
  have hcap : n5 ≤ c5 ∧ c5 ≤ maxLen := by obtain ⟨A', n', c', hv, h1, h2, h3, _⟩ := (KS1.out.sl 0 rfl).form; injection hv with _ h4 h5; omega
  unfold maxLen at hcap
  clear d0 d1 d2 d3 d4 d5
  go_loopg [23] n5 (fun g i wr => ∃ (k : Nat) (fp : List Nat), n5 - k ≤ g ∧ k ≤ n5 ∧ i = .int .i64 k ∧ Hid (Mm.SepF [] w wr [Mm.tsl (Mm.orv rEntry 111) 29 ((r.Logs.take k).map .inl ++ (hs.drop k).map .inr) (.slice (some ⟨g5, 0, none⟩) n5 c5) fp, Mm.tsl Mm.bool 4 r.Down (.slice a1 q1 k1) f1, Mm.tsl Mm.int 3 r.InSync (.slice a2 q2 k2) f2, Mm.tsl rEntry 111 r.Certain (.slice a3 q3 k3) f3, Mm.tblk gr 31 zRepl, Mm.tblk ga 31 [.slice A0 n5 c0, .slice a1 q1 k1, .int .i64 r.Leader, .int .i64 r.Epoch, .slice a2 q2 k2, .slice a3 q3 k3]]))
  case atStart => exact ⟨0, f5, Nat.le_refl _, Nat.zero_le _, rfl, Lib.hid (by rw [List.take_zero, List.drop_zero]; exact KS1.out)⟩
  case round =>
    clear KS1
    obtain ⟨k, fp, hgk, hk, rfl, HS⟩ := hrel
    obtain ⟨Wr, rfl⟩ : ∃ Wr : World, Wr = wr := ⟨_, rfl⟩
    by_cases hlt : k < n5
    · obtain ⟨l, hx⟩ : ∃ l, r.Logs[k]? = some l := ⟨_, List.getElem?_eq_getElem (show k < r.Logs.length by rw [G0.out]; exact hlt)⟩
      obtain ⟨⟨A6, n6, c6⟩, hy, hl⟩ := HIN.out k l hx
      dsimp only at hl
      have hn20 := HZL.out k l hx
      rw [hl.1] at hn20
      have hlen : ((r.Logs.take k).map (Sum.inl (β := Mm.Hdr))).length = k := by rw [List.length_map, List.length_take, G0.out]; omega
      have hz : ((r.Logs.take k).map .inl ++ (hs.drop k).map .inr : List (List Entry ⊕ Mm.Hdr))[k]? = some (.inr (A6, n6, c6)) := by
        rw [List.getElem?_append_right (by rw [hlen]; exact Nat.le_refl _), hlen, Nat.sub_self, List.getElem?_map, List.getElem?_drop, Nat.add_zero, hy]; rfl
      have hset : ((r.Logs.take k).map .inl ++ (hs.drop k).map .inr : List (List Entry ⊕ Mm.Hdr)).set k (.inl l) = (r.Logs.take (k + 1)).map .inl ++ (hs.drop (k + 1)).map .inr := by
        have hd : hs.drop k = (A6, n6, c6) :: hs.drop (k + 1) := by
          obtain ⟨hi, he⟩ := List.getElem?_eq_some_iff.1 hy
          rw [List.drop_eq_getElem_cons hi, he]
        rw [List.set_append_right _ _ (by rw [hlen]; exact Nat.le_refl _), hlen, Nat.sub_self, hd, List.map_cons, List.set_cons_zero, Mm.take_succ_some hx, List.map_append, List.append_assoc]
        rfl
      have HZ := Lib.hid hz
      have HSET := Lib.hid hset
      have HL := Lib.hid (hl.keep (w' := Wr) fun b hb => HS.out.bel0.block b (by have := HBW.out; have := HGA.out; omega))
      have e0 : Wr.cell? ⟨g5, k, none⟩ = some (.slice A6 n6 c6) := by
        have h1 : Mm.SlOwn (Mm.orv rEntry 111) 29 Wr _ _ fp := HS.out.at_ 0 rfl
        obtain ⟨cs, fx, ho, -, -, hc, -⟩ := h1.inner (HS.out.ndat (i := 0) rfl) HZ.out
        have h2 := hc 0 (.slice A6 n6 c6) (by rw [show cs = [Mm.hval (A6, n6, c6)] from ho.1]; rfl)
        rw [show (Mm.orv rEntry 111).size = 1 from rfl, Nat.mul_one, Nat.add_zero] at h2
        exact h2
      have z0' := (show Mm.SlOwn (Mm.orv rEntry 111) 29 Wr _ _ fp from HS.out.at_ 0 rfl).frozen k
      have f1 : ((k : Nat) : Int) < ((n5 : Nat) : Int) := by omega
      have f2 : (0 : Int) ≤ (k : Nat) := by omega
      have f3 : ((k : Nat) : Int).toNat = k := by omega
      clear hx hy hl hz hset hlen
      go_wp2_with (go_at_call 90; refine (clEnt_c l _ _ _ Wr B HL.out (by omega)).mono ?_; rintro e w5 ⟨A7, n7, c7, f7, rfl, ho, hnd, hnew, hb5⟩; (have HS1 := Lib.hid (HS.out.add hb5 (t := Mm.tsl rEntry 111 l (.slice A7 n7 c7) f7) ho hnd hnew)); clear ho hnd hnew; obtain ⟨fp', hs2⟩ := HS1.out.rowIn HZ.out; rw [HSET.out] at hs2; (have HS2 := Lib.hid hs2); clear hs2; replace e0 := below_some hb5 e0; (have z0' := (show Mm.SlOwn (Mm.orv rEntry 111) 29 w5 _ _ fp from HS1.out.at_ 1 rfl).frozen k); clear hb5)
      go_roundg (n5 - (k + 1))
      case measure => omega
      case rel => exact ⟨k + 1, fp', Nat.le_refl _, by omega, by go_num, HS2.out⟩
    · obtain rfl : n5 = k := by omega
      have hE : (r.Logs.take n5).map .inl ++ (hs.drop n5).map .inr = (r.Logs.map .inl : List (List Entry ⊕ Mm.Hdr)) := by
        rw [List.take_of_length_le (by rw [G0.out]; exact Nat.le_refl _), List.drop_eq_nil_of_le (by rw [GH.out]; exact Nat.le_refl _)]; simp
      rw [hE] at HS
      have HS1 : Hid (Mm.SepF [] w Wr [Mm.tsl rEntryS 29 r.Logs (.slice (some ⟨g5, 0, none⟩) n5 c5) fp, Mm.tsl Mm.bool 4 r.Down (.slice a1 q1 k1) f1, Mm.tsl Mm.int 3 r.InSync (.slice a2 q2 k2) f2, Mm.tsl rEntry 111 r.Certain (.slice a3 q3 k3) f3, Mm.tblk gr 31 zRepl, Mm.tblk ga 31 [.slice A0 n5 c0, .slice a1 q1 k1, .int .i64 r.Leader, .int .i64 r.Epoch, .slice a2 q2 k2, .slice a3 q3 k3]]) := Lib.hid (HS.out.conv (List.Perm.refl _) (List.forall_mem_cons.2 ⟨Mm.orv_end (HS.out.at_ 0 rfl), fun u hu => HS.out.hold u (List.mem_cons_of_mem _ hu)⟩))
      have s0 := HS1.out.cell (k := 0) 5 rfl rfl
      have p0 := HS1.out.frz (k := 0) 5 rfl
      have HS2 := Lib.hid (HS1.out.setBlk (k := 0) 5 rfl (.slice (some ⟨g5, 0, none⟩) n5 c5))
      clear hE
      go_upto_region 9 with fail
      clear s0 p0
      obtain ⟨XT, hXT⟩ : ∃ XT, Wr.setCell ⟨ga, 0, none⟩ (.slice (some ⟨g5, 0, none⟩) n5 c5) = XT := ⟨_, rfl⟩
      rw [hXT] at HS2 ⊢
      clear hXT
      have d0 := HS2.out.cell (k := 0) 5 rfl rfl
      have d1 := HS2.out.cell (k := 1) 5 rfl rfl
      have d2 := HS2.out.cell (k := 2) 5 rfl rfl
      have d3 := HS2.out.cell (k := 3) 5 rfl rfl
      have d4 := HS2.out.cell (k := 4) 5 rfl rfl
      have d5 := HS2.out.cell (k := 5) 5 rfl rfl
      have r0 := HS2.out.cell (k := 0) 4 rfl rfl
      have r1 := HS2.out.cell (k := 1) 4 rfl rfl
      have r2 := HS2.out.cell (k := 2) 4 rfl rfl
      have r3 := HS2.out.cell (k := 3) 4 rfl rfl
      have r4 := HS2.out.cell (k := 4) 4 rfl rfl
      have r5 := HS2.out.cell (k := 5) 4 rfl rfl
      have z0 := HS2.out.frz (k := 0) 4 rfl
      have z1 := HS2.out.frz (k := 1) 4 rfl
      have z2 := HS2.out.frz (k := 2) 4 rfl
      have z3 := HS2.out.frz (k := 3) 4 rfl
      have z4 := HS2.out.frz (k := 4) 4 rfl
      have z5 := HS2.out.frz (k := 5) 4 rfl
      have HSF := Lib.hid ((((((HS2.out.setBlk (k := 0) 4 rfl (.slice (some ⟨g5, 0, none⟩) n5 c5)).setBlk (k := 1) 4 rfl (.slice a1 q1 k1)).setBlk (k := 2) 4 rfl (.int .i64 r.Leader)).setBlk (k := 3) 4 rfl (.int .i64 r.Epoch)).setBlk (k := 4) 4 rfl (.slice a2 q2 k2)).setBlk (k := 5) 4 rfl (.slice a3 q3 k3))
      have u0 := HSF.out.cell (k := 0) 4 rfl rfl
      have u1 := HSF.out.cell (k := 1) 4 rfl rfl
      have u2 := HSF.out.cell (k := 2) 4 rfl rfl
      have u3 := HSF.out.cell (k := 3) 4 rfl rfl
      have u4 := HSF.out.cell (k := 4) 4 rfl rfl
      have u5 := HSF.out.cell (k := 5) 4 rfl rfl
      go_wp2
      exact bodyPost_ret (v := .agg #[.slice (some ⟨g5, 0, none⟩) n5 c5, .slice a1 q1 k1, .int .i64 r.Leader, .int .i64 r.Epoch, .slice a2 q2 k2, .slice a3 q3 k3]) (by simp [results, Try.results67, go_sem, u0, u1, u2, u3, u4, u5]) rfl (repl_ret (shutv_Repl (x := r) (HSF.out.sel [0, 1, 2, 3] (by decide) rfl) HI.out.1 HI.out.2))
end Go.Proofs.Ytihendiakgfpcaa

/-
  Contracts: StepRepl (chapter 9). No conditions.
-/
namespace Go.Proofs.Ytihendiakgfpcaa
open Go.RowKit
attribute [local go_sem] und_cell cha_cell World.cell?_alloc_some
def Pl.stepRepl (r : Repl) (s : ReplStep) : Repl × Bool := if Pl.replOk r = true ∧ (Pl.rstep r s).2 = true then ((Pl.rstep r s).1, true) else (Pl.zRe, false)
theorem zRe_ret2 {w w' : World} (h : Below w.heap.size w w') : Mm.Ret2 rRepl w Pl.zRe false (.returned (.tuple #[.agg zRepl.toArray, .bool false])) w' :=
  ⟨zRepl, [], rfl, zRe_own, List.nodup_nil, (fun b hb => by cases hb), h⟩
theorem Pl.rdo_down {r : Repl} (s : ReplStep) : (Pl.rdo r s).1.Down.length = r.Down.length ∧ (Pl.rdo r s).1.Certain = r.Certain := by
  unfold Pl.rdo
  repeat' split
  all_goals exact ⟨by simp [Pl.rfetch], rfl⟩
theorem Pl.RZ.step {r : Repl} (h : Pl.RW r) (s : ReplStep) : Pl.RZ (Pl.rstep r s).1 := by
  unfold Pl.rstep
  split
  · have hs := Pl.RS.do_ h s (by omega)
    obtain ⟨h1, h2⟩ := Pl.rdo_down (r := r) s
    have hz := h.rz
    refine ⟨hs.n5, by show (Pl.rdo r s).1.Down.length ≤ 5; rw [h1]; exact hz.down, hs.sync5, ?_, hs.len⟩
    show (if _ then _ else _ : List Entry).length ≤ 40
    split
    · rw [List.length_take]; have := hs.len' (Pl.rdo r s).1.Leader; omega
    · rw [h2]; exact hz.cert
  · exact h.rz
set_option maxRecDepth 100000 in
set_option maxHeartbeats 2000000 in
theorem implStepRepl_c (r : Repl) (cs : List Value) (s : ReplStep) (cs2 : List Value) (w : World) (B : Nat) (ht : rRepl.at_ w B r cs) (hs : rReplStep.at_ w B s cs2) (hB : B ≤ w.heap.size) :
    Calls Try.prog 28 #[.agg cs.toArray, .agg cs2.toArray] w (Mm.Ret2 rRepl w (Pl.stepRepl r s).1 (Pl.stepRepl r s).2) := by
  obtain ⟨A0, n0, c0, A1, n1, c1, A2, n2, c2, A3, n3, c3, rfl, -⟩ := rRepl_at ht
  obtain ⟨rfl, hmi⟩ := rReplStep_at hs
  have HMI := Lib.hid hmi
  have HRT := Lib.hid ht
  clear ht hs hmi
  go_enter Try.func28, Try.ntmps28
  go_upto_region 1 with fail
  obtain ⟨ga, hga⟩ : ∃ ga, w.heap.size = ga := ⟨_, rfl⟩
  obtain ⟨gs, hgs⟩ : ∃ gs, ga + 1 = gs := ⟨_, rfl⟩
  obtain ⟨gr, hgr⟩ : ∃ gr, gs + 1 = gr := ⟨_, rfl⟩
  obtain ⟨W0, hW0⟩ : ∃ W0, ((w.alloc (.cells #[.slice A0 n0 c0, .slice A1 n1 c1, .int .i64 r.Leader, .int .i64 r.Epoch, .slice A2 n2 c2, .slice A3 n3 c3] 31)).alloc (.cells #[.int .i64 s.Kind, .int .i64 s.Node, .string s.Text] 53)).alloc (.cells #[.slice none 0 0, .slice none 0 0, .int .i64 0, .int .i64 0, .slice none 0 0, .slice none 0 0] 31) = W0 := ⟨_, rfl⟩
  have HS := Lib.hid (((((Mm.SepF.start w).alloc' hga 31 [.slice A0 n0 c0, .slice A1 n1 c1, .int .i64 r.Leader, .int .i64 r.Epoch, .slice A2 n2 c2, .slice A3 n3 c3]).alloc' (g := gs) (by rw [Mm.sz1, hga, hgs]) 53 [.int .i64 s.Kind, .int .i64 s.Node, .string s.Text]).alloc' (g := gr) (by rw [Mm.sz2, hga]; omega) 31 zRepl).atW hW0)
  rw [hW0, hga, hgs, hgr]
  have HGA := Lib.hid hga
  clear hW0 hga hgs hgr
  have HRT0 := Lib.hid (rRepl.keep HRT.out (w' := W0) fun b hb => HS.out.bel0.block b (by omega))
  have HBW := Lib.hid (Nat.le_trans hB HS.out.chg.size)
  have HSR := HS
  have d0 := HSR.out.cell (k := 0) 2 rfl rfl
  have d1 := HSR.out.cell (k := 1) 2 rfl rfl
  have d2 := HSR.out.cell (k := 2) 2 rfl rfl
  have d3 := HSR.out.cell (k := 3) 2 rfl rfl
  have d4 := HSR.out.cell (k := 4) 2 rfl rfl
  have d5 := HSR.out.cell (k := 5) 2 rfl rfl
  have r0 := HSR.out.cell (k := 0) 0 rfl rfl
  have r1 := HSR.out.cell (k := 1) 0 rfl rfl
  have r2 := HSR.out.cell (k := 2) 0 rfl rfl
  have r3 := HSR.out.cell (k := 3) 0 rfl rfl
  have r4 := HSR.out.cell (k := 4) 0 rfl rfl
  have r5 := HSR.out.cell (k := 5) 0 rfl rfl
  have z0 := HSR.out.frz (k := 0) 0 rfl
  have z1 := HSR.out.frz (k := 1) 0 rfl
  have z2 := HSR.out.frz (k := 2) 0 rfl
  have z3 := HSR.out.frz (k := 3) 0 rfl
  have z4 := HSR.out.frz (k := 4) 0 rfl
  have z5 := HSR.out.frz (k := 5) 0 rfl
  obtain ⟨gd, hgd⟩ : ∃ gd, Pl.replOk r = gd := ⟨_, rfl⟩
  have HGD := Lib.hid hgd
  clear hgd
  have CI := isRepl_c r _ W0 B HRT0.out HBW.out
  rw [HGD.out] at CI
  cases gd with
  | false =>
    have HF : Hid (Pl.stepRepl r s = (Pl.zRe, false)) := if_neg (fun h => by rw [HGD.out] at h; cases h.1)
    go_wp2_with (go_at_call 50; refine CI.mono ?_; rintro e w1 ⟨rfl, hb1⟩; (have HSR := Lib.hid (HS.out.step hb1)); (clear d0 d1 d2 d3 d4 d5 r0 r1 r2 r3 r4 r5 z0 z1 z2 z3 z4 z5); (have r0 := HSR.out.cell (k := 0) 0 rfl rfl); (have r1 := HSR.out.cell (k := 1) 0 rfl rfl); (have r2 := HSR.out.cell (k := 2) 0 rfl rfl); (have r3 := HSR.out.cell (k := 3) 0 rfl rfl); (have r4 := HSR.out.cell (k := 4) 0 rfl rfl); (have r5 := HSR.out.cell (k := 5) 0 rfl rfl); (have z0 := HSR.out.frz (k := 0) 0 rfl); (have z1 := HSR.out.frz (k := 1) 0 rfl); (have z2 := HSR.out.frz (k := 2) 0 rfl); (have z3 := HSR.out.frz (k := 3) 0 rfl); (have z4 := HSR.out.frz (k := 4) 0 rfl); (have z5 := HSR.out.frz (k := 5) 0 rfl))
    rw [HF.out]
    have HSF := Lib.hid ((((((HSR.out.setBlk (k := 0) 0 rfl (.slice none 0 0)).setBlk (k := 1) 0 rfl (.slice none 0 0)).setBlk (k := 2) 0 rfl (.int .i64 0)).setBlk (k := 3) 0 rfl (.int .i64 0)).setBlk (k := 4) 0 rfl (.slice none 0 0)).setBlk (k := 5) 0 rfl (.slice none 0 0))
    have q0 := HSF.out.cell (k := 0) 0 rfl rfl
    have q1 := HSF.out.cell (k := 1) 0 rfl rfl
    have q2 := HSF.out.cell (k := 2) 0 rfl rfl
    have q3 := HSF.out.cell (k := 3) 0 rfl rfl
    have q4 := HSF.out.cell (k := 4) 0 rfl rfl
    have q5 := HSF.out.cell (k := 5) 0 rfl rfl
    exact bodyPost_ret (v := .tuple #[.agg zRepl.toArray, .bool false]) (by simp [results, Try.results28, go_sem, zRepl, q0, q1, q2, q3, q4, q5]) rfl (zRe_ret2 HSF.out.bel0)
  | true =>
    have HWF := Lib.hid (Pl.replOk_iff.1 HGD.out)
    have hn1 := HWF.out.n1
    obtain ⟨⟨t', is⟩, hr⟩ : ∃ q, Pl.rstep r s = q := ⟨_, rfl⟩
    have HR := Lib.hid hr
    clear hr
    have CS := fun (g : Nat) (fp : List Nat) (W : World) h1 h2 => step_c r s g fp W h1 h2 HMI.out.2.1 HWF.out
    rw [HR.out] at CS
    have HCS := Lib.hid CS
    clear CS
    cases is with
    | false =>
      have HF : Hid (Pl.stepRepl r s = (Pl.zRe, false)) := if_neg (fun h => by rw [HR.out] at h; cases h.2)
      go_wp2_with (first
        | (go_at_call 50; refine CI.mono ?_; rintro e w1 ⟨rfl, hb1⟩; (have HS1 := Lib.hid (HS.out.step hb1)); (have HRT1 := Lib.hid (rRepl.keep HRT0.out (w' := w1) fun b hb => hb1.block b (Nat.lt_of_lt_of_le hb HBW.out))); (have HBW1 := Lib.hid (Nat.le_trans HBW.out hb1.size)); (clear d0 d1 d2 d3 d4 d5 r0 r1 r2 r3 r4 r5 z0 z1 z2 z3 z4 z5); clear hb1; (have d0 := HS1.out.cell (k := 0) 2 rfl rfl); (have d1 := HS1.out.cell (k := 1) 2 rfl rfl); (have d2 := HS1.out.cell (k := 2) 2 rfl rfl); (have d3 := HS1.out.cell (k := 3) 2 rfl rfl); (have d4 := HS1.out.cell (k := 4) 2 rfl rfl); (have d5 := HS1.out.cell (k := 5) 2 rfl rfl))
        | (go_at_call 67; refine (cloneRepl_c r _ w1 B HRT1.out HBW1.out HWF.out.rz hn1).mono ?_; rintro e w2 ⟨cs5, fp5, rfl, ho, hnd, hnew, hb2⟩; obtain ⟨a0, b0', k0, a1, b1', k1, a2, b2', k2, a3, b3', k3, rfl⟩ := own_formR ho; (have HS2 := Lib.hid (HS1.out.add hb2 (t := Mm.tow rRepl r _ _) ho hnd hnew)); clear ho hnd hnew hb2 d0 d1 d2 d3 d4 d5; (have HS3 := Lib.hid ((HS2.out.alloc' rfl 31 [.slice a0 b0' k0, .slice a1 b1' k1, .int .i64 r.Leader, .int .i64 r.Epoch, .slice a2 b2' k2, .slice a3 b3' k3]).toPtr)); (have s0 := HS3.out.cell (k := 0) 2 rfl rfl); (have s1 := HS3.out.cell (k := 1) 2 rfl rfl); (have s2 := HS3.out.cell (k := 2) 2 rfl rfl))
        | (go_at_call 45; refine (HCS.out _ _ _ (HS3.out.at_ 0 rfl) (HS3.out.ndat (i := 0) rfl)).mono ?_; rintro e w9 ⟨rfl, fp9, hL⟩; (have HSR := Lib.hid (HS3.out.call 0 rfl hL).tail); clear hL s0 s1 s2; (have r0 := HSR.out.cell (k := 0) 0 rfl rfl); (have r1 := HSR.out.cell (k := 1) 0 rfl rfl); (have r2 := HSR.out.cell (k := 2) 0 rfl rfl); (have r3 := HSR.out.cell (k := 3) 0 rfl rfl); (have r4 := HSR.out.cell (k := 4) 0 rfl rfl); (have r5 := HSR.out.cell (k := 5) 0 rfl rfl); (have z0 := HSR.out.frz (k := 0) 0 rfl); (have z1 := HSR.out.frz (k := 1) 0 rfl); (have z2 := HSR.out.frz (k := 2) 0 rfl); (have z3 := HSR.out.frz (k := 3) 0 rfl); (have z4 := HSR.out.frz (k := 4) 0 rfl); (have z5 := HSR.out.frz (k := 5) 0 rfl)))
      rw [HF.out]
      have HSF := Lib.hid ((((((HSR.out.setBlk (k := 0) 0 rfl (.slice none 0 0)).setBlk (k := 1) 0 rfl (.slice none 0 0)).setBlk (k := 2) 0 rfl (.int .i64 0)).setBlk (k := 3) 0 rfl (.int .i64 0)).setBlk (k := 4) 0 rfl (.slice none 0 0)).setBlk (k := 5) 0 rfl (.slice none 0 0))
      have q0 := HSF.out.cell (k := 0) 0 rfl rfl
      have q1 := HSF.out.cell (k := 1) 0 rfl rfl
      have q2 := HSF.out.cell (k := 2) 0 rfl rfl
      have q3 := HSF.out.cell (k := 3) 0 rfl rfl
      have q4 := HSF.out.cell (k := 4) 0 rfl rfl
      have q5 := HSF.out.cell (k := 5) 0 rfl rfl
      exact bodyPost_ret (v := .tuple #[.agg zRepl.toArray, .bool false]) (by simp [results, Try.results28, go_sem, zRepl, q0, q1, q2, q3, q4, q5]) rfl (zRe_ret2 HSF.out.bel0)
    | true =>
      have HF : Hid (Pl.stepRepl r s = (t', true)) := Lib.hid (by unfold Pl.stepRepl; rw [if_pos (by rw [HR.out]; exact ⟨HGD.out, rfl⟩), HR.out])
      go_wp2_with (first
        | (go_at_call 50; refine CI.mono ?_; rintro e w1 ⟨rfl, hb1⟩; (have HS1 := Lib.hid (HS.out.step hb1)); (have HRT1 := Lib.hid (rRepl.keep HRT0.out (w' := w1) fun b hb => hb1.block b (Nat.lt_of_lt_of_le hb HBW.out))); (have HBW1 := Lib.hid (Nat.le_trans HBW.out hb1.size)); (clear d0 d1 d2 d3 d4 d5 r0 r1 r2 r3 r4 r5 z0 z1 z2 z3 z4 z5); clear hb1; (have d0 := HS1.out.cell (k := 0) 2 rfl rfl); (have d1 := HS1.out.cell (k := 1) 2 rfl rfl); (have d2 := HS1.out.cell (k := 2) 2 rfl rfl); (have d3 := HS1.out.cell (k := 3) 2 rfl rfl); (have d4 := HS1.out.cell (k := 4) 2 rfl rfl); (have d5 := HS1.out.cell (k := 5) 2 rfl rfl))
        | (go_at_call 67; refine (cloneRepl_c r _ w1 B HRT1.out HBW1.out HWF.out.rz hn1).mono ?_; rintro e w2 ⟨cs5, fp5, rfl, ho, hnd, hnew, hb2⟩; obtain ⟨a0, b0', k0, a1, b1', k1, a2, b2', k2, a3, b3', k3, rfl⟩ := own_formR ho; (have HS2 := Lib.hid (HS1.out.add hb2 (t := Mm.tow rRepl r _ _) ho hnd hnew)); clear ho hnd hnew hb2 d0 d1 d2 d3 d4 d5; (have HS3 := Lib.hid ((HS2.out.alloc' rfl 31 [.slice a0 b0' k0, .slice a1 b1' k1, .int .i64 r.Leader, .int .i64 r.Epoch, .slice a2 b2' k2, .slice a3 b3' k3]).toPtr)); (have s0 := HS3.out.cell (k := 0) 2 rfl rfl); (have s1 := HS3.out.cell (k := 1) 2 rfl rfl); (have s2 := HS3.out.cell (k := 2) 2 rfl rfl))
        | (go_at_call 45; refine (HCS.out _ _ _ (HS3.out.at_ 0 rfl) (HS3.out.ndat (i := 0) rfl)).mono ?_; rintro e w9 ⟨rfl, fp9, hL⟩; obtain ⟨A10, n10, c10, A11, n11, c11, A12, n12, c12, A13, n13, c13, f10, f11, f12, f13, rfl, j2, j3, hs9⟩ := open_Repl (HS3.out.call 0 rfl hL); (have HSR := Lib.hid hs9); (have HJ := Lib.hid (And.intro j2 j3)); clear hL hs9 j2 j3 s0 s1 s2; (have d0 := HSR.out.cell (k := 0) 0 rfl rfl); (have d1 := HSR.out.cell (k := 1) 0 rfl rfl); (have d2 := HSR.out.cell (k := 2) 0 rfl rfl); (have d3 := HSR.out.cell (k := 3) 0 rfl rfl); (have d4 := HSR.out.cell (k := 4) 0 rfl rfl); (have d5 := HSR.out.cell (k := 5) 0 rfl rfl); (have r0 := HSR.out.cell (k := 0) 5 rfl rfl); (have r1 := HSR.out.cell (k := 1) 5 rfl rfl); (have r2 := HSR.out.cell (k := 2) 5 rfl rfl); (have r3 := HSR.out.cell (k := 3) 5 rfl rfl); (have r4 := HSR.out.cell (k := 4) 5 rfl rfl); (have r5 := HSR.out.cell (k := 5) 5 rfl rfl); (have z0 := HSR.out.frz (k := 0) 5 rfl); (have z1 := HSR.out.frz (k := 1) 5 rfl); (have z2 := HSR.out.frz (k := 2) 5 rfl); (have z3 := HSR.out.frz (k := 3) 5 rfl); (have z4 := HSR.out.frz (k := 4) 5 rfl); (have z5 := HSR.out.frz (k := 5) 5 rfl)))
      have HSF := Lib.hid ((((((HSR.out.setBlk (k := 0) 5 rfl (.slice A10 n10 c10)).setBlk (k := 1) 5 rfl (.slice A11 n11 c11)).setBlk (k := 2) 5 rfl (.int .i64 t'.Leader)).setBlk (k := 3) 5 rfl (.int .i64 t'.Epoch)).setBlk (k := 4) 5 rfl (.slice A12 n12 c12)).setBlk (k := 5) 5 rfl (.slice A13 n13 c13))
      have q0 := HSF.out.cell (k := 0) 5 rfl rfl
      have q1 := HSF.out.cell (k := 1) 5 rfl rfl
      have q2 := HSF.out.cell (k := 2) 5 rfl rfl
      have q3 := HSF.out.cell (k := 3) 5 rfl rfl
      have q4 := HSF.out.cell (k := 4) 5 rfl rfl
      have q5 := HSF.out.cell (k := 5) 5 rfl rfl
      rw [HF.out]
      exact bodyPost_ret (v := .tuple #[.agg #[.slice A10 n10 c10, .slice A11 n11 c11, .int .i64 t'.Leader, .int .i64 t'.Epoch, .slice A12 n12 c12, .slice A13 n13 c13], .bool true]) (by simp [results, Try.results28, go_sem, q0, q1, q2, q3, q4, q5]) rfl (repl_ret2 (shutv_Repl (x := t') HSF.out.tail HJ.out.1 HJ.out.2))
set_option maxRecDepth 100000 in
set_option maxHeartbeats 4000000 in
theorem specStepRepl_c (r : Repl) (cs : List Value) (s : ReplStep) (cs2 : List Value) (w : World) (B : Nat) (ht : rRepl.at_ w B r cs) (hs : rReplStep.at_ w B s cs2) (hB : B ≤ w.heap.size) :
    Calls Try.prog 29 #[.agg cs.toArray, .agg cs2.toArray] w (Mm.Ret2 rRepl w (Pl.stepRepl r s).1 (Pl.stepRepl r s).2) := by
  obtain ⟨A0, n0, c0, A1, n1, c1, A2, n2, c2, A3, n3, c3, rfl, -⟩ := rRepl_at ht
  obtain ⟨rfl, hmi⟩ := rReplStep_at hs
  have HMI := Lib.hid hmi
  have HRT := Lib.hid ht
  clear ht hs hmi
  go_enter Try.func29, Try.ntmps29
  go_upto_region 1 with fail
  obtain ⟨ga, hga⟩ : ∃ ga, w.heap.size = ga := ⟨_, rfl⟩
  obtain ⟨gs, hgs⟩ : ∃ gs, ga + 1 = gs := ⟨_, rfl⟩
  obtain ⟨gr, hgr⟩ : ∃ gr, gs + 1 = gr := ⟨_, rfl⟩
  obtain ⟨W0, hW0⟩ : ∃ W0, ((w.alloc (.cells #[.slice A0 n0 c0, .slice A1 n1 c1, .int .i64 r.Leader, .int .i64 r.Epoch, .slice A2 n2 c2, .slice A3 n3 c3] 31)).alloc (.cells #[.int .i64 s.Kind, .int .i64 s.Node, .string s.Text] 53)).alloc (.cells #[.slice none 0 0, .slice none 0 0, .int .i64 0, .int .i64 0, .slice none 0 0, .slice none 0 0] 31) = W0 := ⟨_, rfl⟩
  have HS := Lib.hid (((((Mm.SepF.start w).alloc' hga 31 [.slice A0 n0 c0, .slice A1 n1 c1, .int .i64 r.Leader, .int .i64 r.Epoch, .slice A2 n2 c2, .slice A3 n3 c3]).alloc' (g := gs) (by rw [Mm.sz1, hga, hgs]) 53 [.int .i64 s.Kind, .int .i64 s.Node, .string s.Text]).alloc' (g := gr) (by rw [Mm.sz2, hga]; omega) 31 zRepl).atW hW0)
  rw [hW0, hga, hgs, hgr]
  have HGA := Lib.hid hga
  clear hW0 hga hgs hgr
  have HRT0 := Lib.hid (rRepl.keep HRT.out (w' := W0) fun b hb => HS.out.bel0.block b (by omega))
  have HBW := Lib.hid (Nat.le_trans hB HS.out.chg.size)
  have HSR := HS
  have d0 := HSR.out.cell (k := 0) 2 rfl rfl
  have d1 := HSR.out.cell (k := 1) 2 rfl rfl
  have d2 := HSR.out.cell (k := 2) 2 rfl rfl
  have d3 := HSR.out.cell (k := 3) 2 rfl rfl
  have d4 := HSR.out.cell (k := 4) 2 rfl rfl
  have d5 := HSR.out.cell (k := 5) 2 rfl rfl
  have r0 := HSR.out.cell (k := 0) 0 rfl rfl
  have r1 := HSR.out.cell (k := 1) 0 rfl rfl
  have r2 := HSR.out.cell (k := 2) 0 rfl rfl
  have r3 := HSR.out.cell (k := 3) 0 rfl rfl
  have r4 := HSR.out.cell (k := 4) 0 rfl rfl
  have r5 := HSR.out.cell (k := 5) 0 rfl rfl
  have z0 := HSR.out.frz (k := 0) 0 rfl
  have z1 := HSR.out.frz (k := 1) 0 rfl
  have z2 := HSR.out.frz (k := 2) 0 rfl
  have z3 := HSR.out.frz (k := 3) 0 rfl
  have z4 := HSR.out.frz (k := 4) 0 rfl
  have z5 := HSR.out.frz (k := 5) 0 rfl
  obtain ⟨gd, hgd⟩ : ∃ gd, Pl.replOk r = gd := ⟨_, rfl⟩
  have HGD := Lib.hid hgd
  clear hgd
  have CI := specGoodRepl_c r _ W0 B HRT0.out HBW.out
  rw [HGD.out] at CI
  cases gd with
  | false =>
    have HF : Hid (Pl.stepRepl r s = (Pl.zRe, false)) := if_neg (fun h => by rw [HGD.out] at h; cases h.1)
    go_wp2_with (go_at_call 68; refine CI.mono ?_; rintro e w1 ⟨rfl, hb1⟩; (have HSR := Lib.hid (HS.out.step hb1)); (clear d0 d1 d2 d3 d4 d5 r0 r1 r2 r3 r4 r5 z0 z1 z2 z3 z4 z5); (have r0 := HSR.out.cell (k := 0) 0 rfl rfl); (have r1 := HSR.out.cell (k := 1) 0 rfl rfl); (have r2 := HSR.out.cell (k := 2) 0 rfl rfl); (have r3 := HSR.out.cell (k := 3) 0 rfl rfl); (have r4 := HSR.out.cell (k := 4) 0 rfl rfl); (have r5 := HSR.out.cell (k := 5) 0 rfl rfl); (have z0 := HSR.out.frz (k := 0) 0 rfl); (have z1 := HSR.out.frz (k := 1) 0 rfl); (have z2 := HSR.out.frz (k := 2) 0 rfl); (have z3 := HSR.out.frz (k := 3) 0 rfl); (have z4 := HSR.out.frz (k := 4) 0 rfl); (have z5 := HSR.out.frz (k := 5) 0 rfl))
    rw [HF.out]
    have HSF := Lib.hid ((((((HSR.out.setBlk (k := 0) 0 rfl (.slice none 0 0)).setBlk (k := 1) 0 rfl (.slice none 0 0)).setBlk (k := 2) 0 rfl (.int .i64 0)).setBlk (k := 3) 0 rfl (.int .i64 0)).setBlk (k := 4) 0 rfl (.slice none 0 0)).setBlk (k := 5) 0 rfl (.slice none 0 0))
    have q0 := HSF.out.cell (k := 0) 0 rfl rfl
    have q1 := HSF.out.cell (k := 1) 0 rfl rfl
    have q2 := HSF.out.cell (k := 2) 0 rfl rfl
    have q3 := HSF.out.cell (k := 3) 0 rfl rfl
    have q4 := HSF.out.cell (k := 4) 0 rfl rfl
    have q5 := HSF.out.cell (k := 5) 0 rfl rfl
    exact bodyPost_ret (v := .tuple #[.agg zRepl.toArray, .bool false]) (by simp [results, Try.results29, go_sem, zRepl, q0, q1, q2, q3, q4, q5]) rfl (zRe_ret2 HSF.out.bel0)
  | true =>
    have HWF := Lib.hid (Pl.replOk_iff.1 HGD.out)
    have hz' := Pl.RZ.step HWF.out s
    obtain ⟨⟨t', is⟩, hr⟩ : ∃ q, Pl.rstep r s = q := ⟨_, rfl⟩
    have HR := Lib.hid hr
    rw [hr] at hz'
    have HZ' := Lib.hid hz'
    clear hr hz'
    cases is with
    | false =>
      have HF : Hid (Pl.stepRepl r s = (Pl.zRe, false)) := if_neg (fun h => by rw [HR.out] at h; cases h.2)
      go_wp2_with (go_at_call 68; refine CI.mono ?_; rintro e W1 ⟨rfl, hb1⟩; (have HS1 := Lib.hid (HS.out.step hb1)); (have HRT1 := Lib.hid (rRepl.keep HRT0.out (w' := W1) fun b hb => hb1.block b (Nat.lt_of_lt_of_le hb HBW.out))); (have HBW1 := Lib.hid (Nat.le_trans HBW.out hb1.size)); (clear d0 d1 d2 d3 d4 d5 r0 r1 r2 r3 r4 r5 z0 z1 z2 z3 z4 z5); clear hb1; (have d0 := HS1.out.cell (k := 0) 2 rfl rfl); (have d1 := HS1.out.cell (k := 1) 2 rfl rfl); (have d2 := HS1.out.cell (k := 2) 2 rfl rfl); (have d3 := HS1.out.cell (k := 3) 2 rfl rfl); (have d4 := HS1.out.cell (k := 4) 2 rfl rfl); (have d5 := HS1.out.cell (k := 5) 2 rfl rfl); (have s0 := HS1.out.cell (k := 0) 1 rfl rfl); (have s1 := HS1.out.cell (k := 1) 1 rfl rfl); (have s2 := HS1.out.cell (k := 2) 1 rfl rfl))
      refine Mm.wp_region_give 9 (fun i => match i with | 1 => some (gRe r) | 3 => some (gRe2 t' false) | 7 => some (Mm.gPtr 31 zRepl) | 8 => some (Mm.gSto 31) | _ => none) (fun i => match i with | 3 => [1] | 8 => [7] | _ => []) (fun _ => []) (F := []) (D := fun w' => ∃ x : Und W1, w' = und W1 x) (fun X us h => Mm.sep_und h) (by kernel_rfl) (by kernel_rfl) (by kernel_rfl) (Mm.SepF.startDrew _) ?_
      repeat (refine Mm.give_det (by rfl) (by rfl) (by rfl) (fun K hK => ?_); go_big_quiet_op; refine hK _ ?_; clear hK K)
      refine Mm.give_op0 14 (by rfl) rfl (by rfl) (by rfl) (by rfl) (by rfl) gRe_in (fun others X hX => ?_) ?_
      · go_wp2_with (go_at_call 47; refine (l9Own_c r _ X B (rRepl.keep HRT1.out (fun b hb => hX.bel0.block b (Nat.lt_of_lt_of_le hb HBW1.out))) (Nat.le_trans HBW1.out hX.chg.size) HWF.out.rz).mono ?_; rintro e w5 ⟨cs5, fp5, rfl, ho, hnd, hnew, hb5⟩; obtain ⟨a0, b0', k0, a1, b1', k1, a2, b2', k2, a3, b3', k3, rfl⟩ := own_formR ho)
        exact ⟨rfl, rfl, _, ⟨a0, b0', k0, a1, b1', k1, a2, b2', k2, a3, b3', k3, fp5, rfl, rfl⟩, hX.add hb5 (t := Mm.tow rRepl r _ _) ho hnd hnew⟩
      rintro v ds ⟨a0, b0', k0, a1, b1', k1, a2, b2', k2, a3, b3', k3, fp5, rfl, rfl⟩
      simp only [Act.put, List.setIfInBounds_toArray, List.set_cons_succ, List.set_cons_zero]
      repeat (refine Mm.give_det (by rfl) (by rfl) (by rfl) (fun K hK => ?_); go_big_quiet_op; refine hK _ ?_; clear hK K)
      refine Mm.give_op1 16 1 (by rfl) rfl (by rfl) (by rfl) (by rfl) rfl (by rfl) _ rfl gRe2_in (fun others X hX => ?_) ?_
      · go_wp2_with (go_at_call 46; refine (l9Step_c r s _ fp5 X (hX.at_ 0 rfl) (hX.ndat (i := 0) rfl) HWF.out HMI.out.2.1).mono ?_; rintro e w6 ⟨cs6, fp6, rfl, hL⟩; rw [HR.out] at hL; rw [HR.out])
        have h9 := hX.call 0 rfl hL
        obtain ⟨a0, b0', k0, a1, b1', k1, a2, b2', k2, a3, b3', k3, rfl⟩ := own_formR (h9.at_ 0 rfl)
        exact ⟨rfl, rfl, _, ⟨a0, b0', k0, a1, b1', k1, a2, b2', k2, a3, b3', k3, fp6, rfl, rfl⟩, h9⟩
      rintro v ds ⟨a0, b0', k0, a1, b1', k1, a2, b2', k2, a3, b3', k3, fp6, rfl, rfl⟩
      simp only [Act.put, List.setIfInBounds_toArray, List.set_cons_succ, List.set_cons_zero]
      repeat (refine Mm.give_det (by rfl) (by rfl) (by rfl) (fun K hK => ?_); go_big_quiet_op; refine hK _ ?_; clear hK K)
      refine Mm.give_op0 6 (by rfl) rfl (by rfl) (by rfl) (by rfl) (by rfl) Mm.gPtr_in (fun others X hX => ?_) ?_
      · go_wp2
        exact Mm.gvq_ptr hX rfl rfl rfl
      rintro v ds ⟨gp, rfl, rfl⟩
      simp only [Act.put, List.setIfInBounds_toArray, List.set_cons_succ, List.set_cons_zero]
      refine Mm.give_store 31 gp zRepl [.slice a0 b0' k0, .slice a1 b1' k1, .int .i64 t'.Leader, .int .i64 t'.Epoch, .slice a2 b2' k2, .slice a3 b3' k3] 7 (by rfl) rfl rfl (by rfl) rfl (by rfl) rfl rfl (fun others X hX => ?_) ?_
      · have HSR := Lib.hid hX
        have r0 := HSR.out.cell (k := 0) 0 rfl rfl
        have r1 := HSR.out.cell (k := 1) 0 rfl rfl
        have r2 := HSR.out.cell (k := 2) 0 rfl rfl
        have r3 := HSR.out.cell (k := 3) 0 rfl rfl
        have r4 := HSR.out.cell (k := 4) 0 rfl rfl
        have r5 := HSR.out.cell (k := 5) 0 rfl rfl
        have z0 := HSR.out.frz (k := 0) 0 rfl
        have z1 := HSR.out.frz (k := 1) 0 rfl
        have z2 := HSR.out.frz (k := 2) 0 rfl
        have z3 := HSR.out.frz (k := 3) 0 rfl
        have z4 := HSR.out.frz (k := 4) 0 rfl
        have z5 := HSR.out.frz (k := 5) 0 rfl
        go_wp2
        exact ⟨rfl, rfl, _, rfl, ((((((hX.setBlk (k := 0) 0 rfl (.slice a0 b0' k0)).setBlk (k := 1) 0 rfl (.slice a1 b1' k1)).setBlk (k := 2) 0 rfl (.int .i64 t'.Leader)).setBlk (k := 3) 0 rfl (.int .i64 t'.Epoch)).setBlk (k := 4) 0 rfl (.slice a2 b2' k2)).setBlk (k := 5) 0 rfl (.slice a3 b3' k3))⟩
      refine Mm.give_nil ?_
      rintro X hX
      have HS3 := Lib.hid (HS1.out.join (us := [Mm.tow rRepl t' [.slice a0 b0' k0, .slice a1 b1' k1, .int .i64 t'.Leader, .int .i64 t'.Epoch, .slice a2 b2' k2, .slice a3 b3' k3] fp6, Mm.tblk gp 31 [.slice a0 b0' k0, .slice a1 b1' k1, .int .i64 t'.Leader, .int .i64 t'.Epoch, .slice a2 b2' k2, .slice a3 b3' k3]]) hX)
      clear hX
      have HSR := Lib.hid (HS3.out.sel [2, 3, 4] (by decide) rfl)
      clear d0 d1 d2 d3 d4 d5 s0 s1 s2
      have r0 := HSR.out.cell (k := 0) 0 rfl rfl
      have r1 := HSR.out.cell (k := 1) 0 rfl rfl
      have r2 := HSR.out.cell (k := 2) 0 rfl rfl
      have r3 := HSR.out.cell (k := 3) 0 rfl rfl
      have r4 := HSR.out.cell (k := 4) 0 rfl rfl
      have r5 := HSR.out.cell (k := 5) 0 rfl rfl
      have z0 := HSR.out.frz (k := 0) 0 rfl
      have z1 := HSR.out.frz (k := 1) 0 rfl
      have z2 := HSR.out.frz (k := 2) 0 rfl
      have z3 := HSR.out.frz (k := 3) 0 rfl
      have z4 := HSR.out.frz (k := 4) 0 rfl
      have z5 := HSR.out.frz (k := 5) 0 rfl
      go_wp2
      rw [HF.out]
      have HSF := Lib.hid ((((((HSR.out.setBlk (k := 0) 0 rfl (.slice none 0 0)).setBlk (k := 1) 0 rfl (.slice none 0 0)).setBlk (k := 2) 0 rfl (.int .i64 0)).setBlk (k := 3) 0 rfl (.int .i64 0)).setBlk (k := 4) 0 rfl (.slice none 0 0)).setBlk (k := 5) 0 rfl (.slice none 0 0))
      have q0 := HSF.out.cell (k := 0) 0 rfl rfl
      have q1 := HSF.out.cell (k := 1) 0 rfl rfl
      have q2 := HSF.out.cell (k := 2) 0 rfl rfl
      have q3 := HSF.out.cell (k := 3) 0 rfl rfl
      have q4 := HSF.out.cell (k := 4) 0 rfl rfl
      have q5 := HSF.out.cell (k := 5) 0 rfl rfl
      exact bodyPost_ret (v := .tuple #[.agg zRepl.toArray, .bool false]) (by simp [results, Try.results29, go_sem, zRepl, q0, q1, q2, q3, q4, q5]) rfl (zRe_ret2 HSF.out.bel0)
    | true =>
      have HF : Hid (Pl.stepRepl r s = (t', true)) := Lib.hid (by unfold Pl.stepRepl; rw [if_pos (by rw [HR.out]; exact ⟨HGD.out, rfl⟩), HR.out])
      go_wp2_with (go_at_call 68; refine CI.mono ?_; rintro e W1 ⟨rfl, hb1⟩; (have HS1 := Lib.hid (HS.out.step hb1)); (have HRT1 := Lib.hid (rRepl.keep HRT0.out (w' := W1) fun b hb => hb1.block b (Nat.lt_of_lt_of_le hb HBW.out))); (have HBW1 := Lib.hid (Nat.le_trans HBW.out hb1.size)); (clear d0 d1 d2 d3 d4 d5 r0 r1 r2 r3 r4 r5 z0 z1 z2 z3 z4 z5); clear hb1; (have d0 := HS1.out.cell (k := 0) 2 rfl rfl); (have d1 := HS1.out.cell (k := 1) 2 rfl rfl); (have d2 := HS1.out.cell (k := 2) 2 rfl rfl); (have d3 := HS1.out.cell (k := 3) 2 rfl rfl); (have d4 := HS1.out.cell (k := 4) 2 rfl rfl); (have d5 := HS1.out.cell (k := 5) 2 rfl rfl); (have s0 := HS1.out.cell (k := 0) 1 rfl rfl); (have s1 := HS1.out.cell (k := 1) 1 rfl rfl); (have s2 := HS1.out.cell (k := 2) 1 rfl rfl))
      refine Mm.wp_region_give 9 (fun i => match i with | 1 => some (gRe r) | 3 => some (gRe2 t' true) | 7 => some (Mm.gPtr 31 zRepl) | 8 => some (Mm.gSto 31) | _ => none) (fun i => match i with | 3 => [1] | 8 => [7] | _ => []) (fun _ => []) (F := []) (D := fun w' => ∃ x : Und W1, w' = und W1 x) (fun X us h => Mm.sep_und h) (by kernel_rfl) (by kernel_rfl) (by kernel_rfl) (Mm.SepF.startDrew _) ?_
      repeat (refine Mm.give_det (by rfl) (by rfl) (by rfl) (fun K hK => ?_); go_big_quiet_op; refine hK _ ?_; clear hK K)
      refine Mm.give_op0 14 (by rfl) rfl (by rfl) (by rfl) (by rfl) (by rfl) gRe_in (fun others X hX => ?_) ?_
      · go_wp2_with (go_at_call 47; refine (l9Own_c r _ X B (rRepl.keep HRT1.out (fun b hb => hX.bel0.block b (Nat.lt_of_lt_of_le hb HBW1.out))) (Nat.le_trans HBW1.out hX.chg.size) HWF.out.rz).mono ?_; rintro e w5 ⟨cs5, fp5, rfl, ho, hnd, hnew, hb5⟩; obtain ⟨a0, b0', k0, a1, b1', k1, a2, b2', k2, a3, b3', k3, rfl⟩ := own_formR ho)
        exact ⟨rfl, rfl, _, ⟨a0, b0', k0, a1, b1', k1, a2, b2', k2, a3, b3', k3, fp5, rfl, rfl⟩, hX.add hb5 (t := Mm.tow rRepl r _ _) ho hnd hnew⟩
      rintro v ds ⟨a0, b0', k0, a1, b1', k1, a2, b2', k2, a3, b3', k3, fp5, rfl, rfl⟩
      simp only [Act.put, List.setIfInBounds_toArray, List.set_cons_succ, List.set_cons_zero]
      repeat (refine Mm.give_det (by rfl) (by rfl) (by rfl) (fun K hK => ?_); go_big_quiet_op; refine hK _ ?_; clear hK K)
      refine Mm.give_op1 16 1 (by rfl) rfl (by rfl) (by rfl) (by rfl) rfl (by rfl) _ rfl gRe2_in (fun others X hX => ?_) ?_
      · go_wp2_with (go_at_call 46; refine (l9Step_c r s _ fp5 X (hX.at_ 0 rfl) (hX.ndat (i := 0) rfl) HWF.out HMI.out.2.1).mono ?_; rintro e w6 ⟨cs6, fp6, rfl, hL⟩; rw [HR.out] at hL; rw [HR.out])
        have h9 := hX.call 0 rfl hL
        obtain ⟨a0, b0', k0, a1, b1', k1, a2, b2', k2, a3, b3', k3, rfl⟩ := own_formR (h9.at_ 0 rfl)
        exact ⟨rfl, rfl, _, ⟨a0, b0', k0, a1, b1', k1, a2, b2', k2, a3, b3', k3, fp6, rfl, rfl⟩, h9⟩
      rintro v ds ⟨a0, b0', k0, a1, b1', k1, a2, b2', k2, a3, b3', k3, fp6, rfl, rfl⟩
      simp only [Act.put, List.setIfInBounds_toArray, List.set_cons_succ, List.set_cons_zero]
      repeat (refine Mm.give_det (by rfl) (by rfl) (by rfl) (fun K hK => ?_); go_big_quiet_op; refine hK _ ?_; clear hK K)
      refine Mm.give_op0 6 (by rfl) rfl (by rfl) (by rfl) (by rfl) (by rfl) Mm.gPtr_in (fun others X hX => ?_) ?_
      · go_wp2
        exact Mm.gvq_ptr hX rfl rfl rfl
      rintro v ds ⟨gp, rfl, rfl⟩
      simp only [Act.put, List.setIfInBounds_toArray, List.set_cons_succ, List.set_cons_zero]
      refine Mm.give_store 31 gp zRepl [.slice a0 b0' k0, .slice a1 b1' k1, .int .i64 t'.Leader, .int .i64 t'.Epoch, .slice a2 b2' k2, .slice a3 b3' k3] 7 (by rfl) rfl rfl (by rfl) rfl (by rfl) rfl rfl (fun others X hX => ?_) ?_
      · have HSR := Lib.hid hX
        have r0 := HSR.out.cell (k := 0) 0 rfl rfl
        have r1 := HSR.out.cell (k := 1) 0 rfl rfl
        have r2 := HSR.out.cell (k := 2) 0 rfl rfl
        have r3 := HSR.out.cell (k := 3) 0 rfl rfl
        have r4 := HSR.out.cell (k := 4) 0 rfl rfl
        have r5 := HSR.out.cell (k := 5) 0 rfl rfl
        have z0 := HSR.out.frz (k := 0) 0 rfl
        have z1 := HSR.out.frz (k := 1) 0 rfl
        have z2 := HSR.out.frz (k := 2) 0 rfl
        have z3 := HSR.out.frz (k := 3) 0 rfl
        have z4 := HSR.out.frz (k := 4) 0 rfl
        have z5 := HSR.out.frz (k := 5) 0 rfl
        go_wp2
        exact ⟨rfl, rfl, _, rfl, ((((((hX.setBlk (k := 0) 0 rfl (.slice a0 b0' k0)).setBlk (k := 1) 0 rfl (.slice a1 b1' k1)).setBlk (k := 2) 0 rfl (.int .i64 t'.Leader)).setBlk (k := 3) 0 rfl (.int .i64 t'.Epoch)).setBlk (k := 4) 0 rfl (.slice a2 b2' k2)).setBlk (k := 5) 0 rfl (.slice a3 b3' k3))⟩
      refine Mm.give_nil ?_
      rintro X hX
      have HS3 := Lib.hid (HS1.out.join (us := [Mm.tow rRepl t' [.slice a0 b0' k0, .slice a1 b1' k1, .int .i64 t'.Leader, .int .i64 t'.Epoch, .slice a2 b2' k2, .slice a3 b3' k3] fp6, Mm.tblk gp 31 [.slice a0 b0' k0, .slice a1 b1' k1, .int .i64 t'.Leader, .int .i64 t'.Epoch, .slice a2 b2' k2, .slice a3 b3' k3]]) hX)
      clear hX
      clear d0 d1 d2 d3 d4 d5 s0 s1 s2
      have d0 := HS3.out.cell (k := 0) 1 rfl rfl
      have d1 := HS3.out.cell (k := 1) 1 rfl rfl
      have d2 := HS3.out.cell (k := 2) 1 rfl rfl
      have d3 := HS3.out.cell (k := 3) 1 rfl rfl
      have d4 := HS3.out.cell (k := 4) 1 rfl rfl
      have d5 := HS3.out.cell (k := 5) 1 rfl rfl
      go_wp2_with (go_at_call 47; refine (l9Own_c t' _ _ X.heap.size (HS3.out.rd 0 rfl) (Nat.le_refl _) HZ'.out).mono ?_; rintro e w5 ⟨cs5, fp5, rfl, ho, hnd, hnew, hb5⟩; obtain ⟨A10, n10, c10, A11, n11, c11, A12, n12, c12, A13, n13, c13, rfl⟩ := own_formR ho; (have HSR := Lib.hid (HS3.out.add hb5 (t := Mm.tow rRepl t' _ _) ho hnd hnew)); clear ho hnd hnew hb5 d0 d1 d2 d3 d4 d5; (have r0 := HSR.out.cell (k := 0) 3 rfl rfl); (have r1 := HSR.out.cell (k := 1) 3 rfl rfl); (have r2 := HSR.out.cell (k := 2) 3 rfl rfl); (have r3 := HSR.out.cell (k := 3) 3 rfl rfl); (have r4 := HSR.out.cell (k := 4) 3 rfl rfl); (have r5 := HSR.out.cell (k := 5) 3 rfl rfl); (have z0 := HSR.out.frz (k := 0) 3 rfl); (have z1 := HSR.out.frz (k := 1) 3 rfl); (have z2 := HSR.out.frz (k := 2) 3 rfl); (have z3 := HSR.out.frz (k := 3) 3 rfl); (have z4 := HSR.out.frz (k := 4) 3 rfl); (have z5 := HSR.out.frz (k := 5) 3 rfl))
      have HSF := Lib.hid ((((((HSR.out.setBlk (k := 0) 3 rfl (.slice A10 n10 c10)).setBlk (k := 1) 3 rfl (.slice A11 n11 c11)).setBlk (k := 2) 3 rfl (.int .i64 t'.Leader)).setBlk (k := 3) 3 rfl (.int .i64 t'.Epoch)).setBlk (k := 4) 3 rfl (.slice A12 n12 c12)).setBlk (k := 5) 3 rfl (.slice A13 n13 c13))
      have q0 := HSF.out.cell (k := 0) 3 rfl rfl
      have q1 := HSF.out.cell (k := 1) 3 rfl rfl
      have q2 := HSF.out.cell (k := 2) 3 rfl rfl
      have q3 := HSF.out.cell (k := 3) 3 rfl rfl
      have q4 := HSF.out.cell (k := 4) 3 rfl rfl
      have q5 := HSF.out.cell (k := 5) 3 rfl rfl
      rw [HF.out]
      exact bodyPost_ret (v := .tuple #[.agg #[.slice A10 n10 c10, .slice A11 n11 c11, .int .i64 t'.Leader, .int .i64 t'.Epoch, .slice A12 n12 c12, .slice A13 n13 c13], .bool true]) (by simp [results, Try.results29, go_sem, q0, q1, q2, q3, q4, q5]) rfl (repl_ret2 HSF.out)
end Go.Proofs.Ytihendiakgfpcaa
