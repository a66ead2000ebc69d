/-
  Joined texts, in build order: Cu, G5, G6, LwN, G7, Fa. Each part says what it proves; no conditions beyond those that a part names.
-/
import Derived.Test.YtihendiakgfpcaaZ01
import Derived.Test.YtihendiakgfpcaaZ02
import Derived.Test.YtihendiakgfpcaaZ03
import Derived.Test.YtihendiakgfpcaaZ05
import Derived.Test.YtihendiakgfpcaaZ08
import Derived.Test.YtihendiakgfpcaaZ10
import Derived.Lib.Hide
import Derived.Deep.DeepFit
import Derived.Deep.RegionLaw
import Derived.Deep.LoopGhost
import Derived.Laws.Bits64b
import Derived.WalkSmall
import Derived.Deep.DeepCutAuto
import Derived.Deep.CutBlock
/-
  Contracts: the cursor that draws choices from bytes. No conditions.
-/
namespace Go.Proofs.Ytihendiakgfpcaa
open Go.RowKit
attribute [local go_sem] und_cell World.cell?_alloc_some
namespace Mm
def U8 (n : Int) : Prop := 0 ≤ n ∧ n ≤ 255
def u8 : Rep Int := flat 1 (fun n => [.int .u8 n]) U8 (fun _ => rfl) (fun _ u hu => by rw [List.mem_singleton.1 hu]; rfl)
theorem opens_u8 {P : Program} {t : TypeId} (ht : P.underlying t = some (.int .u8)) (hc : P.cellsOf t = 1) : Opens P t u8 := ⟨hc, fun H enc w base spare held fuel cs x h => by
  obtain ⟨n, rfl, _, hw⟩ := DataW.trod_int ht h
  refine ⟨n, rfl, ?_⟩
  simp [Lit.wf, IntKind.min, IntKind.max, IntKind.signed, IntKind.bits] at hw
  unfold U8
  omega⟩
/-- a cursor: its block -/
def tcur (T : TypeId) (A : Option Addr) (n c g K : Nat) : Thing :=
  ⟨[g], fun w => ∃ at_ seed : Int, Blk w g T [.slice A n c, .int .i64 at_, .int .u64 seed] ∧ 0 ≤ at_ ∧ at_ ≤ K, fun ⟨a, s, h1, h2⟩ k => ⟨a, s, h1.keep (k g (by simp)), h2⟩, fun ⟨a, s, h1, h2⟩ b hb => by rw [List.mem_singleton.1 hb]; exact h1.lt⟩
theorem tcur_more {T : TypeId} {A : Option Addr} {n c g K K' : Nat} {w : World} (h : (tcur T A n c g K).holds w) (hk : K ≤ K') : (tcur T A n c g K').holds w := by
  obtain ⟨a, s, h1, h2, h3⟩ := h
  exact ⟨a, s, h1, h2, by omega⟩
theorem SepF.swapFor {F : List Nat} {w0 wr : World} {ts : List Thing} {t t' : Thing} (h : SepF F w0 wr ts) (i : Nat) (hi : ts[i]? = some t) (hf : t'.fp = t.fp) (hh : t.holds wr → t'.holds wr) : SepF F w0 wr (ts.set i t') :=
  h.upd hi (Chg.refl _ _) (hh (h.at_ i hi)) (by rw [hf]; exact h.ndat hi) (fun b hb => .inl (hf ▸ hb))
theorem SepF.more {F : List Nat} {w0 wr : World} {ts : List Thing} {T : TypeId} {A : Option Addr} {n c g K K' : Nat} (h : SepF F w0 wr ts) (i : Nat) (hi : ts[i]? = some (tcur T A n c g K)) (hk : K ≤ K') : SepF F w0 wr (ts.set i (tcur T A n c g K')) :=
  h.swapFor i hi rfl fun h => tcur_more h hk
end Mm
theorem opens_u8S : Mm.Opens Try.prog 22 (Mm.slice Mm.u8 5) := Mm.opens_slice Try.underlying22 (by kernel_rfl) (by decide) (Mm.opens_u8 Try.underlying5 (by kernel_rfl))
theorem next_left {T : TypeId} {A : Option Addr} {n c g K p q : Nat} {a s a' s' : Int} {w : World} (hb : Mm.Blk w g T [.slice A n c, .int .i64 a, .int .u64 s]) (h0 : 0 ≤ a') (h1 : a' ≤ K) :
    Mm.Left [g] w ((((w.drewN p).setCell ⟨g, 1, none⟩ (.int .i64 a')).setCell ⟨g, 2, none⟩ (.int .u64 s')).drewN q) (Mm.tcur T A n c g K) := by
  have h2 := (((hb.bel (below_drewN (Below.refl _ w) p)).set_ 1 (.int .i64 a')).set_ 2 (.int .u64 s'))
  have h3 := h2.bel (below_drewN (Below.refl _ _) q)
  have h4 : Mm.Chg [g] w (((w.drewN p).setCell ⟨g, 1, none⟩ (.int .i64 a')).setCell ⟨g, 2, none⟩ (.int .u64 s')) := ((Mm.Chg.of_below (below_drewN (Below.refl _ w) p)).setCell (by simp) _).setCell (by simp) _
  exact ⟨h4.trans (Mm.Chg.of_below (below_drewN (Below.refl _ _) q)), by simp [Mm.tcur], fun b hb => .inl (by simpa [Mm.tcur] using hb), a', s', h3, h0, h1⟩
theorem u64_bd (z : Int) : 0 ≤ IntKind.u64.wrap z ∧ IntKind.u64.wrap z < 18446744073709551616 := by rw [IntKind.wrap_u64]; omega
theorem and255 (z : Int) : 0 ≤ wrap64 (bits .and .u64 (IntKind.u64.wrap z / 1099511627776) 255) ∧ wrap64 (bits .and .u64 (IntKind.u64.wrap z / 1099511627776) 255) ≤ 255 := by
  have h := u64_bd z
  obtain ⟨m, hm⟩ : ∃ m : Nat, IntKind.u64.wrap z / 1099511627776 = m := ⟨(IntKind.u64.wrap z / 1099511627776).toNat, by omega⟩
  rw [hm, show (255 : Int) = ((255 : Nat) : Int) from rfl, bits_and_u64_nat m 255 (by omega) (by omega)]
  have h2 : m &&& 255 ≤ 255 := Nat.and_le_right
  rw [IntWalk.wrap64_in _ (by omega)]
  omega
set_option maxRecDepth 100000 in
set_option maxHeartbeats 1000000 in
theorem next_c (code : List Int) (A : Option Addr) (n c g K : Nat) (w : World) (B : Nat) (hc : Mm.SlAt Mm.u8 w B code A n c) (hB : B ≤ g) (h : (Mm.tcur 75 A n c g K).holds w) (hK : K < 4611686018427387904) :
    Calls Try.prog 81 #[.pointer (some ⟨g, 0, none⟩)] w fun e w' => ∃ b : Int, e = .returned (.int .i64 b) ∧ 0 ≤ b ∧ b ≤ 255 ∧ Mm.Left [g] w w' (Mm.tcur 75 A n c g (K + 1)) := by
  obtain ⟨a, s, hb, h0, h1⟩ := h
  have hlen : n ≤ maxLen := Nat.le_trans hc.2.1 hc.2.2.1
  unfold maxLen at hlen
  have KB := Lib.hid hb
  have c0 := hb.cell (i := 0) rfl
  have c1 := hb.cell (i := 1) rfl
  have c2 := hb.cell (i := 2) rfl
  have z0 := hb.frozen 0
  have z1 := hb.frozen 1
  have z2 := hb.frozen 2
  obtain ⟨k, rfl⟩ : ∃ k : Nat, a = k := ⟨a.toNat, by omega⟩
  clear hb
  by_cases hlt : k < n
  · obtain ⟨x, b, off, cs, hx, rfl, hbB, hat, hcell⟩ := hc.get hlt
    obtain ⟨rfl, hx0, hx1⟩ := hat
    have hcc := hcell 0 _ rfl
    rw [Nat.add_zero, show Mm.u8.size = 1 from rfl, Nat.mul_one] at hcc
    have hgb : b ≠ g := by omega
    have e1 : ((k : Nat) : Int) < (n : Nat) := by omega
    have e2 : (0 : Int) ≤ (k : Nat) := by omega
    have e3 : ((k : Nat) : Int).toNat = k := by omega
    clear hcell hx hc
    go_enter Try.func81, Try.ntmps81
    go_wp2
    go_quiet (fail)
    go_wp2
    go_quiet (fail)
    go_wp2
    go_quiet (fail)
    go_wp2
    go_ret
    exact ⟨x, rfl, hx0, hx1, next_left KB.out (by omega) (by omega)⟩
  · have e1 : ¬ ((k : Nat) : Int) < (n : Nat) := by omega
    have e2 : ¬ ((k : Nat) : Int) + 1 ≤ (n : Nat) := by omega
    clear hc
    go_enter Try.func81, Try.ntmps81
    go_wp2
    go_quiet (fail)
    go_wp2
    go_quiet (fail)
    go_wp2
    go_ret
    exact ⟨_, rfl, (and255 _).1, (and255 _).2, next_left KB.out (by omega) (by omega)⟩
set_option maxRecDepth 100000 in
theorem pick_c (code : List Int) (A : Option Addr) (n c g K : Nat) (N : Int) (w : World) (B : Nat) (hc : Mm.SlAt Mm.u8 w B code A n c) (hB : B ≤ g) (h : (Mm.tcur 75 A n c g K).holds w) (hK : K < 4611686018427387000) (hN : N ≤ 200) :
    Calls Try.prog 41 #[.pointer (some ⟨g, 0, none⟩), .int .i64 N] w fun e w' => ∃ b : Int, e = .returned (.int .i64 b) ∧ 0 ≤ b ∧ b ≤ 199 ∧ (1 ≤ N → b < N) ∧ Mm.Left [g] w w' (Mm.tcur 75 A n c g (K + 1)) := by
  by_cases h1 : N ≤ 1
  · go_enter Try.func41, Try.ntmps41
    go_wp2
    go_ret
    exact ⟨0, rfl, by omega, by omega, by omega, Mm.Chg.refl _ _, by simp [Mm.tcur], fun b hb => .inl (by simpa [Mm.tcur] using hb), Mm.tcur_more h (by omega)⟩
  · have h2 : ¬ 200 < N := by omega
    have h3 : N ≠ 0 := by omega
    go_enter Try.func41, Try.ntmps41
    go_wp2_with (go_at_call 81; refine (next_c code A n c g K _ B hc hB h (by omega)).mono ?_; rintro e w1 ⟨b, rfl, hb0, hb1, hL⟩)
    go_ret
    have hm0 : 0 ≤ b % N := Int.emod_nonneg _ h3
    have hm1 : b % N < N := Int.emod_lt_of_pos _ (by omega)
    exact ⟨_, rfl, hm0, by omega, fun _ => hm1, hL⟩
theorem one_c (code : List Int) (A : Option Addr) (n c g K : Nat) (N : Int) (w : World) (B : Nat) (hc : Mm.SlAt Mm.u8 w B code A n c) (hB : B ≤ g) (h : (Mm.tcur 75 A n c g K).holds w) (hK : K < 4611686018427387000) (hN : N ≤ 200) :
    Calls Try.prog 82 #[.pointer (some ⟨g, 0, none⟩), .int .i64 N] w fun e w' => ∃ b : Bool, e = .returned (.bool b) ∧ Mm.Left [g] w w' (Mm.tcur 75 A n c g (K + 1)) := by
  go_enter Try.func82, Try.ntmps82
  go_wp2_with (go_at_call 41; refine (pick_c code A n c g K N _ B hc hB h hK hN).mono ?_; rintro e w1 ⟨b, rfl, hb0, hb1, -, hL⟩)
  go_ret
  exact ⟨_, rfl, hL⟩
set_option maxRecDepth 100000 in
theorem among_c (code : List Int) (A : Option Addr) (n c g K : Nat) (xs : List Int) (bl m : Nat) (w : World) (B : Nat) (hc : Mm.SlAt Mm.u8 w B code A n c) (hB : B ≤ g) (h : (Mm.tcur 75 A n c g K).holds w) (hK : K < 4611686018427387000)
    (hbl : Mm.Blk w bl 3 (xs.map fun x => .int .i64 x)) (hne : bl ≠ g) (hm : xs.length = m) (h1 : 1 ≤ m) (h2 : m ≤ 200) :
    Calls Try.prog 83 #[.pointer (some ⟨g, 0, none⟩), .slice (some ⟨bl, 0, none⟩) m m] w fun e w' => ∃ v : Int, e = .returned (.int .i64 v) ∧ v ∈ xs ∧ Mm.Left [g] w w' (Mm.tcur 75 A n c g (K + 1)) := by
  go_enter Try.func83, Try.ntmps83
  have arm : ∀ (w1 : World) (b : Int), 0 ≤ b → (1 ≤ (m : Int) → b < m) → Mm.Left [g] w w1 (Mm.tcur 75 A n c g (K + 1)) → ∃ v : Int, v ∈ xs ∧ w1.cell? ⟨bl, b.toNat, none⟩ = some (.int .i64 v) ∧ 0 ≤ b ∧ b < m := fun w1 b hb0 hb1 hL => by
    have hlt := hb1 (by omega)
    have hk : b.toNat < xs.length := by omega
    have hx := List.getElem?_eq_getElem hk
    refine ⟨xs[b.toNat], List.getElem_mem hk, ?_, hb0, hlt⟩
    exact (hbl.keep (w' := w1) (hL.1.block bl hbl.lt (by simpa using hne))).cell (by rw [List.getElem?_map, hx]; rfl)
  go_wp2_with (go_at_call 41; refine (pick_c code A n c g K m _ B hc hB h hK (by omega)).mono ?_; rintro e w1 ⟨b, rfl, hb0, -, hb2, hL⟩; obtain ⟨v, hv, hcell, hb3, hb4⟩ := arm w1 b hb0 hb2 hL)
  go_ret
  exact ⟨v, rfl, hv, hL⟩
set_option maxRecDepth 100000 in
theorem of_c (code : List Int) (A : Option Addr) (n c g K : Nat) (xs : List ByteArray) (bl m : Nat) (w : World) (B : Nat) (hc : Mm.SlAt Mm.u8 w B code A n c) (hB : B ≤ g) (h : (Mm.tcur 75 A n c g K).holds w) (hK : K < 4611686018427387000)
    (hbl : Mm.Blk w bl 9 (xs.map fun x => .string x)) (hne : bl ≠ g) (hm : xs.length = m) (h1 : 1 ≤ m) (h2 : m ≤ 200) :
    Calls Try.prog 84 #[.pointer (some ⟨g, 0, none⟩), .slice (some ⟨bl, 0, none⟩) m m] w fun e w' => ∃ v : ByteArray, e = .returned (.string v) ∧ v ∈ xs ∧ Mm.Left [g] w w' (Mm.tcur 75 A n c g (K + 1)) := by
  go_enter Try.func84, Try.ntmps84
  have arm : ∀ (w1 : World) (b : Int), 0 ≤ b → (1 ≤ (m : Int) → b < m) → Mm.Left [g] w w1 (Mm.tcur 75 A n c g (K + 1)) → ∃ v : ByteArray, v ∈ xs ∧ w1.cell? ⟨bl, b.toNat, none⟩ = some (.string v) ∧ 0 ≤ b ∧ b < m := fun w1 b hb0 hb1 hL => by
    have hlt := hb1 (by omega)
    have hk : b.toNat < xs.length := by omega
    have hx := List.getElem?_eq_getElem hk
    refine ⟨xs[b.toNat], List.getElem_mem hk, ?_, hb0, hlt⟩
    exact (hbl.keep (w' := w1) (hL.1.block bl hbl.lt (by simpa using hne))).cell (by rw [List.getElem?_map, hx]; rfl)
  go_wp2_with (go_at_call 41; refine (pick_c code A n c g K m _ B hc hB h hK (by omega)).mono ?_; rintro e w1 ⟨b, rfl, hb0, -, hb2, hL⟩; obtain ⟨v, hv, hcell, hb3, hb4⟩ := arm w1 b hb0 hb2 hL)
  go_ret
  exact ⟨v, rfl, hv, hL⟩
end Go.Proofs.Ytihendiakgfpcaa

/-
  Contracts: drawn steps and plays of a replication (chapter 9). No conditions.
-/
namespace Go.Proofs.Ytihendiakgfpcaa
open Go.RowKit
attribute [local go_sem] und_cell World.cell?_alloc_some
theorem Try.infoRStep : (Try.prog.info? 53).map (fun i => (i.zero, i.size, i.bytes)) = some (some (.agg #[.int .i64 0, .int .i64 0, .string ⟨#[]⟩]), 3, 32) := by kernel_rfl
set_option maxRecDepth 100000 in
set_option maxHeartbeats 4000000 in
theorem replSteps_c (code : List Int) (A : Option Addr) (n c g K : Nat) (q : Int) (w : World) (B : Nat) (hc : Mm.SlAt Mm.u8 w B code A n c) (hBg : B ≤ g) (h : (Mm.tcur 75 A n c g K).holds w) (hK : K < 4611686018427380000) (hq : 1 ≤ q ∧ q ≤ 5) :
    Calls Try.prog 42 #[.pointer (some ⟨g, 0, none⟩), .int .i64 q] w fun e w' => ∃ (l : List ReplStep) (A1 : Option Addr) (n1 c1 : Nat) (fp : List Nat), e = .returned (.slice A1 n1 c1) ∧ l.length ≤ 121 ∧ Mm.SepF [g] w w' [Mm.tsl rReplStep 53 l (.slice A1 n1 c1) fp, Mm.tcur 75 A n c g (K + 2000)] := by
  have hgw : g < w.heap.size := (Mm.tcur 75 A n c g K).lt h g (by simp [Mm.tcur])
  have HC := Lib.hid hc
  have HS : Hid (Mm.SepF [g] w w [Mm.tcur 75 A n c g K]) := Mm.SepF.one (Mm.tcur 75 A n c g K) w h (by simp [Mm.tcur])
  clear hc h
  go_enter Try.func42, Try.ntmps42
  go_upto_if 11 with first
    | ((go_at_call 41); (refine (pick_c code A n c g _ _ _ B (HC.out.keep fun b hb => HS.out.chg.block b (by omega) (by simp; omega)) hBg (HS.out.at_ 0 rfl) (by omega) (by omega)).mono ?_); (rintro e w1 ⟨b1, rfl, b10, b1x, b11, hL⟩); ((have HS := Lib.hid (HS.out.call 0 rfl hL))); (clear hL))
    | ((go_at_call 82); (refine (one_c code A n c g _ _ _ B (HC.out.keep fun b hb => HS.out.chg.block b (by omega) (by simp; omega)) hBg (HS.out.at_ 0 rfl) (by omega) (by omega)).mono ?_); (rintro e w1 ⟨b9, rfl, hL⟩); ((have HS := Lib.hid (HS.out.call 0 rfl hL))); (clear hL))
  have b12 := b11 (by omega)
  clear b11
  go_cut [6] (fun s6 wx => ∃ m : Int, s6 = .int .i64 m ∧ 0 ≤ m ∧ m ≤ 121 ∧ Mm.SepF [g] w wx [Mm.tcur 75 A n c g (K + 3)])
  case first =>
    cases b9
    · go_wp2_with fail
      go_meet
      exact ⟨_, rfl, b10, by omega, HS.out.more 0 rfl (by omega)⟩
    · go_wp2_with ((go_at_call 41); (refine (pick_c code A n c g _ _ _ B (HC.out.keep fun b hb => HS.out.chg.block b (by omega) (by simp; omega)) hBg (HS.out.at_ 0 rfl) (by omega) (by omega)).mono ?_); (rintro e w1 ⟨b2, rfl, b20, b2x, b21, hL⟩); ((have HS := Lib.hid (HS.out.call 0 rfl hL))); (clear hL); have b22 := b21 (by omega))
      go_meet
      exact ⟨_, rfl, by omega, by omega, HS.out.more 0 rfl (by omega)⟩
  case rest =>
  obtain ⟨m, rfl, hm0, hm1, HS⟩ := hcut
  have HS := Lib.hid ((HS.add (Below.refl _ _) (t := Mm.tsl rReplStep 53 [] (.slice none 0 0) []) Mm.SlOwn.nil List.nodup_nil (fun b hb => by cases hb)))
  go_wp2_with fail
  go_loopg [5, 6] 121 (fun gg l nn wr => ∃ (k mm : Nat) (ls : List ReplStep) (A1 : Option Addr) (c1 : Nat) (fp : List Nat) (Kc : Nat), k ≤ gg ∧ nn = .int .i64 k ∧ Hid (mm = ls.length) ∧ k + mm ≤ 121 ∧ l = .slice A1 mm c1 ∧ Kc + 10 * k ≤ K + 1600 ∧ Hid (Mm.SepF [g] w wr [Mm.tsl rReplStep 53 ls (.slice A1 mm c1) fp, Mm.tcur 75 A n c g Kc]))
  case atStart => exact ⟨m.toNat, 0, [], none, 0, [], K + 3, by omega, by rw [Int.toNat_of_nonneg hm0], rfl, by omega, rfl, by omega, HS⟩
  case round =>
    obtain ⟨k, mm, ls, A1, c1, fp, Kc, hkg, rfl, hml, hkm, rfl, hKc, HS⟩ := hrel
    obtain ⟨Wr, rfl⟩ : ∃ Wr : World, Wr = wr := ⟨_, rfl⟩
    by_cases hk0 : 0 < k
    · have hk1 : (0 : Int) < (k : Nat) := by omega
      have HA := Lib.hid (HS.out.alloc' rfl 3 [.int .i64 1, .int .i64 1, .int .i64 1, .int .i64 2, .int .i64 2, .int .i64 2, .int .i64 2, .int .i64 3, .int .i64 4, .int .i64 5, .int .i64 6, .int .i64 6, .int .i64 7])
      have hgW : g < Wr.heap.size := Nat.lt_of_lt_of_le hgw HS.out.chg.size
      go_upto_if 25 with (go_at_call 83; refine (among_c code A n c g _ [1, 1, 1, 2, 2, 2, 2, 3, 4, 5, 6, 6, 7] Wr.heap.size 13 _ B (HC.out.keep fun b hb => HA.out.chg.block b (by omega) (by simp; omega)) hBg (HA.out.at_ 2 rfl) (by omega) (HA.out.at_ 0 rfl) (by omega) rfl (by omega) (by omega)).mono ?_; rintro e w1 ⟨v, rfl, hv, hL⟩; (have HS := Lib.hid ((HA.out.call 2 rfl hL).tail)); clear hL HA)
      obtain ⟨gs, hgs⟩ : ∃ gs, w1.heap.size = gs := ⟨_, rfl⟩
      obtain ⟨W2, hW2⟩ : ∃ W2, w1.alloc (.cells #[.int .i64 v, .int .i64 0, .string ⟨#[]⟩] 53) = W2 := ⟨_, rfl⟩
      have HSA := Lib.hid ((HS.out.alloc' hgs 53 [.int .i64 v, .int .i64 0, .string ⟨#[]⟩]).atW hW2)
      have hgsg : g < gs := by have := HS.out.chg.size; omega
      rw [hW2, hgs]
      have hvi : Mm.I64 v := by simp only [List.mem_cons, List.not_mem_nil, or_false] at hv; unfold Mm.I64; omega
      have HVI := Lib.hid hvi
      clear hW2 hgs hvi hv
      go_cut [] (fun wx => ∃ (kk : Int) (tx : ByteArray), Mm.I64 kk ∧ tx.size ≤ 24 ∧ Mm.SepF [g] w wx [Mm.tblk gs 53 [.int .i64 v, .int .i64 kk, .string tx], Mm.tsl rReplStep 53 ls (.slice A1 mm c1) fp, Mm.tcur 75 A n c g (Kc + 3)])
      case first =>
        by_cases h1 : v = 1
        · subst h1
          have HA := Lib.hid (HSA.out.alloc' rfl 9 [.string ⟨#[97]⟩, .string ⟨#[98]⟩, .string ⟨#[99]⟩])
          go_wp2_with fail
          refine (of_c code A n c g _ [⟨#[97]⟩, ⟨#[98]⟩, ⟨#[99]⟩] _ 3 _ B (HC.out.keep fun b hb => HA.out.chg.block b (by omega) (by simp; omega)) hBg (HA.out.at_ 3 rfl) (by omega) (HA.out.at_ 0 rfl) (by have := HSA.out.chg.size; omega) rfl (by omega) (by omega)).mono ?_
          rintro e w5 ⟨tx, rfl, htx, hL⟩
          have HS5 := Lib.hid ((HA.out.call 3 rfl hL).tail)
          clear hL HA
          have htx2 : tx.size ≤ 24 := by simp only [List.mem_cons, List.not_mem_nil, or_false] at htx; rcases htx with h | h | h <;> (rw [h]; decide)
          clear htx
          have z2 := HS5.out.frz (k := 2) 0 rfl
          have c2' := HS5.out.cell (k := 2) 0 rfl rfl
          go_wp2_with fail
          go_meet
          exact ⟨0, tx, by unfold Mm.I64; omega, htx2, (HS5.out.setBlk (k := 2) 0 rfl (.string tx)).more 2 rfl (by omega)⟩
        · have n1 : (v == 1) = false := by simpa using h1
          have H1 := Lib.hid h1
          clear h1
          go_wp2_with fail
          refine (pick_c code A n c g _ _ _ B (HC.out.keep fun b hb => HSA.out.chg.block b (by omega) (by simp; omega)) hBg (HSA.out.at_ 2 rfl) (by omega) (by omega)).mono ?_
          rintro e w3 ⟨b2, rfl, b20, b2x, b21, hL⟩
          have HS2 := Lib.hid (HSA.out.call 2 rfl hL)
          clear hL
          have z1 := HS2.out.frz (k := 1) 0 rfl
          have c1' := HS2.out.cell (k := 1) 0 rfl rfl
          go_wp2_with fail
          go_meet
          exact ⟨b2, ⟨#[]⟩, by unfold Mm.I64; omega, by decide, (HS2.out.setBlk (k := 1) 0 rfl (.int .i64 b2)).more 2 rfl (by omega)⟩
      case rest =>
        obtain ⟨kk, tx, hkk, htx, HS⟩ := hcut
        have HKK := Lib.hid hkk
        clear hkk
        have HS := Lib.hid HS
        go_upto_if 35 with ((go_at_call 82); (refine (one_c code A n c g _ _ _ B (HC.out.keep fun b hb => HS.out.chg.block b (by omega) (by simp; omega)) hBg (HS.out.at_ 2 rfl) (by omega) (by omega)).mono ?_); (rintro e w1 ⟨b9, rfl, hL⟩); ((have HS := Lib.hid (HS.out.call 2 rfl hL))); (clear hL))
        go_cut [] (fun wx => ∃ (kd kk : Int) (tx : ByteArray), Mm.I64 kd ∧ Mm.I64 kk ∧ tx.size ≤ 25 ∧ Mm.SepF [g] w wx [Mm.tblk gs 53 [.int .i64 kd, .int .i64 kk, .string tx], Mm.tsl rReplStep 53 ls (.slice A1 mm c1) fp, Mm.tcur 75 A n c g (Kc + 8)])
        case first =>
          cases b9
          · go_wp2_with fail
            go_meet
            exact ⟨v, kk, tx, HVI.out, HKK.out, by omega, HS.out.more 2 rfl (by omega)⟩
          · go_wp2_with fail
            refine (pick_c code A n c g _ _ _ B (HC.out.keep fun b hb => HS.out.chg.block b (by omega) (by simp; omega)) hBg (HS.out.at_ 2 rfl) (by omega) (by omega)).mono ?_
            rintro e w3 ⟨b3, rfl, b30, b3x, b31, hL⟩
            have HS3 := Lib.hid (HS.out.call 2 rfl hL)
            clear hL
            go_wp2_with fail
            refine (pick_c code A n c g _ _ _ B (HC.out.keep fun b hb => HS3.out.chg.block b (by omega) (by simp; omega)) hBg (HS3.out.at_ 2 rfl) (by omega) (by omega)).mono ?_
            rintro e w4 ⟨b4, rfl, b40, b4x, b41, hL⟩
            have HS4 := Lib.hid (HS3.out.call 2 rfl hL)
            clear hL
            have hw4 : IntKind.i64.wrap (b4 - 1) = b4 - 1 := IntWalk.i64_in _ (by omega)
            have HA := Lib.hid (HS4.out.alloc' rfl 9 [.string ⟨#[]⟩, .string ⟨#[97, 32, 114, 101, 99, 111, 114, 100, 32, 116, 104, 97, 116, 32, 105, 115, 32, 116, 111, 111, 32, 108, 111, 110, 103]⟩])
            go_wp2_with fail
            refine (of_c code A n c g _ [⟨#[]⟩, ⟨#[97, 32, 114, 101, 99, 111, 114, 100, 32, 116, 104, 97, 116, 32, 105, 115, 32, 116, 111, 111, 32, 108, 111, 110, 103]⟩] _ 2 _ B (HC.out.keep fun b hb => HA.out.chg.block b (by omega) (by simp; omega)) hBg (HA.out.at_ 3 rfl) (by omega) (HA.out.at_ 0 rfl) (by have := HS4.out.chg.size; omega) rfl (by omega) (by omega)).mono ?_
            rintro e w5 ⟨tx', rfl, htx', hL⟩
            have HS5 := Lib.hid ((HA.out.call 3 rfl hL).tail)
            clear hL HA
            have htx2 : tx'.size ≤ 25 := by simp only [List.mem_cons, List.not_mem_nil, or_false] at htx'; rcases htx' with h | h <;> (rw [h]; decide)
            clear htx'
            have s0 := HS5.out.cell (k := 0) 0 rfl rfl
            have s1 := HS5.out.cell (k := 1) 0 rfl rfl
            have s2 := HS5.out.cell (k := 2) 0 rfl rfl
            have z0 := HS5.out.frz (k := 0) 0 rfl
            have z1 := HS5.out.frz (k := 1) 0 rfl
            have z2 := HS5.out.frz (k := 2) 0 rfl
            go_wp2_with fail
            go_meet
            exact ⟨b3, b4 - 1, tx', by unfold Mm.I64; omega, by unfold Mm.I64; omega, htx2, (((HS5.out.setBlk (k := 0) 0 rfl (.int .i64 b3)).setBlk (k := 1) 0 rfl (.int .i64 (b4 - 1))).setBlk (k := 2) 0 rfl (.string tx')).more 2 rfl (by omega)⟩
        case rest =>
          obtain ⟨kd, kk, tx, hkd, hkk, htx, HS⟩ := hcut
          have HKD := Lib.hid (And.intro hkd hkk)
          clear hkd hkk
          have HS := Lib.hid HS
          have s0 := HS.out.cell (k := 0) 0 rfl rfl
          have s1 := HS.out.cell (k := 1) 0 rfl rfl
          have s2 := HS.out.cell (k := 2) 0 rfl rfl
          have hts : tx.size ≤ maxLen := by unfold maxLen; omega
          have HTS := Lib.hid hts
          clear hts
          obtain ⟨i0, hi, hz0, hz1, hz2⟩ := info_parts Try.infoRStep
          go_wp2_with (at_builtin; refine Mm.app_list (x := (⟨kd, kk, tx⟩ : ReplStep)) HS.out 1 rfl rfl (.tmp 45) (.tmp 47) 23 rfl i0 _ 32 Try.underlying23 hi hz0 hz1 hz2 rfl (by decide) rfl rfl (fun W => rReplStep_own_mk (x := ⟨kd, kk, tx⟩) ⟨HKD.out.1, HKD.out.2, HTS.out⟩) hml.out.symm (by unfold maxLen; omega) (by omega) ?_; intro ga cap w' fp' hs; (have HS4 := Lib.hid hs); clear hs)
          go_roundg (k - 1)
          case measure => omega
          case rel => exact ⟨k - 1, mm + 1, _, _, cap, fp', Kc + 8, Nat.le_refl _, by go_num, by show _ = _; rw [List.length_append, hml.out]; rfl, by omega, rfl, by omega, HS4.out.sel [1, 2] (by decide) rfl⟩
    · have hk1 : ¬ (0 : Int) < (k : Nat) := by omega
      go_wp2
      go_ret
      first
        | exact ⟨ls, _, _, _, fp, rfl, by rw [← hml.out]; omega, HS.out.more 1 rfl (by omega)⟩
        | exact ⟨ls, _, _, _, rfl, by rw [← hml.out]; omega, fp, HS.out.more 1 rfl (by omega)⟩
def DrawnPlay (w : World) (e : Ending) (w' : World) : Prop := ∃ (l : List ReplStep) (A1 : Option Addr) (n1 c1 : Nat) (k : Int), e = .returned (.tuple #[.int .i64 k, .slice A1 n1 c1]) ∧ 1 ≤ k ∧ k ≤ 4 ∧ l.length ≤ 121 ∧ Mm.SlAt rReplStep w' w'.heap.size l A1 n1 c1 ∧ Below w.heap.size w w'
set_option maxRecDepth 100000 in
theorem DrawPlayRepl_c (code : List Int) (A : Option Addr) (n c : Nat) (w : World) (B : Nat) (hc : Mm.SlAt Mm.u8 w B code A n c) (hB : B ≤ w.heap.size) :
    Calls Try.prog 7 #[.slice A n c] w (DrawnPlay w) := by
  have hg0 : (Mm.tcur 75 A n c w.heap.size 0).holds (w.alloc (.cells #[.slice A n c, .int .i64 0, .int .u64 0] 75)) := ⟨0, 0, Mm.Blk.new w 75 [.slice A n c, .int .i64 0, .int .u64 0], by omega, by omega⟩
  have HC := Lib.hid (hc.keep (w' := w.alloc (.cells #[.slice A n c, .int .i64 0, .int .u64 0] 75)) fun b hb => (below_new (Below.refl _ w) _).block b (by omega))
  have hsw : (w.alloc (.cells #[.slice A n c, .int .i64 0, .int .u64 0] 75)).heap.size = w.heap.size + 1 := Mm.sz1 _ _
  have HS : Hid (Mm.SepF [w.heap.size] (w.alloc (.cells #[.slice A n c, .int .i64 0, .int .u64 0] 75)) (w.alloc (.cells #[.slice A n c, .int .i64 0, .int .u64 0] 75)) [Mm.tcur 75 A n c w.heap.size 0]) := Mm.SepF.one (Mm.tcur 75 A n c w.heap.size 0) _ hg0 (by simp [Mm.tcur])
  obtain ⟨g, hg⟩ : ∃ g, w.heap.size = g := ⟨_, rfl⟩
  rw [hg] at HS hB hsw
  clear hc hg0
  go_enter Try.func7, Try.ntmps7
  go_wp2_with first
    | (go_at_call 41; refine (pick_c code A n c g _ _ _ B (HC.out.keep fun b hb => HS.out.chg.block b (by omega) (by simp; omega)) hB (HS.out.at_ 0 rfl) (by omega) (by omega)).mono ?_; rintro e w1 ⟨b1, rfl, b10, -, b11, hL⟩; (have HS := Lib.hid (HS.out.call 0 rfl hL)); have b11 := b11 (by omega); clear hL)
    | (go_at_call 42; refine (replSteps_c code A n c g _ _ _ B (HC.out.keep fun b hb => HS.out.chg.block b (by omega) (by simp; omega)) hB (HS.out.at_ 0 rfl) (by omega) (by omega)).mono ?_; rintro e w1 ⟨l, A1, n1, c1, fp, rfl, hl, hS⟩; have hch := (HS.out.chg).trans hS.chg)
  go_ret2
  refine ⟨l, _, _, _, _, rfl, by omega, by omega, hl, (hS.sl 0 rfl).weak (hS.sl 0 rfl).olt, ?_⟩
  rw [hg]
  exact Mm.Below.chg (hg ▸ below_new (Below.refl _ w) _) hch (by rw [Mm.sz1]; omega) (by simp)
end Go.Proofs.Ytihendiakgfpcaa

/-
  Contracts: what the law on certain entries asks of the program: logs that match, parts, what is certain (chapter 9). No conditions beyond those named.
-/
namespace Go.Proofs.Ytihendiakgfpcaa
open Go.RowKit
attribute [local go_sem] und_cell World.cell?_alloc_some
set_option maxRecDepth 100000 in
theorem mlClos_c (x s : Start) (gn : Nat) (w : World) (hc0 : w.cell? ⟨gn, 0, none⟩ = some (.int .i64 s.Epoch)) (hc1 : w.cell? ⟨gn, 1, none⟩ = some (.int .i64 s.At)) (hno : x.Epoch = s.Epoch → s.At = x.At) :
    Calls Try.prog 100 #[.agg #[.int .i64 x.Epoch, .int .i64 x.At], .pointer (some ⟨gn, 0, none⟩)] w fun e w' => e = .returned (.bool false) ∧ Below w.heap.size w w' := by
  have hb := below_new (Below.refl w.heap.size w) (.cells #[.int .i64 x.Epoch, .int .i64 x.At] 123)
  have HB := Lib.hid hb
  replace hc0 := below_some hb hc0
  replace hc1 := below_some hb hc1
  clear hb
  by_cases he : x.Epoch = s.Epoch
  · have f1 : (x.Epoch == s.Epoch) = true := by simpa using he
    have f2 : (x.At != s.At) = false := by have := hno he; simp [this]
    clear hno he
    go_enter Try.func100, Try.ntmps100
    go_wp2
    go_ret
    exact ⟨rfl, HB.out⟩
  · have f1 : (x.Epoch == s.Epoch) = false := by simpa using he
    clear hno he
    go_enter Try.func100, Try.ntmps100
    go_wp2
    go_ret
    exact ⟨rfl, HB.out⟩
set_option maxRecDepth 100000 in
theorem mlFind_c (s : Start) (gn : Nat) (l : List Start) (A : Option Addr) (n c : Nat) (w : World) (B : Nat) (hc0 : w.cell? ⟨gn, 0, none⟩ = some (.int .i64 s.Epoch)) (hc1 : w.cell? ⟨gn, 1, none⟩ = some (.int .i64 s.At)) (hl : Mm.SlAt rStart w B l A n c) (hB : B ≤ w.heap.size) (hno : ∀ x, x ∈ l → x.Epoch = s.Epoch → s.At = x.At) :
    Calls Try.prog 126 #[.slice A n c, .func (Fn.func 100) #[] #[.pointer (some ⟨gn, 0, none⟩)]] w fun e w' => e = .returned (.int .i64 (-1)) ∧ Below w.heap.size w w' := by
  have hn : n ≤ 9223372036854775807 := by have := hl.2.1; have := hl.2.2.1; unfold maxLen at this; omega
  have HL := Lib.hid hl
  have HC0 := Lib.hid hc0
  have HC1 := Lib.hid hc1
  have HNO := Lib.hid hno
  clear hl hc0 hc1 hno
  go_enter Try.func126, Try.ntmps126
  go_wp2
  go_loopg [5, 8] n (fun g _ i wr => ∃ k : Nat, n - k ≤ g ∧ k ≤ n ∧ i = .int .i64 k ∧ Hid (Below w.heap.size w wr))
  case atStart => exact ⟨0, Nat.le_refl _, Nat.zero_le _, rfl, Below.refl _ _⟩
  case round =>
    obtain ⟨k, hgk, hk, rfl, HB⟩ := hrel
    obtain ⟨W, rfl⟩ : ∃ W : World, W = wr := ⟨_, rfl⟩
    by_cases hlt' : k < n
    · obtain ⟨x, b, off, hx, rfl, hb, i1, i2, e0, e1⟩ := rStart_get (HL.out.keep (w' := W) fun b hb => HB.out.block b (by omega)) hlt'
      have C := mlClos_c x s gn W (below_some HB.out HC0.out) (below_some HB.out HC1.out) (HNO.out x (List.mem_of_getElem? hx))
      have f1 : (k : Int) < (n : Nat) := by omega
      have f2 : (0 : Int) ≤ (k : Nat) := by omega
      have f3 : ((k : Nat) : Int).toNat = k := by omega
      clear hx i1 i2
      go_wp2_with (go_at_call 100; (with_reducible refine C.mono ?_); clear C; rintro e w1 ⟨rfl, hb1⟩)
      go_roundg (n - (k + 1))
      case measure => omega
      case rel => exact ⟨k + 1, Nat.le_refl _, by omega, by go_num, below_step HB.out hb1⟩
    · have f1 : ¬ (k : Int) < (n : Nat) := by omega
      go_wp2
      go_ret
      exact ⟨rfl, HB.out⟩
set_option maxRecDepth 100000 in
theorem mlHas_c (s : Start) (gn : Nat) (l : List Start) (A : Option Addr) (n c : Nat) (w : World) (B : Nat) (hc0 : w.cell? ⟨gn, 0, none⟩ = some (.int .i64 s.Epoch)) (hc1 : w.cell? ⟨gn, 1, none⟩ = some (.int .i64 s.At)) (hl : Mm.SlAt rStart w B l A n c) (hB : B ≤ w.heap.size) (hno : ∀ x, x ∈ l → x.Epoch = s.Epoch → s.At = x.At) :
    Calls Try.prog 99 #[.slice A n c, .func (Fn.func 100) #[] #[.pointer (some ⟨gn, 0, none⟩)]] w fun e w' => e = .returned (.bool false) ∧ Below w.heap.size w w' := by
  have C := mlFind_c s gn l A n c w B hc0 hc1 hl hB hno
  clear hc0 hc1 hl hno
  go_enter Try.func99, Try.ntmps99
  go_wp2_with (go_at_call 126; (with_reducible refine C.mono ?_); clear C; rintro e w1 ⟨rfl, hb1⟩)
  go_ret
  exact ⟨rfl, hb1⟩
set_option maxRecDepth 100000 in
set_option maxHeartbeats 2000000 in
theorem matchLogs_c (a b : List Entry) (A : Option Addr) (n c : Nat) (A' : Option Addr) (n' c' : Nat) (w : World) (B : Nat) (ha : Mm.SlAt rEntry w B a A n c) (hb : Mm.SlAt rEntry w B b A' n' c') (hB : B ≤ w.heap.size) (hn : n ≤ 1000) (hn' : n' ≤ 1000) (hp : ∀ (j : Nat) (x y : Entry), a[j]? = some x → b[j]? = some y → x.Epoch = y.Epoch → j < Pl.part a b) (hs : ∀ s t, s ∈ Pl.starts a → t ∈ Pl.starts b → s.Epoch = t.Epoch → s.At = t.At) :
    Calls Try.prog 54 #[.slice A n c, .slice A' n' c'] w fun e w' => e = .returned (.bool true) ∧ Below w.heap.size w w' := by
  have HA := Lib.hid ha
  have HB0 := Lib.hid hb
  have HP := Lib.hid hp
  have HSS := Lib.hid hs
  have hla := ha.1
  have hlb := hb.1
  have CS1 := startsOf_c b A' n' c' w B hb hB (by omega)
  clear ha hb hp hs
  go_enter Try.func54, Try.ntmps54
  go_upto_region 3 with first
    | (go_at_call 98; (with_reducible refine CS1.mono ?_); clear CS1; rintro e w1 ⟨A1, m1, d1, f1, rfl, ho1, hnd1, hnew1, hb1⟩; (have CS2 := startsOf_c a A n c w1 B (HA.out.keep fun b hb => hb1.block b (by omega)) (Nat.le_trans hB hb1.size) (by omega)); (have R1 := Lib.hid (ho1.weak ho1.olt)); (have HB1 := Lib.hid hb1); clear ho1 hnd1 hnew1 hb1)
    | (go_at_call 98; (with_reducible refine CS2.mono ?_); clear CS2; rintro e w2 ⟨A2, m2, d2, f2, rfl, ho2, hnd2, hnew2, hb2⟩; (have R2 := Lib.hid (ho2.weak ho2.olt)); (have S1 := Lib.hid (R1.out.keep (w' := w2) fun b hb => hb2.block b hb)); (have HB2 := Lib.hid (below_step HB1.out hb2)); (have hsz2 := hb2.size); clear ho2 hnd2 hnew2 hb2)
  have hm2 : m2 ≤ 9223372036854775807 := by have := R2.out.2.1; have := R2.out.2.2.1; unfold maxLen at this; omega
  go_loopg [15] m2 (fun g i wr => ∃ k : Nat, m2 - k ≤ g ∧ k ≤ m2 ∧ i = .int .i64 k ∧ Hid (Below w2.heap.size w2 wr))
  case atStart => exact ⟨0, Nat.le_refl _, Nat.zero_le _, rfl, Below.refl _ _⟩
  case round =>
    obtain ⟨k, hgk, hk, rfl, HB⟩ := hrel
    obtain ⟨W, rfl⟩ : ∃ W : World, W = wr := ⟨_, rfl⟩
    by_cases hlt : k < m2
    · obtain ⟨s, b0, off, hx, rfl, hb, i1, i2, e0, e1⟩ := rStart_get (R2.out.keep (w' := W) fun b hb => HB.out.block b hb) hlt
      obtain ⟨gk, hgk'⟩ : ∃ gk, W.heap.size = gk := ⟨_, rfl⟩
      obtain ⟨W3, hW3⟩ : ∃ W3, W.alloc (.cells #[.int .i64 s.Epoch, .int .i64 s.At] 123) = W3 := ⟨_, rfl⟩
      have hbk : Mm.Blk W3 gk 123 [.int .i64 s.Epoch, .int .i64 s.At] := by rw [← hW3, ← hgk']; exact Mm.Blk.new W _ _
      have hb3 : Below W.heap.size W W3 := by rw [← hW3]; exact below_new (Below.refl _ _) _
      have HB3 := Lib.hid (below_step HB.out hb3)
      have C := mlHas_c s gk (Pl.starts b) A1 m1 d1 W3 w1.heap.size (hbk.cell (i := 0) rfl) (hbk.cell (i := 1) rfl) (S1.out.keep (w' := W3) fun b hb => HB3.out.block b (by omega)) (Nat.le_trans hsz2 HB3.out.size) (fun x hxm he => HSS.out s x (List.mem_of_getElem? hx) hxm he.symm)
      have f1 : (k : Int) < (m2 : Nat) := by omega
      clear hx i1 i2 hbk hb3
      go_wp2_with (go_at_call 99; (with_reducible refine C.mono ?_); clear C; rintro e w4 ⟨rfl, hb4⟩)
      go_roundg (m2 - (k + 1))
      case measure => omega
      case rel => exact ⟨k + 1, Nat.le_refl _, by omega, by go_num, below_step HB3.out hb4⟩
    · have f1 : ¬ (k : Int) < (m2 : Nat) := by omega
      have HBW := Lib.hid (below_step HB2.out HB.out)
      have QA := Lib.hid (HA.out.keep (w' := W) fun b hb => HBW.out.block b (by omega))
      have QB := Lib.hid (HB0.out.keep (w' := W) fun b hb => HBW.out.block b (by omega))
      have CP := partAt_c a b A n c A' n' c' W B QA.out QB.out (Nat.le_trans hB HBW.out.size)
      obtain ⟨p, hpp⟩ : ∃ p, Pl.part a b = p := ⟨_, rfl⟩
      rw [hpp] at CP HP
      clear hpp
      obtain ⟨m, hm⟩ : ∃ m, min n n' = m := ⟨_, rfl⟩
      have hmi : min (n : Int) (n' : Int) = (m : Nat) := by omega
      have hmn : m ≤ n := by omega
      have hmn' : m ≤ n' := by omega
      go_upto_region 10 with (go_at_call 53; (with_reducible refine CP.mono ?_); clear CP; rintro e w5 ⟨rfl, hb5⟩)
      try rw [hmi]
      go_loopg [31] m (fun g i wr => ∃ k : Nat, m - k ≤ g ∧ k ≤ m ∧ i = .int .i64 k ∧ Hid (Below w5.heap.size w5 wr))
      case atStart => exact ⟨0, Nat.le_refl _, Nat.zero_le _, rfl, Below.refl _ _⟩
      case round =>
        obtain ⟨j, hgj, hj, rfl, HB5⟩ := hrel
        obtain ⟨V, rfl⟩ : ∃ V : World, V = wr := ⟨_, rfl⟩
        by_cases hlt2 : j < m
        · have HV := Lib.hid (below_step (below_step HBW.out hb5) HB5.out)
          obtain ⟨x, b1, off1, hx, rfl, hb1, u1, u2, x0, x1⟩ := rEntry_get (HA.out.keep (w' := V) fun b hb => HV.out.block b (by omega)) (show j < n by omega)
          obtain ⟨y, b2, off2, hy, rfl, hb2, v1, v2, y0, y1⟩ := rEntry_get (HB0.out.keep (w' := V) fun b hb => HV.out.block b (by omega)) (show j < n' by omega)
          have f2 : (j : Int) < (m : Nat) := by omega
          have f3 : (0 : Int) ≤ (j : Nat) := by omega
          have f4 : ((j : Nat) : Int).toNat = j := by omega
          have f5 : (j : Int) < (n : Nat) := by omega
          have f6 : (j : Int) < (n' : Nat) := by omega
          by_cases he : x.Epoch = y.Epoch
          · have hjp := HP.out j x y hx hy he
            have f7 : (x.Epoch == y.Epoch) = true := by simpa using he
            have f8 : decide ((p : Int) ≤ (j : Nat)) = false := by simp; omega
            have f8' : decide (p ≤ j) = false := by simp; omega
            clear hx hy u1 u2 v1 v2 he hjp
            go_wp2
            refine wp_region_und (by kernel_rfl) (by kernel_rfl) ?_
            repeat (go_big_quiet_step ((first | fail)))
            refine wpQuiet_nil ?_
            intro X hX
            go_wp2
            go_roundg (m - (j + 1))
            case measure => omega
            case rel => exact ⟨j + 1, Nat.le_refl _, by omega, by go_num, below_step HB5.out hX⟩
          · have f7 : (x.Epoch == y.Epoch) = false := by simpa using he
            clear hx hy u1 u2 v1 v2 he
            go_wp2
            refine wp_region_und (by kernel_rfl) (by kernel_rfl) ?_
            repeat (go_big_quiet_step ((first | fail)))
            refine wpQuiet_nil ?_
            intro X hX
            go_wp2
            go_roundg (m - (j + 1))
            case measure => omega
            case rel => exact ⟨j + 1, Nat.le_refl _, by omega, by go_num, below_step HB5.out hX⟩
        · have f2 : ¬ (j : Int) < (m : Nat) := by omega
          have HV := Lib.hid (below_step (below_step HBW.out hb5) HB5.out)
          go_wp2
          go_ret
          exact ⟨rfl, HV.out⟩
set_option maxRecDepth 100000 in
theorem implPartAt_c (a b : List Entry) (A : Option Addr) (n c : Nat) (A' : Option Addr) (n' c' : Nat) (w : World) (B : Nat) (ha : Mm.SlAt rEntry w B a A n c) (hb : Mm.SlAt rEntry w B b A' n' c') (hB : B ≤ w.heap.size) (h1 : Pl.LogOk a) (h2 : Pl.LogOk b) :
    Calls Try.prog 14 #[.slice A n c, .slice A' n' c'] w fun e w' => e = .returned (.tuple #[.int .i64 (Pl.part a b : Nat), .bool true]) ∧ Below w.heap.size w w' := by
  have C1 := areEntries_c a A n c w B ha hB
  rw [Pl.entsOk_iff.2 h1] at C1
  have HA := Lib.hid ha
  have HB := Lib.hid hb
  have hn : n ≤ 1000 := by have := h1.len; have := ha.1; omega
  have hn' : n' ≤ 1000 := by have := h2.len; have := hb.1; omega
  have H2 := Lib.hid h2
  clear ha hb h1 h2
  go_enter Try.func14, Try.ntmps14
  go_wp2_with first
    | (go_at_call 52; (with_reducible refine C1.mono ?_); clear C1; rintro e w1 ⟨rfl, hb1⟩; (have C2 := areEntries_c b A' n' c' w1 B (HB.out.keep fun b hb => hb1.block b (by omega)) (Nat.le_trans hB hb1.size)); rw [Pl.entsOk_iff.2 H2.out] at C2)
    | (go_at_call 52; (with_reducible refine C2.mono ?_); clear C2; rintro e w2 ⟨rfl, hb2⟩; (have hb12 := below_step hb1 hb2); (have C3 := partAt_c a b A n c A' n' c' w2 B (HA.out.keep fun b hb => hb12.block b (by omega)) (HB.out.keep fun b hb => hb12.block b (by omega)) (Nat.le_trans hB hb12.size)))
    | (go_at_call 53; (with_reducible refine C3.mono ?_); clear C3; rintro e w3 ⟨rfl, hb3⟩)
  go_ret2
  exact ⟨rfl, below_step hb12 hb3⟩
set_option maxRecDepth 100000 in
theorem implMatchLogs_c (a b : List Entry) (A : Option Addr) (n c : Nat) (A' : Option Addr) (n' c' : Nat) (w : World) (B : Nat) (ha : Mm.SlAt rEntry w B a A n c) (hb : Mm.SlAt rEntry w B b A' n' c') (hB : B ≤ w.heap.size) (h1 : Pl.LogOk a) (h2 : Pl.LogOk b) (hp : ∀ (j : Nat) (x y : Entry), a[j]? = some x → b[j]? = some y → x.Epoch = y.Epoch → j < Pl.part a b) (hs : ∀ s t, s ∈ Pl.starts a → t ∈ Pl.starts b → s.Epoch = t.Epoch → s.At = t.At) :
    Calls Try.prog 15 #[.slice A n c, .slice A' n' c'] w fun e w' => e = .returned (.tuple #[.bool true, .bool true]) ∧ Below w.heap.size w w' := by
  have C1 := areEntries_c a A n c w B ha hB
  rw [Pl.entsOk_iff.2 h1] at C1
  have HA := Lib.hid ha
  have HB := Lib.hid hb
  have hn : n ≤ 1000 := by have := h1.len; have := ha.1; omega
  have hn' : n' ≤ 1000 := by have := h2.len; have := hb.1; omega
  have H2 := Lib.hid h2
  have HP := Lib.hid hp
  have HSS := Lib.hid hs
  clear ha hb h1 h2 hp hs
  go_enter Try.func15, Try.ntmps15
  go_wp2_with first
    | (go_at_call 52; (with_reducible refine C1.mono ?_); clear C1; rintro e w1 ⟨rfl, hb1⟩; (have C2 := areEntries_c b A' n' c' w1 B (HB.out.keep fun b hb => hb1.block b (by omega)) (Nat.le_trans hB hb1.size)); rw [Pl.entsOk_iff.2 H2.out] at C2)
    | (go_at_call 52; (with_reducible refine C2.mono ?_); clear C2; rintro e w2 ⟨rfl, hb2⟩; (have hb12 := below_step hb1 hb2); (have C3 := matchLogs_c a b A n c A' n' c' w2 B (HA.out.keep fun b hb => hb12.block b (by omega)) (HB.out.keep fun b hb => hb12.block b (by omega)) (Nat.le_trans hB hb12.size) hn hn' HP.out HSS.out))
    | (go_at_call 54; (with_reducible refine C3.mono ?_); clear C3; rintro e w3 ⟨rfl, hb3⟩)
  go_ret2
  exact ⟨rfl, below_step hb12 hb3⟩
theorem implGoodRepl_c (r : Repl) (cs : List Value) (w : World) (B : Nat) (hh : rRepl.at_ w B r cs) (hB : B ≤ w.heap.size) :
    Calls Try.prog 13 #[.agg cs.toArray] w fun e w' => e = .returned (.bool (Pl.replOk r)) ∧ Below w.heap.size w w' := by
  obtain ⟨A0, n0, c0, A1, n1, c1, A2, n2, c2, A3, n3, c3, rfl, -⟩ := rRepl_at hh
  have HS := Lib.hid ((Mm.SepF.start w).alloc' rfl 31 [.slice A0 n0 c0, .slice A1 n1 c1, .int .i64 r.Leader, .int .i64 r.Epoch, .slice A2 n2 c2, .slice A3 n3 c3])
  have HR := Lib.hid (rRepl.keep hh (w' := w.alloc (.cells #[.slice A0 n0 c0, .slice A1 n1 c1, .int .i64 r.Leader, .int .i64 r.Epoch, .slice A2 n2 c2, .slice A3 n3 c3] 31)) fun b hb => HS.out.bel0.block b (by omega))
  have hB2 := Nat.le_trans hB HS.out.chg.size
  clear hh
  go_enter Try.func13, Try.ntmps13
  go_wp2_with (go_at_call 50; refine (isRepl_c r _ _ B HR.out hB2).mono ?_; rintro e w1 ⟨rfl, hb1⟩)
  go_ret
  exact ⟨rfl, below_step HS.out.bel0 hb1⟩
theorem implCertainLength_c (r : Repl) (cs : List Value) (w : World) (B : Nat) (hh : rRepl.at_ w B r cs) (hB : B ≤ w.heap.size) (hw : Pl.RW r) :
    Calls Try.prog 12 #[.agg cs.toArray] w fun e w' => e = .returned (.tuple #[.int .i64 (Pl.certain r : Nat), .bool true]) ∧ Below w.heap.size w w' := by
  obtain ⟨A0, n0, c0, A1, n1, c1, A2, n2, c2, A3, n3, c3, rfl, -⟩ := rRepl_at hh
  obtain ⟨g, hg⟩ : ∃ g, w.heap.size = g := ⟨_, rfl⟩
  have HS := Lib.hid ((Mm.SepF.start w).alloc' hg 31 [.slice A0 n0 c0, .slice A1 n1 c1, .int .i64 r.Leader, .int .i64 r.Epoch, .slice A2 n2 c2, .slice A3 n3 c3])
  have HR := Lib.hid (rRepl.keep hh (w' := w.alloc (.cells #[.slice A0 n0 c0, .slice A1 n1 c1, .int .i64 r.Leader, .int .i64 r.Epoch, .slice A2 n2 c2, .slice A3 n3 c3] 31)) fun b hb => HS.out.bel0.block b (by omega))
  have hB2 := Nat.le_trans hB HS.out.chg.size
  have CI := isRepl_c r _ _ B HR.out hB2
  rw [Pl.replOk_iff.2 hw] at CI
  have HWS := Lib.hid hw.rs
  clear hh hw
  go_enter Try.func12, Try.ntmps12
  go_wp2_with first
    | (go_at_call 50; refine CI.mono ?_; rintro e w1 ⟨rfl, hb1⟩; (have HS1 := Lib.hid (HS.out.step hb1)); (have CC := certain_c r g _ w1 B (HS1.out.at_ 0 rfl) (rRepl.keep HR.out (w' := w1) fun b hb => hb1.block b (by omega)) (Nat.le_trans hB2 hb1.size) HWS.out))
    | (go_at_call 51; refine CC.mono ?_; rintro e w2 ⟨rfl, hb2⟩)
  go_ret2
  exact ⟨rfl, by first | exact below_step HS1.out.bel0 hb2 | (rw [← hg]; exact below_step HS1.out.bel0 hb2)⟩
end Go.Proofs.Ytihendiakgfpcaa

/-
  Contracts: the laws' own comparisons, at equal data, and the number of some bytes. No conditions.
-/
namespace Go.Proofs.Ytihendiakgfpcaa
open Go.RowKit
attribute [local go_sem] und_cell World.cell?_alloc_some
set_option maxRecDepth 100000 in
set_option maxHeartbeats 1000000 in
theorem sameInts_c (l : List Int) (A A' : Option Addr) (n c c' : Nat) (w : World) (B : Nat) (h1 : Mm.SlAt Mm.int w B l A n c) (h2 : Mm.SlAt Mm.int w B l A' n c') (hB : B ≤ w.heap.size) :
    Calls Try.prog 48 #[.slice A n c, .slice A' n c'] w fun e w' => e = .returned (.bool true) ∧ Below w.heap.size w w' := by
  have H1 := Lib.hid h1
  have H2 := Lib.hid h2
  have hlen : n ≤ maxLen := Nat.le_trans h1.2.1 h1.2.2.1
  unfold maxLen at hlen
  clear h1 h2
  go_enter Try.func48, Try.ntmps48
  go_wp2
  go_loopg [13] n (fun gg i wr => ∃ k : Nat, n - k ≤ gg ∧ k ≤ n ∧ i = .int .i64 k ∧ Below w.heap.size w wr)
  case atStart => exact ⟨0, Nat.le_refl _, Nat.zero_le _, rfl, Below.refl _ _⟩
  case round =>
    obtain ⟨k, hgk, hk, rfl, hbel⟩ := hrel
    have HB := Lib.hid hbel
    by_cases hlt : k < n
    · obtain ⟨x, b, off, hx, rfl, hb, b1, c1⟩ := int_get (H1.out.keep fun b hb => hbel.block b (by omega)) hlt
      obtain ⟨y, b', off', hy, rfl, hb', b1', c1'⟩ := int_get (H2.out.keep fun b hb => hbel.block b (by omega)) hlt
      rw [hx] at hy
      injection hy with hy
      subst hy
      have f1 : (k : Int) < (n : Nat) := by omega
      have f2 : (0 : Int) ≤ (k : Nat) := by omega
      clear hx hbel
      go_wp2
      go_quiet (fail)
      go_wp2
      go_roundg (n - (k + 1))
      case measure => omega
      case rel => exact ⟨k + 1, Nat.le_refl _, by omega, by go_num, below_drewN HB.out _⟩
    · go_wp2
      go_ret
      exact ⟨rfl, HB.out⟩
set_option maxRecDepth 100000 in
set_option maxHeartbeats 1000000 in
theorem sameBools_c (l : List Bool) (A A' : Option Addr) (n c c' : Nat) (w : World) (B : Nat) (h1 : Mm.SlAt Mm.bool w B l A n c) (h2 : Mm.SlAt Mm.bool w B l A' n c') (hB : B ≤ w.heap.size) :
    Calls Try.prog 10 #[.slice A n c, .slice A' n c'] w fun e w' => e = .returned (.bool true) ∧ Below w.heap.size w w' := by
  have H1 := Lib.hid h1
  have H2 := Lib.hid h2
  have hlen : n ≤ maxLen := Nat.le_trans h1.2.1 h1.2.2.1
  unfold maxLen at hlen
  clear h1 h2
  go_enter Try.func10, Try.ntmps10
  go_wp2
  go_loopg [13] n (fun gg i wr => ∃ k : Nat, n - k ≤ gg ∧ k ≤ n ∧ i = .int .i64 k ∧ Below w.heap.size w wr)
  case atStart => exact ⟨0, Nat.le_refl _, Nat.zero_le _, rfl, Below.refl _ _⟩
  case round =>
    obtain ⟨k, hgk, hk, rfl, hbel⟩ := hrel
    have HB := Lib.hid hbel
    by_cases hlt : k < n
    · obtain ⟨x, b, off, hx, rfl, hb, c1⟩ := bool_get (H1.out.keep fun b hb => hbel.block b (by omega)) hlt
      obtain ⟨y, b', off', hy, rfl, hb', c1'⟩ := bool_get (H2.out.keep fun b hb => hbel.block b (by omega)) hlt
      rw [hx] at hy
      injection hy with hy
      subst hy
      have f1 : (k : Int) < (n : Nat) := by omega
      have f2 : (0 : Int) ≤ (k : Nat) := by omega
      clear hx hbel
      go_wp2
      go_quiet (fail)
      go_wp2
      go_roundg (n - (k + 1))
      case measure => omega
      case rel => exact ⟨k + 1, Nat.le_refl _, by omega, by go_num, below_drewN HB.out _⟩
    · go_wp2
      go_ret
      exact ⟨rfl, HB.out⟩
set_option maxRecDepth 100000 in
theorem numberOf_c (code : List Int) (A : Option Addr) (n c : Nat) (w : World) (B : Nat) (h1 : Mm.SlAt Mm.u8 w B code A n c) :
    Calls Try.prog 16 #[.slice A n c] w fun e w' => ∃ k : Int, e = .returned (.int .i64 k) ∧ 0 ≤ k ∧ k < 1000003 ∧ w' = w := by
  have H1 := Lib.hid h1
  have hlen : n ≤ maxLen := Nat.le_trans h1.2.1 h1.2.2.1
  unfold maxLen at hlen
  clear h1
  go_enter Try.func16, Try.ntmps16
  go_wp2
  go_loopg [3, 8] n (fun gg v i wr => ∃ (k : Nat) (y : Int), n - k ≤ gg ∧ k ≤ n ∧ v = .int .i64 y ∧ i = .int .i64 k ∧ 0 ≤ y ∧ y < 1000003 ∧ wr = w)
  case atStart => exact ⟨0, 0, Nat.le_refl _, Nat.zero_le _, rfl, rfl, by omega, by omega, rfl⟩
  case round =>
    obtain ⟨k, y, hgk, hk, rfl, rfl, hy0, hy1, rfl⟩ := hrel
    by_cases hlt : k < n
    · obtain ⟨x, b, off, cs, hx, rfl, hb, ⟨rfl, b1, b2⟩, hc⟩ := H1.out.get hlt
      have c1 := hc 0 _ rfl
      rw [Nat.add_zero, show Mm.u8.size = 1 from rfl, Nat.mul_one] at c1
      have f1 : (k : Int) < (n : Nat) := by omega
      have f2 : (0 : Int) ≤ (k : Nat) := by omega
      clear hx hc
      go_wp2
      go_roundg (n - (k + 1))
      case measure => omega
      case rel => exact ⟨k + 1, _, Nat.le_refl _, by omega, rfl, by go_num, Int.emod_nonneg _ (by omega), Int.emod_lt_of_pos _ (by omega), rfl⟩
    · go_wp2
      go_ret
      exact ⟨y, rfl, hy0, hy1, rfl⟩
end Go.Proofs.Ytihendiakgfpcaa

/-
  Contracts: the laws' own comparison of replications, at equal data (chapter 9). No conditions.
-/
namespace Go.Proofs.Ytihendiakgfpcaa
open Go.RowKit
attribute [local go_sem] und_cell cha_cell World.cell?_alloc_some
set_option maxRecDepth 100000 in
set_option maxHeartbeats 1000000 in
theorem sameEntries_c (l : List Entry) (A A' : Option Addr) (n c c' : Nat) (w : World) (B : Nat) (h1 : Mm.SlAt rEntry w B l A n c) (h2 : Mm.SlAt rEntry w B l A' n c') (hB : B ≤ w.heap.size) :
    Calls Try.prog 49 #[.slice A n c, .slice A' n c'] w fun e w' => e = .returned (.bool true) ∧ Below w.heap.size w w' := by
  have H1 := Lib.hid h1
  have H2 := Lib.hid h2
  have hlen : n ≤ maxLen := Nat.le_trans h1.2.1 h1.2.2.1
  unfold maxLen at hlen
  clear h1 h2
  go_enter Try.func49, Try.ntmps49
  go_wp2
  go_loopg [13] n (fun gg i wr => ∃ k : Nat, n - k ≤ gg ∧ k ≤ n ∧ i = .int .i64 k ∧ Hid (Below w.heap.size w wr))
  case atStart => exact ⟨0, Nat.le_refl _, Nat.zero_le _, rfl, Below.refl _ _⟩
  case round =>
    obtain ⟨k, hgk, hk, rfl, HB⟩ := hrel
    obtain ⟨W, rfl⟩ : ∃ W : World, W = wr := ⟨_, rfl⟩
    by_cases hlt : k < n
    · obtain ⟨x, b, off, hx, rfl, hb, i1, i2, e0, e1⟩ := rEntry_get (H1.out.keep (w' := W) fun b hb => HB.out.block b (by omega)) hlt
      obtain ⟨y, b', off', hy, rfl, hb', i1', i2', e0', e1'⟩ := rEntry_get (H2.out.keep (w' := W) fun b hb => HB.out.block b (by omega)) hlt
      rw [hx] at hy
      injection hy with hy
      subst hy
      have f5 := fun W => run_neEntry x x W
      rw [Pl.eqE_iff.2 rfl] at f5
      have f1 : (k : Int) < (n : Nat) := by omega
      have f2 : (0 : Int) ≤ (k : Nat) := by omega
      have f3 : ((k : Nat) : Int).toNat = k := by omega
      clear hx i1 i2 i1' i2'
      go_wp2
      refine wp_region_und (by kernel_rfl) (by kernel_rfl) ?_
      repeat (go_big_quiet_step ((first | fail)))
      refine wpQuiet_nil ?_
      intro X hX
      go_wp2
      go_roundg (n - (k + 1))
      case measure => omega
      case rel => exact ⟨k + 1, Nat.le_refl _, by omega, by go_num, below_step HB.out hX⟩
    · have f1 : ¬ (k : Int) < (n : Nat) := by omega
      go_wp2
      go_ret
      exact ⟨rfl, HB.out⟩
set_option maxRecDepth 100000 in
set_option maxHeartbeats 2000000 in
theorem sameRepls_c (r : Repl) (cs cs2 : List Value) (w : World) (B : Nat) (h1 : rRepl.at_ w B r cs) (h2 : rRepl.at_ w B r cs2) (hB : B ≤ w.heap.size) :
    Calls Try.prog 11 #[.agg cs.toArray, .agg cs2.toArray] w fun e w' => e = .returned (.bool true) ∧ Below w.heap.size w w' := by
  obtain ⟨A0, n0, c0, A1, n1, c1, A2, n2, c2, A3, n3, c3, rfl, r0, r1, i2, i3, r2, r3⟩ := rRepl_at h1
  obtain ⟨A0', m0, c0', A1', m1, c1', A2', m2, c2', A3', m3, c3', rfl, q0, q1, j2, j3, q2, q3⟩ := rRepl_at h2
  obtain rfl : n0 = m0 := r0.1.symm.trans q0.1
  obtain rfl : n1 = m1 := r1.1.symm.trans q1.1
  obtain rfl : n2 = m2 := r2.1.symm.trans q2.1
  obtain rfl : n3 = m3 := r3.1.symm.trans q3.1
  have l0 : n0 ≤ maxLen := Nat.le_trans r0.2.1 r0.2.2.1
  unfold maxLen at l0
  have R0 := Lib.hid r0
  have R1 := Lib.hid r1
  have R2 := Lib.hid r2
  have R3 := Lib.hid r3
  have Q0 := Lib.hid q0
  have Q1 := Lib.hid q1
  have Q2 := Lib.hid q2
  have Q3 := Lib.hid q3
  clear h1 h2 r0 r1 r2 r3 q0 q1 q2 q3 i2 i3 j2 j3
  go_enter Try.func11, Try.ntmps11
  go_upto_region 1 with fail
  obtain ⟨ga, hga⟩ : ∃ ga, w.heap.size = ga := ⟨_, rfl⟩
  obtain ⟨gb, hgb⟩ : ∃ gb, ga + 1 = gb := ⟨_, rfl⟩
  obtain ⟨W0, hW0⟩ : ∃ W0, (w.alloc (.cells #[.slice A0 n0 c0, .slice A1 n1 c1, .int .i64 r.Leader, .int .i64 r.Epoch, .slice A2 n2 c2, .slice A3 n3 c3] 31)).alloc (.cells #[.slice A0' n0 c0', .slice A1' n1 c1', .int .i64 r.Leader, .int .i64 r.Epoch, .slice A2' n2 c2', .slice A3' n3 c3'] 31) = W0 := ⟨_, rfl⟩
  have HS0 := Lib.hid ((((Mm.SepF.start w).alloc' hga 31 [.slice A0 n0 c0, .slice A1 n1 c1, .int .i64 r.Leader, .int .i64 r.Epoch, .slice A2 n2 c2, .slice A3 n3 c3]).alloc' (g := gb) (by rw [Mm.sz1, hga, hgb]) 31 [.slice A0' n0 c0', .slice A1' n1 c1', .int .i64 r.Leader, .int .i64 r.Epoch, .slice A2' n2 c2', .slice A3' n3 c3']).atW hW0)
  rw [hW0, hga, hgb]
  have HGA := Lib.hid hga
  clear hW0 hga hgb
  have HB0 := Lib.hid HS0.out.bel0
  have HBW := Lib.hid (Nat.le_trans hB HB0.out.size)
  have HX := Lib.hid (Below.refl W0.heap.size W0)
  have b0 := below_some HX.out (HS0.out.cell (k := 0) 0 rfl rfl)
  have b1 := below_some HX.out (HS0.out.cell (k := 1) 0 rfl rfl)
  have b2 := below_some HX.out (HS0.out.cell (k := 2) 0 rfl rfl)
  have b3 := below_some HX.out (HS0.out.cell (k := 3) 0 rfl rfl)
  have b4 := below_some HX.out (HS0.out.cell (k := 4) 0 rfl rfl)
  have b5 := below_some HX.out (HS0.out.cell (k := 5) 0 rfl rfl)
  have d0 := below_some HX.out (HS0.out.cell (k := 0) 1 rfl rfl)
  have d1 := below_some HX.out (HS0.out.cell (k := 1) 1 rfl rfl)
  have d2 := below_some HX.out (HS0.out.cell (k := 2) 1 rfl rfl)
  have d3 := below_some HX.out (HS0.out.cell (k := 3) 1 rfl rfl)
  have d4 := below_some HX.out (HS0.out.cell (k := 4) 1 rfl rfl)
  have d5 := below_some HX.out (HS0.out.cell (k := 5) 1 rfl rfl)
  go_wp2_with first | ((go_at_call 10); ((with_reducible refine (sameBools_c r.Down A1 A1' n1 c1 c1' W0 B (R1.out.keep (w' := W0) fun b hb => (HX.out.block b (by have := HBW.out; omega)).trans (HB0.out.block b (by omega))) (Q1.out.keep (w' := W0) fun b hb => (HX.out.block b (by have := HBW.out; omega)).trans (HB0.out.block b (by omega))) (Nat.le_trans HBW.out HX.out.size)).mono ?_)); (rintro e w1 ⟨rfl, hX⟩); ((clear b0 b1 b2 b3 b4 b5 d0 d1 d2 d3 d4 d5)); ((replace HX := Lib.hid (below_step HX.out hX))); (clear hX); ((have b0 := below_some HX.out (HS0.out.cell (k := 0) 0 rfl rfl)); (have b1 := below_some HX.out (HS0.out.cell (k := 1) 0 rfl rfl)); (have b2 := below_some HX.out (HS0.out.cell (k := 2) 0 rfl rfl)); (have b3 := below_some HX.out (HS0.out.cell (k := 3) 0 rfl rfl)); (have b4 := below_some HX.out (HS0.out.cell (k := 4) 0 rfl rfl)); (have b5 := below_some HX.out (HS0.out.cell (k := 5) 0 rfl rfl)); (have d0 := below_some HX.out (HS0.out.cell (k := 0) 1 rfl rfl)); (have d1 := below_some HX.out (HS0.out.cell (k := 1) 1 rfl rfl)); (have d2 := below_some HX.out (HS0.out.cell (k := 2) 1 rfl rfl)); (have d3 := below_some HX.out (HS0.out.cell (k := 3) 1 rfl rfl)); (have d4 := below_some HX.out (HS0.out.cell (k := 4) 1 rfl rfl)); (have d5 := below_some HX.out (HS0.out.cell (k := 5) 1 rfl rfl)))) | ((go_at_call 48); ((with_reducible refine (sameInts_c r.InSync A2 A2' n2 c2 c2' w1 B (R2.out.keep (w' := w1) fun b hb => (HX.out.block b (by have := HBW.out; omega)).trans (HB0.out.block b (by omega))) (Q2.out.keep (w' := w1) fun b hb => (HX.out.block b (by have := HBW.out; omega)).trans (HB0.out.block b (by omega))) (Nat.le_trans HBW.out HX.out.size)).mono ?_)); (rintro e w2 ⟨rfl, hX⟩); ((clear b0 b1 b2 b3 b4 b5 d0 d1 d2 d3 d4 d5)); ((replace HX := Lib.hid (below_step HX.out hX))); (clear hX); ((have b0 := below_some HX.out (HS0.out.cell (k := 0) 0 rfl rfl)); (have b1 := below_some HX.out (HS0.out.cell (k := 1) 0 rfl rfl)); (have b2 := below_some HX.out (HS0.out.cell (k := 2) 0 rfl rfl)); (have b3 := below_some HX.out (HS0.out.cell (k := 3) 0 rfl rfl)); (have b4 := below_some HX.out (HS0.out.cell (k := 4) 0 rfl rfl)); (have b5 := below_some HX.out (HS0.out.cell (k := 5) 0 rfl rfl)); (have d0 := below_some HX.out (HS0.out.cell (k := 0) 1 rfl rfl)); (have d1 := below_some HX.out (HS0.out.cell (k := 1) 1 rfl rfl)); (have d2 := below_some HX.out (HS0.out.cell (k := 2) 1 rfl rfl)); (have d3 := below_some HX.out (HS0.out.cell (k := 3) 1 rfl rfl)); (have d4 := below_some HX.out (HS0.out.cell (k := 4) 1 rfl rfl)); (have d5 := below_some HX.out (HS0.out.cell (k := 5) 1 rfl rfl)))) | ((go_at_call 49); ((with_reducible refine (sameEntries_c r.Certain A3 A3' n3 c3 c3' w2 B (R3.out.keep (w' := w2) fun b hb => (HX.out.block b (by have := HBW.out; omega)).trans (HB0.out.block b (by omega))) (Q3.out.keep (w' := w2) fun b hb => (HX.out.block b (by have := HBW.out; omega)).trans (HB0.out.block b (by omega))) (Nat.le_trans HBW.out HX.out.size)).mono ?_)); (rintro e w3 ⟨rfl, hX⟩); ((clear b0 b1 b2 b3 b4 b5 d0 d1 d2 d3 d4 d5)); ((replace HX := Lib.hid (below_step HX.out hX))); (clear hX); ((have b0 := below_some HX.out (HS0.out.cell (k := 0) 0 rfl rfl)); (have b1 := below_some HX.out (HS0.out.cell (k := 1) 0 rfl rfl)); (have b2 := below_some HX.out (HS0.out.cell (k := 2) 0 rfl rfl)); (have b3 := below_some HX.out (HS0.out.cell (k := 3) 0 rfl rfl)); (have b4 := below_some HX.out (HS0.out.cell (k := 4) 0 rfl rfl)); (have b5 := below_some HX.out (HS0.out.cell (k := 5) 0 rfl rfl)); (have d0 := below_some HX.out (HS0.out.cell (k := 0) 1 rfl rfl)); (have d1 := below_some HX.out (HS0.out.cell (k := 1) 1 rfl rfl)); (have d2 := below_some HX.out (HS0.out.cell (k := 2) 1 rfl rfl)); (have d3 := below_some HX.out (HS0.out.cell (k := 3) 1 rfl rfl)); (have d4 := below_some HX.out (HS0.out.cell (k := 4) 1 rfl rfl)); (have d5 := below_some HX.out (HS0.out.cell (k := 5) 1 rfl rfl))))
  clear b0 b1 b2 b3 b4 b5 d0 d1 d2 d3 d4 d5
  have HXX := Lib.hid HX.out
  clear HX
  go_loopg [54] n0 (fun gg i wr => ∃ k : Nat, n0 - k ≤ gg ∧ k ≤ n0 ∧ i = .int .i64 k ∧ Hid (Below W0.heap.size W0 wr))
  case atStart => exact ⟨0, Nat.le_refl _, Nat.zero_le _, rfl, HXX.out⟩
  case round =>
    clear HXX
    obtain ⟨k, hgk, hk, rfl, HX⟩ := hrel
    obtain ⟨W1, rfl⟩ : ∃ W1 : World, W1 = wr := ⟨_, rfl⟩
    by_cases hlt : k < n0
    · have b0 := below_some HX.out (HS0.out.cell (k := 0) 0 rfl rfl)
      have d0 := below_some HX.out (HS0.out.cell (k := 0) 1 rfl rfl)
      obtain ⟨x, b, off, P1, p1, t1, hx, rfl, hb, uf0, uc0⟩ := rEntryS_get (R0.out.keep (w' := W1) fun b hb => (HX.out.block b (Nat.lt_of_lt_of_le hb HBW.out)).trans (HB0.out.block b (Nat.lt_of_lt_of_le hb hB))) hlt
      obtain ⟨y, b', off', P2, p2, t2, hy, rfl, hb', vf0, vc0⟩ := rEntryS_get (Q0.out.keep (w' := W1) fun b hb => (HX.out.block b (Nat.lt_of_lt_of_le hb HBW.out)).trans (HB0.out.block b (Nat.lt_of_lt_of_le hb hB))) hlt
      obtain rfl : x = y := by rw [hx] at hy; injection hy
      obtain rfl : p1 = p2 := uf0.1.symm.trans vf0.1
      have hBw : B ≤ W1.heap.size := Nat.le_trans HBW.out HX.out.size
      have CE := fun z : Und W1 => und_call z (sameEntries_c x P1 P2 p1 t1 t2 (und W1 z) B (uf0.und hBw z) (vf0.und hBw z) (Nat.le_trans hBw (und_size z)))
      have f1 : (k : Int) < (n0 : Nat) := by omega
      have f2 : (0 : Int) ≤ (k : Nat) := by omega
      have f3 : ((k : Nat) : Int).toNat = k := by omega
      clear hx hy uf0 vf0
      go_wp2
      refine wp_region_und (by kernel_rfl) (by kernel_rfl) ?_
      repeat (go_big_quiet_step ((first | (go_at_call 49; with_reducible exact CE _))))
      refine wpQuiet_nil ?_
      intro X hX
      go_wp2
      go_roundg (n0 - (k + 1))
      case measure => omega
      case rel => exact ⟨k + 1, Nat.le_refl _, by omega, by go_num, below_step HX.out hX⟩
    · have f1 : ¬ (k : Int) < (n0 : Nat) := by omega
      go_wp2
      go_ret
      exact ⟨rfl, below_step HB0.out HX.out⟩
end Go.Proofs.Ytihendiakgfpcaa

/-
  What stays true while a call only makes memory: a list of facts that move on together. No program in sight. No conditions.
-/
namespace Go.Proofs.Ytihendiakgfpcaa
open Go.RowKit
namespace Mm
structure Fact where
  holds : World → Prop
  keep : ∀ {w w' : World}, holds w → Below w.heap.size w w' → holds w'
/-- a reading of a struct, a slice; a block known whole -/
def frd {α : Type} (R : Rep α) (x : α) (cs : List Value) : Fact := ⟨fun w => R.at_ w w.heap.size x cs, fun h hb => R.more (R.keep h fun b hb' => hb.block b hb') hb.size⟩
def fsl {α : Type} (E : Rep α) (xs : List α) (A : Option Addr) (n c : Nat) : Fact := ⟨fun w => SlAt E w w.heap.size xs A n c, fun h hb => (h.keep fun b hb' => hb.block b hb').more hb.size⟩
def fbk (g : Nat) (t : TypeId) (cs : List Value) : Fact := ⟨fun w => Blk w g t cs, fun h hb => h.bel hb⟩
structure Facts (w0 w : World) (fs : List Fact) : Prop where
  bel : Below w0.heap.size w0 w
  all : ∀ f, f ∈ fs → f.holds w
section
variable {w0 w w' : World} {fs gs : List Fact} {f : Fact}
theorem Facts.nil (w : World) : Facts w w [] := ⟨Below.refl _ _, fun f h => by cases h⟩
theorem Facts.step (h : Facts w0 w fs) (hb : Below w.heap.size w w') : Facts w0 w' fs := ⟨below_step h.bel hb, fun f hf => f.keep (h.all f hf) hb⟩
theorem Facts.add (h : Facts w0 w fs) (hb : Below w.heap.size w w') (hf : f.holds w') : Facts w0 w' (fs ++ [f]) :=
  ⟨below_step h.bel hb, fun g hg => by
    rcases List.mem_append.1 hg with hg | hg
    · exact g.keep (h.all g hg) hb
    · rw [List.mem_singleton.1 hg]; exact hf⟩
theorem Facts.put (h : Facts w0 w fs) (hf : f.holds w) : Facts w0 w (fs ++ [f]) := h.add (Below.refl _ _) hf
/-- a variable of its own: its block, laid at the world's end -/
theorem Facts.var {g : Nat} (h : Facts w0 w fs) (hg : w.heap.size = g) (t : TypeId) (cs : List Value) : Facts w0 (w.alloc (.cells cs.toArray t)) (fs ++ [fbk g t cs]) := by
  subst hg
  exact h.add (below_new (Below.refl _ _) _) (Blk.new w t cs)
theorem Facts.at_ (h : Facts w0 w fs) (i : Nat) (hi : fs[i]? = some f) : f.holds w := h.all f (List.mem_of_getElem? hi)
theorem Facts.rd {α : Type} {R : Rep α} {x : α} {cs : List Value} (h : Facts w0 w fs) (i : Nat) (hi : fs[i]? = some (frd R x cs)) : R.at_ w w.heap.size x cs := h.at_ i hi
theorem Facts.sl {α : Type} {E : Rep α} {xs : List α} {A : Option Addr} {n c : Nat} (h : Facts w0 w fs) (i : Nat) (hi : fs[i]? = some (fsl E xs A n c)) : SlAt E w w.heap.size xs A n c := h.at_ i hi
theorem Facts.cell {g k : Nat} {t : TypeId} {cs : List Value} {u : Value} (h : Facts w0 w fs) (i : Nat) (hi : fs[i]? = some (fbk g t cs)) (hu : cs[k]? = some u) : w.cell? ⟨g, k, none⟩ = some u := (show Blk w g t cs from h.at_ i hi).cell hu
theorem Facts.und (h : Facts w0 w fs) (x : Und w) : Facts w0 (und w x) fs := h.step x.h
theorem Facts.fewer (h : Facts w0 w fs) (hs : gs.Sublist fs) : Facts w0 w gs := ⟨h.bel, fun f hf => h.all f (hs.subset hf)⟩
end
end Mm
end Go.Proofs.Ytihendiakgfpcaa
