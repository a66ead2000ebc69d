/-
  Contracts: the cursor that draws choices from bytes. No conditions.
-/
import Derived.Test.YtjmcbggdckfefaaSf
import Derived.Test.YtjmcbggdckfefaaWa
import Derived.Lib.Hide
import Derived.Deep.DeepFit
import Derived.Deep.RegionLaw
import Derived.Test.YtjmcbggdckfefaaOp
import Derived.Deep.LoopGhost
import Derived.Laws.Bits64b
import Derived.WalkSmall
import Derived.Test.YtjmcbggdckfefaaQt
namespace Go.Proofs.Ytjmcbggdckfefaa
open Go.RowKit
attribute [local go_sem] und_cell World.cell?_alloc_some
namespace Mm
def U8 (n : Int) : Prop := 0 ≤ n ∧ n ≤ 255
def u8 : Rep Int := flat 1 (fun n => [.int .u8 n]) U8 (fun _ => rfl) (fun _ u hu => by rw [List.mem_singleton.1 hu]; rfl)
theorem opens_u8 {P : Program} {t : TypeId} (ht : P.underlying t = some (.int .u8)) (hc : P.cellsOf t = 1) : Opens P t u8 := ⟨hc, fun H enc w base spare held fuel cs x h => by
  obtain ⟨n, rfl, _, hw⟩ := DataW.trod_int ht h
  refine ⟨n, rfl, ?_⟩
  simp [Lit.wf, IntKind.min, IntKind.max, IntKind.signed, IntKind.bits] at hw
  unfold U8
  omega⟩
/-- a cursor: its block -/
def tcur (T : TypeId) (A : Option Addr) (n c g K : Nat) : Thing :=
  ⟨[g], fun w => ∃ at_ seed : Int, Blk w g T [.slice A n c, .int .i64 at_, .int .u64 seed] ∧ 0 ≤ at_ ∧ at_ ≤ K, fun ⟨a, s, h1, h2⟩ k => ⟨a, s, h1.keep (k g (by simp)), h2⟩, fun ⟨a, s, h1, h2⟩ b hb => by rw [List.mem_singleton.1 hb]; exact h1.lt⟩
theorem tcur_more {T : TypeId} {A : Option Addr} {n c g K K' : Nat} {w : World} (h : (tcur T A n c g K).holds w) (hk : K ≤ K') : (tcur T A n c g K').holds w := by
  obtain ⟨a, s, h1, h2, h3⟩ := h
  exact ⟨a, s, h1, h2, by omega⟩
theorem SepF.swapFor {F : List Nat} {w0 wr : World} {ts : List Thing} {t t' : Thing} (h : SepF F w0 wr ts) (i : Nat) (hi : ts[i]? = some t) (hf : t'.fp = t.fp) (hh : t.holds wr → t'.holds wr) : SepF F w0 wr (ts.set i t') :=
  h.upd hi (Chg.refl _ _) (hh (h.at_ i hi)) (by rw [hf]; exact h.ndat hi) (fun b hb => .inl (hf ▸ hb))
theorem SepF.more {F : List Nat} {w0 wr : World} {ts : List Thing} {T : TypeId} {A : Option Addr} {n c g K K' : Nat} (h : SepF F w0 wr ts) (i : Nat) (hi : ts[i]? = some (tcur T A n c g K)) (hk : K ≤ K') : SepF F w0 wr (ts.set i (tcur T A n c g K')) :=
  h.swapFor i hi rfl fun h => tcur_more h hk
end Mm
theorem opens_u8S : Mm.Opens Try.prog 50 (Mm.slice Mm.u8 5) := Mm.opens_slice Try.underlying50 (by kernel_rfl) (by decide) (Mm.opens_u8 Try.underlying5 (by kernel_rfl))
theorem next_left {T : TypeId} {A : Option Addr} {n c g K p q : Nat} {a s a' s' : Int} {w : World} (hb : Mm.Blk w g T [.slice A n c, .int .i64 a, .int .u64 s]) (h0 : 0 ≤ a') (h1 : a' ≤ K) :
    Mm.Left [g] w ((((w.drewN p).setCell ⟨g, 1, none⟩ (.int .i64 a')).setCell ⟨g, 2, none⟩ (.int .u64 s')).drewN q) (Mm.tcur T A n c g K) := by
  have h2 := (((hb.bel (below_drewN (Below.refl _ w) p)).set_ 1 (.int .i64 a')).set_ 2 (.int .u64 s'))
  have h3 := h2.bel (below_drewN (Below.refl _ _) q)
  have h4 : Mm.Chg [g] w (((w.drewN p).setCell ⟨g, 1, none⟩ (.int .i64 a')).setCell ⟨g, 2, none⟩ (.int .u64 s')) := ((Mm.Chg.of_below (below_drewN (Below.refl _ w) p)).setCell (by simp) _).setCell (by simp) _
  exact ⟨h4.trans (Mm.Chg.of_below (below_drewN (Below.refl _ _) q)), by simp [Mm.tcur], fun b hb => .inl (by simpa [Mm.tcur] using hb), a', s', h3, h0, h1⟩
theorem u64_bd (z : Int) : 0 ≤ IntKind.u64.wrap z ∧ IntKind.u64.wrap z < 18446744073709551616 := by rw [IntKind.wrap_u64]; omega
theorem and255 (z : Int) : 0 ≤ wrap64 (bits .and .u64 (IntKind.u64.wrap z / 1099511627776) 255) ∧ wrap64 (bits .and .u64 (IntKind.u64.wrap z / 1099511627776) 255) ≤ 255 := by
  have h := u64_bd z
  obtain ⟨m, hm⟩ : ∃ m : Nat, IntKind.u64.wrap z / 1099511627776 = m := ⟨(IntKind.u64.wrap z / 1099511627776).toNat, by omega⟩
  rw [hm, show (255 : Int) = ((255 : Nat) : Int) from rfl, bits_and_u64_nat m 255 (by omega) (by omega)]
  have h2 : m &&& 255 ≤ 255 := Nat.and_le_right
  rw [IntWalk.wrap64_in _ (by omega)]
  omega
set_option maxRecDepth 100000 in
set_option maxHeartbeats 1000000 in
theorem next_c (code : List Int) (A : Option Addr) (n c g K : Nat) (w : World) (B : Nat) (hc : Mm.SlAt Mm.u8 w B code A n c) (hB : B ≤ g) (h : (Mm.tcur 92 A n c g K).holds w) (hK : K < 4611686018427387904) :
    Calls Try.prog 99 #[.pointer (some ⟨g, 0, none⟩)] w fun e w' => ∃ b : Int, e = .returned (.int .i64 b) ∧ 0 ≤ b ∧ b ≤ 255 ∧ Mm.Left [g] w w' (Mm.tcur 92 A n c g (K + 1)) := by
  obtain ⟨a, s, hb, h0, h1⟩ := h
  have hlen : n ≤ maxLen := Nat.le_trans hc.2.1 hc.2.2.1
  unfold maxLen at hlen
  have KB := Lib.hid hb
  have c0 := hb.cell (i := 0) rfl
  have c1 := hb.cell (i := 1) rfl
  have c2 := hb.cell (i := 2) rfl
  have z0 := hb.frozen 0
  have z1 := hb.frozen 1
  have z2 := hb.frozen 2
  obtain ⟨k, rfl⟩ : ∃ k : Nat, a = k := ⟨a.toNat, by omega⟩
  clear hb
  by_cases hlt : k < n
  · obtain ⟨x, b, off, cs, hx, rfl, hbB, hat, hcell⟩ := hc.get hlt
    obtain ⟨rfl, hx0, hx1⟩ := hat
    have hcc := hcell 0 _ rfl
    rw [Nat.add_zero, show Mm.u8.size = 1 from rfl, Nat.mul_one] at hcc
    have hgb : b ≠ g := by omega
    have e1 : ((k : Nat) : Int) < (n : Nat) := by omega
    have e2 : (0 : Int) ≤ (k : Nat) := by omega
    have e3 : ((k : Nat) : Int).toNat = k := by omega
    clear hcell hx hc
    go_enter Try.func99, Try.ntmps99
    go_wp2
    go_quiet (fail)
    go_wp2
    go_quiet (fail)
    go_wp2
    go_quiet (fail)
    go_wp2
    go_ret
    exact ⟨x, rfl, hx0, hx1, next_left KB.out (by omega) (by omega)⟩
  · have e1 : ¬ ((k : Nat) : Int) < (n : Nat) := by omega
    have e2 : ¬ ((k : Nat) : Int) + 1 ≤ (n : Nat) := by omega
    clear hc
    go_enter Try.func99, Try.ntmps99
    go_wp2
    go_quiet (fail)
    go_wp2
    go_quiet (fail)
    go_wp2
    go_ret
    exact ⟨_, rfl, (and255 _).1, (and255 _).2, next_left KB.out (by omega) (by omega)⟩
set_option maxRecDepth 100000 in
theorem pick_c (code : List Int) (A : Option Addr) (n c g K : Nat) (N : Int) (w : World) (B : Nat) (hc : Mm.SlAt Mm.u8 w B code A n c) (hB : B ≤ g) (h : (Mm.tcur 92 A n c g K).holds w) (hK : K < 4611686018427387000) (hN : N ≤ 200) :
    Calls Try.prog 80 #[.pointer (some ⟨g, 0, none⟩), .int .i64 N] w fun e w' => ∃ b : Int, e = .returned (.int .i64 b) ∧ 0 ≤ b ∧ b ≤ 199 ∧ (1 ≤ N → b < N) ∧ Mm.Left [g] w w' (Mm.tcur 92 A n c g (K + 1)) := by
  by_cases h1 : N ≤ 1
  · go_enter Try.func80, Try.ntmps80
    go_wp2
    go_ret
    exact ⟨0, rfl, by omega, by omega, by omega, Mm.Chg.refl _ _, by simp [Mm.tcur], fun b hb => .inl (by simpa [Mm.tcur] using hb), Mm.tcur_more h (by omega)⟩
  · have h2 : ¬ 200 < N := by omega
    have h3 : N ≠ 0 := by omega
    go_enter Try.func80, Try.ntmps80
    go_wp2_with (go_at_call 99; refine (next_c code A n c g K _ B hc hB h (by omega)).mono ?_; rintro e w1 ⟨b, rfl, hb0, hb1, hL⟩)
    go_ret
    have hm0 : 0 ≤ b % N := Int.emod_nonneg _ h3
    have hm1 : b % N < N := Int.emod_lt_of_pos _ (by omega)
    exact ⟨_, rfl, hm0, by omega, fun _ => hm1, hL⟩
theorem one_c (code : List Int) (A : Option Addr) (n c g K : Nat) (N : Int) (w : World) (B : Nat) (hc : Mm.SlAt Mm.u8 w B code A n c) (hB : B ≤ g) (h : (Mm.tcur 92 A n c g K).holds w) (hK : K < 4611686018427387000) (hN : N ≤ 200) :
    Calls Try.prog 100 #[.pointer (some ⟨g, 0, none⟩), .int .i64 N] w fun e w' => ∃ b : Bool, e = .returned (.bool b) ∧ Mm.Left [g] w w' (Mm.tcur 92 A n c g (K + 1)) := by
  go_enter Try.func100, Try.ntmps100
  go_wp2_with (go_at_call 80; refine (pick_c code A n c g K N _ B hc hB h hK hN).mono ?_; rintro e w1 ⟨b, rfl, hb0, hb1, -, hL⟩)
  go_ret
  exact ⟨_, rfl, hL⟩
set_option maxRecDepth 100000 in
theorem among_c (code : List Int) (A : Option Addr) (n c g K : Nat) (xs : List Int) (bl m : Nat) (w : World) (B : Nat) (hc : Mm.SlAt Mm.u8 w B code A n c) (hB : B ≤ g) (h : (Mm.tcur 92 A n c g K).holds w) (hK : K < 4611686018427387000)
    (hbl : Mm.Blk w bl 3 (xs.map fun x => .int .i64 x)) (hne : bl ≠ g) (hm : xs.length = m) (h1 : 1 ≤ m) (h2 : m ≤ 200) :
    Calls Try.prog 86 #[.pointer (some ⟨g, 0, none⟩), .slice (some ⟨bl, 0, none⟩) m m] w fun e w' => ∃ v : Int, e = .returned (.int .i64 v) ∧ v ∈ xs ∧ Mm.Left [g] w w' (Mm.tcur 92 A n c g (K + 1)) := by
  go_enter Try.func86, Try.ntmps86
  have arm : ∀ (w1 : World) (b : Int), 0 ≤ b → (1 ≤ (m : Int) → b < m) → Mm.Left [g] w w1 (Mm.tcur 92 A n c g (K + 1)) → ∃ v : Int, v ∈ xs ∧ w1.cell? ⟨bl, b.toNat, none⟩ = some (.int .i64 v) ∧ 0 ≤ b ∧ b < m := fun w1 b hb0 hb1 hL => by
    have hlt := hb1 (by omega)
    have hk : b.toNat < xs.length := by omega
    have hx := List.getElem?_eq_getElem hk
    refine ⟨xs[b.toNat], List.getElem_mem hk, ?_, hb0, hlt⟩
    exact (hbl.keep (w' := w1) (hL.1.block bl hbl.lt (by simpa using hne))).cell (by rw [List.getElem?_map, hx]; rfl)
  go_wp2_with (go_at_call 80; refine (pick_c code A n c g K m _ B hc hB h hK (by omega)).mono ?_; rintro e w1 ⟨b, rfl, hb0, -, hb2, hL⟩; obtain ⟨v, hv, hcell, hb3, hb4⟩ := arm w1 b hb0 hb2 hL)
  go_ret
  exact ⟨v, rfl, hv, hL⟩
set_option maxRecDepth 100000 in
theorem of_c (code : List Int) (A : Option Addr) (n c g K : Nat) (xs : List ByteArray) (bl m : Nat) (w : World) (B : Nat) (hc : Mm.SlAt Mm.u8 w B code A n c) (hB : B ≤ g) (h : (Mm.tcur 92 A n c g K).holds w) (hK : K < 4611686018427387000)
    (hbl : Mm.Blk w bl 9 (xs.map fun x => .string x)) (hne : bl ≠ g) (hm : xs.length = m) (h1 : 1 ≤ m) (h2 : m ≤ 200) :
    Calls Try.prog 101 #[.pointer (some ⟨g, 0, none⟩), .slice (some ⟨bl, 0, none⟩) m m] w fun e w' => ∃ v : ByteArray, e = .returned (.string v) ∧ v ∈ xs ∧ Mm.Left [g] w w' (Mm.tcur 92 A n c g (K + 1)) := by
  go_enter Try.func101, Try.ntmps101
  have arm : ∀ (w1 : World) (b : Int), 0 ≤ b → (1 ≤ (m : Int) → b < m) → Mm.Left [g] w w1 (Mm.tcur 92 A n c g (K + 1)) → ∃ v : ByteArray, v ∈ xs ∧ w1.cell? ⟨bl, b.toNat, none⟩ = some (.string v) ∧ 0 ≤ b ∧ b < m := fun w1 b hb0 hb1 hL => by
    have hlt := hb1 (by omega)
    have hk : b.toNat < xs.length := by omega
    have hx := List.getElem?_eq_getElem hk
    refine ⟨xs[b.toNat], List.getElem_mem hk, ?_, hb0, hlt⟩
    exact (hbl.keep (w' := w1) (hL.1.block bl hbl.lt (by simpa using hne))).cell (by rw [List.getElem?_map, hx]; rfl)
  go_wp2_with (go_at_call 80; refine (pick_c code A n c g K m _ B hc hB h hK (by omega)).mono ?_; rintro e w1 ⟨b, rfl, hb0, -, hb2, hL⟩; obtain ⟨v, hv, hcell, hb3, hb4⟩ := arm w1 b hb0 hb2 hL)
  go_ret
  exact ⟨v, rfl, hv, hL⟩
end Go.Proofs.Ytjmcbggdckfefaa
