/-
  Joined texts, in build order: Cu, Vi, LwN, Vj, Vk, Fa. Each part says what it proves; no conditions beyond those that a part names.
-/
import Derived.Test.YtkhchfbpmmiopaaZ01
import Derived.Test.YtkhchfbpmmiopaaZ02
import Derived.Test.YtkhchfbpmmiopaaZ03
import Derived.Test.YtkhchfbpmmiopaaZ04
import Derived.Test.YtkhchfbpmmiopaaZ06
import Derived.Lib.Hide
import Derived.Deep.DeepFit
import Derived.Deep.RegionLaw
import Derived.Deep.LoopGhost
import Derived.Laws.Bits64b
import Derived.WalkSmall
import Derived.Deep.DeepCutAuto
import Derived.Deep.CutBlock
/-
  Contracts: the cursor that draws choices from bytes. No conditions.
-/
namespace Go.Proofs.Ytkhchfbpmmiopaa
open Go.RowKit
attribute [local go_sem] und_cell World.cell?_alloc_some
namespace Mm
def U8 (n : Int) : Prop := 0 ≤ n ∧ n ≤ 255
def u8 : Rep Int := flat 1 (fun n => [.int .u8 n]) U8 (fun _ => rfl) (fun _ u hu => by rw [List.mem_singleton.1 hu]; rfl)
theorem opens_u8 {P : Program} {t : TypeId} (ht : P.underlying t = some (.int .u8)) (hc : P.cellsOf t = 1) : Opens P t u8 := ⟨hc, fun H enc w base spare held fuel cs x h => by
  obtain ⟨n, rfl, _, hw⟩ := DataW.trod_int ht h
  refine ⟨n, rfl, ?_⟩
  simp [Lit.wf, IntKind.min, IntKind.max, IntKind.signed, IntKind.bits] at hw
  unfold U8
  omega⟩
/-- a cursor: its block -/
def tcur (T : TypeId) (A : Option Addr) (n c g K : Nat) : Thing :=
  ⟨[g], fun w => ∃ at_ seed : Int, Blk w g T [.slice A n c, .int .i64 at_, .int .u64 seed] ∧ 0 ≤ at_ ∧ at_ ≤ K, fun ⟨a, s, h1, h2⟩ k => ⟨a, s, h1.keep (k g (by simp)), h2⟩, fun ⟨a, s, h1, h2⟩ b hb => by rw [List.mem_singleton.1 hb]; exact h1.lt⟩
theorem tcur_more {T : TypeId} {A : Option Addr} {n c g K K' : Nat} {w : World} (h : (tcur T A n c g K).holds w) (hk : K ≤ K') : (tcur T A n c g K').holds w := by
  obtain ⟨a, s, h1, h2, h3⟩ := h
  exact ⟨a, s, h1, h2, by omega⟩
theorem SepF.swapFor {F : List Nat} {w0 wr : World} {ts : List Thing} {t t' : Thing} (h : SepF F w0 wr ts) (i : Nat) (hi : ts[i]? = some t) (hf : t'.fp = t.fp) (hh : t.holds wr → t'.holds wr) : SepF F w0 wr (ts.set i t') :=
  h.upd hi (Chg.refl _ _) (hh (h.at_ i hi)) (by rw [hf]; exact h.ndat hi) (fun b hb => .inl (hf ▸ hb))
theorem SepF.more {F : List Nat} {w0 wr : World} {ts : List Thing} {T : TypeId} {A : Option Addr} {n c g K K' : Nat} (h : SepF F w0 wr ts) (i : Nat) (hi : ts[i]? = some (tcur T A n c g K)) (hk : K ≤ K') : SepF F w0 wr (ts.set i (tcur T A n c g K')) :=
  h.swapFor i hi rfl fun h => tcur_more h hk
end Mm
theorem opens_u8S : Mm.Opens Try.prog 22 (Mm.slice Mm.u8 5) := Mm.opens_slice Try.underlying22 (by kernel_rfl) (by decide) (Mm.opens_u8 Try.underlying5 (by kernel_rfl))
theorem next_left {T : TypeId} {A : Option Addr} {n c g K p q : Nat} {a s a' s' : Int} {w : World} (hb : Mm.Blk w g T [.slice A n c, .int .i64 a, .int .u64 s]) (h0 : 0 ≤ a') (h1 : a' ≤ K) :
    Mm.Left [g] w ((((w.drewN p).setCell ⟨g, 1, none⟩ (.int .i64 a')).setCell ⟨g, 2, none⟩ (.int .u64 s')).drewN q) (Mm.tcur T A n c g K) := by
  have h2 := (((hb.bel (below_drewN (Below.refl _ w) p)).set_ 1 (.int .i64 a')).set_ 2 (.int .u64 s'))
  have h3 := h2.bel (below_drewN (Below.refl _ _) q)
  have h4 : Mm.Chg [g] w (((w.drewN p).setCell ⟨g, 1, none⟩ (.int .i64 a')).setCell ⟨g, 2, none⟩ (.int .u64 s')) := ((Mm.Chg.of_below (below_drewN (Below.refl _ w) p)).setCell (by simp) _).setCell (by simp) _
  exact ⟨h4.trans (Mm.Chg.of_below (below_drewN (Below.refl _ _) q)), by simp [Mm.tcur], fun b hb => .inl (by simpa [Mm.tcur] using hb), a', s', h3, h0, h1⟩
theorem u64_bd (z : Int) : 0 ≤ IntKind.u64.wrap z ∧ IntKind.u64.wrap z < 18446744073709551616 := by rw [IntKind.wrap_u64]; omega
theorem and255 (z : Int) : 0 ≤ wrap64 (bits .and .u64 (IntKind.u64.wrap z / 1099511627776) 255) ∧ wrap64 (bits .and .u64 (IntKind.u64.wrap z / 1099511627776) 255) ≤ 255 := by
  have h := u64_bd z
  obtain ⟨m, hm⟩ : ∃ m : Nat, IntKind.u64.wrap z / 1099511627776 = m := ⟨(IntKind.u64.wrap z / 1099511627776).toNat, by omega⟩
  rw [hm, show (255 : Int) = ((255 : Nat) : Int) from rfl, bits_and_u64_nat m 255 (by omega) (by omega)]
  have h2 : m &&& 255 ≤ 255 := Nat.and_le_right
  rw [IntWalk.wrap64_in _ (by omega)]
  omega
set_option maxRecDepth 100000 in
set_option maxHeartbeats 1000000 in
theorem next_c (code : List Int) (A : Option Addr) (n c g K : Nat) (w : World) (B : Nat) (hc : Mm.SlAt Mm.u8 w B code A n c) (hB : B ≤ g) (h : (Mm.tcur 74 A n c g K).holds w) (hK : K < 4611686018427387904) :
    Calls Try.prog 90 #[.pointer (some ⟨g, 0, none⟩)] w fun e w' => ∃ b : Int, e = .returned (.int .i64 b) ∧ 0 ≤ b ∧ b ≤ 255 ∧ Mm.Left [g] w w' (Mm.tcur 74 A n c g (K + 1)) := by
  obtain ⟨a, s, hb, h0, h1⟩ := h
  have hlen : n ≤ maxLen := Nat.le_trans hc.2.1 hc.2.2.1
  unfold maxLen at hlen
  have KB := Lib.hid hb
  have c0 := hb.cell (i := 0) rfl
  have c1 := hb.cell (i := 1) rfl
  have c2 := hb.cell (i := 2) rfl
  have z0 := hb.frozen 0
  have z1 := hb.frozen 1
  have z2 := hb.frozen 2
  obtain ⟨k, rfl⟩ : ∃ k : Nat, a = k := ⟨a.toNat, by omega⟩
  clear hb
  by_cases hlt : k < n
  · obtain ⟨x, b, off, cs, hx, rfl, hbB, hat, hcell⟩ := hc.get hlt
    obtain ⟨rfl, hx0, hx1⟩ := hat
    have hcc := hcell 0 _ rfl
    rw [Nat.add_zero, show Mm.u8.size = 1 from rfl, Nat.mul_one] at hcc
    have hgb : b ≠ g := by omega
    have e1 : ((k : Nat) : Int) < (n : Nat) := by omega
    have e2 : (0 : Int) ≤ (k : Nat) := by omega
    have e3 : ((k : Nat) : Int).toNat = k := by omega
    clear hcell hx hc
    go_enter Try.func90, Try.ntmps90
    go_wp2
    go_quiet (fail)
    go_wp2
    go_quiet (fail)
    go_wp2
    go_quiet (fail)
    go_wp2
    go_ret
    exact ⟨x, rfl, hx0, hx1, next_left KB.out (by omega) (by omega)⟩
  · have e1 : ¬ ((k : Nat) : Int) < (n : Nat) := by omega
    have e2 : ¬ ((k : Nat) : Int) + 1 ≤ (n : Nat) := by omega
    clear hc
    go_enter Try.func90, Try.ntmps90
    go_wp2
    go_quiet (fail)
    go_wp2
    go_quiet (fail)
    go_wp2
    go_ret
    exact ⟨_, rfl, (and255 _).1, (and255 _).2, next_left KB.out (by omega) (by omega)⟩
set_option maxRecDepth 100000 in
theorem pick_c (code : List Int) (A : Option Addr) (n c g K : Nat) (N : Int) (w : World) (B : Nat) (hc : Mm.SlAt Mm.u8 w B code A n c) (hB : B ≤ g) (h : (Mm.tcur 74 A n c g K).holds w) (hK : K < 4611686018427387000) (hN : N ≤ 200) :
    Calls Try.prog 65 #[.pointer (some ⟨g, 0, none⟩), .int .i64 N] w fun e w' => ∃ b : Int, e = .returned (.int .i64 b) ∧ 0 ≤ b ∧ b ≤ 199 ∧ (1 ≤ N → b < N) ∧ Mm.Left [g] w w' (Mm.tcur 74 A n c g (K + 1)) := by
  by_cases h1 : N ≤ 1
  · go_enter Try.func65, Try.ntmps65
    go_wp2
    go_ret
    exact ⟨0, rfl, by omega, by omega, by omega, Mm.Chg.refl _ _, by simp [Mm.tcur], fun b hb => .inl (by simpa [Mm.tcur] using hb), Mm.tcur_more h (by omega)⟩
  · have h2 : ¬ 200 < N := by omega
    have h3 : N ≠ 0 := by omega
    go_enter Try.func65, Try.ntmps65
    go_wp2_with (go_at_call 90; refine (next_c code A n c g K _ B hc hB h (by omega)).mono ?_; rintro e w1 ⟨b, rfl, hb0, hb1, hL⟩)
    go_ret
    have hm0 : 0 ≤ b % N := Int.emod_nonneg _ h3
    have hm1 : b % N < N := Int.emod_lt_of_pos _ (by omega)
    exact ⟨_, rfl, hm0, by omega, fun _ => hm1, hL⟩
theorem one_c (code : List Int) (A : Option Addr) (n c g K : Nat) (N : Int) (w : World) (B : Nat) (hc : Mm.SlAt Mm.u8 w B code A n c) (hB : B ≤ g) (h : (Mm.tcur 74 A n c g K).holds w) (hK : K < 4611686018427387000) (hN : N ≤ 200) :
    Calls Try.prog 70 #[.pointer (some ⟨g, 0, none⟩), .int .i64 N] w fun e w' => ∃ b : Bool, e = .returned (.bool b) ∧ Mm.Left [g] w w' (Mm.tcur 74 A n c g (K + 1)) := by
  go_enter Try.func70, Try.ntmps70
  go_wp2_with (go_at_call 65; refine (pick_c code A n c g K N _ B hc hB h hK hN).mono ?_; rintro e w1 ⟨b, rfl, hb0, hb1, -, hL⟩)
  go_ret
  exact ⟨_, rfl, hL⟩
set_option maxRecDepth 100000 in
theorem among_c (code : List Int) (A : Option Addr) (n c g K : Nat) (xs : List Int) (bl m : Nat) (w : World) (B : Nat) (hc : Mm.SlAt Mm.u8 w B code A n c) (hB : B ≤ g) (h : (Mm.tcur 74 A n c g K).holds w) (hK : K < 4611686018427387000)
    (hbl : Mm.Blk w bl 3 (xs.map fun x => .int .i64 x)) (hne : bl ≠ g) (hm : xs.length = m) (h1 : 1 ≤ m) (h2 : m ≤ 200) :
    Calls Try.prog 77 #[.pointer (some ⟨g, 0, none⟩), .slice (some ⟨bl, 0, none⟩) m m] w fun e w' => ∃ v : Int, e = .returned (.int .i64 v) ∧ v ∈ xs ∧ Mm.Left [g] w w' (Mm.tcur 74 A n c g (K + 1)) := by
  go_enter Try.func77, Try.ntmps77
  have arm : ∀ (w1 : World) (b : Int), 0 ≤ b → (1 ≤ (m : Int) → b < m) → Mm.Left [g] w w1 (Mm.tcur 74 A n c g (K + 1)) → ∃ v : Int, v ∈ xs ∧ w1.cell? ⟨bl, b.toNat, none⟩ = some (.int .i64 v) ∧ 0 ≤ b ∧ b < m := fun w1 b hb0 hb1 hL => by
    have hlt := hb1 (by omega)
    have hk : b.toNat < xs.length := by omega
    have hx := List.getElem?_eq_getElem hk
    refine ⟨xs[b.toNat], List.getElem_mem hk, ?_, hb0, hlt⟩
    exact (hbl.keep (w' := w1) (hL.1.block bl hbl.lt (by simpa using hne))).cell (by rw [List.getElem?_map, hx]; rfl)
  go_wp2_with (go_at_call 65; refine (pick_c code A n c g K m _ B hc hB h hK (by omega)).mono ?_; rintro e w1 ⟨b, rfl, hb0, -, hb2, hL⟩; obtain ⟨v, hv, hcell, hb3, hb4⟩ := arm w1 b hb0 hb2 hL)
  go_ret
  exact ⟨v, rfl, hv, hL⟩
end Go.Proofs.Ytkhchfbpmmiopaa

/-
  Contracts: drawn plays of an election (chapter 8). No conditions.
-/
namespace Go.Proofs.Ytkhchfbpmmiopaa
open Go.RowKit
attribute [local go_sem] und_cell World.cell?_alloc_some
theorem Try.infoIntV : (Try.prog.info? 3).map (fun i => (i.zero, i.size, i.bytes)) = some (some (.int .i64 0), 1, 8) := by kernel_rfl
theorem Try.infoVStep : (Try.prog.info? 56).map (fun i => (i.zero, i.size, i.bytes)) = some (some (.agg #[.int .i64 0, .int .i64 0]), 2, 16) := by kernel_rfl
set_option maxRecDepth 100000 in
set_option maxHeartbeats 4000000 in
theorem agesCur_c (code : List Int) (A : Option Addr) (n c g K : Nat) (w : World) (B : Nat) (hc : Mm.SlAt Mm.u8 w B code A n c) (hBg : B ≤ g) (h : (Mm.tcur 74 A n c g K).holds w) (hK : K < 4611686018427380000) :
    Calls Try.prog 41 #[.pointer (some ⟨g, 0, none⟩)] w fun e w' => ∃ (l : List Int) (A1 : Option Addr) (n1 c1 : Nat) (fp : List Nat), e = .returned (.slice A1 n1 c1) ∧ l.length ≤ 5 ∧ Mm.SepF [g] w w' [Mm.tsl Mm.int 3 l (.slice A1 n1 c1) fp, Mm.tcur 74 A n c g (K + 20)] := by
  have hgw : g < w.heap.size := (Mm.tcur 74 A n c g K).lt h g (by simp [Mm.tcur])
  have HC := Lib.hid hc
  have HS : Hid (Mm.SepF [g] w w [Mm.tcur 74 A n c g K]) := Mm.SepF.one (Mm.tcur 74 A n c g K) w h (by simp [Mm.tcur])
  clear hc h
  go_enter Try.func41, Try.ntmps41
  go_upto_if 8 with first
    | ((go_at_call 65); (refine (pick_c code A n c g _ _ _ B (HC.out.keep fun b hb => HS.out.chg.block b (by omega) (by simp; omega)) hBg (HS.out.at_ 0 rfl) (by omega) (by omega)).mono ?_); (rintro e w1 ⟨b1, rfl, b10, b1x, b11, hL⟩); ((have HS := Lib.hid (HS.out.call 0 rfl hL))); (clear hL))
  have b12 := b11 (by omega)
  clear b11
  have HS := Lib.hid ((HS.out.add (Below.refl _ _) (t := Mm.tsl Mm.int 3 [] (.slice none 0 0) []) Mm.SlOwn.nil List.nodup_nil (fun b hb => by cases hb)))
  have hwr : IntKind.i64.wrap (1 + b1) = 1 + b1 := IntWalk.i64_in _ (by omega)
  go_loopg [3, 4] 5 (fun gg l nn wr => ∃ (k mm : Nat) (ls : List Int) (A1 : Option Addr) (c1 : Nat) (fp : List Nat) (Kc : Nat), k ≤ gg ∧ nn = .int .i64 k ∧ Hid (mm = ls.length) ∧ 1 ≤ k + mm ∧ k + mm ≤ 5 ∧ l = .slice A1 mm c1 ∧ Kc + k ≤ K + 10 ∧ Hid (Mm.SepF [g] w wr [Mm.tsl Mm.int 3 ls (.slice A1 mm c1) fp, Mm.tcur 74 A n c g Kc]))
  case atStart => exact ⟨(1 + b1).toNat, 0, [], none, 0, [], K + 1, by omega, by rw [Int.toNat_of_nonneg (by omega)], rfl, by omega, by omega, rfl, by omega, HS⟩
  case round =>
    obtain ⟨k, mm, ls, A1, c1, fp, Kc, hkg, rfl, hml, hk1', hkm, rfl, hKc, HS⟩ := hrel
    obtain ⟨Wr, rfl⟩ : ∃ Wr : World, Wr = wr := ⟨_, rfl⟩
    by_cases hk0 : 0 < k
    · have hk1 : (0 : Int) < (k : Nat) := by omega
      obtain ⟨i0, hi, hz0, hz1, hz2⟩ := info_parts Try.infoIntV
      go_wp2_with first
        | ((go_at_call 65); (refine (pick_c code A n c g _ _ _ B (HC.out.keep fun b hb => HS.out.chg.block b (by omega) (by simp; omega)) hBg (HS.out.at_ 1 rfl) (by omega) (by omega)).mono ?_); (rintro e w1 ⟨b2, rfl, b20, b2x, b21, hL⟩); ((have HS := Lib.hid (HS.out.call 1 rfl hL))); (clear hL))
        | (at_builtin; refine Mm.app_list (x := b2) HS.out 0 rfl rfl (.tmp 12) (.tmp 15) 23 rfl i0 _ 8 Try.underlying23 hi hz0 hz1 hz2 rfl (by decide) rfl rfl (fun W => ⟨rfl, by unfold Mm.I64; omega, rfl⟩) hml.out.symm (by unfold maxLen; omega) (by omega) ?_; intro ga cap w' fp' hs; (have HS4 := Lib.hid hs); clear hs)
      go_roundg (k - 1)
      case measure => omega
      case rel => exact ⟨k - 1, mm + 1, _, _, cap, fp', Kc + 1, Nat.le_refl _, by go_num, by show _ = _; rw [List.length_append, hml.out]; rfl, by omega, by omega, rfl, by omega, HS4⟩
    · have hk1 : ¬ (0 : Int) < (k : Nat) := by omega
      go_upto_if 18 with ((go_at_call 70); (refine (one_c code A n c g _ _ _ B (HC.out.keep fun b hb => HS.out.chg.block b (by omega) (by simp; omega)) hBg (HS.out.at_ 1 rfl) (by omega) (by omega)).mono ?_); (rintro e w1 ⟨b9, rfl, hL⟩); ((have HS := Lib.hid (HS.out.call 1 rfl hL))); (clear hL))
      cases b9
      · go_wp2_with fail
        go_ret
        first
          | exact ⟨ls, _, _, _, fp, rfl, by rw [← hml.out]; omega, HS.out.more 1 rfl (by omega)⟩
          | exact ⟨ls, _, _, _, rfl, by rw [← hml.out]; omega, fp, HS.out.more 1 rfl (by omega)⟩
      · have HA := Lib.hid (HS.out.alloc' rfl 3 [.int .i64 (-1), .int .i64 9, .int .i64 10])
        have hgW := Nat.lt_of_lt_of_le hgw HS.out.chg.size
        obtain ⟨ga, hga, -, -⟩ := Mm.sl_addr (HS.out.sl 0 rfl) (by rw [← hml.out]; omega)
        subst hga
        obtain ⟨a0, ha0⟩ : ∃ a, ls[0]? = some a := ⟨_, List.getElem?_eq_getElem (by rw [← hml.out]; omega)⟩
        have f1 : (0 : Int) < (mm : Nat) := by omega
        go_wp2_with (go_at_call 77; refine (among_c code A n c g _ [-1, 9, 10] _ 3 _ B (HC.out.keep fun b hb => HA.out.chg.block b (by omega) (by simp; omega)) hBg (HA.out.at_ 2 rfl) (by omega) (HA.out.at_ 0 rfl) (by have := HS.out.chg.size; omega) rfl (by omega) (by omega)).mono ?_; rintro e w5 ⟨v, rfl, hv, hL⟩; (have HS5 := Lib.hid ((HA.out.call 2 rfl hL).tail)); clear hL HA; have e1 := int_ocell (HS5.out.sl 0 rfl) (HS5.out.ndat (i := 0) rfl) ha0; have z1 := (HS5.out.sl 0 rfl).frozen 0)
        have hvi : Mm.I64 v := by simp only [List.mem_cons, List.not_mem_nil, or_false] at hv; unfold Mm.I64; omega
        go_ret
        exact ⟨_, _, _, _, _, rfl, by rw [List.length_set, ← hml.out]; omega, (HS5.out.put1 (k := 0) 0 rfl rfl ha0 (x' := v) (u := .int .i64 v) (fun cs fx hh => by obtain ⟨rfl, _, rfl⟩ := hh; exact ⟨rfl, hvi, rfl⟩)).more 1 rfl (by omega)⟩
set_option maxRecDepth 100000 in
set_option maxHeartbeats 4000000 in
theorem voteSteps_c (code : List Int) (A : Option Addr) (n c g K : Nat) (w : World) (B : Nat) (hc : Mm.SlAt Mm.u8 w B code A n c) (hBg : B ≤ g) (h : (Mm.tcur 74 A n c g K).holds w) (hK : K < 4611686018427380000) :
    Calls Try.prog 42 #[.pointer (some ⟨g, 0, none⟩)] w fun e w' => ∃ (l : List VoteStep) (A1 : Option Addr) (n1 c1 : Nat) (fp : List Nat), e = .returned (.slice A1 n1 c1) ∧ l.length ≤ 201 ∧ Mm.SepF [g] w w' [Mm.tsl rVoteStep 56 l (.slice A1 n1 c1) fp, Mm.tcur 74 A n c g (K + 1000)] := by
  have hgw : g < w.heap.size := (Mm.tcur 74 A n c g K).lt h g (by simp [Mm.tcur])
  have HC := Lib.hid hc
  have HS : Hid (Mm.SepF [g] w w [Mm.tcur 74 A n c g K]) := Mm.SepF.one (Mm.tcur 74 A n c g K) w h (by simp [Mm.tcur])
  clear hc h
  go_enter Try.func42, Try.ntmps42
  go_upto_if 8 with first
    | ((go_at_call 65); (refine (pick_c code A n c g _ _ _ B (HC.out.keep fun b hb => HS.out.chg.block b (by omega) (by simp; omega)) hBg (HS.out.at_ 0 rfl) (by omega) (by omega)).mono ?_); (rintro e w1 ⟨b1, rfl, b10, b1x, b11, hL⟩); ((have HS := Lib.hid (HS.out.call 0 rfl hL))); (clear hL))
    | ((go_at_call 70); (refine (one_c code A n c g _ _ _ B (HC.out.keep fun b hb => HS.out.chg.block b (by omega) (by simp; omega)) hBg (HS.out.at_ 0 rfl) (by omega) (by omega)).mono ?_); (rintro e w1 ⟨b9, rfl, hL⟩); ((have HS := Lib.hid (HS.out.call 0 rfl hL))); (clear hL))
  have b12 := b11 (by omega)
  clear b11
  go_cut [4] (fun s6 wx => ∃ m : Int, s6 = .int .i64 m ∧ 0 ≤ m ∧ m ≤ 201 ∧ Mm.SepF [g] w wx [Mm.tcur 74 A n c g (K + 3)])
  case first =>
    cases b9
    · go_wp2_with fail
      go_meet
      exact ⟨_, rfl, b10, by omega, HS.out.more 0 rfl (by omega)⟩
    · go_wp2_with ((go_at_call 65); (refine (pick_c code A n c g _ _ _ B (HC.out.keep fun b hb => HS.out.chg.block b (by omega) (by simp; omega)) hBg (HS.out.at_ 0 rfl) (by omega) (by omega)).mono ?_); (rintro e w1 ⟨b2, rfl, b20, b2x, b21, hL⟩); ((have HS := Lib.hid (HS.out.call 0 rfl hL))); (clear hL); have b22 := b21 (by omega))
      go_meet
      exact ⟨_, rfl, by omega, by omega, HS.out.more 0 rfl (by omega)⟩
  case rest =>
  obtain ⟨m, rfl, hm0, hm1, HS⟩ := hcut
  have HS := Lib.hid ((HS.add (Below.refl _ _) (t := Mm.tsl rVoteStep 56 [] (.slice none 0 0) []) Mm.SlOwn.nil List.nodup_nil (fun b hb => by cases hb)))
  go_wp2_with fail
  go_loopg [3, 4] 201 (fun gg l nn wr => ∃ (k mm : Nat) (ls : List VoteStep) (A1 : Option Addr) (c1 : Nat) (fp : List Nat) (Kc : Nat), k ≤ gg ∧ nn = .int .i64 k ∧ Hid (mm = ls.length) ∧ k + mm ≤ 201 ∧ l = .slice A1 mm c1 ∧ Kc + 4 * k ≤ K + 900 ∧ Hid (Mm.SepF [g] w wr [Mm.tsl rVoteStep 56 ls (.slice A1 mm c1) fp, Mm.tcur 74 A n c g Kc]))
  case atStart => exact ⟨m.toNat, 0, [], none, 0, [], K + 3, by omega, by rw [Int.toNat_of_nonneg hm0], rfl, by omega, rfl, by omega, HS⟩
  case round =>
    obtain ⟨k, mm, ls, A1, c1, fp, Kc, hkg, rfl, hml, hkm, rfl, hKc, HS⟩ := hrel
    obtain ⟨Wr, rfl⟩ : ∃ Wr : World, Wr = wr := ⟨_, rfl⟩
    by_cases hk0 : 0 < k
    · have hk1 : (0 : Int) < (k : Nat) := by omega
      have HA := Lib.hid (HS.out.alloc' rfl 3 [.int .i64 1, .int .i64 2, .int .i64 2, .int .i64 2, .int .i64 2, .int .i64 2, .int .i64 3, .int .i64 4, .int .i64 5])
      have hgW : g < Wr.heap.size := Nat.lt_of_lt_of_le hgw HS.out.chg.size
      obtain ⟨i0, hi, hz0, hz1, hz2⟩ := info_parts Try.infoVStep
      go_wp2_with first
        | (go_at_call 77; refine (among_c code A n c g _ [1, 2, 2, 2, 2, 2, 3, 4, 5] Wr.heap.size 9 _ B (HC.out.keep fun b hb => HA.out.chg.block b (by omega) (by simp; omega)) hBg (HA.out.at_ 2 rfl) (by omega) (HA.out.at_ 0 rfl) (by omega) rfl (by omega) (by omega)).mono ?_; rintro e w1 ⟨v, rfl, hv, hL⟩; (have HS := Lib.hid ((HA.out.call 2 rfl hL).tail)); clear hL HA; (have hvi : Mm.I64 v := by simp only [List.mem_cons, List.not_mem_nil, or_false] at hv; unfold Mm.I64; omega); clear hv)
        | ((go_at_call 65); (refine (pick_c code A n c g _ _ _ B (HC.out.keep fun b hb => HS.out.chg.block b (by omega) (by simp; omega)) hBg (HS.out.at_ 1 rfl) (by omega) (by omega)).mono ?_); (rintro e w1 ⟨b2, rfl, b20, b2x, b21, hL⟩); ((have HS := Lib.hid (HS.out.call 1 rfl hL))); (clear hL))
        | (at_builtin; refine Mm.app_list (x := (⟨v, b2⟩ : VoteStep)) HS.out 0 rfl rfl (.tmp 16) (.tmp 23) 24 rfl i0 _ 16 Try.underlying24 hi hz0 hz1 hz2 rfl (by decide) rfl rfl (fun W => rVoteStep_own_mk (x := ⟨v, b2⟩) ⟨hvi, by show Mm.I64 b2; unfold Mm.I64; omega⟩) hml.out.symm (by unfold maxLen; omega) (by omega) ?_; intro ga cap w' fp' hs; (have HS4 := Lib.hid hs); clear hs)
      go_roundg (k - 1)
      case measure => omega
      case rel => exact ⟨k - 1, mm + 1, _, _, cap, fp', Kc + 2, Nat.le_refl _, by go_num, by show _ = _; rw [List.length_append, hml.out]; rfl, by omega, rfl, by omega, HS4⟩
    · have hk1 : ¬ (0 : Int) < (k : Nat) := by omega
      by_cases hm0 : mm = 0
      · subst hm0
        have f0 : ¬ (0 : Int) < ((0 : Nat) : Int) := by omega
        go_wp2_with fail
        go_ret
        first
          | exact ⟨ls, _, _, _, fp, rfl, by rw [← hml.out]; omega, HS.out.more 1 rfl (by omega)⟩
          | exact ⟨ls, _, _, _, rfl, by rw [← hml.out]; omega, fp, HS.out.more 1 rfl (by omega)⟩
      have f0 : (0 : Int) < (mm : Nat) := by omega
      go_upto_if 31 with ((go_at_call 70); (refine (one_c code A n c g _ _ _ B (HC.out.keep fun b hb => HS.out.chg.block b (by omega) (by simp; omega)) hBg (HS.out.at_ 1 rfl) (by omega) (by omega)).mono ?_); (rintro e w1 ⟨b9, rfl, hL⟩); ((have HS := Lib.hid (HS.out.call 1 rfl hL))); (clear hL))
      cases b9
      · go_wp2_with fail
        go_ret
        first
          | exact ⟨ls, _, _, _, fp, rfl, by rw [← hml.out]; omega, HS.out.more 1 rfl (by omega)⟩
          | exact ⟨ls, _, _, _, rfl, by rw [← hml.out]; omega, fp, HS.out.more 1 rfl (by omega)⟩
      · obtain ⟨ga, hga, -, -⟩ := Mm.sl_addr (HS.out.sl 0 rfl) (by rw [← hml.out]; omega)
        subst hga
        obtain ⟨a0, ha0⟩ : ∃ a, ls[0]? = some a := ⟨_, List.getElem?_eq_getElem (by rw [← hml.out]; omega)⟩
        go_wp2_with first
          | (go_at_call 65; refine (pick_c code A n c g _ _ _ B (HC.out.keep fun b hb => HS4.out.chg.block b (by omega) (by simp; omega)) hBg (HS4.out.at_ 1 rfl) (by omega) (by omega)).mono ?_; rintro e w5 ⟨b4, rfl, b40, b4x, b41, hL⟩; (have HS5 := Lib.hid (HS4.out.call 1 rfl hL)); clear hL; (have hw4 : IntKind.i64.wrap (b4 - 1) = b4 - 1 := IntWalk.i64_in _ (by omega)); have e1 := rVoteStep_ocell (HS5.out.sl 0 rfl) (HS5.out.ndat (i := 0) rfl) ha0; obtain ⟨e1, e2⟩ := e1; have z1 := (HS5.out.sl 0 rfl).frozen 0; have z2 := (HS5.out.sl 0 rfl).frozen 1)
          | (go_at_call 65; refine (pick_c code A n c g _ _ _ B (HC.out.keep fun b hb => HS.out.chg.block b (by omega) (by simp; omega)) hBg (HS.out.at_ 1 rfl) (by omega) (by omega)).mono ?_; rintro e w4 ⟨b3, rfl, b30, b3x, b31, hL⟩; (have HS4 := Lib.hid (HS.out.call 1 rfl hL)); clear hL)
        have hI3 : Mm.I64 b3 := by unfold Mm.I64; omega
        have hI4 : Mm.I64 (b4 - 1) := by unfold Mm.I64; omega
        go_ret
        have hp1 := HS5.out.putSl (k := 0) (m := 0) (x' := (⟨b3, a0.K⟩ : VoteStep)) (u := .int .i64 b3) 0 rfl ha0 (by decide) (fun cs fx hh => by obtain ⟨rfl, q, rfl⟩ := rVoteStep_own hh; exact rVoteStep_own_mk (x := ⟨b3, a0.K⟩) ⟨hI3, q.2⟩)
        have hp2 := hp1.putSl (k := 0) (m := 1) (x := (⟨b3, a0.K⟩ : VoteStep)) (x' := (⟨b3, b4 - 1⟩ : VoteStep)) (u := .int .i64 (b4 - 1)) 0 rfl (by rw [List.getElem?_set_self (by rw [← hml.out]; omega)]) (by decide) (fun cs fx hh => by obtain ⟨rfl, q, rfl⟩ := rVoteStep_own hh; exact rVoteStep_own_mk (x := ⟨b3, b4 - 1⟩) ⟨hI3, hI4⟩)
        exact ⟨_, _, _, _, _, rfl, by rw [List.length_set, List.length_set, ← hml.out]; omega, hp2.more 1 rfl (by omega)⟩
def DrawnPoll (w : World) (e : Ending) (w' : World) : Prop := ∃ (ages : List Int) (l : List VoteStep) (A0 : Option Addr) (n0 c0 : Nat) (A1 : Option Addr) (n1 c1 : Nat), e = .returned (.tuple #[.slice A0 n0 c0, .slice A1 n1 c1]) ∧ ages.length ≤ 5 ∧ l.length ≤ 201 ∧ Mm.SlAt Mm.int w' w'.heap.size ages A0 n0 c0 ∧ Mm.SlAt rVoteStep w' w'.heap.size l A1 n1 c1 ∧ Below w.heap.size w w'
set_option maxRecDepth 100000 in
theorem DrawPlayPoll_c (code : List Int) (A : Option Addr) (n c : Nat) (w : World) (B : Nat) (hc : Mm.SlAt Mm.u8 w B code A n c) (hB : B ≤ w.heap.size) :
    Calls Try.prog 6 #[.slice A n c] w (DrawnPoll w) := by
  have hg0 : (Mm.tcur 74 A n c w.heap.size 0).holds (w.alloc (.cells #[.slice A n c, .int .i64 0, .int .u64 0] 74)) := ⟨0, 0, Mm.Blk.new w 74 [.slice A n c, .int .i64 0, .int .u64 0], by omega, by omega⟩
  have HC := Lib.hid (hc.keep (w' := w.alloc (.cells #[.slice A n c, .int .i64 0, .int .u64 0] 74)) fun b hb => (below_new (Below.refl _ w) _).block b (by omega))
  have HS : Hid (Mm.SepF [w.heap.size] (w.alloc (.cells #[.slice A n c, .int .i64 0, .int .u64 0] 74)) (w.alloc (.cells #[.slice A n c, .int .i64 0, .int .u64 0] 74)) [Mm.tcur 74 A n c w.heap.size 0]) := Mm.SepF.one (Mm.tcur 74 A n c w.heap.size 0) _ hg0 (by simp [Mm.tcur])
  have hsw : (w.alloc (.cells #[.slice A n c, .int .i64 0, .int .u64 0] 74)).heap.size = w.heap.size + 1 := Mm.sz1 _ _
  obtain ⟨g, hg⟩ : ∃ g, w.heap.size = g := ⟨_, rfl⟩
  rw [hg] at HS hB hsw
  clear hc hg0
  go_enter Try.func6, Try.ntmps6
  go_wp2_with first
    | (go_at_call 41; refine (agesCur_c code A n c g _ _ B (HC.out.keep fun b hb => HS.out.chg.block b (by omega) (by simp; omega)) hB (HS.out.at_ 0 rfl) (by omega)).mono ?_; rintro e w1 ⟨l0, A0, n0, c0, fp0, rfl, hl0, hS0⟩; (have hch0 := (HS.out.chg).trans hS0.chg))
    | (go_at_call 42; refine (voteSteps_c code A n c g _ _ B (HC.out.keep fun b hb => hch0.block b (by omega) (by simp; omega)) hB (hS0.at_ 1 rfl) (by omega)).mono ?_; rintro e w1 ⟨l, A1, n1, c1, fp, rfl, hl, hS⟩; have hch := hch0.trans hS.chg)
  go_ret2
  refine ⟨l0, l, _, _, _, _, _, _, rfl, hl0, hl, ?_, (hS.sl 0 rfl).weak (hS.sl 0 rfl).olt, ?_⟩
  · have hap : ∀ b, b ∈ fp0 → b ≠ g := fun b hb h => hS0.apart (i := 0) (j := 1) rfl rfl (by decide) b hb (by rw [h]; simp [Mm.tcur])
    have hkp : Mm.SlAt Mm.int _ _ l0 A0 n0 c0 := ((hS0.sl 0 rfl).okeep fun b hb => hS.chg.block b ((hS0.sl 0 rfl).olt b hb) (by simp; exact hap b hb)).weak (B := _) (Mm.SlOwn.olt ((hS0.sl 0 rfl).okeep fun b hb => hS.chg.block b ((hS0.sl 0 rfl).olt b hb) (by simp; exact hap b hb)))
    exact hkp
  rw [hg]
  exact Mm.Below.chg (hg ▸ below_new (Below.refl _ w) _) hch (by rw [Mm.sz1]; omega) (by simp)
end Go.Proofs.Ytkhchfbpmmiopaa

/-
  Contracts: the laws' own comparisons, at equal data, and the number of some bytes. No conditions.
-/
namespace Go.Proofs.Ytkhchfbpmmiopaa
open Go.RowKit
attribute [local go_sem] und_cell World.cell?_alloc_some
set_option maxRecDepth 100000 in
set_option maxHeartbeats 1000000 in
theorem sameInts_c (l : List Int) (A A' : Option Addr) (n c c' : Nat) (w : World) (B : Nat) (h1 : Mm.SlAt Mm.int w B l A n c) (h2 : Mm.SlAt Mm.int w B l A' n c') (hB : B ≤ w.heap.size) :
    Calls Try.prog 51 #[.slice A n c, .slice A' n c'] w fun e w' => e = .returned (.bool true) ∧ Below w.heap.size w w' := by
  have H1 := Lib.hid h1
  have H2 := Lib.hid h2
  have hlen : n ≤ maxLen := Nat.le_trans h1.2.1 h1.2.2.1
  unfold maxLen at hlen
  clear h1 h2
  go_enter Try.func51, Try.ntmps51
  go_wp2
  go_loopg [13] n (fun gg i wr => ∃ k : Nat, n - k ≤ gg ∧ k ≤ n ∧ i = .int .i64 k ∧ Below w.heap.size w wr)
  case atStart => exact ⟨0, Nat.le_refl _, Nat.zero_le _, rfl, Below.refl _ _⟩
  case round =>
    obtain ⟨k, hgk, hk, rfl, hbel⟩ := hrel
    have HB := Lib.hid hbel
    by_cases hlt : k < n
    · obtain ⟨x, b, off, hx, rfl, hb, b1, c1⟩ := int_get (H1.out.keep fun b hb => hbel.block b (by omega)) hlt
      obtain ⟨y, b', off', hy, rfl, hb', b1', c1'⟩ := int_get (H2.out.keep fun b hb => hbel.block b (by omega)) hlt
      rw [hx] at hy
      injection hy with hy
      subst hy
      have f1 : (k : Int) < (n : Nat) := by omega
      have f2 : (0 : Int) ≤ (k : Nat) := by omega
      clear hx hbel
      go_wp2
      go_quiet (fail)
      go_wp2
      go_roundg (n - (k + 1))
      case measure => omega
      case rel => exact ⟨k + 1, Nat.le_refl _, by omega, by go_num, below_drewN HB.out _⟩
    · go_wp2
      go_ret
      exact ⟨rfl, HB.out⟩
set_option maxRecDepth 100000 in
set_option maxHeartbeats 1000000 in
theorem sameBools_c (l : List Bool) (A A' : Option Addr) (n c c' : Nat) (w : World) (B : Nat) (h1 : Mm.SlAt Mm.bool w B l A n c) (h2 : Mm.SlAt Mm.bool w B l A' n c') (hB : B ≤ w.heap.size) :
    Calls Try.prog 9 #[.slice A n c, .slice A' n c'] w fun e w' => e = .returned (.bool true) ∧ Below w.heap.size w w' := by
  have H1 := Lib.hid h1
  have H2 := Lib.hid h2
  have hlen : n ≤ maxLen := Nat.le_trans h1.2.1 h1.2.2.1
  unfold maxLen at hlen
  clear h1 h2
  go_enter Try.func9, Try.ntmps9
  go_wp2
  go_loopg [13] n (fun gg i wr => ∃ k : Nat, n - k ≤ gg ∧ k ≤ n ∧ i = .int .i64 k ∧ Below w.heap.size w wr)
  case atStart => exact ⟨0, Nat.le_refl _, Nat.zero_le _, rfl, Below.refl _ _⟩
  case round =>
    obtain ⟨k, hgk, hk, rfl, hbel⟩ := hrel
    have HB := Lib.hid hbel
    by_cases hlt : k < n
    · obtain ⟨x, b, off, hx, rfl, hb, c1⟩ := bool_get (H1.out.keep fun b hb => hbel.block b (by omega)) hlt
      obtain ⟨y, b', off', hy, rfl, hb', c1'⟩ := bool_get (H2.out.keep fun b hb => hbel.block b (by omega)) hlt
      rw [hx] at hy
      injection hy with hy
      subst hy
      have f1 : (k : Int) < (n : Nat) := by omega
      have f2 : (0 : Int) ≤ (k : Nat) := by omega
      clear hx hbel
      go_wp2
      go_quiet (fail)
      go_wp2
      go_roundg (n - (k + 1))
      case measure => omega
      case rel => exact ⟨k + 1, Nat.le_refl _, by omega, by go_num, below_drewN HB.out _⟩
    · go_wp2
      go_ret
      exact ⟨rfl, HB.out⟩
end Go.Proofs.Ytkhchfbpmmiopaa

/-
  Contracts: the laws' own comparison of elections, at equal data (chapter 8). No conditions.
-/
namespace Go.Proofs.Ytkhchfbpmmiopaa
open Go.RowKit
attribute [local go_sem] und_cell cha_cell World.cell?_alloc_some
theorem Try.stoodLetter : Try.prog.stoodInHeld 84 = false := by kernel_rfl
theorem run_neLetter (x : Letter) (W : World) : (binOp .neq 84 (.agg #[.int .i64 x.From, .int .i64 x.To, .int .i64 x.Term, .bool x.Ask, .int .i64 x.Age]) (.agg #[.int .i64 x.From, .int .i64 x.To, .int .i64 x.Term, .bool x.Ask, .int .i64 x.Age])).run Try.prog W = .ok (.bool false) W := by
  have ht : Try.prog.underlying 84 = some (.struct (Try.prog.fieldsOf 84)) := by simp [Program.fieldsOf, Try.underlying84]
  rw [run_neq_struct, run_equalIn_agg _ _ _ _ _ ht Try.stoodLetter]
  simp [Program.fieldsOf, Try.underlying84, Op.eqFields, go_sem]
set_option maxRecDepth 100000 in
set_option maxHeartbeats 4000000 in
theorem samePolls_c (p : Poll) (cs cs2 : List Value) (w : World) (B : Nat) (h1 : rPoll.at_ w B p cs) (h2 : rPoll.at_ w B p cs2) (hB : B ≤ w.heap.size) :
    Calls Try.prog 10 #[.agg cs.toArray, .agg cs2.toArray] w fun e w' => e = .returned (.bool true) ∧ Below w.heap.size w w' := by
  obtain ⟨A0, n0, c0, A1, n1, c1, A2, n2, c2, rfl, r0, r1, r2⟩ := rPoll_at h1
  obtain ⟨A0', m0, c0', A1', m1, c1', A2', m2, c2', rfl, q0, q1, q2⟩ := rPoll_at h2
  obtain rfl : n0 = m0 := r0.1.symm.trans q0.1
  obtain rfl : n1 = m1 := r1.1.symm.trans q1.1
  obtain rfl : n2 = m2 := r2.1.symm.trans q2.1
  have l0 : n0 ≤ maxLen := Nat.le_trans r0.2.1 r0.2.2.1
  have l1 : n1 ≤ maxLen := Nat.le_trans r1.2.1 r1.2.2.1
  have l2 : n2 ≤ maxLen := Nat.le_trans r2.2.1 r2.2.2.1
  unfold maxLen at l0 l1 l2
  have R0 := Lib.hid r0
  have R1 := Lib.hid r1
  have R2 := Lib.hid r2
  have Q0 := Lib.hid q0
  have Q1 := Lib.hid q1
  have Q2 := Lib.hid q2
  clear h1 h2 r0 r1 r2 q0 q1 q2
  go_enter Try.func10, Try.ntmps10
  go_upto_region 1 with fail
  obtain ⟨ga, hga⟩ : ∃ ga, w.heap.size = ga := ⟨_, rfl⟩
  obtain ⟨gb, hgb⟩ : ∃ gb, ga + 1 = gb := ⟨_, rfl⟩
  obtain ⟨W0, hW0⟩ : ∃ W0, (w.alloc (.cells #[.slice A0 n0 c0, .slice A1 n1 c1, .slice A2 n2 c2] 31)).alloc (.cells #[.slice A0' n0 c0', .slice A1' n1 c1', .slice A2' n2 c2'] 31) = W0 := ⟨_, rfl⟩
  have HS0 := Lib.hid ((((Mm.SepF.start w).alloc' hga 31 [.slice A0 n0 c0, .slice A1 n1 c1, .slice A2 n2 c2]).alloc' (g := gb) (by rw [Mm.sz1, hga, hgb]) 31 [.slice A0' n0 c0', .slice A1' n1 c1', .slice A2' n2 c2']).atW hW0)
  rw [hW0, hga, hgb]
  have HGA := Lib.hid hga
  clear hW0 hga hgb
  have HB0 := Lib.hid HS0.out.bel0
  have HBW := Lib.hid (Nat.le_trans hB HB0.out.size)
  have HX := Lib.hid (Below.refl W0.heap.size W0)
  have b0 := below_some HX.out (HS0.out.cell (k := 0) 0 rfl rfl)
  have b1 := below_some HX.out (HS0.out.cell (k := 1) 0 rfl rfl)
  have b2 := below_some HX.out (HS0.out.cell (k := 2) 0 rfl rfl)
  have d0 := below_some HX.out (HS0.out.cell (k := 0) 1 rfl rfl)
  have d1 := below_some HX.out (HS0.out.cell (k := 1) 1 rfl rfl)
  have d2 := below_some HX.out (HS0.out.cell (k := 2) 1 rfl rfl)
  go_wp2_with fail
  clear b0 b1 b2 d0 d1 d2
  have HXX := Lib.hid HX.out
  clear HX
  go_loopg [38] n0 (fun gg i wr => ∃ k : Nat, n0 - k ≤ gg ∧ k ≤ n0 ∧ i = .int .i64 k ∧ Hid (Below W0.heap.size W0 wr))
  case atStart => exact ⟨0, Nat.le_refl _, Nat.zero_le _, rfl, HXX.out⟩
  case round =>
    clear HXX
    obtain ⟨k, hgk, hk, rfl, HX⟩ := hrel
    obtain ⟨W1, rfl⟩ : ∃ W1 : World, W1 = wr := ⟨_, rfl⟩
    by_cases hlt : k < n0
    · have b0 := below_some HX.out (HS0.out.cell (k := 0) 0 rfl rfl)
      have d0 := below_some HX.out (HS0.out.cell (k := 0) 1 rfl rfl)
      have hBw : B ≤ W1.heap.size := Nat.le_trans HBW.out HX.out.size
      obtain ⟨x, b, off, P1, p1, t1, hx, rfl, hb, -, -, -, uf0, -, e0, e1, e2, e3, e4⟩ := rNode_get (R0.out.keep (w' := W1) fun b hb => (HX.out.block b (Nat.lt_of_lt_of_le hb HBW.out)).trans (HB0.out.block b (Nat.lt_of_lt_of_le hb hB))) hlt
      obtain ⟨y, b', off', P2, p2, t2, hy, rfl, hb', -, -, -, vf0, -, e0', e1', e2', e3', e4'⟩ := rNode_get (Q0.out.keep (w' := W1) fun b hb => (HX.out.block b (Nat.lt_of_lt_of_le hb HBW.out)).trans (HB0.out.block b (Nat.lt_of_lt_of_le hb hB))) hlt
      obtain rfl : x = y := by rw [hx] at hy; injection hy
      obtain rfl : p1 = p2 := uf0.1.symm.trans vf0.1
      have UF := Lib.hid uf0
      have VF := Lib.hid vf0
      have f1 : (k : Int) < (n0 : Nat) := by omega
      have f2 : (0 : Int) ≤ (k : Nat) := by omega
      have f3 : ((k : Nat) : Int).toNat = k := by omega
      clear hx hy uf0 vf0
      go_upto_region 8 with fail
      obtain ⟨gx, hgx⟩ : ∃ gx, W1.heap.size = gx := ⟨_, rfl⟩
      obtain ⟨gy, hgy⟩ : ∃ gy, gx + 1 = gy := ⟨_, rfl⟩
      obtain ⟨W2, hW2⟩ : ∃ W2, (W1.alloc (.cells #[.int .i64 x.Term, .int .i64 x.Voted, .int .i64 x.Age, .slice P1 p1 t1, .int .i64 x.Role] 42)).alloc (.cells #[.int .i64 x.Term, .int .i64 x.Voted, .int .i64 x.Age, .slice P2 p1 t2, .int .i64 x.Role] 42) = W2 := ⟨_, rfl⟩
      have HSR := Lib.hid ((((Mm.SepF.start W1).alloc' hgx 42 [.int .i64 x.Term, .int .i64 x.Voted, .int .i64 x.Age, .slice P1 p1 t1, .int .i64 x.Role]).alloc' (g := gy) (by rw [Mm.sz1, hgx, hgy]) 42 [.int .i64 x.Term, .int .i64 x.Voted, .int .i64 x.Age, .slice P2 p1 t2, .int .i64 x.Role]).atW hW2)
      rw [hW2, hgx, hgy]
      clear hW2 hgx hgy e0 e1 e2 e3 e4 e0' e1' e2' e3' e4' b0 d0
      have g0 := HSR.out.cell (k := 0) 0 rfl rfl
      have g1 := HSR.out.cell (k := 1) 0 rfl rfl
      have g2 := HSR.out.cell (k := 2) 0 rfl rfl
      have g3 := HSR.out.cell (k := 3) 0 rfl rfl
      have g4 := HSR.out.cell (k := 4) 0 rfl rfl
      have j0 := HSR.out.cell (k := 0) 1 rfl rfl
      have j1 := HSR.out.cell (k := 1) 1 rfl rfl
      have j2 := HSR.out.cell (k := 2) 1 rfl rfl
      have j3 := HSR.out.cell (k := 3) 1 rfl rfl
      have j4 := HSR.out.cell (k := 4) 1 rfl rfl
      have HB2 := Lib.hid HSR.out.bel0
      go_wp2_with (go_at_call 51; (with_reducible refine (sameInts_c x.Heard P1 P2 p1 t1 t2 W2 B (UF.out.keep (w' := W2) fun b hb => HB2.out.block b (Nat.lt_of_lt_of_le hb hBw)) (VF.out.keep (w' := W2) fun b hb => HB2.out.block b (Nat.lt_of_lt_of_le hb hBw)) (Nat.le_trans hBw HB2.out.size)).mono ?_); rintro e w3 ⟨rfl, hb3⟩)
      go_roundg (n0 - (k + 1))
      case measure => omega
      case rel => exact ⟨k + 1, Nat.le_refl _, by omega, by go_num, below_step HX.out (below_step HB2.out hb3)⟩
    have f1 : ¬ (k : Int) < (n0 : Nat) := by omega
    have b1 := below_some HX.out (HS0.out.cell (k := 1) 1 rfl rfl)
    go_wp2_with fail
    clear b1
    have HXX := Lib.hid HX.out
    clear HX
    go_loopg [89] n1 (fun gg i wr => ∃ k : Nat, n1 - k ≤ gg ∧ k ≤ n1 ∧ i = .int .i64 k ∧ Hid (Below W0.heap.size W0 wr))
    case atStart => exact ⟨0, Nat.le_refl _, Nat.zero_le _, rfl, HXX.out⟩
    case round =>
      clear HXX f1 hlt hk hgk
      obtain ⟨k, hgk, hk, rfl, HX⟩ := hrel
      obtain ⟨W1, rfl⟩ : ∃ W1 : World, W1 = wr := ⟨_, rfl⟩
      by_cases hlt : k < n1
      · have b1 := below_some HX.out (HS0.out.cell (k := 1) 0 rfl rfl)
        have d1 := below_some HX.out (HS0.out.cell (k := 1) 1 rfl rfl)
        obtain ⟨x, b, off, hx, rfl, hb, -, -, -, -, e0, e1, e2, e3, e4⟩ := rLetter_get (R1.out.keep (w' := W1) fun b hb => (HX.out.block b (Nat.lt_of_lt_of_le hb HBW.out)).trans (HB0.out.block b (Nat.lt_of_lt_of_le hb hB))) hlt
        obtain ⟨y, b', off', hy, rfl, hb', -, -, -, -, e0', e1', e2', e3', e4'⟩ := rLetter_get (Q1.out.keep (w' := W1) fun b hb => (HX.out.block b (Nat.lt_of_lt_of_le hb HBW.out)).trans (HB0.out.block b (Nat.lt_of_lt_of_le hb hB))) hlt
        obtain rfl : x = y := by rw [hx] at hy; injection hy
        have f5 := fun W => run_neLetter x W
        have f1 : (k : Int) < (n1 : Nat) := by omega
        have f2 : (0 : Int) ≤ (k : Nat) := by omega
        have f3 : ((k : Nat) : Int).toNat = k := by omega
        clear hx hy
        go_wp2
        refine wp_region_und (by kernel_rfl) (by kernel_rfl) ?_
        repeat (go_big_quiet_step ((first | fail)))
        refine wpQuiet_nil ?_
        intro X hX
        go_wp2
        go_roundg (n1 - (k + 1))
        case measure => omega
        case rel => exact ⟨k + 1, Nat.le_refl _, by omega, by go_num, below_step HX.out hX⟩
      have f1 : ¬ (k : Int) < (n1 : Nat) := by omega
      have b2 := below_some HX.out (HS0.out.cell (k := 2) 1 rfl rfl)
      go_wp2_with fail
      clear b2
      have HXX := Lib.hid HX.out
      clear HX
      go_loopg [107] n2 (fun gg i wr => ∃ k : Nat, n2 - k ≤ gg ∧ k ≤ n2 ∧ i = .int .i64 k ∧ Hid (Below W0.heap.size W0 wr))
      case atStart => exact ⟨0, Nat.le_refl _, Nat.zero_le _, rfl, HXX.out⟩
      case round =>
        clear HXX f1 hlt hk hgk
        obtain ⟨k, hgk, hk, rfl, HX⟩ := hrel
        obtain ⟨W1, rfl⟩ : ∃ W1 : World, W1 = wr := ⟨_, rfl⟩
        by_cases hlt : k < n2
        · have b2 := below_some HX.out (HS0.out.cell (k := 2) 0 rfl rfl)
          have d2 := below_some HX.out (HS0.out.cell (k := 2) 1 rfl rfl)
          obtain ⟨x, b, off, P1, p1, t1, hx, rfl, hb, uf0, uc0⟩ := ints_get (R2.out.keep (w' := W1) fun b hb => (HX.out.block b (Nat.lt_of_lt_of_le hb HBW.out)).trans (HB0.out.block b (Nat.lt_of_lt_of_le hb hB))) hlt
          obtain ⟨y, b', off', P2, p2, t2, hy, rfl, hb', vf0, vc0⟩ := ints_get (Q2.out.keep (w' := W1) fun b hb => (HX.out.block b (Nat.lt_of_lt_of_le hb HBW.out)).trans (HB0.out.block b (Nat.lt_of_lt_of_le hb hB))) hlt
          obtain rfl : x = y := by rw [hx] at hy; injection hy
          obtain rfl : p1 = p2 := uf0.1.symm.trans vf0.1
          have hBw : B ≤ W1.heap.size := Nat.le_trans HBW.out HX.out.size
          have CE := fun z : Und W1 => und_call z (sameInts_c x P1 P2 p1 t1 t2 (und W1 z) B (uf0.und hBw z) (vf0.und hBw z) (Nat.le_trans hBw (und_size z)))
          have f1 : (k : Int) < (n2 : Nat) := by omega
          have f2 : (0 : Int) ≤ (k : Nat) := by omega
          have f3 : ((k : Nat) : Int).toNat = k := by omega
          clear hx hy uf0 vf0
          go_wp2
          refine wp_region_und (by kernel_rfl) (by kernel_rfl) ?_
          repeat (go_big_quiet_step ((first | (go_at_call 51; with_reducible exact CE _))))
          refine wpQuiet_nil ?_
          intro X hX
          go_wp2
          go_roundg (n2 - (k + 1))
          case measure => omega
          case rel => exact ⟨k + 1, Nat.le_refl _, by omega, by go_num, below_step HX.out hX⟩
        · have f1 : ¬ (k : Int) < (n2 : Nat) := by omega
          go_wp2
          go_ret
          exact ⟨rfl, below_step HB0.out HX.out⟩
end Go.Proofs.Ytkhchfbpmmiopaa

/-
  Contracts: an election that is good is held good, and names its leaders (chapter 8). No conditions beyond those named.
-/
namespace Go.Proofs.Ytkhchfbpmmiopaa
open Go.RowKit
attribute [local go_sem] und_cell cha_cell World.cell?_alloc_some
theorem within_isV {n a b : Int} {r : Bool} (h : Pl.isIn n a b = r) (w : World) : Calls Try.prog 43 #[.int .i64 n, .int .i64 a, .int .i64 b] w fun e w' => e = .returned (.bool r) ∧ w = w' := h ▸ within_c n a b w
theorem isAge_isV {a : Int} {r : Bool} (h : Pl.ageOk a = r) (w : World) : Calls Try.prog 46 #[.int .i64 a] w fun e w' => e = .returned (.bool r) ∧ w = w' := h ▸ isAge_c a w
theorem Pl.isInY {n a b : Int} (h : a ≤ n ∧ n ≤ b) : Pl.isIn n a b = true := Pl.isIn_iff.2 h
theorem Pl.ageY {a : Int} (h : 0 ≤ a ∧ a ≤ 9) : Pl.ageOk a = true := Pl.isIn_iff.2 h
set_option maxRecDepth 100000 in
set_option maxHeartbeats 1000000 in
theorem isPoll1_c (m g : Nat) (l : List Int) (A : Option Addr) (n c : Nat) (w : World) (B : Nat) (hb : Mm.Blk w g 3 [.int .i64 (m : Nat)]) (hl : Mm.SlAt Mm.int w B l A n c) (hB : B ≤ w.heap.size) (hm : m ≤ 5) (hok : Pl.LeadOk m l) :
    Calls Try.prog 86 #[.slice A n c, .pointer (some ⟨g, 0, none⟩)] w fun e w' => e = .returned (.bool false) ∧ Below w.heap.size w w' := by
  obtain ⟨t, k, rfl, t0, t1, k0, k1⟩ := hok
  obtain rfl : n = 2 := hl.1.symm
  obtain ⟨x, b, off, hx, rfl, hb', i0, e0⟩ := int_get hl (show 0 < 2 by omega)
  obtain ⟨y, hy, _, j0, e1⟩ := int_get' hl (show 1 < 2 by omega)
  obtain rfl : t = x := by injection hx
  obtain rfl : k = y := by injection hy
  have d0 := hb.cell (i := 0) rfl
  have fw : IntKind.i64.wrap ((m : Int) - 1) = (m : Int) - 1 := IntWalk.i64_in _ (by omega)
  have C1 := fun z : Und w => und_same z (within_isV (Pl.isInY ⟨t0, t1⟩) (und w z))
  have C2 := fun z : Und w => und_same z (within_isV (Pl.isInY (show 0 ≤ k ∧ k ≤ (m : Int) - 1 by omega)) (und w z))
  rw [Nat.add_zero] at e0
  clear hl hx hy hb i0 j0 t0 t1 k0 k1
  go_enter Try.func86, Try.ntmps86
  go_wp2
  refine wp_region_und (by kernel_rfl) (by kernel_rfl) ?_
  repeat (go_big_quiet_step ((first | first | (go_at_call 43; with_reducible exact C1 _) | (go_at_call 43; with_reducible exact C2 _))))
  refine wpQuiet_nil ?_
  intro X hX
  go_wp2
  go_ret
  exact ⟨rfl, hX⟩
set_option maxRecDepth 100000 in
set_option maxHeartbeats 1000000 in
theorem idxLeads_c (m g : Nat) (l : List (List Int)) (A : Option Addr) (n c : Nat) (w : World) (B : Nat) (hb : Mm.Blk w g 3 [.int .i64 (m : Nat)]) (hl : Mm.SlAt ints w B l A n c) (hB : B ≤ w.heap.size) (hm : m ≤ 5) (hok : ∀ x, x ∈ l → Pl.LeadOk m x) :
    Calls Try.prog 102 #[.slice A n c, .func (Fn.func 86) #[] #[.pointer (some ⟨g, 0, none⟩)]] w fun e w' => e = .returned (.int .i64 (-1)) ∧ Below w.heap.size w w' := by
  have hn : n ≤ 9223372036854775807 := by have := hl.2.1; have := hl.2.2.1; unfold maxLen at this; omega
  have HL := Lib.hid hl
  have HBK := Lib.hid hb
  have HOK := Lib.hid hok
  clear hl hb hok
  go_enter Try.func102, Try.ntmps102
  go_wp2
  go_loopg [5, 8] n (fun gg _ i wr => ∃ k : Nat, n - k ≤ gg ∧ k ≤ n ∧ i = .int .i64 k ∧ Hid (Below w.heap.size w wr))
  case atStart => exact ⟨0, Nat.le_refl _, Nat.zero_le _, rfl, Below.refl _ _⟩
  case round =>
    obtain ⟨k, hgk, hk, rfl, HB⟩ := hrel
    obtain ⟨W, rfl⟩ : ∃ W : World, W = wr := ⟨_, rfl⟩
    have hsz := HB.out.size
    by_cases hlt : k < n
    · obtain ⟨x, b, off, AX, nX, cX, hx, rfl, hb, hr, e0⟩ := ints_get (HL.out.keep (w' := W) fun b hb => HB.out.block b (by omega)) hlt
      have C := isPoll1_c m g x AX nX cX W B (HBK.out.bel HB.out) hr (by omega) hm (HOK.out x (List.mem_of_getElem? hx))
      have f1 : (k : Int) < (n : Nat) := by omega
      have f2 : (0 : Int) ≤ (k : Nat) := by omega
      have f3 : ((k : Nat) : Int).toNat = k := by omega
      clear hx hr
      go_wp2_with (go_at_call 86; (with_reducible refine C.mono ?_); clear C; rintro e w1 ⟨rfl, hb1⟩)
      go_roundg (n - (k + 1))
      case measure => omega
      case rel => exact ⟨k + 1, Nat.le_refl _, by omega, by go_num, below_step HB.out hb1⟩
    · have f1 : ¬ (k : Int) < (n : Nat) := by omega
      go_wp2
      go_ret
      exact ⟨rfl, HB.out⟩
set_option maxRecDepth 100000 in
theorem hasLeads_c (m g : Nat) (l : List (List Int)) (A : Option Addr) (n c : Nat) (w : World) (B : Nat) (hb : Mm.Blk w g 3 [.int .i64 (m : Nat)]) (hl : Mm.SlAt ints w B l A n c) (hB : B ≤ w.heap.size) (hm : m ≤ 5) (hok : ∀ x, x ∈ l → Pl.LeadOk m x) :
    Calls Try.prog 85 #[.slice A n c, .func (Fn.func 86) #[] #[.pointer (some ⟨g, 0, none⟩)]] w fun e w' => e = .returned (.bool false) ∧ Below w.heap.size w w' := by
  have C := idxLeads_c m g l A n c w B hb hl hB hm hok
  clear hl hb hok
  go_enter Try.func85, Try.ntmps85
  go_wp2_with (go_at_call 102; (with_reducible refine C.mono ?_); clear C; rintro e w1 ⟨rfl, hb1⟩)
  go_ret
  exact ⟨rfl, hb1⟩
set_option maxRecDepth 100000 in
set_option maxHeartbeats 4000000 in
theorem isPollYes_c (p : Poll) (cs : List Value) (w : World) (B : Nat) (hr : rPoll.at_ w B p cs) (hB : B ≤ w.heap.size) (hp : Pl.PW p) :
    Calls Try.prog 52 #[.agg cs.toArray] w fun e w' => e = .returned (.bool true) ∧ Below w.heap.size w w' := by
  obtain ⟨A0, n0, c0, A1, n1, c1, A2, n2, c2, rfl, r0, r1, r2⟩ := rPoll_at hr
  have h01 : 1 ≤ n0 := by have := hp.n1; rw [r0.1] at this; exact this
  have h05 : n0 ≤ 5 := by have := hp.n5; rw [r0.1] at this; exact this
  have h1 : n1 ≤ 60 := by have := hp.lets; rw [r1.1] at this; exact this
  have h2 : n2 ≤ 300 := by have := hp.leads; rw [r2.1] at this; exact this
  have HNL : Hid (p.Nodes.length = n0) := r0.1
  have R0 := Lib.hid r0
  have R1 := Lib.hid r1
  have R2 := Lib.hid r2
  have HP := Lib.hid hp
  have G1 : Hid (Pl.isIn (n0 : Int) 1 5 = true) := Lib.hid (Pl.isInY (by omega))
  have fw : IntKind.i64.wrap ((n0 : Int) - 1) = (n0 : Int) - 1 := IntWalk.i64_in _ (by omega)
  have f11 : ¬ (60 : Int) < (n1 : Nat) := by omega
  have f12 : ¬ (300 : Int) < (n2 : Nat) := by omega
  clear hr r0 r1 r2 hp
  go_enter Try.func52, Try.ntmps52
  go_upto_region 2 with fail
  obtain ⟨ga, hga⟩ : ∃ ga, w.heap.size = ga := ⟨_, rfl⟩
  obtain ⟨gb, hgb⟩ : ∃ gb, ga + 1 = gb := ⟨_, rfl⟩
  obtain ⟨W0, hW0⟩ : ∃ W0, (w.alloc (.cells #[.slice A0 n0 c0, .slice A1 n1 c1, .slice A2 n2 c2] 31)).alloc (.cells #[.int .i64 (n0 : Nat)] 3) = W0 := ⟨_, rfl⟩
  have HS0 := Lib.hid ((((Mm.SepF.start w).alloc' hga 31 [.slice A0 n0 c0, .slice A1 n1 c1, .slice A2 n2 c2]).alloc' (g := gb) (by rw [Mm.sz1, hga, hgb]) 3 [.int .i64 (n0 : Nat)]).atW hW0)
  rw [hW0, hga, hgb]
  clear hW0 hga hgb
  have HB0 := Lib.hid HS0.out.bel0
  have HBW := Lib.hid (Nat.le_trans hB HB0.out.size)
  have b0 := HS0.out.cell (k := 0) 1 rfl rfl
  have b1 := HS0.out.cell (k := 1) 1 rfl rfl
  have b2 := HS0.out.cell (k := 2) 1 rfl rfl
  have d0 := HS0.out.cell (k := 0) 0 rfl rfl
  go_wp2_with (go_at_call 43; (with_reducible refine (within_isV G1.out _).mono ?_); rintro e w' ⟨rfl, rfl⟩)
  clear b0 b1 b2 d0 f11 f12
  go_loopg [29] n0 (fun gg i wr => ∃ k : Nat, n0 - k ≤ gg ∧ k ≤ n0 ∧ i = .int .i64 k ∧ Hid (Below W0.heap.size W0 wr))
  case atStart => exact ⟨0, Nat.le_refl _, Nat.zero_le _, rfl, Below.refl _ _⟩
  case round =>
    obtain ⟨k, hgk, hk, rfl, HX⟩ := hrel
    obtain ⟨W1, rfl⟩ : ∃ W1 : World, W1 = wr := ⟨_, rfl⟩
    by_cases hlt : k < n0
    · have hBw : B ≤ W1.heap.size := Nat.le_trans HBW.out HX.out.size
      obtain ⟨x, b, off, P1, p1, t1, hx, rfl, hb, -, -, -, uf0, -, e0, e1, e2, e3, e4⟩ := rNode_get (R0.out.keep (w' := W1) fun b hb => (HX.out.block b (Nat.lt_of_lt_of_le hb HBW.out)).trans (HB0.out.block b (Nat.lt_of_lt_of_le hb hB))) hlt
      have hnok : Pl.NodeOk n0 x := by have := HP.out.node k x hx; rw [HNL.out] at this; exact this
      have K1 : Hid (Pl.isIn x.Term 0 200 = true) := Lib.hid (Pl.isInY hnok.term)
      have K2 : Hid (Pl.isIn x.Voted (-1) ((n0 : Int) - 1) = true) := Lib.hid (Pl.isInY hnok.voted)
      have K3 : Hid (Pl.ageOk x.Age = true) := Lib.hid (Pl.ageY hnok.age)
      have K4 : Hid (Pl.risI (n0 : Int) x.Heard = true) := Lib.hid (Pl.risI_iff.2 ⟨hnok.heard, hnok.hin⟩)
      have K5 : Hid (Pl.isIn x.Role 0 2 = true) := Lib.hid (Pl.isInY hnok.role)
      have UF := Lib.hid uf0
      have HNO : Hid (x.Role = 0 → p1 = 0) := Lib.hid (fun h => by have h1 := hnok.none h; have h2 := uf0.1; rw [h1] at h2; exact h2.symm)
      have f1 : (k : Int) < (n0 : Nat) := by omega
      have f2 : (0 : Int) ≤ (k : Nat) := by omega
      have f3 : ((k : Nat) : Int).toNat = k := by omega
      clear hx uf0 hnok
      go_upto_region 7 with fail
      obtain ⟨gx, hgx⟩ : ∃ gx, W1.heap.size = gx := ⟨_, rfl⟩
      obtain ⟨W2, hW2⟩ : ∃ W2, W1.alloc (.cells #[.int .i64 x.Term, .int .i64 x.Voted, .int .i64 x.Age, .slice P1 p1 t1, .int .i64 x.Role] 42) = W2 := ⟨_, rfl⟩
      have HSR := Lib.hid (((Mm.SepF.start W1).alloc' hgx 42 [.int .i64 x.Term, .int .i64 x.Voted, .int .i64 x.Age, .slice P1 p1 t1, .int .i64 x.Role]).atW hW2)
      rw [hW2, hgx]
      clear hW2 hgx e0 e1 e2 e3 e4
      have HB2 := Lib.hid HSR.out.bel0
      have d0 := below_some HB2.out (below_some HX.out (HS0.out.cell (k := 0) 0 rfl rfl))
      have g0 := HSR.out.cell (k := 0) 0 rfl rfl
      have g1 := HSR.out.cell (k := 1) 0 rfl rfl
      have g2 := HSR.out.cell (k := 2) 0 rfl rfl
      have g3 := HSR.out.cell (k := 3) 0 rfl rfl
      have g4 := HSR.out.cell (k := 4) 0 rfl rfl
      have CN := areNodes_c n0 x.Heard P1 p1 t1 W2 B (UF.out.keep (w' := W2) fun b hb => HB2.out.block b (Nat.lt_of_lt_of_le hb hBw)) (by omega)
      rw [K4.out] at CN
      by_cases hr0 : x.Role = 0
      · have hp1 := HNO.out hr0
        subst hp1
        have q1 : ¬ (0 : Int) < ((0 : Nat) : Int) := by omega
        have q2 : (x.Role == 0) = true := by simp [hr0]
        have K6 : Hid (Pl.isIn 0 0 2 = true) := Lib.hid (by decide)
        go_wp2_with first
          | (go_at_call 43; (with_reducible refine (within_isV K1.out _).mono ?_); rintro e w' ⟨rfl, rfl⟩)
          | (go_at_call 43; (with_reducible refine (within_isV K2.out _).mono ?_); rintro e w' ⟨rfl, rfl⟩)
          | (go_at_call 46; (with_reducible refine (isAge_isV K3.out _).mono ?_); rintro e w' ⟨rfl, rfl⟩)
          | (go_at_call 71; (with_reducible refine CN.mono ?_); clear CN g0 g1 g2 g3 d0; rintro e w5 ⟨rfl, hb5⟩; (have g4' := below_some hb5 g4); (have g3' := below_some hb5 (HSR.out.cell (k := 3) 0 rfl rfl)))
          | (go_at_call 43; (with_reducible refine (within_isV K5.out _).mono ?_); rintro e w' ⟨rfl, rfl⟩)
          | (go_at_call 43; (with_reducible refine (within_isV K6.out _).mono ?_); rintro e w' ⟨rfl, rfl⟩)
        go_roundg (n0 - (k + 1))
        case measure => omega
        case rel => exact ⟨k + 1, Nat.le_refl _, by omega, by go_num, below_step HX.out (below_step HB2.out hb5)⟩
      · have q2 : (x.Role == 0) = false := by simp [hr0]
        go_wp2_with first
          | (go_at_call 43; (with_reducible refine (within_isV K1.out _).mono ?_); rintro e w' ⟨rfl, rfl⟩)
          | (go_at_call 43; (with_reducible refine (within_isV K2.out _).mono ?_); rintro e w' ⟨rfl, rfl⟩)
          | (go_at_call 46; (with_reducible refine (isAge_isV K3.out _).mono ?_); rintro e w' ⟨rfl, rfl⟩)
          | (go_at_call 71; (with_reducible refine CN.mono ?_); clear CN g0 g1 g2 g3 d0; rintro e w5 ⟨rfl, hb5⟩; (have g4' := below_some hb5 g4); (have g3' := below_some hb5 (HSR.out.cell (k := 3) 0 rfl rfl)))
          | (go_at_call 43; (with_reducible refine (within_isV K5.out _).mono ?_); rintro e w' ⟨rfl, rfl⟩)
        go_roundg (n0 - (k + 1))
        case measure => omega
        case rel => exact ⟨k + 1, Nat.le_refl _, by omega, by go_num, below_step HX.out (below_step HB2.out hb5)⟩
    have f1 : ¬ (k : Int) < (n0 : Nat) := by omega
    have b1 := below_some HX.out (HS0.out.cell (k := 1) 1 rfl rfl)
    go_wp2_with fail
    clear b1
    have HXX := Lib.hid HX.out
    clear HX
    go_loopg [79] n1 (fun gg i wr => ∃ k : Nat, n1 - k ≤ gg ∧ k ≤ n1 ∧ i = .int .i64 k ∧ Hid (Below W0.heap.size W0 wr))
    case atStart => exact ⟨0, Nat.le_refl _, Nat.zero_le _, rfl, HXX.out⟩
    case round =>
      clear HXX f1 hlt hk hgk
      obtain ⟨k, hgk, hk, rfl, HX⟩ := hrel
      obtain ⟨W1, rfl⟩ : ∃ W1 : World, W1 = wr := ⟨_, rfl⟩
      by_cases hlt : k < n1
      · obtain ⟨x, b, off, hx, rfl, hb, -, -, -, -, e0, e1, e2, e3, e4⟩ := rLetter_get (R1.out.keep (w' := W1) fun b hb => (HX.out.block b (Nat.lt_of_lt_of_le hb HBW.out)).trans (HB0.out.block b (Nat.lt_of_lt_of_le hb hB))) hlt
        have hlok : Pl.LetOk n0 x := by have := HP.out.letr x (List.mem_of_getElem? hx); rw [HNL.out] at this; exact this
        have K1 : Hid (Pl.isIn x.From 0 ((n0 : Int) - 1) = true) := Lib.hid (Pl.isInY (by have := hlok.src; omega))
        have K2 : Hid (Pl.isIn x.To 0 ((n0 : Int) - 1) = true) := Lib.hid (Pl.isInY (by have := hlok.dst; omega))
        have K3 : Hid (Pl.isIn x.Term 1 200 = true) := Lib.hid (Pl.isInY hlok.term)
        have K4 : Hid (Pl.ageOk x.Age = true) := Lib.hid (Pl.ageY hlok.age)
        have HNO : Hid (x.Ask = false → x.Age = 0) := Lib.hid hlok.no
        have f1 : (k : Int) < (n1 : Nat) := by omega
        have f2 : (0 : Int) ≤ (k : Nat) := by omega
        have f3 : ((k : Nat) : Int).toNat = k := by omega
        clear hx hlok
        obtain ⟨ak, hak⟩ : ∃ ak, x.Ask = ak := ⟨_, rfl⟩
        rw [hak] at HNO e3
        clear hak
        go_upto_region 13 with fail
        obtain ⟨gx, hgx⟩ : ∃ gx, W1.heap.size = gx := ⟨_, rfl⟩
        obtain ⟨W2, hW2⟩ : ∃ W2, W1.alloc (.cells #[.int .i64 x.From, .int .i64 x.To, .int .i64 x.Term, .bool ak, .int .i64 x.Age] 84) = W2 := ⟨_, rfl⟩
        have HSR := Lib.hid (((Mm.SepF.start W1).alloc' hgx 84 [.int .i64 x.From, .int .i64 x.To, .int .i64 x.Term, .bool ak, .int .i64 x.Age]).atW hW2)
        rw [hW2, hgx]
        clear hW2 hgx e0 e1 e2 e3 e4
        have HB2 := Lib.hid HSR.out.bel0
        have d0 := below_some HB2.out (below_some HX.out (HS0.out.cell (k := 0) 0 rfl rfl))
        have g0 := HSR.out.cell (k := 0) 0 rfl rfl
        have g1 := HSR.out.cell (k := 1) 0 rfl rfl
        have g2 := HSR.out.cell (k := 2) 0 rfl rfl
        have g3 := HSR.out.cell (k := 3) 0 rfl rfl
        have g4 := HSR.out.cell (k := 4) 0 rfl rfl
        cases ak with
        | true =>
          go_wp2_with first
            | (go_at_call 43; (with_reducible refine (within_isV K1.out _).mono ?_); rintro e w' ⟨rfl, rfl⟩)
            | (go_at_call 43; (with_reducible refine (within_isV K2.out _).mono ?_); rintro e w' ⟨rfl, rfl⟩)
            | (go_at_call 43; (with_reducible refine (within_isV K3.out _).mono ?_); rintro e w' ⟨rfl, rfl⟩)
            | (go_at_call 46; (with_reducible refine (isAge_isV K4.out _).mono ?_); rintro e w' ⟨rfl, rfl⟩)
          go_roundg (n1 - (k + 1))
          case measure => omega
          case rel => exact ⟨k + 1, Nat.le_refl _, by omega, by go_num, below_step HX.out HB2.out⟩
        | false =>
          have hz := HNO.out rfl
          have q2 : (x.Age != 0) = false := by simp [hz]
          go_wp2_with first
            | (go_at_call 43; (with_reducible refine (within_isV K1.out _).mono ?_); rintro e w' ⟨rfl, rfl⟩)
            | (go_at_call 43; (with_reducible refine (within_isV K2.out _).mono ?_); rintro e w' ⟨rfl, rfl⟩)
            | (go_at_call 43; (with_reducible refine (within_isV K3.out _).mono ?_); rintro e w' ⟨rfl, rfl⟩)
            | (go_at_call 46; (with_reducible refine (isAge_isV K4.out _).mono ?_); rintro e w' ⟨rfl, rfl⟩)
          go_roundg (n1 - (k + 1))
          case measure => omega
          case rel => exact ⟨k + 1, Nat.le_refl _, by omega, by go_num, below_step HX.out HB2.out⟩
      have f1 : ¬ (k : Int) < (n1 : Nat) := by omega
      have b2 := below_some HX.out (HS0.out.cell (k := 2) 1 rfl rfl)
      have hBw : B ≤ W1.heap.size := Nat.le_trans HBW.out HX.out.size
      have CL := hasLeads_c n0 gb p.Leaders A2 n2 c2 W1 B ((HS0.out.at_ 0 rfl : Mm.Blk _ _ _ _).bel HX.out) (R2.out.keep (w' := W1) fun b hb => (HX.out.block b (Nat.lt_of_lt_of_le hb HBW.out)).trans (HB0.out.block b (Nat.lt_of_lt_of_le hb hB))) hBw h05 (fun x hx => by have := HP.out.lead x hx; rw [HNL.out] at this; exact this)
      go_wp2_with (go_at_call 85; (with_reducible refine CL.mono ?_); clear CL; rintro e w5 ⟨rfl, hb5⟩)
      go_ret
      exact ⟨rfl, below_step HB0.out (below_step HX.out hb5)⟩
set_option maxRecDepth 100000 in
theorem implGoodPollYes_c (p : Poll) (cs : List Value) (w : World) (B : Nat) (hr : rPoll.at_ w B p cs) (hB : B ≤ w.heap.size) (hp : Pl.PW p) :
    Calls Try.prog 11 #[.agg cs.toArray] w fun e w' => e = .returned (.bool true) ∧ Below w.heap.size w w' := by
  obtain ⟨A0, n0, c0, A1, n1, c1, A2, n2, c2, rfl, -⟩ := rPoll_at hr
  have HS := Lib.hid ((Mm.SepF.start w).alloc' rfl 31 [.slice A0 n0 c0, .slice A1 n1 c1, .slice A2 n2 c2])
  have HR := Lib.hid (rPoll.keep hr (w' := w.alloc (.cells #[.slice A0 n0 c0, .slice A1 n1 c1, .slice A2 n2 c2] 31)) fun b hb => HS.out.bel0.block b (by omega))
  have hB2 := Nat.le_trans hB HS.out.chg.size
  clear hr
  go_enter Try.func11, Try.ntmps11
  go_wp2_with (go_at_call 52; refine (isPollYes_c p _ _ B HR.out hB2 hp).mono ?_; rintro e w1 ⟨rfl, hb1⟩)
  go_ret
  exact ⟨rfl, below_step HS.out.bel0 hb1⟩
set_option maxRecDepth 100000 in
theorem implMajorityOf_c (n : Nat) (w : World) (h1 : 1 ≤ n) (h5 : n ≤ 100) :
    Calls Try.prog 13 #[.int .i64 (n : Nat)] w fun e w' => e = .returned (.tuple #[.int .i64 ((n / 2 + 1 : Nat) : Int), .bool true]) ∧ w = w' := by
  have G1 : Hid (Pl.isIn (n : Int) 1 100 = true) := Lib.hid (Pl.isInY (by omega))
  have f3 : ((n / 2 + 1 : Nat) : Int) = (n : Int) / 2 + 1 := by omega
  go_enter Try.func13, Try.ntmps13
  go_wp2_with (go_at_call 43; (with_reducible refine (within_isV G1.out _).mono ?_); rintro e w' ⟨rfl, rfl⟩)
  go_ret2
  exact ⟨by rw [f3]; rfl, rfl⟩
set_option maxRecDepth 100000 in
set_option maxHeartbeats 1000000 in
theorem implLeaderOf_c (p : Poll) (t v : Int) (cs : List Value) (w : World) (B : Nat) (hr : rPoll.at_ w B p cs) (hB : B ≤ w.heap.size) (hp : Pl.PW p) (hu : p.Leaders.Pairwise (fun a b => a.head? ≠ b.head?)) (hm : [t, v] ∈ p.Leaders) :
    Calls Try.prog 12 #[.agg cs.toArray, .int .i64 t] w fun e w' => e = .returned (.tuple #[.int .i64 v, .bool true]) ∧ Below w.heap.size w w' := by
  obtain ⟨i0, hi0⟩ := List.mem_iff_getElem?.1 hm
  have hil := (List.getElem?_eq_some_iff.1 hi0).1
  have hun : ∀ (k : Nat) (a b : Int), p.Leaders[k]? = some [a, b] → (k = i0 ∧ a = t ∧ b = v) ∨ (k ≠ i0 ∧ a ≠ t) := fun k a b hk => by
    by_cases h : k = i0
    · subst h; rw [hi0] at hk; injection hk with hk; injection hk with h1 hk; injection hk with h2 _; exact .inl ⟨rfl, h1.symm, h2.symm⟩
    · refine .inr ⟨h, fun ha => ?_⟩
      have hkl := (List.getElem?_eq_some_iff.1 hk).1
      have e1 := (List.getElem?_eq_some_iff.1 hk).2
      have e2 := (List.getElem?_eq_some_iff.1 hi0).2
      rcases Nat.lt_or_gt_of_ne h with h3 | h3
      · exact List.pairwise_iff_getElem.1 hu _ _ hkl hil h3 (by rw [e1, e2, ha]; rfl)
      · exact List.pairwise_iff_getElem.1 hu _ _ hil hkl h3 (by rw [e1, e2, ha]; rfl)
  obtain ⟨A0, n0, c0, A1, n1, c1, A2, n2, c2, rfl, r0, r1, r2⟩ := rPoll_at hr
  have l2 : n2 ≤ maxLen := Nat.le_trans r2.2.1 r2.2.2.1
  unfold maxLen at l2
  have hi2 : i0 < n2 := by rw [← r2.1]; exact hil
  obtain ⟨ga, hga⟩ : ∃ ga, w.heap.size = ga := ⟨_, rfl⟩
  obtain ⟨W0, hW0⟩ : ∃ W0, w.alloc (.cells #[.slice A0 n0 c0, .slice A1 n1 c1, .slice A2 n2 c2] 31) = W0 := ⟨_, rfl⟩
  have HS0 := Lib.hid (((Mm.SepF.start w).alloc' hga 31 [.slice A0 n0 c0, .slice A1 n1 c1, .slice A2 n2 c2]).atW hW0)
  have HB0 := Lib.hid HS0.out.bel0
  have HBW := Lib.hid (Nat.le_trans hB HB0.out.size)
  have C := isPollYes_c p [.slice A0 n0 c0, .slice A1 n1 c1, .slice A2 n2 c2] W0 B (rPoll.keep hr fun b hb => HB0.out.block b (Nat.lt_of_lt_of_le hb hB)) HBW.out hp
  have HLD := Lib.hid hp.lead
  have R2 := Lib.hid r2
  have HUN := Lib.hid hun
  have b0 := HS0.out.cell (k := 0) 0 rfl rfl
  have b1 := HS0.out.cell (k := 1) 0 rfl rfl
  have b2 := HS0.out.cell (k := 2) 0 rfl rfl
  clear hr r0 r1 r2 hp hun hu hm hi0 hil
  go_enter Try.func12, Try.ntmps12
  go_wp2_with (go_at_call 52; (with_reducible refine C.mono ?_); clear C; rintro e w1 ⟨rfl, hb1⟩; have HX := Lib.hid hb1; have b3 := below_some HX.out b2)
  clear b0 b1 b2 b3
  go_loopg [14] n2 (fun gg i wr => ∃ k : Nat, n2 - k ≤ gg ∧ k ≤ i0 ∧ i = .int .i64 k ∧ wr = w1)
  case atStart => exact ⟨0, Nat.le_refl _, Nat.zero_le _, rfl, rfl⟩
  case round =>
    obtain ⟨k, hgk, hk, rfl, rfl⟩ := hrel
    have hlt : k < n2 := by omega
    obtain ⟨x, b, off, P1, p1, t1, hx, rfl, hb, uf0, uc0⟩ := ints_get (R2.out.keep (w' := wr) fun b hb => (HX.out.block b (Nat.lt_of_lt_of_le hb HBW.out)).trans (HB0.out.block b (Nat.lt_of_lt_of_le hb hB))) hlt
    obtain ⟨y, z, rfl, -⟩ := HLD.out x (List.mem_of_getElem? hx)
    obtain rfl : p1 = 2 := uf0.1.symm
    obtain ⟨x', b', off', hx', rfl, hb', i0', e0⟩ := int_get uf0 (show 0 < 2 by omega)
    obtain ⟨y', hy', _, j0, e1⟩ := int_get' uf0 (show 1 < 2 by omega)
    obtain rfl : y = x' := by injection hx'
    obtain rfl : z = y' := by injection hy'
    rw [Nat.add_zero] at e0
    have hor := HUN.out k y z hx
    have f1 : (k : Int) < (n2 : Nat) := by omega
    have f2 : (0 : Int) ≤ (k : Nat) := by omega
    have f3 : ((k : Nat) : Int).toNat = k := by omega
    clear hx uf0 hx' hy'
    rcases hor with ⟨-, rfl, rfl⟩ | ⟨h1, h2⟩
    · go_wp2_with fail
      go_ret2
      exact ⟨rfl, below_step HB0.out HX.out⟩
    · have q1 : (y == t) = false := by simp [h2]
      go_wp2_with fail
      go_roundg (n2 - (k + 1))
      case measure => omega
      case rel => exact ⟨k + 1, Nat.le_refl _, by omega, by go_num, rfl⟩
end Go.Proofs.Ytkhchfbpmmiopaa

/-
  What stays true while a call only makes memory: a list of facts that move on together. No program in sight. No conditions.
-/
namespace Go.Proofs.Ytkhchfbpmmiopaa
open Go.RowKit
namespace Mm
structure Fact where
  holds : World → Prop
  keep : ∀ {w w' : World}, holds w → Below w.heap.size w w' → holds w'
/-- a reading of a struct, a slice; a block known whole -/
def frd {α : Type} (R : Rep α) (x : α) (cs : List Value) : Fact := ⟨fun w => R.at_ w w.heap.size x cs, fun h hb => R.more (R.keep h fun b hb' => hb.block b hb') hb.size⟩
def fsl {α : Type} (E : Rep α) (xs : List α) (A : Option Addr) (n c : Nat) : Fact := ⟨fun w => SlAt E w w.heap.size xs A n c, fun h hb => (h.keep fun b hb' => hb.block b hb').more hb.size⟩
def fbk (g : Nat) (t : TypeId) (cs : List Value) : Fact := ⟨fun w => Blk w g t cs, fun h hb => h.bel hb⟩
structure Facts (w0 w : World) (fs : List Fact) : Prop where
  bel : Below w0.heap.size w0 w
  all : ∀ f, f ∈ fs → f.holds w
section
variable {w0 w w' : World} {fs gs : List Fact} {f : Fact}
theorem Facts.nil (w : World) : Facts w w [] := ⟨Below.refl _ _, fun f h => by cases h⟩
theorem Facts.step (h : Facts w0 w fs) (hb : Below w.heap.size w w') : Facts w0 w' fs := ⟨below_step h.bel hb, fun f hf => f.keep (h.all f hf) hb⟩
theorem Facts.add (h : Facts w0 w fs) (hb : Below w.heap.size w w') (hf : f.holds w') : Facts w0 w' (fs ++ [f]) :=
  ⟨below_step h.bel hb, fun g hg => by
    rcases List.mem_append.1 hg with hg | hg
    · exact g.keep (h.all g hg) hb
    · rw [List.mem_singleton.1 hg]; exact hf⟩
theorem Facts.put (h : Facts w0 w fs) (hf : f.holds w) : Facts w0 w (fs ++ [f]) := h.add (Below.refl _ _) hf
/-- a variable of its own: its block, laid at the world's end -/
theorem Facts.var {g : Nat} (h : Facts w0 w fs) (hg : w.heap.size = g) (t : TypeId) (cs : List Value) : Facts w0 (w.alloc (.cells cs.toArray t)) (fs ++ [fbk g t cs]) := by
  subst hg
  exact h.add (below_new (Below.refl _ _) _) (Blk.new w t cs)
theorem Facts.at_ (h : Facts w0 w fs) (i : Nat) (hi : fs[i]? = some f) : f.holds w := h.all f (List.mem_of_getElem? hi)
theorem Facts.rd {α : Type} {R : Rep α} {x : α} {cs : List Value} (h : Facts w0 w fs) (i : Nat) (hi : fs[i]? = some (frd R x cs)) : R.at_ w w.heap.size x cs := h.at_ i hi
theorem Facts.sl {α : Type} {E : Rep α} {xs : List α} {A : Option Addr} {n c : Nat} (h : Facts w0 w fs) (i : Nat) (hi : fs[i]? = some (fsl E xs A n c)) : SlAt E w w.heap.size xs A n c := h.at_ i hi
theorem Facts.cell {g k : Nat} {t : TypeId} {cs : List Value} {u : Value} (h : Facts w0 w fs) (i : Nat) (hi : fs[i]? = some (fbk g t cs)) (hu : cs[k]? = some u) : w.cell? ⟨g, k, none⟩ = some u := (show Blk w g t cs from h.at_ i hi).cell hu
theorem Facts.und (h : Facts w0 w fs) (x : Und w) : Facts w0 (und w x) fs := h.step x.h
theorem Facts.fewer (h : Facts w0 w fs) (hs : gs.Sublist fs) : Facts w0 w gs := ⟨h.bel, fun f hf => h.all f (hs.subset hf)⟩
end
end Mm
end Go.Proofs.Ytkhchfbpmmiopaa
