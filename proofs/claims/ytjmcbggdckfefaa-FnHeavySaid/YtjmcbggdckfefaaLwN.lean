/-
  Contracts: the laws' own comparisons, at equal data, and the number of some bytes. No conditions.
-/
import Derived.Test.YtjmcbggdckfefaaCu
import Derived.Test.YtjmcbggdckfefaaTy
namespace Go.Proofs.Ytjmcbggdckfefaa
open Go.RowKit
attribute [local go_sem] und_cell World.cell?_alloc_some
set_option maxRecDepth 100000 in
set_option maxHeartbeats 1000000 in
theorem sameInts_c (l : List Int) (A A' : Option Addr) (n c c' : Nat) (w : World) (B : Nat) (h1 : Mm.SlAt Mm.int w B l A n c) (h2 : Mm.SlAt Mm.int w B l A' n c') (hB : B ≤ w.heap.size) :
    Calls Try.prog 92 #[.slice A n c, .slice A' n c'] w fun e w' => e = .returned (.bool true) ∧ Below w.heap.size w w' := by
  have H1 := Lib.hid h1
  have H2 := Lib.hid h2
  have hlen : n ≤ maxLen := Nat.le_trans h1.2.1 h1.2.2.1
  unfold maxLen at hlen
  clear h1 h2
  go_enter Try.func92, Try.ntmps92
  go_wp2
  go_loopg [13] n (fun gg i wr => ∃ k : Nat, n - k ≤ gg ∧ k ≤ n ∧ i = .int .i64 k ∧ Below w.heap.size w wr)
  case atStart => exact ⟨0, Nat.le_refl _, Nat.zero_le _, rfl, Below.refl _ _⟩
  case round =>
    obtain ⟨k, hgk, hk, rfl, hbel⟩ := hrel
    have HB := Lib.hid hbel
    by_cases hlt : k < n
    · obtain ⟨x, b, off, hx, rfl, hb, b1, c1⟩ := int_get (H1.out.keep fun b hb => hbel.block b (by omega)) hlt
      obtain ⟨y, b', off', hy, rfl, hb', b1', c1'⟩ := int_get (H2.out.keep fun b hb => hbel.block b (by omega)) hlt
      rw [hx] at hy
      injection hy with hy
      subst hy
      have f1 : (k : Int) < (n : Nat) := by omega
      have f2 : (0 : Int) ≤ (k : Nat) := by omega
      clear hx hbel
      go_wp2
      go_quiet (fail)
      go_wp2
      go_roundg (n - (k + 1))
      case measure => omega
      case rel => exact ⟨k + 1, Nat.le_refl _, by omega, by go_num, below_drewN HB.out _⟩
    · go_wp2
      go_ret
      exact ⟨rfl, HB.out⟩
set_option maxRecDepth 100000 in
set_option maxHeartbeats 1000000 in
theorem sameTexts_c (l : List ByteArray) (A A' : Option Addr) (n c c' : Nat) (w : World) (B : Nat) (h1 : Mm.SlAt Mm.str w B l A n c) (h2 : Mm.SlAt Mm.str w B l A' n c') (hB : B ≤ w.heap.size) :
    Calls Try.prog 91 #[.slice A n c, .slice A' n c'] w fun e w' => e = .returned (.bool true) ∧ Below w.heap.size w w' := by
  have H1 := Lib.hid h1
  have H2 := Lib.hid h2
  have hlen : n ≤ maxLen := Nat.le_trans h1.2.1 h1.2.2.1
  unfold maxLen at hlen
  clear h1 h2
  go_enter Try.func91, Try.ntmps91
  go_wp2
  go_loopg [13] n (fun gg i wr => ∃ k : Nat, n - k ≤ gg ∧ k ≤ n ∧ i = .int .i64 k ∧ Below w.heap.size w wr)
  case atStart => exact ⟨0, Nat.le_refl _, Nat.zero_le _, rfl, Below.refl _ _⟩
  case round =>
    obtain ⟨k, hgk, hk, rfl, hbel⟩ := hrel
    have HB := Lib.hid hbel
    by_cases hlt : k < n
    · obtain ⟨x, b, off, hx, rfl, hb, b1, c1⟩ := str_get (H1.out.keep fun b hb => hbel.block b (by omega)) hlt
      obtain ⟨y, b', off', hy, rfl, hb', b1', c1'⟩ := str_get (H2.out.keep fun b hb => hbel.block b (by omega)) hlt
      rw [hx] at hy
      injection hy with hy
      subst hy
      have f1 : (k : Int) < (n : Nat) := by omega
      have f2 : (0 : Int) ≤ (k : Nat) := by omega
      clear hx hbel
      go_wp2
      go_quiet (fail)
      go_wp2
      go_roundg (n - (k + 1))
      case measure => omega
      case rel => exact ⟨k + 1, Nat.le_refl _, by omega, by go_num, below_drewN HB.out _⟩
    · go_wp2
      go_ret
      exact ⟨rfl, HB.out⟩
set_option maxRecDepth 100000 in
theorem numberOf_c (code : List Int) (A : Option Addr) (n c : Nat) (w : World) (B : Nat) (h1 : Mm.SlAt Mm.u8 w B code A n c) :
    Calls Try.prog 30 #[.slice A n c] w fun e w' => ∃ k : Int, e = .returned (.int .i64 k) ∧ 0 ≤ k ∧ k < 1000003 ∧ w' = w := by
  have H1 := Lib.hid h1
  have hlen : n ≤ maxLen := Nat.le_trans h1.2.1 h1.2.2.1
  unfold maxLen at hlen
  clear h1
  go_enter Try.func30, Try.ntmps30
  go_wp2
  go_loopg [3, 8] n (fun gg v i wr => ∃ (k : Nat) (y : Int), n - k ≤ gg ∧ k ≤ n ∧ v = .int .i64 y ∧ i = .int .i64 k ∧ 0 ≤ y ∧ y < 1000003 ∧ wr = w)
  case atStart => exact ⟨0, 0, Nat.le_refl _, Nat.zero_le _, rfl, rfl, by omega, by omega, rfl⟩
  case round =>
    obtain ⟨k, y, hgk, hk, rfl, rfl, hy0, hy1, rfl⟩ := hrel
    by_cases hlt : k < n
    · obtain ⟨x, b, off, cs, hx, rfl, hb, ⟨rfl, b1, b2⟩, hc⟩ := H1.out.get hlt
      have c1 := hc 0 _ rfl
      rw [Nat.add_zero, show Mm.u8.size = 1 from rfl, Nat.mul_one] at c1
      have f1 : (k : Int) < (n : Nat) := by omega
      have f2 : (0 : Int) ≤ (k : Nat) := by omega
      clear hx hc
      go_wp2
      go_roundg (n - (k + 1))
      case measure => omega
      case rel => exact ⟨k + 1, _, Nat.le_refl _, by omega, rfl, by go_num, Int.emod_nonneg _ (by omega), Int.emod_lt_of_pos _ (by omega), rfl⟩
    · go_wp2
      go_ret
      exact ⟨y, rfl, hy0, hy1, rfl⟩
set_option maxRecDepth 100000 in
set_option maxHeartbeats 1000000 in
theorem sameRows_c (l : List (List Int)) (A A' : Option Addr) (n c c' : Nat) (w : World) (B : Nat) (h1 : Mm.SlAt ints w B l A n c) (h2 : Mm.SlAt ints w B l A' n c') (hB : B ≤ w.heap.size) :
    Calls Try.prog 83 #[.slice A n c, .slice A' n c'] w fun e w' => e = .returned (.bool true) ∧ Below w.heap.size w w' := by
  have H1 := Lib.hid h1
  have H2 := Lib.hid h2
  have hlen : n ≤ maxLen := Nat.le_trans h1.2.1 h1.2.2.1
  unfold maxLen at hlen
  clear h1 h2
  go_enter Try.func83, Try.ntmps83
  go_wp2
  go_loopg [13] n (fun gg i wr => ∃ k : Nat, n - k ≤ gg ∧ k ≤ n ∧ i = .int .i64 k ∧ Below w.heap.size w wr)
  case atStart => exact ⟨0, Nat.le_refl _, Nat.zero_le _, rfl, Below.refl _ _⟩
  case round =>
    obtain ⟨k, hgk, hk, rfl, hbel⟩ := hrel
    have HB := Lib.hid hbel
    have hBw : B ≤ wr.heap.size := Nat.le_trans hB hbel.size
    by_cases hlt : k < n
    · obtain ⟨x, b, off, P1, p1, q1, hx, rfl, hb, uf0, uc0⟩ := ints_get (H1.out.keep fun b hb => hbel.block b (by omega)) hlt
      obtain ⟨y, b', off', P2, p2, q2, hy, rfl, hb', vf0, vc0⟩ := ints_get (H2.out.keep fun b hb => hbel.block b (by omega)) hlt
      obtain rfl : x = y := by rw [hx] at hy; injection hy
      obtain rfl : p1 = p2 := uf0.1.symm.trans vf0.1
      have HF := Lib.hid (And.intro uf0 vf0)
      have f1 : (k : Int) < (n : Nat) := by omega
      have f2 : (0 : Int) ≤ (k : Nat) := by omega
      clear hx hy uf0 vf0 hbel
      go_wp2
      refine wp_region_und (by kernel_rfl) (by kernel_rfl) ?_
      repeat (go_big_quiet_step ((first | (go_at_call 92; exact und_call _ (sameInts_c x _ _ _ _ _ _ B (HF.out.1.und hBw _) (HF.out.2.und hBw _) (Nat.le_trans hBw (und_size _)))))))
      refine wpQuiet_nil ?_
      intro X hX
      go_wp2
      go_roundg (n - (k + 1))
      case measure => omega
      case rel => exact ⟨k + 1, Nat.le_refl _, by omega, by go_num, below_step HB.out hX⟩
    · go_wp2
      go_ret
      exact ⟨rfl, HB.out⟩
set_option maxRecDepth 100000 in
theorem sameSketch_c (s : Sketch) (A A' : Option Addr) (n n' c c' : Nat) (w : World) (B : Nat) (h1 : sk.at_ w B s [.slice A n c, .int .i64 s.Total]) (h2 : sk.at_ w B s [.slice A' n' c', .int .i64 s.Total]) (hB : B ≤ w.heap.size) :
    Calls Try.prog 33 #[.agg #[.slice A n c, .int .i64 s.Total], .agg #[.slice A' n' c', .int .i64 s.Total]] w fun e w' => e = .returned (.bool true) ∧ Below w.heap.size w w' := by
  obtain ⟨_, _, _, e1, g0, g1⟩ := sk_at h1
  injection e1 with e1 _; injection e1 with e1 e2 e3; subst e1; subst e2; subst e3
  obtain ⟨_, _, _, e1, k0, k1⟩ := sk_at h2
  injection e1 with e1 _; injection e1 with e1 e2 e3; subst e1; subst e2; subst e3
  obtain rfl : n = n' := g0.1.symm.trans k0.1
  have HB0 := Lib.hid (show Below w.heap.size w ((w.alloc (.cells #[.slice A n c, .int .i64 s.Total] 26)).alloc (.cells #[.slice A' n c', .int .i64 s.Total] 26)) from below_new (below_new (Below.refl _ _) _) _)
  have H1 := Lib.hid (g0.keep fun b hb => HB0.out.block b (by omega))
  have H2 := Lib.hid (k0.keep fun b hb => HB0.out.block b (by omega))
  clear h1 h2 g0 k0
  go_enter Try.func33, Try.ntmps33
  go_wp2_with (go_at_call 83; refine (sameRows_c s.Rows _ _ _ _ _ _ B H1.out H2.out (by have := HB0.out.size; omega)).mono ?_; rintro e w1 ⟨rfl, hb1⟩)
  go_ret
  exact ⟨rfl, below_step HB0.out hb1⟩
end Go.Proofs.Ytjmcbggdckfefaa
