/-
  Contracts: which totals are good. No conditions.
-/
import Derived.Test.YtnppcdiicnofpaaWr
namespace Go.Proofs.Ytnppcdiicnofpaa
open Go.RowKit
attribute [local go_sem] und_cell World.cell?_alloc_some
theorem nblk1 (w : World) (o : Obj) : (w.alloc o).heap.size = w.heap.size + 1 := by show (w.heap.push o).size = _; simp
theorem Mm.SlAt.alloc' {α : Type} {E : Mm.Rep α} {w : World} {B : Nat} {xs : List α} {A : Option Addr} {n c : Nat} (h : Mm.SlAt E w B xs A n c) (hB : B ≤ w.heap.size) (o : Obj) : Mm.SlAt E (w.alloc o) B xs A n c :=
  h.keep fun b hb => (below_new (Below.refl _ _) o).block b (by omega)
set_option maxRecDepth 100000 in
set_option maxHeartbeats 4000000 in
theorem areTotals_c (l : List Total) (A : Option Addr) (n c : Nat) (w : World) (B : Nat) (hl : Mm.SlAt rTotal w B l A n c) (hB : B ≤ w.heap.size) :
    Calls Try.prog 51 #[.slice A n c] w fun e w' => e = .returned (.bool (Pl.totalsOk l)) ∧ Below w.heap.size w w' := by
  have hlen : Hid (l.length = n) := hl.1
  have hn : n ≤ maxLen := Nat.le_trans hl.2.1 hl.2.2.1
  unfold maxLen at hn
  have HL := Lib.hid hl
  clear hl
  go_enter Try.func51, Try.ntmps51
  go_wp2
  go_loopg [7] n (fun g i wr => Below w.heap.size w wr ∧ ∃ k : Nat, n - k ≤ g ∧ k ≤ n ∧ i = .int .i64 k ∧ Hid (∀ j, j < k → Pl.totP l j = true))
  case atStart => exact ⟨Below.refl _ _, 0, Nat.le_refl _, Nat.zero_le _, rfl, fun j hj => absurd hj (Nat.not_lt_zero j)⟩
  case round =>
    obtain ⟨hbel, k, hgk, hk, rfl, HU⟩ := hrel
    obtain ⟨W, rfl⟩ : ∃ W : World, W = wr := ⟨_, rfl⟩
    have HLw := Lib.hid (HL.out.keep fun b hb' => hbel.block b (Nat.lt_of_lt_of_le hb' hB))
    have HBL := Lib.hid hbel
    have hsw := hbel.size
    clear hbel
    by_cases hlt : k < n
    · obtain ⟨x, b0, off, A1, n1, c1, hx, rfl, hbb, hlx, g1, g2, g3, g4, d0, d1, d2, d3, d4⟩ := rTotal_get HLw.out hlt
      obtain ⟨z, A2, n2, c2, hz, -, hlz, -, -, -, -, q0, -⟩ := rTotal_get' HLw.out (show k - 1 < n by omega)
      have HP : Hid (Pl.totP l k = Pl.totQ k x z) := by show _ = _; unfold Pl.totP; rw [Pl.totAt_of hx, Pl.totAt_of hz]
      have NO : Hid (Pl.totQ k x z = false → Pl.totalsOk l = false) := fun h => by
        unfold Pl.totalsOk; rw [Pl.allB_no (by rw [hlen.out]; exact hlt) (by rw [HP.out, h])]; rfl
      have HZ : Hid (k ≠ 0 → Pl.labelsOk z.Labels = true) := fun h0 => by
        have h1 := HU.out (k - 1) (by omega)
        unfold Pl.totP Pl.totQ at h1
        rw [Pl.totAt_of hz, Bool.and_eq_true] at h1
        exact Pl.totOk_lab h1.1
      clear hx hz
      obtain ⟨xL, xS, xC, xA, xM⟩ := x
      obtain ⟨zL, zS, zC, zA, zM⟩ := z
      dsimp only at hlx g1 g2 g3 g4 d0 d1 d2 d3 d4 hlz q0
      have HLX := Lib.hid hlx
      have HLZ := Lib.hid hlz
      clear hlx hlz
      have hlt' : (k : Int) < (n : Nat) := by omega
      have hlt2 : (0 : Int) ≤ (k : Nat) := by omega
      have CA := fun q : Und (W.alloc (.cells #[.slice A1 n1 c1, .int .i64 xS, .int .i64 xC, .int .i64 xA, .int .i64 xM] 50)) => und_call q (areLabels_c xL A1 n1 c1 _ B ((HLX.out.alloc' (by omega) _).und (by have := nblk1 W (.cells #[.slice A1 n1 c1, .int .i64 xS, .int .i64 xC, .int .i64 xA, .int .i64 xM] 50); omega) q) (Nat.le_trans (by have := nblk1 W (.cells #[.slice A1 n1 c1, .int .i64 xS, .int .i64 xC, .int .i64 xA, .int .i64 xM] 50); omega) (und_size q)))
      have CC := fun q : Und (W.alloc (.cells #[.slice A1 n1 c1, .int .i64 xS, .int .i64 xC, .int .i64 xA, .int .i64 xM] 50)) => und_same q (within_c xC 1 1000 _)
      have CS := fun q : Und (W.alloc (.cells #[.slice A1 n1 c1, .int .i64 xS, .int .i64 xC, .int .i64 xA, .int .i64 xM] 50)) => und_same q (within_c xS (-1000000000) 1000000000 _)
      have CL := fun q : Und (W.alloc (.cells #[.slice A1 n1 c1, .int .i64 xS, .int .i64 xC, .int .i64 xA, .int .i64 xM] 50)) => und_same q (within_c xA (-1000000) xM _)
      cases k1 : Pl.labelsOk xL
      · have HV := Lib.hid (NO.out (by unfold Pl.totQ Pl.totOk; dsimp only; rw [k1]; simp))
        clear NO HP HZ
        go_wp2
        refine wp_region_und (by kernel_rfl) (by kernel_rfl) ?_
        repeat (go_big_quiet_step ((first | first | (go_at_call 70; with_reducible exact CA _) | (go_at_call 52; first | (with_reducible exact CC _) | (with_reducible exact CS _) | (with_reducible exact CL _)))))
        refine wpQuiet_nil ?_
        intro X hX
        have hbx := Lib.hid (below_step HBL.out (below_step (below_new (Below.refl _ _) _) hX))
        go_wp2
        go_ret
        exact ⟨ret_bool HV.out.symm, hbx.out⟩
      cases k2 : Pl.isIn xC 1 1000
      · have HV := Lib.hid (NO.out (by unfold Pl.totQ Pl.totOk; dsimp only; rw [k1, k2]; simp))
        clear NO HP HZ
        go_wp2
        refine wp_region_und (by kernel_rfl) (by kernel_rfl) ?_
        repeat (go_big_quiet_step ((first | first | (go_at_call 70; with_reducible exact CA _) | (go_at_call 52; first | (with_reducible exact CC _) | (with_reducible exact CS _) | (with_reducible exact CL _)))))
        refine wpQuiet_nil ?_
        intro X hX
        have hbx := Lib.hid (below_step HBL.out (below_step (below_new (Below.refl _ _) _) hX))
        go_wp2
        go_ret
        exact ⟨ret_bool HV.out.symm, hbx.out⟩
      cases k3 : Pl.isIn xS (-1000000000) 1000000000
      · have HV := Lib.hid (NO.out (by unfold Pl.totQ Pl.totOk; dsimp only; rw [k1, k2, k3]; simp))
        clear NO HP HZ
        go_wp2
        refine wp_region_und (by kernel_rfl) (by kernel_rfl) ?_
        repeat (go_big_quiet_step ((first | first | (go_at_call 70; with_reducible exact CA _) | (go_at_call 52; first | (with_reducible exact CC _) | (with_reducible exact CS _) | (with_reducible exact CL _)))))
        refine wpQuiet_nil ?_
        intro X hX
        have hbx := Lib.hid (below_step HBL.out (below_step (below_new (Below.refl _ _) _) hX))
        go_wp2
        go_ret
        exact ⟨ret_bool HV.out.symm, hbx.out⟩
      cases k4 : Pl.isIn xA (-1000000) xM
      · have HV := Lib.hid (NO.out (by unfold Pl.totQ Pl.totOk; dsimp only; rw [k1, k2, k3, k4]; simp))
        clear NO HP HZ
        go_wp2
        refine wp_region_und (by kernel_rfl) (by kernel_rfl) ?_
        repeat (go_big_quiet_step ((first | first | (go_at_call 70; with_reducible exact CA _) | (go_at_call 52; first | (with_reducible exact CC _) | (with_reducible exact CS _) | (with_reducible exact CL _)))))
        refine wpQuiet_nil ?_
        intro X hX
        have hbx := Lib.hid (below_step HBL.out (below_step (below_new (Below.refl _ _) _) hX))
        go_wp2
        go_ret
        exact ⟨ret_bool HV.out.symm, hbx.out⟩
      by_cases k5 : 1000000 < xM
      · have k6 : decide (xM ≤ 1000000) = false := decide_eq_false (by omega)
        have k7 : decide (1000000 < xM) = true := decide_eq_true k5
        have HV := Lib.hid (NO.out (by unfold Pl.totQ Pl.totOk; dsimp only; rw [k1, k2, k3, k4, k6]; rfl))
        clear NO HP HZ
        go_wp2
        refine wp_region_und (by kernel_rfl) (by kernel_rfl) ?_
        repeat (go_big_quiet_step ((first | first | (go_at_call 70; with_reducible exact CA _) | (go_at_call 52; first | (with_reducible exact CC _) | (with_reducible exact CS _) | (with_reducible exact CL _)))))
        refine wpQuiet_nil ?_
        intro X hX
        have hbx := Lib.hid (below_step HBL.out (below_step (below_new (Below.refl _ _) _) hX))
        go_wp2
        go_ret
        exact ⟨ret_bool HV.out.symm, hbx.out⟩
      have k6 : decide (xM ≤ 1000000) = true := decide_eq_true (by omega)
      have k7 : decide (1000000 < xM) = false := decide_eq_false k5
      by_cases hk0 : k = 0
      · subst hk0
        clear q0
        simp only [Nat.zero_mul, Nat.add_zero] at d0 d1 d2 d3 d4
        have HN := Lib.hid (Pl.snocB HU.out (by rw [HP.out]; unfold Pl.totQ Pl.totOk; dsimp only; rw [k1, k2, k3, k4, k6]; rfl))
        clear NO HP HZ
        go_wp2
        refine wp_region_und (by kernel_rfl) (by kernel_rfl) ?_
        repeat (go_big_quiet_step ((first | first | (go_at_call 70; with_reducible exact CA _) | (go_at_call 52; first | (with_reducible exact CC _) | (with_reducible exact CS _) | (with_reducible exact CL _)))))
        refine wpQuiet_nil ?_
        intro X hX
        have hbx := Lib.hid (below_step HBL.out (below_step (below_new (Below.refl _ _) _) hX))
        go_wp2
        go_roundg (n - (0 + 1))
        case measure => omega
        case rel => exact ⟨hbx.out, 0 + 1, Nat.le_refl _, by omega, by go_num, HN.out⟩
      · obtain ⟨k, rfl⟩ : ∃ j, k = j + 1 := ⟨k - 1, by omega⟩
        rw [Nat.add_sub_cancel] at q0
        have hw1 : IntKind.i64.wrap (((k + 1 : Nat) : Int) - 1) = (k : Nat) := by rw [show ((k + 1 : Nat) : Int) - 1 = (k : Nat) by omega]; exact IntWalk.i64_in _ (by omega)
        have hk3 : (0 : Int) < ((k + 1 : Nat) : Int) := by omega
        have hk4 : (0 : Int) ≤ ((k : Nat) : Int) := by omega
        have hk5 : ((k : Nat) : Int) < (n : Nat) := by omega
        have CX := fun q : Und (W.alloc (.cells #[.slice A1 n1 c1, .int .i64 xS, .int .i64 xC, .int .i64 xA, .int .i64 xM] 50)) => und_call q (labelsText_c xL _ _ _ _ B ((HLX.out.alloc' (by omega) _).und (by have := nblk1 W (.cells #[.slice A1 n1 c1, .int .i64 xS, .int .i64 xC, .int .i64 xA, .int .i64 xM] 50); omega) q) (Nat.le_trans (by have := nblk1 W (.cells #[.slice A1 n1 c1, .int .i64 xS, .int .i64 xC, .int .i64 xA, .int .i64 xM] 50); omega) (und_size q)) k1)
        obtain ⟨tx, htx⟩ : ∃ t, Pl.labelsText xL = t := ⟨_, rfl⟩
        rw [htx] at CX
        have CZ := fun q : Und (W.alloc (.cells #[.slice A1 n1 c1, .int .i64 xS, .int .i64 xC, .int .i64 xA, .int .i64 xM] 50)) => und_call q (labelsText_c zL _ _ _ _ B ((HLZ.out.alloc' (by omega) _).und (by have := nblk1 W (.cells #[.slice A1 n1 c1, .int .i64 xS, .int .i64 xC, .int .i64 xA, .int .i64 xM] 50); omega) q) (Nat.le_trans (by have := nblk1 W (.cells #[.slice A1 n1 c1, .int .i64 xS, .int .i64 xC, .int .i64 xA, .int .i64 xM] 50); omega) (und_size q)) (HZ.out (by omega)))
        obtain ⟨tz, htz⟩ : ∃ t, Pl.labelsText zL = t := ⟨_, rfl⟩
        rw [htz] at CZ
        have HTX := Lib.hid htx
        have HTZ := Lib.hid htz
        clear htx htz
        cases kl : Pl.lessB tz tx
        · have kl' : Op.bytesLess tz.toList tx.toList = false := kl
          have HV := Lib.hid (NO.out (by unfold Pl.totQ Pl.totOk; dsimp only; rw [k1, k2, k3, k4, k6]; rw [HTZ.out, HTX.out, kl]; rfl))
          clear NO HP HZ
          go_wp2
          refine wp_region_und (by kernel_rfl) (by kernel_rfl) ?_
          repeat (go_big_quiet_step ((first | first | (go_at_call 70; with_reducible exact CA _) | (go_at_call 52; first | (with_reducible exact CC _) | (with_reducible exact CS _) | (with_reducible exact CL _)) | (go_at_call 78; first | (with_reducible exact CX _) | (with_reducible exact CZ _)))))
          refine wpQuiet_nil ?_
          intro X hX
          have hbx := Lib.hid (below_step HBL.out (below_step (below_new (Below.refl _ _) _) hX))
          go_wp2
          go_ret
          exact ⟨ret_bool HV.out.symm, hbx.out⟩
        · have kl' : Op.bytesLess tz.toList tx.toList = true := kl
          have HN := Lib.hid (Pl.snocB HU.out (by rw [HP.out]; unfold Pl.totQ Pl.totOk; dsimp only; rw [k1, k2, k3, k4, k6]; rw [HTZ.out, HTX.out, kl]; simp))
          clear NO HP HZ
          go_wp2
          refine wp_region_und (by kernel_rfl) (by kernel_rfl) ?_
          repeat (go_big_quiet_step ((first | first | (go_at_call 70; with_reducible exact CA _) | (go_at_call 52; first | (with_reducible exact CC _) | (with_reducible exact CS _) | (with_reducible exact CL _)) | (go_at_call 78; first | (with_reducible exact CX _) | (with_reducible exact CZ _)))))
          refine wpQuiet_nil ?_
          intro X hX
          have hbx := Lib.hid (below_step HBL.out (below_step (below_new (Below.refl _ _) _) hX))
          go_wp2
          go_roundg (n - (k + 1 + 1))
          case measure => omega
          case rel => exact ⟨hbx.out, k + 1 + 1, Nat.le_refl _, by omega, by go_num, HN.out⟩
    · have HF : Hid (Pl.totalsOk l = decide (n ≤ 40)) := by
        show _ = _
        unfold Pl.totalsOk
        rw [Pl.allB_yes (fun j hj => HU.out j (by rw [hlen.out] at hj; omega)), hlen.out]
        rfl
      obtain rfl : k = n := by omega
      go_wp2
      go_ret
      exact ⟨ret_bool (by rw [HF.out]; exact decide_eq_decide.2 (by omega)), HBL.out⟩
set_option maxRecDepth 100000 in
set_option maxHeartbeats 4000000 in
theorem GoodTotals_c (l : List Total) (A : Option Addr) (n c : Nat) (w : World) (B : Nat) (hl : Mm.SlAt rTotal w B l A n c) (hB : B ≤ w.heap.size) :
    Calls Try.prog 47 #[.slice A n c] w fun e w' => e = .returned (.bool (Pl.totalsOk l)) ∧ Below w.heap.size w w' := by
  have hlen : Hid (l.length = n) := hl.1
  have hn : n ≤ maxLen := Nat.le_trans hl.2.1 hl.2.2.1
  unfold maxLen at hn
  have HL := Lib.hid hl
  clear hl
  go_enter Try.func47, Try.ntmps47
  go_wp2
  go_loopg [7] n (fun g i wr => Below w.heap.size w wr ∧ ∃ k : Nat, n - k ≤ g ∧ k ≤ n ∧ i = .int .i64 k ∧ Hid (∀ j, j < k → Pl.totP l j = true))
  case atStart => exact ⟨Below.refl _ _, 0, Nat.le_refl _, Nat.zero_le _, rfl, fun j hj => absurd hj (Nat.not_lt_zero j)⟩
  case round =>
    obtain ⟨hbel, k, hgk, hk, rfl, HU⟩ := hrel
    obtain ⟨W, rfl⟩ : ∃ W : World, W = wr := ⟨_, rfl⟩
    have HLw := Lib.hid (HL.out.keep fun b hb' => hbel.block b (Nat.lt_of_lt_of_le hb' hB))
    have HBL := Lib.hid hbel
    have hsw := hbel.size
    clear hbel
    by_cases hlt : k < n
    · obtain ⟨x, b0, off, A1, n1, c1, hx, rfl, hbb, hlx, g1, g2, g3, g4, d0, d1, d2, d3, d4⟩ := rTotal_get HLw.out hlt
      obtain ⟨z, A2, n2, c2, hz, -, hlz, -, -, -, -, q0, -⟩ := rTotal_get' HLw.out (show k - 1 < n by omega)
      have HP : Hid (Pl.totP l k = Pl.totQ k x z) := by show _ = _; unfold Pl.totP; rw [Pl.totAt_of hx, Pl.totAt_of hz]
      have NO : Hid (Pl.totQ k x z = false → Pl.totalsOk l = false) := fun h => by
        unfold Pl.totalsOk; rw [Pl.allB_no (by rw [hlen.out]; exact hlt) (by rw [HP.out, h])]; rfl
      have HZ : Hid (k ≠ 0 → Pl.labelsOk z.Labels = true) := fun h0 => by
        have h1 := HU.out (k - 1) (by omega)
        unfold Pl.totP Pl.totQ at h1
        rw [Pl.totAt_of hz, Bool.and_eq_true] at h1
        exact Pl.totOk_lab h1.1
      clear hx hz
      obtain ⟨xL, xS, xC, xA, xM⟩ := x
      obtain ⟨zL, zS, zC, zA, zM⟩ := z
      dsimp only at hlx g1 g2 g3 g4 d0 d1 d2 d3 d4 hlz q0
      have HLX := Lib.hid hlx
      have HLZ := Lib.hid hlz
      clear hlx hlz
      have hlt' : (k : Int) < (n : Nat) := by omega
      have hlt2 : (0 : Int) ≤ (k : Nat) := by omega
      have CA := fun q : Und (W.alloc (.cells #[.slice A1 n1 c1, .int .i64 xS, .int .i64 xC, .int .i64 xA, .int .i64 xM] 50)) => und_call q (GoodLabels_c xL A1 n1 c1 _ B ((HLX.out.alloc' (by omega) _).und (by have := nblk1 W (.cells #[.slice A1 n1 c1, .int .i64 xS, .int .i64 xC, .int .i64 xA, .int .i64 xM] 50); omega) q) (Nat.le_trans (by have := nblk1 W (.cells #[.slice A1 n1 c1, .int .i64 xS, .int .i64 xC, .int .i64 xA, .int .i64 xM] 50); omega) (und_size q)))
      have CC := fun q : Und (W.alloc (.cells #[.slice A1 n1 c1, .int .i64 xS, .int .i64 xC, .int .i64 xA, .int .i64 xM] 50)) => und_same q (l1In_c xC 1 1000 _)
      have CS := fun q : Und (W.alloc (.cells #[.slice A1 n1 c1, .int .i64 xS, .int .i64 xC, .int .i64 xA, .int .i64 xM] 50)) => und_same q (l1In_c xS (-1000000000) 1000000000 _)
      have CL := fun q : Und (W.alloc (.cells #[.slice A1 n1 c1, .int .i64 xS, .int .i64 xC, .int .i64 xA, .int .i64 xM] 50)) => und_same q (l1In_c xA (-1000000) xM _)
      cases k1 : Pl.labelsOk xL
      · have HV := Lib.hid (NO.out (by unfold Pl.totQ Pl.totOk; dsimp only; rw [k1]; simp))
        clear NO HP HZ
        go_wp2
        refine wp_region_und (by kernel_rfl) (by kernel_rfl) ?_
        repeat (go_big_quiet_step ((first | first | (go_at_call 67; with_reducible exact CA _) | (go_at_call 48; first | (with_reducible exact CC _) | (with_reducible exact CS _) | (with_reducible exact CL _)))))
        refine wpQuiet_nil ?_
        intro X hX
        have hbx := Lib.hid (below_step HBL.out (below_step (below_new (Below.refl _ _) _) hX))
        go_wp2
        go_ret
        exact ⟨ret_bool HV.out.symm, hbx.out⟩
      cases k2 : Pl.isIn xC 1 1000
      · have HV := Lib.hid (NO.out (by unfold Pl.totQ Pl.totOk; dsimp only; rw [k1, k2]; simp))
        clear NO HP HZ
        go_wp2
        refine wp_region_und (by kernel_rfl) (by kernel_rfl) ?_
        repeat (go_big_quiet_step ((first | first | (go_at_call 67; with_reducible exact CA _) | (go_at_call 48; first | (with_reducible exact CC _) | (with_reducible exact CS _) | (with_reducible exact CL _)))))
        refine wpQuiet_nil ?_
        intro X hX
        have hbx := Lib.hid (below_step HBL.out (below_step (below_new (Below.refl _ _) _) hX))
        go_wp2
        go_ret
        exact ⟨ret_bool HV.out.symm, hbx.out⟩
      cases k3 : Pl.isIn xS (-1000000000) 1000000000
      · have HV := Lib.hid (NO.out (by unfold Pl.totQ Pl.totOk; dsimp only; rw [k1, k2, k3]; simp))
        clear NO HP HZ
        go_wp2
        refine wp_region_und (by kernel_rfl) (by kernel_rfl) ?_
        repeat (go_big_quiet_step ((first | first | (go_at_call 67; with_reducible exact CA _) | (go_at_call 48; first | (with_reducible exact CC _) | (with_reducible exact CS _) | (with_reducible exact CL _)))))
        refine wpQuiet_nil ?_
        intro X hX
        have hbx := Lib.hid (below_step HBL.out (below_step (below_new (Below.refl _ _) _) hX))
        go_wp2
        go_ret
        exact ⟨ret_bool HV.out.symm, hbx.out⟩
      cases k4 : Pl.isIn xA (-1000000) xM
      · have HV := Lib.hid (NO.out (by unfold Pl.totQ Pl.totOk; dsimp only; rw [k1, k2, k3, k4]; simp))
        clear NO HP HZ
        go_wp2
        refine wp_region_und (by kernel_rfl) (by kernel_rfl) ?_
        repeat (go_big_quiet_step ((first | first | (go_at_call 67; with_reducible exact CA _) | (go_at_call 48; first | (with_reducible exact CC _) | (with_reducible exact CS _) | (with_reducible exact CL _)))))
        refine wpQuiet_nil ?_
        intro X hX
        have hbx := Lib.hid (below_step HBL.out (below_step (below_new (Below.refl _ _) _) hX))
        go_wp2
        go_ret
        exact ⟨ret_bool HV.out.symm, hbx.out⟩
      by_cases k5 : 1000000 < xM
      · have k6 : decide (xM ≤ 1000000) = false := decide_eq_false (by omega)
        have k7 : decide (1000000 < xM) = true := decide_eq_true k5
        have HV := Lib.hid (NO.out (by unfold Pl.totQ Pl.totOk; dsimp only; rw [k1, k2, k3, k4, k6]; rfl))
        clear NO HP HZ
        go_wp2
        refine wp_region_und (by kernel_rfl) (by kernel_rfl) ?_
        repeat (go_big_quiet_step ((first | first | (go_at_call 67; with_reducible exact CA _) | (go_at_call 48; first | (with_reducible exact CC _) | (with_reducible exact CS _) | (with_reducible exact CL _)))))
        refine wpQuiet_nil ?_
        intro X hX
        have hbx := Lib.hid (below_step HBL.out (below_step (below_new (Below.refl _ _) _) hX))
        go_wp2
        go_ret
        exact ⟨ret_bool HV.out.symm, hbx.out⟩
      have k6 : decide (xM ≤ 1000000) = true := decide_eq_true (by omega)
      have k7 : decide (1000000 < xM) = false := decide_eq_false k5
      by_cases hk0 : k = 0
      · subst hk0
        clear q0
        simp only [Nat.zero_mul, Nat.add_zero] at d0 d1 d2 d3 d4
        have HN := Lib.hid (Pl.snocB HU.out (by rw [HP.out]; unfold Pl.totQ Pl.totOk; dsimp only; rw [k1, k2, k3, k4, k6]; rfl))
        clear NO HP HZ
        go_wp2
        refine wp_region_und (by kernel_rfl) (by kernel_rfl) ?_
        repeat (go_big_quiet_step ((first | first | (go_at_call 67; with_reducible exact CA _) | (go_at_call 48; first | (with_reducible exact CC _) | (with_reducible exact CS _) | (with_reducible exact CL _)))))
        refine wpQuiet_nil ?_
        intro X hX
        have hbx := Lib.hid (below_step HBL.out (below_step (below_new (Below.refl _ _) _) hX))
        go_wp2
        go_roundg (n - (0 + 1))
        case measure => omega
        case rel => exact ⟨hbx.out, 0 + 1, Nat.le_refl _, by omega, by go_num, HN.out⟩
      · obtain ⟨k, rfl⟩ : ∃ j, k = j + 1 := ⟨k - 1, by omega⟩
        rw [Nat.add_sub_cancel] at q0
        have hw1 : IntKind.i64.wrap (((k + 1 : Nat) : Int) - 1) = (k : Nat) := by rw [show ((k + 1 : Nat) : Int) - 1 = (k : Nat) by omega]; exact IntWalk.i64_in _ (by omega)
        have hk3 : (0 : Int) < ((k + 1 : Nat) : Int) := by omega
        have hk4 : (0 : Int) ≤ ((k : Nat) : Int) := by omega
        have hk5 : ((k : Nat) : Int) < (n : Nat) := by omega
        have CX := fun q : Und (W.alloc (.cells #[.slice A1 n1 c1, .int .i64 xS, .int .i64 xC, .int .i64 xA, .int .i64 xM] 50)) => und_call q (l3Text_c xL _ _ _ _ B ((HLX.out.alloc' (by omega) _).und (by have := nblk1 W (.cells #[.slice A1 n1 c1, .int .i64 xS, .int .i64 xC, .int .i64 xA, .int .i64 xM] 50); omega) q) (Nat.le_trans (by have := nblk1 W (.cells #[.slice A1 n1 c1, .int .i64 xS, .int .i64 xC, .int .i64 xA, .int .i64 xM] 50); omega) (und_size q)) k1)
        obtain ⟨tx, htx⟩ : ∃ t, Pl.labelsText xL = t := ⟨_, rfl⟩
        rw [htx] at CX
        have CZ := fun q : Und (W.alloc (.cells #[.slice A1 n1 c1, .int .i64 xS, .int .i64 xC, .int .i64 xA, .int .i64 xM] 50)) => und_call q (l3Text_c zL _ _ _ _ B ((HLZ.out.alloc' (by omega) _).und (by have := nblk1 W (.cells #[.slice A1 n1 c1, .int .i64 xS, .int .i64 xC, .int .i64 xA, .int .i64 xM] 50); omega) q) (Nat.le_trans (by have := nblk1 W (.cells #[.slice A1 n1 c1, .int .i64 xS, .int .i64 xC, .int .i64 xA, .int .i64 xM] 50); omega) (und_size q)) (HZ.out (by omega)))
        obtain ⟨tz, htz⟩ : ∃ t, Pl.labelsText zL = t := ⟨_, rfl⟩
        rw [htz] at CZ
        have HTX := Lib.hid htx
        have HTZ := Lib.hid htz
        clear htx htz
        cases kl : Pl.lessB tz tx
        · have kl' : Op.bytesLess tz.toList tx.toList = false := kl
          have HV := Lib.hid (NO.out (by unfold Pl.totQ Pl.totOk; dsimp only; rw [k1, k2, k3, k4, k6]; rw [HTZ.out, HTX.out, kl]; rfl))
          clear NO HP HZ
          go_wp2
          refine wp_region_und (by kernel_rfl) (by kernel_rfl) ?_
          repeat (go_big_quiet_step ((first | first | (go_at_call 67; with_reducible exact CA _) | (go_at_call 48; first | (with_reducible exact CC _) | (with_reducible exact CS _) | (with_reducible exact CL _)) | (go_at_call 76; first | (with_reducible exact CX _) | (with_reducible exact CZ _)))))
          refine wpQuiet_nil ?_
          intro X hX
          have hbx := Lib.hid (below_step HBL.out (below_step (below_new (Below.refl _ _) _) hX))
          go_wp2
          go_ret
          exact ⟨ret_bool HV.out.symm, hbx.out⟩
        · have kl' : Op.bytesLess tz.toList tx.toList = true := kl
          have HN := Lib.hid (Pl.snocB HU.out (by rw [HP.out]; unfold Pl.totQ Pl.totOk; dsimp only; rw [k1, k2, k3, k4, k6]; rw [HTZ.out, HTX.out, kl]; simp))
          clear NO HP HZ
          go_wp2
          refine wp_region_und (by kernel_rfl) (by kernel_rfl) ?_
          repeat (go_big_quiet_step ((first | first | (go_at_call 67; with_reducible exact CA _) | (go_at_call 48; first | (with_reducible exact CC _) | (with_reducible exact CS _) | (with_reducible exact CL _)) | (go_at_call 76; first | (with_reducible exact CX _) | (with_reducible exact CZ _)))))
          refine wpQuiet_nil ?_
          intro X hX
          have hbx := Lib.hid (below_step HBL.out (below_step (below_new (Below.refl _ _) _) hX))
          go_wp2
          go_roundg (n - (k + 1 + 1))
          case measure => omega
          case rel => exact ⟨hbx.out, k + 1 + 1, Nat.le_refl _, by omega, by go_num, HN.out⟩
    · have HF : Hid (Pl.totalsOk l = decide (n ≤ 40)) := by
        show _ = _
        unfold Pl.totalsOk
        rw [Pl.allB_yes (fun j hj => HU.out j (by rw [hlen.out] at hj; omega)), hlen.out]
        rfl
      obtain rfl : k = n := by omega
      go_wp2
      go_ret
      exact ⟨ret_bool (by rw [HF.out]; exact decide_eq_decide.2 (by omega)), HBL.out⟩
end Go.Proofs.Ytnppcdiicnofpaa
