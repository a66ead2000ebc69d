/-
  Contracts: labels and their texts. No conditions.
-/
import Derived.Test.YtnppcdiicnofpaaPb
import Derived.Test.YtnppcdiicnofpaaLj
import Derived.Test.YtnppcdiicnofpaaTy
import Derived.Test.YtnppcdiicnofpaaOp
import Derived.Test.YtnppcdiicnofpaaQt
import Derived.Lib.Hide
import Derived.Deep.DeepCutAuto
namespace Go.Proofs.Ytnppcdiicnofpaa
open Go.RowKit
attribute [local go_sem] und_cell World.cell?_alloc_some
theorem isLabel_c (x : Label) (w : World) (h1 : x.Name.size ≤ maxLen) (h2 : x.Value.size ≤ maxLen) :
    Calls Try.prog 97 #[.agg #[.string x.Name, .string x.Value]] w fun e w' => e = .returned (.bool (Pl.labelOk x)) ∧ Below w.heap.size w w' := by
  have hb0 : Below w.heap.size w (w.alloc (.cells #[.string x.Name, .string x.Value] 97)) := below_new (Below.refl _ _) _
  cases k1 : Pl.word false x.Name.data.toList
  · go_enter Try.func97, Try.ntmps97
    go_wp2_with (go_at_call 111; refine (isWord_c _ _ _ (by assumption)).mono ?_; rintro e w' ⟨rfl, rfl⟩)
    go_ret
    exact ⟨ret_bool (by unfold Pl.labelOk; rw [k1]; rfl), hb0⟩
  · go_enter Try.func97, Try.ntmps97
    go_wp2_with (go_at_call 111; refine (isWord_c _ _ _ (by assumption)).mono ?_; rintro e w' ⟨rfl, rfl⟩)
    go_ret
    exact ⟨ret_bool (by unfold Pl.labelOk; rw [k1]; simp), hb0⟩
--%labs
set_option maxRecDepth 100000 in
set_option maxHeartbeats 2000000 in
theorem areLabels_c (l : List Label) (A : Option Addr) (n c : Nat) (w : World) (B : Nat) (hl : Mm.SlAt rLabel w B l A n c) (hB : B ≤ w.heap.size) :
    Calls Try.prog 70 #[.slice A n c] w fun e w' => e = .returned (.bool (Pl.labelsOk l)) ∧ Below w.heap.size w w' := by
  have hlen : Hid (l.length = n) := hl.1
  have hn : n ≤ maxLen := Nat.le_trans hl.2.1 hl.2.2.1
  unfold maxLen at hn
  have HL := Lib.hid hl
  clear hl
  go_enter Try.func70, Try.ntmps70
  go_wp2
  go_loopg [7] n (fun g i wr => Below w.heap.size w wr ∧ ∃ k : Nat, n - k ≤ g ∧ k ≤ n ∧ i = .int .i64 k ∧ Hid (∀ j, j < k → Pl.labP l j = true))
  case atStart => exact ⟨Below.refl _ _, 0, Nat.le_refl _, Nat.zero_le _, rfl, fun j hj => absurd hj (Nat.not_lt_zero j)⟩
  case round =>
    obtain ⟨hbel, k, hgk, hk, rfl, HU⟩ := hrel
    obtain ⟨W, rfl⟩ : ∃ W : World, W = wr := ⟨_, rfl⟩
    have HLw := Lib.hid (HL.out.keep fun b hb' => hbel.block b (Nat.lt_of_lt_of_le hb' hB))
    have HBL := Lib.hid hbel
    have hsw := hbel.size
    clear hbel
    by_cases hlt : k < n
    · obtain ⟨x, b0, off, hx, rfl, hbb, g0, g1, d0, d1⟩ := rLabel_get HLw.out hlt
      obtain ⟨z, hz, -, e0, e1, q0, q1⟩ := rLabel_get' HLw.out (show k - 1 < n by omega)
      have HP : Hid (Pl.labP l k = Pl.labQ k x z) := by show _ = _; unfold Pl.labP; rw [Pl.labAt_of hx, Pl.labAt_of hz]
      have NO : Hid (Pl.labQ k x z = false → Pl.labelsOk l = false) := fun h => by
        unfold Pl.labelsOk; rw [Pl.allB_no (by rw [hlen.out]; exact hlt) (by rw [HP.out, h])]; rfl
      clear hx hz
      have hlt' : (k : Int) < (n : Nat) := by omega
      have hlt2 : (0 : Int) ≤ (k : Nat) := by omega
      cases kk : Pl.labelOk x
      · have HV := Lib.hid (NO.out (by unfold Pl.labQ; rw [kk]; rfl))
        clear NO HP
        go_wp2
        refine wp_region_und (by kernel_rfl) (by kernel_rfl) ?_
        repeat (go_big_quiet_step ((first | (go_at_call 97; exact und_call _ (isLabel_c x _ g0 g1)))))
        refine wpQuiet_nil ?_
        intro X hX
        have hbx := Lib.hid (below_step HBL.out (below_step (below_new (Below.refl _ _) _) hX))
        go_wp2
        go_ret
        exact ⟨ret_bool HV.out.symm, hbx.out⟩
      · skip
        by_cases hk0 : k = 0
        · subst hk0
          clear q0 q1
          simp only [Nat.zero_mul, Nat.add_zero] at d0 d1
          have HN := Lib.hid (Pl.snocB HU.out (by rw [HP.out]; unfold Pl.labQ; rw [kk]; rfl))
          clear NO HP
          go_wp2
          refine wp_region_und (by kernel_rfl) (by kernel_rfl) ?_
          repeat (go_big_quiet_step ((first | (go_at_call 97; exact und_call _ (isLabel_c x _ g0 g1)))))
          refine wpQuiet_nil ?_
          intro X hX
          have hbx := Lib.hid (below_step HBL.out (below_step (below_new (Below.refl _ _) _) hX))
          go_wp2
          go_roundg (n - (0 + 1))
          case measure => omega
          case rel => exact ⟨hbx.out, 0 + 1, Nat.le_refl _, by omega, by go_num, HN.out⟩
        · obtain ⟨k, rfl⟩ : ∃ j, k = j + 1 := ⟨k - 1, by omega⟩
          rw [Nat.add_sub_cancel] at q0 q1
          have hw1 : IntKind.i64.wrap (((k + 1 : Nat) : Int) - 1) = (k : Nat) := by rw [show ((k + 1 : Nat) : Int) - 1 = (k : Nat) by omega]; exact IntWalk.i64_in _ (by omega)
          have hk3 : (0 : Int) < ((k + 1 : Nat) : Int) := by omega
          have hk4 : (0 : Int) ≤ ((k : Nat) : Int) := by omega
          have hk5 : ((k : Nat) : Int) < (n : Nat) := by omega
          cases kl : Pl.lessB z.Name x.Name
          · have kl' : Op.bytesLess z.Name.toList x.Name.toList = false := kl
            have HV := Lib.hid (NO.out (by unfold Pl.labQ; rw [kk]; rw [kl]; rfl))
            clear NO HP
            go_wp2
            refine wp_region_und (by kernel_rfl) (by kernel_rfl) ?_
            repeat (go_big_quiet_step ((first | (go_at_call 97; exact und_call _ (isLabel_c x _ g0 g1)))))
            refine wpQuiet_nil ?_
            intro X hX
            have hbx := Lib.hid (below_step HBL.out (below_step (below_new (Below.refl _ _) _) hX))
            go_wp2
            go_ret
            exact ⟨ret_bool HV.out.symm, hbx.out⟩
          · skip
            have kl' : Op.bytesLess z.Name.toList x.Name.toList = true := kl
            have HN := Lib.hid (Pl.snocB HU.out (by rw [HP.out]; unfold Pl.labQ; rw [kk]; rw [kl]; simp))
            clear NO HP
            go_wp2
            refine wp_region_und (by kernel_rfl) (by kernel_rfl) ?_
            repeat (go_big_quiet_step ((first | (go_at_call 97; exact und_call _ (isLabel_c x _ g0 g1)))))
            refine wpQuiet_nil ?_
            intro X hX
            have hbx := Lib.hid (below_step HBL.out (below_step (below_new (Below.refl _ _) _) hX))
            go_wp2
            go_roundg (n - (k + 1 + 1))
            case measure => omega
            case rel => exact ⟨hbx.out, k + 1 + 1, Nat.le_refl _, by omega, by go_num, HN.out⟩
    · have HF : Hid (Pl.labelsOk l = decide (n ≤ 6)) := by
        show _ = _
        unfold Pl.labelsOk
        rw [Pl.allB_yes (fun j hj => HU.out j (by rw [hlen.out] at hj; omega)), hlen.out]
        rfl
      obtain rfl : k = n := by omega
      go_wp2
      go_ret
      exact ⟨ret_bool (by rw [HF.out]; exact decide_eq_decide.2 (by omega)), HBL.out⟩
set_option maxRecDepth 100000 in
set_option maxHeartbeats 2000000 in
theorem GoodLabels_c (l : List Label) (A : Option Addr) (n c : Nat) (w : World) (B : Nat) (hl : Mm.SlAt rLabel w B l A n c) (hB : B ≤ w.heap.size) :
    Calls Try.prog 67 #[.slice A n c] w fun e w' => e = .returned (.bool (Pl.labelsOk l)) ∧ Below w.heap.size w w' := by
  have hlen : Hid (l.length = n) := hl.1
  have hn : n ≤ maxLen := Nat.le_trans hl.2.1 hl.2.2.1
  unfold maxLen at hn
  have HL := Lib.hid hl
  clear hl
  go_enter Try.func67, Try.ntmps67
  go_wp2
  go_loopg [7] n (fun g i wr => Below w.heap.size w wr ∧ ∃ k : Nat, n - k ≤ g ∧ k ≤ n ∧ i = .int .i64 k ∧ Hid (∀ j, j < k → Pl.labP l j = true))
  case atStart => exact ⟨Below.refl _ _, 0, Nat.le_refl _, Nat.zero_le _, rfl, fun j hj => absurd hj (Nat.not_lt_zero j)⟩
  case round =>
    obtain ⟨hbel, k, hgk, hk, rfl, HU⟩ := hrel
    obtain ⟨W, rfl⟩ : ∃ W : World, W = wr := ⟨_, rfl⟩
    have HLw := Lib.hid (HL.out.keep fun b hb' => hbel.block b (Nat.lt_of_lt_of_le hb' hB))
    have HBL := Lib.hid hbel
    have hsw := hbel.size
    clear hbel
    by_cases hlt : k < n
    · obtain ⟨x, b0, off, hx, rfl, hbb, g0, g1, d0, d1⟩ := rLabel_get HLw.out hlt
      obtain ⟨z, hz, -, e0, e1, q0, q1⟩ := rLabel_get' HLw.out (show k - 1 < n by omega)
      have HP : Hid (Pl.labP l k = Pl.labQ k x z) := by show _ = _; unfold Pl.labP; rw [Pl.labAt_of hx, Pl.labAt_of hz]
      have NO : Hid (Pl.labQ k x z = false → Pl.labelsOk l = false) := fun h => by
        unfold Pl.labelsOk; rw [Pl.allB_no (by rw [hlen.out]; exact hlt) (by rw [HP.out, h])]; rfl
      clear hx hz
      have hlt' : (k : Int) < (n : Nat) := by omega
      have hlt2 : (0 : Int) ≤ (k : Nat) := by omega
      have CN := fun q : Und (W.alloc (.cells #[.string x.Name, .string x.Value] 97)) => und_same q (l3Name_c x.Name false _ g0)
      have CV := fun q : Und (W.alloc (.cells #[.string x.Name, .string x.Value] 97)) => und_same q (l3Name_c x.Value true _ g1)
      cases k1 : Pl.word false x.Name.data.toList
      · have HV := Lib.hid (NO.out (by unfold Pl.labQ; unfold Pl.labelOk; rw [k1]; rfl))
        clear NO HP
        go_wp2
        refine wp_region_und (by kernel_rfl) (by kernel_rfl) ?_
        repeat (go_big_quiet_step ((first | (go_at_call 96; first | (with_reducible exact CN _) | (with_reducible exact CV _)))))
        refine wpQuiet_nil ?_
        intro X hX
        have hbx := Lib.hid (below_step HBL.out (below_step (below_new (Below.refl _ _) _) hX))
        go_wp2
        go_ret
        exact ⟨ret_bool HV.out.symm, hbx.out⟩
      · skip
        cases k2 : Pl.word true x.Value.data.toList
        · have HV := Lib.hid (NO.out (by unfold Pl.labQ; unfold Pl.labelOk; rw [k1, k2]; rfl))
          clear NO HP
          go_wp2
          refine wp_region_und (by kernel_rfl) (by kernel_rfl) ?_
          repeat (go_big_quiet_step ((first | (go_at_call 96; first | (with_reducible exact CN _) | (with_reducible exact CV _)))))
          refine wpQuiet_nil ?_
          intro X hX
          have hbx := Lib.hid (below_step HBL.out (below_step (below_new (Below.refl _ _) _) hX))
          go_wp2
          go_ret
          exact ⟨ret_bool HV.out.symm, hbx.out⟩
        · skip
          by_cases hk0 : k = 0
          · subst hk0
            clear q0 q1
            simp only [Nat.zero_mul, Nat.add_zero] at d0 d1
            have HN := Lib.hid (Pl.snocB HU.out (by rw [HP.out]; unfold Pl.labQ; unfold Pl.labelOk; rw [k1, k2]; rfl))
            clear NO HP
            go_wp2
            refine wp_region_und (by kernel_rfl) (by kernel_rfl) ?_
            repeat (go_big_quiet_step ((first | (go_at_call 96; first | (with_reducible exact CN _) | (with_reducible exact CV _)))))
            refine wpQuiet_nil ?_
            intro X hX
            have hbx := Lib.hid (below_step HBL.out (below_step (below_new (Below.refl _ _) _) hX))
            go_wp2
            go_roundg (n - (0 + 1))
            case measure => omega
            case rel => exact ⟨hbx.out, 0 + 1, Nat.le_refl _, by omega, by go_num, HN.out⟩
          · obtain ⟨k, rfl⟩ : ∃ j, k = j + 1 := ⟨k - 1, by omega⟩
            rw [Nat.add_sub_cancel] at q0 q1
            have hw1 : IntKind.i64.wrap (((k + 1 : Nat) : Int) - 1) = (k : Nat) := by rw [show ((k + 1 : Nat) : Int) - 1 = (k : Nat) by omega]; exact IntWalk.i64_in _ (by omega)
            have hk3 : (0 : Int) < ((k + 1 : Nat) : Int) := by omega
            have hk4 : (0 : Int) ≤ ((k : Nat) : Int) := by omega
            have hk5 : ((k : Nat) : Int) < (n : Nat) := by omega
            cases kl : Pl.lessB z.Name x.Name
            · have kl' : Op.bytesLess z.Name.toList x.Name.toList = false := kl
              have HV := Lib.hid (NO.out (by unfold Pl.labQ; unfold Pl.labelOk; rw [k1, k2]; rw [kl]; rfl))
              clear NO HP
              go_wp2
              refine wp_region_und (by kernel_rfl) (by kernel_rfl) ?_
              repeat (go_big_quiet_step ((first | (go_at_call 96; first | (with_reducible exact CN _) | (with_reducible exact CV _)))))
              refine wpQuiet_nil ?_
              intro X hX
              have hbx := Lib.hid (below_step HBL.out (below_step (below_new (Below.refl _ _) _) hX))
              go_wp2
              go_ret
              exact ⟨ret_bool HV.out.symm, hbx.out⟩
            · skip
              have kl' : Op.bytesLess z.Name.toList x.Name.toList = true := kl
              have HN := Lib.hid (Pl.snocB HU.out (by rw [HP.out]; unfold Pl.labQ; unfold Pl.labelOk; rw [k1, k2]; rw [kl]; simp))
              clear NO HP
              go_wp2
              refine wp_region_und (by kernel_rfl) (by kernel_rfl) ?_
              repeat (go_big_quiet_step ((first | (go_at_call 96; first | (with_reducible exact CN _) | (with_reducible exact CV _)))))
              refine wpQuiet_nil ?_
              intro X hX
              have hbx := Lib.hid (below_step HBL.out (below_step (below_new (Below.refl _ _) _) hX))
              go_wp2
              go_roundg (n - (k + 1 + 1))
              case measure => omega
              case rel => exact ⟨hbx.out, k + 1 + 1, Nat.le_refl _, by omega, by go_num, HN.out⟩
    · have HF : Hid (Pl.labelsOk l = decide (n ≤ 6)) := by
        show _ = _
        unfold Pl.labelsOk
        rw [Pl.allB_yes (fun j hj => HU.out j (by rw [hlen.out] at hj; omega)), hlen.out]
        rfl
      obtain rfl : k = n := by omega
      go_wp2
      go_ret
      exact ⟨ret_bool (by rw [HF.out]; exact decide_eq_decide.2 (by omega)), HBL.out⟩
--%endlabs
end Go.Proofs.Ytnppcdiicnofpaa
