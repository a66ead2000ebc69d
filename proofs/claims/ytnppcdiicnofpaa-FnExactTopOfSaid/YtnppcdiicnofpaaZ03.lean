/-
  Joined texts, in build order: Wr, Wx, Rg, Ap, Ra, Rs, S2, S3, S4, S5. Each part says what it proves; no conditions beyond those that a part names.
-/
import Derived.Test.YtnppcdiicnofpaaZ01
import Derived.Test.YtnppcdiicnofpaaZ02
import Derived.BigQuiet
import Derived.Deep.AppendLies
import Derived.Deep.LoopGhost
import Derived.Deep.DeepCutAuto
import Derived.Deep.CutBlock
/-
  Contracts: the texts of labels. No conditions.
-/
namespace Go.Proofs.Ytnppcdiicnofpaa
open Go.RowKit
attribute [local go_sem] und_cell World.cell?_alloc_some
theorem Pl.labS_zero (l : List Label) : (⟨#[123]⟩ : ByteArray) = ⟨(123 :: Pl.labBody (l.take 0)).toArray⟩ := rfl
theorem Pl.labS_one {l : List Label} {x : Label} (h : l[0]? = some x) : (⟨#[123]⟩ : ByteArray) ++ (x.Name ++ ⟨#[61]⟩ ++ x.Value) = ⟨(123 :: Pl.labBody (l.take (0 + 1))).toArray⟩ := by
  refine Pl.ba_ext ?_
  rw [Pl.labBody_next h, if_pos rfl]
  simp [ByteArray.data_append, Pl.labTxt]
theorem Pl.labS_next {l : List Label} {k : Nat} {x : Label} (h : l[k]? = some x) (hk : k ≠ 0) : (⟨(123 :: Pl.labBody (l.take k)).toArray⟩ : ByteArray) ++ ⟨#[44]⟩ ++ (x.Name ++ ⟨#[61]⟩ ++ x.Value) = ⟨(123 :: Pl.labBody (l.take (k + 1))).toArray⟩ := by
  refine Pl.ba_ext ?_
  rw [Pl.labBody_next h, if_neg hk]
  simp [ByteArray.data_append, Pl.labTxt]
theorem Pl.labelOk_sz {x : Label} (h : Pl.labelOk x = true) : 1 ≤ x.Name.size ∧ x.Name.size ≤ 8 ∧ 1 ≤ x.Value.size ∧ x.Value.size ≤ 8 := by
  unfold Pl.labelOk at h
  rw [Bool.and_eq_true] at h
  have h1 := Pl.word_len h.1
  have h2 := Pl.word_len h.2
  exact ⟨h1.1, h1.2, h2.1, h2.2⟩
set_option maxRecDepth 100000 in
set_option maxHeartbeats 1000000 in
theorem l3Text_c (l : List Label) (A : Option Addr) (n c : Nat) (w : World) (B : Nat) (hl : Mm.SlAt rLabel w B l A n c) (hB : B ≤ w.heap.size) (hok : Pl.labelsOk l = true) :
    Calls Try.prog 76 #[.slice A n c] w fun e w' => e = .returned (.string (Pl.labelsText l)) ∧ Below w.heap.size w w' := by
  have hlen : Hid (l.length = n) := hl.1
  have hn : n ≤ maxLen := Nat.le_trans hl.2.1 hl.2.2.1
  unfold maxLen at hn
  have HL := Lib.hid hl
  have HOK := Lib.hid hok
  clear hl hok
  go_enter Try.func76, Try.ntmps76
  go_wp2
  go_loopg [3, 8] n (fun g s i wr => Below w.heap.size w wr ∧ ∃ k : Nat, n - k ≤ g ∧ k ≤ n ∧ i = .int .i64 k ∧ ∃ sb : ByteArray, s = .string sb ∧ sb.size ≤ 18 * k + 1 ∧ Hid (sb = ⟨(123 :: Pl.labBody (l.take k)).toArray⟩))
  case atStart => exact ⟨Below.refl _ _, 0, Nat.le_refl _, Nat.zero_le _, rfl, _, rfl, Nat.le_refl _, rfl⟩
  case round =>
    obtain ⟨hbel, k, hgk, hk, rfl, sb, rfl, hsb, HSB⟩ := hrel
    have hn6 := Pl.labelsOk_len HOK.out
    have hnn := hlen.out
    obtain ⟨W, rfl⟩ : ∃ W : World, W = wr := ⟨_, rfl⟩
    have HLw := Lib.hid (HL.out.keep fun b hb' => hbel.block b (Nat.lt_of_lt_of_le hb' hB))
    have HBL := Lib.hid hbel
    clear hbel
    by_cases hlt : k < n
    · obtain ⟨x, b0, off, hx, rfl, hbb, g0, g1, d0, d1⟩ := rLabel_get HLw.out hlt
      have hlt' : (k : Int) < (n : Nat) := by omega
      have hlt2 : (0 : Int) ≤ (k : Nat) := by omega
      have HX := Lib.hid hx
      have hnz := Pl.labelOk_sz (Pl.labelsOk_at HOK.out hx)
      obtain ⟨z1, z2, z3, z4⟩ := hnz
      clear hx
      by_cases hk0 : k = 0
      · subst hk0
        simp only [Nat.zero_mul, Nat.add_zero] at d0 d1
        go_wp2
        go_roundg (n - (0 + 1))
        case measure => omega
        case rel => exact ⟨below_step HBL.out (below_new (Below.refl _ _) _), 0 + 1, Nat.le_refl _, by omega, by go_num, _, rfl, by have y1 : (⟨#[61]⟩ : ByteArray).size = 1 := rfl; have y2 : (⟨#[44]⟩ : ByteArray).size = 1 := rfl; simp only [ByteArray.size_append]; omega, by show _ = _; rw [HSB.out, ← Pl.labS_one HX.out]; rfl⟩
      · have hk1 : (0 : Int) < (k : Nat) := by omega
        have HK := Lib.hid hk0
        clear hk0
        go_wp2
        go_roundg (n - (k + 1))
        case measure => omega
        case rel => exact ⟨below_step HBL.out (below_new (Below.refl _ _) _), k + 1, Nat.le_refl _, by omega, by go_num, _, rfl, by have y1 : (⟨#[61]⟩ : ByteArray).size = 1 := rfl; have y2 : (⟨#[44]⟩ : ByteArray).size = 1 := rfl; simp only [ByteArray.size_append]; omega, by show _ = _; rw [HSB.out, ← Pl.labS_next HX.out HK.out]⟩
    · obtain rfl : k = n := by omega
      have HT : Hid (l.take k = l) := List.take_of_length_le (by rw [hlen.out]; exact Nat.le_refl _)
      have hlt' : ¬ (k : Int) < (k : Nat) := by omega
      go_wp2
      go_ret
      exact ⟨by rw [HSB.out, HT.out, show Pl.labelsText l = (⟨(123 :: Pl.labBody l).toArray⟩ : ByteArray) ++ ⟨#[125]⟩ from Pl.ba_ext (by simp [ByteArray.data_append, Pl.labelsText])]; rfl, HBL.out⟩
def Pl.labB (x : Label) : ByteArray := ⟨(Pl.labTxt x).toArray⟩
theorem Pl.labB_of (x : Label) : x.Name ++ (⟨#[61]⟩ : ByteArray) ++ x.Value = Pl.labB x := Pl.ba_ext (by simp [ByteArray.data_append, Pl.labTxt, Pl.labB])
def Pl.pcells (l : List Label) (n k : Nat) : List Value := ((l.take k).map fun x => Value.string (Pl.labB x)) ++ List.replicate (n - k) (.string ⟨#[]⟩)
theorem Pl.pcells_set {l : List Label} {n k : Nat} {x : Label} (hx : l[k]? = some x) (hn : l.length = n) : (Pl.pcells l n k).set k (.string (Pl.labB x)) = Pl.pcells l n (k + 1) := by
  obtain ⟨hk, hg⟩ := List.getElem?_eq_some_iff.1 hx
  unfold Pl.pcells
  have h1 : ((l.take k).map fun x => Value.string (Pl.labB x)).length = k := by rw [List.length_map, List.length_take]; omega
  rw [List.set_append_right _ _ (by omega), h1, Nat.sub_self, show n - k = (n - (k + 1)) + 1 by omega, List.replicate_succ, List.set_cons_zero, List.take_succ_eq_append_getElem hk, hg, List.map_append, List.append_assoc]
  rfl
theorem Pl.pcells_get {l : List Label} {n k : Nat} (hn : l.length = n) (hk : k < n) : ∃ u, (Pl.pcells l n k)[k]? = some u := by
  refine ⟨_, List.getElem?_eq_getElem ?_⟩
  unfold Pl.pcells
  rw [List.length_append, List.length_map, List.length_take, List.length_replicate]
  omega
theorem Pl.pcells_end {l : List Label} {n : Nat} (hn : l.length = n) {j : Nat} {x : Label} (hx : l[j]? = some x) : (Pl.pcells l n n)[j]? = some (.string (Pl.labB x)) := by
  unfold Pl.pcells
  rw [List.take_of_length_le (by omega), Nat.sub_self, List.replicate_zero, List.append_nil, List.getElem?_map, hx]
  rfl
theorem join_c (l : List Label) (g c : Nat) (w : World) (hc : ∀ (j : Nat) x, l[j]? = some x → w.cell? ⟨g, j, none⟩ = some (.string (Pl.labB x))) (hg : g < w.heap.size) (hlc : l.length ≤ c) (hok : Pl.labelsOk l = true) :
    Calls Try.prog 100 #[.slice (some ⟨g, 0, none⟩) l.length c, .string ⟨#[44]⟩] w fun e w' => e = .returned (.string ⟨(Pl.labBody l).toArray⟩) ∧ Below w.heap.size w w' := by
  have h6 := Pl.labelsOk_len hok
  have hb := Pl.labBody_len hok
  have e1 : (l.map Pl.labB).map (·.data.toList) = l.map Pl.labTxt := by rw [List.map_map]; rfl
  have := Any.strings_Join ljJoin ljX g 0 c (l.map Pl.labB) ⟨#[44]⟩ w (fun j x hx => by
    rw [List.getElem?_map] at hx
    cases hj : l[j]? with
    | none => rw [hj] at hx; cases hx
    | some y => rw [hj] at hx; injection hx with hx; subst hx; rw [Nat.zero_add]; exact hc j y hj) hg (by rw [List.length_map]; omega) (by rw [List.length_map]; exact hlc) (by rw [e1]; exact Nat.le_trans hb (by decide))
  rw [e1, List.length_map] at this
  exact this
theorem upto6z {p : Nat → Prop} (h0 : p 0) (h1 : p 1) (h2 : p 2) (h3 : p 3) (h4 : p 4) (h5 : p 5) (h6 : p 6) (n : Nat) (b : n ≤ 6) : p n := by
  have : n = 0 ∨ n = 1 ∨ n = 2 ∨ n = 3 ∨ n = 4 ∨ n = 5 ∨ n = 6 := by omega
  rcases this with rfl | rfl | rfl | rfl | rfl | rfl | rfl <;> assumption
theorem make_strs6 (n : Nat) (h6 : n ≤ 6) (W : World) : (Instr.makeSlice 41 (.int .i64 n) (.int .i64 n)).run Try.prog W = .ok (.slice (some ⟨W.heap.size, 0, none⟩) n n) (W.alloc (.cells (List.replicate n (.string ⟨#[]⟩)).toArray 9)) :=
  upto6z (p := fun n => (Instr.makeSlice 41 (.int .i64 n) (.int .i64 n)).run Try.prog W = .ok (.slice (some ⟨W.heap.size, 0, none⟩) n n) (W.alloc (.cells (List.replicate n (.string ⟨#[]⟩)).toArray 9))) (by kernel_rfl) (by kernel_rfl) (by kernel_rfl) (by kernel_rfl) (by kernel_rfl) (by kernel_rfl) (by kernel_rfl) n h6
set_option maxRecDepth 100000 in
set_option maxHeartbeats 1000000 in
theorem labelsText_c (l : List Label) (A : Option Addr) (n c : Nat) (w : World) (B : Nat) (hl : Mm.SlAt rLabel w B l A n c) (hB : B ≤ w.heap.size) (hok : Pl.labelsOk l = true) :
    Calls Try.prog 78 #[.slice A n c] w fun e w' => e = .returned (.string (Pl.labelsText l)) ∧ Below w.heap.size w w' := by
  have hlen : Hid (l.length = n) := hl.1
  have hn : n ≤ maxLen := Nat.le_trans hl.2.1 hl.2.2.1
  have hn6 : n ≤ 6 := by have := Pl.labelsOk_len hok; have := hlen.out; omega
  unfold maxLen at hn
  have HL := Lib.hid hl
  have HOK := Lib.hid hok
  have hmk := make_strs6 n hn6
  have HS0 := Lib.hid (show Mm.SepF [] w _ [Mm.tblk w.heap.size 9 (Pl.pcells l n 0)] from (Mm.SepF.start w).alloc' rfl 9 (List.replicate n (.string ⟨#[]⟩)))
  clear hl hok
  go_enter Try.func78, Try.ntmps78
  go_wp2
  go_loopg [11] n (fun g i wr => ∃ k : Nat, n - k ≤ g ∧ k ≤ n ∧ i = .int .i64 k ∧ Hid (Mm.SepF [] w wr [Mm.tblk w.heap.size 9 (Pl.pcells l n k)]))
  case atStart => exact ⟨0, Nat.le_refl _, Nat.zero_le _, rfl, HS0.out⟩
  case round =>
    clear HS0 hmk
    obtain ⟨k, hgk, hk, rfl, HS⟩ := hrel
    obtain ⟨W, rfl⟩ : ∃ W : World, W = wr := ⟨_, rfl⟩
    have HLw := Lib.hid (HL.out.keep fun b hb' => HS.out.bel0.block b (Nat.lt_of_lt_of_le hb' hB))
    by_cases hlt : k < n
    · obtain ⟨x, b0, off, hx, rfl, hbb, g0, g1, d0, d1⟩ := rLabel_get HLw.out hlt
      have hlt' : (k : Int) < (n : Nat) := by omega
      have hlt2 : (0 : Int) ≤ (k : Nat) := by omega
      obtain ⟨z1, z2, z3, z4⟩ := Pl.labelOk_sz (Pl.labelsOk_at HOK.out hx)
      obtain ⟨u0, hu0⟩ := Pl.pcells_get hlen.out hlt
      have s0 := HS.out.cell 0 rfl hu0
      have s1 := HS.out.frz (k := k) 0 rfl
      have HX := Lib.hid hx
      have HS2 := Lib.hid ((HS.out.setBlk (k := k) 0 rfl (.string (x.Name ++ (⟨#[61]⟩ : ByteArray) ++ x.Value))).step (below_new (Below.refl _ _) (.cells #[.string x.Name, .string x.Value] 97)))
      have hgw : w.heap.size < W.heap.size := (HS.out.blk 0 rfl).1
      clear hx hu0
      go_wp2
      go_roundg (n - (k + 1))
      case measure => omega
      case rel => exact ⟨k + 1, Nat.le_refl _, by omega, by go_num, by rw [← Pl.pcells_set HX.out hlen.out, ← Pl.labB_of]; exact HS2.out⟩
    · obtain rfl : k = n := by omega
      have hlt' : ¬ (k : Int) < (k : Nat) := by omega
      have HB0 := Lib.hid HS.out.bel0
      have hln := hlen.out
      have HJ := Lib.hid (join_c l w.heap.size k W (fun j x hx => HS.out.cell 0 rfl (Pl.pcells_end hlen.out hx)) (HS.out.blk 0 rfl).1 (by omega) HOK.out)
      rw [hln] at HJ
      have hbl := Pl.labBody_len HOK.out
      obtain ⟨tb, htb⟩ : ∃ tb : ByteArray, tb = ⟨(Pl.labBody l).toArray⟩ := ⟨_, rfl⟩
      have hts : tb.size ≤ 108 := by rw [htb]; exact hbl
      rw [← htb] at HJ
      have HTB := Lib.hid htb
      clear htb hln
      go_wp2_with (go_at_call 100; (with_reducible refine HJ.out.mono ?_); rintro e w1 ⟨rfl, hb1⟩)
      go_ret
      exact ⟨by rw [HTB.out, show Pl.labelsText l = (⟨#[123]⟩ : ByteArray) ++ ⟨(Pl.labBody l).toArray⟩ ++ ⟨#[125]⟩ from Pl.ba_ext (by simp [ByteArray.data_append, Pl.labelsText])]; rfl, below_step HB0.out hb1⟩
end Go.Proofs.Ytnppcdiicnofpaa

/-
  Contracts: which totals are good. No conditions.
-/
namespace Go.Proofs.Ytnppcdiicnofpaa
open Go.RowKit
attribute [local go_sem] und_cell World.cell?_alloc_some
theorem nblk1 (w : World) (o : Obj) : (w.alloc o).heap.size = w.heap.size + 1 := by show (w.heap.push o).size = _; simp
theorem Mm.SlAt.alloc' {α : Type} {E : Mm.Rep α} {w : World} {B : Nat} {xs : List α} {A : Option Addr} {n c : Nat} (h : Mm.SlAt E w B xs A n c) (hB : B ≤ w.heap.size) (o : Obj) : Mm.SlAt E (w.alloc o) B xs A n c :=
  h.keep fun b hb => (below_new (Below.refl _ _) o).block b (by omega)
set_option maxRecDepth 100000 in
set_option maxHeartbeats 4000000 in
theorem areTotals_c (l : List Total) (A : Option Addr) (n c : Nat) (w : World) (B : Nat) (hl : Mm.SlAt rTotal w B l A n c) (hB : B ≤ w.heap.size) :
    Calls Try.prog 51 #[.slice A n c] w fun e w' => e = .returned (.bool (Pl.totalsOk l)) ∧ Below w.heap.size w w' := by
  have hlen : Hid (l.length = n) := hl.1
  have hn : n ≤ maxLen := Nat.le_trans hl.2.1 hl.2.2.1
  unfold maxLen at hn
  have HL := Lib.hid hl
  clear hl
  go_enter Try.func51, Try.ntmps51
  go_wp2
  go_loopg [7] n (fun g i wr => Below w.heap.size w wr ∧ ∃ k : Nat, n - k ≤ g ∧ k ≤ n ∧ i = .int .i64 k ∧ Hid (∀ j, j < k → Pl.totP l j = true))
  case atStart => exact ⟨Below.refl _ _, 0, Nat.le_refl _, Nat.zero_le _, rfl, fun j hj => absurd hj (Nat.not_lt_zero j)⟩
  case round =>
    obtain ⟨hbel, k, hgk, hk, rfl, HU⟩ := hrel
    obtain ⟨W, rfl⟩ : ∃ W : World, W = wr := ⟨_, rfl⟩
    have HLw := Lib.hid (HL.out.keep fun b hb' => hbel.block b (Nat.lt_of_lt_of_le hb' hB))
    have HBL := Lib.hid hbel
    have hsw := hbel.size
    clear hbel
    by_cases hlt : k < n
    · obtain ⟨x, b0, off, A1, n1, c1, hx, rfl, hbb, hlx, g1, g2, g3, g4, d0, d1, d2, d3, d4⟩ := rTotal_get HLw.out hlt
      obtain ⟨z, A2, n2, c2, hz, -, hlz, -, -, -, -, q0, -⟩ := rTotal_get' HLw.out (show k - 1 < n by omega)
      have HP : Hid (Pl.totP l k = Pl.totQ k x z) := by show _ = _; unfold Pl.totP; rw [Pl.totAt_of hx, Pl.totAt_of hz]
      have NO : Hid (Pl.totQ k x z = false → Pl.totalsOk l = false) := fun h => by
        unfold Pl.totalsOk; rw [Pl.allB_no (by rw [hlen.out]; exact hlt) (by rw [HP.out, h])]; rfl
      have HZ : Hid (k ≠ 0 → Pl.labelsOk z.Labels = true) := fun h0 => by
        have h1 := HU.out (k - 1) (by omega)
        unfold Pl.totP Pl.totQ at h1
        rw [Pl.totAt_of hz, Bool.and_eq_true] at h1
        exact Pl.totOk_lab h1.1
      clear hx hz
      obtain ⟨xL, xS, xC, xA, xM⟩ := x
      obtain ⟨zL, zS, zC, zA, zM⟩ := z
      dsimp only at hlx g1 g2 g3 g4 d0 d1 d2 d3 d4 hlz q0
      have HLX := Lib.hid hlx
      have HLZ := Lib.hid hlz
      clear hlx hlz
      have hlt' : (k : Int) < (n : Nat) := by omega
      have hlt2 : (0 : Int) ≤ (k : Nat) := by omega
      have CA := fun q : Und (W.alloc (.cells #[.slice A1 n1 c1, .int .i64 xS, .int .i64 xC, .int .i64 xA, .int .i64 xM] 50)) => und_call q (areLabels_c xL A1 n1 c1 _ B ((HLX.out.alloc' (by omega) _).und (by have := nblk1 W (.cells #[.slice A1 n1 c1, .int .i64 xS, .int .i64 xC, .int .i64 xA, .int .i64 xM] 50); omega) q) (Nat.le_trans (by have := nblk1 W (.cells #[.slice A1 n1 c1, .int .i64 xS, .int .i64 xC, .int .i64 xA, .int .i64 xM] 50); omega) (und_size q)))
      have CC := fun q : Und (W.alloc (.cells #[.slice A1 n1 c1, .int .i64 xS, .int .i64 xC, .int .i64 xA, .int .i64 xM] 50)) => und_same q (within_c xC 1 1000 _)
      have CS := fun q : Und (W.alloc (.cells #[.slice A1 n1 c1, .int .i64 xS, .int .i64 xC, .int .i64 xA, .int .i64 xM] 50)) => und_same q (within_c xS (-1000000000) 1000000000 _)
      have CL := fun q : Und (W.alloc (.cells #[.slice A1 n1 c1, .int .i64 xS, .int .i64 xC, .int .i64 xA, .int .i64 xM] 50)) => und_same q (within_c xA (-1000000) xM _)
      cases k1 : Pl.labelsOk xL
      · have HV := Lib.hid (NO.out (by unfold Pl.totQ Pl.totOk; dsimp only; rw [k1]; simp))
        clear NO HP HZ
        go_wp2
        refine wp_region_und (by kernel_rfl) (by kernel_rfl) ?_
        repeat (go_big_quiet_step ((first | first | (go_at_call 70; with_reducible exact CA _) | (go_at_call 52; first | (with_reducible exact CC _) | (with_reducible exact CS _) | (with_reducible exact CL _)))))
        refine wpQuiet_nil ?_
        intro X hX
        have hbx := Lib.hid (below_step HBL.out (below_step (below_new (Below.refl _ _) _) hX))
        go_wp2
        go_ret
        exact ⟨ret_bool HV.out.symm, hbx.out⟩
      cases k2 : Pl.isIn xC 1 1000
      · have HV := Lib.hid (NO.out (by unfold Pl.totQ Pl.totOk; dsimp only; rw [k1, k2]; simp))
        clear NO HP HZ
        go_wp2
        refine wp_region_und (by kernel_rfl) (by kernel_rfl) ?_
        repeat (go_big_quiet_step ((first | first | (go_at_call 70; with_reducible exact CA _) | (go_at_call 52; first | (with_reducible exact CC _) | (with_reducible exact CS _) | (with_reducible exact CL _)))))
        refine wpQuiet_nil ?_
        intro X hX
        have hbx := Lib.hid (below_step HBL.out (below_step (below_new (Below.refl _ _) _) hX))
        go_wp2
        go_ret
        exact ⟨ret_bool HV.out.symm, hbx.out⟩
      cases k3 : Pl.isIn xS (-1000000000) 1000000000
      · have HV := Lib.hid (NO.out (by unfold Pl.totQ Pl.totOk; dsimp only; rw [k1, k2, k3]; simp))
        clear NO HP HZ
        go_wp2
        refine wp_region_und (by kernel_rfl) (by kernel_rfl) ?_
        repeat (go_big_quiet_step ((first | first | (go_at_call 70; with_reducible exact CA _) | (go_at_call 52; first | (with_reducible exact CC _) | (with_reducible exact CS _) | (with_reducible exact CL _)))))
        refine wpQuiet_nil ?_
        intro X hX
        have hbx := Lib.hid (below_step HBL.out (below_step (below_new (Below.refl _ _) _) hX))
        go_wp2
        go_ret
        exact ⟨ret_bool HV.out.symm, hbx.out⟩
      cases k4 : Pl.isIn xA (-1000000) xM
      · have HV := Lib.hid (NO.out (by unfold Pl.totQ Pl.totOk; dsimp only; rw [k1, k2, k3, k4]; simp))
        clear NO HP HZ
        go_wp2
        refine wp_region_und (by kernel_rfl) (by kernel_rfl) ?_
        repeat (go_big_quiet_step ((first | first | (go_at_call 70; with_reducible exact CA _) | (go_at_call 52; first | (with_reducible exact CC _) | (with_reducible exact CS _) | (with_reducible exact CL _)))))
        refine wpQuiet_nil ?_
        intro X hX
        have hbx := Lib.hid (below_step HBL.out (below_step (below_new (Below.refl _ _) _) hX))
        go_wp2
        go_ret
        exact ⟨ret_bool HV.out.symm, hbx.out⟩
      by_cases k5 : 1000000 < xM
      · have k6 : decide (xM ≤ 1000000) = false := decide_eq_false (by omega)
        have k7 : decide (1000000 < xM) = true := decide_eq_true k5
        have HV := Lib.hid (NO.out (by unfold Pl.totQ Pl.totOk; dsimp only; rw [k1, k2, k3, k4, k6]; rfl))
        clear NO HP HZ
        go_wp2
        refine wp_region_und (by kernel_rfl) (by kernel_rfl) ?_
        repeat (go_big_quiet_step ((first | first | (go_at_call 70; with_reducible exact CA _) | (go_at_call 52; first | (with_reducible exact CC _) | (with_reducible exact CS _) | (with_reducible exact CL _)))))
        refine wpQuiet_nil ?_
        intro X hX
        have hbx := Lib.hid (below_step HBL.out (below_step (below_new (Below.refl _ _) _) hX))
        go_wp2
        go_ret
        exact ⟨ret_bool HV.out.symm, hbx.out⟩
      have k6 : decide (xM ≤ 1000000) = true := decide_eq_true (by omega)
      have k7 : decide (1000000 < xM) = false := decide_eq_false k5
      by_cases hk0 : k = 0
      · subst hk0
        clear q0
        simp only [Nat.zero_mul, Nat.add_zero] at d0 d1 d2 d3 d4
        have HN := Lib.hid (Pl.snocB HU.out (by rw [HP.out]; unfold Pl.totQ Pl.totOk; dsimp only; rw [k1, k2, k3, k4, k6]; rfl))
        clear NO HP HZ
        go_wp2
        refine wp_region_und (by kernel_rfl) (by kernel_rfl) ?_
        repeat (go_big_quiet_step ((first | first | (go_at_call 70; with_reducible exact CA _) | (go_at_call 52; first | (with_reducible exact CC _) | (with_reducible exact CS _) | (with_reducible exact CL _)))))
        refine wpQuiet_nil ?_
        intro X hX
        have hbx := Lib.hid (below_step HBL.out (below_step (below_new (Below.refl _ _) _) hX))
        go_wp2
        go_roundg (n - (0 + 1))
        case measure => omega
        case rel => exact ⟨hbx.out, 0 + 1, Nat.le_refl _, by omega, by go_num, HN.out⟩
      · obtain ⟨k, rfl⟩ : ∃ j, k = j + 1 := ⟨k - 1, by omega⟩
        rw [Nat.add_sub_cancel] at q0
        have hw1 : IntKind.i64.wrap (((k + 1 : Nat) : Int) - 1) = (k : Nat) := by rw [show ((k + 1 : Nat) : Int) - 1 = (k : Nat) by omega]; exact IntWalk.i64_in _ (by omega)
        have hk3 : (0 : Int) < ((k + 1 : Nat) : Int) := by omega
        have hk4 : (0 : Int) ≤ ((k : Nat) : Int) := by omega
        have hk5 : ((k : Nat) : Int) < (n : Nat) := by omega
        have CX := fun q : Und (W.alloc (.cells #[.slice A1 n1 c1, .int .i64 xS, .int .i64 xC, .int .i64 xA, .int .i64 xM] 50)) => und_call q (labelsText_c xL _ _ _ _ B ((HLX.out.alloc' (by omega) _).und (by have := nblk1 W (.cells #[.slice A1 n1 c1, .int .i64 xS, .int .i64 xC, .int .i64 xA, .int .i64 xM] 50); omega) q) (Nat.le_trans (by have := nblk1 W (.cells #[.slice A1 n1 c1, .int .i64 xS, .int .i64 xC, .int .i64 xA, .int .i64 xM] 50); omega) (und_size q)) k1)
        obtain ⟨tx, htx⟩ : ∃ t, Pl.labelsText xL = t := ⟨_, rfl⟩
        rw [htx] at CX
        have CZ := fun q : Und (W.alloc (.cells #[.slice A1 n1 c1, .int .i64 xS, .int .i64 xC, .int .i64 xA, .int .i64 xM] 50)) => und_call q (labelsText_c zL _ _ _ _ B ((HLZ.out.alloc' (by omega) _).und (by have := nblk1 W (.cells #[.slice A1 n1 c1, .int .i64 xS, .int .i64 xC, .int .i64 xA, .int .i64 xM] 50); omega) q) (Nat.le_trans (by have := nblk1 W (.cells #[.slice A1 n1 c1, .int .i64 xS, .int .i64 xC, .int .i64 xA, .int .i64 xM] 50); omega) (und_size q)) (HZ.out (by omega)))
        obtain ⟨tz, htz⟩ : ∃ t, Pl.labelsText zL = t := ⟨_, rfl⟩
        rw [htz] at CZ
        have HTX := Lib.hid htx
        have HTZ := Lib.hid htz
        clear htx htz
        cases kl : Pl.lessB tz tx
        · have kl' : Op.bytesLess tz.toList tx.toList = false := kl
          have HV := Lib.hid (NO.out (by unfold Pl.totQ Pl.totOk; dsimp only; rw [k1, k2, k3, k4, k6]; rw [HTZ.out, HTX.out, kl]; rfl))
          clear NO HP HZ
          go_wp2
          refine wp_region_und (by kernel_rfl) (by kernel_rfl) ?_
          repeat (go_big_quiet_step ((first | first | (go_at_call 70; with_reducible exact CA _) | (go_at_call 52; first | (with_reducible exact CC _) | (with_reducible exact CS _) | (with_reducible exact CL _)) | (go_at_call 78; first | (with_reducible exact CX _) | (with_reducible exact CZ _)))))
          refine wpQuiet_nil ?_
          intro X hX
          have hbx := Lib.hid (below_step HBL.out (below_step (below_new (Below.refl _ _) _) hX))
          go_wp2
          go_ret
          exact ⟨ret_bool HV.out.symm, hbx.out⟩
        · have kl' : Op.bytesLess tz.toList tx.toList = true := kl
          have HN := Lib.hid (Pl.snocB HU.out (by rw [HP.out]; unfold Pl.totQ Pl.totOk; dsimp only; rw [k1, k2, k3, k4, k6]; rw [HTZ.out, HTX.out, kl]; simp))
          clear NO HP HZ
          go_wp2
          refine wp_region_und (by kernel_rfl) (by kernel_rfl) ?_
          repeat (go_big_quiet_step ((first | first | (go_at_call 70; with_reducible exact CA _) | (go_at_call 52; first | (with_reducible exact CC _) | (with_reducible exact CS _) | (with_reducible exact CL _)) | (go_at_call 78; first | (with_reducible exact CX _) | (with_reducible exact CZ _)))))
          refine wpQuiet_nil ?_
          intro X hX
          have hbx := Lib.hid (below_step HBL.out (below_step (below_new (Below.refl _ _) _) hX))
          go_wp2
          go_roundg (n - (k + 1 + 1))
          case measure => omega
          case rel => exact ⟨hbx.out, k + 1 + 1, Nat.le_refl _, by omega, by go_num, HN.out⟩
    · have HF : Hid (Pl.totalsOk l = decide (n ≤ 40)) := by
        show _ = _
        unfold Pl.totalsOk
        rw [Pl.allB_yes (fun j hj => HU.out j (by rw [hlen.out] at hj; omega)), hlen.out]
        rfl
      obtain rfl : k = n := by omega
      go_wp2
      go_ret
      exact ⟨ret_bool (by rw [HF.out]; exact decide_eq_decide.2 (by omega)), HBL.out⟩
set_option maxRecDepth 100000 in
set_option maxHeartbeats 4000000 in
theorem GoodTotals_c (l : List Total) (A : Option Addr) (n c : Nat) (w : World) (B : Nat) (hl : Mm.SlAt rTotal w B l A n c) (hB : B ≤ w.heap.size) :
    Calls Try.prog 47 #[.slice A n c] w fun e w' => e = .returned (.bool (Pl.totalsOk l)) ∧ Below w.heap.size w w' := by
  have hlen : Hid (l.length = n) := hl.1
  have hn : n ≤ maxLen := Nat.le_trans hl.2.1 hl.2.2.1
  unfold maxLen at hn
  have HL := Lib.hid hl
  clear hl
  go_enter Try.func47, Try.ntmps47
  go_wp2
  go_loopg [7] n (fun g i wr => Below w.heap.size w wr ∧ ∃ k : Nat, n - k ≤ g ∧ k ≤ n ∧ i = .int .i64 k ∧ Hid (∀ j, j < k → Pl.totP l j = true))
  case atStart => exact ⟨Below.refl _ _, 0, Nat.le_refl _, Nat.zero_le _, rfl, fun j hj => absurd hj (Nat.not_lt_zero j)⟩
  case round =>
    obtain ⟨hbel, k, hgk, hk, rfl, HU⟩ := hrel
    obtain ⟨W, rfl⟩ : ∃ W : World, W = wr := ⟨_, rfl⟩
    have HLw := Lib.hid (HL.out.keep fun b hb' => hbel.block b (Nat.lt_of_lt_of_le hb' hB))
    have HBL := Lib.hid hbel
    have hsw := hbel.size
    clear hbel
    by_cases hlt : k < n
    · obtain ⟨x, b0, off, A1, n1, c1, hx, rfl, hbb, hlx, g1, g2, g3, g4, d0, d1, d2, d3, d4⟩ := rTotal_get HLw.out hlt
      obtain ⟨z, A2, n2, c2, hz, -, hlz, -, -, -, -, q0, -⟩ := rTotal_get' HLw.out (show k - 1 < n by omega)
      have HP : Hid (Pl.totP l k = Pl.totQ k x z) := by show _ = _; unfold Pl.totP; rw [Pl.totAt_of hx, Pl.totAt_of hz]
      have NO : Hid (Pl.totQ k x z = false → Pl.totalsOk l = false) := fun h => by
        unfold Pl.totalsOk; rw [Pl.allB_no (by rw [hlen.out]; exact hlt) (by rw [HP.out, h])]; rfl
      have HZ : Hid (k ≠ 0 → Pl.labelsOk z.Labels = true) := fun h0 => by
        have h1 := HU.out (k - 1) (by omega)
        unfold Pl.totP Pl.totQ at h1
        rw [Pl.totAt_of hz, Bool.and_eq_true] at h1
        exact Pl.totOk_lab h1.1
      clear hx hz
      obtain ⟨xL, xS, xC, xA, xM⟩ := x
      obtain ⟨zL, zS, zC, zA, zM⟩ := z
      dsimp only at hlx g1 g2 g3 g4 d0 d1 d2 d3 d4 hlz q0
      have HLX := Lib.hid hlx
      have HLZ := Lib.hid hlz
      clear hlx hlz
      have hlt' : (k : Int) < (n : Nat) := by omega
      have hlt2 : (0 : Int) ≤ (k : Nat) := by omega
      have CA := fun q : Und (W.alloc (.cells #[.slice A1 n1 c1, .int .i64 xS, .int .i64 xC, .int .i64 xA, .int .i64 xM] 50)) => und_call q (GoodLabels_c xL A1 n1 c1 _ B ((HLX.out.alloc' (by omega) _).und (by have := nblk1 W (.cells #[.slice A1 n1 c1, .int .i64 xS, .int .i64 xC, .int .i64 xA, .int .i64 xM] 50); omega) q) (Nat.le_trans (by have := nblk1 W (.cells #[.slice A1 n1 c1, .int .i64 xS, .int .i64 xC, .int .i64 xA, .int .i64 xM] 50); omega) (und_size q)))
      have CC := fun q : Und (W.alloc (.cells #[.slice A1 n1 c1, .int .i64 xS, .int .i64 xC, .int .i64 xA, .int .i64 xM] 50)) => und_same q (l1In_c xC 1 1000 _)
      have CS := fun q : Und (W.alloc (.cells #[.slice A1 n1 c1, .int .i64 xS, .int .i64 xC, .int .i64 xA, .int .i64 xM] 50)) => und_same q (l1In_c xS (-1000000000) 1000000000 _)
      have CL := fun q : Und (W.alloc (.cells #[.slice A1 n1 c1, .int .i64 xS, .int .i64 xC, .int .i64 xA, .int .i64 xM] 50)) => und_same q (l1In_c xA (-1000000) xM _)
      cases k1 : Pl.labelsOk xL
      · have HV := Lib.hid (NO.out (by unfold Pl.totQ Pl.totOk; dsimp only; rw [k1]; simp))
        clear NO HP HZ
        go_wp2
        refine wp_region_und (by kernel_rfl) (by kernel_rfl) ?_
        repeat (go_big_quiet_step ((first | first | (go_at_call 67; with_reducible exact CA _) | (go_at_call 48; first | (with_reducible exact CC _) | (with_reducible exact CS _) | (with_reducible exact CL _)))))
        refine wpQuiet_nil ?_
        intro X hX
        have hbx := Lib.hid (below_step HBL.out (below_step (below_new (Below.refl _ _) _) hX))
        go_wp2
        go_ret
        exact ⟨ret_bool HV.out.symm, hbx.out⟩
      cases k2 : Pl.isIn xC 1 1000
      · have HV := Lib.hid (NO.out (by unfold Pl.totQ Pl.totOk; dsimp only; rw [k1, k2]; simp))
        clear NO HP HZ
        go_wp2
        refine wp_region_und (by kernel_rfl) (by kernel_rfl) ?_
        repeat (go_big_quiet_step ((first | first | (go_at_call 67; with_reducible exact CA _) | (go_at_call 48; first | (with_reducible exact CC _) | (with_reducible exact CS _) | (with_reducible exact CL _)))))
        refine wpQuiet_nil ?_
        intro X hX
        have hbx := Lib.hid (below_step HBL.out (below_step (below_new (Below.refl _ _) _) hX))
        go_wp2
        go_ret
        exact ⟨ret_bool HV.out.symm, hbx.out⟩
      cases k3 : Pl.isIn xS (-1000000000) 1000000000
      · have HV := Lib.hid (NO.out (by unfold Pl.totQ Pl.totOk; dsimp only; rw [k1, k2, k3]; simp))
        clear NO HP HZ
        go_wp2
        refine wp_region_und (by kernel_rfl) (by kernel_rfl) ?_
        repeat (go_big_quiet_step ((first | first | (go_at_call 67; with_reducible exact CA _) | (go_at_call 48; first | (with_reducible exact CC _) | (with_reducible exact CS _) | (with_reducible exact CL _)))))
        refine wpQuiet_nil ?_
        intro X hX
        have hbx := Lib.hid (below_step HBL.out (below_step (below_new (Below.refl _ _) _) hX))
        go_wp2
        go_ret
        exact ⟨ret_bool HV.out.symm, hbx.out⟩
      cases k4 : Pl.isIn xA (-1000000) xM
      · have HV := Lib.hid (NO.out (by unfold Pl.totQ Pl.totOk; dsimp only; rw [k1, k2, k3, k4]; simp))
        clear NO HP HZ
        go_wp2
        refine wp_region_und (by kernel_rfl) (by kernel_rfl) ?_
        repeat (go_big_quiet_step ((first | first | (go_at_call 67; with_reducible exact CA _) | (go_at_call 48; first | (with_reducible exact CC _) | (with_reducible exact CS _) | (with_reducible exact CL _)))))
        refine wpQuiet_nil ?_
        intro X hX
        have hbx := Lib.hid (below_step HBL.out (below_step (below_new (Below.refl _ _) _) hX))
        go_wp2
        go_ret
        exact ⟨ret_bool HV.out.symm, hbx.out⟩
      by_cases k5 : 1000000 < xM
      · have k6 : decide (xM ≤ 1000000) = false := decide_eq_false (by omega)
        have k7 : decide (1000000 < xM) = true := decide_eq_true k5
        have HV := Lib.hid (NO.out (by unfold Pl.totQ Pl.totOk; dsimp only; rw [k1, k2, k3, k4, k6]; rfl))
        clear NO HP HZ
        go_wp2
        refine wp_region_und (by kernel_rfl) (by kernel_rfl) ?_
        repeat (go_big_quiet_step ((first | first | (go_at_call 67; with_reducible exact CA _) | (go_at_call 48; first | (with_reducible exact CC _) | (with_reducible exact CS _) | (with_reducible exact CL _)))))
        refine wpQuiet_nil ?_
        intro X hX
        have hbx := Lib.hid (below_step HBL.out (below_step (below_new (Below.refl _ _) _) hX))
        go_wp2
        go_ret
        exact ⟨ret_bool HV.out.symm, hbx.out⟩
      have k6 : decide (xM ≤ 1000000) = true := decide_eq_true (by omega)
      have k7 : decide (1000000 < xM) = false := decide_eq_false k5
      by_cases hk0 : k = 0
      · subst hk0
        clear q0
        simp only [Nat.zero_mul, Nat.add_zero] at d0 d1 d2 d3 d4
        have HN := Lib.hid (Pl.snocB HU.out (by rw [HP.out]; unfold Pl.totQ Pl.totOk; dsimp only; rw [k1, k2, k3, k4, k6]; rfl))
        clear NO HP HZ
        go_wp2
        refine wp_region_und (by kernel_rfl) (by kernel_rfl) ?_
        repeat (go_big_quiet_step ((first | first | (go_at_call 67; with_reducible exact CA _) | (go_at_call 48; first | (with_reducible exact CC _) | (with_reducible exact CS _) | (with_reducible exact CL _)))))
        refine wpQuiet_nil ?_
        intro X hX
        have hbx := Lib.hid (below_step HBL.out (below_step (below_new (Below.refl _ _) _) hX))
        go_wp2
        go_roundg (n - (0 + 1))
        case measure => omega
        case rel => exact ⟨hbx.out, 0 + 1, Nat.le_refl _, by omega, by go_num, HN.out⟩
      · obtain ⟨k, rfl⟩ : ∃ j, k = j + 1 := ⟨k - 1, by omega⟩
        rw [Nat.add_sub_cancel] at q0
        have hw1 : IntKind.i64.wrap (((k + 1 : Nat) : Int) - 1) = (k : Nat) := by rw [show ((k + 1 : Nat) : Int) - 1 = (k : Nat) by omega]; exact IntWalk.i64_in _ (by omega)
        have hk3 : (0 : Int) < ((k + 1 : Nat) : Int) := by omega
        have hk4 : (0 : Int) ≤ ((k : Nat) : Int) := by omega
        have hk5 : ((k : Nat) : Int) < (n : Nat) := by omega
        have CX := fun q : Und (W.alloc (.cells #[.slice A1 n1 c1, .int .i64 xS, .int .i64 xC, .int .i64 xA, .int .i64 xM] 50)) => und_call q (l3Text_c xL _ _ _ _ B ((HLX.out.alloc' (by omega) _).und (by have := nblk1 W (.cells #[.slice A1 n1 c1, .int .i64 xS, .int .i64 xC, .int .i64 xA, .int .i64 xM] 50); omega) q) (Nat.le_trans (by have := nblk1 W (.cells #[.slice A1 n1 c1, .int .i64 xS, .int .i64 xC, .int .i64 xA, .int .i64 xM] 50); omega) (und_size q)) k1)
        obtain ⟨tx, htx⟩ : ∃ t, Pl.labelsText xL = t := ⟨_, rfl⟩
        rw [htx] at CX
        have CZ := fun q : Und (W.alloc (.cells #[.slice A1 n1 c1, .int .i64 xS, .int .i64 xC, .int .i64 xA, .int .i64 xM] 50)) => und_call q (l3Text_c zL _ _ _ _ B ((HLZ.out.alloc' (by omega) _).und (by have := nblk1 W (.cells #[.slice A1 n1 c1, .int .i64 xS, .int .i64 xC, .int .i64 xA, .int .i64 xM] 50); omega) q) (Nat.le_trans (by have := nblk1 W (.cells #[.slice A1 n1 c1, .int .i64 xS, .int .i64 xC, .int .i64 xA, .int .i64 xM] 50); omega) (und_size q)) (HZ.out (by omega)))
        obtain ⟨tz, htz⟩ : ∃ t, Pl.labelsText zL = t := ⟨_, rfl⟩
        rw [htz] at CZ
        have HTX := Lib.hid htx
        have HTZ := Lib.hid htz
        clear htx htz
        cases kl : Pl.lessB tz tx
        · have kl' : Op.bytesLess tz.toList tx.toList = false := kl
          have HV := Lib.hid (NO.out (by unfold Pl.totQ Pl.totOk; dsimp only; rw [k1, k2, k3, k4, k6]; rw [HTZ.out, HTX.out, kl]; rfl))
          clear NO HP HZ
          go_wp2
          refine wp_region_und (by kernel_rfl) (by kernel_rfl) ?_
          repeat (go_big_quiet_step ((first | first | (go_at_call 67; with_reducible exact CA _) | (go_at_call 48; first | (with_reducible exact CC _) | (with_reducible exact CS _) | (with_reducible exact CL _)) | (go_at_call 76; first | (with_reducible exact CX _) | (with_reducible exact CZ _)))))
          refine wpQuiet_nil ?_
          intro X hX
          have hbx := Lib.hid (below_step HBL.out (below_step (below_new (Below.refl _ _) _) hX))
          go_wp2
          go_ret
          exact ⟨ret_bool HV.out.symm, hbx.out⟩
        · have kl' : Op.bytesLess tz.toList tx.toList = true := kl
          have HN := Lib.hid (Pl.snocB HU.out (by rw [HP.out]; unfold Pl.totQ Pl.totOk; dsimp only; rw [k1, k2, k3, k4, k6]; rw [HTZ.out, HTX.out, kl]; simp))
          clear NO HP HZ
          go_wp2
          refine wp_region_und (by kernel_rfl) (by kernel_rfl) ?_
          repeat (go_big_quiet_step ((first | first | (go_at_call 67; with_reducible exact CA _) | (go_at_call 48; first | (with_reducible exact CC _) | (with_reducible exact CS _) | (with_reducible exact CL _)) | (go_at_call 76; first | (with_reducible exact CX _) | (with_reducible exact CZ _)))))
          refine wpQuiet_nil ?_
          intro X hX
          have hbx := Lib.hid (below_step HBL.out (below_step (below_new (Below.refl _ _) _) hX))
          go_wp2
          go_roundg (n - (k + 1 + 1))
          case measure => omega
          case rel => exact ⟨hbx.out, k + 1 + 1, Nat.le_refl _, by omega, by go_num, HN.out⟩
    · have HF : Hid (Pl.totalsOk l = decide (n ≤ 40)) := by
        show _ = _
        unfold Pl.totalsOk
        rw [Pl.allB_yes (fun j hj => HU.out j (by rw [hlen.out] at hj; omega)), hlen.out]
        rfl
      obtain rfl : k = n := by omega
      go_wp2
      go_ret
      exact ⟨ret_bool (by rw [HF.out]; exact decide_eq_decide.2 (by omega)), HBL.out⟩
end Go.Proofs.Ytnppcdiicnofpaa

/-
  Regions that draw their order and whose operations hand back new things (a call that makes a slice, an alloc, an append): one walk in the order of the text serves every order. What an operation gives, and which earlier operation's things it takes, is told ahead by a plan. No program in sight. No conditions.
-/
namespace Go.Proofs.Ytnppcdiicnofpaa
open Go.RowKit
namespace Mm

abbrev Sig := Nat → List Thing
/-- what operation i gives: of its operands' values and the things it takes, a value and things -/
abbrev Rel := List Value → List Thing → Value → List Thing → Prop
def sigUpd (takes : Nat → List Nat) (σ : Sig) (i : Nat) (ds : List Thing) : Sig := fun k => bif k == i then ds else bif (takes i).contains k then [] else σ k

section
variable {P : Program} {ops : Array Oper} {md : Region.Mode} {C : Sig → World → Prop} {D : World → Prop} {rel : Nat → Option Rel} {takes : Nat → List Nat}

def ups (P : Program) (C' : Value → World → Prop) : Result Next → Prop
  | .ok (.value u) w' => C' u w'
  | .ok .skip w' => C' undef w'
  | .ok (.enter f args) w' => Calls P f args w' (fun e w'' => ∃ v, e = .returned v ∧ C' v w'')
  | .ok (.row row args) w' => Rows P row args w' fun v w'' => C' v w''
  | _ => False
def valUpon (w : World) (v : Value) : Result Next → Prop
  | .ok (.value u) w' => w' = w ∧ u = v
  | .ok .skip w' => w' = w ∧ undef = v
  | _ => False
def GDet (P : Program) (D : World → Prop) (o : Oper) (a : Act) (v : Value) : Prop := ∀ w, D w → valUpon w v ((execOp a.eval o).run P w)
def GValid (P : Program) (C : Sig → World → Prop) (takes : Nat → List Nat) (i : Nat) (o : Oper) (a : Act) (σ : Sig) (r : Value → List Thing → Prop) : Prop :=
  ∀ σ' w, C σ' w → (∀ k ∈ takes i, σ' k = σ k) → ups P (fun v w' => ∃ ds, r v ds ∧ C (sigUpd takes σ' i ds) w') ((execOp a.eval o).run P w)
abbrev GRelAt (takes : Nat → List Nat) (r : Rel) (i : Nat) (o : Oper) (a : Act) (σ : Sig) : Value → List Thing → Prop := r (o.op.operands.toList.map a.eval) ((takes i).flatMap σ)

/-- what operation i may bring in state (a, σ): its value, and how the things turn -/
def GStatus (P : Program) (ops : Array Oper) (C : Sig → World → Prop) (D : World → Prop) (rel : Nat → Option Rel) (takes : Nat → List Nat) (i : Nat) (o : Oper) (a : Act) (σ : Sig) (O : Value → (Sig → Sig) → Prop) : Prop :=
  (Region.wanted o (yielded ops a.tmps) = false ∧ O = fun u f => u = undef ∧ f = id) ∨
  (Region.wanted o (yielded ops a.tmps) = true ∧ rel i = none ∧ ∃ v, GDet P D o a v ∧ O = fun u f => u = v ∧ f = id) ∨
  (Region.wanted o (yielded ops a.tmps) = true ∧ ∃ r, rel i = some r ∧ GValid P C takes i o a σ (GRelAt takes r i o a σ) ∧ (∃ v ds, GRelAt takes r i o a σ v ds) ∧ O = fun u f => ∃ ds, GRelAt takes r i o a σ u ds ∧ f = fun s => sigUpd takes s i ds)

def gOp (P : Program) (ops : Array Oper) (C : Sig → World → Prop) (D : World → Prop) (rel : Nat → Option Rel) (takes : Nat → List Nat) (i : Nat) (K : Act → Sig → Prop) (a : Act) (σ : Sig) : Prop :=
  match ops[i]? with
  | none => K a σ
  | some o => ∃ O, GStatus P ops C D rel takes i o a σ O ∧ ∀ v f, O v f → K (a.put o.dst v) (f σ)

theorem gOp_mono {i : Nat} {a : Act} {σ : Sig} {K K' : Act → Sig → Prop} (h : ∀ a s, K a s → K' a s) (hh : gOp P ops C D rel takes i K a σ) : gOp P ops C D rel takes i K' a σ := by
  unfold gOp at *
  split
  · exact h _ _ (by simpa [*] using hh)
  · rename_i o ho
    simp only [ho] at hh
    obtain ⟨O, h1, h2⟩ := hh
    exact ⟨O, h1, fun v f hO => h _ _ (h2 v f hO)⟩

theorem GDet.uniq {o : Oper} {a : Act} {v u : Value} {w : World} (hw : D w) (h : GDet P D o a v) (k : GDet P D o a u) : v = u := by
  have h1 := h w hw
  have h2 := k w hw
  generalize (execOp a.eval o).run P w = r at *
  cases r with
  | ok n w' => cases n <;> simp only [valUpon] at h1 h2 <;> first | exact h1.2.symm.trans h2.2 | exact h1.elim
  | halt x w' => exact h1.elim

theorem GStatus.func {i : Nat} {o : Oper} {a : Act} {σ : Sig} {O O' : Value → (Sig → Sig) → Prop} (hD : ∃ w, D w) (h : GStatus P ops C D rel takes i o a σ O) (k : GStatus P ops C D rel takes i o a σ O') : O = O' := by
  obtain ⟨w, hw⟩ := hD
  rcases h with ⟨h1, h2⟩ | ⟨h1, hr, v, h2, h3⟩ | ⟨h1, r, hr, h2, h3, h4⟩ <;> rcases k with ⟨k1, k2⟩ | ⟨k1, kr, u, k2, k3⟩ | ⟨k1, s, kr, k2, k3, k4⟩
  · rw [h2, k2]
  · rw [h1] at k1; cases k1
  · rw [h1] at k1; cases k1
  · rw [h1] at k1; cases k1
  · rw [h3, k3, GDet.uniq hw h2 k2]
  · rw [hr] at kr; cases kr
  · rw [h1] at k1; cases k1
  · rw [hr] at kr; cases kr
  · rw [hr] at kr; injection kr with kr; subst kr; rw [h4, k4]

theorem GStatus.ex {i : Nat} {o : Oper} {a : Act} {σ : Sig} {O : Value → (Sig → Sig) → Prop} (h : GStatus P ops C D rel takes i o a σ O) : ∃ v f, O v f := by
  rcases h with ⟨_, h2⟩ | ⟨_, _, v, _, h3⟩ | ⟨_, r, _, _, ⟨v, ds, h3⟩, h4⟩
  · exact ⟨undef, id, by rw [h2]; exact ⟨rfl, rfl⟩⟩
  · exact ⟨v, id, by rw [h3]; exact ⟨rfl, rfl⟩⟩
  · exact ⟨v, _, by rw [h4]; exact ⟨ds, h3, rfl⟩⟩

/-- the shape of what turns: nothing, or i's own -/
theorem GStatus.turn {i : Nat} {o : Oper} {a : Act} {σ : Sig} {O : Value → (Sig → Sig) → Prop} (h : GStatus P ops C D rel takes i o a σ O) {v : Value} {f : Sig → Sig} (hO : O v f) : f = id ∨ ∃ ds, f = fun s => sigUpd takes s i ds := by
  rcases h with ⟨_, h2⟩ | ⟨_, _, _, _, h3⟩ | ⟨_, r, _, _, _, h4⟩
  · rw [h2] at hO; exact .inl hO.2
  · rw [h3] at hO; exact .inl hO.2
  · rw [h4] at hO; obtain ⟨ds, _, h⟩ := hO; exact .inr ⟨ds, h⟩

def Indep (takes : Nat → List Nat) (i j : Nat) : Prop := i ≠ j ∧ i ∉ takes j ∧ j ∉ takes i ∧ ∀ k, k ∈ takes i → k ∉ takes j
theorem Indep.symm {i j : Nat} (h : Indep takes i j) : Indep takes j i := ⟨Ne.symm h.1, h.2.2.1, h.2.1, fun k hk hi => h.2.2.2 k hi hk⟩

theorem sigUpd_far {σ : Sig} {i j : Nat} {ds : List Thing} (h : Indep takes i j) {k : Nat} (hk : k ∈ takes j) : sigUpd takes σ i ds k = σ k := by
  unfold sigUpd
  have h1 : (k == i) = false := by rw [beq_eq_false_iff_ne]; rintro rfl; exact h.2.1 hk
  have h2 : (takes i).contains k = false := by
    cases hc : (takes i).contains k
    · rfl
    · exact absurd hk (h.2.2.2 k (by simpa using hc))
  rw [h1, h2]; rfl
theorem sigUpd_comm {σ : Sig} {i j : Nat} {ds es : List Thing} (h : Indep takes i j) : sigUpd takes (sigUpd takes σ i ds) j es = sigUpd takes (sigUpd takes σ j es) i ds := by
  funext k
  unfold sigUpd
  by_cases hi : k = i
  · subst hi
    have h1 : (k == j) = false := by rw [beq_eq_false_iff_ne]; exact h.1
    have h2 : (takes j).contains k = false := by
      cases hc : (takes j).contains k
      · rfl
      · exact absurd (by simpa using hc) h.2.1
    rw [h1, h2]; simp
  · have hi' : (k == i) = false := by rw [beq_eq_false_iff_ne]; exact hi
    rw [hi']
    by_cases hj : k = j
    · subst hj
      have h2 : (takes i).contains k = false := by
        cases hc : (takes i).contains k
        · rfl
        · exact absurd (by simpa using hc) h.2.2.1
      rw [h2]; simp
    · have hj' : (k == j) = false := by rw [beq_eq_false_iff_ne]; exact hj
      rw [hj']
      cases (takes i).contains k <;> cases (takes j).contains k <;> rfl

theorem map_eval_put {o oj : Oper} {a : Act} {v : Value} (h : ∀ d, oj.dst = some d → d ∉ o.looksAt ops) : o.op.operands.toList.map (a.put oj.dst v).eval = o.op.operands.toList.map a.eval := by
  refine List.map_congr_left fun x hx => Act.eval_put fun d hd hxd => h d hd ?_
  subst hxd
  exact List.mem_append_left _ (List.mem_filterMap.2 ⟨.tmp d, hx, rfl⟩)

theorem GStatus.keep {i : Nat} {o oj : Oper} {a : Act} {σ σ' : Sig} {O : Value → (Sig → Sig) → Prop} (h : GStatus P ops C D rel takes i o a σ O) (hs : ∀ cs b, o.op ≠ .select cs b) (hl : ∀ d, oj.dst = some d → d ∉ o.looksAt ops) (u : Value)
    (hσ : ∀ k, k ∈ takes i → σ' k = σ k) : GStatus P ops C D rel takes i o (a.put oj.dst u) σ' O := by
  have e1 := execOp_put o hs a oj.dst u hl
  have e2 := wanted_put o a oj.dst u hl
  have e3 := map_eval_put (a := a) (v := u) hl
  have e4 : (takes i).flatMap σ' = (takes i).flatMap σ := by
    rw [List.flatMap_def, List.flatMap_def]; exact congrArg List.flatten (List.map_congr_left hσ)
  have e5 : ∀ r : Rel, GRelAt takes r i o (a.put oj.dst u) σ' = GRelAt takes r i o a σ := fun r => by unfold GRelAt; rw [e3, e4]
  rcases h with ⟨h1, h2⟩ | ⟨h1, hr, v, h2, h3⟩ | ⟨h1, r, hr, h2, h3, h4⟩
  · exact .inl ⟨by rw [e2]; exact h1, h2⟩
  · refine .inr (.inl ⟨by rw [e2]; exact h1, hr, v, ?_, h3⟩)
    unfold GDet at *
    rw [e1]; exact h2
  · refine .inr (.inr ⟨by rw [e2]; exact h1, r, hr, ?_, ?_, ?_⟩)
    · unfold GValid at *
      rw [e1, e5]
      exact fun s w hc hk => h2 s w hc (fun k hk' => (hk k hk').trans (hσ k hk'))
    · rw [e5]; exact h3
    · rw [e5]; exact h4

/-- operations i and j do not meet: what j does ahead of i, it does behind it -/
theorem gOp_put {i j : Nat} {oi oj : Oper} {O : Value → (Sig → Sig) → Prop} (hD : ∃ w, D w) (hj : ops[j]? = some oj) (hap : oi.apart ops oj = true) (hin : Indep takes i j)
    (hsi : ∀ cs b, oi.op ≠ .select cs b) (hsj : ∀ cs b, oj.op ≠ .select cs b) {K : Act → Sig → Prop} {a : Act} {σ : Sig}
    (hy : GStatus P ops C D rel takes i oi a σ O) (h : ∀ v f, O v f → gOp P ops C D rel takes j K (a.put oi.dst v) (f σ)) :
    gOp P ops C D rel takes j (fun a' s => GStatus P ops C D rel takes i oi a' s O ∧ ∀ v f, O v f → K (a'.put oi.dst v) (f s)) a σ := by
  obtain ⟨h1, h2, h3⟩ := Oper.apart_spec hap
  -- j's status in the state ahead of i
  have back : ∀ v f, O v f → ∃ O', GStatus P ops C D rel takes j oj a σ O' ∧ ∀ u g, O' u g → K ((a.put oi.dst v).put oj.dst u) (g (f σ)) := fun v f hO => by
    have := h v f hO
    unfold gOp at this
    simp only [hj] at this
    obtain ⟨O', k1, k2⟩ := this
    refine ⟨O', ?_, k2⟩
    have e1 := execOp_put oj hsj a oi.dst v h1
    have e2 := wanted_put oj a oi.dst v h1
    have e3 := map_eval_put (a := a) (v := v) h1
    have hσ : ∀ k, k ∈ takes j → f σ k = σ k := fun k hk => by
      rcases hy.turn hO with rfl | ⟨ds, rfl⟩
      · rfl
      · exact sigUpd_far hin hk
    have e4 : (takes j).flatMap (f σ) = (takes j).flatMap σ := by
      rw [List.flatMap_def, List.flatMap_def]; exact congrArg List.flatten (List.map_congr_left hσ)
    have e5 : ∀ r : Rel, GRelAt takes r j oj (a.put oi.dst v) (f σ) = GRelAt takes r j oj a σ := fun r => by unfold GRelAt; rw [e3, e4]
    rcases k1 with ⟨q1, q2⟩ | ⟨q1, hr, x, q2, q3⟩ | ⟨q1, r, hr, q2, q3, q4⟩
    · exact .inl ⟨by rw [← e2]; exact q1, q2⟩
    · refine .inr (.inl ⟨by rw [← e2]; exact q1, hr, x, ?_, q3⟩)
      unfold GDet at *
      rw [← e1]; exact q2
    · refine .inr (.inr ⟨by rw [← e2]; exact q1, r, hr, ?_, ?_, ?_⟩)
      · unfold GValid at *
        rw [← e5, ← e1]
        exact fun s w hc hk => q2 s w hc (fun k hk' => (hk k hk').trans (hσ k hk').symm)
      · rw [← e5]; exact q3
      · rw [← e5]; exact q4
  obtain ⟨v0, f0, hO0⟩ := hy.ex
  obtain ⟨O', k1, _⟩ := back v0 f0 hO0
  unfold gOp
  simp only [hj]
  refine ⟨O', k1, fun u g hg => ⟨hy.keep hsi h3 u (fun k hk => ?_), fun v f hO => ?_⟩⟩
  · rcases k1.turn hg with rfl | ⟨ds, rfl⟩
    · rfl
    · exact sigUpd_far hin.symm hk
  · obtain ⟨O2, m1, m2⟩ := back v f hO
    rw [k1.func hD m1] at hg
    have := m2 u g hg
    rw [Act.put_comm a v u h2] at this
    have e : g (f σ) = f (g σ) := by
      rcases hy.turn hO with rfl | ⟨ds, rfl⟩
      · rfl
      · rcases m1.turn hg with rfl | ⟨es, rfl⟩
        · rfl
        · exact sigUpd_comm hin
    rw [e] at this
    exact this

theorem gOp_of {i : Nat} {oi : Oper} {a : Act} {σ : Sig} {O : Value → (Sig → Sig) → Prop} {K : Act → Sig → Prop} (hi : ops[i]? = some oi) (hy : GStatus P ops C D rel takes i oi a σ O) (h : ∀ v f, O v f → K (a.put oi.dst v) (f σ)) : gOp P ops C D rel takes i K a σ := by
  unfold gOp
  simp only [hi]
  exact ⟨O, hy, h⟩

theorem wpOp_of_gOp (hCD : ∀ σ w, C σ w → D w) {i : Nat} {a : Act} {σ : Sig} {K : Act → Sig → Prop} {K' : Act → World → Prop} {Q' : Exit → Act → World → Prop} {w : World} (hC : C σ w) (h : ∀ a s w', C s w' → K a s → K' a w') (hh : gOp P ops C D rel takes i K a σ) : wpOp P ops Q' i K' a w := by
  unfold gOp at hh
  unfold wpOp
  split
  · rename_i ho; simp only [ho] at hh; exact h _ _ _ hC hh
  · rename_i o ho
    simp only [ho] at hh
    obtain ⟨O, k1, k2⟩ := hh
    rcases k1 with ⟨h1, h2⟩ | ⟨h1, _, v, h2, h3⟩ | ⟨h1, r, _, h2, _, h4⟩
    · rw [h1]
      simp only [Bool.false_eq_true, if_false]
      exact h _ _ _ hC (k2 undef id (by rw [h2]; exact ⟨rfl, rfl⟩))
    · rw [h1]
      simp only [if_true]
      refine .inl ?_
      have h5 := h2 w (hCD _ _ hC)
      have h6 : K (a.put o.dst v) σ := k2 v id (by rw [h3]; exact ⟨rfl, rfl⟩)
      unfold Oper.wp
      generalize (execOp a.eval o).run P w = R at *
      cases R with
      | ok n w' =>
        cases n <;> simp only [valUpon] at h5 <;> simp only [Oper.upon]
        · obtain ⟨rfl, rfl⟩ := h5; exact h _ _ _ hC h6
        · obtain ⟨rfl, rfl⟩ := h5; exact h _ _ _ hC h6
      | halt x w' => exact h5.elim
    · rw [h1]
      simp only [if_true]
      refine .inl ?_
      have h5 := h2 σ w hC (fun _ _ => rfl)
      have h6 : ∀ v ds, GRelAt takes r i o a σ v ds → K (a.put o.dst v) (sigUpd takes σ i ds) := fun v ds hd => k2 v (fun s => sigUpd takes s i ds) (by rw [h4]; exact ⟨ds, hd, rfl⟩)
      unfold Oper.wp
      generalize (execOp a.eval o).run P w = R at *
      cases R with
      | ok n w' =>
        cases n <;> simp only [ups] at h5 <;> simp only [Oper.upon]
        · obtain ⟨ds, h7, h8⟩ := h5; exact h _ _ _ h8 (h6 _ _ h7)
        · obtain ⟨ds, h7, h8⟩ := h5; exact h _ _ _ h8 (h6 _ _ h7)
        · exact h5.mono fun e w'' ⟨v, he, ds, h7, h8⟩ => by subst he; exact h _ _ _ h8 (h6 _ _ h7)
        · exact Rows.mono h5 fun v w'' ⟨ds, h7, h8⟩ => h _ _ _ h8 (h6 _ _ h7)
      | halt x w' => exact h5.elim

/-- the walk in the order of the text -/
def wpGive (P : Program) (ops : Array Oper) (C : Sig → World → Prop) (D : World → Prop) (rel : Nat → Option Rel) (takes : Nat → List Nat) (Q : Act → Sig → Prop) : Nat → List Oper → Act → Sig → Prop
  | _, [], a, σ => Q a σ
  | i, o :: rest, a, σ => ∃ O, GStatus P ops C D rel takes i o a σ O ∧ ∀ v f, O v f → wpGive P ops C D rel takes Q (i + 1) rest (a.put o.dst v) (f σ)

/-- for so many rounds, whatever comes up -/
def headG (P : Program) (md : Region.Mode) (ops : Array Oper) (C : Sig → World → Prop) (D : World → Prop) (rel : Nat → Option Rel) (takes : Nat → List Nat) (n : Nat) (L : Array Bool → Act → Sig → Prop) : Nat → Array Bool → Act → Sig → Prop
  | 0, listed, a, σ => L listed a σ
  | f + 1, listed, a, σ => Region.ready md ops listed ≠ [] ∧ ∀ i ∈ Region.ready md ops listed, i < n ∧ gOp P ops C D rel takes i (headG P md ops C D rel takes n L f (listed.setIfInBounds i true)) a σ

theorem headG_any (hCD : ∀ σ w, C σ w → D w) {n g : Nat} {L : Array Bool → Act → Sig → Prop} {Q : Exit → Act → World → Prop} (hL : ∀ listed a s w, C s w → L listed a s → wpAny P md ops Q g listed a w) :
    ∀ (f : Nat) (listed : Array Bool) (a : Act) (s : Sig) (w : World), C s w → headG P md ops C D rel takes n L f listed a s → wpAny P md ops Q (f + g) listed a w
  | 0, listed, a, s, w, hw, h => by rw [Nat.zero_add]; exact hL _ _ _ _ hw h
  | f + 1, listed, a, s, w, hw, h => by
    rw [show f + 1 + g = (f + g) + 1 by omega]
    exact ⟨fun h0 => absurd h0 h.1, fun i hi => wpOp_of_gOp hCD hw (fun a' s' w' hw' h' => headG_any hCD hL f _ a' s' w' hw' h') (h.2 i hi).2⟩

theorem headG_first (hD : ∃ w, D w) {n i : Nat} {oi : Oper} {O : Value → (Sig → Sig) → Prop} {L : Array Bool → Act → Sig → Prop} (hi : ops[i]? = some oi) (hsel : ∀ (j : Nat) (o : Oper) cs b, ops[j]? = some o → o.op ≠ .select cs b)
    (hw : ∀ listed, HeadInv md ops n listed → listed.getD i true = false → ∀ j ∈ Region.ready md ops listed, j < n) (hin : i < n) (hdone : ∀ listed a s, L listed a s → ∀ j ∈ Region.ready md ops listed, n ≤ j) :
    ∀ (f : Nat) (listed : Array Bool) (a : Act) (σ : Sig), HeadInv md ops n listed →
      (∀ j oj, ops[j]? = some oj → j ≠ i → listed.getD j true = false → (∀ e ∈ oj.after, Region.binds md e = true → e.on ≠ i) → oi.apart ops oj = true ∧ Indep takes i j) →
      i ∈ Region.ready md ops listed → GStatus P ops C D rel takes i oi a σ O → (∀ v f', O v f' → headG P md ops C D rel takes n L f (listed.setIfInBounds i true) (a.put oi.dst v) (f' σ)) → headG P md ops C D rel takes n L (f + 1) listed a σ := by
  intro f
  induction f with
  | zero =>
    intro listed a σ inv _ hr hy H
    have hun := (mem_ready.1 hr).1
    obtain ⟨v0, f0, hO0⟩ := hy.ex
    refine ⟨List.ne_nil_of_mem hr, fun j hj => ?_⟩
    have hjn : j < n := hw _ inv hun j hj
    refine ⟨hjn, ?_⟩
    by_cases hji : j = i
    · subst hji; exact gOp_of hi hy H
    · exact absurd (hdone _ _ _ (H v0 f0 hO0) j (ready_mono hj hji)) (by omega)
  | succ f ih =>
    intro listed a σ inv hfree hr hy H
    have hun := (mem_ready.1 hr).1
    refine ⟨List.ne_nil_of_mem hr, fun j hj => ?_⟩
    have hjn : j < n := hw _ inv hun j hj
    refine ⟨hjn, ?_⟩
    by_cases hji : j = i
    · subst hji; exact gOp_of hi hy H
    · obtain ⟨hjun, oj, hoj, hall⟩ := mem_ready.1 hj
      have hnot : ∀ e ∈ oj.after, Region.binds md e = true → e.on ≠ i := fun e he hb heq => by
        have h1 := hall e he hb
        rw [heq, getD_both hun] at h1
        cases h1
      have hfj := hfree j oj hoj hji hjun hnot
      have h2 := gOp_put hD hoj hfj.1 hfj.2 (fun cs b => hsel i oi cs b hi) (fun cs b => hsel j oj cs b hoj) hy (fun v f' hO => ((H v f' hO).2 j (ready_mono hj hji)).2)
      refine gOp_mono (fun a' s' h3 => ih (listed.setIfInBounds j true) a' s' (inv.set hj hjn) (fun k ok hk hki hku hno => hfree k ok hk hki ?_ hno) (ready_mono hr (Ne.symm hji)) h3.1 (fun v f' hO => by rw [Array.setIfInBounds_comm _ _ hji]; exact h3.2 v f' hO)) h2
      by_cases hjk : j = k
      · subst hjk; exact hjun
      · rwa [getD_set_ne true hjk] at hku

/-- the plan's own check: who comes later than k and does not wait for it, does not meet it -/
def planB (takes : Nat → List Nat) (ops : Array Oper) (md : Region.Mode) : Bool :=
  (List.range ops.size).all fun k => (List.range ops.size).all fun j => Nat.ble j k || (match ops[j]? with | some oj => oj.after.any (fun e => Region.binds md e && e.on == k) | none => true) ||
    (!(takes j).contains k && !(takes k).contains j && (takes k).all fun x => !(takes j).contains x)
theorem planB_spec (h : planB takes ops md = true) {k j : Nat} {oj : Oper} (hj : ops[j]? = some oj) (hkj : k < j) (hno : ∀ e ∈ oj.after, Region.binds md e = true → e.on ≠ k) : Indep takes k j := by
  unfold planB at h
  simp only [List.all_eq_true, List.mem_range] at h
  have hjs := (Array.getElem?_eq_some_iff.1 hj).1
  have h1 := h k (by omega) j hjs
  simp only [hj, Bool.or_eq_true] at h1
  rcases h1 with (h1 | h1) | h1
  · have := Nat.le_of_ble_eq_true h1; omega
  · obtain ⟨x, hx, h2⟩ := Array.any_eq_true.1 h1
    simp only [Bool.and_eq_true, beq_iff_eq] at h2
    exact absurd h2.2 (hno _ (Array.getElem_mem hx) h2.1)
  · simp only [Bool.and_eq_true, Bool.not_eq_true', List.all_eq_true] at h1
    refine ⟨by omega, fun hk => ?_, fun hk => ?_, fun x hx hx' => ?_⟩
    · have := h1.1.1; simp [hk] at this
    · have := h1.1.2; simp [hk] at this
    · have := h1.2 x hx; simp [hx'] at this

theorem headG_lex (hD : ∃ w, D w) {n g : Nat} {Lq : Act → Sig → Prop} (hsel : Region.noSelect ops = true) (hw : ∀ i, i < n → ∀ listed, HeadInv md ops n listed → listed.getD i true = false → ∀ j ∈ Region.ready md ops listed, j < n)
    (hpl : planB takes ops md = true) :
    ∀ (l : List Oper) (k : Nat) (listed : Array Bool) (a : Act) (σ : Sig), (∀ j, j < l.length → l[j]? = ops[k + j]?) → k + l.length = n → HeadInv md ops n listed → (∀ j, j < k → listed.getD j true = true) →
    Region.lexHead md ops g l.length k listed = true → wpGive P ops C D rel takes Lq k l a σ → headG P md ops C D rel takes n (fun listed' a' s' => Region.seqB md ops g n listed' = true ∧ Lq a' s') l.length listed a σ
  | [], k, listed, a, σ, _, hk, _, _, hB, h => by
    have : k = n := by simpa using hk
    subst this
    exact ⟨by simpa [Region.lexHead] using hB, h⟩
  | o :: l, k, listed, a, σ, hl, hk, inv, hlo, hB, h => by
    have h0 : ops[k]? = some o := by simpa using (hl 0 (by simp)).symm
    simp only [List.length_cons, Region.lexHead, Bool.and_eq_true] at hB
    obtain ⟨⟨hr, hf⟩, hB'⟩ := hB
    simp only [List.length_cons] at hk
    have hr' : k ∈ Region.ready md ops listed := by simpa using hr
    obtain ⟨O, hy, hK⟩ := h
    refine headG_first hD h0 (Region.noSelect_spec hsel) (hw k (by omega)) (by omega) (fun listed' a' s' hL => seqB_ready hL.1) l.length listed a σ inv (fun j oj hj hjk hun hno => ⟨Region.free_spec h0 hf j oj hj hjk hun hno, planB_spec hpl hj ?_ hno⟩) hr' hy (fun v f hO =>
      headG_lex hD hsel hw hpl l (k + 1) _ _ _ (fun j hj => by have := hl (j + 1) (by simp; omega); simpa [Nat.add_assoc, Nat.add_comm 1 j] using this) (by omega) (inv.set hr' (by omega)) (fun j hj => ?_) hB' (hK v f hO))
    · rcases Nat.lt_or_ge k j with h | h
      · exact h
      · have := hlo j (by omega)
        rw [hun] at this; cases this
    · by_cases hjk : k = j
      · subst hjk
        have hs : k < listed.size := by rw [inv.size]; exact (Array.getElem?_eq_some_iff.1 h0).1
        simp [hs]
      · rw [getD_set_ne true hjk]; exact hlo j (by omega)
end

section
variable {P : Program} {F : List Nat} {rel : Nat → Option Rel} {takes : Nat → List Nat}
/-- the things of all operations (the number N: the things that were there) -/
def sigAll (N : Nat) (σ : Sig) : List Thing := (List.range (N + 1)).flatMap σ
def GC (F : List Nat) (w : World) (N : Nat) (σ : Sig) (X : World) : Prop := SepF F w X (sigAll N σ)

theorem wp_region_give {id : Nat} {Q : Exit → Act → World → Prop} {a : Act} {w : World} {l : List Oper} (n : Nat) (rel : Nat → Option Rel) (takes : Nat → List Nat) {D : World → Prop} (σ : Sig) (hCD : ∀ X us, SepF F w X us → D X)
    (hm : P.follows .mixedOrders = true) (hB : Region.lexTailB .any l.toArray n = true) (hP : planB takes l.toArray .any = true) (hS : SepF F w w.drew (sigAll l.length σ))
    (h : wpGive P l.toArray (GC F w l.length) D rel takes (fun a' σ' => ∀ X, SepF F w X (sigAll l.length σ') → wpList P l.toArray Q (l.drop n) a' X) 0 (l.take n) a σ) : (Code.region id l.toArray true).wp P Q a w := by
  simp only [Region.lexTailB, Bool.and_eq_true, decide_eq_true_eq] at hB
  obtain ⟨⟨⟨⟨hsel, hn⟩, hs⟩, hc⟩, hlex⟩ := hB
  have hn' : n < l.length := by simpa using hn
  have htl : (l.take n).length = n := by simp; omega
  have hdl : (l.drop n).length = l.toArray.size - n := by simp
  have inv0 : HeadInv .any l.toArray n (Array.replicate l.toArray.size false) :=
    ⟨by simp, fun j oj _ hl => (by rw [getD_replicate_false] at hl; cases hl), fun t _ ht => getD_in (by simpa using ht) (getD_replicate_false _ _)⟩
  have hD : ∃ w, D w := ⟨_, hCD _ _ hS⟩
  have H := headG_lex (md := .any) (g := l.toArray.size - n) hD hsel (fun i hi listed inv hun j hj => Nat.lt_of_not_le fun h => tail_waits hs hc hn inv _ i rfl hi hun j h hj) hP (l.take n) 0 _ a σ (fun j hj => by
    have hj' : j < n := by rw [htl] at hj; exact hj
    simp [hj']) (by simpa using htl) inv0 (fun j hj => by omega) (by rw [htl]; exact hlex) h
  refine wp_region_any hm ?_
  have := headG_any (Q := Q) (C := GC F w l.length) (D := D) (g := l.toArray.size - n) (fun s X hX => hCD X _ hX) (fun listed a' s' w' hw' hL => by
    have := wpAny_of_seq (md := .any) (Q' := Q) (l.drop n) n listed a' w' (fun j => by simp [List.getElem?_drop]) (by rw [hdl]; exact hL.1) (hL.2 w' hw')
    rwa [hdl] at this) _ _ _ _ _ hS H
  rw [htl, show n + (l.toArray.size - n) = l.toArray.size by omega] at this
  exact this

theorem lexHead_of_from (md : Region.Mode) (ops : Array Oper) : ∀ (fuel k : Nat) (listed : Array Bool), Region.lexFrom md ops fuel k listed = true → Region.lexHead md ops 0 fuel k listed = true
  | 0, k, listed, h => by simpa [Region.lexHead, Region.lexFrom, Region.seqB] using h
  | f + 1, k, listed, h => by
    simp only [Region.lexFrom, Region.lexHead, Bool.and_eq_true] at h ⊢
    exact ⟨h.1, lexHead_of_from md ops f _ _ h.2⟩
/-- the same, all of the region in the walk -/
theorem wp_region_give_all {id : Nat} {Q : Exit → Act → World → Prop} {a : Act} {w : World} {l : List Oper} (rel : Nat → Option Rel) (takes : Nat → List Nat) {D : World → Prop} (σ : Sig) (hCD : ∀ X us, SepF F w X us → D X)
    (hm : P.follows .mixedOrders = true) (hB : Region.lexB .any l.toArray = true) (hP : planB takes l.toArray .any = true) (hS : SepF F w w.drew (sigAll l.length σ))
    (h : wpGive P l.toArray (GC F w l.length) D rel takes (fun a' σ' => ∀ X, SepF F w X (sigAll l.length σ') → Q .normal a' X) 0 l a σ) : (Code.region id l.toArray true).wp P Q a w := by
  simp only [Region.lexB, Bool.and_eq_true] at hB
  have inv0 : HeadInv .any l.toArray l.length (Array.replicate l.toArray.size false) :=
    ⟨by simp, fun j oj _ hl => (by rw [getD_replicate_false] at hl; cases hl), fun t h1 ht => by simp at ht; omega⟩
  have hD : ∃ w, D w := ⟨_, hCD _ _ hS⟩
  have H := headG_lex (md := .any) (n := l.length) (g := 0) (Lq := fun a' σ' => ∀ X, SepF F w X (sigAll l.length σ') → Q .normal a' X) hD hB.1 (fun i hi listed inv hun j hj => by
    obtain ⟨_, o, ho, _⟩ := mem_ready.1 hj
    simpa using (Array.getElem?_eq_some_iff.1 ho).1) hP l 0 _ a σ (fun j hj => by simp) (by simp) inv0 (fun j hj => by omega) (lexHead_of_from _ _ _ _ _ (by simpa using hB.2)) h
  refine wp_region_any hm ?_
  have := headG_any (Q := Q) (C := GC F w l.length) (D := D) (g := 0) (fun s X hX => hCD X _ hX) (fun listed a' s' w' hw' hL => ⟨by simpa [Region.seqB] using hL.1, hL.2 w' hw'⟩) _ _ _ _ _ hS H
  simpa using this

/-- nothing that was there has turned -/
theorem sep_und {w X : World} {us : List Thing} (h : SepF [] w X us) : ∃ x : Und w, X = und w x := ⟨⟨X, h.bel0⟩, rfl⟩
end

section
variable {P : Program} {ops : Array Oper} {C : Sig → World → Prop} {D : World → Prop} {rel : Nat → Option Rel} {takes : Nat → List Nat} {Q : Act → Sig → Prop} {i : Nat} {o : Oper} {rest : List Oper} {a : Act} {σ : Sig}
theorem give_nil (h : Q a σ) : wpGive P ops C D rel takes Q i [] a σ := h
theorem give_skip (hw : Region.wanted o (yielded ops a.tmps) = false) (h : wpGive P ops C D rel takes Q (i + 1) rest (a.put o.dst undef) σ) : wpGive P ops C D rel takes Q i (o :: rest) a σ :=
  ⟨_, .inl ⟨hw, rfl⟩, fun v f ⟨h1, h2⟩ => by subst h1; subst h2; exact h⟩
def Op.enters : Op → Bool
  | .move _ | .assign _ | .pick .. | .nilCheck .. | .load .. | .fieldAddr .. | .field .. | .indexAddr .. | .index .. | .build .. | .binOp .. | .unOp .. | .convert .. | .slice .. | .extract .. => false
  | .call c => match c.callee with
    | .builtin .len | .builtin .cap | .builtin .max | .builtin .min => false
    | _ => true
  | _ => true
theorem noE {s : Sem Value} {P : Program} {w w' : World} {f : FuncId} {args : Array Value} : (do pure (Next.value (← s)) : Sem Next).run P w ≠ .ok (.enter f args) w' := by
  intro e
  simp only [Sem.run_bind, Sem.run_pure] at e
  cases h : s.run P w <;> rw [h] at e <;> simp [Result.andThen] at e
theorem noP {P : Program} {w w' : World} {n : Next} : (runtimePanic .nilDeref : Sem Next).run P w ≠ .ok n w' := by
  simp [runtimePanic, go_sem]
theorem no_enter {o : Oper} (h : Op.enters o.op = false) (ρ : Operand → Value) (P : Program) (w w' : World) (f : FuncId) (args : Array Value) : (execOp ρ o).run P w ≠ .ok (.enter f args) w' := by
  unfold execOp
  cases ho : o.op <;> rw [ho] at h <;> simp only [Op.enters, reduceCtorEq] at h <;> try exact noE
  · simp
  · simp
  · intro e
    simp only [Sem.run_bind, Sem.run_pure] at e
    revert e
    generalize (asBool _).run P w = r
    cases r <;> simp [Result.andThen]
  · rename_i x
    dsimp only
    split
    · exact noP
    · exact noP
    · exact noP
    · split
      · exact noP
      · intro e
        simp only [Sem.run_bind] at e
        generalize Sem.run P program w = r1 at e
        cases r1 with
        | halt h1 w1 => simp [Result.andThen] at e
        | ok a1 w1 =>
          simp only [Result.andThen_ok] at e
          generalize Sem.run P _ w1 = r2 at e
          cases r2 with
          | halt h1 w2 => simp [Result.andThen] at e
          | ok a2 w2 =>
            simp only [Result.andThen_ok] at e
            split at e
            · simp only [Sem.run_bind, Sem.run_pure] at e
              generalize Sem.run P (unsupported _) w2 = r3 at e
              cases r3 <;> simp [Result.andThen] at e
            · simp at e
      · simp
    · simp
  · rename_i c
    cases hc : c.callee <;> rw [hc] at h <;> try cases h
    rename_i b
    cases b <;> (try cases h) <;> (simp only [resolve, hc, invoke, builtin, Sem.run_bind, Sem.run_pure, Result.andThen_ok]; intro e; revert e; generalize Sem.run P _ w = r; cases r <;> simp [Result.andThen])
theorem det_of_quiet {v : Value} (h : Op.enters o.op = false) (hq : ∀ w, D w → o.quietAt P a D w v) : GDet P D o a v := fun w hw => by
  have h1 := hq w hw
  unfold Oper.quietAt at h1
  have h2 := no_enter h a.eval P w
  generalize (execOp a.eval o).run P w = R at *
  cases R with
  | ok n w' =>
    cases n <;> simp only [Oper.quietUpon] at h1
    · exact h1
    · exact ⟨h1.1, h1.2.symm⟩
    · exact absurd rfl (h2 _ _ _)
  | halt x w' => exact h1.elim
theorem give_det (hw : Region.wanted o (yielded ops a.tmps) = true) (hr : rel i = none) (hc : Op.enters o.op = false) (h : ∀ K : Act → Prop, (∀ a, wpGive P ops C D rel takes Q (i + 1) rest a σ → K a) → o.quiet P a D K) : wpGive P ops C D rel takes Q i (o :: rest) a σ := by
  obtain ⟨v, h1, h2⟩ := h _ fun _ h => h
  exact ⟨_, .inr (.inl ⟨hw, hr, v, det_of_quiet hc h1, rfl⟩), fun u f ⟨h3, h4⟩ => by subst h3; subst h4; exact h2⟩
theorem give_rel {r : Rel} (hw : Region.wanted o (yielded ops a.tmps) = true) (hr : rel i = some r) (hv : GValid P C takes i o a σ (GRelAt takes r i o a σ)) (hin : ∃ v ds, GRelAt takes r i o a σ v ds)
    (h : ∀ v ds, GRelAt takes r i o a σ v ds → wpGive P ops C D rel takes Q (i + 1) rest (a.put o.dst v) (sigUpd takes σ i ds)) : wpGive P ops C D rel takes Q i (o :: rest) a σ :=
  ⟨_, .inr (.inr ⟨hw, r, hr, hv, hin, rfl⟩), fun v f ⟨ds, h3, h4⟩ => by subst h4; exact h v ds h3⟩
end

/-- what one operation that gives must bring: its value in slot d, and the things, in the place of those that it takes -/
def GvQ (F : List Nat) (w : World) (r : Value → List Thing → Prop) (d : Nat) (df : List Deferred) (rest : List Thing) (x : Exit) (a' : Act) (w' : World) : Prop :=
  x = .normal ∧ a'.defers = df ∧ ∃ ds, r (a'.tmps.getD d undef) ds ∧ SepF F w w' (ds ++ rest)

theorem flatMap_filter_not {β : Type} (p : β → Bool) (f : β → List Thing) : ∀ l : List β, l.flatMap (fun k => bif p k then [] else f k) = (l.filter fun k => !p k).flatMap f
  | [] => rfl
  | x :: l => by
    rw [List.flatMap_cons, flatMap_filter_not p f l, List.filter_cons]
    cases p x <;> simp
theorem flatMap_subN {l m : List Thing} (h : l.Sublist m) : (l.flatMap (·.fp)).Sublist (m.flatMap (·.fp)) := by
  induction h with
  | slnil => exact List.Sublist.refl _
  | cons x h ih => rw [List.flatMap_cons]; exact ih.trans (List.sublist_append_right _ _)
  | cons_cons x h ih => rw [List.flatMap_cons, List.flatMap_cons]; exact List.Sublist.append_left ih _
theorem flatMap_sub {β : Type} (f : β → List Thing) {l m : List β} (h : l.Sublist m) : (l.flatMap f).Sublist (m.flatMap f) := by
  induction h with
  | slnil => exact List.Sublist.refl _
  | cons x h ih => rw [List.flatMap_cons]; exact ih.trans (List.sublist_append_right _ _)
  | cons_cons x h ih => rw [List.flatMap_cons, List.flatMap_cons]; exact List.Sublist.append_left ih _
section
variable {takes : Nat → List Nat} {σ : Sig} {i N : Nat} {ds : List Thing}
theorem sigAll_upd (hi : i ≤ N) : (sigAll N (sigUpd takes σ i ds)).Perm (ds ++ sigAll N (sigUpd takes σ i [])) := by
  unfold sigAll
  have hnd : (List.range (N + 1)).Nodup := List.nodup_range
  have hm : i ∈ List.range (N + 1) := by rw [List.mem_range]; omega
  obtain ⟨s, t, hst⟩ := List.append_of_mem hm
  rw [hst] at hnd ⊢
  have hs : i ∉ s := fun h => (List.nodup_append.1 hnd).2.2 i h i (by simp) rfl
  have ht : i ∉ t := by
    have := (List.nodup_append.1 hnd).2.1
    rw [List.nodup_cons] at this
    exact this.1
  have e : ∀ l : List Nat, i ∉ l → l.flatMap (sigUpd takes σ i ds) = l.flatMap (sigUpd takes σ i []) := fun l hl => by
    rw [List.flatMap_def, List.flatMap_def]
    refine congrArg List.flatten (List.map_congr_left fun k hk => ?_)
    have : (k == i) = false := by rw [beq_eq_false_iff_ne]; rintro rfl; exact hl hk
    unfold sigUpd
    rw [this]; rfl
  have ei : ∀ es, sigUpd takes σ i es i = es := fun es => by unfold sigUpd; simp
  rw [List.flatMap_append, List.flatMap_cons, List.flatMap_append, List.flatMap_cons, e s hs, e t ht, ei, ei, List.nil_append]
  exact List.perm_append_comm_assoc _ _ _
theorem sigAll_take (hn : (takes i).Nodup) (hk : ∀ k ∈ takes i, k ≤ N) : ∃ l', l'.Perm (sigAll N σ) ∧ ((takes i).flatMap σ ++ sigAll N (sigUpd takes σ i [])).Sublist l' := by
  refine ⟨(takes i).flatMap σ ++ ((List.range (N + 1)).filter fun k => !(takes i).contains k).flatMap σ, ?_, ?_⟩
  · rw [← List.flatMap_append]
    refine List.Perm.flatMap_right _ ?_
    rw [List.perm_ext_iff_of_nodup ?_ List.nodup_range]
    · intro k
      rw [List.mem_append, List.mem_filter, List.mem_range]
      by_cases h : k ∈ takes i
      · have := hk k h
        simp [h]; omega
      · simp [h]
    · rw [List.nodup_append]
      refine ⟨hn, List.nodup_range.sublist List.filter_sublist, fun a ha b hb e => ?_⟩
      subst e
      rw [List.mem_filter] at hb
      simp [ha] at hb
  · refine List.Sublist.append_left ?_ _
    unfold sigAll
    have e : sigUpd takes σ i [] = fun k => bif (k == i || (takes i).contains k) then [] else σ k := by
      funext k
      unfold sigUpd
      cases (k == i) <;> cases (takes i).contains k <;> rfl
    rw [e, flatMap_filter_not]
    refine flatMap_sub _ ?_
    rw [show (fun k : Nat => !(k == i || (takes i).contains k)) = fun k => (!(k == i)) && (!(takes i).contains k) by funext k; rw [Bool.not_or], ← List.filter_filter]
    exact List.filter_sublist
end
theorem SepF.subE {F : List Nat} {w0 wr : World} {ts us : List Thing} (h : SepF F w0 wr ts) (hs : us.Sublist ts) : SepF F w0 wr us :=
  ⟨h.chg, h.nd.sublist (flatMap_subN hs), fun b hb => h.new b ((flatMap_subN hs).subset hb), fun t ht => h.hold t (hs.subset ht)⟩
theorem SepF.permE {F : List Nat} {w0 wr : World} {ts us : List Thing} (h : SepF F w0 wr ts) (hp : us.Perm ts) : SepF F w0 wr us :=
  h.conv (List.Perm.flatMap_right _ hp) fun u hu => h.hold u (hp.mem_iff.1 hu)
theorem SepF.sigTake {F : List Nat} {w X : World} {takes : Nat → List Nat} {σ : Sig} {i N : Nat} (h : SepF F w X (sigAll N σ)) (hn : (takes i).Nodup) (hk : ∀ k ∈ takes i, k ≤ N) : SepF F w X ((takes i).flatMap σ ++ sigAll N (sigUpd takes σ i [])) := by
  obtain ⟨l', h1, h2⟩ := sigAll_take (σ := σ) hn hk
  exact (h.permE h1).subE h2
section
variable {P : Program} {F : List Nat} {w : World} {N : Nat} {ops : Array Oper} {D : World → Prop} {rel : Nat → Option Rel} {takes : Nat → List Nat} {Q : Act → Sig → Prop} {i : Nat} {o : Oper} {rest : List Oper} {a : Act} {σ : Sig}
theorem put_get {a : Act} {d : Nat} (hs : d < a.tmps.size) (v : Value) : (a.put (some d) v).tmps.getD d undef = v := by
  simp [Act.put, hs]
theorem gvalid_of {r : Value → List Thing → Prop} (d : Nat) (hd : o.dst = some d) (hs : d < a.tmps.size) (hw : Region.wanted o (yielded ops a.tmps) = true) (hi : i ≤ N) (hn : (takes i).Nodup) (hk : ∀ k ∈ takes i, k ≤ N)
    (h : ∀ others X, SepF F w X ((takes i).flatMap σ ++ others) → wpList P ops (GvQ F w r d a.defers others) [o] a X) : GValid P (GC F w N) takes i o a σ r := by
  intro σ' X hC hag
  have e4 : (takes i).flatMap σ' = (takes i).flatMap σ := by
    rw [List.flatMap_def, List.flatMap_def]; exact congrArg List.flatten (List.map_congr_left hag)
  have h0 : SepF F w X (sigAll N σ') := hC
  have h1 := h0.sigTake hn hk
  rw [e4] at h1
  have h2 := h _ X h1
  have fin : ∀ u w', GvQ F w r d a.defers (sigAll N (sigUpd takes σ' i [])) .normal (a.put o.dst u) w' → ∃ ds, r u ds ∧ GC F w N (sigUpd takes σ' i ds) w' := fun u w' ⟨_, _, ds, h3, h4⟩ => by
    rw [hd, put_get hs] at h3
    exact ⟨ds, h3, h4.permE (sigAll_upd hi)⟩
  unfold wpList at h2
  rw [if_pos hw] at h2
  have h3 : o.wp P a X (fun a' w' => GvQ F w r d a.defers (sigAll N (sigUpd takes σ' i [])) .normal a' w') (GvQ F w r d a.defers (sigAll N (sigUpd takes σ' i []))) := by
    first
      | exact h2
      | exact h2.elim id fun h => by obtain ⟨_, a', w', h, _⟩ := h; cases h
  unfold Oper.wp at h3
  generalize (execOp a.eval o).run P X = R at *
  cases R with
  | ok n w' =>
    cases n <;> simp only [Oper.upon] at h3 <;> simp only [ups] <;> first | exact fin _ _ h3 | skip
    · refine h3.mono fun e w'' he => ?_
      cases e with
      | returned v => exact ⟨v, rfl, fin _ _ he⟩
      | panicked c => exact absurd he.1 (by simp)
      | outgrown => obtain ⟨a', w', h, _⟩ := he; cases h
    · have := h3.2.1
      rw [hd] at this
      exact absurd this (by simp [Act.put])
    · exact Rows.mono h3 fun v w'' he => fin _ _ he
  | halt x w' => cases x <;> simp only [Oper.upon] at h3; exact absurd h3.1 (by simp)

theorem give_op {R : Rel} (d : Nat) (hw : Region.wanted o (yielded ops a.tmps) = true) (hr : rel i = some R) (hd : o.dst = some d) (hs : d < a.tmps.size) (hi : i ≤ N) (hn : (takes i).Nodup) (hk : ∀ k ∈ takes i, k ≤ N)
    (hin : ∃ v ds, R (o.op.operands.toList.map a.eval) ((takes i).flatMap σ) v ds)
    (h : ∀ others X, SepF F w X ((takes i).flatMap σ ++ others) → wpList P ops (GvQ F w (R (o.op.operands.toList.map a.eval) ((takes i).flatMap σ)) d a.defers others) [o] a X)
    (hnext : ∀ v ds, R (o.op.operands.toList.map a.eval) ((takes i).flatMap σ) v ds → wpGive P ops (GC F w N) D rel takes Q (i + 1) rest (a.put (some d) v) (sigUpd takes σ i ds)) : wpGive P ops (GC F w N) D rel takes Q i (o :: rest) a σ :=
  give_rel hw hr (gvalid_of d hd hs hw hi hn hk h) hin (fun v ds hv => by rw [hd]; exact hnext v ds hv)
end

section
variable {P : Program} {F : List Nat} {w : World} {N : Nat} {ops : Array Oper} {D : World → Prop} {rel : Nat → Option Rel} {takes : Nat → List Nat} {Q : Act → Sig → Prop} {i : Nat} {o : Oper} {rest : List Oper} {a : Act} {σ : Sig}
/-- an operation that takes nothing -/
theorem give_op0 {R : Rel} (d : Nat) (hw : Region.wanted o (yielded ops a.tmps) = true) (hr : rel i = some R) (hd : o.dst = some d) (hs : Nat.blt d a.tmps.size = true) (hi : Nat.ble i N = true) (ht : takes i = [])
    (hin : ∃ v ds, R (o.op.operands.toList.map a.eval) [] v ds)
    (h : ∀ others X, SepF F w X others → wpList P ops (GvQ F w (R (o.op.operands.toList.map a.eval) []) d a.defers others) [o] a X)
    (hnext : ∀ v ds, R (o.op.operands.toList.map a.eval) [] v ds → wpGive P ops (GC F w N) D rel takes Q (i + 1) rest (a.put (some d) v) (sigUpd takes σ i ds)) : wpGive P ops (GC F w N) D rel takes Q i (o :: rest) a σ := by
  have e : (takes i).flatMap σ = [] := by rw [ht]; rfl
  refine give_op d hw hr hd (by simpa [Nat.blt_eq] using hs) (Nat.le_of_ble_eq_true hi) (by rw [ht]; exact List.nodup_nil) (by rw [ht]; intro k hk; cases hk) ?_ ?_ ?_
  · rw [e]; exact hin
  · rw [e]; exact h
  · rw [e]; exact hnext
/-- an operation that takes what operation k gave -/
theorem give_op1 {R : Rel} (d k : Nat) (hw : Region.wanted o (yielded ops a.tmps) = true) (hr : rel i = some R) (hd : o.dst = some d) (hs : Nat.blt d a.tmps.size = true) (hi : Nat.ble i N = true) (ht : takes i = [k]) (hk : Nat.ble k N = true)
    (tk : List Thing) (htk : σ k = tk)
    (hin : ∃ v ds, R (o.op.operands.toList.map a.eval) tk v ds)
    (h : ∀ others X, SepF F w X (tk ++ others) → wpList P ops (GvQ F w (R (o.op.operands.toList.map a.eval) tk) d a.defers others) [o] a X)
    (hnext : ∀ v ds, R (o.op.operands.toList.map a.eval) tk v ds → wpGive P ops (GC F w N) D rel takes Q (i + 1) rest (a.put (some d) v) (sigUpd takes σ i ds)) : wpGive P ops (GC F w N) D rel takes Q i (o :: rest) a σ := by
  have e : (takes i).flatMap σ = tk := by rw [ht, ← htk]; simp
  refine give_op d hw hr hd (by simpa [Nat.blt_eq] using hs) (Nat.le_of_ble_eq_true hi) (by rw [ht]; simp) (by rw [ht]; intro x hx; rw [List.mem_singleton.1 hx]; exact Nat.le_of_ble_eq_true hk) ?_ ?_ ?_
  · rw [e]; exact hin
  · rw [e]; exact h
  · rw [e]; exact hnext
end
theorem sep_eq {F : List Nat} {w0 wr : World} {ts us : List Thing} (h : SepF F w0 wr ts) (e : ts = us) : SepF F w0 wr us := e ▸ h
theorem SepF.startDrew (w : World) : SepF [] w w.drew [] := ⟨Chg.of_below (Below.refl _ _).drew, by simp, by simp, by simp⟩
/-- things of a call behind the things that were there -/
theorem SepF.join {F : List Nat} {w0 wr W : World} {ts us : List Thing} (h : SepF F w0 wr ts) (hS : SepF [] wr W us) : SepF F w0 W (us ++ ts) := by
  have h1 := h.step hS.bel0
  refine ⟨h1.chg, ?_, fun b hb => ?_, fun u hu => ?_⟩
  · rw [List.flatMap_append, List.nodup_append]
    refine ⟨hS.nd, h.nd, fun x hx y hy e => ?_⟩
    subst e
    have h2 := h.lt x hy
    rcases hS.new x hx with h3 | h3
    · cases h3
    · omega
  · rw [List.flatMap_append] at hb
    rcases List.mem_append.1 hb with hb | hb
    · rcases hS.new b hb with h3 | h3
      · cases h3
      · have := h.chg.size; exact .inr (by omega)
    · exact h.new b hb
  · rcases List.mem_append.1 hu with hu | hu
    · exact hS.hold u hu
    · exact h1.hold u hu
/-- what operations give -/
def gSl {α : Type} (E : Rep α) (e : TypeId) (xs : List α) : Rel := fun _ _ v ds => ∃ A n c fp, v = .slice A n c ∧ ds = [tsl E e xs (.slice A n c) fp] ∧ Hid (n = xs.length)
def gPtr (T : TypeId) (cs : List Value) : Rel := fun _ _ v ds => ∃ g, v = .pointer (some ⟨g, 0, none⟩) ∧ ds = [tblk g T cs]
def gEmp (e : TypeId) : Rel := fun _ _ v ds => ∃ g, v = .slice (some ⟨g, 0, none⟩) 0 0 ∧ ds = [tblk g e []]
def gVal (x : Value) : Rel := fun _ _ v ds => v = x ∧ ds = []
theorem gSl_in {α : Type} {E : Rep α} {e : TypeId} {xs : List α} {vals : List Value} {tk : List Thing} : ∃ v ds, gSl E e xs vals tk v ds := ⟨_, _, none, xs.length, 0, [], rfl, rfl, rfl⟩
theorem gPtr_in {T : TypeId} {cs vals : List Value} {tk : List Thing} : ∃ v ds, gPtr T cs vals tk v ds := ⟨_, _, 0, rfl, rfl⟩
theorem gEmp_in {e : TypeId} {vals : List Value} {tk : List Thing} : ∃ v ds, gEmp e vals tk v ds := ⟨_, _, 0, rfl, rfl⟩
theorem gVal_in {x : Value} {vals : List Value} {tk : List Thing} : ∃ v ds, gVal x vals tk v ds := ⟨_, _, rfl, rfl⟩
section
variable {F : List Nat} {w X W : World} {others : List Thing} {vals : List Value} {tk : List Thing} {d : Nat} {df : List Deferred} {a' : Act}
theorem gvq_sl {α : Type} {E : Rep α} {e : TypeId} {xs : List α} {A : Option Addr} {n c : Nat} {fp : List Nat} (h : SepF F w X others) (hb : Below X.heap.size X W) (hs : SlOwn E e W xs (.slice A n c) fp) (hnd : fp.Nodup) (hnew : ∀ b, b ∈ fp → X.heap.size ≤ b)
    (hv : a'.tmps.getD d undef = .slice A n c) (hdf : a'.defers = df) : GvQ F w (gSl E e xs vals tk) d df others .normal a' W := by
  obtain ⟨A', n', c', h1, h2, _⟩ := hs.form
  injection h1 with e1 e2 e3
  exact ⟨rfl, hdf, _, ⟨A, n, c, fp, hv, rfl, e2.trans h2⟩, h.add hb (t := tsl E e xs (.slice A n c) fp) hs hnd hnew⟩
theorem gvq_ptr {T : TypeId} {cs : List Value} {g : Nat} (h : SepF F w X others) (hg : X.heap.size = g) (hv : a'.tmps.getD d undef = .pointer (some ⟨g, 0, none⟩)) (hdf : a'.defers = df) : GvQ F w (gPtr T cs vals tk) d df others .normal a' (X.alloc (.cells cs.toArray T)) :=
  ⟨rfl, hdf, _, ⟨_, hv, rfl⟩, h.alloc' hg T cs⟩
theorem gvq_emp {e : TypeId} {g : Nat} (h : SepF F w X others) (hg : X.heap.size = g) (hv : a'.tmps.getD d undef = .slice (some ⟨g, 0, none⟩) 0 0) (hdf : a'.defers = df) : GvQ F w (gEmp e vals tk) d df others .normal a' (X.alloc (.cells #[] e)) :=
  ⟨rfl, hdf, _, ⟨_, hv, rfl⟩, h.alloc' hg e []⟩
theorem gvq_val {x : Value} (h : SepF F w X others) (hb : Below X.heap.size X W) (hv : a'.tmps.getD d undef = x) (hdf : a'.defers = df) : GvQ F w (gVal x vals tk) d df others .normal a' W :=
  ⟨rfl, hdf, [], ⟨hv, rfl⟩, h.step hb⟩
end
end Mm
end Go.Proofs.Ytnppcdiicnofpaa

/-
  An owned slice whose element k is itself owned: the element is replaced by one that leads elsewhere; an element that is a slice grows by append. No program in sight. No conditions.
-/
namespace Go.Proofs.Ytnppcdiicnofpaa
open Go.RowKit
namespace Mm
section
variable {α : Type} {E : Rep α} {e : TypeId} {w : World} {xs : List α} {fp : List Nat}
theorem SlOwn.repl {g n c : Nat} (h : SlOwn E e w xs (.slice (some ⟨g, 0, none⟩) n c) fp) (hnd : fp.Nodup) (hE : E.size = 1) {i : Nat} {x : α} (hi : xs[i]? = some x) :
    ∃ cs fx, E.own w x cs fx ∧ fx.Nodup ∧ (∀ b, b ∈ fx → b ∈ fp ∧ b ≠ g) ∧ (∀ j u, cs[j]? = some u → w.cell? ⟨g, i + j, none⟩ = some u) ∧
      ∀ W x' u' fx', Chg fx w W → E.own (W.setCell ⟨g, i, none⟩ u') x' [u'] fx' → fx'.Nodup → (∀ b, b ∈ fx' → b ∈ fx ∨ w.heap.size ≤ b) →
        ∃ fp', SlOwn E e (W.setCell ⟨g, i, none⟩ u') (xs.set i x') (.slice (some ⟨g, 0, none⟩) n c) fp' ∧ fp'.Nodup ∧ ∀ b, b ∈ fp' → b ∈ fp ∨ w.heap.size ≤ b := by
  obtain ⟨es, he, ho, rfl⟩ := h
  have hn : n = xs.length := by
    rcases ho.2 with ⟨h, _⟩ | ⟨g', cap, cur, h, _⟩
    · cases h
    · injection h
  subst hn
  have hil : i < xs.length := (List.getElem?_eq_some_iff.1 hi).1
  have hie : i < es.length := by rw [he.1]; exact hil
  have hy := List.getElem?_eq_getElem hie
  have hown := he.2 i x _ hi hy
  simp only [Value.ownBlock, Option.toList_some, List.singleton_append, List.nodup_cons] at hnd
  have hgn : ∀ y ∈ es, g ∉ y.2 := fun y hy hg => hnd.1 (List.mem_flatMap.2 ⟨y, hy, hg⟩)
  have e1 : es = es.take i ++ es[i] :: es.drop (i + 1) := by rw [← List.drop_eq_getElem_cons hie, List.take_append_drop]
  have hd := hnd.2
  rw [e1] at hd
  simp only [List.flatMap_append, List.flatMap_cons, List.nodup_append] at hd
  have hmem : ∀ b, b ∈ es[i].2 → b ∈ es.flatMap (·.2) := fun b hb => List.mem_flatMap.2 ⟨_, List.getElem_mem hie, hb⟩
  have hlt : g < w.heap.size := (ho.lt g (by simp [Value.ownBlock])).2
  have holt : ∀ b, b ∈ es.flatMap (·.2) → b < w.heap.size := fun b hb => by
    obtain ⟨y, hy, hb⟩ := List.mem_flatMap.1 hb
    obtain ⟨k, hk, rfl⟩ := List.mem_iff_getElem.1 hy
    exact E.olt (he.2 k _ _ (List.getElem?_eq_getElem (show k < xs.length by rw [← he.1]; exact hk)) (List.getElem?_eq_getElem hk)) b hb
  refine ⟨es[i].1, es[i].2, hown, hd.2.1.1, fun b hb => ⟨List.mem_append_right _ (hmem b hb), fun e => hgn _ (List.getElem_mem hie) (e ▸ hb)⟩, fun j u hu => ?_, fun W x' u' fx' hc hx' hxn hxs => ?_⟩
  · have := ho.cells (g := g) rfl (i * E.size + j) u (flatMap_get (·.1) E.size es he.len i _ j u hy hu)
    rw [add0, hE, Nat.mul_one] at this
    exact this
  · have m1 : ∀ y, y ∈ es.take i → ∀ b, b ∈ y.2 → b ∉ es[i].2 := fun y hy b hb hm => hd.2.2 b (List.mem_flatMap.2 ⟨y, hy, hb⟩) b (List.mem_append_left _ hm) rfl
    have m2 : ∀ y, y ∈ es.drop (i + 1) → ∀ b, b ∈ y.2 → b ∉ es[i].2 := fun y hy b hb hm => hd.2.1.2.2 b hm b (List.mem_flatMap.2 ⟨y, hy, hb⟩) rfl
    have e2 : es.set i ([u'], fx') = es.take i ++ ([u'], fx') :: es.drop (i + 1) := List.set_eq_take_append_cons_drop.trans (by rw [if_pos hie])
    have hsub : ∀ b, b ∈ (es.set i ([u'], fx')).flatMap (·.2) → b ∈ es.flatMap (·.2) ∨ w.heap.size ≤ b := by
      intro b hb
      obtain ⟨y, hy, hb⟩ := List.mem_flatMap.1 hb
      rcases List.mem_or_eq_of_mem_set hy with h | rfl
      · exact .inl (List.mem_flatMap.2 ⟨y, h, hb⟩)
      · rcases hxs b hb with h | h
        · exact .inl (hmem b h)
        · exact .inr h
    have hoW : W.ownsRow 0 e E.size (.slice (some ⟨g, 0, none⟩) xs.length c) xs.length (es.flatMap (·.1)) := by
      refine ⟨ho.1, ?_⟩
      rcases ho.2 with h | ⟨g', cap, cur, hv, h1, h2, h3⟩
      · exact .inl h
      · injection hv with hA _ hcap
        subst hcap
        injection hA with hA
        injection hA with hA
        subst hA
        exact .inr ⟨g, _, cur, rfl, h1, (hc.block g hlt (hgn _ (List.getElem_mem hie))).trans h2, h3⟩
    refine ⟨_, ⟨es.set i ([u'], fx'), ⟨by rw [List.length_set, List.length_set, he.1], fun k y z hy hz => ?_⟩, ?_, rfl⟩, ?_, ?_⟩
    · by_cases hki : i = k
      · subst hki
        rw [List.getElem?_set_self hie] at hz
        rw [List.getElem?_set_self hil] at hy
        injection hy with hy; injection hz with hz
        subst hy; subst hz
        exact hx'
      · rw [List.getElem?_set_ne hki] at hz hy
        have hk := he.2 k y z hy hz
        refine E.okeep hk fun b hb => (Below.heap_setCell _ _ _ _ (show b ≠ g from fun e => hgn z (List.mem_of_getElem? hz) (e ▸ hb))).trans (hc.block b (E.olt hk b hb) ?_)
        have hkl : k < es.length := (List.getElem?_eq_some_iff.1 hz).1
        rcases Nat.lt_or_gt_of_ne hki with h | h
        · refine m2 z (List.mem_of_getElem? (i := k - (i + 1)) ?_) b hb
          rw [List.getElem?_drop, show i + 1 + (k - (i + 1)) = k by omega]
          exact hz
        · refine m1 z (List.mem_of_getElem? (i := k) ?_) b hb
          rw [List.getElem?_take, if_pos h]
          exact hz
    · rw [List.length_set]
      have h1 := (hoW.stored i u').1
      have hll := setList_elems E.size es i [u'] fx' he.len (by rw [hE]; rfl) hie
      have h2 : setList (es.flatMap (·.1)) (i * E.size) [u'] = (es.flatMap (·.1)).set i u' := by rw [hE, Nat.mul_one]; rfl
      rw [← hll, h2]
      rw [hE] at h1 ⊢
      exact h1
    · simp only [Value.ownBlock, Option.toList_some, List.singleton_append, List.nodup_cons]
      refine ⟨fun hg => ?_, ?_⟩
      · rcases hsub g hg with h | h
        · exact hnd.1 h
        · omega
      rw [e2]
      simp only [List.flatMap_append, List.flatMap_cons, List.nodup_append]
      refine ⟨hd.1, ⟨hxn, hd.2.1.2.1, fun a ha b hb hab => ?_⟩, fun a ha b hb hab => ?_⟩
      · rcases hxs a ha with h | h
        · exact hd.2.1.2.2 a h b hb hab
        · subst hab
          have := holt a (by rw [e1]; simp only [List.flatMap_append, List.flatMap_cons]; exact List.mem_append_right _ (List.mem_append_right _ hb))
          omega
      · subst hab
        rcases List.mem_append.1 hb with hb | hb
        · rcases hxs a hb with h | h
          · exact hd.2.2 a ha a (List.mem_append_left _ h) rfl
          · have := holt a (by rw [e1]; simp only [List.flatMap_append]; exact List.mem_append_left _ ha)
            omega
        · exact hd.2.2 a ha a (List.mem_append_right _ hb) rfl
    · intro b hb
      rcases List.mem_append.1 hb with h | h
      · exact .inl (List.mem_append_left _ h)
      · rcases hsub b h with h | h
        · exact .inl (List.mem_append_right _ h)
        · exact .inr h
end
theorem cell_heq {w w' : World} {g : Nat} (h : w'.heap[g]? = w.heap[g]?) (i : Nat) : w'.cell? ⟨g, i, none⟩ = w.cell? ⟨g, i, none⟩ := by simp [World.cell?, h]
theorem frz_heq {w w' : World} {g : Nat} (h : w'.heap[g]? = w.heap[g]?) (i : Nat) : w'.frozen? ⟨g, i, none⟩ = w.frozen? ⟨g, i, none⟩ := by simp [World.frozen?, h]
/-- the inner slice of element k, alone: when it has become another, its header is stored in its place -/
theorem SepF.openIn {β : Type} {E1 : Rep β} {e1 e2 : TypeId} {F : List Nat} {w0 wr : World} {ts : List Thing} {xss : List (List β)} {ys : List β} {fp : List Nat} {g n c k : Nat}
    (h : SepF F w0 wr ts) (i : Nat) (hi : ts[i]? = some (tsl (slice E1 e1) e2 xss (.slice (some ⟨g, 0, none⟩) n c) fp)) (hk : xss[k]? = some ys) :
    ∃ A m d fx, wr.cell? ⟨g, k, none⟩ = some (.slice A m d) ∧ m = ys.length ∧ SlOwn E1 e1 wr ys (.slice A m d) fx ∧ fx.Nodup ∧ g ∉ fx ∧ (∀ (j : Nat) u, j ≠ i → ts[j]? = some u → ∀ b, b ∈ u.fp → b ∉ fx) ∧ (∀ b, b ∈ fx → b ∈ fp) ∧
      ∀ W ys' A' m' d' fx', SepF fx wr W [tsl E1 e1 ys' (.slice A' m' d') fx'] →
        W.cell? ⟨g, k, none⟩ = some (.slice A m d) ∧ W.frozen? ⟨g, k, none⟩ = false ∧ (∀ (j : Nat) u, j ≠ i → ts[j]? = some u → u.holds W) ∧
        ∃ fp', SepF F w0 (W.setCell ⟨g, k, none⟩ (.slice A' m' d')) (ts.set i (tsl (slice E1 e1) e2 (xss.set k ys') (.slice (some ⟨g, 0, none⟩) n c) fp')) := by
  have ho : SlOwn (slice E1 e1) e2 wr xss (.slice (some ⟨g, 0, none⟩) n c) fp := h.at_ i hi
  have hg2 : g ∈ fp := ho.mem_block
  have hglt : g < wr.heap.size := ho.olt g hg2
  obtain ⟨cs, fx, k1, k2, k3, k4, k5⟩ := ho.repl (h.ndat hi) rfl hk
  obtain ⟨v, rfl, hv⟩ := k1
  obtain ⟨A, m, d, rfl, hm, hmc, _⟩ := hv.form
  have hc := k4 0 _ rfl
  have hgx : g ∉ fx := fun hh => (k3 g hh).2 rfl
  refine ⟨A, m, d, fx, hc, hm, hv, k2, hgx, fun j u hji hj b hb hm => h.apart hj hi hji b hb (k3 b hm).1, fun b hb => (k3 b hb).1, fun W ys' A' m' d' fx' hS => ?_⟩
  have hchg : Chg fx wr W := hS.chg
  have m1 : SlOwn E1 e1 W ys' (.slice A' m' d') fx' := hS.sl 0 rfl
  have hgq : ∀ b, b ∈ fx' → b ∈ fx ∨ wr.heap.size ≤ b := fun b hb => hS.new b (by simpa [tsl] using hb)
  have hgnq : g ∉ fx' := fun hh => by
    rcases hgq g hh with h | h
    · exact hgx h
    · omega
  have hown : (slice E1 e1).own (W.setCell ⟨g, k, none⟩ (.slice A' m' d')) ys' [.slice A' m' d'] fx' :=
    ⟨_, rfl, m1.okeep fun b hb => Below.heap_setCell _ _ _ _ (show b ≠ g from fun e => hgnq (e ▸ hb))⟩
  obtain ⟨fp', q1, q2, q3⟩ := k5 W ys' _ fx' hchg hown (by simpa [tsl] using hS.nd) hgq
  refine ⟨?_, ?_, fun j u hji hj => ?_, fp', ?_⟩
  · rw [cell_heq (hchg.block g hglt hgx)]
    exact hc
  · rw [frz_heq (hchg.block g hglt hgx)]
    exact ho.frozen k
  · exact u.keep (h.at_ j hj) fun b hb => hchg.block b (u.lt (h.at_ j hj) b hb) (fun hm => h.apart hj hi hji b hb (k3 b hm).1)
  · exact h.upd hi ((hchg.more fun b hb => (k3 b hb).1).setCell hg2 _) q1 q2 q3
end Mm
end Go.Proofs.Ytnppcdiicnofpaa

/-
  Regions that draw their order and append to a slice that is owned: the plan's law on append, and the class of the worlds in which only certain blocks have turned. No program in sight. No conditions.
-/
namespace Go.Proofs.Ytnppcdiicnofpaa
open Go.RowKit
/-- a world in which only blocks of F have turned -/
structure Cha (F : List Nat) (w : World) where
  X : World
  h : Mm.Chg F w X
def cha (F : List Nat) (w : World) (x : Cha F w) : World := x.X
instance (F : List Nat) (w : World) : Nonempty (Cha F w) := ⟨⟨w, Mm.Chg.refl _ _⟩⟩
theorem cha_cell {F : List Nat} {w : World} (x : Cha F w) (a : Addr) (hn : a.block ∉ F) (h : (w.cell? a).isSome = true) : (cha F w x).cell? a = w.cell? a := by
  obtain ⟨u, hu⟩ := Option.isSome_iff_exists.1 h
  exact World.cell?_of_block (x.h.block a.block (World.block_lt_of_cell? w a hu) hn)
namespace Mm
theorem SepF.atW {F : List Nat} {w0 wr W : World} {ts : List Thing} (h : SepF F w0 wr ts) (e : wr = W) : SepF F w0 W ts := e ▸ h
theorem SepF.rot3 {F : List Nat} {w0 wr : World} {ts : List Thing} {a b c : Thing} (h : SepF F w0 wr (a :: b :: c :: ts)) : SepF F w0 wr (ts ++ [a, b, c]) := h.permE (List.perm_append_comm (l₁ := ts) (l₂ := [a, b, c]))
theorem sep_cha {F : List Nat} {w X : World} {us : List Thing} (h : SepF F w X us) : ∃ x : Cha F w, X = cha F w x := ⟨⟨X, h.chg⟩, rfl⟩
section
variable {P : Program} {F : List Nat} {w X : World} {ops : Array Oper} {o : Oper} {a : Act} {others tk : List Thing} {vals : List Value}
/-- append of one element to a slice that is owned -/
theorem app_gvq {α : Type} {E : Rep α} {e : TypeId} {xs : List α} {x : α} {cx : List Value} {v : Value} {fp : List Nat} {gb : Nat} (hgd : o.guard = none) (s y : Operand) (t : TypeId)
    (ho : o.op = .call { callee := .builtin .append, args := #[s, y], argTypes := #[t, t] }) (d : Nat) (hd : o.dst = some d) (hs : Nat.blt d a.tmps.size = true) (i : TypeInfo) (z : Value) (bytes : Nat)
    (ht : P.underlying t = some (.slice e)) (hi : P.info? e = some i) (hz : i.zero = some z) (hsize : i.size = E.size) (hby : i.bytes = bytes) (hzs : z.cells.size = E.size) (h0 : 0 < E.size)
    (hsv : a.eval s = v) (hyv : a.eval y = .slice (some ⟨gb, 0, none⟩) 1 1) (hx : ∀ W, E.own W x cx []) (h63 : xs.length + 1 ≤ maxLen) (hbytes : (xs.length + 1) * bytes ≤ 140737488355328)
    (hS : SepF F w X ([tblk gb e cx, tsl E e xs v fp] ++ others)) : wpList P ops (GvQ F w (gSl E e (xs ++ [x]) vals tk) d a.defers others) [o] a X := by
  obtain ⟨l0, ho1, hnext⟩ := hS.push0 1 rfl (Below.refl _ _) (x := x) (hx _)
  have hb : Blk X gb e cx := hS.at_ 0 rfl
  unfold wpList
  rw [if_pos (by simp [Region.wanted, hgd])]
  refine .inl (wp_append_lies _ s y t ho 0 e i z E.size bytes ht hi hz hsize hby hzs h0 v xs.length l0 hsv ho1 ⟨gb, 0, none⟩ 1 1 cx hyv (by rw [Nat.one_mul]; exact E.olen (hx X)) ?_ (E.one (hx X)) (by omega) h63 hbytes (Nat.zero_le _) _ rfl ?_)
  · have h1 := World.news_of_block hb
    simpa using h1
  · intro gg cap w4 hown1 hgrow hat hlt
    obtain ⟨fp', hs4⟩ := hnext gg cap w4 hown1 hgrow hat
    have e1 : ((a.put o.dst (.slice (some ⟨gg, 0, none⟩) (xs.length + 1) cap)).tmps.getD d undef) = .slice (some ⟨gg, 0, none⟩) (xs.length + 1) cap := by
      rw [hd]; exact put_get (by simpa [Nat.blt_eq] using hs) _
    exact ⟨rfl, by rw [hd]; rfl, _, ⟨some ⟨gg, 0, none⟩, xs.length + 1, cap, fp', e1, rfl, by show _ = _; simp⟩, hs4.tail⟩
/-- the block of the elements that are to be appended -/
def gBs (e : TypeId) (cx : List Value) : Rel := fun _ _ v ds => ∃ g, v = .slice (some ⟨g, 0, none⟩) 1 1 ∧ ds = [tblk g e cx]
theorem gBs_in {e : TypeId} {cx : List Value} {vals : List Value} {tk : List Thing} : ∃ v ds, gBs e cx vals tk v ds := ⟨_, _, 0, rfl, rfl⟩
theorem gvq_bs {e : TypeId} {cx : List Value} {g d : Nat} {df : List Deferred} {a' : Act} (h : SepF F w X others) (hg : X.heap.size = g) (hv : a'.tmps.getD d undef = .slice (some ⟨g, 0, none⟩) 1 1) (hdf : a'.defers = df) : GvQ F w (gBs e cx vals tk) d df others .normal a' (X.alloc (.cells cx.toArray e)) :=
  ⟨rfl, hdf, _, ⟨_, hv, rfl⟩, h.alloc' hg e cx⟩
end
section
variable {P : Program} {F : List Nat} {w : World} {N : Nat} {ops : Array Oper} {D : World → Prop} {rel : Nat → Option Rel} {takes : Nat → List Nat} {Q : Act → Sig → Prop} {i : Nat} {o : Oper} {rest : List Oper} {a : Act} {σ : Sig}
/-- an operation that takes what operations j and k gave -/
theorem give_op2 {R : Rel} (d j k : Nat) (hw : Region.wanted o (yielded ops a.tmps) = true) (hr : rel i = some R) (hd : o.dst = some d) (hs : Nat.blt d a.tmps.size = true) (hi : Nat.ble i N = true) (ht : takes i = [j, k]) (hjk : (j == k) = false) (hj : Nat.ble j N = true) (hk : Nat.ble k N = true)
    (tj tk : List Thing) (htj : σ j = tj) (htk : σ k = tk)
    (hin : ∃ v ds, R (o.op.operands.toList.map a.eval) (tj ++ tk) v ds)
    (h : ∀ others X, SepF F w X ((tj ++ tk) ++ others) → wpList P ops (GvQ F w (R (o.op.operands.toList.map a.eval) (tj ++ tk)) d a.defers others) [o] a X)
    (hnext : ∀ v ds, R (o.op.operands.toList.map a.eval) (tj ++ tk) v ds → wpGive P ops (GC F w N) D rel takes Q (i + 1) rest (a.put (some d) v) (sigUpd takes σ i ds)) : wpGive P ops (GC F w N) D rel takes Q i (o :: rest) a σ := by
  have e : (takes i).flatMap σ = tj ++ tk := by rw [ht, ← htj, ← htk]; simp
  refine give_op d hw hr hd (by simpa [Nat.blt_eq] using hs) (Nat.le_of_ble_eq_true hi) (by rw [ht]; exact List.nodup_cons.2 ⟨fun h => by rw [List.mem_singleton.1 h] at hjk; simp at hjk, by simp⟩) (by
      rw [ht]; intro x hx
      rcases List.mem_cons.1 hx with rfl | hx
      · exact Nat.le_of_ble_eq_true hj
      · rw [List.mem_singleton.1 hx]; exact Nat.le_of_ble_eq_true hk) ?_ ?_ ?_
  · rw [e]; exact hin
  · rw [e]; exact h
  · rw [e]; exact hnext
end
/-- append of one element, its block just laid, in a region in the order of the text -/
theorem app_list {P : Program} {F : List Nat} {w0 wr : World} {ts : List Thing} {ops : Array Oper} {rest : List Oper} {o : Oper} {a : Act} {Q : Exit → Act → World → Prop} {α : Type} {E : Rep α} {e : TypeId} {xs : List α} {x : α} {cx : List Value} {v : Value} {fp : List Nat} {m : Nat}
    (hS : SepF F w0 wr ts) (k : Nat) (hk : ts[k]? = some (tsl E e xs v fp)) (hgd : o.guard = none) (s y : Operand) (t : TypeId)
    (ho : o.op = .call { callee := .builtin .append, args := #[s, y], argTypes := #[t, t] }) (i : TypeInfo) (z : Value) (bytes : Nat)
    (ht : P.underlying t = some (.slice e)) (hi : P.info? e = some i) (hz : i.zero = some z) (hsize : i.size = E.size) (hby : i.bytes = bytes) (hzs : z.cells.size = E.size) (h0 : 0 < E.size)
    (hsv : a.eval s = v) (hyv : a.eval y = .slice (some ⟨wr.heap.size, 0, none⟩) 1 1) (hx : ∀ W, E.own W x cx []) (hm : xs.length = m) (h63 : m + 1 ≤ maxLen) (hbytes : (m + 1) * bytes ≤ 140737488355328)
    (h : ∀ g cap w' fp', SepF F w0 w' (ts.set k (tsl E e (xs ++ [x]) (.slice (some ⟨g, 0, none⟩) (m + 1) cap) fp')) → wpList P ops Q rest (a.put o.dst (.slice (some ⟨g, 0, none⟩) (m + 1) cap)) w') :
    wpList P ops Q (o :: rest) a (wr.alloc (.cells cx.toArray e)) := by
  subst hm
  obtain ⟨l0, ho1, hnext⟩ := hS.push0 k hk (W2 := wr.alloc (.cells cx.toArray e)) (below_new (Below.refl _ _) _) (x := x) (hx _)
  have hb : Blk (wr.alloc (.cells cx.toArray e)) wr.heap.size e cx := Blk.new _ _ _
  refine wpList_append_lies _ hgd s y t ho 0 e i z E.size bytes ht hi hz hsize hby hzs h0 v xs.length l0 hsv ho1 ⟨wr.heap.size, 0, none⟩ 1 1 cx hyv (by rw [Nat.one_mul]; exact E.olen (hx wr)) ?_ (E.one (hx wr)) (by omega) h63 hbytes (Nat.zero_le _) _ rfl ?_
  · have h1 := World.news_of_block hb
    simpa using h1
  · intro gg cap w4 hown1 hgrow hat hlt
    obtain ⟨fp', hs4⟩ := hnext gg cap w4 hown1 hgrow hat
    exact h gg cap w4 fp' hs4
end Mm
end Go.Proofs.Ytnppcdiicnofpaa

/-
  Regions that draw their order and give: a store among the operations of the plan (it yields no value; the block that it stores into is taken and given back). No program in sight. No conditions.
-/
namespace Go.Proofs.Ytnppcdiicnofpaa
open Go.RowKit
namespace Mm
section
variable {P : Program} {F : List Nat} {w : World} {N : Nat} {ops : Array Oper} {D : World → Prop} {rel : Nat → Option Rel} {takes : Nat → List Nat} {Q : Act → Sig → Prop} {i : Nat} {o : Oper} {rest : List Oper} {a : Act} {σ : Sig}
def GvQn (F : List Nat) (w : World) (r : List Thing → Prop) (df : List Deferred) (rest : List Thing) (x : Exit) (a' : Act) (w' : World) : Prop :=
  x = .normal ∧ a'.defers = df ∧ ∃ ds, r ds ∧ SepF F w w' (ds ++ rest)
theorem gvalid_none {r : Value → List Thing → Prop} {r' : List Thing → Prop} (hr : ∀ u ds, r' ds → r u ds) (hd : o.dst = none) (hw : Region.wanted o (yielded ops a.tmps) = true) (hi : i ≤ N) (hn : (takes i).Nodup) (hk : ∀ k ∈ takes i, k ≤ N)
    (h : ∀ others X, SepF F w X ((takes i).flatMap σ ++ others) → wpList P ops (GvQn F w r' a.defers others) [o] a X) : GValid P (GC F w N) takes i o a σ r := by
  intro σ' X hC hag
  have e4 : (takes i).flatMap σ' = (takes i).flatMap σ := by
    rw [List.flatMap_def, List.flatMap_def]; exact congrArg List.flatten (List.map_congr_left hag)
  have h0 : SepF F w X (sigAll N σ') := hC
  have h1 := h0.sigTake hn hk
  rw [e4] at h1
  have h2 := h _ X h1
  have fin : ∀ u w', GvQn F w r' a.defers (sigAll N (sigUpd takes σ' i [])) .normal (a.put o.dst u) w' → ∃ ds, r u ds ∧ GC F w N (sigUpd takes σ' i ds) w' := fun u w' ⟨_, _, ds, h3, h4⟩ =>
    ⟨ds, hr u ds h3, h4.permE (sigAll_upd hi)⟩
  unfold wpList at h2
  rw [if_pos hw] at h2
  have h3 : o.wp P a X (fun a' w' => GvQn F w r' a.defers (sigAll N (sigUpd takes σ' i [])) .normal a' w') (GvQn F w r' a.defers (sigAll N (sigUpd takes σ' i []))) := by
    first
      | exact h2
      | exact h2.elim id fun h => by obtain ⟨_, a', w', h, _⟩ := h; cases h
  unfold Oper.wp at h3
  generalize (execOp a.eval o).run P X = R at *
  cases R with
  | ok n w' =>
    cases n <;> simp only [Oper.upon] at h3 <;> simp only [ups] <;> first | exact fin _ _ h3 | skip
    · refine h3.mono fun e w'' he => ?_
      cases e with
      | returned v => exact ⟨v, rfl, fin _ _ he⟩
      | panicked c => exact absurd he.1 (by simp)
      | outgrown => obtain ⟨a', w', h, _⟩ := he; cases h
    · have := h3.2.1
      rw [hd] at this
      exact absurd this (by simp [Act.put])
    · exact Rows.mono h3 fun v w'' he => fin _ _ he
  | halt x w' => cases x <;> simp only [Oper.upon] at h3; exact absurd h3.1 (by simp)
/-- what a store of a struct gives: the block, written anew -/
def gSto (T : TypeId) : Rel := fun vals _ _ ds => ∃ g cs, vals = [.pointer (some ⟨g, 0, none⟩), .agg cs.toArray] ∧ ds = [tblk g T cs]
/-- a store into the block that operation k gave -/
theorem give_store (T : TypeId) (g : Nat) (cs0 cs : List Value) (k : Nat) (hw : Region.wanted o (yielded ops a.tmps) = true) (hr : rel i = some (gSto T)) (hd : o.dst = none) (hi : Nat.ble i N = true) (ht : takes i = [k]) (hk : Nat.ble k N = true)
    (htk : σ k = [tblk g T cs0]) (hv : o.op.operands.toList.map a.eval = [.pointer (some ⟨g, 0, none⟩), .agg cs.toArray])
    (h : ∀ others X, SepF F w X (tblk g T cs0 :: others) → wpList P ops (GvQn F w (fun ds => ds = [tblk g T cs]) a.defers others) [o] a X)
    (hnext : wpGive P ops (GC F w N) D rel takes Q (i + 1) rest a (sigUpd takes σ i [tblk g T cs])) : wpGive P ops (GC F w N) D rel takes Q i (o :: rest) a σ := by
  have e : (takes i).flatMap σ = [tblk g T cs0] := by rw [ht, ← htk]; simp
  refine give_rel hw hr (gvalid_none (r' := fun ds => ds = [tblk g T cs]) (fun u ds h => ?_) hd hw (Nat.le_of_ble_eq_true hi) (by rw [ht]; simp) (by rw [ht]; intro x hx; rw [List.mem_singleton.1 hx]; exact Nat.le_of_ble_eq_true hk) ?_) ?_ ?_
  · exact ⟨g, cs, hv, h⟩
  · rw [e]; exact h
  · exact ⟨undef, _, g, cs, hv, rfl⟩
  · rintro v ds ⟨g', cs', hv', rfl⟩
    have h1 := hv.symm.trans hv'
    injection h1 with h2 h3
    injection h3 with h4 _
    injection h2 with h5
    injection h5 with h6
    injection h6 with h7
    injection h4 with h8
    have h9 : cs = cs' := by simpa using congrArg Array.toList h8
    subst h7 h9
    rw [hd]
    exact hnext
end
end Mm
end Go.Proofs.Ytnppcdiicnofpaa

/-
  Contracts: the comparison by value that TopOf hands to the sort; exchange of two pieces, rotation, insertion sort (slices) at ints. No conditions beyond those named.
-/
namespace Go.Proofs.Ytnppcdiicnofpaa
open Go.RowKit
attribute [local go_sem] und_cell World.cell?_alloc_some
/-- the value of number x -/
def Pl.valAt (vs : List Int) (x : Int) : Int := (vs[x.toNat]?).getD 0
theorem Pl.valAt_of {vs : List Int} {x u : Int} (h : vs[x.toNat]? = some u) : Pl.valAt vs x = u := by unfold Pl.valAt; rw [h]; rfl
/-- all numbers name a value -/
def Pl.NumIn (d : List Int) (n : Nat) : Prop := ∀ (i : Nat) (x : Int), d[i]? = some x → 0 ≤ x ∧ x < n
theorem Pl.NumIn.perm {d e : List Int} {n : Nat} (h : Pl.NumIn d n) (hp : e.Perm d) : Pl.NumIn e n := fun i x hx => by
  obtain ⟨j, hj⟩ := List.mem_iff_getElem?.1 (hp.mem_iff.1 (List.mem_of_getElem? hx))
  exact h j x hj
/-- what the comparison captures: the values, in a variable of its own -/
structure CapV (vs : List Int) (A : Option Addr) (n c gn B : Nat) (w : World) : Prop where
  cell : w.cell? ⟨gn, 0, none⟩ = some (.slice A n c)
  sl : Mm.SlAt Mm.int w B vs A n c
  lt : gn < w.heap.size
  le : B ≤ w.heap.size
  bd : ∀ (j : Nat) (u : Int), vs[j]? = some u → -1000000000 ≤ u ∧ u ≤ 1000000000
theorem CapV.bel {vs : List Int} {A : Option Addr} {n c gn B : Nat} {w w' : World} (h : CapV vs A n c gn B w) (hb : Below w.heap.size w w') : CapV vs A n c gn B w' :=
  ⟨below_some hb h.cell, h.sl.keep fun b hb' => hb.block b (Nat.lt_of_lt_of_le hb' h.le), Nat.lt_of_lt_of_le h.lt hb.size, Nat.le_trans h.le hb.size, h.bd⟩
theorem CapV.chg {vs : List Int} {A : Option Addr} {n c gn B : Nat} {w w' : World} {fp : List Nat} (h : CapV vs A n c gn B w) (hc : Mm.Chg fp w w') (h1 : gn ∉ fp) (h2 : ∀ b, b ∈ fp → B ≤ b) : CapV vs A n c gn B w' :=
  ⟨(World.cell?_of_block (hc.block gn h.lt h1)).trans h.cell, h.sl.keep fun b hb => hc.block b (Nat.lt_of_lt_of_le hb h.le) (fun hm => by have := h2 b hm; omega), Nat.lt_of_lt_of_le h.lt hc.size, Nat.le_trans h.le hc.size, h.bd⟩
theorem int_inv {w : World} {e : TypeId} {xs : List Int} {v : Value} {fp : List Nat} (h : Mm.SlOwn Mm.int e w xs v fp) {k : Nat} {m : Int} (hk : xs[k]? = some m) : Mm.I64 m := by
  obtain ⟨es, he, -, -⟩ := h
  have hl := (List.getElem?_eq_some_iff.1 hk).1
  obtain ⟨_, h2, _⟩ := he.2 k _ _ hk (List.getElem?_eq_getElem (show k < es.length by rw [he.1]; exact hl))
  exact h2
/-- two elements of an owned list exchanged -/
theorem Mm.SepF.swpI {F : List Nat} {w0 wr : World} {ts : List Mm.Thing} {e : TypeId} {xs : List Int} {g n c k j : Nat} {x y : Int} {fp : List Nat} (h : Mm.SepF F w0 wr ts) (i : Nat) (hi : ts[i]? = some (Mm.tsl Mm.int e xs (.slice (some ⟨g, 0, none⟩) n c) fp)) (hk : xs[k]? = some x) (hj : xs[j]? = some y) :
    Mm.SepF F w0 ((wr.setCell ⟨g, k, none⟩ (.int .i64 y)).setCell ⟨g, j, none⟩ (.int .i64 x)) (ts.set i (Mm.tsl Mm.int e (Pl.swp xs k j x y) (.slice (some ⟨g, 0, none⟩) n c) fp)) := by
  have ix := int_inv (h.sl i hi) hk
  have iy := int_inv (h.sl i hi) hj
  have h1 := h.put1 (x' := y) (u := .int .i64 y) i hi rfl hk (fun cs fx ho => by obtain ⟨_, _, rfl⟩ := ho; exact ⟨rfl, iy, rfl⟩)
  have hjl : j < (xs.set k y).length := by rw [List.length_set]; exact (List.getElem?_eq_some_iff.1 hj).1
  have hlt : i < ts.length := (List.getElem?_eq_some_iff.1 hi).1
  have h2 := h1.put1 (x' := x) (u := .int .i64 x) i (List.getElem?_set_self hlt) rfl (List.getElem?_eq_getElem hjl) (fun cs fx ho => by obtain ⟨_, _, rfl⟩ := ho; exact ⟨rfl, ix, rfl⟩)
  rwa [List.set_set] at h2
set_option maxRecDepth 100000 in
theorem closV_c (vs : List Int) (A : Option Addr) (n c gn B : Nat) (x y : Int) (w : World) (h : CapV vs A n c gn B w) (hx : 0 ≤ x ∧ x < n) (hy : 0 ≤ y ∧ y < n) :
    Calls Try.prog 57 #[.int .i64 x, .int .i64 y, .pointer (some ⟨gn, 0, none⟩)] w fun e w' => e = .returned (.int .i64 (Pl.valAt vs y - Pl.valAt vs x)) ∧ Below w.heap.size w w' := by
  obtain ⟨u, b, off, hu, rfl, hb, iu, e0⟩ := int_get h.sl (show x.toNat < n by omega)
  obtain ⟨v, hv, _, iv, e1⟩ := int_get' h.sl (show y.toNat < n by omega)
  rw [Pl.valAt_of hu, Pl.valAt_of hv]
  have h1 := h.bd _ _ hu
  have h2 := h.bd _ _ hv
  have hc := h.cell
  have f1 := hx.1
  have f2 := hx.2
  have f3 := hy.1
  have f4 := hy.2
  have f5 : IntKind.i64.wrap (v - u) = v - u := IntWalk.i64_in _ (by omega)
  clear h hu hv iu iv hb hx hy
  go_enter Try.func57, Try.ntmps57
  go_wp2
  refine wp_region_und (by kernel_rfl) (by kernel_rfl) ?_
  repeat (go_big_quiet_step ((first | fail)))
  refine wpQuiet_nil ?_
  intro X hX
  go_wp2
  go_ret
  exact ⟨rfl, hX⟩
set_option maxRecDepth 100000 in
set_option maxHeartbeats 1000000 in
theorem swapR_c (d : List Int) (A : Option Addr) (n c : Nat) (fp : List Nat) (a b k : Nat) (V : Value) (w : World) (hs : Mm.SlOwn Mm.int 3 w d (.slice A n c) fp) (hnd : fp.Nodup) (hn : n ≤ 1000) (h1 : a + k ≤ b) (h2 : b + k ≤ n) :
    Calls Try.prog 120 #[.slice A n c, .int .i64 a, .int .i64 b, .int .i64 k, V] w fun e w' => e = .returned (.tuple #[]) ∧ ∃ d', Pl.SwAt d d' a b k k ∧ Mm.SepF fp w w' [Mm.tsl Mm.int 3 d' (.slice A n c) fp] := by
  have HS0 : Hid (Mm.SepF fp w w [Mm.tsl Mm.int 3 d (.slice A n c) fp]) := Mm.SepF.one (Mm.tsl Mm.int 3 d (.slice A n c) fp) w hs hnd
  have HLN : Hid (d.length = n) := by obtain ⟨_, _, _, hv, q1, _⟩ := hs.form; injection hv with _ q2 _; exact (q2.trans q1).symm
  clear hs hnd
  go_enter Try.func120, Try.ntmps120
  go_wp2
  go_loopg [10] k (fun gg s wr => ∃ (i : Nat) (ys : List Int), k - i ≤ gg ∧ i ≤ k ∧ s = .int .i64 i ∧ Hid (Pl.SwAt d ys a b k i) ∧ Hid (Mm.SepF fp w wr [Mm.tsl Mm.int 3 ys (.slice A n c) fp]))
  case atStart => exact ⟨0, d, by omega, by omega, rfl, Pl.SwAt.start d a b k, HS0.out⟩
  case round =>
    obtain ⟨i, ys, hgg, hik, rfl, HR, HS⟩ := hrel
    obtain ⟨W, rfl⟩ : ∃ W : World, W = wr := ⟨_, rfl⟩
    by_cases hlt : i < k
    · have hyl : ys.length = n := HR.out.mv.len.trans HLN.out
      obtain ⟨g, rfl, -, -⟩ := Mm.sl_addr (HS.out.sl 0 rfl) (by omega)
      obtain ⟨p, hp⟩ : ∃ p, a + i = p := ⟨_, rfl⟩
      obtain ⟨q, hq⟩ : ∃ q, b + i = q := ⟨_, rfl⟩
      have hpn : p < n := by omega
      have hqn : q < n := by omega
      obtain ⟨x, hx⟩ : ∃ x, ys[p]? = some x := ⟨_, List.getElem?_eq_getElem (by omega)⟩
      obtain ⟨y, hy⟩ : ∃ y, ys[q]? = some y := ⟨_, List.getElem?_eq_getElem (by omega)⟩
      have HN := Lib.hid (HR.out.step hlt (by omega) (by rw [hp]; exact hx) (by rw [hq]; exact hy))
      rw [hp, hq] at HN
      have u0 := int_ocell (HS.out.sl 0 rfl) (HS.out.ndat (i := 0) rfl) hx
      have v0 := int_ocell (HS.out.sl 0 rfl) (HS.out.ndat (i := 0) rfl) hy
      have HX := Lib.hid hx
      have HY := Lib.hid hy
      have f1 : IntKind.i64.wrap ((a : Int) + (i : Int)) = (p : Int) := by rw [IntWalk.i64_in _ (by omega)]; omega
      have f0 : IntKind.i64.wrap ((b : Int) + (i : Int)) = (q : Int) := by rw [IntWalk.i64_in _ (by omega)]; omega
      have f2 : (0 : Int) ≤ (p : Nat) := by omega
      have f3 : ((p : Nat) : Int).toNat = p := by omega
      have f4 : (0 : Int) ≤ (q : Nat) := by omega
      have f5 : ((q : Nat) : Int).toNat = q := by omega
      have f6 : (p : Int) < n := by omega
      have f7 : (q : Int) < n := by omega
      have f8 : (i : Int) < k := by omega
      have hpq : p < q := by omega
      have z0 := (HS.out.sl 0 rfl).frozen p
      have z1 := (HS.out.sl 0 rfl).frozen q
      clear hx hy hp hq hyl
      go_wp2
      go_region
      have HSD := Lib.hid ((HS.out.step ((Below.refl _ _).drew)).swpI 0 rfl HX.out HY.out)
      clear u0 v0 z0 z1
      go_wp2
      go_roundg (k - (i + 1))
      case measure => omega
      case rel => exact ⟨i + 1, _, Nat.le_refl _, by omega, by go_num, HN.out, HSD.out⟩
    · have hik2 : i = k := by omega
      subst hik2
      have f1 : ¬ ((i : Int) < (i : Int)) := by omega
      go_wp2
      go_end0
      exact ⟨rfl, ys, HR.out, HS.out⟩
end Go.Proofs.Ytnppcdiicnofpaa

/-
  Contracts: rotation and insertion sort (slices) at ints, by value. No conditions beyond those named.
-/
namespace Go.Proofs.Ytnppcdiicnofpaa
open Go.RowKit
attribute [local go_sem] und_cell World.cell?_alloc_some
set_option maxRecDepth 100000 in
set_option maxHeartbeats 1000000 in
theorem rotI_c (d : List Int) (A : Option Addr) (n c : Nat) (fp : List Nat) (a m b : Nat) (V : Value) (w : World) (hs : Mm.SlOwn Mm.int 3 w d (.slice A n c) fp) (hnd : fp.Nodup) (hn : n ≤ 1000) (h1 : a < m) (h2 : m < b) (h3 : b ≤ n) :
    Calls Try.prog 115 #[.slice A n c, .int .i64 a, .int .i64 m, .int .i64 b, V] w fun e w' => e = .returned (.tuple #[]) ∧ ∃ d', (Pl.Mv a b d d' ∧ ∀ t, d'[t]? = Pl.rotF d a m b t) ∧ Mm.SepF fp w w' [Mm.tsl Mm.int 3 d' (.slice A n c) fp] := by
  have HS0 : Hid (Mm.SepF fp w w [Mm.tsl Mm.int 3 d (.slice A n c) fp]) := Mm.SepF.one (Mm.tsl Mm.int 3 d (.slice A n c) fp) w hs hnd
  have HND := Lib.hid hnd
  clear hs hnd
  obtain ⟨i0, hi0⟩ : ∃ i0, m - a = i0 := ⟨_, rfl⟩
  obtain ⟨j0, hj0⟩ : ∃ j0, b - m = j0 := ⟨_, rfl⟩
  have HR0 := Lib.hid (Pl.RotAt.start d (a := a) (m := m) (b := b) (by omega) (by omega))
  rw [hi0, hj0] at HR0
  have f0 : IntKind.i64.wrap ((m : Int) - (a : Int)) = (i0 : Int) := by rw [IntWalk.i64_in _ (by omega)]; omega
  have f1 : IntKind.i64.wrap ((b : Int) - (m : Int)) = (j0 : Int) := by rw [IntWalk.i64_in _ (by omega)]; omega
  have HI0 := Lib.hid hi0
  have HJ0 := Lib.hid hj0
  clear hi0 hj0
  go_enter Try.func115, Try.ntmps115
  go_wp2
  go_loopg [10, 11] (i0 + j0) (fun gg s10 s11 wr => ∃ (i j : Nat) (ys : List Int), i + j ≤ gg ∧ 0 < i ∧ 0 < j ∧ a + i ≤ m ∧ m + j ≤ b ∧ s10 = .int .i64 i ∧ s11 = .int .i64 j ∧ Hid (Pl.RotAt d ys a m b i j) ∧ Hid (Mm.SepF fp w wr [Mm.tsl Mm.int 3 ys (.slice A n c) fp]))
  case atStart => exact ⟨i0, j0, d, Nat.le_refl _, by have := HI0.out; omega, by have := HJ0.out; omega, by have := HI0.out; omega, by have := HJ0.out; omega, rfl, rfl, HR0.out, HS0.out⟩
  case round =>
    obtain ⟨i, j, ys, hgg, hi, hj, hai, hmj, rfl, rfl, HR, HS⟩ := hrel
    obtain ⟨W, rfl⟩ : ∃ W : World, W = wr := ⟨_, rfl⟩
    obtain ⟨p, hp⟩ : ∃ p, m - i = p := ⟨_, rfl⟩
    have f2 : IntKind.i64.wrap ((m : Int) - (i : Int)) = (p : Int) := by rw [IntWalk.i64_in _ (by omega)]; omega
    by_cases hij : j < i
    · have q1 : ((i : Int) != (j : Int)) = true := by simp; omega
      have q2 : (j : Int) < (i : Int) := by omega
      obtain ⟨r, hr⟩ : ∃ r, i - j = r := ⟨_, rfl⟩
      have f3 : IntKind.i64.wrap ((i : Int) - (j : Int)) = (r : Int) := by rw [IntWalk.i64_in _ (by omega)]; omega
      have CS := swapR_c ys A n c fp p m j V W (HS.out.sl 0 rfl) HND.out hn (by omega) (by omega)
      have HP := Lib.hid hp
      have HRR := Lib.hid hr
      clear hp hr f0 f1
      go_wp2_with (go_at_call 120; (with_reducible refine CS.mono ?_); clear CS; rintro e w1 ⟨rfl, zs, HZ, hz⟩; (have HS1 := Lib.hid (HS.out.call 0 rfl hz.left)); (have HZ1 := Lib.hid HZ); clear hz HZ)
      go_roundg (r + j)
      case measure => (have := HRR.out; omega)
      case rel => exact ⟨r, j, zs, Nat.le_refl _, by have := HRR.out; omega, hj, by have := HRR.out; omega, hmj, rfl, rfl, by have h := HR.out.left hai (by omega) hij (by rw [HP.out]; exact HZ1.out); rw [HRR.out] at h; exact h, HS1.out⟩
    · by_cases hji : i < j
      · have q1 : ((i : Int) != (j : Int)) = true := by simp; omega
        have q2 : ¬ (j : Int) < (i : Int) := by omega
        obtain ⟨r, hr⟩ : ∃ r, j - i = r := ⟨_, rfl⟩
        obtain ⟨u, hu⟩ : ∃ u, m + j - i = u := ⟨_, rfl⟩
        have f3 : IntKind.i64.wrap ((j : Int) - (i : Int)) = (r : Int) := by rw [IntWalk.i64_in _ (by omega)]; omega
        have f4 : IntKind.i64.wrap ((m : Int) + (j : Int)) = (m : Int) + (j : Int) := by rw [IntWalk.i64_in _ (by omega)]
        have f5 : IntKind.i64.wrap ((m : Int) + (j : Int) - (i : Int)) = (u : Int) := by rw [IntWalk.i64_in _ (by omega)]; omega
        have CS := swapR_c ys A n c fp p u i V W (HS.out.sl 0 rfl) HND.out hn (by omega) (by omega)
        have HP := Lib.hid hp
        have HRR := Lib.hid hr
        have HU := Lib.hid hu
        clear hp hr hu f0 f1
        go_wp2_with (go_at_call 120; (with_reducible refine CS.mono ?_); clear CS; rintro e w1 ⟨rfl, zs, HZ, hz⟩; (have HS1 := Lib.hid (HS.out.call 0 rfl hz.left)); (have HZ1 := Lib.hid HZ); clear hz HZ)
        go_roundg (i + r)
        case measure => (have := HRR.out; omega)
        case rel => exact ⟨i, r, zs, Nat.le_refl _, hi, by have := HRR.out; omega, hai, by have := HRR.out; omega, rfl, rfl, by have h := HR.out.right hai (by omega) hji (by rw [HP.out, HU.out]; exact HZ1.out); rw [HRR.out] at h; exact h, HS1.out⟩
      · have hij2 : i = j := by omega
        subst hij2
        have q1 : ((i : Int) != (i : Int)) = false := by simp
        have CS := swapR_c ys A n c fp p m i V W (HS.out.sl 0 rfl) HND.out hn (by omega) (by omega)
        have HP := Lib.hid hp
        clear hp f0 f1
        go_wp2_with (go_at_call 120; (with_reducible refine CS.mono ?_); clear CS; rintro e w1 ⟨rfl, zs, HZ, hz⟩; (have HS1 := Lib.hid (HS.out.call 0 rfl hz.left)); (have HZ1 := Lib.hid HZ); clear hz HZ)
        go_end0
        exact ⟨rfl, zs, HR.out.done hai (by omega) (by rw [HP.out]; exact HZ1.out), HS1.out⟩
theorem Pl.NumIn.mv {d e : List Int} {n a b : Nat} (h : Pl.NumIn d n) (hm : Pl.Mv a b d e) : Pl.NumIn e n := h.perm hm.perm
set_option maxRecDepth 100000 in
set_option maxHeartbeats 2000000 in
theorem insS_c (vs : List Int) (A' : Option Addr) (n' c' gn B : Nat) (d : List Int) (A : Option Addr) (n c : Nat) (fp : List Nat) (a b : Nat) (w : World) (h : CapV vs A' n' c' gn B w) (hs : Mm.SlOwn Mm.int 3 w d (.slice A n c) fp) (hnd : fp.Nodup) (g1 : gn ∉ fp) (g2 : ∀ b, b ∈ fp → B ≤ b) (hn : n ≤ 1000) (h1 : a ≤ b) (h2 : b ≤ n) (hnum : Pl.NumIn d n') (hasc : Pl.Asc d a b) :
    Calls Try.prog 102 #[.slice A n c, .int .i64 a, .int .i64 b, .func (Fn.func 57) #[] #[.pointer (some ⟨gn, 0, none⟩)]] w fun e w' => e = .returned (.tuple #[]) ∧ ∃ d', (Pl.Mv a b d d' ∧ Pl.Srt (Pl.valAt vs) d' a b) ∧ Mm.SepF fp w w' [Mm.tsl Mm.int 3 d' (.slice A n c) fp] := by
  have HS0 : Hid (Mm.SepF fp w w [Mm.tsl Mm.int 3 d (.slice A n c) fp]) := Mm.SepF.one (Mm.tsl Mm.int 3 d (.slice A n c) fp) w hs hnd
  have HLN : Hid (d.length = n) := by obtain ⟨_, _, _, hv, q1, _⟩ := hs.form; injection hv with _ q2 _; exact (q2.trans q1).symm
  have HC := Lib.hid h
  have HQ := Lib.hid (And.intro g1 g2)
  have HNU := Lib.hid hnum
  have HAS := Lib.hid hasc
  clear h hs hnd g1 g2 hnum hasc
  have f0 : IntKind.i64.wrap ((a : Int) + 1) = (a : Int) + 1 := IntWalk.i64_in _ (by omega)
  go_enter Try.func102, Try.ntmps102
  go_wp2
  go_loopg [8] (b - a) (fun gg s8 wr => ∃ (i : Nat) (ys : List Int), b - i ≤ gg ∧ a < i ∧ (i ≤ b ∨ i = a + 1) ∧ s8 = .int .i64 i ∧ Hid (Pl.Mv a (min i b) d ys) ∧ Hid (Pl.Srt (Pl.valAt vs) ys a (min i b)) ∧ Hid (Mm.SepF fp w wr [Mm.tsl Mm.int 3 ys (.slice A n c) fp]))
  case atStart => exact ⟨a + 1, d, by omega, by omega, .inr rfl, by go_num, Pl.Mv.refl _ _ _, Pl.Srt.one (by omega), HS0.out⟩
  case round =>
    clear f0
    obtain ⟨i, ys, hgg, hai, hib, rfl, HM, HR, HS⟩ := hrel
    obtain ⟨Wo, rfl⟩ : ∃ W : World, W = wr := ⟨_, rfl⟩
    by_cases hlt : i < b
    · have hmin : min i b = i := by omega
      rw [hmin] at HM HR
      clear hmin hib
      have hyl : ys.length = n := HM.out.len.trans HLN.out
      obtain ⟨g, rfl, -, -⟩ := Mm.sl_addr (HS.out.sl 0 rfl) (by omega)
      obtain ⟨z, hz⟩ : ∃ z, ys[i]? = some z := ⟨_, List.getElem?_eq_getElem (by omega)⟩
      have HI := Lib.hid (Pl.InsAt.start HM.out HR.out HAS.out hlt (by omega) hz)
      have f1 : (i : Int) < (b : Int) := by omega
      clear hz hyl
      go_wp2
      go_loopg [9] i (fun gi s9 wr => ∃ (j : Nat) (zs : List Int), j ≤ gi ∧ a ≤ j ∧ j ≤ i ∧ s9 = .int .i64 j ∧ Hid (Pl.InsAt (Pl.valAt vs) d zs a i j z) ∧ Hid (Mm.SepF fp w wr [Mm.tsl Mm.int 3 zs (.slice (some ⟨g, 0, none⟩) n c) fp]))
      case atStart => exact ⟨i, ys, by omega, by omega, by omega, rfl, HI.out, HS.out⟩
      case round =>
        clear HM HR HS HI
        obtain ⟨j, zs, hgj, haj, hji, rfl, HJ, HS⟩ := hrel
        obtain ⟨W, rfl⟩ : ∃ W : World, W = wr := ⟨_, rfl⟩
        have hzl : zs.length = n := HJ.out.mv.len.trans HLN.out
        by_cases hja : a < j
        · obtain ⟨p, rfl⟩ : ∃ p, j = p + 1 := ⟨j - 1, by omega⟩
          have hNZ := HNU.out.mv HJ.out.mv
          obtain ⟨x, hx⟩ : ∃ x, zs[p]? = some x := ⟨_, List.getElem?_eq_getElem (by omega)⟩
          have hz := HJ.out.at_
          have hxz : x < z := HJ.out.small p x (by omega) (by omega) (by omega) hx
          have u0 := int_ocell (HS.out.sl 0 rfl) (HS.out.ndat (i := 0) rfl) hx
          have v0 := int_ocell (HS.out.sl 0 rfl) (HS.out.ndat (i := 0) rfl) hz
          have CK := fun q : Und W => und_call q (closV_c vs A' n' c' gn B z x (und W q) ((HC.out.chg HS.out.chg HQ.out.1 HQ.out.2).bel q.h) (hNZ _ _ hz) (hNZ _ _ hx))
          have HX := Lib.hid hx
          obtain ⟨cv, hcv⟩ : ∃ cv, Pl.valAt vs x - Pl.valAt vs z = cv := ⟨_, rfl⟩
          rw [hcv] at CK
          obtain ⟨t, ht⟩ : ∃ t, p + 1 = t := ⟨_, rfl⟩
          rw [ht] at v0
          have f2 : ((p : Int) + 1) = (t : Int) := by omega
          have f3 : IntKind.i64.wrap ((t : Int) - 1) = (p : Int) := by rw [IntWalk.i64_in _ (by omega)]; omega
          have f4 : (0 : Int) ≤ (p : Nat) := by omega
          have f5 : ((p : Nat) : Int).toNat = p := by omega
          have f6 : (0 : Int) ≤ (t : Nat) := by omega
          have f7 : ((t : Nat) : Int).toNat = t := by omega
          have f8 : (p : Int) < n := by omega
          have f9 : (t : Int) < n := by omega
          have fa : (a : Int) < (t : Int) := by omega
          have hpt : p < t := by omega
          have hti : t ≤ i := by omega
          have hat : a < t := by omega
          have hap : a ≤ p := by omega
          rw [ht] at HJ ⊢
          have HT := Lib.hid ht
          clear hx hz hzl ht f2 hNZ
          by_cases hneg : cv < 0
          · have HB : Hid (Pl.Bef (Pl.valAt vs) z x) := (Pl.Bef.lt hxz).2 (by omega)
            clear hcv
            go_wp2
            refine wp_region_und (by kernel_rfl) (by kernel_rfl) ?_
            repeat (go_big_quiet_step ((first | (go_at_call 57; with_reducible exact CK _))))
            refine wpQuiet_nil ?_
            intro X hX
            clear CK
            have HS1 := Lib.hid (HS.out.step hX)
            have u1 := below_some hX u0
            have v1 := below_some hX v0
            clear u0 v0 hX
            have z0 := (HS1.out.sl 0 rfl).frozen p
            have z1 := (HS1.out.sl 0 rfl).frozen t
            go_wp2
            go_region
            have HN := Lib.hid (HJ.out.step (x := x) hat hti (by rw [← HT.out, Nat.add_sub_cancel]; exact HX.out) HB.out)
            have HTP : Hid (t - 1 = p) := Lib.hid (by rw [← HT.out, Nat.add_sub_cancel])
            rw [HTP.out] at HN
            have HS2 := Lib.hid ((HS1.out.step ((Below.refl _ _).drew)).swpI 0 rfl HJ.out.at_ HX.out)
            clear u1 v1 z0 z1
            go_wp2
            go_roundg p
            case measure => omega
            case rel => exact ⟨p, _, Nat.le_refl _, by omega, by omega, by go_num, HN.out, HS2.out⟩
          · have HB : Hid (Pl.Bef (Pl.valAt vs) x z) := (Pl.Bef.lt' hxz).2 (by omega)
            clear hcv
            go_wp2
            refine wp_region_und (by kernel_rfl) (by kernel_rfl) ?_
            repeat (go_big_quiet_step ((first | (go_at_call 57; with_reducible exact CK _))))
            refine wpQuiet_nil ?_
            intro X hX
            clear CK
            have HS1 := Lib.hid (HS.out.step hX)
            clear u0 v0 hX
            have HN := Lib.hid (HJ.out.done (.inr ⟨x, by rw [← HT.out, Nat.add_sub_cancel]; exact HX.out, HB.out⟩))
            go_wp2
            go_roundg (b - (i + 1))
            case measure => omega
            case rel => exact ⟨i + 1, zs, Nat.le_refl _, by omega, by omega, by go_num, by rw [show min (i + 1) b = i + 1 by omega]; exact HN.out.1, by rw [show min (i + 1) b = i + 1 by omega]; exact HN.out.2, HS1.out⟩
        · have hja2 : j = a := by omega
          subst hja2
          have HN := Lib.hid (HJ.out.done (.inl rfl))
          have fa : ¬ (j : Int) < (j : Int) := by omega
          go_wp2
          refine wp_region_und (by kernel_rfl) (by kernel_rfl) ?_
          repeat (go_big_quiet_step ((first | fail)))
          refine wpQuiet_nil ?_
          intro X hX
          have HS1 := Lib.hid (HS.out.step hX)
          go_wp2
          go_roundg (b - (i + 1))
          case measure => omega
          case rel => exact ⟨i + 1, zs, Nat.le_refl _, by omega, by omega, by go_num, by rw [show min (i + 1) b = i + 1 by omega]; exact HN.out.1, by rw [show min (i + 1) b = i + 1 by omega]; exact HN.out.2, HS1.out⟩
    · have hmin : min i b = b := by omega
      rw [hmin] at HM HR
      have f1 : ¬ (i : Int) < (b : Int) := by omega
      go_wp2
      go_end0
      exact ⟨rfl, ys, ⟨HM.out, HR.out⟩, HS.out⟩
end Go.Proofs.Ytnppcdiicnofpaa

/-
  Contract: two ordered pieces merged in place (slices.symMergeCmpFunc) at ints, by value. No conditions beyond those named.
-/
namespace Go.Proofs.Ytnppcdiicnofpaa
open Go.RowKit
attribute [local go_sem] und_cell World.cell?_alloc_some
theorem Pl.rotF_self {d : List Int} {s m b : Nat} (h : s = m ∨ m = b) (h1 : s ≤ m) (h2 : m ≤ b) (t : Nat) : d[t]? = Pl.rotF d s m b t := by
  unfold Pl.rotF
  repeat' split
  all_goals first | rfl | (congr 1; omega)
/-- ready to be merged -/
structure Pl.MIn (v : Int → Int) (d : List Int) (a m b n : Nat) : Prop where
  pre : Pl.MPre v d a m b
  num : Pl.NumIn d n
def Pl.MOut (v : Int → Int) (d d' : List Int) (a b : Nat) : Prop := Pl.Mv a b d d' ∧ Pl.Srt v d' a b
set_option maxRecDepth 100000 in
set_option maxHeartbeats 2000000 in
/-- one element ahead -/
theorem symA_c (vs : List Int) (A' : Option Addr) (n' c' gn B : Nat) (d : List Int) (A : Option Addr) (n c : Nat) (fp : List Nat) (a m b : Nat) (w : World) (h : CapV vs A' n' c' gn B w) (hs : Mm.SlOwn Mm.int 3 w d (.slice A n c) fp) (hnd : fp.Nodup) (g1 : gn ∉ fp) (g2 : ∀ b, b ∈ fp → B ≤ b) (hn : n ≤ 1000) (hp : Pl.MIn (Pl.valAt vs) d a m b n') (hm : m = a + 1) :
    Calls Try.prog 103 #[.slice A n c, .int .i64 a, .int .i64 m, .int .i64 b, .func (Fn.func 57) #[] #[.pointer (some ⟨gn, 0, none⟩)]] w fun e w' => e = .returned (.tuple #[]) ∧ ∃ d', Pl.MOut (Pl.valAt vs) d d' a b ∧ Mm.SepF fp w w' [Mm.tsl Mm.int 3 d' (.slice A n c) fp] := by
  have HS0 : Hid (Mm.SepF fp w w [Mm.tsl Mm.int 3 d (.slice A n c) fp]) := Mm.SepF.one (Mm.tsl Mm.int 3 d (.slice A n c) fp) w hs hnd
  have HLN : Hid (d.length = n) := by obtain ⟨_, _, _, hv, q1, _⟩ := hs.form; injection hv with _ q2 _; exact (q2.trans q1).symm
  have hmb := hp.pre.mb
  have hbn : b ≤ n := by have := hp.pre.len; have := HLN.out; omega
  have HC := Lib.hid h
  have HQ := Lib.hid (And.intro g1 g2)
  have HP := Lib.hid hp
  obtain ⟨z, hz⟩ : ∃ z, d[a]? = some z := ⟨_, List.getElem?_eq_getElem (by have := HLN.out; omega)⟩
  have HZ := Lib.hid hz
  have HM := Lib.hid hm
  have f0 : IntKind.i64.wrap ((m : Int) - (a : Int)) = 1 := by rw [IntWalk.i64_in _ (by omega)]; omega
  have f1 : ((m : Int) - (a : Int) == 1) = true := by rw [beq_iff_eq]; omega
  have hma : a < m := by omega
  clear h hs hnd g1 g2 hp hz hm f0
  go_enter Try.func103, Try.ntmps103
  go_wp2
  go_loopg [10, 11] (b - m) (fun gg s10 s11 wr => ∃ (i j : Nat), j - i ≤ gg ∧ m ≤ i ∧ i ≤ j ∧ j ≤ b ∧ s10 = .int .i64 i ∧ s11 = .int .i64 j ∧ Hid (Pl.Bs (Pl.valAt vs) d z m b i j) ∧ Hid (Mm.SepF fp w wr [Mm.tsl Mm.int 3 d (.slice A n c) fp]))
  case atStart => exact ⟨m, b, by omega, by omega, by omega, by omega, rfl, rfl, Pl.Bs.start, HS0.out⟩
  case round =>
    obtain ⟨i, j, hgg, hmi, hij, hjb, rfl, rfl, HB, HS⟩ := hrel
    obtain ⟨W, rfl⟩ : ∃ W : World, W = wr := ⟨_, rfl⟩
    obtain ⟨g, rfl, -, -⟩ := Mm.sl_addr (HS.out.sl 0 rfl) (by have := HLN.out; omega)
    by_cases hlt : i < j
    · obtain ⟨p, hp⟩ : ∃ p : Nat, ((i : Int) + (j : Int)) / 2 = p := ⟨(i + j) / 2, by omega⟩
      have hpi : i ≤ p := by omega
      have hpj : p < j := by omega
      obtain ⟨x, hx⟩ : ∃ x, d[p]? = some x := ⟨_, List.getElem?_eq_getElem (by have := HLN.out; omega)⟩
      have hzx : z < x := HP.out.pre.lf a p z x (Nat.le_refl _) (by omega) (by omega) (by omega) HZ.out hx
      have u0 := int_ocell (HS.out.sl 0 rfl) (HS.out.ndat (i := 0) rfl) hx
      have v0 := int_ocell (HS.out.sl 0 rfl) (HS.out.ndat (i := 0) rfl) HZ.out
      have CK := fun q : Und W => und_call q (closV_c vs A' n' c' gn B x z (und W q) ((HC.out.chg HS.out.chg HQ.out.1 HQ.out.2).bel q.h) (HP.out.num _ _ hx) (HP.out.num _ _ HZ.out))
      have HX := Lib.hid hx
      obtain ⟨cv, hcv⟩ : ∃ cv, Pl.valAt vs z - Pl.valAt vs x = cv := ⟨_, rfl⟩
      rw [hcv] at CK
      have f2 : (0 : Int) ≤ (p : Nat) := by omega
      have f3 : ((p : Nat) : Int).toNat = p := by omega
      have f4 : (0 : Int) ≤ (a : Nat) := by omega
      have f5 : ((a : Nat) : Int).toNat = a := by omega
      have f6 : (p : Int) < n := by omega
      have f7 : (a : Int) < n := by omega
      have fa : (i : Int) < (j : Int) := by omega
      clear hx
      have hsrt : Pl.Srt (Pl.valAt vs) d m b := HP.out.pre.s2
      have HSR := Lib.hid hsrt
      clear hsrt
      by_cases hneg : cv < 0
      · have HN := Lib.hid (HB.out.up HSR.out (by omega) (by omega) HX.out ((Pl.Bef.lt hzx).2 (by omega)))
        clear hcv
        go_wp2
        refine wp_region_und (by kernel_rfl) (by kernel_rfl) ?_
        repeat (go_big_quiet_step ((first | (go_at_call 57; with_reducible exact CK _))))
        refine wpQuiet_nil ?_
        intro X hX
        clear CK u0 v0
        have HS1 := Lib.hid (HS.out.step hX)
        clear hX
        go_wp2
        go_roundg (j - (p + 1))
        case measure => omega
        case rel => exact ⟨p + 1, j, Nat.le_refl _, by omega, by omega, by omega, by go_num, rfl, HN.out, HS1.out⟩
      · have HN := Lib.hid (HB.out.down HSR.out (by omega) (by omega) HX.out ((Pl.Bef.lt' hzx).2 (by omega)))
        clear hcv
        go_wp2
        refine wp_region_und (by kernel_rfl) (by kernel_rfl) ?_
        repeat (go_big_quiet_step ((first | (go_at_call 57; with_reducible exact CK _))))
        refine wpQuiet_nil ?_
        intro X hX
        clear CK u0 v0
        have HS1 := Lib.hid (HS.out.step hX)
        clear hX
        go_wp2
        go_roundg (p - i)
        case measure => omega
        case rel => exact ⟨i, p, Nat.le_refl _, by omega, by omega, by omega, rfl, rfl, HN.out, HS1.out⟩
    · have hij2 : j = i := by omega
      subst hij2
      have fa : ¬ (j : Int) < (j : Int) := by omega
      obtain ⟨e, he⟩ : ∃ e, j - 1 = e := ⟨_, rfl⟩
      have HE := Lib.hid he
      have f2 : IntKind.i64.wrap ((j : Int) - 1) = (e : Int) := by rw [IntWalk.i64_in _ (by omega)]; omega
      have hae : a ≤ e := by omega
      have heb : e < b := by omega
      clear he HS0
      go_wp2
      go_loopg [13] (e - a) (fun gi s13 wr => ∃ (k : Nat) (ys : List Int), e - k ≤ gi ∧ a ≤ k ∧ k ≤ e ∧ s13 = .int .i64 k ∧ Hid (Pl.ShUp d ys a b k z) ∧ Hid (Mm.SepF fp w wr [Mm.tsl Mm.int 3 ys (.slice (some ⟨g, 0, none⟩) n c) fp]))
      case atStart => exact ⟨a, d, by omega, by omega, by omega, rfl, Pl.ShUp.start HZ.out, HS.out⟩
      case round =>
        clear HS
        obtain ⟨k, ys, hgk, hak, hke, rfl, HU, HS⟩ := hrel
        obtain ⟨W, rfl⟩ : ∃ W : World, W = wr := ⟨_, rfl⟩
        by_cases hk : k < e
        · have hyl : ys.length = n := HU.out.mv.len.trans HLN.out
          obtain ⟨p, hp⟩ : ∃ p, k + 1 = p := ⟨_, rfl⟩
          obtain ⟨y, hy⟩ : ∃ y, ys[p]? = some y := ⟨_, List.getElem?_eq_getElem (by omega)⟩
          have u0 := int_ocell (HS.out.sl 0 rfl) (HS.out.ndat (i := 0) rfl) HU.out.at_
          have v0 := int_ocell (HS.out.sl 0 rfl) (HS.out.ndat (i := 0) rfl) hy
          have HN := Lib.hid (HU.out.step hak (by omega) (by rw [hp]; exact hy))
          rw [hp] at HN
          have HY := Lib.hid hy
          have fb : IntKind.i64.wrap ((k : Int) + 1) = (p : Int) := by rw [IntWalk.i64_in _ (by omega)]; omega
          have fc : (k : Int) < (e : Int) := by omega
          have hkp : k < p := by omega
          have hpe : p ≤ e := by omega
          have hme : e - p < e - k := by omega
          have z0 := (HS.out.sl 0 rfl).frozen k
          have z1 := (HS.out.sl 0 rfl).frozen p
          have f2 : (0 : Int) ≤ (k : Nat) := by omega
          have f3 : ((k : Nat) : Int).toNat = k := by omega
          have f4 : (0 : Int) ≤ (p : Nat) := by omega
          have f5 : ((p : Nat) : Int).toNat = p := by omega
          have f6 : (k : Int) < n := by omega
          have f7 : (p : Int) < n := by omega
          clear hy hp hyl
          go_wp2
          go_region
          have HS2 := Lib.hid ((HS.out.step ((Below.refl _ _).drew)).swpI 0 rfl HU.out.at_ HY.out)
          clear u0 v0 z0 z1
          go_wp2
          go_roundg (e - p)
          case measure => omega
          case rel => exact ⟨p, _, Nat.le_refl _, by omega, hpe, rfl, HN.out, HS2.out⟩
        · have hke2 : k = e := by omega
          subst hke2
          have fb : ¬ (k : Int) < (k : Int) := by omega
          have HO : Hid (Pl.MOut (Pl.valAt vs) d ys a b) := Lib.hid (by
            have hm := HM.out
            subst hm
            exact Pl.ShUp.done (i := j) (by rw [HE.out]; exact HU.out) HP.out.pre HZ.out (by omega) (by omega) HB.out)
          go_wp2
          exact bodyPost_ret (v := .tuple #[]) (by simp [results]) rfl ⟨rfl, ys, HO.out, HS.out⟩
end Go.Proofs.Ytnppcdiicnofpaa

/-
  Contract: two ordered pieces merged in place (slices.symMergeCmpFunc) at ints, by value: one element behind; the general case. No conditions beyond those named.
-/
namespace Go.Proofs.Ytnppcdiicnofpaa
open Go.RowKit
attribute [local go_sem] und_cell World.cell?_alloc_some
set_option maxRecDepth 100000 in
set_option maxHeartbeats 2000000 in
/-- one element behind -/
theorem symB_c (vs : List Int) (A' : Option Addr) (n' c' gn B : Nat) (d : List Int) (A : Option Addr) (n c : Nat) (fp : List Nat) (a m b : Nat) (w : World) (h : CapV vs A' n' c' gn B w) (hs : Mm.SlOwn Mm.int 3 w d (.slice A n c) fp) (hnd : fp.Nodup) (g1 : gn ∉ fp) (g2 : ∀ b, b ∈ fp → B ≤ b) (hn : n ≤ 1000) (hp : Pl.MIn (Pl.valAt vs) d a m b n') (hm1 : a + 1 < m) (hm : b = m + 1) :
    Calls Try.prog 103 #[.slice A n c, .int .i64 a, .int .i64 m, .int .i64 b, .func (Fn.func 57) #[] #[.pointer (some ⟨gn, 0, none⟩)]] w fun e w' => e = .returned (.tuple #[]) ∧ ∃ d', Pl.MOut (Pl.valAt vs) d d' a b ∧ Mm.SepF fp w w' [Mm.tsl Mm.int 3 d' (.slice A n c) fp] := by
  have HS0 : Hid (Mm.SepF fp w w [Mm.tsl Mm.int 3 d (.slice A n c) fp]) := Mm.SepF.one (Mm.tsl Mm.int 3 d (.slice A n c) fp) w hs hnd
  have HLN : Hid (d.length = n) := by obtain ⟨_, _, _, hv, q1, _⟩ := hs.form; injection hv with _ q2 _; exact (q2.trans q1).symm
  have hbn : b ≤ n := by have := hp.pre.len; have := HLN.out; omega
  have HC := Lib.hid h
  have HQ := Lib.hid (And.intro g1 g2)
  have HP := Lib.hid hp
  obtain ⟨z, hz⟩ : ∃ z, d[m]? = some z := ⟨_, List.getElem?_eq_getElem (by have := HLN.out; omega)⟩
  have HZ := Lib.hid hz
  have HM := Lib.hid hm
  have f0 : ((m : Int) - (a : Int) == 1) = false := by rw [beq_eq_false_iff_ne]; omega
  have f1 : ((b : Int) - (m : Int) == 1) = true := by rw [beq_iff_eq]; omega
  have hmb : m < b := by omega
  clear h hs hnd g1 g2 hp hz hm
  go_enter Try.func103, Try.ntmps103
  go_wp2
  go_loopg [14, 15] (m - a) (fun gg s10 s11 wr => ∃ (i j : Nat), j - i ≤ gg ∧ a ≤ i ∧ i ≤ j ∧ j ≤ m ∧ s10 = .int .i64 i ∧ s11 = .int .i64 j ∧ Hid (Pl.Bs (Pl.valAt vs) d z a m i j) ∧ Hid (Mm.SepF fp w wr [Mm.tsl Mm.int 3 d (.slice A n c) fp]))
  case atStart => exact ⟨a, m, by omega, by omega, by omega, by omega, rfl, rfl, Pl.Bs.start, HS0.out⟩
  case round =>
    clear f0 f1
    obtain ⟨i, j, hgg, hmi, hij, hjb, rfl, rfl, HB, HS⟩ := hrel
    obtain ⟨W, rfl⟩ : ∃ W : World, W = wr := ⟨_, rfl⟩
    obtain ⟨g, rfl, -, -⟩ := Mm.sl_addr (HS.out.sl 0 rfl) (by have := HLN.out; omega)
    by_cases hlt : i < j
    · obtain ⟨p, hp⟩ : ∃ p : Nat, ((i : Int) + (j : Int)) / 2 = p := ⟨(i + j) / 2, by omega⟩
      have hpi : i ≤ p := by omega
      have hpj : p < j := by omega
      obtain ⟨x, hx⟩ : ∃ x, d[p]? = some x := ⟨_, List.getElem?_eq_getElem (by have := HLN.out; omega)⟩
      have hzx : x < z := HP.out.pre.lf p m x z (by omega) (by omega) (Nat.le_refl _) (by omega) hx HZ.out
      have u0 := int_ocell (HS.out.sl 0 rfl) (HS.out.ndat (i := 0) rfl) hx
      have v0 := int_ocell (HS.out.sl 0 rfl) (HS.out.ndat (i := 0) rfl) HZ.out
      have CK := fun q : Und W => und_call q (closV_c vs A' n' c' gn B z x (und W q) ((HC.out.chg HS.out.chg HQ.out.1 HQ.out.2).bel q.h) (HP.out.num _ _ HZ.out) (HP.out.num _ _ hx))
      have HX := Lib.hid hx
      obtain ⟨cv, hcv⟩ : ∃ cv, Pl.valAt vs x - Pl.valAt vs z = cv := ⟨_, rfl⟩
      rw [hcv] at CK
      have f2 : (0 : Int) ≤ (p : Nat) := by omega
      have f3 : ((p : Nat) : Int).toNat = p := by omega
      have f4 : (0 : Int) ≤ (m : Nat) := by omega
      have f5 : ((m : Nat) : Int).toNat = m := by omega
      have f6 : (p : Int) < n := by omega
      have f7 : (m : Int) < n := by omega
      have fa : (i : Int) < (j : Int) := by omega
      clear hx
      have hsrt : Pl.Srt (Pl.valAt vs) d a m := HP.out.pre.s1
      have HSR := Lib.hid hsrt
      clear hsrt
      by_cases hneg : cv < 0
      · have hn4 : (!decide (cv < 0)) = false := by simp; omega
        have HN := Lib.hid (HB.out.down HSR.out (by omega) (by omega) HX.out ((Pl.Bef.lt hzx).2 (by omega)))
        clear hcv
        go_wp2
        refine wp_region_und (by kernel_rfl) (by kernel_rfl) ?_
        repeat (go_big_quiet_step ((first | (go_at_call 57; with_reducible exact CK _))))
        refine wpQuiet_nil ?_
        intro X hX
        clear CK u0 v0
        have HS1 := Lib.hid (HS.out.step hX)
        clear hX
        go_wp2
        go_roundg (p - i)
        case measure => omega
        case rel => exact ⟨i, p, Nat.le_refl _, by omega, by omega, by omega, rfl, rfl, HN.out, HS1.out⟩
      · have hn4 : (!decide (cv < 0)) = true := by simp; omega
        have HN := Lib.hid (HB.out.up HSR.out (by omega) (by omega) HX.out ((Pl.Bef.lt' hzx).2 (by omega)))
        clear hcv
        go_wp2
        refine wp_region_und (by kernel_rfl) (by kernel_rfl) ?_
        repeat (go_big_quiet_step ((first | (go_at_call 57; with_reducible exact CK _))))
        refine wpQuiet_nil ?_
        intro X hX
        clear CK u0 v0
        have HS1 := Lib.hid (HS.out.step hX)
        clear hX
        go_wp2
        go_roundg (j - (p + 1))
        case measure => omega
        case rel => exact ⟨p + 1, j, Nat.le_refl _, by omega, by omega, by omega, by go_num, rfl, HN.out, HS1.out⟩
    · have hij2 : j = i := by omega
      subst hij2
      have fa : ¬ (j : Int) < (j : Int) := by omega
      clear HS0
      go_wp2
      go_loopg [17] (m - j) (fun gi s13 wr => ∃ (k : Nat) (ys : List Int), k - j ≤ gi ∧ j ≤ k ∧ k ≤ m ∧ s13 = .int .i64 k ∧ Hid (Pl.ShDn d ys a m k z) ∧ Hid (Mm.SepF fp w wr [Mm.tsl Mm.int 3 ys (.slice (some ⟨g, 0, none⟩) n c) fp]))
      case atStart => exact ⟨m, d, by omega, by omega, by omega, rfl, Pl.ShDn.start HZ.out, HS.out⟩
      case round =>
        clear HS
        obtain ⟨k, ys, hgk, hak, hke, rfl, HU, HS⟩ := hrel
        obtain ⟨W, rfl⟩ : ∃ W : World, W = wr := ⟨_, rfl⟩
        by_cases hk : j < k
        · have hyl : ys.length = n := HU.out.mv.len.trans HLN.out
          obtain ⟨p, hp⟩ : ∃ p, k - 1 = p := ⟨_, rfl⟩
          obtain ⟨y, hy⟩ : ∃ y, ys[p]? = some y := ⟨_, List.getElem?_eq_getElem (by omega)⟩
          have u0 := int_ocell (HS.out.sl 0 rfl) (HS.out.ndat (i := 0) rfl) HU.out.at_
          have v0 := int_ocell (HS.out.sl 0 rfl) (HS.out.ndat (i := 0) rfl) hy
          have HN := Lib.hid (HU.out.step (by omega) (by omega) (by rw [hp]; exact hy))
          rw [hp] at HN
          have HY := Lib.hid hy
          have fb : IntKind.i64.wrap ((k : Int) - 1) = (p : Int) := by rw [IntWalk.i64_in _ (by omega)]; omega
          have fc : (j : Int) < (k : Int) := by omega
          have hkp : p < k := by omega
          have hpe : j ≤ p := by omega
          have hpm : p ≤ m := by omega
          have hme : p - j < k - j := by omega
          have z0 := (HS.out.sl 0 rfl).frozen k
          have z1 := (HS.out.sl 0 rfl).frozen p
          have f2 : (0 : Int) ≤ (k : Nat) := by omega
          have f3 : ((k : Nat) : Int).toNat = k := by omega
          have f4 : (0 : Int) ≤ (p : Nat) := by omega
          have f5 : ((p : Nat) : Int).toNat = p := by omega
          have f6 : (k : Int) < n := by omega
          have f7 : (p : Int) < n := by omega
          clear hy hp hyl
          go_wp2
          go_region
          have HS2 := Lib.hid ((HS.out.step ((Below.refl _ _).drew)).swpI 0 rfl HU.out.at_ HY.out)
          clear u0 v0 z0 z1
          go_wp2
          go_roundg (p - j)
          case measure => omega
          case rel => exact ⟨p, _, Nat.le_refl _, hpe, hpm, rfl, HN.out, HS2.out⟩
        · have hke2 : k = j := by omega
          subst hke2
          have fb : ¬ (k : Int) < (k : Int) := by omega
          have HO : Hid (Pl.MOut (Pl.valAt vs) d ys a b) := Lib.hid (by
            have hm := HM.out
            subst hm
            exact Pl.ShDn.done HU.out HP.out.pre (by omega) (by omega) HB.out)
          go_wp2
          exact bodyPost_ret (v := .tuple #[]) (by simp [results]) rfl ⟨rfl, ys, HO.out, HS.out⟩
end Go.Proofs.Ytnppcdiicnofpaa
