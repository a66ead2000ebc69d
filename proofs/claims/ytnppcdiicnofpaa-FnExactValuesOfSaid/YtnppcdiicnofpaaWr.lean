/-
  Contracts: the texts of labels. No conditions.
-/
import Derived.Test.YtnppcdiicnofpaaWq
import Derived.Test.YtnppcdiicnofpaaOx
import Derived.Test.YtnppcdiicnofpaaSx
namespace Go.Proofs.Ytnppcdiicnofpaa
open Go.RowKit
attribute [local go_sem] und_cell World.cell?_alloc_some
theorem Pl.labS_zero (l : List Label) : (⟨#[123]⟩ : ByteArray) = ⟨(123 :: Pl.labBody (l.take 0)).toArray⟩ := rfl
theorem Pl.labS_one {l : List Label} {x : Label} (h : l[0]? = some x) : (⟨#[123]⟩ : ByteArray) ++ (x.Name ++ ⟨#[61]⟩ ++ x.Value) = ⟨(123 :: Pl.labBody (l.take (0 + 1))).toArray⟩ := by
  refine Pl.ba_ext ?_
  rw [Pl.labBody_next h, if_pos rfl]
  simp [ByteArray.data_append, Pl.labTxt]
theorem Pl.labS_next {l : List Label} {k : Nat} {x : Label} (h : l[k]? = some x) (hk : k ≠ 0) : (⟨(123 :: Pl.labBody (l.take k)).toArray⟩ : ByteArray) ++ ⟨#[44]⟩ ++ (x.Name ++ ⟨#[61]⟩ ++ x.Value) = ⟨(123 :: Pl.labBody (l.take (k + 1))).toArray⟩ := by
  refine Pl.ba_ext ?_
  rw [Pl.labBody_next h, if_neg hk]
  simp [ByteArray.data_append, Pl.labTxt]
theorem Pl.labelOk_sz {x : Label} (h : Pl.labelOk x = true) : 1 ≤ x.Name.size ∧ x.Name.size ≤ 8 ∧ 1 ≤ x.Value.size ∧ x.Value.size ≤ 8 := by
  unfold Pl.labelOk at h
  rw [Bool.and_eq_true] at h
  have h1 := Pl.word_len h.1
  have h2 := Pl.word_len h.2
  exact ⟨h1.1, h1.2, h2.1, h2.2⟩
set_option maxRecDepth 100000 in
set_option maxHeartbeats 1000000 in
theorem l3Text_c (l : List Label) (A : Option Addr) (n c : Nat) (w : World) (B : Nat) (hl : Mm.SlAt rLabel w B l A n c) (hB : B ≤ w.heap.size) (hok : Pl.labelsOk l = true) :
    Calls Try.prog 76 #[.slice A n c] w fun e w' => e = .returned (.string (Pl.labelsText l)) ∧ Below w.heap.size w w' := by
  have hlen : Hid (l.length = n) := hl.1
  have hn : n ≤ maxLen := Nat.le_trans hl.2.1 hl.2.2.1
  unfold maxLen at hn
  have HL := Lib.hid hl
  have HOK := Lib.hid hok
  clear hl hok
  go_enter Try.func76, Try.ntmps76
  go_wp2
  go_loopg [3, 8] n (fun g s i wr => Below w.heap.size w wr ∧ ∃ k : Nat, n - k ≤ g ∧ k ≤ n ∧ i = .int .i64 k ∧ ∃ sb : ByteArray, s = .string sb ∧ sb.size ≤ 18 * k + 1 ∧ Hid (sb = ⟨(123 :: Pl.labBody (l.take k)).toArray⟩))
  case atStart => exact ⟨Below.refl _ _, 0, Nat.le_refl _, Nat.zero_le _, rfl, _, rfl, Nat.le_refl _, rfl⟩
  case round =>
    obtain ⟨hbel, k, hgk, hk, rfl, sb, rfl, hsb, HSB⟩ := hrel
    have hn6 := Pl.labelsOk_len HOK.out
    have hnn := hlen.out
    obtain ⟨W, rfl⟩ : ∃ W : World, W = wr := ⟨_, rfl⟩
    have HLw := Lib.hid (HL.out.keep fun b hb' => hbel.block b (Nat.lt_of_lt_of_le hb' hB))
    have HBL := Lib.hid hbel
    clear hbel
    by_cases hlt : k < n
    · obtain ⟨x, b0, off, hx, rfl, hbb, g0, g1, d0, d1⟩ := rLabel_get HLw.out hlt
      have hlt' : (k : Int) < (n : Nat) := by omega
      have hlt2 : (0 : Int) ≤ (k : Nat) := by omega
      have HX := Lib.hid hx
      have hnz := Pl.labelOk_sz (Pl.labelsOk_at HOK.out hx)
      obtain ⟨z1, z2, z3, z4⟩ := hnz
      clear hx
      by_cases hk0 : k = 0
      · subst hk0
        simp only [Nat.zero_mul, Nat.add_zero] at d0 d1
        go_wp2
        go_roundg (n - (0 + 1))
        case measure => omega
        case rel => exact ⟨below_step HBL.out (below_new (Below.refl _ _) _), 0 + 1, Nat.le_refl _, by omega, by go_num, _, rfl, by have y1 : (⟨#[61]⟩ : ByteArray).size = 1 := rfl; have y2 : (⟨#[44]⟩ : ByteArray).size = 1 := rfl; simp only [ByteArray.size_append]; omega, by show _ = _; rw [HSB.out, ← Pl.labS_one HX.out]; rfl⟩
      · have hk1 : (0 : Int) < (k : Nat) := by omega
        have HK := Lib.hid hk0
        clear hk0
        go_wp2
        go_roundg (n - (k + 1))
        case measure => omega
        case rel => exact ⟨below_step HBL.out (below_new (Below.refl _ _) _), k + 1, Nat.le_refl _, by omega, by go_num, _, rfl, by have y1 : (⟨#[61]⟩ : ByteArray).size = 1 := rfl; have y2 : (⟨#[44]⟩ : ByteArray).size = 1 := rfl; simp only [ByteArray.size_append]; omega, by show _ = _; rw [HSB.out, ← Pl.labS_next HX.out HK.out]⟩
    · obtain rfl : k = n := by omega
      have HT : Hid (l.take k = l) := List.take_of_length_le (by rw [hlen.out]; exact Nat.le_refl _)
      have hlt' : ¬ (k : Int) < (k : Nat) := by omega
      go_wp2
      go_ret
      exact ⟨by rw [HSB.out, HT.out, show Pl.labelsText l = (⟨(123 :: Pl.labBody l).toArray⟩ : ByteArray) ++ ⟨#[125]⟩ from Pl.ba_ext (by simp [ByteArray.data_append, Pl.labelsText])]; rfl, HBL.out⟩
def Pl.labB (x : Label) : ByteArray := ⟨(Pl.labTxt x).toArray⟩
theorem Pl.labB_of (x : Label) : x.Name ++ (⟨#[61]⟩ : ByteArray) ++ x.Value = Pl.labB x := Pl.ba_ext (by simp [ByteArray.data_append, Pl.labTxt, Pl.labB])
def Pl.pcells (l : List Label) (n k : Nat) : List Value := ((l.take k).map fun x => Value.string (Pl.labB x)) ++ List.replicate (n - k) (.string ⟨#[]⟩)
theorem Pl.pcells_set {l : List Label} {n k : Nat} {x : Label} (hx : l[k]? = some x) (hn : l.length = n) : (Pl.pcells l n k).set k (.string (Pl.labB x)) = Pl.pcells l n (k + 1) := by
  obtain ⟨hk, hg⟩ := List.getElem?_eq_some_iff.1 hx
  unfold Pl.pcells
  have h1 : ((l.take k).map fun x => Value.string (Pl.labB x)).length = k := by rw [List.length_map, List.length_take]; omega
  rw [List.set_append_right _ _ (by omega), h1, Nat.sub_self, show n - k = (n - (k + 1)) + 1 by omega, List.replicate_succ, List.set_cons_zero, List.take_succ_eq_append_getElem hk, hg, List.map_append, List.append_assoc]
  rfl
theorem Pl.pcells_get {l : List Label} {n k : Nat} (hn : l.length = n) (hk : k < n) : ∃ u, (Pl.pcells l n k)[k]? = some u := by
  refine ⟨_, List.getElem?_eq_getElem ?_⟩
  unfold Pl.pcells
  rw [List.length_append, List.length_map, List.length_take, List.length_replicate]
  omega
theorem Pl.pcells_end {l : List Label} {n : Nat} (hn : l.length = n) {j : Nat} {x : Label} (hx : l[j]? = some x) : (Pl.pcells l n n)[j]? = some (.string (Pl.labB x)) := by
  unfold Pl.pcells
  rw [List.take_of_length_le (by omega), Nat.sub_self, List.replicate_zero, List.append_nil, List.getElem?_map, hx]
  rfl
theorem join_c (l : List Label) (g c : Nat) (w : World) (hc : ∀ (j : Nat) x, l[j]? = some x → w.cell? ⟨g, j, none⟩ = some (.string (Pl.labB x))) (hg : g < w.heap.size) (hlc : l.length ≤ c) (hok : Pl.labelsOk l = true) :
    Calls Try.prog 100 #[.slice (some ⟨g, 0, none⟩) l.length c, .string ⟨#[44]⟩] w fun e w' => e = .returned (.string ⟨(Pl.labBody l).toArray⟩) ∧ Below w.heap.size w w' := by
  have h6 := Pl.labelsOk_len hok
  have hb := Pl.labBody_len hok
  have e1 : (l.map Pl.labB).map (·.data.toList) = l.map Pl.labTxt := by rw [List.map_map]; rfl
  have := Any.strings_Join ljJoin ljX g 0 c (l.map Pl.labB) ⟨#[44]⟩ w (fun j x hx => by
    rw [List.getElem?_map] at hx
    cases hj : l[j]? with
    | none => rw [hj] at hx; cases hx
    | some y => rw [hj] at hx; injection hx with hx; subst hx; rw [Nat.zero_add]; exact hc j y hj) hg (by rw [List.length_map]; omega) (by rw [List.length_map]; exact hlc) (by rw [e1]; exact Nat.le_trans hb (by decide))
  rw [e1, List.length_map] at this
  exact this
theorem upto6z {p : Nat → Prop} (h0 : p 0) (h1 : p 1) (h2 : p 2) (h3 : p 3) (h4 : p 4) (h5 : p 5) (h6 : p 6) (n : Nat) (b : n ≤ 6) : p n := by
  have : n = 0 ∨ n = 1 ∨ n = 2 ∨ n = 3 ∨ n = 4 ∨ n = 5 ∨ n = 6 := by omega
  rcases this with rfl | rfl | rfl | rfl | rfl | rfl | rfl <;> assumption
theorem make_strs6 (n : Nat) (h6 : n ≤ 6) (W : World) : (Instr.makeSlice 41 (.int .i64 n) (.int .i64 n)).run Try.prog W = .ok (.slice (some ⟨W.heap.size, 0, none⟩) n n) (W.alloc (.cells (List.replicate n (.string ⟨#[]⟩)).toArray 9)) :=
  upto6z (p := fun n => (Instr.makeSlice 41 (.int .i64 n) (.int .i64 n)).run Try.prog W = .ok (.slice (some ⟨W.heap.size, 0, none⟩) n n) (W.alloc (.cells (List.replicate n (.string ⟨#[]⟩)).toArray 9))) (by kernel_rfl) (by kernel_rfl) (by kernel_rfl) (by kernel_rfl) (by kernel_rfl) (by kernel_rfl) (by kernel_rfl) n h6
set_option maxRecDepth 100000 in
set_option maxHeartbeats 1000000 in
theorem labelsText_c (l : List Label) (A : Option Addr) (n c : Nat) (w : World) (B : Nat) (hl : Mm.SlAt rLabel w B l A n c) (hB : B ≤ w.heap.size) (hok : Pl.labelsOk l = true) :
    Calls Try.prog 78 #[.slice A n c] w fun e w' => e = .returned (.string (Pl.labelsText l)) ∧ Below w.heap.size w w' := by
  have hlen : Hid (l.length = n) := hl.1
  have hn : n ≤ maxLen := Nat.le_trans hl.2.1 hl.2.2.1
  have hn6 : n ≤ 6 := by have := Pl.labelsOk_len hok; have := hlen.out; omega
  unfold maxLen at hn
  have HL := Lib.hid hl
  have HOK := Lib.hid hok
  have hmk := make_strs6 n hn6
  have HS0 := Lib.hid (show Mm.SepF [] w _ [Mm.tblk w.heap.size 9 (Pl.pcells l n 0)] from (Mm.SepF.start w).alloc' rfl 9 (List.replicate n (.string ⟨#[]⟩)))
  clear hl hok
  go_enter Try.func78, Try.ntmps78
  go_wp2
  go_loopg [11] n (fun g i wr => ∃ k : Nat, n - k ≤ g ∧ k ≤ n ∧ i = .int .i64 k ∧ Hid (Mm.SepF [] w wr [Mm.tblk w.heap.size 9 (Pl.pcells l n k)]))
  case atStart => exact ⟨0, Nat.le_refl _, Nat.zero_le _, rfl, HS0.out⟩
  case round =>
    clear HS0 hmk
    obtain ⟨k, hgk, hk, rfl, HS⟩ := hrel
    obtain ⟨W, rfl⟩ : ∃ W : World, W = wr := ⟨_, rfl⟩
    have HLw := Lib.hid (HL.out.keep fun b hb' => HS.out.bel0.block b (Nat.lt_of_lt_of_le hb' hB))
    by_cases hlt : k < n
    · obtain ⟨x, b0, off, hx, rfl, hbb, g0, g1, d0, d1⟩ := rLabel_get HLw.out hlt
      have hlt' : (k : Int) < (n : Nat) := by omega
      have hlt2 : (0 : Int) ≤ (k : Nat) := by omega
      obtain ⟨z1, z2, z3, z4⟩ := Pl.labelOk_sz (Pl.labelsOk_at HOK.out hx)
      obtain ⟨u0, hu0⟩ := Pl.pcells_get hlen.out hlt
      have s0 := HS.out.cell 0 rfl hu0
      have s1 := HS.out.frz (k := k) 0 rfl
      have HX := Lib.hid hx
      have HS2 := Lib.hid ((HS.out.setBlk (k := k) 0 rfl (.string (x.Name ++ (⟨#[61]⟩ : ByteArray) ++ x.Value))).step (below_new (Below.refl _ _) (.cells #[.string x.Name, .string x.Value] 97)))
      have hgw : w.heap.size < W.heap.size := (HS.out.blk 0 rfl).1
      clear hx hu0
      go_wp2
      go_roundg (n - (k + 1))
      case measure => omega
      case rel => exact ⟨k + 1, Nat.le_refl _, by omega, by go_num, by rw [← Pl.pcells_set HX.out hlen.out, ← Pl.labB_of]; exact HS2.out⟩
    · obtain rfl : k = n := by omega
      have hlt' : ¬ (k : Int) < (k : Nat) := by omega
      have HB0 := Lib.hid HS.out.bel0
      have hln := hlen.out
      have HJ := Lib.hid (join_c l w.heap.size k W (fun j x hx => HS.out.cell 0 rfl (Pl.pcells_end hlen.out hx)) (HS.out.blk 0 rfl).1 (by omega) HOK.out)
      rw [hln] at HJ
      have hbl := Pl.labBody_len HOK.out
      obtain ⟨tb, htb⟩ : ∃ tb : ByteArray, tb = ⟨(Pl.labBody l).toArray⟩ := ⟨_, rfl⟩
      have hts : tb.size ≤ 108 := by rw [htb]; exact hbl
      rw [← htb] at HJ
      have HTB := Lib.hid htb
      clear htb hln
      go_wp2_with (go_at_call 100; (with_reducible refine HJ.out.mono ?_); rintro e w1 ⟨rfl, hb1⟩)
      go_ret
      exact ⟨by rw [HTB.out, show Pl.labelsText l = (⟨#[123]⟩ : ByteArray) ++ ⟨(Pl.labBody l).toArray⟩ ++ ⟨#[125]⟩ from Pl.ba_ext (by simp [ByteArray.data_append, Pl.labelsText])]; rfl, below_step HB0.out hb1⟩
end Go.Proofs.Ytnppcdiicnofpaa
