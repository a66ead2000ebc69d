/-
  Joined texts, in build order: S8, Sa, Cu, Du, Dv, Dy, Sb, S9, LwN, Sn, Fa. Each part says what it proves; no conditions beyond those that a part names.
-/
import Derived.Test.YtnppcdiicnofpabZ01
import Derived.Test.YtnppcdiicnofpabZ02
import Derived.Test.YtnppcdiicnofpabZ03
import Derived.Test.YtnppcdiicnofpabZ04
import Derived.Test.YtnppcdiicnofpabZ05
import Derived.Test.YtnppcdiicnofpabZ06
import Derived.Lib.Hide
import Derived.Deep.DeepFit
import Derived.Deep.RegionLaw
import Derived.Deep.LoopGhost
import Derived.Laws.Bits64b
import Derived.WalkSmall
import Derived.Deep.DeepCutAuto
import Derived.Deep.CutBlock
/-
  Contracts: TopOf of the program; the plain order by value. No conditions beyond those named.
-/
namespace Go.Proofs.Ytnppcdiicnofpab
open Go.RowKit
attribute [local go_sem] und_cell World.cell?_alloc_some
namespace Pl
/-- put among those of greater or equal value -/
def topIns (v : Int → Int) (x : Int) : List Int → List Int
  | [] => [x]
  | y :: t => if v x ≤ v y then y :: topIns v x t else x :: y :: t
def topTo (v : Int → Int) : Nat → List Int
  | 0 => []
  | i + 1 => topIns v i (topTo v i)
def iota (n : Nat) : List Int := (List.range n).map fun i : Nat => (i : Int)
theorem iota_len (n : Nat) : (iota n).length = n := by unfold iota; simp
theorem iota_succ (n : Nat) : iota (n + 1) = iota n ++ [(n : Int)] := by unfold iota; rw [List.range_succ, List.map_append]; rfl
theorem iota_get {n i : Nat} {x : Int} (h : (iota n)[i]? = some x) : i < n ∧ x = i := by
  unfold iota at h
  rw [List.getElem?_map] at h
  by_cases hi : i < n
  · rw [List.getElem?_range hi] at h
    simp at h
    exact ⟨hi, h.symm⟩
  · rw [List.getElem?_eq_none (by simpa using hi)] at h
    cases h
theorem iota_asc (n b : Nat) : Asc (iota n) 0 b := fun i j x y _ hij _ hx hy => by
  have := iota_get hx
  have := iota_get hy
  omega
theorem iota_num (n : Nat) : NumIn (iota n) n := fun i x h => by have := iota_get h; omega
theorem topIns_perm (v : Int → Int) (x : Int) (o : List Int) : (topIns v x o).Perm (x :: o) := by
  induction o with
  | nil => exact List.Perm.refl _
  | cons y t ih =>
    rw [topIns]
    split
    · exact (List.Perm.cons y ih).trans (List.Perm.swap x y t)
    · exact List.Perm.refl _
theorem topIns_pw (v : Int → Int) (x : Int) (o : List Int) (h : o.Pairwise (Bef v)) (hl : ∀ y, y ∈ o → y < x) : (topIns v x o).Pairwise (Bef v) := by
  induction o with
  | nil => exact List.pairwise_singleton _ _
  | cons y t ih =>
    obtain ⟨h1, h2⟩ := List.pairwise_cons.1 h
    rw [topIns]
    split
    · rename_i hc
      refine List.pairwise_cons.2 ⟨fun z hz => ?_, ih h2 fun z hz => hl z (List.mem_cons_of_mem _ hz)⟩
      rcases List.mem_cons.1 ((topIns_perm v x t).mem_iff.1 hz) with rfl | hz
      · have := hl y List.mem_cons_self
        unfold Bef; omega
      · exact h1 z hz
    · rename_i hc
      have hb : Bef v x y := by unfold Bef; omega
      refine List.pairwise_cons.2 ⟨fun z hz => ?_, h⟩
      rcases List.mem_cons.1 hz with rfl | hz
      · exact hb
      · exact hb.trans (h1 z hz)
theorem topTo_perm (v : Int → Int) (n : Nat) : (topTo v n).Perm (iota n) := by
  induction n with
  | zero => exact List.Perm.refl _
  | succ n ih =>
    rw [topTo, iota_succ]
    exact (topIns_perm v n _).trans ((List.Perm.cons _ ih).trans (List.perm_append_singleton _ _).symm)
theorem topTo_len (v : Int → Int) (n : Nat) : (topTo v n).length = n := (topTo_perm v n).length_eq.trans (iota_len n)
theorem topTo_mem {v : Int → Int} {n : Nat} {y : Int} (h : y ∈ topTo v n) : 0 ≤ y ∧ y < n := by
  obtain ⟨i, hi⟩ := List.mem_iff_getElem?.1 ((topTo_perm v n).mem_iff.1 h)
  exact iota_num n i y hi
theorem topTo_pw (v : Int → Int) (n : Nat) : (topTo v n).Pairwise (Bef v) := by
  induction n with
  | zero => exact List.Pairwise.nil
  | succ n ih => exact topIns_pw v n _ ih fun y hy => (topTo_mem hy).2
theorem topTo_srt (v : Int → Int) (n : Nat) : Srt v (topTo v n) 0 (topTo v n).length := fun i j x y _ hij _ hx hy => by
  obtain ⟨h1, e1⟩ := List.getElem?_eq_some_iff.1 hx
  obtain ⟨h2, e2⟩ := List.getElem?_eq_some_iff.1 hy
  have := List.pairwise_iff_getElem.1 (topTo_pw v n) i j h1 h2 hij
  rwa [e1, e2] at this
theorem topTo_of {v : Int → Int} {n : Nat} {d : List Int} (h : MOut v (iota n) d 0 n) : d = topTo v n := by
  have hl : d.length = n := h.1.len.trans (iota_len n)
  exact srt_unique (h.1.perm.trans (topTo_perm v n).symm) (by rw [hl]; exact h.2) (topTo_srt v n)
def topOk (l : List Total) (op many : Int) : Bool := totalsOk l && isIn op 1 4 && isIn many 0 40
def topOf (l : List Total) (op many : Int) : List Int × Bool := if topOk l op many = true then ((topTo (valAt (totalValues l op)) l.length).take many.toNat, true) else ([], false)
theorem totVal_bd {x : Total} (h : totOk x = true) (op : Int) : -1000000000 ≤ totVal x op ∧ totVal x op ≤ 1000000000 := by
  unfold totOk at h
  simp only [Bool.and_eq_true, isIn_iff, decide_eq_true_eq] at h
  obtain ⟨⟨⟨⟨-, h1⟩, h2⟩, h3⟩, h4⟩ := h
  unfold totVal
  repeat' split
  all_goals omega
end Pl
/-- the front of an owned list of numbers -/
theorem Mm.SlOwn.takeI {w : World} {e : TypeId} {xs : List Int} {A : Option Addr} {n c m : Nat} {fp : List Nat} (h : Mm.SlOwn Mm.int e w xs (.slice A n c) fp) (hm : m ≤ n) : Mm.SlOwn Mm.int e w (xs.take m) (.slice A m c) fp := by
  obtain ⟨ho, hfp, hown⟩ := Mm.flat1_int.owns h
  obtain ⟨A', n', c', hv, hn, hc⟩ := h.form
  injection hv with e1 e2 e3
  subst e1 e2 e3
  have h2 : w.ownsRow 0 e 1 (.slice A m c) (xs.take m).length ((xs.take m).map fun x => Value.int .i64 x) := by
    have hl : (xs.take m).length = m := by rw [List.length_take]; omega
    rw [hl]
    obtain ⟨k1, k2⟩ := ho
    refine ⟨by rw [List.length_map, hl]; omega, ?_⟩
    rcases k2 with ⟨h3, h4⟩ | ⟨g, cap, cur, h3, h4, h5, h6, h7, h8, h9⟩
    · injection h3 with a1 a2 a3
      subst a1 a2 a3
      exact .inl ⟨by rw [show m = 0 by omega], by omega⟩
    · injection h3 with a1 a2 a3
      subst a1 a3
      refine .inr ⟨g, c, cur, rfl, h4, h5, by omega, h7, h8, ?_⟩
      rw [List.map_take, ← h9, List.take_take]
      congr 1
      omega
  have h3 := Mm.flat1_int.row h2 (fun x hx => hown x (List.mem_of_mem_take hx) w)
  rw [hfp, show (Value.slice A n c).ownBlock = (Value.slice A m c).ownBlock by cases A <;> rfl]
  exact h3
set_option maxRecDepth 100000 in
set_option maxHeartbeats 2000000 in
theorem implTopOf_c (l : List Total) (A : Option Addr) (n c : Nat) (op many : Int) (w : World) (B : Nat) (hl : Mm.SlAt rTotal w B l A n c) (hB : B ≤ w.heap.size) :
    Calls Try.prog 12 #[.slice A n c, .int .i64 op, .int .i64 many] w (Mm.RetS2 Mm.int 3 w (Pl.topOf l op many).1 (Pl.topOf l op many).2) := by
  have hlen : Hid (l.length = n) := hl.1
  have HL := Lib.hid hl
  clear hl
  cases hc : Pl.totalsOk l
  · have HF : Hid (Pl.topOf l op many = ([], false)) := if_neg (by unfold Pl.topOk; rw [hc]; simp)
    go_enter Try.func12, Try.ntmps12
    go_wp2_with (go_at_call 26; refine (areTotals_c l _ _ _ _ B HL.out hB).mono ?_; rintro e w1 ⟨rfl, hb1⟩)
    rw [HF.out]
    go_ret2
    exact (Mm.Acc.nil hb1).ret
  cases hp : Pl.isIn op 1 4
  · have HF : Hid (Pl.topOf l op many = ([], false)) := if_neg (by unfold Pl.topOk; rw [hp]; simp)
    go_enter Try.func12, Try.ntmps12
    go_wp2_with first
      | (go_at_call 26; refine (areTotals_c l _ _ _ _ B HL.out hB).mono ?_; rintro e w1 ⟨rfl, hb1⟩)
      | (go_at_call 33; refine (within_c _ _ _ _).mono ?_; rintro e w2 ⟨rfl, rfl⟩)
    rw [HF.out]
    go_ret2
    exact (Mm.Acc.nil hb1).ret
  cases hq : Pl.isIn many 0 40
  · have HF : Hid (Pl.topOf l op many = ([], false)) := if_neg (by unfold Pl.topOk; rw [hq]; simp)
    go_enter Try.func12, Try.ntmps12
    go_wp2_with first
      | (go_at_call 26; refine (areTotals_c l _ _ _ _ B HL.out hB).mono ?_; rintro e w1 ⟨rfl, hb1⟩)
      | (go_at_call 33; refine (within_c _ _ _ _).mono ?_; rintro e w2 ⟨rfl, rfl⟩)
    rw [HF.out]
    go_ret2
    exact (Mm.Acc.nil hb1).ret
  obtain ⟨mn, rfl⟩ : ∃ mn : Nat, many = mn := ⟨many.toNat, by have := Pl.isIn_iff.1 hq; omega⟩
  have hmn : mn ≤ 40 := by have := Pl.isIn_iff.1 hq; omega
  have HF : Hid (Pl.topOf l op mn = ((Pl.topTo (Pl.valAt (Pl.totalValues l op)) l.length).take mn, true)) := if_pos (by unfold Pl.topOk; rw [hc, hp, hq]; rfl)
  have hpb := Pl.isIn_iff.1 hp
  have hn : n ≤ 40 := by have := Pl.totalsOk_len hc; have := hlen.out; omega
  have HVB : Hid (∀ (j : Nat) (u : Int), (Pl.totalValues l op)[j]? = some u → -1000000000 ≤ u ∧ u ≤ 1000000000) := Lib.hid (fun j u hu => by
    unfold Pl.totalValues at hu
    rw [List.getElem?_map] at hu
    cases hx : l[j]? with
    | none => rw [hx] at hu; cases hu
    | some x => rw [hx] at hu; injection hu with hu; rw [← hu]; exact Pl.totVal_bd (Pl.totalsOk_at hc hx) op)
  have HVL : Hid ((Pl.totalValues l op).length = n) := by show _ = _; unfold Pl.totalValues; rw [List.length_map]; exact hlen.out
  rw [HF.out]
  obtain ⟨vs, hvs⟩ : ∃ vs, Pl.totalValues l op = vs := ⟨_, rfl⟩
  have CV := fun (W : World) (h : Below w.heap.size w W) => totalValues_c l op A n c W B (HL.out.keep fun b hb' => h.block b (Nat.lt_of_lt_of_le hb' hB)) (Nat.le_trans hB h.size) hpb hn
  rw [hvs] at HVB HVL CV ⊢
  clear hvs HF
  have HCV := Lib.hid CV
  clear CV
  obtain ⟨i0, hi, hz0, hz1, hz2⟩ := info_parts Try.infoVi
  go_enter Try.func12, Try.ntmps12
  go_upto_region 4 with first
    | (go_at_call 26; refine (areTotals_c l _ _ _ _ B HL.out hB).mono ?_; rintro e w1 ⟨rfl, hb1⟩)
    | (go_at_call 33; refine (within_c _ _ _ _).mono ?_; rintro e w2 ⟨rfl, rfl⟩)
    | (go_at_call 34; refine (HCV.out _ hb1).mono ?_; rintro e w3 ⟨A3, n3, c3, f3, rfl, k1, k2, k3, k4⟩; (have HO3 := Lib.hid (And.intro k1 (And.intro k2 (And.intro (fun b hb => Nat.le_trans hb1.size (k3 b hb)) (below_step hb1 k4))))); clear k1 k2 k3 k4 hb1)
  have hn3 : n3 = n := by obtain ⟨_, _, _, hv, q1, _⟩ := HO3.out.1.form; injection hv with _ q2 _; have := HVL.out; omega
  subst hn3
  obtain ⟨gv, hgv⟩ : ∃ gv, w3.heap.size = gv := ⟨_, rfl⟩
  obtain ⟨W4, hW4⟩ : ∃ W4, w3.alloc (.cells #[.slice A3 n3 c3] 37) = W4 := ⟨_, rfl⟩
  have HCP : Hid (CapV vs A3 n3 c3 gv W4.heap.size W4) := Lib.hid (by
    have hb : Below w3.heap.size w3 W4 := by rw [← hW4]; exact below_new (Below.refl _ _) _
    have hk : Mm.Blk W4 gv 37 [.slice A3 n3 c3] := by rw [← hW4, ← hgv]; exact Mm.Blk.new w3 _ _
    exact ⟨hk.cell rfl, ((HO3.out.1.weak HO3.out.1.olt).keep fun b hb' => hb.block b hb').more hb.size, hk.lt, Nat.le_refl _, HVB.out⟩)
  have HB4 : Hid (Below w.heap.size w W4) := Lib.hid (by rw [← hW4]; exact below_step HO3.out.2.2.2 (below_new (Below.refl _ _) _))
  have HS0 := Lib.hid ((Mm.SepF.start W4).add (Below.refl _ _) (t := Mm.tsl Mm.int 3 [] (.slice none 0 0) []) Mm.SlOwn.nil List.nodup_nil (fun b hb => by cases hb))
  rw [hW4, hgv]
  clear hW4 hgv HO3 hc hp hq hpb
  have b0 := HCP.out.cell
  go_wp2
  clear b0
  go_loopg [9, 29] n3 (fun gg s9 s29 wr => ∃ (k : Nat) (A5 : Option Addr) (c5 : Nat) (f5 : List Nat), n3 - k ≤ gg ∧ k ≤ n3 ∧ s9 = .slice A5 k c5 ∧ s29 = .int .i64 k ∧ Hid (Mm.SepF [] W4 wr [Mm.tsl Mm.int 3 (Pl.iota k) (.slice A5 k c5) f5]))
  case atStart => exact ⟨0, none, 0, [], Nat.le_refl _, Nat.zero_le _, rfl, rfl, by rw [show Pl.iota 0 = [] from rfl]; exact HS0.out⟩
  case round =>
    clear HS0
    obtain ⟨k, A5, c5, f5, hgk, hk, rfl, rfl, HS⟩ := hrel
    obtain ⟨W, rfl⟩ : ∃ W : World, W = wr := ⟨_, rfl⟩
    by_cases hlt : k < n3
    · have f1 : (k : Int) < (n3 : Nat) := by omega
      have hI : Mm.I64 (k : Int) := by unfold Mm.I64; omega
      have HI := Lib.hid hI
      have HIL : Hid ((Pl.iota k).length = k) := Pl.iota_len k
      clear hI
      go_wp2_with (at_builtin; refine Mm.app_list (x := (k : Int)) HS.out 0 rfl rfl (.tmp 32) (.tmp 34) 37 rfl i0 _ 8 Try.underlying37 hi hz0 hz1 hz2 rfl (by decide) rfl rfl (fun W => ⟨rfl, HI.out, rfl⟩) HIL.out (by unfold maxLen; omega) (by omega) ?_; intro g cap w' fp' hs; (have HS3 := Lib.hid hs); clear hs)
      go_roundg (n3 - (k + 1))
      case measure => omega
      case rel => exact ⟨k + 1, _, cap, fp', Nat.le_refl _, by omega, rfl, by go_num, by rw [Pl.iota_succ]; exact HS3.out⟩
    · obtain rfl : k = n3 := by omega
      have f1 : ¬ (k : Int) < (k : Nat) := by omega
      obtain ⟨m, hm⟩ : ∃ m : Nat, (if (mn : Int) < (k : Int) then (mn : Int) else (k : Int)) = m := ⟨if mn < k then mn else k, by split <;> split <;> omega⟩
      have hmk : m ≤ k ∧ m ≤ mn ∧ (m = mn ∨ m = k) := by split at hm <;> omega
      have hmin : min (mn : Int) (k : Int) = (m : Int) := by omega
      have HCP2 := Lib.hid (HCP.out.bel HS.out.bel0)
      have hcap : k ≤ c5 ∧ c5 ≤ maxLen ∧ (A5 = none → c5 = 0) := (HS.out.rdSl 0 rfl).2.imp id (fun h => ⟨h.1, h.2.1⟩)
      have CS := sortS_c vs A3 k c3 gv W4.heap.size (Pl.iota k) A5 k c5 f5 W HCP2.out (HS.out.sl 0 rfl) (HS.out.ndat (i := 0) rfl) (fun h => by have := (HS.out.new gv (Mm.SepF.mem (i := 0) rfl h)).resolve_left (fun h => by cases h); have := HCP.out.lt; omega) (fun b hb => (HS.out.new b (Mm.SepF.mem (i := 0) rfl hb)).resolve_left (fun h => by cases h)) hn (Pl.iota_num k) (Pl.iota_asc k k)
      have f3 : (0 : Int) ≤ (m : Nat) := by omega
      have f4 : ((m : Nat) : Int).toNat = m := by omega
      have f5' : (m : Int) ≤ (k : Nat) := by omega
      have f6 : (m : Int) ≤ (c5 : Nat) := by have := hcap.1; omega
      have hcm : c5 ≤ 9223372036854775807 := by have := hcap.2.1; unfold maxLen at this; omega
      have HM := Lib.hid hmk
      clear hcap hm
      go_wp2_with (go_at_call 35; (with_reducible refine CS.mono ?_); clear CS; rintro ex w5 ⟨rfl, d', HZ, hz⟩; (have HS1 := Lib.hid (HS.out.call 0 rfl hz.left)); (have HZ1 := Lib.hid (Pl.topTo_of HZ)); clear hz HZ)
      go_ret2
      refine ⟨A5, m, c5, f5, rfl, ?_, HS1.out.ndat (i := 0) rfl, fun b hb => ?_, below_step HB4.out HS1.out.bel0⟩
      · have h1 := (HS1.out.sl 0 rfl).takeI HM.out.1
        rw [HZ1.out] at h1
        have hl : l.length = k := hlen.out
        show Mm.SlOwn Mm.int 3 w5 ((Pl.topTo (Pl.valAt vs) l.length).take mn) _ _
        rw [hl]
        rcases HM.out.2.2 with h | h
        · rw [← h]; exact h1
        · have h2 : (Pl.topTo (Pl.valAt vs) k).length = k := Pl.topTo_len _ _
          rw [List.take_of_length_le (by rw [h2]; have := HM.out.2.1; omega)]
          rwa [List.take_of_length_le (by rw [h2]; omega)] at h1
      · have := (HS1.out.new b (Mm.SepF.mem (i := 0) rfl hb)).resolve_left (fun h => by cases h)
        have := HB4.out.size
        omega
end Go.Proofs.Ytnppcdiicnofpab

/-
  Plain law: coarser totals follow from finer ones; the top groups are the greatest. No program in sight. No conditions.
-/
namespace Go.Proofs.Ytnppcdiicnofpab
namespace Pl
theorem tkeep_tadd (few : List ByteArray) (o t : Total) : tkeep few (tadd o t) = tadd (tkeep few o) (tkeep few t) := rfl
theorem txt_keep (few : List ByteArray) {o t : Total} (h : o.Labels = t.Labels) : txt (tkeep few o) = txt (tkeep few t) := by
  show labelsText (keepL o.Labels few) = labelsText (keepL t.Labels few)
  rw [h]
theorem keep_labs {few : List ByteArray} {l : List Total} (h : ∀ x, x ∈ l → labelsOk x.Labels = true) : ∀ x, x ∈ l.map (tkeep few) → labelsOk x.Labels = true := fun x hx => by
  obtain ⟨y, hy, rfl⟩ := List.mem_map.1 hx
  exact labelsOk_keep few (h y hy)
theorem plus_right {s : ByteArray} {R : List Total} {t : Total} (hR : ∀ x, x ∈ R → labelsOk x.Labels = true) (ht : labelsOk t.Labels = true) (x : Option Total) : plus x (plus (agg s [t]) (agg s R)) = plus (plus x (agg s R)) (agg s [t]) := by
  rw [plus_assoc, plus_comm (A := [t]) (B := R) (fun y hy => by rw [List.mem_singleton.1 hy]; exact ht) hR]
theorem agg_put_map (few : List ByteArray) {l : List Total} {t : Total} (hl : ∀ x, x ∈ l → labelsOk x.Labels = true) (ht : labelsOk t.Labels = true) (s : ByteArray) :
    agg s ((tput l t).map (tkeep few)) = plus (agg s (l.map (tkeep few))) (agg s [tkeep few t]) := by
  have hk := labelsOk_keep few ht
  by_cases hit : ∃ o, l[tpos (txt t) l]? = some o ∧ txt o = txt t
  · obtain ⟨o, ho, he⟩ := hit
    rw [tput_hit ho he]
    obtain ⟨hp, hx⟩ := List.getElem?_eq_some_iff.1 ho
    have hlab : o.Labels = t.Labels := labelsText_inj (hl o (List.mem_of_getElem? ho)) ht he
    have e1 : l = l.take (tpos (txt t) l) ++ o :: l.drop (tpos (txt t) l + 1) := by
      rw [← hx, ← List.drop_eq_getElem_cons hp, List.take_append_drop]
    have e2 : l.set (tpos (txt t) l) (tadd o t) = l.take (tpos (txt t) l) ++ tadd o t :: l.drop (tpos (txt t) l + 1) := by
      rw [List.set_eq_take_append_cons_drop, if_pos hp]
    generalize hp' : tpos (txt t) l = p at *
    rw [e2]
    have e3 : agg s (l.map (tkeep few)) = agg s ((l.take p ++ o :: l.drop (p + 1)).map (tkeep few)) := by rw [← e1]
    rw [e3]
    simp only [List.map_append, List.map_cons, agg_app, agg_cons]
    have hR : ∀ x, x ∈ (l.drop (p + 1)).map (tkeep few) → labelsOk x.Labels = true := keep_labs (fun x hx => hl x (List.mem_of_mem_drop hx))
    have hh : (if txt (tkeep few (tadd o t)) = s then some (tkeep few (tadd o t)) else none) = plus (if txt (tkeep few o) = s then some (tkeep few o) else none) (agg s [tkeep few t]) := by
      rw [agg_one, tkeep_tadd, tadd_txt, ← txt_keep few hlab]
      by_cases c : txt (tkeep few o) = s
      · rw [if_pos c, if_pos c, if_pos c]; rfl
      · rw [if_neg c, if_neg c, if_neg c]; rfl
    rw [hh, plus_assoc (if txt (tkeep few o) = s then some (tkeep few o) else none), plus_right hR hk, ← plus_assoc]
    rfl
  · have hm : ∀ o, l[tpos (txt t) l]? = some o → txt o ≠ txt t := fun o ho he => hit ⟨o, ho, he⟩
    rw [tput_miss hm]
    have hR : ∀ x, x ∈ (l.drop (tpos (txt t) l)).map (tkeep few) → labelsOk x.Labels = true := keep_labs (fun x hx => hl x (List.mem_of_mem_drop hx))
    have e3 : agg s (l.map (tkeep few)) = agg s ((l.take (tpos (txt t) l) ++ l.drop (tpos (txt t) l)).map (tkeep few)) := by rw [List.take_append_drop]
    rw [e3]
    unfold Mm.insertAt
    generalize tpos (txt t) l = p at *
    rw [List.map_append, List.map_append]
    simp only [List.map_cons, List.map_nil, List.map_append, agg_app, agg_cons]
    have h9 := plus_right (s := s) (t := tkeep few t) hR hk (agg s ((l.take p).map (tkeep few)))
    rw [agg_one] at h9
    first
      | (rw [show agg s [] = none from rfl, plus_none]; exact h9)
      | exact h9
theorem tput_labs {l : List Total} {t : Total} (hl : ∀ x, x ∈ l → labelsOk x.Labels = true) (ht : labelsOk t.Labels = true) : ∀ x, x ∈ tput l t → labelsOk x.Labels = true := fun x hx => by
  rcases tput_mem hx with h | rfl | ⟨o, ho, rfl⟩
  · exact hl x h
  · exact ht
  · exact hl o ho
theorem tcomb_labs {X : List Total} (h : ∀ x, x ∈ X → labelsOk x.Labels = true) : ∀ n, ∀ x, x ∈ tcomb (X.take n) → labelsOk x.Labels = true
  | 0 => fun x hx => by simp [tcomb] at hx
  | n + 1 => by
    by_cases hn : n < X.length
    · rw [List.take_succ_eq_append_getElem hn, tcomb_snoc]
      exact tput_labs (tcomb_labs h n) (h _ (List.getElem_mem hn))
    · rw [List.take_of_length_le (by omega), ← List.take_of_length_le (show X.length ≤ n by omega)]
      exact tcomb_labs h n
theorem agg_comb_map (few : List ByteArray) {X : List Total} (h : ∀ x, x ∈ X → labelsOk x.Labels = true) (s : ByteArray) : ∀ n, agg s ((tcomb (X.take n)).map (tkeep few)) = agg s ((X.take n).map (tkeep few))
  | 0 => by simp [tcomb]
  | n + 1 => by
    by_cases hn : n < X.length
    · rw [List.take_succ_eq_append_getElem hn, tcomb_snoc, agg_put_map few (tcomb_labs h n) (h _ (List.getElem_mem hn)), agg_comb_map few h s n, List.map_append, agg_app]
      rfl
    · rw [List.take_of_length_le (by omega), ← List.take_of_length_le (show X.length ≤ n by omega)]
      exact agg_comb_map few h s n
theorem comb_map (few : List ByteArray) {X : List Total} (h : ∀ x, x ∈ X → labelsOk x.Labels = true) : tcomb ((tcomb X).map (tkeep few)) = tcomb (X.map (tkeep few)) := by
  refine sort_eq (tcomb_sort _) (tcomb_sort _) fun s => ?_
  rw [agg_comb, agg_comb]
  have := agg_comb_map few h s X.length
  rwa [List.take_of_length_le (Nat.le_refl _)] at this
theorem idxFrom_take (s : ByteArray) (names : List ByteArray) (k : Nat) (h : hasN (names.take k) s = true) : hasN names s = true := by
  unfold hasN idx at h ⊢
  rw [decide_eq_true_eq] at h ⊢
  obtain ⟨j, _, hj, he⟩ := (Pl.idxFrom_iff _ _).1 h
  rw [Nat.zero_add, List.length_take] at hj
  have hl : j < names.length := by omega
  refine (Pl.idxFrom_iff _ _).2 ⟨j, Nat.zero_le _, by omega, ?_⟩
  rw [strAt_of (List.getElem?_eq_getElem hl)]
  rw [strAt_of (x := names[j]) (by rw [List.getElem?_take, if_pos (by omega)]; exact List.getElem?_eq_getElem hl)] at he
  exact he
theorem keep_few {few names : List ByteArray} (h : ∀ s, hasN few s = true → hasN names s = true) (l : List Label) : keepL (keepL l names) few = keepL l few := by
  unfold keepL
  rw [List.filter_filter]
  congr 1
  funext x
  by_cases c : hasN few x.Name = true
  · rw [c, h _ c]; rfl
  · rw [Bool.not_eq_true] at c; rw [c]; rfl
theorem coarse_by {l : List Item} {names few : List ByteArray} {ts : List Total} (h : tby l names = (ts, true)) (hf : ∀ s, hasN few s = true → hasN names s = true) (hl : few.length ≤ 6) : tcoarse ts few = tby l few := by
  obtain ⟨h1, h2, rfl⟩ := tby_true h
  have hx : ∀ x, x ∈ l.map (titem names) → labelsOk x.Labels = true := fun x hx => totOk_lab (items_tok names h1 x hx)
  have e : (l.map (titem names)).map (tkeep few) = l.map (titem few) := by
    rw [List.map_map]
    apply List.map_congr_left
    intro x _
    show (⟨keepL (keepL x.Labels names) few, x.Value, 1, x.Value, x.Value⟩ : Total) = ⟨keepL x.Labels few, x.Value, 1, x.Value, x.Value⟩
    rw [keep_few hf]
  rw [tby_of h1 hl]
  unfold tcoarse
  rw [if_pos (by rw [tby_good names h1]; simpa using hl), comb_map few hx, e]
  unfold tgood
  rw [if_pos (tby_good few h1)]
/-- no group that is not among the first is greater -/
theorem top_most {v : Int → Int} {n i : Nat} {k j : Int} (hk : (topTo v n)[i]? = some k) (hj : 0 ≤ j ∧ j < n) (hn : j ∉ (topTo v n).take (i + 1)) : v j ≤ v k := by
  have hm : j ∈ topTo v n := (topTo_perm v n).mem_iff.2 (by
    unfold iota
    exact List.mem_map.2 ⟨j.toNat, List.mem_range.2 (by omega), by omega⟩)
  obtain ⟨q, hq⟩ := List.mem_iff_getElem?.1 hm
  have hiq : i < q := by
    apply Classical.byContradiction
    intro hh
    refine hn (List.mem_iff_getElem?.2 ⟨q, ?_⟩)
    rw [List.getElem?_take, if_pos (by omega)]
    exact hq
  have hs := topTo_srt v n i q k j (Nat.zero_le _) hiq (List.getElem?_eq_some_iff.1 hq).1 hk hq
  unfold Bef at hs
  omega
end Pl
end Go.Proofs.Ytnppcdiicnofpab

/-
  Contracts: the cursor that draws choices from bytes. No conditions.
-/
namespace Go.Proofs.Ytnppcdiicnofpab
open Go.RowKit
attribute [local go_sem] und_cell World.cell?_alloc_some
namespace Mm
def U8 (n : Int) : Prop := 0 ≤ n ∧ n ≤ 255
def u8 : Rep Int := flat 1 (fun n => [.int .u8 n]) U8 (fun _ => rfl) (fun _ u hu => by rw [List.mem_singleton.1 hu]; rfl)
theorem opens_u8 {P : Program} {t : TypeId} (ht : P.underlying t = some (.int .u8)) (hc : P.cellsOf t = 1) : Opens P t u8 := ⟨hc, fun H enc w base spare held fuel cs x h => by
  obtain ⟨n, rfl, _, hw⟩ := DataW.trod_int ht h
  refine ⟨n, rfl, ?_⟩
  simp [Lit.wf, IntKind.min, IntKind.max, IntKind.signed, IntKind.bits] at hw
  unfold U8
  omega⟩
/-- a cursor: its block -/
def tcur (T : TypeId) (A : Option Addr) (n c g K : Nat) : Thing :=
  ⟨[g], fun w => ∃ at_ seed : Int, Blk w g T [.slice A n c, .int .i64 at_, .int .u64 seed] ∧ 0 ≤ at_ ∧ at_ ≤ K, fun ⟨a, s, h1, h2⟩ k => ⟨a, s, h1.keep (k g (by simp)), h2⟩, fun ⟨a, s, h1, h2⟩ b hb => by rw [List.mem_singleton.1 hb]; exact h1.lt⟩
theorem tcur_more {T : TypeId} {A : Option Addr} {n c g K K' : Nat} {w : World} (h : (tcur T A n c g K).holds w) (hk : K ≤ K') : (tcur T A n c g K').holds w := by
  obtain ⟨a, s, h1, h2, h3⟩ := h
  exact ⟨a, s, h1, h2, by omega⟩
theorem SepF.swapFor {F : List Nat} {w0 wr : World} {ts : List Thing} {t t' : Thing} (h : SepF F w0 wr ts) (i : Nat) (hi : ts[i]? = some t) (hf : t'.fp = t.fp) (hh : t.holds wr → t'.holds wr) : SepF F w0 wr (ts.set i t') :=
  h.upd hi (Chg.refl _ _) (hh (h.at_ i hi)) (by rw [hf]; exact h.ndat hi) (fun b hb => .inl (hf ▸ hb))
theorem SepF.more {F : List Nat} {w0 wr : World} {ts : List Thing} {T : TypeId} {A : Option Addr} {n c g K K' : Nat} (h : SepF F w0 wr ts) (i : Nat) (hi : ts[i]? = some (tcur T A n c g K)) (hk : K ≤ K') : SepF F w0 wr (ts.set i (tcur T A n c g K')) :=
  h.swapFor i hi rfl fun h => tcur_more h hk
end Mm
theorem opens_u8S : Mm.Opens Try.prog 22 (Mm.slice Mm.u8 5) := Mm.opens_slice Try.underlying22 (by kernel_rfl) (by decide) (Mm.opens_u8 Try.underlying5 (by kernel_rfl))
theorem next_left {T : TypeId} {A : Option Addr} {n c g K p q : Nat} {a s a' s' : Int} {w : World} (hb : Mm.Blk w g T [.slice A n c, .int .i64 a, .int .u64 s]) (h0 : 0 ≤ a') (h1 : a' ≤ K) :
    Mm.Left [g] w ((((w.drewN p).setCell ⟨g, 1, none⟩ (.int .i64 a')).setCell ⟨g, 2, none⟩ (.int .u64 s')).drewN q) (Mm.tcur T A n c g K) := by
  have h2 := (((hb.bel (below_drewN (Below.refl _ w) p)).set_ 1 (.int .i64 a')).set_ 2 (.int .u64 s'))
  have h3 := h2.bel (below_drewN (Below.refl _ _) q)
  have h4 : Mm.Chg [g] w (((w.drewN p).setCell ⟨g, 1, none⟩ (.int .i64 a')).setCell ⟨g, 2, none⟩ (.int .u64 s')) := ((Mm.Chg.of_below (below_drewN (Below.refl _ w) p)).setCell (by simp) _).setCell (by simp) _
  exact ⟨h4.trans (Mm.Chg.of_below (below_drewN (Below.refl _ _) q)), by simp [Mm.tcur], fun b hb => .inl (by simpa [Mm.tcur] using hb), a', s', h3, h0, h1⟩
theorem u64_bd (z : Int) : 0 ≤ IntKind.u64.wrap z ∧ IntKind.u64.wrap z < 18446744073709551616 := by rw [IntKind.wrap_u64]; omega
theorem and255 (z : Int) : 0 ≤ wrap64 (bits .and .u64 (IntKind.u64.wrap z / 1099511627776) 255) ∧ wrap64 (bits .and .u64 (IntKind.u64.wrap z / 1099511627776) 255) ≤ 255 := by
  have h := u64_bd z
  obtain ⟨m, hm⟩ : ∃ m : Nat, IntKind.u64.wrap z / 1099511627776 = m := ⟨(IntKind.u64.wrap z / 1099511627776).toNat, by omega⟩
  rw [hm, show (255 : Int) = ((255 : Nat) : Int) from rfl, bits_and_u64_nat m 255 (by omega) (by omega)]
  have h2 : m &&& 255 ≤ 255 := Nat.and_le_right
  rw [IntWalk.wrap64_in _ (by omega)]
  omega
set_option maxRecDepth 100000 in
set_option maxHeartbeats 1000000 in
theorem next_c (code : List Int) (A : Option Addr) (n c g K : Nat) (w : World) (B : Nat) (hc : Mm.SlAt Mm.u8 w B code A n c) (hB : B ≤ g) (h : (Mm.tcur 50 A n c g K).holds w) (hK : K < 4611686018427387904) :
    Calls Try.prog 57 #[.pointer (some ⟨g, 0, none⟩)] w fun e w' => ∃ b : Int, e = .returned (.int .i64 b) ∧ 0 ≤ b ∧ b ≤ 255 ∧ Mm.Left [g] w w' (Mm.tcur 50 A n c g (K + 1)) := by
  obtain ⟨a, s, hb, h0, h1⟩ := h
  have hlen : n ≤ maxLen := Nat.le_trans hc.2.1 hc.2.2.1
  unfold maxLen at hlen
  have KB := Lib.hid hb
  have c0 := hb.cell (i := 0) rfl
  have c1 := hb.cell (i := 1) rfl
  have c2 := hb.cell (i := 2) rfl
  have z0 := hb.frozen 0
  have z1 := hb.frozen 1
  have z2 := hb.frozen 2
  obtain ⟨k, rfl⟩ : ∃ k : Nat, a = k := ⟨a.toNat, by omega⟩
  clear hb
  by_cases hlt : k < n
  · obtain ⟨x, b, off, cs, hx, rfl, hbB, hat, hcell⟩ := hc.get hlt
    obtain ⟨rfl, hx0, hx1⟩ := hat
    have hcc := hcell 0 _ rfl
    rw [Nat.add_zero, show Mm.u8.size = 1 from rfl, Nat.mul_one] at hcc
    have hgb : b ≠ g := by omega
    have e1 : ((k : Nat) : Int) < (n : Nat) := by omega
    have e2 : (0 : Int) ≤ (k : Nat) := by omega
    have e3 : ((k : Nat) : Int).toNat = k := by omega
    clear hcell hx hc
    go_enter Try.func57, Try.ntmps57
    go_wp2
    go_quiet (fail)
    go_wp2
    go_quiet (fail)
    go_wp2
    go_quiet (fail)
    go_wp2
    go_ret
    exact ⟨x, rfl, hx0, hx1, next_left KB.out (by omega) (by omega)⟩
  · have e1 : ¬ ((k : Nat) : Int) < (n : Nat) := by omega
    have e2 : ¬ ((k : Nat) : Int) + 1 ≤ (n : Nat) := by omega
    clear hc
    go_enter Try.func57, Try.ntmps57
    go_wp2
    go_quiet (fail)
    go_wp2
    go_quiet (fail)
    go_wp2
    go_ret
    exact ⟨_, rfl, (and255 _).1, (and255 _).2, next_left KB.out (by omega) (by omega)⟩
set_option maxRecDepth 100000 in
theorem pick_c (code : List Int) (A : Option Addr) (n c g K : Nat) (N : Int) (w : World) (B : Nat) (hc : Mm.SlAt Mm.u8 w B code A n c) (hB : B ≤ g) (h : (Mm.tcur 50 A n c g K).holds w) (hK : K < 4611686018427387000) (hN : N ≤ 200) :
    Calls Try.prog 31 #[.pointer (some ⟨g, 0, none⟩), .int .i64 N] w fun e w' => ∃ b : Int, e = .returned (.int .i64 b) ∧ 0 ≤ b ∧ b ≤ 199 ∧ (1 ≤ N → b < N) ∧ Mm.Left [g] w w' (Mm.tcur 50 A n c g (K + 1)) := by
  by_cases h1 : N ≤ 1
  · go_enter Try.func31, Try.ntmps31
    go_wp2
    go_ret
    exact ⟨0, rfl, by omega, by omega, by omega, Mm.Chg.refl _ _, by simp [Mm.tcur], fun b hb => .inl (by simpa [Mm.tcur] using hb), Mm.tcur_more h (by omega)⟩
  · have h2 : ¬ 200 < N := by omega
    have h3 : N ≠ 0 := by omega
    go_enter Try.func31, Try.ntmps31
    go_wp2_with (go_at_call 57; refine (next_c code A n c g K _ B hc hB h (by omega)).mono ?_; rintro e w1 ⟨b, rfl, hb0, hb1, hL⟩)
    go_ret
    have hm0 : 0 ≤ b % N := Int.emod_nonneg _ h3
    have hm1 : b % N < N := Int.emod_lt_of_pos _ (by omega)
    exact ⟨_, rfl, hm0, by omega, fun _ => hm1, hL⟩
theorem one_c (code : List Int) (A : Option Addr) (n c g K : Nat) (N : Int) (w : World) (B : Nat) (hc : Mm.SlAt Mm.u8 w B code A n c) (hB : B ≤ g) (h : (Mm.tcur 50 A n c g K).holds w) (hK : K < 4611686018427387000) (hN : N ≤ 200) :
    Calls Try.prog 41 #[.pointer (some ⟨g, 0, none⟩), .int .i64 N] w fun e w' => ∃ b : Bool, e = .returned (.bool b) ∧ Mm.Left [g] w w' (Mm.tcur 50 A n c g (K + 1)) := by
  go_enter Try.func41, Try.ntmps41
  go_wp2_with (go_at_call 31; refine (pick_c code A n c g K N _ B hc hB h hK hN).mono ?_; rintro e w1 ⟨b, rfl, hb0, hb1, -, hL⟩)
  go_ret
  exact ⟨_, rfl, hL⟩
set_option maxRecDepth 100000 in
theorem among_c (code : List Int) (A : Option Addr) (n c g K : Nat) (xs : List Int) (bl m : Nat) (w : World) (B : Nat) (hc : Mm.SlAt Mm.u8 w B code A n c) (hB : B ≤ g) (h : (Mm.tcur 50 A n c g K).holds w) (hK : K < 4611686018427387000)
    (hbl : Mm.Blk w bl 3 (xs.map fun x => .int .i64 x)) (hne : bl ≠ g) (hm : xs.length = m) (h1 : 1 ≤ m) (h2 : m ≤ 200) :
    Calls Try.prog 32 #[.pointer (some ⟨g, 0, none⟩), .slice (some ⟨bl, 0, none⟩) m m] w fun e w' => ∃ v : Int, e = .returned (.int .i64 v) ∧ v ∈ xs ∧ Mm.Left [g] w w' (Mm.tcur 50 A n c g (K + 1)) := by
  go_enter Try.func32, Try.ntmps32
  have arm : ∀ (w1 : World) (b : Int), 0 ≤ b → (1 ≤ (m : Int) → b < m) → Mm.Left [g] w w1 (Mm.tcur 50 A n c g (K + 1)) → ∃ v : Int, v ∈ xs ∧ w1.cell? ⟨bl, b.toNat, none⟩ = some (.int .i64 v) ∧ 0 ≤ b ∧ b < m := fun w1 b hb0 hb1 hL => by
    have hlt := hb1 (by omega)
    have hk : b.toNat < xs.length := by omega
    have hx := List.getElem?_eq_getElem hk
    refine ⟨xs[b.toNat], List.getElem_mem hk, ?_, hb0, hlt⟩
    exact (hbl.keep (w' := w1) (hL.1.block bl hbl.lt (by simpa using hne))).cell (by rw [List.getElem?_map, hx]; rfl)
  go_wp2_with (go_at_call 31; refine (pick_c code A n c g K m _ B hc hB h hK (by omega)).mono ?_; rintro e w1 ⟨b, rfl, hb0, -, hb2, hL⟩; obtain ⟨v, hv, hcell, hb3, hb4⟩ := arm w1 b hb0 hb2 hL)
  go_ret
  exact ⟨v, rfl, hv, hL⟩
set_option maxRecDepth 100000 in
theorem of_c (code : List Int) (A : Option Addr) (n c g K : Nat) (xs : List ByteArray) (bl m : Nat) (w : World) (B : Nat) (hc : Mm.SlAt Mm.u8 w B code A n c) (hB : B ≤ g) (h : (Mm.tcur 50 A n c g K).holds w) (hK : K < 4611686018427387000)
    (hbl : Mm.Blk w bl 9 (xs.map fun x => .string x)) (hne : bl ≠ g) (hm : xs.length = m) (h1 : 1 ≤ m) (h2 : m ≤ 200) :
    Calls Try.prog 43 #[.pointer (some ⟨g, 0, none⟩), .slice (some ⟨bl, 0, none⟩) m m] w fun e w' => ∃ v : ByteArray, e = .returned (.string v) ∧ v ∈ xs ∧ Mm.Left [g] w w' (Mm.tcur 50 A n c g (K + 1)) := by
  go_enter Try.func43, Try.ntmps43
  have arm : ∀ (w1 : World) (b : Int), 0 ≤ b → (1 ≤ (m : Int) → b < m) → Mm.Left [g] w w1 (Mm.tcur 50 A n c g (K + 1)) → ∃ v : ByteArray, v ∈ xs ∧ w1.cell? ⟨bl, b.toNat, none⟩ = some (.string v) ∧ 0 ≤ b ∧ b < m := fun w1 b hb0 hb1 hL => by
    have hlt := hb1 (by omega)
    have hk : b.toNat < xs.length := by omega
    have hx := List.getElem?_eq_getElem hk
    refine ⟨xs[b.toNat], List.getElem_mem hk, ?_, hb0, hlt⟩
    exact (hbl.keep (w' := w1) (hL.1.block bl hbl.lt (by simpa using hne))).cell (by rw [List.getElem?_map, hx]; rfl)
  go_wp2_with (go_at_call 31; refine (pick_c code A n c g K m _ B hc hB h hK (by omega)).mono ?_; rintro e w1 ⟨b, rfl, hb0, -, hb2, hL⟩; obtain ⟨v, hv, hcell, hb3, hb4⟩ := arm w1 b hb0 hb2 hL)
  go_ret
  exact ⟨v, rfl, hv, hL⟩
end Go.Proofs.Ytnppcdiicnofpab

/-
  Contracts: drawn names of labels, labels, items (chapters 3 and 14). No conditions.
-/
namespace Go.Proofs.Ytnppcdiicnofpab
open Go.RowKit
attribute [local go_sem] und_cell World.cell?_alloc_some
theorem Try.infoStr0 : (Try.prog.info? 9).map (fun i => (i.zero, i.size, i.bytes)) = some (some (.string ⟨#[]⟩), 1, 16) := by kernel_rfl
theorem make_strs67 (n : Nat) (h : n = 6 ∨ n = 7) (W : World) : (Instr.makeSlice 24 (.int .i64 n) (.int .i64 n)).run Try.prog W = .ok (.slice (some ⟨W.heap.size, 0, none⟩) n n) (W.alloc (.cells (List.replicate n (.string ⟨#[]⟩)).toArray 9)) := by
  rcases h with rfl | rfl
  · kernel_rfl
  · kernel_rfl
theorem Mm.SepF.strsMade {F : List Nat} {w0 wr : World} {ts : List Mm.Thing} {T : TypeId} (h : Mm.SepF F w0 wr ts) (n : Nat) (hn : n ≤ maxLen) : Mm.SepF F w0 (wr.alloc (.cells (List.replicate n (.string ⟨#[]⟩)).toArray T)) (Mm.tsl Mm.str T (List.replicate n ⟨#[]⟩) (.slice (some ⟨wr.heap.size, 0, none⟩) n n) [wr.heap.size] :: ts) := by
  have h1 := h.alloc' rfl T (List.replicate n (.string ⟨#[]⟩))
  have h2 := (show Mm.Blk _ _ _ _ from h1.at_ 0 rfl)
  have hf : (List.replicate n (⟨#[]⟩ : ByteArray)).flatMap (fun x => [Value.string x]) = List.replicate n (.string ⟨#[]⟩) := by
    induction n with
    | zero => rfl
    | succ n ih => rw [List.replicate_succ, List.flatMap_cons, ih (by omega) (h.alloc' rfl T _) ((h.alloc' rfl T _).at_ 0 rfl), List.replicate_succ]; rfl
  exact h1.conv (by simp [Mm.tsl, Mm.tblk]) (List.forall_mem_cons.2 ⟨Mm.SlOwn.of_blk (fun x => [Value.string x]) (by rw [hf]; exact h2) (fun x hx => by rw [(List.mem_replicate.1 hx).2]; exact ⟨rfl, by show 0 ≤ maxLen; omega, rfl⟩) List.length_replicate hn, fun u hu => h1.hold u (List.mem_cons_of_mem _ hu)⟩)
set_option maxRecDepth 100000 in
set_option maxHeartbeats 4000000 in
theorem names_c (code : List Int) (A : Option Addr) (n c g K : Nat) (w : World) (B : Nat) (hc : Mm.SlAt Mm.u8 w B code A n c) (hBg : B ≤ g) (h : (Mm.tcur 50 A n c g K).holds w) (hK : K < 4611686018427380000) :
    Calls Try.prog 22 #[.pointer (some ⟨g, 0, none⟩)] w fun e w' => ∃ (l : List ByteArray) (A1 : Option Addr) (n1 c1 : Nat) (fp : List Nat), e = .returned (.slice A1 n1 c1) ∧ l.length ≤ 7 ∧ Mm.SepF [g] w w' [Mm.tsl Mm.str 9 l (.slice A1 n1 c1) fp, Mm.tcur 50 A n c g (K + 20)] := by
  have hgw : g < w.heap.size := (Mm.tcur 50 A n c g K).lt h g (by simp [Mm.tcur])
  have HC := Lib.hid hc
  have HS : Hid (Mm.SepF [g] w w [Mm.tcur 50 A n c g K]) := Mm.SepF.one (Mm.tcur 50 A n c g K) w h (by simp [Mm.tcur])
  clear hc h
  go_enter Try.func22, Try.ntmps22
  go_wp2_with ((go_at_call 31); (refine (pick_c code A n c g _ _ _ B (HC.out.keep fun b hb => HS.out.chg.block b (by omega) (by simp; omega)) hBg (HS.out.at_ 0 rfl) (by omega) (by omega)).mono ?_); (rintro e w1 ⟨b1, rfl, b10, b1x, b11, hL⟩); ((have HS := Lib.hid (HS.out.call 0 rfl hL))); (clear hL))
  have b12 := b11 (by omega)
  clear b11
  have HS := Lib.hid ((HS.add (Below.refl _ _) (t := Mm.tsl Mm.str 9 [] (.slice none 0 0) []) Mm.SlOwn.nil List.nodup_nil (fun b hb => by cases hb)))
  obtain ⟨i0, hi, hz0, hz1, hz2⟩ := info_parts Try.infoStr0
  go_loopg [3, 4] 4 (fun gg l nn wr => ∃ (k mm : Nat) (ls : List ByteArray) (A1 : Option Addr) (c1 : Nat) (fp : List Nat) (Kc : Nat), k ≤ gg ∧ nn = .int .i64 k ∧ Hid (mm = ls.length) ∧ k + mm ≤ 4 ∧ l = .slice A1 mm c1 ∧ Kc + k ≤ K + 10 ∧ Hid (Mm.SepF [g] w wr [Mm.tsl Mm.str 9 ls (.slice A1 mm c1) fp, Mm.tcur 50 A n c g Kc]))
  case atStart => exact ⟨b1.toNat, 0, [], none, 0, [], _, by omega, by rw [Int.toNat_of_nonneg b10], rfl, by omega, rfl, by omega, HS⟩
  case round =>
    obtain ⟨k, mm, ls, A1, c1, fp, Kc, hkg, rfl, hml, hkm, rfl, hKc, HS⟩ := hrel
    obtain ⟨Wr, rfl⟩ : ∃ Wr : World, Wr = wr := ⟨_, rfl⟩
    by_cases hk0 : 0 < k
    · have hk1 : (0 : Int) < (k : Nat) := by omega
      have HA := Lib.hid (HS.out.alloc' rfl 9 [.string ⟨#[97, 112, 112]⟩, .string ⟨#[104, 111, 115, 116]⟩, .string ⟨#[106, 111, 98]⟩, .string ⟨#[122, 111, 110, 101]⟩, .string ⟨#[110, 111, 110, 101]⟩])
      have hgW : g < Wr.heap.size := Nat.lt_of_lt_of_le hgw HS.out.chg.size
      go_wp2_with (first
        | (go_at_call 43; refine (of_c code A n c g _ [⟨#[97, 112, 112]⟩, ⟨#[104, 111, 115, 116]⟩, ⟨#[106, 111, 98]⟩, ⟨#[122, 111, 110, 101]⟩, ⟨#[110, 111, 110, 101]⟩] Wr.heap.size 5 _ B (HC.out.keep fun b hb => HA.out.chg.block b (by omega) (by simp; omega)) hBg (HA.out.at_ 2 rfl) (by omega) (HA.out.at_ 0 rfl) (by omega) rfl (by omega) (by omega)).mono ?_; rintro e w1 ⟨v, rfl, hv, hL⟩; (have HS := Lib.hid ((HA.out.call 2 rfl hL).tail)); clear hL HA; have hvz : v.size ≤ maxLen := (by simp only [List.mem_cons, List.not_mem_nil, or_false] at hv; rcases hv with h | h | h | h | h <;> (rw [h]; decide)); (have HV := Lib.hid hvz); clear hv hvz)
        | (at_builtin; refine Mm.app_list (x := v) HS.out 0 rfl rfl (.tmp 11) (.tmp 15) 24 rfl i0 _ 16 Try.underlying24 hi hz0 hz1 hz2 rfl (by decide) rfl rfl (fun W => ⟨rfl, HV.out, rfl⟩) hml.out.symm (by unfold maxLen; omega) (by omega) ?_; intro ga cap w' fp' hs; (have HS4 := Lib.hid hs); clear hs))
      go_roundg (k - 1)
      case measure => omega
      case rel => exact ⟨k - 1, mm + 1, _, _, cap, fp', Kc + 1, Nat.le_refl _, by go_num, by show _ = _; rw [List.length_append, hml.out]; rfl, by omega, rfl, by omega, HS4⟩
    · have hk1 : ¬ (0 : Int) < (k : Nat) := by omega
      go_upto_if 18 with ((go_at_call 41); (refine (one_c code A n c g _ _ _ B (HC.out.keep fun b hb => HS.out.chg.block b (by omega) (by simp; omega)) hBg (HS.out.at_ 1 rfl) (by omega) (by omega)).mono ?_); (rintro e w1 ⟨b9, rfl, hL⟩); ((have HS := Lib.hid (HS.out.call 1 rfl hL))); (clear hL))
      cases b9
      · go_wp2_with fail
        go_ret
        exact ⟨ls, _, _, _, fp, rfl, by rw [← hml.out]; omega, HS.out.more 1 rfl (by omega)⟩
      · go_wp2_with ((go_at_call 31); (refine (pick_c code A n c g _ _ _ B (HC.out.keep fun b hb => HS.out.chg.block b (by omega) (by simp; omega)) hBg (HS.out.at_ 1 rfl) (by omega) (by omega)).mono ?_); (rintro e w1 ⟨b2, rfl, b20, b2x, b21, hL⟩); ((have HS := Lib.hid (HS.out.call 1 rfl hL))); (clear hL); obtain ⟨nn, hnn⟩ : ∃ nn : Nat, 6 + b2 = ((nn : Nat) : Int) := ⟨(6 + b2).toNat, by omega⟩; have hn67 : nn = 6 ∨ nn = 7 := (by have := b21 (by omega); omega); have hmk := make_strs67 nn hn67; have hw67 : IntKind.i64.wrap (6 + b2) = ((nn : Nat) : Int) := (by rw [hnn]; exact IntWalk.i64_in _ (by omega)))
        go_ret
        exact ⟨List.replicate nn ⟨#[]⟩, _, _, _, _, rfl, by rw [List.length_replicate]; omega, (((HS.out.more 1 rfl (K' := K + 20) (by omega)).tail).strsMade nn (by unfold maxLen; omega))⟩
def names7 : List Value := [.string ⟨#[97, 112, 112]⟩, .string ⟨#[104, 111, 115, 116]⟩, .string ⟨#[106, 111, 98]⟩, .string ⟨#[108, 101]⟩, .string ⟨#[109, 101, 116, 104, 111, 100]⟩, .string ⟨#[112, 97, 116, 104]⟩, .string ⟨#[122, 111, 110, 101]⟩]
theorem names7_at {k : Nat} (h : k < 7) : ∃ s : ByteArray, names7[k]? = some (.string s) ∧ s.size ≤ maxLen := by
  have : k = 0 ∨ k = 1 ∨ k = 2 ∨ k = 3 ∨ k = 4 ∨ k = 5 ∨ k = 6 := by omega
  rcases this with rfl | rfl | rfl | rfl | rfl | rfl | rfl <;> exact ⟨_, rfl, by decide⟩
theorem Try.infoLab0 : (Try.prog.info? 79).map (fun i => (i.zero, i.size, i.bytes)) = some (some (.agg #[.string ⟨#[]⟩, .string ⟨#[]⟩]), 2, 32) := by kernel_rfl
set_option maxRecDepth 100000 in
set_option maxHeartbeats 4000000 in
theorem labels_c (code : List Int) (A : Option Addr) (n c g K : Nat) (w : World) (B : Nat) (hc : Mm.SlAt Mm.u8 w B code A n c) (hBg : B ≤ g) (h : (Mm.tcur 50 A n c g K).holds w) (hK : K < 4611686018427380000) :
    Calls Try.prog 42 #[.pointer (some ⟨g, 0, none⟩)] w fun e w' => ∃ (l : List Label) (A1 : Option Addr) (n1 c1 : Nat) (fp : List Nat), e = .returned (.slice A1 n1 c1) ∧ l.length ≤ 7 ∧ Mm.SepF [g] w w' [Mm.tsl rLabel 79 l (.slice A1 n1 c1) fp, Mm.tcur 50 A n c g (K + 20)] := by
  have hgw : g < w.heap.size := (Mm.tcur 50 A n c g K).lt h g (by simp [Mm.tcur])
  have HC := Lib.hid hc
  have HS : Hid (Mm.SepF [g] w w [Mm.tcur 50 A n c g K]) := Mm.SepF.one (Mm.tcur 50 A n c g K) w h (by simp [Mm.tcur])
  clear hc h
  obtain ⟨i0, hi, hz0, hz1, hz2⟩ := info_parts Try.infoLab0
  obtain ⟨gb, hgb⟩ : ∃ gb, w.heap.size = gb := ⟨_, rfl⟩
  have hggb : g < gb := by omega
  have HS0 := Lib.hid (HS.out.alloc' hgb 9 names7)
  have HS := Lib.hid ((HS0.out.add (Below.refl _ _) (t := Mm.tsl rLabel 79 [] (.slice none 0 0) []) Mm.SlOwn.nil List.nodup_nil (fun b hb => by cases hb)))
  clear HS0
  go_enter Try.func42, Try.ntmps42
  go_wp2_with fail
  go_loopg [3, 5, 8] 7 (fun gg l nn z wr => ∃ (k mm : Nat) (ls : List Label) (A1 : Option Addr) (c1 : Nat) (fp : List Nat) (Kc : Nat), 7 - k ≤ gg ∧ k ≤ 7 ∧ z = .int .i64 k ∧ Hid (mm = ls.length) ∧ mm ≤ k ∧ l = .slice A1 mm c1 ∧ Kc ≤ K + 2 * k ∧ Hid (Mm.SepF [g] w wr [Mm.tsl rLabel 79 ls (.slice A1 mm c1) fp, Mm.tblk gb 9 names7, Mm.tcur 50 A n c g Kc]))
  case atStart => exact ⟨0, 0, [], none, 0, [], _, by omega, by omega, rfl, rfl, by omega, rfl, by omega, HS⟩
  case round =>
    obtain ⟨k, mm, ls, A1, c1, fp, Kc, hkg, hk7, rfl, hml, hmk, rfl, hKc, HS⟩ := hrel
    obtain ⟨Wr, rfl⟩ : ∃ Wr : World, Wr = wr := ⟨_, rfl⟩
    by_cases hk0 : k < 7
    · have hk1 : (k : Int) < 7 := by omega
      obtain ⟨s, hs7, hsz⟩ := names7_at hk0
      have HSZ := Lib.hid hsz
      have e0 := HS.out.cell (k := k) 1 rfl hs7
      clear hs7 hsz
      have hgW : g < Wr.heap.size := Nat.lt_of_lt_of_le hgw HS.out.chg.size
      go_upto_if 13 with ((go_at_call 41); (refine (one_c code A n c g _ _ _ B (HC.out.keep fun b hb => HS.out.chg.block b (by omega) (by simp; omega)) hBg (HS.out.at_ 2 rfl) (by omega) (by omega)).mono ?_); (rintro e w1 ⟨b9, rfl, hL⟩); ((have HS := Lib.hid (HS.out.call 2 rfl hL))); (clear hL))
      cases b9
      · go_wp2_with fail
        go_roundg (7 - (k + 1))
        case measure => omega
        case rel => exact ⟨k + 1, mm, ls, _, c1, fp, Kc + 1, Nat.le_refl _, by omega, by go_num, hml, by omega, rfl, by omega, HS⟩
      · have HA := Lib.hid (HS.out.alloc' rfl 9 [.string ⟨#[97]⟩, .string ⟨#[98]⟩, .string ⟨#[97, 112, 105]⟩, .string ⟨#[119, 101, 98, 49]⟩, .string ⟨#[120, 57]⟩])
        have hgw1 : g < w1.heap.size := Nat.lt_of_lt_of_le hgw HS.out.chg.size
        go_wp2_with (first
          | (go_at_call 43; refine (of_c code A n c g _ [⟨#[97]⟩, ⟨#[98]⟩, ⟨#[97, 112, 105]⟩, ⟨#[119, 101, 98, 49]⟩, ⟨#[120, 57]⟩] w1.heap.size 5 _ B (HC.out.keep fun b hb => HA.out.chg.block b (by omega) (by simp; omega)) hBg (HA.out.at_ 3 rfl) (by omega) (HA.out.at_ 0 rfl) (by omega) rfl (by omega) (by omega)).mono ?_; rintro e w2 ⟨v, rfl, hv, hL⟩; (have HS := Lib.hid ((HA.out.call 3 rfl hL).tail)); clear hL HA; have hvz : v.size ≤ maxLen := (by simp only [List.mem_cons, List.not_mem_nil, or_false] at hv; rcases hv with h | h | h | h | h <;> (rw [h]; decide)); (have HV := Lib.hid hvz); clear hv hvz)
          | (at_builtin; refine Mm.app_list (x := (⟨s, v⟩ : Label)) HS.out 0 rfl rfl (.tmp 14) (.tmp 20) 54 rfl i0 _ 32 Try.underlying54 hi hz0 hz1 hz2 rfl (by decide) rfl rfl (fun W => rLabel_own_mk ⟨HSZ.out, HV.out⟩) hml.out.symm (by unfold maxLen; omega) (by omega) ?_; intro ga cap w' fp' hs; (have HS4 := Lib.hid hs); clear hs))
        go_roundg (7 - (k + 1))
        case measure => omega
        case rel => exact ⟨k + 1, mm + 1, _, _, cap, fp', Kc + 2, Nat.le_refl _, by omega, by go_num, by show _ = _; rw [List.length_append, hml.out]; rfl, by omega, rfl, by omega, HS4⟩
    · obtain rfl : k = 7 := by omega
      have h7 : ((7 : Nat) : Int) = 7 := rfl
      by_cases hm0 : 0 < mm
      · have hm1 : (0 : Int) < (mm : Nat) := by omega
        go_upto_if 29 with ((go_at_call 41); (refine (one_c code A n c g _ _ _ B (HC.out.keep fun b hb => HS.out.chg.block b (by omega) (by simp; omega)) hBg (HS.out.at_ 2 rfl) (by omega) (by omega)).mono ?_); (rintro e w1 ⟨b9, rfl, hL⟩); ((have HS := Lib.hid (HS.out.call 2 rfl hL))); (clear hL))
        cases b9
        · go_wp2_with fail
          go_ret
          first
            | exact ⟨ls, _, _, _, fp, rfl, by rw [← hml.out]; omega, (HS.out.sel [0, 2] (by decide) rfl).more 1 rfl (by omega)⟩
            | exact ⟨ls, _, _, _, rfl, by rw [← hml.out]; omega, fp, (HS.out.sel [0, 2] (by decide) rfl).more 1 rfl (by omega)⟩
        · obtain ⟨g1, rfl, hg1, -⟩ := Mm.sl_addr (HS.out.sl 0 rfl) (by rw [← hml.out]; exact hm0)
          have hgw1 : g < w1.heap.size := Nat.lt_of_lt_of_le hgw HS.out.chg.size
          go_wp2_with (first
            | ((go_at_call 31); (refine (pick_c code A n c g _ _ _ B (HC.out.keep fun b hb => HS.out.chg.block b (by omega) (by simp; omega)) hBg (HS.out.at_ 2 rfl) (by omega) (by omega)).mono ?_); (rintro e w1 ⟨b2, rfl, b20, b2x, b21, hL⟩); ((have HS := Lib.hid (HS.out.call 2 rfl hL))); (clear hL); have b22 := b21 (by omega); have hgw2 : g < w1.heap.size := Nat.lt_of_lt_of_le hgw HS.out.chg.size; (have HA := Lib.hid (HS.out.alloc' rfl 9 [.string ⟨#[]⟩, .string ⟨#[97, 49]⟩, .string ⟨#[122, 122, 122]⟩, .string ⟨#[116, 111, 111, 108, 111, 110, 103, 110, 97, 109, 101]⟩])))
            | (go_at_call 43; refine (of_c code A n c g _ [⟨#[]⟩, ⟨#[97, 49]⟩, ⟨#[122, 122, 122]⟩, ⟨#[116, 111, 111, 108, 111, 110, 103, 110, 97, 109, 101]⟩] _ 4 _ B (HC.out.keep fun b hb => HA.out.chg.block b (by omega) (by simp; omega)) hBg (HA.out.at_ 3 rfl) (by omega) (HA.out.at_ 0 rfl) (by omega) rfl (by omega) (by omega)).mono ?_; rintro e w2 ⟨v, rfl, hv, hL⟩; (have HS2 := Lib.hid ((HA.out.call 3 rfl hL).tail)); clear hL HA; have hvz : v.size ≤ maxLen := (by simp only [List.mem_cons, List.not_mem_nil, or_false] at hv; rcases hv with h | h | h | h <;> (rw [h]; decide)); (have HV := Lib.hid hvz); clear hv hvz; have hgw3 : g < w2.heap.size := Nat.lt_of_lt_of_le hgw HS2.out.chg.size; (have HA2 := Lib.hid (HS2.out.alloc' rfl 9 [.string ⟨#[]⟩, .string ⟨#[111, 107]⟩, .string ⟨#[97, 32, 98]⟩])))
            | (go_at_call 43; refine (of_c code A n c g _ [⟨#[]⟩, ⟨#[111, 107]⟩, ⟨#[97, 32, 98]⟩] _ 3 _ B (HC.out.keep fun b hb => HA2.out.chg.block b (by omega) (by simp; omega)) hBg (HA2.out.at_ 3 rfl) (by omega) (HA2.out.at_ 0 rfl) (by omega) rfl (by omega) (by omega)).mono ?_; rintro e w3 ⟨u, rfl, hu, hL⟩; (have HS3 := Lib.hid ((HA2.out.call 3 rfl hL).tail)); clear hL HA2; have huz : u.size ≤ maxLen := (by simp only [List.mem_cons, List.not_mem_nil, or_false] at hu; rcases hu with h | h | h <;> (rw [h]; decide)); (have HU := Lib.hid huz); clear hu huz; obtain ⟨x, hx⟩ : ∃ x, ls[b2.toNat]? = some x := ⟨_, List.getElem?_eq_getElem (show b2.toNat < ls.length by rw [← hml.out]; omega)⟩; obtain ⟨q0, q1⟩ := rLabel_ocell (HS3.out.sl 0 rfl) (HS3.out.ndat (i := 0) rfl) hx; have z0 := (HS3.out.sl 0 rfl).frozen (b2.toNat * 2); have z1 := (HS3.out.sl 0 rfl).frozen (b2.toNat * 2 + 1); (have HX := Lib.hid hx); clear hx))
          go_ret
          have H1 : Hid (Mm.SepF [g] w (w3.setCell ⟨g1, b2.toNat * 2, none⟩ (.string v)) [Mm.tsl rLabel 79 (ls.set b2.toNat ⟨v, x.Value⟩) (.slice (some ⟨g1, 0, none⟩) mm c1) fp, Mm.tblk gb 9 names7, Mm.tcur 50 A n c g _]) := HS3.out.putSl (m := 0) (x' := (⟨v, x.Value⟩ : Label)) (u := .string v) 0 rfl HX.out (by decide) (fun cs fx ho => by obtain ⟨rfl, hb, rfl⟩ := ho; exact rLabel_own_mk (x := ⟨v, x.Value⟩) ⟨HV.out, hb.2⟩)
          have H2 := H1.out.putSl (k := b2.toNat) (m := 1) (x' := (⟨v, u⟩ : Label)) (u := .string u) 0 rfl (List.getElem?_set_self (by rw [← hml.out]; omega)) (by decide) (fun cs fx ho => by obtain ⟨rfl, hb, rfl⟩ := ho; exact rLabel_own_mk (x := ⟨v, u⟩) ⟨HV.out, HU.out⟩)
          exact ⟨_, _, _, _, fp, rfl, by rw [List.length_set, List.length_set, ← hml.out]; omega, (H2.sel [0, 2] (by decide) rfl).more 1 rfl (by omega)⟩
      · have hm1 : ¬ (0 : Int) < (mm : Nat) := by omega
        go_wp2_with fail
        go_ret
        first
          | exact ⟨ls, _, _, _, fp, rfl, by rw [← hml.out]; omega, (HS.out.sel [0, 2] (by decide) rfl).more 1 rfl (by omega)⟩
          | exact ⟨ls, _, _, _, rfl, by rw [← hml.out]; omega, fp, (HS.out.sel [0, 2] (by decide) rfl).more 1 rfl (by omega)⟩
end Go.Proofs.Ytnppcdiicnofpab

/-
  Contracts: drawn items and totals (chapter 14). No conditions.
-/
namespace Go.Proofs.Ytnppcdiicnofpab
open Go.RowKit
attribute [local go_sem] und_cell World.cell?_alloc_some
/-- append of one element that owns another thing, its block just laid, in a region in the order of the text -/
theorem Mm.app_own {P : Program} {F : List Nat} {w0 wr : World} {ts : List Mm.Thing} {ops : Array Oper} {rest : List Oper} {o : Oper} {a : Act} {Q : Exit → Act → World → Prop} {α : Type} {E : Mm.Rep α} {e : TypeId} {xs : List α} {x : α} {cx : List Value} {v : Value} {fp : List Nat} {m : Nat} {u : Mm.Thing}
    (hS : Mm.SepF F w0 wr ts) (k j : Nat) (hkj : k ≠ j) (hk : ts[k]? = some (Mm.tsl E e xs v fp)) (hj : ts[j]? = some u) (hgd : o.guard = none) (s y : Operand) (t : TypeId)
    (ho : o.op = .call { callee := .builtin .append, args := #[s, y], argTypes := #[t, t] }) (i : TypeInfo) (z : Value) (bytes : Nat)
    (ht : P.underlying t = some (.slice e)) (hi : P.info? e = some i) (hz : i.zero = some z) (hsize : i.size = E.size) (hby : i.bytes = bytes) (hzs : z.cells.size = E.size) (h0 : 0 < E.size)
    (hsv : a.eval s = v) (hyv : a.eval y = .slice (some ⟨wr.heap.size, 0, none⟩) 1 1) (hx : ∀ W, u.holds W → E.own W x cx u.fp) (hm : xs.length = m) (h63 : m + 1 ≤ maxLen) (hbytes : (m + 1) * bytes ≤ 140737488355328)
    (h : ∀ g cap w' fp', Mm.SepF F w0 w' ((ts.set j Mm.tnil).set k (Mm.tsl E e (xs ++ [x]) (.slice (some ⟨g, 0, none⟩) (m + 1) cap) fp')) → wpList P ops Q rest (a.put o.dst (.slice (some ⟨g, 0, none⟩) (m + 1) cap)) w') :
    wpList P ops Q (o :: rest) a (wr.alloc (.cells cx.toArray e)) := by
  subst hm
  have hu := hx _ (hS.at_ j hj)
  obtain ⟨l0, ho1, hnext⟩ := hS.push k j hkj hk hj (W2 := wr.alloc (.cells cx.toArray e)) (below_new (Below.refl _ _) _) (x := x) hx
  have hb : Mm.Blk (wr.alloc (.cells cx.toArray e)) wr.heap.size e cx := Mm.Blk.new _ _ _
  refine wpList_append_lies _ hgd s y t ho 0 e i z E.size bytes ht hi hz hsize hby hzs h0 v xs.length l0 hsv ho1 ⟨wr.heap.size, 0, none⟩ 1 1 cx hyv (by rw [Nat.one_mul]; exact E.olen hu) ?_ (E.one hu) (by omega) h63 hbytes (Nat.zero_le _) _ rfl ?_
  · have h1 := World.news_of_block hb
    simpa using h1
  · intro gg cap w4 hown1 hgrow hat hlt
    obtain ⟨fp', hs4⟩ := hnext gg cap w4 hown1 hgrow hat
    exact h gg cap w4 fp' hs4
theorem Try.infoItem0 : (Try.prog.info? 56).map (fun i => (i.zero, i.size, i.bytes)) = some (some (.agg #[.slice none 0 0, .int .i64 0]), 2, 32) := by kernel_rfl
set_option maxRecDepth 100000 in
set_option maxHeartbeats 4000000 in
theorem items_c (code : List Int) (A : Option Addr) (n c g K : Nat) (w : World) (B : Nat) (hc : Mm.SlAt Mm.u8 w B code A n c) (hBg : B ≤ g) (h : (Mm.tcur 50 A n c g K).holds w) (hK : K < 4611686018427370000) :
    Calls Try.prog 21 #[.pointer (some ⟨g, 0, none⟩)] w fun e w' => ∃ (l : List Item) (A1 : Option Addr) (n1 c1 : Nat) (fp : List Nat), e = .returned (.slice A1 n1 c1) ∧ l.length ≤ 41 ∧ Mm.SepF [g] w w' [Mm.tsl rItem 56 l (.slice A1 n1 c1) fp, Mm.tcur 50 A n c g (K + 1000)] := by
  have hgw : g < w.heap.size := (Mm.tcur 50 A n c g K).lt h g (by simp [Mm.tcur])
  have HC := Lib.hid hc
  have HS : Hid (Mm.SepF [g] w w [Mm.tcur 50 A n c g K]) := Mm.SepF.one (Mm.tcur 50 A n c g K) w h (by simp [Mm.tcur])
  clear hc h
  obtain ⟨i0, hi, hz0, hzs, hzb⟩ := info_parts Try.infoItem0
  go_enter Try.func21, Try.ntmps21
  go_upto_if 8 with first
    | ((go_at_call 31); (refine (pick_c code A n c g _ _ _ B (HC.out.keep fun b hb => HS.out.chg.block b (by omega) (by simp; omega)) hBg (HS.out.at_ 0 rfl) (by omega) (by omega)).mono ?_); (rintro e w1 ⟨b1, rfl, b10, b1x, b11, hL⟩); ((have HS := Lib.hid (HS.out.call 0 rfl hL))); (clear hL))
    | ((go_at_call 41); (refine (one_c code A n c g _ _ _ B (HC.out.keep fun b hb => HS.out.chg.block b (by omega) (by simp; omega)) hBg (HS.out.at_ 0 rfl) (by omega) (by omega)).mono ?_); (rintro e w1 ⟨b9, rfl, hL⟩); ((have HS := Lib.hid (HS.out.call 0 rfl hL))); (clear hL))
  have b12 := b11 (by omega)
  clear b11
  go_cut [4] (fun s6 wx => ∃ m : Int, s6 = .int .i64 m ∧ 0 ≤ m ∧ m ≤ 41 ∧ Mm.SepF [g] w wx [Mm.tcur 50 A n c g (K + 3)])
  case first =>
    cases b9
    · go_wp2_with fail
      go_meet
      exact ⟨_, rfl, b10, by omega, HS.out.more 0 rfl (by omega)⟩
    · go_wp2_with ((go_at_call 31); (refine (pick_c code A n c g _ _ _ B (HC.out.keep fun b hb => HS.out.chg.block b (by omega) (by simp; omega)) hBg (HS.out.at_ 0 rfl) (by omega) (by omega)).mono ?_); (rintro e w1 ⟨b2, rfl, b20, b2x, b21, hL⟩); ((have HS := Lib.hid (HS.out.call 0 rfl hL))); (clear hL); have b22 := b21 (by omega))
      go_meet
      exact ⟨_, rfl, by omega, by omega, HS.out.more 0 rfl (by omega)⟩
  case rest =>
  obtain ⟨m, rfl, hm0, hm1, HS⟩ := hcut
  have HS := Lib.hid ((HS.add (Below.refl _ _) (t := Mm.tsl rItem 56 [] (.slice none 0 0) []) Mm.SlOwn.nil List.nodup_nil (fun b hb => by cases hb)))
  go_wp2_with fail
  go_loopg [3, 4] 41 (fun gg l nn wr => ∃ (k mm : Nat) (ls : List Item) (A1 : Option Addr) (c1 : Nat) (fp : List Nat) (Kc : Nat), k ≤ gg ∧ nn = .int .i64 k ∧ Hid (mm = ls.length) ∧ k + mm ≤ 41 ∧ l = .slice A1 mm c1 ∧ Kc + 21 * k ≤ K + 900 ∧ Hid (Mm.SepF [g] w wr [Mm.tsl rItem 56 ls (.slice A1 mm c1) fp, Mm.tcur 50 A n c g Kc]))
  case atStart => exact ⟨m.toNat, 0, [], none, 0, [], K + 3, by omega, by rw [Int.toNat_of_nonneg hm0], rfl, by omega, rfl, by omega, HS⟩
  case round =>
    obtain ⟨k, mm, ls, A1, c1, fp, Kc, hkg, rfl, hml, hkm, rfl, hKc, HS⟩ := hrel
    obtain ⟨Wr, rfl⟩ : ∃ Wr : World, Wr = wr := ⟨_, rfl⟩
    by_cases hk0 : 0 < k
    · have hk1 : (0 : Int) < (k : Nat) := by omega
      have hgW : g < Wr.heap.size := Nat.lt_of_lt_of_le hgw HS.out.chg.size
      go_wp2_with (first
        | (go_at_call 42; refine (labels_c code A n c g _ _ B (HC.out.keep fun b hb => HS.out.chg.block b (by omega) (by simp; omega)) hBg (HS.out.at_ 1 rfl) (by omega)).mono ?_; rintro e w1 ⟨ll, A2, n2, c2, fp2, rfl, hll, hS⟩; (have HS1 := Lib.hid (HS.out.callAll 1 rfl hS)); clear hS)
        | (go_at_call 31; refine (pick_c code A n c g _ _ _ B (HC.out.keep fun b hb => HS1.out.chg.block b (by omega) (by simp; omega)) hBg (HS1.out.at_ 3 rfl) (by omega) (by omega)).mono ?_; rintro e w2 ⟨b2, rfl, b20, b2x, b21, hL⟩; (have HS2 := Lib.hid (HS1.out.call 3 rfl hL)); clear hL; have hw2 : IntKind.i64.wrap (b2 - 20) = b2 - 20 := IntWalk.i64_in _ (by omega))
        | (at_builtin; refine Mm.app_own (x := (⟨ll, b2 - 20⟩ : Item)) HS2.out 0 2 (by decide) rfl rfl rfl (.tmp 16) (.tmp 23) 23 rfl i0 _ 32 Try.underlying23 hi hz0 hzs hzb rfl (by decide) rfl rfl (fun W h => rItem_own_mk (x := (⟨ll, b2 - 20⟩ : Item)) h (by unfold Mm.I64; show _ ≤ b2 - 20 ∧ b2 - 20 ≤ _; omega)) hml.out.symm (by unfold maxLen; omega) (by omega) ?_; intro ga cap w' fp' hs; (have HS7 := Lib.hid hs); clear hs))
      go_roundg (k - 1)
      case measure => omega
      case rel => exact ⟨k - 1, mm + 1, _, _, cap, fp', Kc + 21, Nat.le_refl _, by go_num, by show _ = _; rw [List.length_append, hml.out]; rfl, by omega, rfl, by omega, HS7.out.sel [0, 3] (by decide) rfl⟩
    · have hk1 : ¬ (0 : Int) < (k : Nat) := by omega
      by_cases hm0 : 0 < mm
      · have hm1 : (0 : Int) < (mm : Nat) := by omega
        obtain ⟨g1, rfl, hg1, -⟩ := Mm.sl_addr (HS.out.sl 0 rfl) (by rw [← hml.out]; exact hm0)
        go_upto_if 31 with ((go_at_call 41); (refine (one_c code A n c g _ _ _ B (HC.out.keep fun b hb => HS.out.chg.block b (by omega) (by simp; omega)) hBg (HS.out.at_ 1 rfl) (by omega) (by omega)).mono ?_); (rintro e w1 ⟨b9, rfl, hL⟩); ((have HS := Lib.hid (HS.out.call 1 rfl hL))); (clear hL))
        cases b9
        · go_wp2_with fail
          go_ret
          exact ⟨ls, _, _, _, fp, rfl, by rw [← hml.out]; omega, HS.out.more 1 rfl (by omega)⟩
        · have hgw1 : g < w1.heap.size := Nat.lt_of_lt_of_le hgw HS.out.chg.size
          have HA := Lib.hid (HS.out.alloc' rfl 3 [.int .i64 1000000, .int .i64 1000001])
          go_wp2_with (go_at_call 32; refine (among_c code A n c g _ [1000000, 1000001] _ 2 _ B (HC.out.keep fun b hb => HA.out.chg.block b (by omega) (by simp; omega)) hBg (HA.out.at_ 2 rfl) (by omega) (HA.out.at_ 0 rfl) (by omega) rfl (by omega) (by omega)).mono ?_; rintro e w2 ⟨v, rfl, hv, hL⟩; (have HS2 := Lib.hid ((HA.out.call 2 rfl hL).tail)); clear hL HA; have hvi : Mm.I64 v := (by simp only [List.mem_cons, List.not_mem_nil, or_false] at hv; unfold Mm.I64; omega); (have HV := Lib.hid hvi); clear hv hvi; obtain ⟨x, hx⟩ : ∃ x, ls[0]? = some x := ⟨_, List.getElem?_eq_getElem (show 0 < ls.length by rw [← hml.out]; exact hm0)⟩; obtain ⟨qa, qn, qc, q0, q1⟩ := rItem_ocell (HS2.out.sl 0 rfl) (HS2.out.ndat (i := 0) rfl) hx; have z1 := (HS2.out.sl 0 rfl).frozen (0 * 2 + 1); (have HX := Lib.hid hx); clear hx)
          go_ret
          exact ⟨ls.set 0 ⟨x.Labels, v⟩, _, _, _, fp, rfl, by rw [List.length_set, ← hml.out]; omega, (HS2.out.putSl (k := 0) (m := 1) (x' := (⟨x.Labels, v⟩ : Item)) (u := .int .i64 v) 0 rfl HX.out (by decide) (fun cs fx ho => by obtain ⟨A, n, c, f, rfl, rfl, h0, _⟩ := rItem_own ho; exact rItem_own_mk (x := ⟨x.Labels, v⟩) h0 HV.out)).more 1 rfl (by omega)⟩
      · have hm1 : ¬ (0 : Int) < (mm : Nat) := by omega
        go_wp2_with fail
        go_ret
        first
          | exact ⟨ls, _, _, _, fp, rfl, by rw [← hml.out]; omega, HS.out.more 1 rfl (by omega)⟩
          | exact ⟨ls, _, _, _, rfl, by rw [← hml.out]; omega, fp, HS.out.more 1 rfl (by omega)⟩
theorem Pl.tcomb_len (l : List Total) : (Pl.tcomb l).length ≤ l.length := by
  have : ∀ (k : List Total) (a : List Total), (k.foldl Pl.tput a).length ≤ a.length + k.length := fun k => by
    induction k with
    | nil => intro a; simp
    | cons x t ih => intro a; rw [List.foldl_cons, List.length_cons]; have h1 := ih (Pl.tput a x); have h2 := Pl.tput_len a x; omega
  have h := this l []
  simpa [Pl.tcomb] using h
theorem Pl.tby_len (l : List Item) (names : List ByteArray) : (Pl.tby l names).1.length ≤ l.length := by
  unfold Pl.tby
  split
  · have := Pl.tcomb_len (l.map (Pl.titem names)); rw [List.length_map] at this; exact this
  · exact Nat.zero_le _
theorem Mm.SepF.totSet {F : List Nat} {w0 wr : World} {ts : List Mm.Thing} {xs : List Total} {T : TypeId} {g n c k : Nat} {fp : List Nat} {x : Total} {a b d e : Int} (h : Mm.SepF F w0 wr (Mm.tsl rTotal T xs (.slice (some ⟨g, 0, none⟩) n c) fp :: ts)) (hk : xs[k]? = some x) (ha : Mm.I64 a) (hb : Mm.I64 b) (hd : Mm.I64 d) (he : Mm.I64 e) :
    ∃ xs' fp', xs'.length = xs.length ∧ Mm.SepF F w0 (((((wr.setCell ⟨g, k * 5, none⟩ (.slice none 0 0)).setCell ⟨g, k * 5 + 1, none⟩ (.int .i64 a)).setCell ⟨g, k * 5 + 2, none⟩ (.int .i64 b)).setCell ⟨g, k * 5 + 3, none⟩ (.int .i64 d)).setCell ⟨g, k * 5 + 4, none⟩ (.int .i64 e)) (Mm.tsl rTotal T xs' (.slice (some ⟨g, 0, none⟩) n c) fp' :: ts) := by
  obtain ⟨cs, fx, k1, k2, k3, k4, k5⟩ := h.swap 0 rfl hk
  obtain ⟨A', n', c', f', rfl, rfl, i0, i1, i2, i3, i4⟩ := rTotal_own k1
  have hkl : k < xs.length := (List.getElem?_eq_some_iff.1 hk).1
  obtain ⟨fp1, h1⟩ := k5 wr ⟨[], x.Sum, x.Count, x.Least, x.Most⟩ 0 (.slice none 0 0) [] (Mm.Chg.refl _ _) (by decide) (rTotal_own_mk (x := ⟨[], x.Sum, x.Count, x.Least, x.Most⟩) Mm.SlOwn.nil i1 i2 i3 i4) List.nodup_nil (fun b hb => by cases hb)
  have h2 := h1.putSl (k := k) (m := 1) (x' := (⟨[], a, x.Count, x.Least, x.Most⟩ : Total)) (u := .int .i64 a) 0 rfl (List.getElem?_set_self hkl) (by decide) (fun cs fx ho => by obtain ⟨A, n, c, f, rfl, rfl, h0, i1, i2, i3, i4⟩ := rTotal_own ho; exact rTotal_own_mk (x := ⟨[], a, x.Count, x.Least, x.Most⟩) h0 ha i2 i3 i4)
  have h3 := h2.putSl (k := k) (m := 2) (x' := (⟨[], a, b, x.Least, x.Most⟩ : Total)) (u := .int .i64 b) 0 rfl (List.getElem?_set_self (by rw [List.length_set]; exact hkl)) (by decide) (fun cs fx ho => by obtain ⟨A, n, c, f, rfl, rfl, h0, i1, i2, i3, i4⟩ := rTotal_own ho; exact rTotal_own_mk (x := ⟨[], a, b, x.Least, x.Most⟩) h0 i1 hb i3 i4)
  have h4 := h3.putSl (k := k) (m := 3) (x' := (⟨[], a, b, d, x.Most⟩ : Total)) (u := .int .i64 d) 0 rfl (List.getElem?_set_self (by rw [List.length_set, List.length_set]; exact hkl)) (by decide) (fun cs fx ho => by obtain ⟨A, n, c, f, rfl, rfl, h0, i1, i2, i3, i4⟩ := rTotal_own ho; exact rTotal_own_mk (x := ⟨[], a, b, d, x.Most⟩) h0 i1 i2 hd i4)
  have h5 := h4.putSl (k := k) (m := 4) (x' := (⟨[], a, b, d, e⟩ : Total)) (u := .int .i64 e) 0 rfl (List.getElem?_set_self (by rw [List.length_set, List.length_set, List.length_set]; exact hkl)) (by decide) (fun cs fx ho => by obtain ⟨A, n, c, f, rfl, rfl, h0, i1, i2, i3, i4⟩ := rTotal_own ho; exact rTotal_own_mk (x := ⟨[], a, b, d, e⟩) h0 i1 i2 i3 he)
  exact ⟨_, _, by simp, h5⟩
set_option maxRecDepth 100000 in
set_option maxHeartbeats 4000000 in
theorem totals_c (code : List Int) (A : Option Addr) (n c g K : Nat) (w : World) (B : Nat) (hc : Mm.SlAt Mm.u8 w B code A n c) (hBg : B ≤ g) (h : (Mm.tcur 50 A n c g K).holds w) (hK : K < 4611686018427360000) :
    Calls Try.prog 28 #[.pointer (some ⟨g, 0, none⟩)] w fun e w' => ∃ (l : List Total) (A1 : Option Addr) (n1 c1 : Nat) (fp : List Nat), e = .returned (.slice A1 n1 c1) ∧ l.length ≤ 41 ∧ Mm.SepF [g] w w' [Mm.tsl rTotal 59 l (.slice A1 n1 c1) fp, Mm.tcur 50 A n c g (K + 1100)] := by
  have hgw : g < w.heap.size := (Mm.tcur 50 A n c g K).lt h g (by simp [Mm.tcur])
  have HC := Lib.hid hc
  have HS : Hid (Mm.SepF [g] w w [Mm.tcur 50 A n c g K]) := Mm.SepF.one (Mm.tcur 50 A n c g K) w h (by simp [Mm.tcur])
  clear hc h
  go_enter Try.func28, Try.ntmps28
  go_upto_region 2 with (first
    | (go_at_call 21; refine (items_c code A n c g _ _ B (HC.out.keep fun b hb => HS.out.chg.block b (by omega) (by simp; omega)) hBg (HS.out.at_ 0 rfl) (by omega)).mono ?_; rintro e w1 ⟨l, A1, n1, c1, fp1, rfl, hl, hS⟩; (have HS1 := Lib.hid (HS.out.callAll 0 rfl hS)); clear hS)
    | (go_at_call 22; refine (names_c code A n c g _ _ B (HC.out.keep fun b hb => HS1.out.chg.block b (by omega) (by simp; omega)) hBg (HS1.out.at_ 2 rfl) (by omega)).mono ?_; rintro e w2 ⟨nms, A2, n2, c2, fp2, rfl, hl2, hS⟩; (have HS2 := Lib.hid (HS1.out.callAll 2 rfl hS)); clear hS)
    | (go_at_call 56; refine (specTotalsBy_c l A1 n1 c1 nms A2 n2 c2 _ w2.heap.size (HS2.out.rdSl 1 rfl) (HS2.out.rdSl 3 rfl) (Nat.le_refl _)).mono ?_; rintro e w3 ⟨A3, n3, c3, fp3, rfl, ho, hnd, hnew, hb⟩; (have HS3 := Lib.hid ((HS2.out.add hb (t := Mm.tsl rTotal 59 _ _ _) ho hnd hnew).sel [0, 5] (by decide) rfl)); clear ho hnd hnew hb; have hts := Nat.le_trans (Pl.tby_len l nms) hl; obtain ⟨ts, hts2⟩ : ∃ ts, (Pl.tby l nms).1 = ts := ⟨_, rfl⟩; rw [hts2] at HS3 hts; clear hts2; have hn3 : n3 = ts.length := (by obtain ⟨_, _, _, hv, q1, _⟩ := (HS3.out.sl 0 rfl).form; injection hv with _ q2 _; omega); (have HN3 := Lib.hid hn3); clear hn3))
  by_cases hm0 : 0 < n3
  · have hm1 : (0 : Int) < (n3 : Nat) := by omega
    obtain ⟨g1, rfl, hg1, -⟩ := Mm.sl_addr (HS3.out.sl 0 rfl) (by rw [← HN3.out]; exact hm0)
    go_upto_if 19 with ((go_at_call 41); (refine (one_c code A n c g _ _ _ B (HC.out.keep fun b hb => HS3.out.chg.block b (by omega) (by simp; omega)) hBg (HS3.out.at_ 1 rfl) (by omega) (by omega)).mono ?_); (rintro e w1 ⟨b9, rfl, hL⟩); ((have HS := Lib.hid (HS3.out.call 1 rfl hL))); (clear hL))
    cases b9
    · go_wp2_with fail
      go_ret
      exact ⟨ts, _, _, _, fp3, rfl, hts, HS.out.more 1 rfl (by omega)⟩
    · have hgw1 : g < w1.heap.size := Nat.lt_of_lt_of_le hgw HS.out.chg.size
      have hn41 : n3 ≤ 41 := by rw [HN3.out]; exact hts
      obtain ⟨x, hx⟩ : ∃ x : Nat → Total, ∀ k, k < n3 → ts[k]? = some (x k) := ⟨fun k => if h : k < ts.length then ts[k] else ⟨[], 0, 0, 0, 0⟩, fun k hk => by rw [HN3.out] at hk; rw [List.getElem?_eq_getElem hk]; simp [hk]⟩
      have HX := Lib.hid hx
      clear hx
      go_wp2_with (first
        | ((go_at_call 31); (refine (pick_c code A n c g _ _ _ B (HC.out.keep fun b hb => HP4.out.chg.block b (by omega) (by simp; omega)) hBg (HP4.out.at_ 1 rfl) (by omega) (by omega)).mono ?_); (rintro e w1 ⟨b7, rfl, b70, b7x, b71, hL⟩); ((have HP5 := Lib.hid (HP4.out.call 1 rfl hL))); (clear hL); have b72 := b71 (by omega); obtain ⟨qa, qn, qc, q0, q1, q2, q3⟩ := rTotal_ocell (HP5.out.sl 0 rfl) (HP5.out.ndat (i := 0) rfl) (HX.out b2.toNat (by omega)); have z0 := (HP5.out.sl 0 rfl).frozen (b2.toNat * 5); have z1 := (HP5.out.sl 0 rfl).frozen (b2.toNat * 5 + 1); have z2 := (HP5.out.sl 0 rfl).frozen (b2.toNat * 5 + 2); have z3 := (HP5.out.sl 0 rfl).frozen (b2.toNat * 5 + 3); have z4 := (HP5.out.sl 0 rfl).frozen (b2.toNat * 5 + 4))
        | ((go_at_call 31); (refine (pick_c code A n c g _ _ _ B (HC.out.keep fun b hb => HP3.out.chg.block b (by omega) (by simp; omega)) hBg (HP3.out.at_ 1 rfl) (by omega) (by omega)).mono ?_); (rintro e w1 ⟨b6, rfl, b60, b6x, b61, hL⟩); ((have HP4 := Lib.hid (HP3.out.call 1 rfl hL))); (clear hL); have b62 := b61 (by omega))
        | (go_at_call 32; refine (among_c code A n c g _ [0, 1, 1000, 1001] _ 4 _ B (HC.out.keep fun b hb => HA.out.chg.block b (by omega) (by simp; omega)) hBg (HA.out.at_ 2 rfl) (by omega) (HA.out.at_ 0 rfl) (by omega) rfl (by omega) (by omega)).mono ?_; rintro e w5 ⟨v, rfl, hv, hL⟩; (have HP3 := Lib.hid ((HA.out.call 2 rfl hL).tail)); clear hL HA; have hvi : Mm.I64 v := (by simp only [List.mem_cons, List.not_mem_nil, or_false] at hv; unfold Mm.I64; omega); (have HV := Lib.hid hvi); clear hv hvi)
        | ((go_at_call 31); (refine (pick_c code A n c g _ _ _ B (HC.out.keep fun b hb => HP1.out.chg.block b (by omega) (by simp; omega)) hBg (HP1.out.at_ 1 rfl) (by omega) (by omega)).mono ?_); (rintro e w1 ⟨b3, rfl, b30, b3x, b31, hL⟩); ((have HP2 := Lib.hid (HP1.out.call 1 rfl hL))); (clear hL); have b32 := b31 (by omega); (have hgw2 : g < w1.heap.size := Nat.lt_of_lt_of_le hgw HP2.out.chg.size); (have HA := Lib.hid (HP2.out.alloc' rfl 3 [.int .i64 0, .int .i64 1, .int .i64 1000, .int .i64 1001])))
        | ((go_at_call 31); (refine (pick_c code A n c g _ _ _ B (HC.out.keep fun b hb => HS.out.chg.block b (by omega) (by simp; omega)) hBg (HS.out.at_ 1 rfl) (by omega) (by omega)).mono ?_); (rintro e w1 ⟨b2, rfl, b20, b2x, b21, hL⟩); ((have HP1 := Lib.hid (HS.out.call 1 rfl hL))); (clear hL); have b22 := b21 (by omega)))
      go_ret
      obtain ⟨xs', fp', hxl, hf⟩ := (HP5.out).totSet (HX.out b2.toNat (by omega)) (a := b3) (b := v) (d := b6) (e := b7) (by unfold Mm.I64; omega) HV.out (by unfold Mm.I64; omega) (by unfold Mm.I64; omega)
      exact ⟨xs', _, _, _, fp', rfl, by omega, hf.more 1 rfl (by omega)⟩
  · have hm1 : ¬ (0 : Int) < (n3 : Nat) := by omega
    go_wp2_with fail
    go_ret
    first
      | exact ⟨ts, _, _, _, fp3, rfl, hts, HS3.out.more 1 rfl (by omega)⟩
      | exact ⟨ts, _, _, _, rfl, hts, fp3, HS3.out.more 1 rfl (by omega)⟩
end Go.Proofs.Ytnppcdiicnofpab

/-
  Contracts: what is drawn for totals (chapter 14). No conditions.
-/
namespace Go.Proofs.Ytnppcdiicnofpab
open Go.RowKit
attribute [local go_sem] und_cell World.cell?_alloc_some
theorem Mm.SepF.curs2 {F : List Nat} {w0 wr : World} {ts : List Mm.Thing} {T : TypeId} {A : Option Addr} {n c g : Nat} (h : Mm.SepF F w0 wr (Mm.tblk g T [.slice A n c, .int .i64 0, .int .u64 0] :: ts)) : Mm.SepF F w0 wr (Mm.tcur T A n c g 0 :: ts) :=
  h.conv (by simp [Mm.tcur, Mm.tblk]) (List.forall_mem_cons.2 ⟨⟨0, 0, h.at_ 0 rfl, by omega, by omega⟩, fun u hu => h.hold u (List.mem_cons_of_mem _ hu)⟩)
set_option maxRecDepth 100000 in
set_option maxHeartbeats 2000000 in
theorem DrawTotalsBy_c (code : List Int) (A : Option Addr) (n c : Nat) (w : World) (B : Nat) (hc : Mm.SlAt Mm.u8 w B code A n c) (hB : B ≤ w.heap.size) :
    Calls Try.prog 4 #[.slice A n c] w fun e w' => ∃ (l : List Item) (A1 : Option Addr) (n1 c1 : Nat) (f1 : List Nat) (nm : List ByteArray) (A2 : Option Addr) (n2 c2 : Nat) (f2 : List Nat), e = .returned (.tuple #[.slice A1 n1 c1, .slice A2 n2 c2]) ∧ l.length ≤ 41 ∧ nm.length ≤ 7 ∧ Mm.SepF [] w w' [Mm.tsl rItem 56 l (.slice A1 n1 c1) f1, Mm.tsl Mm.str 9 nm (.slice A2 n2 c2) f2] := by
  (have HC := Lib.hid hc); (clear hc); (obtain ⟨g, hg⟩ : ∃ g, w.heap.size = g := ⟨_, rfl⟩); (obtain ⟨W1, hW1⟩ : ∃ W1, w.alloc (.cells #[.slice A n c, .int .i64 0, .int .u64 0] 50) = W1 := ⟨_, rfl⟩); (have HS := Lib.hid ((((Mm.SepF.start w).alloc' hg 50 [.slice A n c, .int .i64 0, .int .u64 0]).atW hW1).curs2)); (have hBg : B ≤ g := by omega)
  go_enter Try.func4, Try.ntmps4
  go_upto_region 2 with fail
  clear hW1
  go_wp2_with (first
    | (go_at_call 21; refine (items_c code A n c g _ _ B (HC.out.keep fun b hb => HS.out.chg.block b (Nat.lt_of_lt_of_le hb hB) (by simp)) hBg (HS.out.at_ 0 rfl) (by omega)).mono ?_; rintro e w1 ⟨l, A1, n1, c1, f1, rfl, hl, hS⟩; (have HS1 := Lib.hid (HS.out.callAll 0 rfl hS)); clear hS)
    | (go_at_call 22; refine (names_c code A n c g _ _ B (HC.out.keep fun b hb => HS1.out.chg.block b (Nat.lt_of_lt_of_le hb hB) (by simp)) hBg (HS1.out.at_ 2 rfl) (by omega)).mono ?_; rintro e w2 ⟨nms, A2, n2, c2, f2, rfl, hl2, hS⟩; (have HS2 := Lib.hid (HS1.out.callAll 2 rfl hS)); clear hS))
  exact bodyPost_ret (v := .tuple #[.slice A1 n1 c1, .slice A2 n2 c2]) (by simp [results, Try.results4, go_sem]) rfl ⟨l, A1, n1, c1, f1, nms, A2, n2, c2, f2, rfl, hl, hl2, HS2.out.sel [1, 3] (by decide) rfl⟩
end Go.Proofs.Ytnppcdiicnofpab

/-
  Contracts: what is drawn for coarser totals and top groups; laws.has (chapter 14). No conditions.
-/
namespace Go.Proofs.Ytnppcdiicnofpab
open Go.RowKit
attribute [local go_sem] und_cell World.cell?_alloc_some
set_option maxRecDepth 100000 in
set_option maxHeartbeats 2000000 in
theorem DrawCoarseTotals_c (code : List Int) (A : Option Addr) (n c : Nat) (w : World) (B : Nat) (hc : Mm.SlAt Mm.u8 w B code A n c) (hB : B ≤ w.heap.size) :
    Calls Try.prog 9 #[.slice A n c] w fun e w' => ∃ (l : List Total) (A1 : Option Addr) (n1 c1 : Nat) (f1 : List Nat) (nm : List ByteArray) (A2 : Option Addr) (n2 c2 : Nat) (f2 : List Nat), e = .returned (.tuple #[.slice A1 n1 c1, .slice A2 n2 c2]) ∧ l.length ≤ 41 ∧ nm.length ≤ 7 ∧ Mm.SepF [] w w' [Mm.tsl rTotal 59 l (.slice A1 n1 c1) f1, Mm.tsl Mm.str 9 nm (.slice A2 n2 c2) f2] := by
  (have HC := Lib.hid hc); (clear hc); (obtain ⟨g, hg⟩ : ∃ g, w.heap.size = g := ⟨_, rfl⟩); (obtain ⟨W1, hW1⟩ : ∃ W1, w.alloc (.cells #[.slice A n c, .int .i64 0, .int .u64 0] 50) = W1 := ⟨_, rfl⟩); (have HS := Lib.hid ((((Mm.SepF.start w).alloc' hg 50 [.slice A n c, .int .i64 0, .int .u64 0]).atW hW1).curs2)); (have hBg : B ≤ g := by omega)
  go_enter Try.func9, Try.ntmps9
  go_upto_region 2 with fail
  clear hW1
  go_wp2_with (first
    | ((go_at_call 28; refine (totals_c code A n c g _ _ B (HC.out.keep fun b hb => HS.out.chg.block b (Nat.lt_of_lt_of_le hb hB) (by simp)) hBg (HS.out.at_ 0 rfl) (by omega)).mono ?_; rintro e w1 ⟨l, A1, n1, c1, f1, rfl, hl, hS⟩; (have HS1 := Lib.hid (HS.out.callAll 0 rfl hS)); clear hS))
    | (go_at_call 22; refine (names_c code A n c g _ _ B (HC.out.keep fun b hb => HS1.out.chg.block b (Nat.lt_of_lt_of_le hb hB) (by simp)) hBg (HS1.out.at_ 2 rfl) (by omega)).mono ?_; rintro e w2 ⟨nms, A2, n2, c2, f2, rfl, hl2, hS⟩; (have HS2 := Lib.hid (HS1.out.callAll 2 rfl hS)); clear hS))
  exact bodyPost_ret (v := .tuple #[.slice A1 n1 c1, .slice A2 n2 c2]) (by simp [results, Try.results9, go_sem]) rfl ⟨l, A1, n1, c1, f1, nms, A2, n2, c2, f2, rfl, hl, hl2, HS2.out.sel [1, 3] (by decide) rfl⟩
set_option maxRecDepth 100000 in
set_option maxHeartbeats 2000000 in
theorem DrawValuesOf_c (code : List Int) (A : Option Addr) (n c : Nat) (w : World) (B : Nat) (hc : Mm.SlAt Mm.u8 w B code A n c) (hB : B ≤ w.heap.size) :
    Calls Try.prog 14 #[.slice A n c] w fun e w' => ∃ (l : List Total) (A1 : Option Addr) (n1 c1 : Nat) (f1 : List Nat) (op : Int), e = .returned (.tuple #[.slice A1 n1 c1, .int .i64 op]) ∧ Mm.SepF [] w w' [Mm.tsl rTotal 59 l (.slice A1 n1 c1) f1] := by
  (have HC := Lib.hid hc); (clear hc); (obtain ⟨g, hg⟩ : ∃ g, w.heap.size = g := ⟨_, rfl⟩); (obtain ⟨W1, hW1⟩ : ∃ W1, w.alloc (.cells #[.slice A n c, .int .i64 0, .int .u64 0] 50) = W1 := ⟨_, rfl⟩); (have HS := Lib.hid ((((Mm.SepF.start w).alloc' hg 50 [.slice A n c, .int .i64 0, .int .u64 0]).atW hW1).curs2)); (have hBg : B ≤ g := by omega)
  go_enter Try.func14, Try.ntmps14
  go_upto_region 2 with fail
  clear hW1
  go_wp2_with (first
    | ((go_at_call 28; refine (totals_c code A n c g _ _ B (HC.out.keep fun b hb => HS.out.chg.block b (Nat.lt_of_lt_of_le hb hB) (by simp)) hBg (HS.out.at_ 0 rfl) (by omega)).mono ?_; rintro e w1 ⟨l, A1, n1, c1, f1, rfl, hl, hS⟩; (have HS1 := Lib.hid (HS.out.callAll 0 rfl hS)); clear hS))
    | (go_at_call 31; refine (pick_c code A n c g _ _ _ B (HC.out.keep fun b hb => HS1.out.chg.block b (Nat.lt_of_lt_of_le hb hB) (by simp)) hBg (HS1.out.at_ 2 rfl) (by omega) (by omega)).mono ?_; rintro e w2 ⟨b, rfl, -, -, -, hL⟩; (have HS2 := Lib.hid (HS1.out.call 2 rfl hL)); clear hL))
  exact bodyPost_ret (v := .tuple #[.slice A1 n1 c1, .int .i64 b]) (by simp [results, Try.results14, go_sem]) rfl ⟨l, A1, n1, c1, f1, b, rfl, HS2.out.sel [1] (by decide) rfl⟩
set_option maxRecDepth 100000 in
set_option maxHeartbeats 2000000 in
theorem DrawTopOf_c (code : List Int) (A : Option Addr) (n c : Nat) (w : World) (B : Nat) (hc : Mm.SlAt Mm.u8 w B code A n c) (hB : B ≤ w.heap.size) :
    Calls Try.prog 11 #[.slice A n c] w fun e w' => ∃ (l : List Total) (A1 : Option Addr) (n1 c1 : Nat) (f1 : List Nat) (op many : Int), e = .returned (.tuple #[.slice A1 n1 c1, .int .i64 op, .int .i64 many]) ∧ Mm.SepF [] w w' [Mm.tsl rTotal 59 l (.slice A1 n1 c1) f1] := by
  (have HC := Lib.hid hc); (clear hc); (obtain ⟨g, hg⟩ : ∃ g, w.heap.size = g := ⟨_, rfl⟩); (obtain ⟨W1, hW1⟩ : ∃ W1, w.alloc (.cells #[.slice A n c, .int .i64 0, .int .u64 0] 50) = W1 := ⟨_, rfl⟩); (have HS := Lib.hid ((((Mm.SepF.start w).alloc' hg 50 [.slice A n c, .int .i64 0, .int .u64 0]).atW hW1).curs2)); (have hBg : B ≤ g := by omega)
  go_enter Try.func11, Try.ntmps11
  go_upto_region 2 with fail
  clear hW1
  go_wp2_with (first
    | ((go_at_call 28; refine (totals_c code A n c g _ _ B (HC.out.keep fun b hb => HS.out.chg.block b (Nat.lt_of_lt_of_le hb hB) (by simp)) hBg (HS.out.at_ 0 rfl) (by omega)).mono ?_; rintro e w1 ⟨l, A1, n1, c1, f1, rfl, hl, hS⟩; (have HS1 := Lib.hid (HS.out.callAll 0 rfl hS)); clear hS))
    | (go_at_call 31; refine (pick_c code A n c g _ _ _ B (HC.out.keep fun b hb => HS1.out.chg.block b (Nat.lt_of_lt_of_le hb hB) (by simp)) hBg (HS1.out.at_ 2 rfl) (by omega) (by omega)).mono ?_; rintro e w2 ⟨b, rfl, -, -, -, hL⟩; (have HS2 := Lib.hid (HS1.out.call 2 rfl hL)); clear hL)
    | (go_at_call 32; (have HA := Lib.hid (HS2.out.alloc' rfl 3 [.int .i64 (-1), .int .i64 0, .int .i64 1, .int .i64 2, .int .i64 40, .int .i64 41])); refine (among_c code A n c g _ [-1, 0, 1, 2, 40, 41] _ 6 _ B (HC.out.keep fun b hb => HA.out.chg.block b (by omega) (by simp)) hBg (HA.out.at_ 3 rfl) (by omega) (HA.out.at_ 0 rfl) (by have := HS2.out.lt g (Mm.SepF.mem (i := 2) rfl (by simp [Mm.tcur])); omega) rfl (by omega) (by omega)).mono ?_; rintro e w3 ⟨v, rfl, -, hL⟩; (have HS3 := Lib.hid (HA.out.call 3 rfl hL)); clear hL HA))
  exact bodyPost_ret (v := .tuple #[.slice A1 n1 c1, .int .i64 b, .int .i64 v]) (by simp [results, Try.results11, go_sem]) rfl ⟨l, A1, n1, c1, f1, b, v, rfl, HS3.out.sel [2] (by decide) rfl⟩
set_option maxRecDepth 100000 in
theorem has_c (l : List Int) (t : Int) (A : Option Addr) (n c : Nat) (w : World) (B : Nat) (hl : Mm.SlAt Mm.int w B l A n c) :
    Calls Try.prog 20 #[.slice A n c, .int .i64 t] w fun e w' => e = .returned (.bool (decide (t ∈ l))) ∧ w = w' := by
  have hlen : Hid (l.length = n) := hl.1
  have hn : n ≤ 9223372036854775807 := by have := hl.2.1; have := hl.2.2.1; unfold maxLen at this; omega
  have HL := Lib.hid hl
  clear hl
  obtain ⟨hv, hhv⟩ : ∃ hv, decide (t ∈ l) = hv := ⟨_, rfl⟩
  rw [hhv]
  have HHV := Lib.hid hhv
  clear hhv
  go_enter Try.func20, Try.ntmps20
  go_wp2
  go_loopg [9] n (fun g i wr => wr = w ∧ ∃ k : Nat, n - k ≤ g ∧ k ≤ n ∧ i = .int .i64 k ∧ Hid (∀ (j : Nat) x, j < k → l[j]? = some x → x ≠ t))
  case atStart => exact ⟨rfl, 0, Nat.le_refl _, Nat.zero_le _, rfl, fun j x hj => absurd hj (Nat.not_lt_zero _)⟩
  case round =>
    obtain ⟨rfl, k, hgk, hk, rfl, HU⟩ := hrel
    by_cases hlt : k < n
    · obtain ⟨x, b0, off, hx, rfl, hb, b1, d1⟩ := int_get HL.out hlt
      have f1 : (k : Int) < (n : Nat) := by omega
      have f2 : (0 : Int) ≤ (k : Nat) := by omega
      have f3 : ((k : Nat) : Int).toNat = k := by omega
      have HX := Lib.hid hx
      clear hx b1
      by_cases he : x = t
      · have f4 : (x == t) = true := by simp [he]
        have HT : Hid (hv = true) := Lib.hid (HHV.out.symm.trans (decide_eq_true (List.mem_of_getElem? (he ▸ HX.out))))
        have hT := HT.out
        subst hT
        clear he
        go_wp2
        go_ret
        exact ⟨rfl, rfl⟩
      · have f4 : (x == t) = false := by simp [he]
        have HN : Hid (∀ (j : Nat) x, j < k + 1 → l[j]? = some x → x ≠ t) := Lib.hid (fun j y hj hy => by
          rcases Nat.lt_succ_iff_lt_or_eq.1 hj with h1 | rfl
          · exact HU.out j y h1 hy
          · rw [HX.out] at hy; injection hy with hy; rw [← hy]; exact he)
        clear he
        go_wp2
        go_roundg (n - (k + 1))
        case measure => omega
        case rel => exact ⟨rfl, k + 1, Nat.le_refl _, by omega, by go_num, HN.out⟩
    · have f1 : ¬ (k : Int) < (n : Nat) := by omega
      have HT : Hid (hv = false) := Lib.hid (HHV.out.symm.trans (decide_eq_false (fun h => by
        obtain ⟨j, hj⟩ := List.mem_iff_getElem?.1 h
        exact HU.out j t (by have := (List.getElem?_eq_some_iff.1 hj).1; rw [hlen.out] at this; omega) hj rfl)))
      have hT := HT.out
      subst hT
      go_wp2
      go_ret
      exact ⟨rfl, rfl⟩
end Go.Proofs.Ytnppcdiicnofpab

/-
  Contracts: TopOf of the reference. No conditions beyond those named.
-/
namespace Go.Proofs.Ytnppcdiicnofpab
open Go.RowKit
attribute [local go_sem] und_cell World.cell?_alloc_some
namespace Pl
def topPos (v : Int → Int) (u : Int) : List Int → Nat
  | [] => 0
  | y :: t => if u ≤ v y then topPos v u t + 1 else 0
theorem topIns_eq (v : Int → Int) (x : Int) (o : List Int) : topIns v x o = o.take (topPos v (v x) o) ++ [x] ++ o.drop (topPos v (v x) o) := by
  induction o with
  | nil => rfl
  | cons y t ih =>
    rw [topIns, topPos]
    split
    · rw [ih]; rfl
    · rfl
theorem topPos_of {v : Int → Int} {u : Int} {o : List Int} {k : Nat} (h : ∀ (j : Nat) y, j < k → o[j]? = some y → u ≤ v y) (hk : k ≤ o.length) (he : ∀ y, o[k]? = some y → v y < u) : topPos v u o = k := by
  induction o generalizing k with
  | nil => simp at hk; rw [hk]; rfl
  | cons y t ih =>
    rw [topPos]
    cases k with
    | zero => rw [if_neg (by have := he y rfl; omega)]
    | succ k =>
      rw [if_pos (h 0 y (by omega) rfl), ih (fun j z hj hz => h (j + 1) z (by omega) hz) (by simp at hk; exact hk) (fun z hz => he z hz)]
end Pl
theorem Mm.flatN_intS : Mm.FlatN Mm.int (fun x : Int => [Value.int .i64 x]) := ⟨by decide, fun h => by
  obtain ⟨rfl, h1, rfl⟩ := h
  exact ⟨rfl, rfl, fun w' => ⟨rfl, h1, rfl⟩⟩⟩
set_option maxRecDepth 100000 in
set_option maxHeartbeats 4000000 in
theorem specTopOf_c (l : List Total) (A : Option Addr) (n c : Nat) (op many : Int) (w : World) (B : Nat) (hl : Mm.SlAt rTotal w B l A n c) (hB : B ≤ w.heap.size) :
    Calls Try.prog 13 #[.slice A n c, .int .i64 op, .int .i64 many] w (Mm.RetS2 Mm.int 3 w (Pl.topOf l op many).1 (Pl.topOf l op many).2) := by
  have hlen : Hid (l.length = n) := hl.1
  have HL := Lib.hid hl
  clear hl
  cases hc : Pl.totalsOk l
  · have HF : Hid (Pl.topOf l op many = ([], false)) := if_neg (by unfold Pl.topOk; rw [hc]; simp)
    go_enter Try.func13, Try.ntmps13
    go_wp2_with (go_at_call 19; refine (GoodTotals_c l _ _ _ _ B HL.out hB).mono ?_; rintro e w1 ⟨rfl, hb1⟩)
    rw [HF.out]
    go_ret2
    exact (Mm.Acc.nil hb1).ret
  cases hp : Pl.isIn op 1 4
  · have HF : Hid (Pl.topOf l op many = ([], false)) := if_neg (by unfold Pl.topOk; rw [hp]; simp)
    go_enter Try.func13, Try.ntmps13
    go_wp2_with first
      | (go_at_call 19; refine (GoodTotals_c l _ _ _ _ B HL.out hB).mono ?_; rintro e w1 ⟨rfl, hb1⟩)
      | (go_at_call 37; refine (l1In_c _ _ _ _).mono ?_; rintro e w2 ⟨rfl, rfl⟩)
    rw [HF.out]
    go_ret2
    exact (Mm.Acc.nil hb1).ret
  cases hq : Pl.isIn many 0 40
  · have HF : Hid (Pl.topOf l op many = ([], false)) := if_neg (by unfold Pl.topOk; rw [hq]; simp)
    go_enter Try.func13, Try.ntmps13
    go_wp2_with first
      | (go_at_call 19; refine (GoodTotals_c l _ _ _ _ B HL.out hB).mono ?_; rintro e w1 ⟨rfl, hb1⟩)
      | (go_at_call 37; refine (l1In_c _ _ _ _).mono ?_; rintro e w2 ⟨rfl, rfl⟩)
    rw [HF.out]
    go_ret2
    exact (Mm.Acc.nil hb1).ret
  obtain ⟨mn, rfl⟩ : ∃ mn : Nat, many = mn := ⟨many.toNat, by have := Pl.isIn_iff.1 hq; omega⟩
  have hmn : mn ≤ 40 := by have := Pl.isIn_iff.1 hq; omega
  have HF : Hid (Pl.topOf l op mn = ((Pl.topTo (Pl.valAt (Pl.totalValues l op)) l.length).take mn, true)) := if_pos (by unfold Pl.topOk; rw [hc, hp, hq]; rfl)
  have hpb := Pl.isIn_iff.1 hp
  have hn : n ≤ 40 := by have := Pl.totalsOk_len hc; have := hlen.out; omega
  have HVL : Hid ((Pl.totalValues l op).length = n) := by show _ = _; unfold Pl.totalValues; rw [List.length_map]; exact hlen.out
  rw [HF.out]
  obtain ⟨vs, hvs⟩ : ∃ vs, Pl.totalValues l op = vs := ⟨_, rfl⟩
  have CV := fun (W : World) (h : Below w.heap.size w W) => l14Values_c l op A n c W B (HL.out.keep fun b hb' => h.block b (Nat.lt_of_lt_of_le hb' hB)) (Nat.le_trans hB h.size) hpb hn
  rw [hvs] at HVL CV ⊢
  clear hvs HF
  have HCV := Lib.hid CV
  clear CV
  obtain ⟨i0, hi, hz0, hz1, hz2⟩ := info_parts Try.infoVi
  go_enter Try.func13, Try.ntmps13
  go_upto_region 4 with first
    | (go_at_call 19; refine (GoodTotals_c l _ _ _ _ B HL.out hB).mono ?_; rintro e w1 ⟨rfl, hb1⟩)
    | (go_at_call 37; refine (l1In_c _ _ _ _).mono ?_; rintro e w2 ⟨rfl, rfl⟩)
    | (go_at_call 38; refine (HCV.out _ hb1).mono ?_; rintro e w3 ⟨A3, n3, c3, f3, rfl, k1, k2, k3, k4⟩; (have HO3 := Lib.hid (And.intro (k1.weak k1.olt) (below_step hb1 k4))); (have hn3 : n3 = n := by obtain ⟨_, _, _, hv, q1, _⟩ := k1.form; injection hv with _ q2 _; have := HVL.out; omega); clear k1 k2 k3 k4 hb1)
  subst hn3
  have HS0 := Lib.hid ((Mm.SepF.start w3).add (Below.refl _ _) (t := Mm.tsl Mm.int 3 [] (.slice none 0 0) []) Mm.SlOwn.nil List.nodup_nil (fun b hb => by cases hb))
  clear hc hp hq hpb
  go_wp2
  go_loopg [9, 32] n3 (fun gg s9 s32 wr => ∃ (i : Nat) (A5 : Option Addr) (c5 : Nat) (f5 : List Nat), n3 - i ≤ gg ∧ i ≤ n3 ∧ s9 = .slice A5 i c5 ∧ s32 = .int .i64 i ∧ Hid (Mm.SepF [] w3 wr [Mm.tsl Mm.int 3 (Pl.topTo (Pl.valAt vs) i) (.slice A5 i c5) f5]))
  case atStart => exact ⟨0, none, 0, [], Nat.le_refl _, Nat.zero_le _, rfl, rfl, HS0.out⟩
  case round =>
    clear HS0
    obtain ⟨i, A5, c5, f5, hgi, hin, rfl, rfl, HS⟩ := hrel
    obtain ⟨W, rfl⟩ : ∃ W : World, W = wr := ⟨_, rfl⟩
    have HVS := Lib.hid (HO3.out.1.keep (w' := W) fun b hb => HS.out.bel0.block b hb)
    have hsz : w3.heap.size ≤ W.heap.size := HS.out.bel0.size
    by_cases hlt : i < n3
    · obtain ⟨u, b, off, hu, rfl, hb, iu, e0⟩ := int_get HVS.out hlt
      have HU : Hid (Pl.valAt vs i = u) := Lib.hid (Pl.valAt_of (by rw [Int.toNat_natCast]; exact hu))
      have f1 : (i : Int) < (n3 : Nat) := by omega
      have f2 : (0 : Int) ≤ (i : Nat) := by omega
      have f3' : ((i : Nat) : Int).toNat = i := by omega
      have HO := Lib.hid (HS.out.rdSl 0 rfl)
      have HOL : Hid ((Pl.topTo (Pl.valAt vs) i).length = i) := Pl.topTo_len _ _
      have hcap : i ≤ c5 ∧ c5 ≤ maxLen ∧ (A5 = none → c5 = 0) := HO.out.2.imp id (fun h => ⟨h.1, h.2.1⟩)
      have hI : Mm.I64 (i : Int) := by unfold Mm.I64; omega
      have HI := Lib.hid hI
      clear hu iu hI
      go_upto_region 8 with fail
      clear e0
      go_wp2
      go_loopg [12] i (fun gi s12 wr => ∃ k : Nat, i - k ≤ gi ∧ k ≤ i ∧ s12 = .int .i64 k ∧ Hid (∀ (j : Nat) y, j < k → (Pl.topTo (Pl.valAt vs) i)[j]? = some y → u ≤ Pl.valAt vs y) ∧ wr = W)
      case atStart => exact ⟨0, by omega, by omega, rfl, fun j y hj => absurd hj (Nat.not_lt_zero _), rfl⟩
      case round =>
        obtain ⟨k, hgk, hki, rfl, HK, rfl⟩ := hrel
        obtain ⟨V, rfl⟩ : ∃ V : World, V = wr := ⟨_, rfl⟩
        have HEQ0 := fun (h : Pl.topPos (Pl.valAt vs) u (Pl.topTo (Pl.valAt vs) i) = k) => (show (Pl.topTo (Pl.valAt vs) i).take k ++ [(i : Int)] ++ (Pl.topTo (Pl.valAt vs) i).drop k = Pl.topTo (Pl.valAt vs) (i + 1) by rw [Pl.topTo, Pl.topIns_eq, HU.out, h])
        have KEQ := Lib.hid HEQ0
        clear HEQ0
        have HS3 := Lib.hid (HS.out.fresh (g := V.heap.size) rfl Mm.int 3)
        have HL1 : Hid (([] ++ (Pl.topTo (Pl.valAt vs) i).take k).length = k) := by show _ = _; rw [List.nil_append, List.length_take, HOL.out]; omega
        have HL2 : Hid ((([] ++ (Pl.topTo (Pl.valAt vs) i).take k) ++ [(i : Int)]).length + (i - k) = i + 1) := by show _ = _; rw [List.length_append, HL1.out]; simp; omega
        have g1' : (0 : Int) ≤ (k : Nat) := by omega
        have g2' : ((k : Nat) : Int).toNat = k := by omega
        have g3' : (k : Int) ≤ (i : Nat) := by omega
        have g4' : (k : Int) ≤ (c5 : Nat) := by omega
        have hcm : c5 ≤ 9223372036854775807 := by have := hcap.2.1; unfold maxLen at this; omega
        by_cases hkl : k < i
        · as_aux_lemma =>
          obtain ⟨g, rfl, -, -⟩ := Mm.sl_addr (HS.out.sl 0 rfl) (by rw [HOL.out]; omega)
          obtain ⟨y, hy, hb2, iy, -⟩ := int_get' HO.out hkl
          have e0 := int_ocell (HS.out.sl 0 rfl) (HS.out.ndat (i := 0) rfl) hy
          have hym := Pl.topTo_mem (List.mem_of_getElem? hy)
          obtain ⟨z, hz, _, iz, e1⟩ := int_get' HVS.out (show y.toNat < n3 by omega)
          have hval : Pl.valAt vs y = z := Pl.valAt_of hz
          have hyn : y < (n3 : Nat) := by omega
          have hy0 : 0 ≤ y := hym.1
          have g1 : (k : Int) < (i : Nat) := by omega
          have HY := Lib.hid (And.intro hy hval)
          have HYI := Lib.hid iy
          clear hy hz hval iy iz hym
          by_cases hge : u ≤ z
          · have g4 : decide (z ≥ u) = true := decide_eq_true hge
            have HN : Hid (∀ (j : Nat) y, j < k + 1 → (Pl.topTo (Pl.valAt vs) i)[j]? = some y → u ≤ Pl.valAt vs y) := Lib.hid (fun j x hj hx => by
              rcases Nat.lt_succ_iff_lt_or_eq.1 hj with h1 | rfl
              · exact HK.out j x h1 hx
              · rw [HY.out.1] at hx; injection hx with hx; rw [← hx, HY.out.2]; exact hge)
            go_wp2
            go_roundg (i - (k + 1))
            case measure => omega
            case rel => exact ⟨k + 1, Nat.le_refl _, by omega, by go_num, HN.out, rfl⟩
          · have g4 : decide (z ≥ u) = false := decide_eq_false hge
            have HEQ1 := KEQ.out (Pl.topPos_of HK.out (by rw [HOL.out]; omega) (fun x hx => by rw [HY.out.1] at hx; injection hx with hx; rw [← hx, HY.out.2]; omega))
            have HEQ : Hid ([] ++ (Pl.topTo (Pl.valAt vs) i).take k ++ [(i : Int)] ++ (Pl.topTo (Pl.valAt vs) i).drop k = Pl.topTo (Pl.valAt vs) (i + 1)) := Lib.hid (by rw [List.nil_append]; exact HEQ1)
            clear HEQ1
            have hcut := Mm.run_cut (P := Try.prog) (t := 37) (s := 1) (by kernel_rfl) (fun W => by kernel_rfl) (g := g) (n := i) (c := c5) (j := k) (i := (k : Int)) (by omega) (by omega)
            obtain ⟨AC, hAC⟩ : ∃ AC, (if c5 = k then (some ⟨g, 0, none⟩ : Option Addr) else some ⟨g, k * 1, none⟩) = AC := ⟨_, rfl⟩
            rw [hAC] at hcut
            have HAC := Lib.hid hAC
            clear hAC
            have HRD : ∀ W, Hid (Mm.SlAt Mm.int W W.heap.size (Pl.topTo (Pl.valAt vs) i) (some ⟨g, 0, none⟩) i c5 → Mm.SlAt Mm.int W W.heap.size ((Pl.topTo (Pl.valAt vs) i).drop k) AC (i - k) (c5 - k)) := fun W => Lib.hid (fun h => by
              obtain ⟨A', h1, h2⟩ := h.cut (j := k) (by omega) (s := 1) rfl
              rw [HAC.out] at h1
              subst h1
              exact h2)
            go_upto_region 11 with fail
            clear e0 e1
            go_upto_region 12 with (at_builtin; refine Mm.wpList_appMany rfl (.tmp 54) (.tmp 57) 37 rfl Mm.flat_int Mm.flatN_intS i0 _ 8 Try.underlying37 hi hz0 hz1 hz2 rfl HS3.out 0 rfl (Mm.SlAt.take (HS3.out.rdSl 1 rfl) (show k ≤ i by omega)) (m := k) (by simp) (by unfold maxLen; omega) (by omega) rfl rfl ?_; intro A2 c2 fp2 w1 hs1; (have HS5 := Lib.hid hs1); clear hs1)
            go_upto_region 13 with (at_builtin; refine Mm.app_list (x := (i : Int)) HS5.out 0 rfl rfl (.tmp 59) (.tmp 61) 37 rfl i0 _ 8 Try.underlying37 hi hz0 hz1 hz2 rfl (by decide) rfl rfl (fun W => ⟨rfl, HI.out, rfl⟩) HL1.out (by unfold maxLen; omega) (by omega) ?_; intro g2 cap w' fp' hs; (have HS6 := Lib.hid hs); clear hs)
            go_wp2_with (at_builtin; refine Mm.wpList_appMany rfl (.tmp 63) (.tmp 66) 37 rfl Mm.flat_int Mm.flatN_intS i0 _ 8 Try.underlying37 hi hz0 hz1 hz2 rfl HS6.out 0 rfl ((HRD _).out (HS6.out.rdSl 1 rfl)) (m := i + 1) HL2.out (by unfold maxLen; omega) (by omega) rfl rfl ?_; intro A4 c4 fp4 w4 hs4; rw [HEQ.out] at hs4; (have HS7 := Lib.hid hs4); clear hs4)
            go_roundg (n3 - (i + 1))
            case measure => omega
            case rel => exact ⟨i + 1, A4, c4, fp4, Nat.le_refl _, by omega, rfl, by go_num, HS7.out.sel [0] (by decide) rfl⟩
        · as_aux_lemma =>
          obtain rfl : k = i := by omega
          have HEQ1 := KEQ.out (Pl.topPos_of HK.out (by rw [HOL.out]; exact Nat.le_refl _) (fun x hx => by have := (List.getElem?_eq_some_iff.1 hx).1; rw [HOL.out] at this; omega))
          have HEQ : Hid ([] ++ (Pl.topTo (Pl.valAt vs) k).take k ++ [(k : Int)] ++ (Pl.topTo (Pl.valAt vs) k).drop k = Pl.topTo (Pl.valAt vs) (k + 1)) := Lib.hid (by rw [List.nil_append]; exact HEQ1)
          have g1 : ¬ (k : Int) < (k : Nat) := by omega
          clear HEQ1
          rcases (Mm.flat1_int.owns (HS.out.sl 0 rfl)).1.2 with ⟨hA, hk0⟩ | ⟨g, cp, cur, hA, -⟩
          · injection hA with a1 a2 a3
            subst a1 a2 a3
            have HRD : ∀ W, Hid (Mm.SlAt Mm.int W W.heap.size (Pl.topTo (Pl.valAt vs) 0) none 0 0 → Mm.SlAt Mm.int W W.heap.size ((Pl.topTo (Pl.valAt vs) 0).drop 0) none (0 - 0) (0 - 0)) := fun W => Lib.hid (fun h => h)
            have HEQ : Hid ([] ++ (Pl.topTo (Pl.valAt vs) 0).take 0 ++ [(0 : Int)] ++ (Pl.topTo (Pl.valAt vs) 0).drop 0 = Pl.topTo (Pl.valAt vs) (0 + 1)) := HEQ
            have HL2 : Hid ((([] ++ (Pl.topTo (Pl.valAt vs) 0).take 0) ++ [(0 : Int)]).length + (0 - 0) = 0 + 1) := HL2
            have HI : Hid (Mm.I64 (0 : Int)) := HI
            clear hk0
            go_upto_region 11 with fail
            go_upto_region 12 with (at_builtin; refine Mm.wpList_appMany rfl (.tmp 54) (.tmp 57) 37 rfl Mm.flat_int Mm.flatN_intS i0 _ 8 Try.underlying37 hi hz0 hz1 hz2 rfl HS3.out 0 rfl (Mm.SlAt.take (HS3.out.rdSl 1 rfl) (show 0 ≤ 0 by omega)) (m := 0) (by simp) (by unfold maxLen; omega) (by omega) rfl rfl ?_; intro A2 c2 fp2 w1 hs1; (have HS5 := Lib.hid hs1); clear hs1)
            go_upto_region 13 with (at_builtin; refine Mm.app_list (x := (0 : Int)) HS5.out 0 rfl rfl (.tmp 59) (.tmp 61) 37 rfl i0 _ 8 Try.underlying37 hi hz0 hz1 hz2 rfl (by decide) rfl rfl (fun W => ⟨rfl, HI.out, rfl⟩) HL1.out (by unfold maxLen; omega) (by omega) ?_; intro g2 cap w' fp' hs; (have HS6 := Lib.hid hs); clear hs)
            go_wp2_with (at_builtin; refine Mm.wpList_appMany rfl (.tmp 63) (.tmp 66) 37 rfl Mm.flat_int Mm.flatN_intS i0 _ 8 Try.underlying37 hi hz0 hz1 hz2 rfl HS6.out 0 rfl ((HRD _).out (HS6.out.rdSl 1 rfl)) (m := 0 + 1) HL2.out (by unfold maxLen; omega) (by omega) rfl rfl ?_; intro A4 c4 fp4 w4 hs4; rw [HEQ.out] at hs4; (have HS7 := Lib.hid hs4); clear hs4)
            go_roundg (n3 - (0 + 1))
            case measure => omega
            case rel => exact ⟨0 + 1, A4, c4, fp4, Nat.le_refl _, by omega, rfl, by go_num, HS7.out.sel [0] (by decide) rfl⟩
          · injection hA with a1 a2 a3
            subst a1
            clear a2 a3
            have hcut := Mm.run_cut (P := Try.prog) (t := 37) (s := 1) (by kernel_rfl) (fun W => by kernel_rfl) (g := g) (n := k) (c := c5) (j := k) (i := (k : Int)) (by omega) (by omega)
            obtain ⟨AC, hAC⟩ : ∃ AC, (if c5 = k then (some ⟨g, 0, none⟩ : Option Addr) else some ⟨g, k * 1, none⟩) = AC := ⟨_, rfl⟩
            rw [hAC] at hcut
            have HAC := Lib.hid hAC
            clear hAC
            have HRD : ∀ W, Hid (Mm.SlAt Mm.int W W.heap.size (Pl.topTo (Pl.valAt vs) k) (some ⟨g, 0, none⟩) k c5 → Mm.SlAt Mm.int W W.heap.size ((Pl.topTo (Pl.valAt vs) k).drop k) AC 0 (c5 - k)) := fun W => Lib.hid (fun h => by
              obtain ⟨A', h1, h2⟩ := h.cut (j := k) (by omega) (s := 1) rfl
              rw [HAC.out] at h1
              subst h1
              rw [Nat.sub_self] at h2
              exact h2)
            rw [Nat.sub_self] at HL2 hcut
            go_upto_region 11 with fail
            go_upto_region 12 with (at_builtin; refine Mm.wpList_appMany rfl (.tmp 54) (.tmp 57) 37 rfl Mm.flat_int Mm.flatN_intS i0 _ 8 Try.underlying37 hi hz0 hz1 hz2 rfl HS3.out 0 rfl (Mm.SlAt.take (HS3.out.rdSl 1 rfl) (show k ≤ k by omega)) (m := k) (by simp) (by unfold maxLen; omega) (by omega) rfl rfl ?_; intro A2 c2 fp2 w1 hs1; (have HS5 := Lib.hid hs1); clear hs1)
            go_upto_region 13 with (at_builtin; refine Mm.app_list (x := (k : Int)) HS5.out 0 rfl rfl (.tmp 59) (.tmp 61) 37 rfl i0 _ 8 Try.underlying37 hi hz0 hz1 hz2 rfl (by decide) rfl rfl (fun W => ⟨rfl, HI.out, rfl⟩) HL1.out (by unfold maxLen; omega) (by omega) ?_; intro g2 cap w' fp' hs; (have HS6 := Lib.hid hs); clear hs)
            go_wp2_with (at_builtin; refine Mm.wpList_appMany rfl (.tmp 63) (.tmp 66) 37 rfl Mm.flat_int Mm.flatN_intS i0 _ 8 Try.underlying37 hi hz0 hz1 hz2 rfl HS6.out 0 rfl ((HRD _).out (HS6.out.rdSl 1 rfl)) (m := k + 1) HL2.out (by unfold maxLen; omega) (by omega) rfl rfl ?_; intro A4 c4 fp4 w4 hs4; rw [HEQ.out] at hs4; (have HS7 := Lib.hid hs4); clear hs4)
            go_roundg (n3 - (k + 1))
            case measure => omega
            case rel => exact ⟨k + 1, A4, c4, fp4, Nat.le_refl _, by omega, rfl, by go_num, HS7.out.sel [0] (by decide) rfl⟩
    · obtain rfl : i = n3 := by omega
      have f1 : ¬ (i : Int) < (i : Nat) := by omega
      have HOL : Hid ((Pl.topTo (Pl.valAt vs) i).length = i) := Pl.topTo_len _ _
      have HLE : Hid (l.length = i) := hlen
      have hcap : i ≤ c5 ∧ c5 ≤ maxLen ∧ (A5 = none → c5 = 0) := (HS.out.rdSl 0 rfl).2.imp id (fun h => ⟨h.1, h.2.1⟩)
      have hcm : c5 ≤ 9223372036854775807 := by have := hcap.2.1; unfold maxLen at this; omega
      by_cases hmi : mn < i
      · as_aux_lemma =>
        have HS3 := Lib.hid (HS.out.fresh (g := W.heap.size) rfl Mm.int 3)
        have f2 : (mn : Int) < (i : Nat) := by omega
        have g1' : (0 : Int) ≤ (mn : Nat) := by omega
        have g2' : ((mn : Nat) : Int).toNat = mn := by omega
        have g3' : (mn : Int) ≤ (i : Nat) := by omega
        have g4' : (mn : Int) ≤ (c5 : Nat) := by omega
        obtain ⟨g, rfl, -, -⟩ := Mm.sl_addr (HS.out.sl 0 rfl) (by rw [HOL.out]; omega)
        go_wp2_with (at_builtin; refine Mm.wpList_appMany rfl (.tmp 73) (.tmp 76) 37 rfl Mm.flat_int Mm.flatN_intS i0 _ 8 Try.underlying37 hi hz0 hz1 hz2 rfl HS3.out 0 rfl ((HS3.out.rdSl 1 rfl).take (k := mn) (by omega)) (m := mn) (by simp) (by unfold maxLen; omega) (by omega) rfl rfl ?_; intro A6 c6 fp6 w6 hs6; (have HS6 := Lib.hid hs6); clear hs6)
        go_ret2
        refine ⟨A6, mn, c6, fp6, rfl, ?_, HS6.out.ndat (i := 0) rfl, fun b hb => ?_, below_step HO3.out.2 HS6.out.bel0⟩
        · have h1 := HS6.out.sl 0 rfl
          rw [List.nil_append] at h1
          rw [HLE.out]
          exact h1
        · have := (HS6.out.new b (Mm.SepF.mem (i := 0) rfl hb)).resolve_left (fun h => by cases h)
          have := HO3.out.2.size
          omega
      · as_aux_lemma =>
        have f2 : ¬ (mn : Int) < (i : Nat) := by omega
        go_wp2
        go_ret2
        refine ⟨A5, i, c5, f5, rfl, ?_, HS.out.ndat (i := 0) rfl, fun b hb => ?_, below_step HO3.out.2 HS.out.bel0⟩
        · have h1 := HS.out.sl 0 rfl
          rw [HLE.out, List.take_of_length_le (by rw [HOL.out]; omega)]
          exact h1
        · have := (HS.out.new b (Mm.SepF.mem (i := 0) rfl hb)).resolve_left (fun h => by cases h)
          have := HO3.out.2.size
          omega
end Go.Proofs.Ytnppcdiicnofpab

/-
  Contracts: the laws' own comparisons, at equal data, and the number of some bytes. No conditions.
-/
namespace Go.Proofs.Ytnppcdiicnofpab
open Go.RowKit
attribute [local go_sem] und_cell World.cell?_alloc_some
set_option maxRecDepth 100000 in
set_option maxHeartbeats 1000000 in
theorem sameInts_c (l : List Int) (A A' : Option Addr) (n c c' : Nat) (w : World) (B : Nat) (h1 : Mm.SlAt Mm.int w B l A n c) (h2 : Mm.SlAt Mm.int w B l A' n c') (hB : B ≤ w.heap.size) :
    Calls Try.prog 17 #[.slice A n c, .slice A' n c'] w fun e w' => e = .returned (.bool true) ∧ Below w.heap.size w w' := by
  have H1 := Lib.hid h1
  have H2 := Lib.hid h2
  have hlen : n ≤ maxLen := Nat.le_trans h1.2.1 h1.2.2.1
  unfold maxLen at hlen
  clear h1 h2
  go_enter Try.func17, Try.ntmps17
  go_wp2
  go_loopg [13] n (fun gg i wr => ∃ k : Nat, n - k ≤ gg ∧ k ≤ n ∧ i = .int .i64 k ∧ Below w.heap.size w wr)
  case atStart => exact ⟨0, Nat.le_refl _, Nat.zero_le _, rfl, Below.refl _ _⟩
  case round =>
    obtain ⟨k, hgk, hk, rfl, hbel⟩ := hrel
    have HB := Lib.hid hbel
    by_cases hlt : k < n
    · obtain ⟨x, b, off, hx, rfl, hb, b1, c1⟩ := int_get (H1.out.keep fun b hb => hbel.block b (by omega)) hlt
      obtain ⟨y, b', off', hy, rfl, hb', b1', c1'⟩ := int_get (H2.out.keep fun b hb => hbel.block b (by omega)) hlt
      rw [hx] at hy
      injection hy with hy
      subst hy
      have f1 : (k : Int) < (n : Nat) := by omega
      have f2 : (0 : Int) ≤ (k : Nat) := by omega
      clear hx hbel
      go_wp2
      go_quiet (fail)
      go_wp2
      go_roundg (n - (k + 1))
      case measure => omega
      case rel => exact ⟨k + 1, Nat.le_refl _, by omega, by go_num, below_drewN HB.out _⟩
    · go_wp2
      go_ret
      exact ⟨rfl, HB.out⟩
set_option maxRecDepth 100000 in
theorem numberOf_c (code : List Int) (A : Option Addr) (n c : Nat) (w : World) (B : Nat) (h1 : Mm.SlAt Mm.u8 w B code A n c) :
    Calls Try.prog 6 #[.slice A n c] w fun e w' => ∃ k : Int, e = .returned (.int .i64 k) ∧ 0 ≤ k ∧ k < 1000003 ∧ w' = w := by
  have H1 := Lib.hid h1
  have hlen : n ≤ maxLen := Nat.le_trans h1.2.1 h1.2.2.1
  unfold maxLen at hlen
  clear h1
  go_enter Try.func6, Try.ntmps6
  go_wp2
  go_loopg [3, 8] n (fun gg v i wr => ∃ (k : Nat) (y : Int), n - k ≤ gg ∧ k ≤ n ∧ v = .int .i64 y ∧ i = .int .i64 k ∧ 0 ≤ y ∧ y < 1000003 ∧ wr = w)
  case atStart => exact ⟨0, 0, Nat.le_refl _, Nat.zero_le _, rfl, rfl, by omega, by omega, rfl⟩
  case round =>
    obtain ⟨k, y, hgk, hk, rfl, rfl, hy0, hy1, rfl⟩ := hrel
    by_cases hlt : k < n
    · obtain ⟨x, b, off, cs, hx, rfl, hb, ⟨rfl, b1, b2⟩, hc⟩ := H1.out.get hlt
      have c1 := hc 0 _ rfl
      rw [Nat.add_zero, show Mm.u8.size = 1 from rfl, Nat.mul_one] at c1
      have f1 : (k : Int) < (n : Nat) := by omega
      have f2 : (0 : Int) ≤ (k : Nat) := by omega
      clear hx hc
      go_wp2
      go_roundg (n - (k + 1))
      case measure => omega
      case rel => exact ⟨k + 1, _, Nat.le_refl _, by omega, rfl, by go_num, Int.emod_nonneg _ (by omega), Int.emod_lt_of_pos _ (by omega), rfl⟩
    · go_wp2
      go_ret
      exact ⟨y, rfl, hy0, hy1, rfl⟩
end Go.Proofs.Ytnppcdiicnofpab

/-
  Contracts: the laws' own comparison of labels and of totals, at equal data (chapter 14). No conditions.
-/
namespace Go.Proofs.Ytnppcdiicnofpab
open Go.RowKit
attribute [local go_sem] und_cell World.cell?_alloc_some
set_option maxRecDepth 100000 in
set_option maxHeartbeats 1000000 in
theorem sameLabels_c (l : List Label) (A A' : Option Addr) (n n' c c' : Nat) (w : World) (B : Nat) (h1 : Mm.SlAt rLabel w B l A n c) (h2 : Mm.SlAt rLabel w B l A' n' c') (hB : B ≤ w.heap.size) :
    Calls Try.prog 27 #[.slice A n c, .slice A' n' c'] w fun e w' => e = .returned (.bool true) ∧ Below w.heap.size w w' := by
  obtain rfl : n = n' := h1.1.symm.trans h2.1
  have H1 := Lib.hid h1
  have H2 := Lib.hid h2
  have hlen : n ≤ maxLen := Nat.le_trans h1.2.1 h1.2.2.1
  unfold maxLen at hlen
  clear h1 h2
  go_enter Try.func27, Try.ntmps27
  go_wp2
  go_loopg [13] n (fun gg i wr => ∃ k : Nat, n - k ≤ gg ∧ k ≤ n ∧ i = .int .i64 k ∧ Below w.heap.size w wr)
  case atStart => exact ⟨0, Nat.le_refl _, Nat.zero_le _, rfl, Below.refl _ _⟩
  case round =>
    obtain ⟨k, hgk, hk, rfl, hbel⟩ := hrel
    have HB := Lib.hid hbel
    by_cases hlt : k < n
    · have g1 := rLabel_get (H1.out.keep fun b hb => hbel.block b (by omega)) hlt
      have g2 := rLabel_get (H2.out.keep fun b hb => hbel.block b (by omega)) hlt
      obtain ⟨x, b, off, hx, rfl, hb, u0, u1, x0, x1⟩ := g1
      obtain ⟨y, b', off', hy, rfl, hb', v0, v1, y0, y1⟩ := g2
      obtain rfl : x = y := by rw [hx] at hy; injection hy
      have f1 : (k : Int) < (n : Nat) := by omega
      have f2 : (0 : Int) ≤ (k : Nat) := by omega
      have f3 : ((k : Nat) : Int).toNat = k := by omega
      clear hx hy hbel
      go_wp2
      go_quiet (fail)
      go_wp2
      go_roundg (n - (k + 1))
      case measure => omega
      case rel => exact ⟨k + 1, Nat.le_refl _, by omega, by go_num, below_drewN HB.out _⟩
    · have f1 : ¬ (k : Int) < (n : Nat) := by omega
      go_wp2
      go_ret
      exact ⟨rfl, HB.out⟩
set_option maxRecDepth 100000 in
set_option maxHeartbeats 2000000 in
theorem sameTotals_c (l : List Total) (A A' : Option Addr) (n n' c c' : Nat) (w : World) (B : Nat) (h1 : Mm.SlAt rTotal w B l A n c) (h2 : Mm.SlAt rTotal w B l A' n' c') (hB : B ≤ w.heap.size) :
    Calls Try.prog 8 #[.slice A n c, .slice A' n' c'] w fun e w' => e = .returned (.bool true) ∧ Below w.heap.size w w' := by
  obtain rfl : n = n' := h1.1.symm.trans h2.1
  have H1 := Lib.hid h1
  have H2 := Lib.hid h2
  have hlen : n ≤ maxLen := Nat.le_trans h1.2.1 h1.2.2.1
  unfold maxLen at hlen
  clear h1 h2
  go_enter Try.func8, Try.ntmps8
  go_wp2
  go_loopg [13] n (fun gg i wr => ∃ k : Nat, n - k ≤ gg ∧ k ≤ n ∧ i = .int .i64 k ∧ Below w.heap.size w wr)
  case atStart => exact ⟨0, Nat.le_refl _, Nat.zero_le _, rfl, Below.refl _ _⟩
  case round =>
    obtain ⟨k, hgk, hk, rfl, hbel⟩ := hrel
    obtain ⟨W1, rfl⟩ : ∃ W1 : World, W1 = wr := ⟨_, rfl⟩
    have HB := Lib.hid hbel
    have hBw : B ≤ W1.heap.size := Nat.le_trans hB hbel.size
    by_cases hlt : k < n
    · have g1 := rTotal_get (H1.out.keep fun b hb => hbel.block b (by omega)) hlt
      have g2 := rTotal_get (H2.out.keep fun b hb => hbel.block b (by omega)) hlt
      obtain ⟨x, b, off, P1, p1, q1, hx, rfl, hb, uf0, u1, u2, u3, u4, x0, x1, x2, x3, x4⟩ := g1
      obtain ⟨y, b', off', P2, p2, q2, hy, rfl, hb', vf0, v1, v2, v3, v4, y0, y1, y2, y3, y4⟩ := g2
      obtain rfl : x = y := by rw [hx] at hy; injection hy
      obtain rfl : p1 = p2 := uf0.1.symm.trans vf0.1
      have HF := Lib.hid (And.intro uf0 vf0)
      have f1 : (k : Int) < (n : Nat) := by omega
      have f2 : (0 : Int) ≤ (k : Nat) := by omega
      have f3 : ((k : Nat) : Int).toNat = k := by omega
      clear hx hy hbel uf0 vf0
      have CS := fun z : Und W1 => und_call z (sameLabels_c x.Labels P1 P2 p1 p1 q1 q2 (und W1 z) B (HF.out.1.und hBw z) (HF.out.2.und hBw z) (Nat.le_trans hBw (und_size z)))
      go_wp2
      refine wp_region_und (by kernel_rfl) (by kernel_rfl) ?_
      repeat (go_big_quiet_step ((first | (go_at_call 27; with_reducible exact CS _))))
      refine wpQuiet_nil ?_
      intro X hX
      go_wp2
      go_roundg (n - (k + 1))
      case measure => omega
      case rel => exact ⟨k + 1, Nat.le_refl _, by omega, by go_num, below_step HB.out hX⟩
    · have f1 : ¬ (k : Int) < (n : Nat) := by omega
      go_wp2
      go_ret
      exact ⟨rfl, HB.out⟩
end Go.Proofs.Ytnppcdiicnofpab

/-
  What stays true while a call only makes memory: a list of facts that move on together. No program in sight. No conditions.
-/
namespace Go.Proofs.Ytnppcdiicnofpab
open Go.RowKit
namespace Mm
structure Fact where
  holds : World → Prop
  keep : ∀ {w w' : World}, holds w → Below w.heap.size w w' → holds w'
/-- a reading of a struct, a slice; a block known whole -/
def frd {α : Type} (R : Rep α) (x : α) (cs : List Value) : Fact := ⟨fun w => R.at_ w w.heap.size x cs, fun h hb => R.more (R.keep h fun b hb' => hb.block b hb') hb.size⟩
def fsl {α : Type} (E : Rep α) (xs : List α) (A : Option Addr) (n c : Nat) : Fact := ⟨fun w => SlAt E w w.heap.size xs A n c, fun h hb => (h.keep fun b hb' => hb.block b hb').more hb.size⟩
def fbk (g : Nat) (t : TypeId) (cs : List Value) : Fact := ⟨fun w => Blk w g t cs, fun h hb => h.bel hb⟩
structure Facts (w0 w : World) (fs : List Fact) : Prop where
  bel : Below w0.heap.size w0 w
  all : ∀ f, f ∈ fs → f.holds w
section
variable {w0 w w' : World} {fs gs : List Fact} {f : Fact}
theorem Facts.nil (w : World) : Facts w w [] := ⟨Below.refl _ _, fun f h => by cases h⟩
theorem Facts.step (h : Facts w0 w fs) (hb : Below w.heap.size w w') : Facts w0 w' fs := ⟨below_step h.bel hb, fun f hf => f.keep (h.all f hf) hb⟩
theorem Facts.add (h : Facts w0 w fs) (hb : Below w.heap.size w w') (hf : f.holds w') : Facts w0 w' (fs ++ [f]) :=
  ⟨below_step h.bel hb, fun g hg => by
    rcases List.mem_append.1 hg with hg | hg
    · exact g.keep (h.all g hg) hb
    · rw [List.mem_singleton.1 hg]; exact hf⟩
theorem Facts.put (h : Facts w0 w fs) (hf : f.holds w) : Facts w0 w (fs ++ [f]) := h.add (Below.refl _ _) hf
/-- a variable of its own: its block, laid at the world's end -/
theorem Facts.var {g : Nat} (h : Facts w0 w fs) (hg : w.heap.size = g) (t : TypeId) (cs : List Value) : Facts w0 (w.alloc (.cells cs.toArray t)) (fs ++ [fbk g t cs]) := by
  subst hg
  exact h.add (below_new (Below.refl _ _) _) (Blk.new w t cs)
theorem Facts.at_ (h : Facts w0 w fs) (i : Nat) (hi : fs[i]? = some f) : f.holds w := h.all f (List.mem_of_getElem? hi)
theorem Facts.rd {α : Type} {R : Rep α} {x : α} {cs : List Value} (h : Facts w0 w fs) (i : Nat) (hi : fs[i]? = some (frd R x cs)) : R.at_ w w.heap.size x cs := h.at_ i hi
theorem Facts.sl {α : Type} {E : Rep α} {xs : List α} {A : Option Addr} {n c : Nat} (h : Facts w0 w fs) (i : Nat) (hi : fs[i]? = some (fsl E xs A n c)) : SlAt E w w.heap.size xs A n c := h.at_ i hi
theorem Facts.cell {g k : Nat} {t : TypeId} {cs : List Value} {u : Value} (h : Facts w0 w fs) (i : Nat) (hi : fs[i]? = some (fbk g t cs)) (hu : cs[k]? = some u) : w.cell? ⟨g, k, none⟩ = some u := (show Blk w g t cs from h.at_ i hi).cell hu
theorem Facts.und (h : Facts w0 w fs) (x : Und w) : Facts w0 (und w x) fs := h.step x.h
theorem Facts.fewer (h : Facts w0 w fs) (hs : gs.Sublist fs) : Facts w0 w gs := ⟨h.bel, fun f hf => h.all f (hs.subset hf)⟩
end
end Mm
end Go.Proofs.Ytnppcdiicnofpab
