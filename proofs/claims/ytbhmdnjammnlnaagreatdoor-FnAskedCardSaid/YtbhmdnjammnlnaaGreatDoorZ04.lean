/-
  Joined texts, in build order: J8, J9, Cs, Iy, Ws, K1, Sw, K2, Rs, K3, K4, Cg, Hd, Cm, K5, Jd. Each part says what it proves; no conditions beyond those that a part names.
-/
import Derived.Test.YtbhmdnjammnlnaaGreatDoorZ01
import Derived.Test.YtbhmdnjammnlnaaGreatDoorZ02
import Derived.Test.YtbhmdnjammnlnaaGreatDoorZ03
import Derived.Lib.Hide
import Derived.Deep.DeepCutAuto
import Derived.Deep.DeepFit
import Derived.Deep.LoopGhost
import Derived.Deep.RegionLaw
import Derived.Deep.CutBlock
set_option linter.unusedVariables false
set_option linter.unusedSimpArgs false
namespace Go.Proofs.YtbhmdnjammnlnaaGreatDoor
open Go.RowKit
attribute [local go_sem] und_cell World.cell?_alloc_some
theorem Mm.flatN_str : Mm.FlatN Mm.str (fun x => [.string x]) := ⟨Nat.one_pos, fun h => ⟨h.1, h.2.2, fun _ => ⟨rfl, h.2.1, rfl⟩⟩⟩
def Pl.lRecs (ps : List Piece) : List ByteArray := ps.flatMap (fun p => Pl.records p.Bytes)
theorem Pl.lRecs_next {ps : List Piece} {k : Nat} {p : Piece} (h : ps[k]? = some p) : Pl.lRecs (ps.take (k + 1)) = Pl.lRecs (ps.take k) ++ Pl.records p.Bytes := by
  unfold Pl.lRecs
  rw [Mm.take_succ_some h, List.flatMap_append]
  simp
theorem Pl.records_len (s : ByteArray) : (Pl.records s).length ≤ s.size := by unfold Pl.records; rw [List.length_map]; exact Pl.recs_len s
theorem Pl.lRecs_bound {ps : List Piece} (h : ∀ p, p ∈ ps → p.Bytes.size ≤ 60) (k : Nat) : (Pl.lRecs (ps.take k)).length ≤ 60 * k := by
  induction k with
  | zero => simp [Pl.lRecs]
  | succ k ih =>
    cases hk : ps[k]? with
    | none =>
      have := List.getElem?_eq_none_iff.1 hk
      rw [List.take_of_length_le (by omega)]
      rw [List.take_of_length_le this] at ih
      omega
    | some p =>
      rw [Pl.lRecs_next hk, List.length_append]
      have := Pl.records_len p.Bytes
      have := h p (List.mem_of_getElem? hk)
      omega
def AllAns (l : List ByteArray) (w : World) (e : Ending) (w' : World) : Prop := ∃ A n c fp, e = .returned (.slice A n c) ∧ n = l.length ∧ Mm.SepF [] w w' [Mm.tsl Mm.str 9 l (.slice A n c) fp]
set_option maxRecDepth 100000 in
set_option maxHeartbeats 2000000 in
theorem logAll_c (ps : List Piece) (bg : Int) (A : Option Addr) (n c : Nat) (w : World) (B : Nat) (hr : Mm.SlAt rPiece w B ps A n c) (hB : B ≤ w.heap.size) (hn : n ≤ 20) (hps : ∀ p, p ∈ ps → p.Bytes.size ≤ 60) :
    Calls Tryz.prog 146 #[.agg #[.slice A n c, .int .i64 bg]] w (AllAns (Pl.lRecs ps) w) := by
  obtain ⟨i0, hi, hz0, hz1, hz2⟩ := info_parts Tryz.infoSt4
  have HR := Lib.hid hr
  have HPS := Lib.hid hps
  clear hr hps
  have KS0 := Lib.hid (((Mm.SepF.start w).alloc' rfl 80 [.slice A n c, .int .i64 bg]).add (Below.refl _ _) (t := Mm.tsl Mm.str 9 [] (.slice none 0 0) []) Mm.SlOwn.nil List.nodup_nil (fun b hb => by cases hb))
  have d0 := KS0.out.cell (k := 0) 1 rfl rfl
  go_enter Tryz.func146, Tryz.ntmps146
  go_wp2_with fail
  clear d0
  go_loopg [3, 11] n (fun g o i wr => ∃ (k m cc : Nat) (A1 : Option Addr) (f : List Nat), n - k ≤ g ∧ k ≤ n ∧ i = .int .i64 (k : Nat) ∧ o = .slice A1 m cc ∧ m ≤ 60 * k ∧ Hid (m = (Pl.lRecs (ps.take k)).length ∧ m ≤ cc ∧ cc ≤ maxLen) ∧ Hid (Mm.SepF [] w wr [Mm.tsl Mm.str 9 (Pl.lRecs (ps.take k)) (.slice A1 m cc) f]))
  case atStart => exact ⟨0, 0, 0, none, [], by omega, by omega, rfl, rfl, by omega, ⟨rfl, by omega, by omega⟩, KS0.out.sel [0] (by decide) rfl⟩
  case round =>
    clear KS0
    obtain ⟨k, m, cc, A1, f, hgk, hk, rfl, rfl, hm, HM, HS⟩ := hrel
    obtain ⟨W, rfl⟩ : ∃ W : World, W = wr := ⟨_, rfl⟩
    by_cases hlt : k < n
    · have hlt' : (k : Int) < (n : Nat) := by omega
      have hsl := HR.out.keep (w' := W) fun b hb => HS.out.bel0.block b (by omega)
      obtain ⟨x, b, off, cs, hx, hA, hb, hat, hcell⟩ := hsl.get hlt
      obtain ⟨A', n', c', rfl, g0, g1, g2⟩ := rPiece_at hat
      have c0 := hcell 0 _ rfl
      have c1 := hcell 1 _ rfl
      have c2 := hcell 2 _ rfl
      rw [show off + k * rPiece.size + 0 = off + k * 3 from rfl] at c0
      rw [show off + k * rPiece.size + 1 = off + k * 3 + 1 from rfl] at c1
      rw [show off + k * rPiece.size + 2 = off + k * 3 + 2 from rfl] at c2
      subst hA
      have hbs := HPS.out x (List.mem_of_getElem? hx)
      have HX := Lib.hid (Pl.lRecs_next hx)
      have HL := Lib.hid (Pl.records_len x.Bytes)
      clear hcell hsl hx hat g0 g1 g2
      go_wp2_with fail
      refine (recordsIn_c x.Bytes (by omega) _).mono ?_
      rintro e w1 ⟨RA, rn, rc, rfl, hac⟩
      obtain ⟨W1, rfl⟩ : ∃ W : World, W = w1 := ⟨_, rfl⟩
      obtain ⟨rf, hrs⟩ := hac.sep
      have HS1 := Lib.hid ((HS.out.step (below_new (Below.refl _ _) (.cells #[.int .i64 x.From, .string x.Bytes, .slice A' n' c'] 164))).join hrs)
      have hrr : Mm.SlAt Mm.str W1 W1.heap.size (Pl.records x.Bytes) RA rn rc := HS1.out.rdSl 0 rfl
      have HRR := Lib.hid hrr
      have hrn : rn = (Pl.records x.Bytes).length := hrr.1.symm
      have HRN := Lib.hid hrn
      have hrn60 : rn ≤ 60 := by have := HL.out; omega
      have HML : Hid ((Pl.lRecs (ps.take k)).length + rn = m + rn) := by show _ = _; rw [HM.out.1]
      clear hrs hac HS hrr hrn
      go_wp2_with (at_builtin; refine Mm.wpList_appMany rfl (.tmp 21) (.tmp 22) 142 rfl Mm.flat_str Mm.flatN_str i0 _ 16 Tryz.underlying142 hi hz0 hz1 hz2 rfl HS1.out 1 rfl HRR.out (m := m + rn) HML.out (by unfold maxLen; omega) (by omega) rfl rfl ?_; intro A5 c5 f5 w5 hs5; (have HS5 := Lib.hid hs5); clear hs5)
      have hcap := (HS5.out.sl 1 rfl).form
      go_roundg (n - (k + 1))
      case measure => omega
      case rel =>
        obtain ⟨A4, n4, c4, hs4, -, hnc4, hcm4, -⟩ := hcap
        injection hs4 with q1 q2 q3
        subst q1; subst q2; subst q3
        exact ⟨k + 1, m + rn, c5, A5, f5, Nat.le_refl _, by omega, by go_num, rfl, by omega, ⟨by rw [HX.out, List.length_append, ← HRN.out, ← HM.out.1], hnc4, hcm4⟩, by rw [HX.out]; exact HS5.out.sel [1] (by decide) rfl⟩
    · obtain rfl : k = n := by omega
      have hlt' : ¬ ((k : Int) < (k : Nat)) := by omega
      have hfull : ps.take k = ps := List.take_of_length_le (by have := HR.out.1; omega)
      rw [hfull] at HS HM
      clear hfull
      go_wp2
      go_ret
      exact ⟨A1, m, cc, f, rfl, HM.out.1, HS.out⟩
end Go.Proofs.YtbhmdnjammnlnaaGreatDoor

namespace Go.Proofs.YtbhmdnjammnlnaaGreatDoor
open Go.RowKit
attribute [local go_sem] und_cell World.cell?_alloc_some
def Pl.from0 (ps : List Piece) : Int := match ps with | p :: _ => p.From | [] => 0
def Pl.PcOk (ps : List Piece) (i : Nat) (p : Piece) : Prop := Pl.pieceOk p = true ∧ p.From = Pl.from0 ps + ((Pl.lRecs (ps.take i)).length : Int) ∧ (i + 1 < ps.length → p.Bytes.size ≠ 0)
structure Pl.LogOk (g : Log) : Prop where
  len : 1 ≤ g.Pieces.length ∧ g.Pieces.length ≤ 20
  from0 : 0 ≤ Pl.from0 g.Pieces ∧ Pl.from0 g.Pieces ≤ 100000
  pc : ∀ (i : Nat) (p : Piece), g.Pieces[i]? = some p → Pl.PcOk g.Pieces i p
  sum : (Pl.lRecs g.Pieces).length ≤ 60
  bg : Pl.from0 g.Pieces ≤ g.Begin ∧ g.Begin ≤ Pl.from0 g.Pieces + (Pl.lRecs g.Pieces).length
theorem Pl.pieceOk_size {p : Piece} (h : Pl.pieceOk p = true) : p.Bytes.size ≤ 60 := by
  unfold Pl.pieceOk at h
  simp only [Bool.and_eq_true, decide_eq_true_eq] at h
  exact h.1.1
theorem Pl.LogOk.sizes {g : Log} (h : Pl.LogOk g) : ∀ p, p ∈ g.Pieces → p.Bytes.size ≤ 60 := fun p hp => by
  obtain ⟨i, hi⟩ := List.getElem?_of_mem hp
  exact Pl.pieceOk_size (h.pc i p hi).1
theorem Pl.from0_get {ps : List Piece} {p : Piece} (h : ps[0]? = some p) : Pl.from0 ps = p.From := by
  cases ps with
  | nil => simp at h
  | cons q t => simp at h; subst h; rfl
def BoolAns (P : Prop) (w : World) (e : Ending) (w' : World) : Prop := ∃ b : Bool, e = .returned (.bool b) ∧ (b = true ↔ P) ∧ Below w.heap.size w w'
theorem BoolAns.yes {P : Prop} {w w' : World} (h : P) (hb : Below w.heap.size w w') : BoolAns P w (.returned (.bool true)) w' := ⟨true, rfl, ⟨fun _ => h, fun _ => rfl⟩, hb⟩
theorem BoolAns.no {P : Prop} {w w' : World} (h : ¬ P) (hb : Below w.heap.size w w') : BoolAns P w (.returned (.bool false)) w' := ⟨false, rfl, ⟨(fun h => by cases h), (fun hh => absurd hh h)⟩, hb⟩
theorem isEmpty_bytes (s : ByteArray) : s.toList.isEmpty = decide (s.size = 0) := by
  rw [Lib.toList_data]
  have : s.size = s.data.toList.length := by simp
  rw [this]
  cases s.data.toList <;> simp
set_option maxRecDepth 100000 in
set_option maxHeartbeats 4000000 in
theorem isLog_c (ps : List Piece) (bg : Int) (A : Option Addr) (n c : Nat) (w : World) (B : Nat) (hr : Mm.SlAt rPiece w B ps A n c) (hB : B ≤ w.heap.size) (hbg : Mm.I64 bg) :
    Calls Tryz.prog 97 #[.agg #[.slice A n c, .int .i64 bg]] w (BoolAns (Pl.LogOk ⟨ps, bg⟩) w) := by
  have HR := Lib.hid hr
  have HLEN : Hid (ps.length = n) := hr.1
  have hnm : n ≤ maxLen := Nat.le_trans hr.2.1 hr.2.2.1
  clear hr
  have KS0 := Lib.hid ((Mm.SepF.start w).alloc' rfl 80 [.slice A n c, .int .i64 bg])
  obtain ⟨W0, hW0⟩ : ∃ W0, w.alloc (.cells [.slice A n c, .int .i64 bg].toArray 80) = W0 := ⟨_, rfl⟩
  rw [hW0] at KS0
  unfold maxLen at hnm
  go_enter Tryz.func97, Tryz.ntmps97
  have d0 := KS0.out.cell (k := 0) 0 rfl rfl
  have d1 := KS0.out.cell (k := 1) 0 rfl rfl
  have hw0 := HR.out.keep (w' := W0) fun b hb => KS0.out.bel0.block b (by omega)
  have HBE := Lib.hid KS0.out.bel0
  by_cases hn1 : 1 ≤ n
  · obtain ⟨p0, b, off, cs, hp0, hA, hb, hat, hcell⟩ := hw0.get (k := 0) (by omega)
    obtain ⟨A', n', c', rfl, g0, g1, g2⟩ := rPiece_at hat
    have c0 := hcell 0 _ rfl
    rw [show off + 0 * rPiece.size + 0 = off by omega] at c0
    subst hA
    have HF0 : Hid (Pl.from0 ps = p0.From) := Pl.from0_get hp0
    obtain ⟨f0, hf0⟩ : ∃ f0, p0.From = f0 := ⟨_, rfl⟩
    rw [hf0] at c0 HF0
    clear hcell hat hw0 g0 g1 g2 hp0 hf0
    by_cases hn20 : n ≤ 20
    · have hin : Pl.isIn (n : Int) 1 20 = true := by unfold Pl.isIn; simp; omega
      by_cases hf : 0 ≤ f0 ∧ f0 ≤ 100000
      · have hin2 : Pl.isIn f0 0 100000 = true := by unfold Pl.isIn; simp; exact hf
        have HFF := Lib.hid hf
        obtain ⟨hf1, hf2⟩ := hf
        go_wp2_with (first | (go_at_call 55; (with_reducible refine (within_isJ hin _).mono ?_); rintro e w' ⟨rfl, rfl⟩) | (go_at_call 55; (with_reducible refine (within_isJ hin2 _).mono ?_); rintro e w' ⟨rfl, rfl⟩))
        clear d0 d1 c0
        obtain ⟨gb, hgb⟩ : ∃ gb, w.heap.size = gb := ⟨_, rfl⟩
        have HGB := Lib.hid hgb
        have HWB : Hid (B ≤ w.heap.size) := hB
        rw [hgb] at KS0 ⊢
        have hB' : B ≤ gb := by omega
        clear hB hgb HBE
        go_loopg [3, 30] n (fun g fr i wr => ∃ (k m : Nat), n - k ≤ g ∧ k ≤ n ∧ i = .int .i64 (k : Nat) ∧ fr = .int .i64 (f0 + (m : Int)) ∧ m ≤ 60 * k ∧ Hid (m = (Pl.lRecs (ps.take k)).length ∧ ∀ (i : Nat) (p : Piece), i < k → ps[i]? = some p → Pl.PcOk ps i p) ∧ Hid (Mm.SepF [] w wr [Mm.tblk gb 80 [.slice (some ⟨b, off, none⟩) n c, .int .i64 bg]]))
        case atStart => exact ⟨0, 0, by omega, by omega, rfl, by go_num, by omega, ⟨rfl, fun i p hi => absurd hi (by omega)⟩, KS0.out⟩
        case round =>
          clear KS0
          obtain ⟨k, m, hgk, hk, rfl, rfl, hm, HM, HS⟩ := hrel
          obtain ⟨W, rfl⟩ : ∃ W : World, W = wr := ⟨_, rfl⟩
          have d0 := HS.out.cell (k := 0) 0 rfl rfl
          have d1 := HS.out.cell (k := 1) 0 rfl rfl
          have hgbl := (HS.out.blk 0 rfl).1
          have hsl := HR.out.keep (w' := W) fun b hb => HS.out.bel0.block b (by have := HWB.out; omega)
          by_cases hlt : k < n
          · have hlt' : (k : Int) < (n : Nat) := by omega
            obtain ⟨x, cs, hx, hb, hat, hcell⟩ := hsl.get' hlt
            obtain ⟨A', n', c', rfl, g0, g1, g2⟩ := rPiece_at hat
            have c0 := hcell 0 _ rfl
            have c1 := hcell 1 _ rfl
            have c2 := hcell 2 _ rfl
            rw [show off + k * rPiece.size + 0 = off + k * 3 from rfl] at c0
            rw [show off + k * rPiece.size + 1 = off + k * 3 + 1 from rfl] at c1
            rw [show off + k * rPiece.size + 2 = off + k * 3 + 2 from rfl] at c2
            have CP : ∀ X, Below W.heap.size W X → Calls Tryz.prog 144 #[.agg #[.int .i64 x.From, .string x.Bytes, .slice A' n' c']] X fun e w' => e = .returned (.bool (Pl.pieceOk x)) ∧ Below X.heap.size X w' := fun X hX =>
              isPiece_c x.From x.Bytes x.Index A' n' c' X B (g2.keep fun b hb => hX.block b (by omega)) (by have := hX.size; omega) g1
            have HX := Lib.hid hx
            have g0' : Mm.I64 x.From := g0
            unfold Mm.I64 at g0'
            clear hcell hat g0 g1 g2 hsl hx
            obtain ⟨xf, hxf⟩ : ∃ xf, x.From = xf := ⟨_, rfl⟩
            rw [hxf] at c0 CP g0'
            have HXF := Lib.hid hxf
            clear hxf
            obtain ⟨gp, hgp⟩ : ∃ gp, W.heap.size = gp := ⟨_, rfl⟩
            have KS1 := Lib.hid (HS.out.alloc' hgp 164 [.int .i64 xf, .string x.Bytes, .slice A' n' c'])
            obtain ⟨W2, hW2⟩ : ∃ W2, W.alloc (.cells [.int .i64 xf, .string x.Bytes, .slice A' n' c'].toArray 164) = W2 := ⟨_, rfl⟩
            have hb2 : Below W.heap.size W W2 := by rw [← hW2]; exact below_new (Below.refl _ _) _
            rw [hW2] at KS1
            have d0' := KS1.out.cell (k := 0) 0 rfl rfl
            have d1' := KS1.out.cell (k := 1) 0 rfl rfl
            have d2' := KS1.out.cell (k := 2) 0 rfl rfl
            have CPW := CP W2 hb2
            clear CP
            go_wp2_with fail
            refine CPW.mono ?_
            rintro e w1 ⟨rfl, hb3⟩
            clear CPW d0 d1 d0' d1' d2' c0 c1 c2 hW2
            obtain ⟨W3, rfl⟩ : ∃ W : World, W = w1 := ⟨_, rfl⟩
            have HS3 := Lib.hid (KS1.out.step hb3)
            have HB3 := Lib.hid HS3.out.bel0
            clear KS1 hb2 hb3 HS
            have e0 := HS3.out.cell (k := 0) 0 rfl rfl
            have e1 := HS3.out.cell (k := 1) 0 rfl rfl
            have e2 := HS3.out.cell (k := 2) 0 rfl rfl
            have d0 := HS3.out.cell (k := 0) 1 rfl rfl
            have d1 := HS3.out.cell (k := 1) 1 rfl rfl
            obtain ⟨po, hpo⟩ : ∃ po, Pl.pieceOk x = po := ⟨_, rfl⟩
            rw [hpo]
            have HPO := Lib.hid hpo
            clear hpo
            cases po with
            | false =>
              have HN : Hid (¬ Pl.LogOk ⟨ps, bg⟩) := fun h => by have := (h.pc k x HX.out).1; rw [HPO.out] at this; cases this
              go_wp2
              go_ret
              exact BoolAns.no HN.out HB3.out
            | true =>
              by_cases hfr : xf = f0 + (m : Int)
              · have hne : (xf != (f0 + (m : Int))) = false := by simpa using hfr
                have HFR := Lib.hid hfr
                have hsz : x.Bytes.size ≤ 60 := Pl.pieceOk_size HPO.out
                have CR := recordsIn_c x.Bytes (by omega)
                have HRL := Lib.hid (Pl.records_len x.Bytes)
                have hemp := isEmpty_bytes x.Bytes
                clear hfr
                by_cases hl : k + 1 < n
                · have hl' : (k : Int) + 1 < (n : Nat) := by omega
                  by_cases he : x.Bytes.size = 0
                  · rw [decide_eq_true he] at hemp
                    have HN : Hid (¬ Pl.LogOk ⟨ps, bg⟩) := fun h => (h.pc k x HX.out).2.2 (by have := HLEN.out; show k + 1 < ps.length; omega) he
                    clear he CR
                    go_wp2
                    go_ret
                    exact BoolAns.no HN.out HB3.out
                  · rw [decide_eq_false he] at hemp
                    have HPC : Hid (Pl.PcOk ps k x) := ⟨HPO.out, by rw [HXF.out, HFR.out, HM.out.1, HF0.out], fun _ => he⟩
                    clear he
                    go_wp2_with fail
                    refine (CR _).mono ?_
                    rintro e w4 ⟨RA, rn, rc, rfl, hac⟩
                    obtain ⟨W4, rfl⟩ : ∃ W : World, W = w4 := ⟨_, rfl⟩
                    have HB4 := Lib.hid hac.bel
                    obtain ⟨RA', rn', rc', hsl, hrn, -, -, -⟩ := hac.form
                    injection hsl with q1 q2 q3
                    subst q1; subst q2; subst q3
                    have hrn60 : rn ≤ 60 := by have := HRL.out; omega
                    have HRN := Lib.hid hrn
                    clear hac hrn
                    have hwr : RowKit.wrap64 (f0 + (m : Int) + (rn : Int)) = f0 + (m : Int) + (rn : Int) := IntWalk.wrap64_in _ (by omega)
                    have hwm : RowKit.wrap64 (f0 + ((m : Int) + (rn : Int))) = f0 + ((m : Int) + (rn : Int)) := IntWalk.wrap64_in _ (by omega)
                    go_wp2
                    go_roundg (n - (k + 1))
                    case measure => omega
                    case rel => exact ⟨k + 1, m + rn, Nat.le_refl _, by omega, by go_num, by go_num, by omega, ⟨by rw [Pl.lRecs_next HX.out, List.length_append, ← HRN.out, ← HM.out.1], fun i p hi hp => by
                      rcases Nat.lt_succ_iff_lt_or_eq.1 hi with h1 | rfl
                      · exact HM.out.2 i p h1 hp
                      · have := HX.out.symm.trans hp
                        injection this with this
                        subst this
                        exact HPC.out⟩, (HS3.out.step HB4.out).sel [1] (by decide) rfl⟩
                · have hl' : ¬ ((k : Int) + 1 < (n : Nat)) := by omega
                  have HPC : Hid (Pl.PcOk ps k x) := ⟨HPO.out, by rw [HXF.out, HFR.out, HM.out.1, HF0.out], fun h => absurd h (by have := HLEN.out; omega)⟩
                  go_wp2_with fail
                  refine (CR _).mono ?_
                  rintro e w4 ⟨RA, rn, rc, rfl, hac⟩
                  obtain ⟨W4, rfl⟩ : ∃ W : World, W = w4 := ⟨_, rfl⟩
                  have HB4 := Lib.hid hac.bel
                  obtain ⟨RA', rn', rc', hsl, hrn, -, -, -⟩ := hac.form
                  injection hsl with q1 q2 q3
                  subst q1; subst q2; subst q3
                  have hrn60 : rn ≤ 60 := by have := HRL.out; omega
                  have HRN := Lib.hid hrn
                  clear hac hrn
                  have hwr : RowKit.wrap64 (f0 + (m : Int) + (rn : Int)) = f0 + (m : Int) + (rn : Int) := IntWalk.wrap64_in _ (by omega)
                  have hwm : RowKit.wrap64 (f0 + ((m : Int) + (rn : Int))) = f0 + ((m : Int) + (rn : Int)) := IntWalk.wrap64_in _ (by omega)
                  go_wp2
                  go_roundg (n - (k + 1))
                  case measure => omega
                  case rel => exact ⟨k + 1, m + rn, Nat.le_refl _, by omega, by go_num, by go_num, by omega, ⟨by rw [Pl.lRecs_next HX.out, List.length_append, ← HRN.out, ← HM.out.1], fun i p hi hp => by
                    rcases Nat.lt_succ_iff_lt_or_eq.1 hi with h1 | rfl
                    · exact HM.out.2 i p h1 hp
                    · have := HX.out.symm.trans hp
                      injection this with this
                      subst this
                      exact HPC.out⟩, (HS3.out.step HB4.out).sel [1] (by decide) rfl⟩
              · have hne : (xf != (f0 + (m : Int))) = true := by simpa using hfr
                have HN : Hid (¬ Pl.LogOk ⟨ps, bg⟩) := fun h => hfr (by have := (h.pc k x HX.out).2.1; rw [HXF.out, show (⟨ps, bg⟩ : Log).Pieces = ps from rfl, ← HM.out.1, HF0.out] at this; exact this)
                clear hfr
                go_wp2
                go_ret
                exact BoolAns.no HN.out HB3.out
          · obtain rfl : k = n := by omega
            have hlt' : ¬ ((k : Int) < (k : Nat)) := by omega
            have hfull : ps.take k = ps := List.take_of_length_le (by have := HLEN.out; omega)
            rw [hfull] at HM
            clear hfull
            have HOK : Hid (∀ (i : Nat) (p : Piece), ps[i]? = some p → Pl.PcOk ps i p) := fun i p hp => HM.out.2 i p (by have := (List.getElem?_eq_some_iff.1 hp).1; have := HLEN.out; omega) hp
            have HSZ : Hid (∀ p, p ∈ ps → p.Bytes.size ≤ 60) := fun p hp => by
              obtain ⟨i, hi⟩ := List.getElem?_of_mem hp
              exact Pl.pieceOk_size (HOK.out i p hi).1
            obtain ⟨x, cs, hx, hb, hat, hcell⟩ := hsl.get' (k := 0) (by omega)
            obtain ⟨A', n', c', rfl, g0, g1, g2⟩ := rPiece_at hat
            have c0 := hcell 0 _ rfl
            rw [show off + 0 * rPiece.size + 0 = off by omega] at c0
            have hxf : x.From = f0 := (Pl.from0_get hx).symm.trans HF0.out
            rw [hxf] at c0
            clear hcell hat g0 g1 g2 hx hxf
            have HRW : Hid (Mm.SlAt rPiece W B ps (some ⟨b, off, none⟩) k c) := hsl
            clear hsl
            have hbg' := hbg
            unfold Mm.I64 at hbg'
            have HBW := Lib.hid HS.out.bel0
            by_cases hm60 : m ≤ 60
            · have hdec : decide ((m : Int) ≤ 60) = true := decide_eq_true (by omega)
              obtain ⟨bb, hbb⟩ : ∃ bb, Pl.isIn bg f0 (f0 + (m : Int)) = bb := ⟨_, rfl⟩
              have HBB := Lib.hid hbb
              clear hbb
              go_wp2_with fail
              refine Mm.wp_region_give_all (fun i => match i with | 1 => some (Mm.gSl Mm.str 9 (Pl.lRecs ps)) | 13 => some (Mm.gVal (.bool bb)) | _ => none) (fun i => []) (fun _ => []) (F := []) (D := fun w' => ∃ z : Und W, w' = und W z) (fun X us h => Mm.sep_und h) (by kernel_rfl) (by kernel_rfl) (by kernel_rfl) (Mm.SepF.startDrew _) ?_
              repeat (refine Mm.give_det (by rfl) (by rfl) (by rfl) (fun K hK => ?_); go_big_quiet_op; refine hK _ ?_; clear hK K)
              refine Mm.give_op0 69 (by rfl) rfl (by rfl) (by rfl) (by rfl) (by rfl) Mm.gSl_in (fun others X hX => ?_) ?_
              · go_wp2_with (go_at_call 146; refine (logAll_c ps bg _ k c X B (HRW.out.keep fun b hb => hX.bel0.block b (by omega)) (by have := hX.chg.size; omega) hn20 HSZ.out).mono ?_; rintro e w5 ⟨A5, n5, c5, f5, rfl, hn5, hs5⟩; (have HN5 := Lib.hid hn5); clear hn5)
                exact ⟨rfl, rfl, _, ⟨A5, n5, c5, f5, rfl, rfl, HN5⟩, hX.join hs5⟩
              rintro v ds ⟨A5, n5, c5, f5, rfl, rfl, hn5⟩
              obtain rfl : m = n5 := by rw [hn5.out, HM.out.1]
              clear hn5
              simp only [Act.put, List.setIfInBounds_toArray, List.set_cons_succ, List.set_cons_zero]
              repeat (refine Mm.give_det (by rfl) (by rfl) (by rfl) (fun K hK => ?_); go_big_quiet_op; refine hK _ ?_; clear hK K)
              refine Mm.give_op0 81 (by rfl) rfl (by rfl) (by rfl) (by rfl) (by rfl) Mm.gVal_in (fun others X hX => ?_) ?_
              · go_wp2_with (go_at_call 55; refine (within_isJ HBB.out _).mono ?_; rintro e w' ⟨rfl, rfl⟩)
                exact Mm.gvq_val hX (Below.refl _ _) rfl rfl
              rintro v ds ⟨rfl, rfl⟩
              simp only [Act.put, List.setIfInBounds_toArray, List.set_cons_succ, List.set_cons_zero]
              repeat (refine Mm.give_det (by rfl) (by rfl) (by rfl) (fun K hK => ?_); go_big_quiet_op; refine hK _ ?_; clear hK K)
              refine Mm.give_nil ?_
              rintro X hX
              have HXX := Lib.hid (below_step HBW.out hX.bel0)
              clear hX
              go_wp2
              go_ret
              refine ⟨bb, rfl, ?_, HXX.out⟩
              rw [← HBB.out, Pl.isIn_iff]
              have hm1 := HM.out.1
              constructor
              · intro h
                exact ⟨by show 1 ≤ ps.length ∧ ps.length ≤ 20; have := HLEN.out; omega, by show 0 ≤ Pl.from0 ps ∧ _; rw [HF0.out]; exact HFF.out, HOK.out, by show (Pl.lRecs ps).length ≤ 60; omega, by show Pl.from0 ps ≤ bg ∧ bg ≤ Pl.from0 ps + _; rw [HF0.out, ← hm1]; exact h⟩
              · intro h
                have := h.bg
                rw [show (⟨ps, bg⟩ : Log).Pieces = ps from rfl, show (⟨ps, bg⟩ : Log).Begin = bg from rfl, HF0.out, ← hm1] at this
                exact this
            · have hdec : decide ((m : Int) ≤ 60) = false := decide_eq_false (by omega)
              have HN : Hid (¬ Pl.LogOk ⟨ps, bg⟩) := fun h => hm60 (by have h1 : (Pl.lRecs ps).length ≤ 60 := h.sum; have := HM.out.1; omega)
              clear hm60
              go_wp2_with fail
              refine Mm.wp_region_give_all (fun i => match i with | 1 => some (Mm.gSl Mm.str 9 (Pl.lRecs ps)) | _ => none) (fun i => []) (fun _ => []) (F := []) (D := fun w' => ∃ z : Und W, w' = und W z) (fun X us h => Mm.sep_und h) (by kernel_rfl) (by kernel_rfl) (by kernel_rfl) (Mm.SepF.startDrew _) ?_
              repeat (refine Mm.give_det (by rfl) (by rfl) (by rfl) (fun K hK => ?_); go_big_quiet_op; refine hK _ ?_; clear hK K)
              refine Mm.give_op0 69 (by rfl) rfl (by rfl) (by rfl) (by rfl) (by rfl) Mm.gSl_in (fun others X hX => ?_) ?_
              · go_wp2_with (go_at_call 146; refine (logAll_c ps bg _ k c X B (HRW.out.keep fun b hb => hX.bel0.block b (by omega)) (by have := hX.chg.size; omega) hn20 HSZ.out).mono ?_; rintro e w5 ⟨A5, n5, c5, f5, rfl, hn5, hs5⟩; (have HN5 := Lib.hid hn5); clear hn5)
                exact ⟨rfl, rfl, _, ⟨A5, n5, c5, f5, rfl, rfl, HN5⟩, hX.join hs5⟩
              rintro v ds ⟨A5, n5, c5, f5, rfl, rfl, hn5⟩
              obtain rfl : m = n5 := by rw [hn5.out, HM.out.1]
              clear hn5
              simp only [Act.put, List.setIfInBounds_toArray, List.set_cons_succ, List.set_cons_zero]
              repeat (refine Mm.give_det (by rfl) (by rfl) (by rfl) (fun K hK => ?_); go_big_quiet_op; refine hK _ ?_; clear hK K)
              repeat (refine Mm.give_skip (by rfl) ?_; simp only [Act.put, List.setIfInBounds_toArray, List.set_cons_succ, List.set_cons_zero])
              repeat (refine Mm.give_det (by rfl) (by rfl) (by rfl) (fun K hK => ?_); go_big_quiet_op; refine hK _ ?_; clear hK K)
              refine Mm.give_nil ?_
              rintro X hX
              have HXX := Lib.hid (below_step HBW.out hX.bel0)
              clear hX
              go_wp2
              go_ret
              exact BoolAns.no HN.out HXX.out
      · have hin2 : Pl.isIn f0 0 100000 = false := by unfold Pl.isIn; simp; omega
        have HN : Hid (¬ Pl.LogOk ⟨ps, bg⟩) := fun h => hf (by have := h.from0; rw [show (⟨ps, bg⟩ : Log).Pieces = ps from rfl, HF0.out] at this; exact this)
        clear hf
        go_wp2_with (first | (go_at_call 55; (with_reducible refine (within_isJ hin _).mono ?_); rintro e w' ⟨rfl, rfl⟩) | (go_at_call 55; (with_reducible refine (within_isJ hin2 _).mono ?_); rintro e w' ⟨rfl, rfl⟩))
        go_ret
        exact BoolAns.no HN.out HBE.out
    · have hin : Pl.isIn (n : Int) 1 20 = false := by unfold Pl.isIn; simp; omega
      have HN : Hid (¬ Pl.LogOk ⟨ps, bg⟩) := fun h => hn20 (by have := h.len.2; rw [← HLEN.out]; exact this)
      go_wp2_with (go_at_call 55; (with_reducible refine (within_isJ hin _).mono ?_); rintro e w' ⟨rfl, rfl⟩)
      go_ret
      exact BoolAns.no HN.out HBE.out
  · have hin : Pl.isIn (n : Int) 1 20 = false := by unfold Pl.isIn; simp; omega
    have HN : Hid (¬ Pl.LogOk ⟨ps, bg⟩) := fun h => hn1 (by have := h.len.1; rw [← HLEN.out]; exact this)
    go_wp2_with (go_at_call 55; (with_reducible refine (within_isJ hin _).mono ?_); rintro e w' ⟨rfl, rfl⟩)
    go_ret
    exact BoolAns.no HN.out HBE.out
end Go.Proofs.YtbhmdnjammnlnaaGreatDoor

namespace Go.Proofs.YtbhmdnjammnlnaaGreatDoor
namespace Mm
def tall (us : List Thing) : Thing := ⟨us.flatMap (·.fp), fun w => ∀ u, u ∈ us → u.holds w, fun hh k u hu => u.keep (hh u hu) fun b hb => k b (List.mem_flatMap.2 ⟨u, hu, hb⟩), fun hh b hb => by
  obtain ⟨u, hu, hb⟩ := List.mem_flatMap.1 hb
  exact u.lt (hh u hu) b hb⟩
theorem SepF.callSome {F : List Nat} {w0 wr W : World} {us rest vs : List Thing} (h : SepF F w0 wr (us ++ rest)) (hS : SepF (us.flatMap (·.fp)) wr W vs) : SepF F w0 W (vs ++ rest) := by
  have h1 : SepF F w0 wr (tall us :: rest) := h.conv (by simp [tall]) (List.forall_mem_cons.2 ⟨fun u hu => h.hold u (List.mem_append_left _ hu), fun u hu => h.hold u (List.mem_append_right _ hu)⟩)
  have h2 := h1.callAll (t := tall us) 0 rfl hS
  refine h2.conv ?_ (fun u hu => h2.hold u ?_)
  · simp only [List.set_cons_zero, List.flatMap_append, List.cons_append, List.flatMap_cons, tnil, List.nil_append]
    exact List.perm_append_comm
  · rcases List.mem_append.1 hu with hu | hu
    · exact List.mem_append_right _ hu
    · exact List.mem_append_left _ (List.mem_cons_of_mem _ hu)
end Mm
end Go.Proofs.YtbhmdnjammnlnaaGreatDoor

namespace Go.Proofs.YtbhmdnjammnlnaaGreatDoor
open Go.RowKit
theorem Mm.Chg.grownR {g : Nat} {w w' : World} (h : Mm.Chg [g] w w') : w.grownBy w' (some g) := ⟨h.os, h.tape, h.output, h.size, fun k hk hn => h.block k hk (fun hm => hn (by rw [List.mem_singleton.1 hm]))⟩
theorem Mm.Chg.grown0R {row : Option Nat} {w w' : World} (h : Below w.heap.size w w') : w.grownBy w' row := ⟨h.os, h.tape, h.output, h.size, fun k hk _ => h.block k hk⟩
theorem Mm.zeroCells_lenR (z : Array Value) (m : Nat) : (Builtin.zeroCells z m).size = m * z.size := by simp [Builtin.zeroCells]
theorem Tryz.infoRowI : (Tryz.prog.info? 139).map (fun i => (i.zero, i.size, i.bytes)) = some (some (.agg #[.string ByteArray.empty, .slice none 0 0]), 2, 40) := by kernel_rfl
set_option maxRecDepth 100000 in
set_option maxHeartbeats 4000000 in
theorem insRow_c (cells ct : List Value) (n k vb : Nat) (A : Option Addr) (c : Nat) (w : World) (ho : w.ownsRow 0 139 2 (.slice A n c) n cells) (hk : k ≤ n) (hn : n ≤ 1000) (hct : ct.length = 2) (hvs : ∀ j u, ct[j]? = some u → w.cell? ⟨vb, j, none⟩ = some u) (h1 : ∀ u ∈ ct, u.oneCell' = true) (h1c : ∀ u ∈ cells, u.oneCell' = true)
    (hvb : ∀ g, A = some ⟨g, 0, none⟩ → vb ≠ g) (hsh : w.shape? vb = some (139, 2)) (hfz : ∀ j, w.frozen? ⟨vb, j, none⟩ = false) (hvw : vb < w.heap.size) :
    Calls Tryz.prog 172 #[.slice A n c, .int .i64 k, .slice (some ⟨vb, 0, none⟩) 1 1] w fun e w' => ∃ A' n' c', e = .returned (.slice A' n' c') ∧ w'.ownsRow 0 139 2 (.slice A' n' c') (n + 1) (cells.take (k * 2) ++ (ct ++ cells.drop (k * 2))) ∧ w.grownBy w' (Value.slice A n c).ownBlock ∧ ((Value.slice A' n' c').ownBlock = (Value.slice A n c).ownBlock ∨ (Value.slice A' n' c').ownBlock = some w.heap.size) := by
  obtain ⟨i0, hi, hz0, hzs, hzb⟩ := info_parts Tryz.infoRowI
  have hcl := ho.1
  by_cases hkn : k = n
  · subst hkn
    have e0 : cells.take (k * 2) ++ (ct ++ cells.drop (k * 2)) = cells ++ ct := by rw [List.take_of_length_le (by omega), List.drop_of_length_le (by omega), List.append_nil]
    have E0 := Lib.hid e0
    clear e0 hcl
    have HO := Lib.hid ho
    rcases ho.2 with ⟨hv, hn0⟩ | ⟨g, cap, cur, hv, _, hg, hnc, hcm, hcs, htake⟩
    · injection hv with e1 e2 e3
      subst e1 e3
      subst hn0
      clear ho
      go_enter Tryz.func172, Tryz.ntmps172
      go_wp2_with (at_builtin; refine wpList_append_lies _ (by rfl) _ _ _ (by rfl) 0 139 i0 _ 2 40 Tryz.underlying71 hi hz0 hzs hzb rfl (by omega) _ 0 cells (by rfl) HO.out ⟨vb, 0, none⟩ 1 1 ct (by rfl) (by omega) (fun j u hj => by rw [Mm.add0]; exact hvs j u hj) h1 (by omega) (by unfold maxLen; omega) (by omega) (Nat.zero_le _) _ rfl ?_; intro gg cap w3 hown hgrow hat hlt)
      go_ret
      exact ⟨_, _, _, rfl, E0.out ▸ hown, hgrow, hat.elim (fun h => .inl (by rw [h]; rfl)) (fun h => .inr (by rw [h]; rfl))⟩
    · injection hv with e1 e2 e3
      subst e1 e3
      clear ho
      unfold maxLen at hcm
      by_cases hcn : c = k
      · subst hcn
        go_enter Tryz.func172, Tryz.ntmps172
        go_wp2_with (at_builtin; refine wpList_append_lies _ (by rfl) _ _ _ (by rfl) 0 139 i0 _ 2 40 Tryz.underlying71 hi hz0 hzs hzb rfl (by omega) _ c cells (by rfl) HO.out ⟨vb, 0, none⟩ 1 1 ct (by rfl) (by omega) (fun j u hj => by rw [Mm.add0]; exact hvs j u hj) h1 (by omega) (by unfold maxLen; omega) (by omega) (Nat.zero_le _) _ rfl ?_; intro gg cap w3 hown hgrow hat hlt)
        go_ret
        exact ⟨_, _, _, rfl, E0.out ▸ hown, hgrow, hat.elim (fun h => .inl (by rw [h]; rfl)) (fun h => .inr (by rw [h]; rfl))⟩
      · go_enter Tryz.func172, Tryz.ntmps172
        go_wp2_with (at_builtin; refine wpList_append_lies _ (by rfl) _ _ _ (by rfl) 0 139 i0 _ 2 40 Tryz.underlying71 hi hz0 hzs hzb rfl (by omega) _ k cells (by rfl) HO.out ⟨vb, 0, none⟩ 1 1 ct (by rfl) (by omega) (fun j u hj => by rw [Mm.add0]; exact hvs j u hj) h1 (by omega) (by unfold maxLen; omega) (by omega) (Nat.zero_le _) _ rfl ?_; intro gg cap w3 hown hgrow hat hlt)
        go_ret
        exact ⟨_, _, _, rfl, E0.out ▸ hown, hgrow, hat.elim (fun h => .inl (by rw [h]; rfl)) (fun h => .inr (by rw [h]; rfl))⟩
  · have hkl : k < n := by omega
    rcases ho.2 with ⟨hv, hn0⟩ | ⟨g, cap, cur, hv, _, hg, hnc, hcm, hcs, htake⟩
    · omega
    injection hv with e1 e2 e3
    subst e1 e3
    have hBg : Mm.Blk w g 139 cur.toList := by unfold Mm.Blk; rw [Array.toArray_toList]; exact hg
    have hcsl : cur.toList.length = c * 2 := by simpa using hcs
    have hne := hvb g rfl
    have hcc : ∀ j u, cells[j]? = some u → w.cell? ⟨g, j, none⟩ = some u := fun j u hj => hBg.cell (by
      have : (cur.toList.take (n * 2))[j]? = some u := by rw [htake]; exact hj
      rw [List.getElem?_take] at this
      split at this
      · exact this
      · cases this)
    have hsp : ∀ j, j < c * 2 → (w.cell? ⟨g, j, none⟩).isSome = true := fun j hj => by
      rw [hBg.cell (List.getElem?_eq_getElem (by rw [hcsl]; exact hj))]; rfl
    have hfz2 : ∀ j, w.frozen? ⟨g, j, none⟩ = false := fun j => hBg.frozen _
    have hdl : (cells.drop (k * 2)).length = (n - k) * 2 := by rw [List.length_drop, hcl]; omega
    unfold maxLen at hcm
    have hw1 : IntKind.i64.wrap ((k : Int) + 1) = (k : Int) + 1 := IntWalk.i64_in _ (by omega)
    have hw2 : IntKind.i64.wrap ((n : Int) + 1) = (n : Int) + 1 := IntWalk.i64_in _ (by omega)
    have hz2 : ¬ ((k : Int) = (n : Int)) := by omega
    have hb1 : (0 : Int) ≤ (k : Int) + 1 := by omega
    have hb5 : ((k : Int) + 1).toNat = k + 1 := by omega
    have hb6 : ((n : Int) + 1).toNat = n + 1 := by omega
    by_cases hroom : n + 1 ≤ c
    · have hb2 : ¬ (c = k + 1) := by omega
      have hb4 : ¬ (c = k) := by omega
      have hb3 : (k : Int) ≤ (n : Int) + 1 := by omega
      have hov : ∀ o lb cb, (callFunc 190 #[.slice (some ⟨vb, 0, none⟩) 1 1, .slice (some ⟨g, o, none⟩) lb cb]).run Tryz.prog w = .ok (.value (.bool false)) w := fun o lb cb => by
        rw [run_callFunc_extern Tryz.func190 (by kernel_rfl) (by kernel_rfl) (by kernel_rfl) (e := Extern.SlicesOverlaps.overlaps #[71, 71] #[4]) (by kernel_rfl),
          Lib.run_overlaps_apart w 71 4 139 Tryz.underlying71 2 Tryz.sizeOf139 ⟨vb, 0, none⟩ ⟨g, o, none⟩ 1 1 lb cb hne _ _ _ _ hsh (Mm.shape_blk hBg) (by omega) (hfz _) (hfz _)]
        rfl
      have HBG := Lib.hid hBg
      clear ho hg hBg
      go_enter Tryz.func172, Tryz.ntmps172
      go_wp2_with (simp only [hov])
      have hsz : (Tryz.prog.info? 139).map (·.size) = some 2 := by rw [hi]; exact congrArg some hzs
      have hmin : Nat.min (n + 1 - k) (n - k) = n - k := by simp only [Nat.min_def]; split <;> omega
      have hmin2 : Nat.min 1 (n + 1 - k) = 1 := by simp only [Nat.min_def]; split <;> omega
      have hcp1 : ∀ ty dc sc, (Builtin.copy_ #[71, 71] ty #[.slice (some ⟨g, (k + 1) * 2, none⟩) (n - k) dc, .slice (some ⟨g, k * 2, none⟩) (n + 1 - k) sc]).run Tryz.prog w.drew = .ok (goInt (Nat.min (n + 1 - k) (n - k))) (w.drew.setCells g ((k + 1) * 2) (cells.drop (k * 2))) := fun ty dc sc =>
        Mm.run_copy_k w.drew _ _ ty 139 2 g ((k + 1) * 2) (n - k) dc ⟨g, k * 2, none⟩ (n + 1 - k) sc (cells.drop (k * 2)) Tryz.underlying71 hsz (by rw [hdl, hmin])
          (fun j v hj => by rw [Addr.add_lit]; exact hcc _ v (by rwa [List.getElem?_drop] at hj))
          (fun j hj => hsp _ (by rw [hdl] at hj; omega)) (fun j hj => hfz2 _) (fun v hv => h1c v (List.mem_of_mem_drop hv))
      obtain ⟨W1, hW1⟩ : ∃ W1, W1 = w.drew.setCells g ((k + 1) * 2) (cells.drop (k * 2)) := ⟨_, rfl⟩
      have hsp1 : ∀ j, j < c * 2 → (W1.cell? ⟨g, j, none⟩).isSome = true := fun j hj => by
        rw [hW1]
        exact isSome_setCells g (cells.drop (k * 2)) ((k + 1) * 2) w.drew (fun j hj => hsp ((k + 1) * 2 + j) (by rw [hdl] at hj; omega)) _ (hsp j hj)
      have hcp2 : ∀ (W : World), (∀ x, W.cell? x = W1.cell? x) → (∀ x, W.frozen? x = W1.frozen? x) → ∀ ty dc, (Builtin.copy_ #[71, 71] ty #[.slice (some ⟨g, k * 2, none⟩) (n + 1 - k) dc, .slice (some ⟨vb, 0, none⟩) 1 1]).run Tryz.prog W = .ok (goInt (Nat.min 1 (n + 1 - k))) (W.setCells g (k * 2) ct) := fun W hWc hWf ty dc =>
        Mm.run_copy_k (P := Tryz.prog) W 71 71 ty 139 2 g (k * 2) (n + 1 - k) dc ⟨vb, 0, none⟩ 1 1 ct Tryz.underlying71 hsz (by rw [hct, hmin2])
          (fun j v hj => by
            rw [Mm.add0, hWc, hW1, World.cell?_setCells_out g _ _ _ _ (fun h _ => absurd h hne)]
            exact hvs j v hj)
          (fun j hj => by rw [hWc]; exact hsp1 _ (by omega)) (fun j hj => by rw [hWf, hW1, World.frozen?_setCells]; exact hfz2 _) h1
      rw [← hW1] at hcp1
      have HW1 := Lib.hid hW1
      clear hW1
      go_region_law (refine step_copy_runI rfl _ _ 71 71 rfl (.slice (some ⟨g, (k + 1) * 2, none⟩) (n - k) (c - (k + 1))) (.slice (some ⟨g, k * 2, none⟩) (n + 1 - k) (c - k)) (by simp [Act.eval, Act.put]) (by simp [Act.eval, Act.put]) (hcp1 _ _ _) ?_)
      go_wp2_with (at_builtin; refine wpList_copy_runI _ rfl _ _ 71 71 rfl _ _ rfl rfl (hcp2 _ (fun _ => rfl) (fun _ => rfl) _ _) ?_)
      go_ret
      have hW1 := HW1.out
      subst hW1
      have hd : Mm.Blk w.drew g 139 cur.toList := HBG.out
      have hb2 := Mm.setCells_blk ct _ (k * 2) _ (Mm.setCells_blk (cells.drop (k * 2)) _ ((k + 1) * 2) _ hd)
      refine ⟨_, _, _, rfl, ⟨?_, .inr ⟨g, c, _, rfl, Nat.zero_le _, hb2, hroom, by unfold maxLen; omega, ?_, ?_⟩⟩, ?_, .inl rfl⟩
      · rw [List.length_append, List.length_append, List.length_take, hdl, hct, hcl]; omega
      · rw [List.size_toArray, Mm.setList_len, Mm.setList_len]; exact hcsl
      · have := Mm.ins_rows (cur := cur.toList) (cells := cells) (ct := ct) (N := n * 2) (K := k * 2) (S := 2) htake hcl (by omega) hct (by rw [hcsl]; omega)
        rw [show (k + 1) * 2 = k * 2 + 2 by omega, show (n + 1) * 2 = n * 2 + 2 by omega]
        rw [List.append_assoc] at this
        exact this
      · exact Mm.Chg.grownR ((Mm.Chg.of_below (Below.refl w.heap.size w).drew).trans ((Mm.setCells_chg g _ _ _).trans (Mm.setCells_chg g _ _ _)))
    · have hcn : c = n := by omega
      subst hcn
      have hsz : (Tryz.prog.info? 139).map (·.size) = some 2 := by rw [hi]; exact congrArg some hzs
      have hw3 : IntKind.i64.wrap ((c : Int) + 1 - (k : Int)) = (c : Int) + 1 - (k : Int) := IntWalk.i64_in _ (by omega)
      have hold : (Builtin.firstCells i0.size k (.slice (some ⟨g, 0, none⟩) k c)).run Tryz.prog w.drew = .ok (cells.take (k * 2)).toArray w.drew := by
        rw [hzs]
        exact run_firstCells_some w.drew 2 k ⟨g, 0, none⟩ k c (cells.take (k * 2)) (by rw [List.length_take, hcl]; omega) (fun j v hj => by
          rw [List.getElem?_take] at hj
          split at hj
          · rw [Mm.add0]; exact hcc j v hj
          · cases hj)
      have hik : ((c + 1 - k : Nat) : Int) = (c : Int) + 1 - (k : Int) := by omega
      have hkk : k + (c + 1 - k) = c + 1 := by omega
      obtain ⟨G, hG⟩ : ∃ G, G = grownCap w (c + 1) c 139 := ⟨_, rfl⟩
      obtain ⟨ROW, hROW⟩ : ∃ ROW : Array Value, ROW = (cells.take (k * 2)).toArray ++ Builtin.zeroCells (Value.agg #[.string ByteArray.empty, .slice none 0 0]).cells (c + 1 - k) ++ Builtin.zeroCells (Value.agg #[.string ByteArray.empty, .slice none 0 0]).cells (G - (c + 1)) := ⟨_, rfl⟩
      have hrz : ∀ ty, (Builtin.append_ #[71, 3] ty #[.slice (some ⟨g, 0, none⟩) k c, .int .i64 ((c : Int) + 1 - (k : Int))]).run Tryz.prog w = .ok (.slice (some ⟨w.heap.size, 0, none⟩) (c + 1) G) (w.drew.alloc (.cells ROW 139)) := fun ty => by
        have h := Lib.run_append_grow_zeros w 71 3 ty 139 i0 _ .i64 .i64 Tryz.underlying71 Tryz.underlying3 hi hz0 (some ⟨g, 0, none⟩) k c (cells.take (k * 2)) hold (c + 1 - k) (by omega) (by omega) (by omega) (by omega) (by rw [hzb]; omega) (by rw [hzb, hkk]; exact growslice_fits (by omega) (by omega))
        rw [hik, hkk] at h
        rw [hG, hROW, hG]
        exact h
      have hGn : c + 1 ≤ G := by rw [hG]; exact grownCap_ge w _ _ _
      have hGm : G ≤ maxLen := by rw [hG]; exact grownCap_le_maxLen w (c + 1) c 139 (by unfold maxLen; omega)
      have hRs : ROW.size = G * 2 := by
        rw [hROW]
        simp only [Array.size_append, List.size_toArray, Mm.zeroCells_lenR, List.length_take, hcl]
        show min (k * 2) (c * 2) + (c + 1 - k) * 2 + (G - (c + 1)) * 2 = _
        omega
      have hRt : ROW.toList.take (k * 2) = cells.take (k * 2) := by
        rw [hROW, Array.append_assoc, Array.toList_append, List.take_left' (by rw [List.length_take, hcl]; omega)]
      clear hG hROW hik hkk hold
      unfold maxLen at hGm
      obtain ⟨W1, hW1⟩ : ∃ W1, W1 = w.drew.alloc (.cells ROW 139) := ⟨_, rfl⟩
      have hgw : g < w.heap.size := hBg.lt
      have hB1 : Mm.Blk W1 w.heap.size 139 ROW.toList := by
        have := Mm.Blk.new w.drew 139 ROW.toList
        rw [Array.toArray_toList] at this
        rw [hW1]
        exact this
      have hN : ∀ j, j < G * 2 → (W1.cell? ⟨w.heap.size, j, none⟩).isSome = true := fun j hj => by
        rw [hB1.cell (List.getElem?_eq_getElem (by rw [Array.length_toList, hRs]; exact hj))]; rfl
      have hNf : ∀ j, W1.frozen? ⟨w.heap.size, j, none⟩ = false := fun j => hB1.frozen _
      have hbl : Below w.heap.size w W1 := by rw [hW1]; exact (Below.refl _ _).drew.alloc (by exact Nat.le_refl _) _
      have hOc : ∀ b j v, b < w.heap.size → w.cell? ⟨b, j, none⟩ = some v → W1.cell? ⟨b, j, none⟩ = some v := fun b j v hb h => (hbl.cell hb).trans h
      have hmin1 : Nat.min 1 (c + 1 - k) = 1 := by simp only [Nat.min_def]; split <;> omega
      have hmin2 : Nat.min (c - k) (c - k) = c - k := Nat.min_self _
      have hcpA : ∀ (W : World), (∀ x, W.cell? x = W1.cell? x) → (∀ x, W.frozen? x = W1.frozen? x) → ∀ ty dc, (Builtin.copy_ #[71, 71] ty #[.slice (some ⟨w.heap.size, k * 2, none⟩) (c + 1 - k) dc, .slice (some ⟨vb, 0, none⟩) 1 1]).run Tryz.prog W = .ok (goInt (Nat.min 1 (c + 1 - k))) (W.setCells w.heap.size (k * 2) ct) := fun W hWc hWf ty dc =>
        Mm.run_copy_k (P := Tryz.prog) W 71 71 ty 139 2 w.heap.size (k * 2) (c + 1 - k) dc ⟨vb, 0, none⟩ 1 1 ct Tryz.underlying71 hsz (by rw [hct, hmin1])
          (fun j v hj => by rw [Mm.add0, hWc]; exact hOc _ _ v hvw (hvs j v hj))
          (fun j hj => by rw [hWc]; exact hN _ (by omega)) (fun j hj => by rw [hWf]; exact hNf _) h1
      have hcpB : ∀ (W : World), (∀ x, W.cell? x = (W1.setCells w.heap.size (k * 2) ct).cell? x) → (∀ x, W.frozen? x = (W1.setCells w.heap.size (k * 2) ct).frozen? x) → ∀ ty dc sc, (Builtin.copy_ #[71, 71] ty #[.slice (some ⟨w.heap.size, (k + 1) * 2, none⟩) (c - k) dc, .slice (some ⟨g, k * 2, none⟩) (c - k) sc]).run Tryz.prog W = .ok (goInt (Nat.min (c - k) (c - k))) (W.setCells w.heap.size ((k + 1) * 2) (cells.drop (k * 2))) := fun W hWc hWf ty dc sc =>
        Mm.run_copy_k (P := Tryz.prog) W 71 71 ty 139 2 w.heap.size ((k + 1) * 2) (c - k) dc ⟨g, k * 2, none⟩ (c - k) sc (cells.drop (k * 2)) Tryz.underlying71 hsz (by rw [hdl, hmin2])
          (fun j v hj => by
            rw [Addr.add_lit, hWc, World.cell?_setCells_out _ _ _ _ _ (fun h _ => absurd h (Nat.ne_of_lt hgw))]
            exact hOc _ _ v hgw (hcc _ v (by rwa [List.getElem?_drop] at hj)))
          (fun j hj => by rw [hWc]; exact isSome_setCells _ _ _ _ (fun t ht => hN (k * 2 + t) (by omega)) _ (hN ((k + 1) * 2 + j) (by rw [hdl] at hj; omega)))
          (fun j hj => by rw [hWf, World.frozen?_setCells]; exact hNf _) (fun v hv => h1c v (List.mem_of_mem_drop hv))
      have HW1 := Lib.hid (And.intro hW1 hB1)
      have HBL := Lib.hid hbl
      subst hW1
      have hE1 : ∀ x, ((w.alloc (.cells ROW 139)).drew).cell? x = (w.drew.alloc (.cells ROW 139)).cell? x := fun x => rfl
      have hE2 : ∀ x, ((w.alloc (.cells ROW 139)).drew).frozen? x = (w.drew.alloc (.cells ROW 139)).frozen? x := fun x => rfl
      have hF1 : ∀ x, (((w.alloc (.cells ROW 139)).drew.setCells w.heap.size (k * 2) ct).drew).cell? x = ((w.drew.alloc (.cells ROW 139)).setCells w.heap.size (k * 2) ct).cell? x := fun x => rfl
      have hF2 : ∀ x, (((w.alloc (.cells ROW 139)).drew.setCells w.heap.size (k * 2) ct).drew).frozen? x = ((w.drew.alloc (.cells ROW 139)).setCells w.heap.size (k * 2) ct).frozen? x := fun x => rfl
      have hGi : ¬ (G = k) := by omega
      have hGim : ¬ (G = k + 1) := by omega
      have hci : ¬ (c = k) := by omega
      clear ho hg hBg hbl hN hNf hOc
      go_enter Tryz.func172, Tryz.ntmps172
      go_wp2_with (first
        | (at_builtin; refine Lib.wpList_append_run _ rfl _ _ _ _ rfl _ _ rfl rfl _ _ (hrz _) ?_)
        | (at_builtin; refine wpList_copy_runI _ rfl _ _ 71 71 rfl _ _ rfl rfl (hcpA _ hE1 hE2 _ _) ?_))
      go_region_law (refine step_copy_runI rfl _ _ 71 71 rfl (.slice (some ⟨w.heap.size, (k + 1) * 2, none⟩) (c - k) (G - (k + 1))) (.slice (some ⟨g, k * 2, none⟩) (c - k) (c - k)) (by simp [Act.eval, Act.put]) (by simp [Act.eval, Act.put]) (hcpB _ hF1 hF2 3 (G - (k + 1)) (c - k)) ?_)
      go_wp2
      go_ret
      have hd : Mm.Blk (w.alloc (.cells ROW 139)).drew w.heap.size 139 ROW.toList := HW1.out.2
      have hb1' : Mm.Blk (((w.alloc (.cells ROW 139)).drew.setCells w.heap.size (k * 2) ct).drew) w.heap.size 139 (Mm.setList ROW.toList (k * 2) ct) := Mm.setCells_blk ct _ (k * 2) _ hd
      have hb2' := Mm.setCells_blk (cells.drop (k * 2)) _ ((k + 1) * 2) _ hb1'
      refine ⟨_, _, _, rfl, ⟨?_, .inr ⟨w.heap.size, G, _, rfl, Nat.zero_le _, hb2', hGn, by unfold maxLen; omega, ?_, ?_⟩⟩, ?_, .inr rfl⟩
      · rw [List.length_append, List.length_append, List.length_take, hdl, hct, hcl]; omega
      · rw [List.size_toArray, Mm.setList_len, Mm.setList_len, Array.length_toList]; exact hRs
      · have := Mm.ins_rows' (cur := ROW.toList) (cells := cells) (ct := ct) (N := c * 2) (K := k * 2) (S := 2) hRt hcl (by omega) hct (by rw [Array.length_toList, hRs]; omega)
        rw [show (k + 1) * 2 = k * 2 + 2 by omega, show (c + 1) * 2 = c * 2 + 2 by omega]
        rw [List.append_assoc] at this
        exact this
      · have q1 : Below w.heap.size w (w.alloc (.cells ROW 139)).drew := (below_new (Below.refl _ _) _).drew
        have q2 := Mm.Below.chg q1 (Mm.setCells_chg w.heap.size ct _ (k * 2)) q1.size (fun b hb => by rw [List.mem_singleton.1 hb]; exact Nat.le_refl _)
        have q3 := Mm.Below.chg q2.drew (Mm.setCells_chg w.heap.size (cells.drop (k * 2)) _ ((k + 1) * 2)) q2.drew.size (fun b hb => by rw [List.mem_singleton.1 hb]; exact Nat.le_refl _)
        exact Mm.Chg.grown0R q3
end Go.Proofs.YtbhmdnjammnlnaaGreatDoor

namespace Go.Proofs.YtbhmdnjammnlnaaGreatDoor
open Go.RowKit
attribute [local go_sem] und_cell
theorem isSample_c (x : Sample) (w : World) :
    Calls Tryz.prog 138 #[.agg #[.int .i64 x.At, .int .i64 x.Value]] w fun e w' => e = .returned (.bool (Pl.sampleOk x)) ∧ Below w.heap.size w w' := by
  have HF : Hid (Pl.sampleOk x = (Pl.isIn x.At 0 1000000000 && Pl.isIn x.Value (-1000000000) 1000000000)) := rfl
  cases h1 : Pl.isIn x.At 0 1000000000
  all_goals
    go_enter Tryz.func138, Tryz.ntmps138
    go_wp2_with (go_at_call 55; refine (within_c _ _ _ _).mono ?_; rintro e w' ⟨rfl, rfl⟩)
    go_ret
    exact ⟨ret_bool (by rw [HF.out, h1]; simp), (Below.refl _ _).alloc (Nat.le_refl _) _⟩
set_option maxRecDepth 100000 in
set_option maxHeartbeats 1000000 in
theorem areSamples_c (l : List Sample) (A : Option Addr) (n c : Nat) (w : World) (B : Nat) (hl : Mm.SlAt smp w B l A n c) (hB : B ≤ w.heap.size) :
    Calls Tryz.prog 140 #[.slice A n c] w fun e w' => e = .returned (.bool (Pl.samplesOk l)) ∧ Below w.heap.size w w' := by
  have hn : n ≤ 9223372036854775807 := by have := hl.2.1; have := hl.2.2.1; unfold maxLen at this; omega
  have hlen : Hid (l.length = n) := hl.1
  have HL : Hid (Mm.SlAt smp w B l A n c) := hl
  clear hl
  go_enter Tryz.func140, Tryz.ntmps140
  go_wp2
  go_loopw [3, 4, 7] (fun _ _ i wr => ∃ k : Nat, k ≤ n ∧ i = .int .i64 k ∧ Below w.heap.size w wr ∧ ∀ i, i < k → Pl.sampleGood l i = true) (fun _ _ i _ => n - (intOf i).toNat)
  case atStart => exact ⟨0, Nat.zero_le _, rfl, Below.refl _ _, fun i hi => absurd hi (Nat.not_lt_zero _)⟩
  case round =>
    obtain ⟨k, hk, rfl, hbel, hall⟩ := hrel
    rename_i wr _
    have HA : Hid (∀ i, i < k → Pl.sampleGood l i = true) := hall
    clear hall
    by_cases hlt : k < n
    · have hR := (HL.out.keep (w' := wr) (fun b hb => hbel.block b (by omega)))
      obtain ⟨x, b, off, hx, rfl, hb, b1, b2, c1, c2⟩ := smp_get hR hlt
      have hbw : b < wr.heap.size := by have := hbel.size; omega
      have hb1 : Hid (Mm.I64 x.At ∧ Mm.I64 x.Value) := ⟨b1, b2⟩
      have HX : Hid (l[k]? = some x) := hx
      have hN : Hid (Below w.heap.size w (wr.alloc (.cells #[.int .i64 x.At, .int .i64 x.Value] 124))) := below_new hbel _
      cases hs : Pl.sampleOk x
      · have HF : Hid (Pl.samplesOk l = false) := Pl.samplesOk_bad (by rw [hlen.out]; exact hlt) (Pl.good_bad hx hs)
        clear hR hx b1 b2
        go_wp2
        refine wp_region_und (by kernel_rfl) (by kernel_rfl) ?_
        repeat (go_big_quiet_step ((first | (go_at_call 138; exact und_call _ (isSample_c x _)))))
        refine wpQuiet_nil ?_
        intro X hX
        go_wp2
        go_ret
        exact ⟨ret_bool HF.out.symm, below_step hN.out hX⟩
      · by_cases h0 : k = 0
        · have HG : Hid (∀ i, i < k + 1 → Pl.sampleGood l i = true) := Pl.snocB HA.out (by subst h0; exact Pl.good_zero hx hs)
          have hd0 : decide (0 < k) = false := by subst h0; rfl
          clear h0
          clear hR hx b1 b2
          go_wp2
          refine wp_region_und (by kernel_rfl) (by kernel_rfl) ?_
          repeat (go_big_quiet_step ((first | (go_at_call 138; exact und_call _ (isSample_c x _)))))
          refine wpQuiet_nil ?_
          intro X hX
          go_wp2
          go_roundw
          case rel => exact ⟨k + 1, by omega, by go_num, below_step hN.out hX, HG.out⟩
          case measure => simp [intOf]; omega
        · have hk0 : 0 < k := by omega
          obtain ⟨y, hy, _, _, _, c3, _⟩ := smp_get' hR (show k - 1 < n by omega)
          by_cases hlt2 : y.At < x.At
          · have HG : Hid (∀ i, i < k + 1 → Pl.sampleGood l i = true) := Pl.snocB HA.out (by rw [Pl.good_later hx hy hk0 hs]; simpa using hlt2)
            clear hR hx b1 b2 hy
            go_wp2
            refine wp_region_und (by kernel_rfl) (by kernel_rfl) ?_
            repeat (go_big_quiet_step ((first | (go_at_call 138; exact und_call _ (isSample_c x _)))))
            refine wpQuiet_nil ?_
            intro X hX
            go_wp2
            go_roundw
            case rel => exact ⟨k + 1, by omega, by go_num, below_step hN.out hX, HG.out⟩
            case measure => simp [intOf]; omega
          · have HF : Hid (Pl.samplesOk l = false) := Pl.samplesOk_bad (by rw [hlen.out]; exact hlt) (by rw [Pl.good_later hx hy hk0 hs]; simpa using hlt2)
            clear hR hx b1 b2 hy
            go_wp2
            refine wp_region_und (by kernel_rfl) (by kernel_rfl) ?_
            repeat (go_big_quiet_step ((first | (go_at_call 138; exact und_call _ (isSample_c x _)))))
            refine wpQuiet_nil ?_
            intro X hX
            go_wp2
            go_ret
            exact ⟨ret_bool HF.out.symm, below_step hN.out hX⟩
    · have HF : Hid (Pl.samplesOk l = decide ((l.length : Int) ≤ 40)) := Pl.samplesOk_end (by rw [hlen.out]; omega) HA.out
      go_wp2
      go_ret
      exact ⟨ret_bool (by rw [HF.out, hlen.out]), hbel⟩
set_option maxRecDepth 100000 in
set_option maxHeartbeats 1000000 in
theorem GoodSamples_c (l : List Sample) (A : Option Addr) (n c : Nat) (w : World) (B : Nat) (hl : Mm.SlAt smp w B l A n c) (hB : B ≤ w.heap.size) :
    Calls Tryz.prog 124 #[.slice A n c] w fun e w' => e = .returned (.bool (Pl.samplesOk l)) ∧ Below w.heap.size w w' := by
  have hn : n ≤ 9223372036854775807 := by have := hl.2.1; have := hl.2.2.1; unfold maxLen at this; omega
  have hlen : Hid (l.length = n) := hl.1
  have HL : Hid (Mm.SlAt smp w B l A n c) := hl
  clear hl
  go_enter Tryz.func124, Tryz.ntmps124
  go_wp2
  go_loopw [3, 4, 7] (fun _ _ i wr => ∃ k : Nat, k ≤ n ∧ i = .int .i64 k ∧ Below w.heap.size w wr ∧ ∀ i, i < k → Pl.sampleGood l i = true) (fun _ _ i _ => n - (intOf i).toNat)
  case atStart => exact ⟨0, Nat.zero_le _, rfl, Below.refl _ _, fun i hi => absurd hi (Nat.not_lt_zero _)⟩
  case round =>
    obtain ⟨k, hk, rfl, hbel, hall⟩ := hrel
    rename_i wr _
    have HA : Hid (∀ i, i < k → Pl.sampleGood l i = true) := hall
    clear hall
    by_cases hlt : k < n
    · have hR := (HL.out.keep (w' := wr) (fun b hb => hbel.block b (by omega)))
      obtain ⟨x, b, off, hx, rfl, hb, b1, b2, c1, c2⟩ := smp_get hR hlt
      have hbw : b < wr.heap.size := by have := hbel.size; omega
      have hN : Hid (Below w.heap.size w (wr.alloc (.cells #[.int .i64 x.At, .int .i64 x.Value] 124))) := below_new hbel _
      by_cases hs : Pl.sampleOk x = true
      · obtain ⟨hs1, hs2⟩ := Pl.sampleOk_iff.1 hs
        by_cases h0 : k = 0
        · have HG : Hid (∀ i, i < k + 1 → Pl.sampleGood l i = true) := Pl.snocB HA.out (by subst h0; exact Pl.good_zero hx hs)
          have hd0 : decide (0 < k) = false := by subst h0; rfl
          clear hR hx b1 b2 h0 hs
          go_wp2
          refine wp_region_und (by kernel_rfl) (by kernel_rfl) ?_
          repeat (go_big_quiet_step ((first | (go_at_call 68; exact und_same _ (l1In_c _ _ _ _)))))
          refine wpQuiet_nil ?_
          intro X hX
          go_wp2
          go_roundw
          case rel => exact ⟨k + 1, by omega, by go_num, below_step hN.out hX, HG.out⟩
          case measure => simp [intOf]; omega
        · have hk0 : 0 < k := by omega
          obtain ⟨y, hy, _, _, _, c3, _⟩ := smp_get' hR (show k - 1 < n by omega)
          by_cases hlt2 : y.At < x.At
          · have HG : Hid (∀ i, i < k + 1 → Pl.sampleGood l i = true) := Pl.snocB HA.out (by rw [Pl.good_later hx hy hk0 hs]; simpa using hlt2)
            clear hR hx b1 b2 hy hs
            go_wp2
            refine wp_region_und (by kernel_rfl) (by kernel_rfl) ?_
            repeat (go_big_quiet_step ((first | (go_at_call 68; exact und_same _ (l1In_c _ _ _ _)))))
            refine wpQuiet_nil ?_
            intro X hX
            go_wp2
            go_roundw
            case rel => exact ⟨k + 1, by omega, by go_num, below_step hN.out hX, HG.out⟩
            case measure => simp [intOf]; omega
          · have HF : Hid (Pl.samplesOk l = false) := Pl.samplesOk_bad (by rw [hlen.out]; exact hlt) (by rw [Pl.good_later hx hy hk0 hs]; simpa using hlt2)
            clear hR hx b1 b2 hy hs
            go_wp2
            refine wp_region_und (by kernel_rfl) (by kernel_rfl) ?_
            repeat (go_big_quiet_step ((first | (go_at_call 68; exact und_same _ (l1In_c _ _ _ _)))))
            refine wpQuiet_nil ?_
            intro X hX
            go_wp2
            go_ret
            exact ⟨ret_bool HF.out.symm, below_step hN.out hX⟩
      · have HF : Hid (Pl.samplesOk l = false) := Pl.samplesOk_bad (by rw [hlen.out]; exact hlt) (Pl.good_bad hx (by simpa using hs))
        have hs' := hs
        unfold Pl.sampleOk at hs'
        cases hs1 : Pl.isIn x.At 0 1000000000
        · clear hR hx b1 b2 hs hs'
          go_wp2
          refine wp_region_und (by kernel_rfl) (by kernel_rfl) ?_
          repeat (go_big_quiet_step ((first | (go_at_call 68; exact und_same _ (l1In_c _ _ _ _)))))
          refine wpQuiet_nil ?_
          intro X hX
          go_wp2
          go_ret
          exact ⟨ret_bool HF.out.symm, below_step hN.out hX⟩
        · have hs2 : Pl.isIn x.Value (-1000000000) 1000000000 = false := by rw [hs1] at hs'; simpa using hs'
          clear hR hx b1 b2 hs hs'
          go_wp2
          refine wp_region_und (by kernel_rfl) (by kernel_rfl) ?_
          repeat (go_big_quiet_step ((first | (go_at_call 68; exact und_same _ (l1In_c _ _ _ _)))))
          refine wpQuiet_nil ?_
          intro X hX
          go_wp2
          go_ret
          exact ⟨ret_bool HF.out.symm, below_step hN.out hX⟩
    · have HF : Hid (Pl.samplesOk l = decide ((l.length : Int) ≤ 40)) := Pl.samplesOk_end (by rw [hlen.out]; omega) HA.out
      go_wp2
      go_ret
      exact ⟨ret_bool (by rw [HF.out, hlen.out]), hbel⟩
end Go.Proofs.YtbhmdnjammnlnaaGreatDoor

namespace Go.Proofs.YtbhmdnjammnlnaaGreatDoor
open Go.RowKit
attribute [local go_sem] und_cell World.cell?_alloc_some
theorem Pl.rba_ext {a b : ByteArray} (h : a.data.toList = b.data.toList) : a = b := by cases a; cases b; congr 1; exact Array.toList_inj.1 h
set_option maxRecDepth 100000 in
theorem rcompare_c (a b : ByteArray) (w : World) : Calls Tryz.prog 143 #[.string a, .string b] w fun e w' => e = .returned (.int .i64 (Lib.compareBytes a.data.toList b.data.toList)) ∧ w = w' := by
  have h1 : Calls Tryz.prog 173 #[.string a, .string b] w fun e w' => e = .returned (.int .i64 (Lib.compareBytes a.data.toList b.data.toList)) ∧ w = w' := by
    go_enter Tryz.func173, Tryz.ntmps173
    go_wp2
    rw [run_callFunc_extern Tryz.func192 (by kernel_rfl) (by kernel_rfl) (by kernel_rfl) (e := Extern.BytealgCompare.compare) (by kernel_rfl), Lib.run_compareString]
    simp only [Result.andThen]
    rw [Oper.upon_value]
    go_wp2
    go_ret
    exact ⟨rfl, rfl⟩
  go_enter Tryz.func143, Tryz.ntmps143
  go_wp2_with (go_at_call 173; refine h1.mono ?_; rintro e w' ⟨rfl, rfl⟩)
  go_ret
  exact ⟨rfl, rfl⟩
theorem rowCmp_c (x : Row) (s : ByteArray) (A : Option Addr) (n c : Nat) (w : World) :
    Calls Tryz.prog 142 #[.agg #[.string x.Name, .slice A n c], .string s] w fun e w' => e = .returned (.int .i64 (Lib.compareBytes (Pl.rnm x).data.toList s.data.toList)) ∧ Below w.heap.size w w' := by
  have HB0 := Lib.hid (below_new (Below.refl w.heap.size w) (.cells #[.string x.Name, .slice A n c] 139))
  go_enter Tryz.func142, Tryz.ntmps142
  go_wp2_with (go_at_call 143; (with_reducible refine (rcompare_c _ s _).mono ?_); rintro e w' ⟨rfl, rfl⟩)
  go_ret
  exact ⟨rfl, HB0.out⟩
set_option maxRecDepth 100000 in
set_option maxHeartbeats 1000000 in
theorem bsRow_c (l : List Row) (s : ByteArray) (A : Option Addr) (n c : Nat) (w : World) (B : Nat) (hl : Mm.SlAt rRow w B l A n c) (hB : B ≤ w.heap.size) (hn : n ≤ 100) (hs : Pl.RSort l) :
    Calls Tryz.prog 141 #[.slice A n c, .string s, .func (.func 142) #[] #[]] w fun e w' => ∃ fd : Bool, e = .returned (.tuple #[.int .i64 (Pl.rpos s l : Nat), .bool fd]) ∧ (fd = true ↔ ∃ o, l[Pl.rpos s l]? = some o ∧ Pl.rnm o = s) ∧ Below w.heap.size w w' := by
  have HL := Lib.hid hl
  have HLN : Hid (l.length = n) := hl.1
  have HOK := Lib.hid (And.intro True.intro hs)
  obtain ⟨p, hp⟩ : ∃ p, Pl.rpos s l = p := ⟨_, rfl⟩
  have HP := Lib.hid hp
  rw [hp]
  have hpn : p ≤ n := by rw [← hp, ← hl.1]; exact Pl.rpos_le s l
  clear hl hs hp
  go_enter Tryz.func141, Tryz.ntmps141
  go_wp2
  go_loopg [9, 10] n (fun g i j wr => ∃ a b : Nat, b - a ≤ g ∧ a ≤ p ∧ p ≤ b ∧ b ≤ n ∧ i = .int .i64 a ∧ j = .int .i64 b ∧ Hid (Below w.heap.size w wr))
  case atStart => exact ⟨0, n, by omega, Nat.zero_le _, hpn, Nat.le_refl _, rfl, rfl, Below.refl _ _⟩
  case round =>
    obtain ⟨a, b, hg, hap, hpb, hbn, rfl, rfl, HBE⟩ := hrel
    obtain ⟨W, rfl⟩ : ∃ W : World, W = wr := ⟨_, rfl⟩
    have HR := Lib.hid (HL.out.keep (w' := W) fun b hb => HBE.out.block b (Nat.lt_of_lt_of_le hb hB))
    have hBW := Nat.le_trans hB HBE.out.size
    by_cases hab : a < b
    · have f1 : (a : Int) < (b : Nat) := by omega
      obtain ⟨m, hm⟩ : ∃ m : Nat, ((a : Int) + (b : Int)) / 2 = m := ⟨(a + b) / 2, by omega⟩
      have hma : a ≤ m := by omega
      have hmb : m < b := by omega
      obtain ⟨x, bb, off, A1, n1, c1, hx, rfl, hbb, hnm, hlb, e0, e1⟩ := rRow_get HR.out (show m < n by omega)
      obtain ⟨cv, hcv⟩ : ∃ cv, Lib.compareBytes (Pl.rnm x).data.toList s.data.toList = cv := ⟨_, rfl⟩
      have CC := rowCmp_c x s A1 n1 c1 W
      rw [hcv] at CC
      have hlt : decide (cv < 0) = Pl.lessB (Pl.rnm x) s := by
        rw [← hcv, Pl.rcmp_lt]
        unfold Pl.lessB
        rw [Lib.toList_data, Lib.toList_data]
      have HX := Lib.hid hx
      have f2 : (0 : Int) ≤ (m : Nat) := by omega
      have f3 : ((m : Nat) : Int).toNat = m := by omega
      have f4 : (m : Int) < (n : Nat) := by omega
      have f5 : (m : Int) < (b : Nat) := by omega
      have f6 : (a : Int) ≤ (m : Nat) := by omega
      have f7 : IntKind.i64.wrap ((m : Int) + 1) = (m : Int) + 1 := IntWalk.i64_in _ (by omega)
      clear hx hcv hlb
      cases hls : Pl.lessB (Pl.rnm x) s with
      | true =>
        have hmp : m < p := by
          apply Classical.byContradiction
          intro hh
          have := Pl.rpos_ge s l HOK.out.2 m x (by have := HP.out; omega) HX.out
          rw [hls] at this; cases this
        have hlt2 : cv < 0 := by rw [hls] at hlt; simpa using hlt
        clear hlt hls
        go_wp2_with (go_at_call 142; (with_reducible refine CC.mono ?_); clear CC; rintro e w1 ⟨rfl, hb1⟩)
        go_roundg (b - (m + 1))
        case measure => omega
        case rel => exact ⟨m + 1, b, Nat.le_refl _, by omega, hpb, hbn, by go_num, rfl, below_step HBE.out hb1⟩
      | false =>
        have hmp : p ≤ m := by
          apply Classical.byContradiction
          intro hh
          have := Pl.rpos_lt s l m x (by have := HP.out; omega) HX.out
          rw [hls] at this; cases this
        have hlt2 : ¬ cv < 0 := by rw [hls] at hlt; simpa using hlt
        clear hlt hls
        go_wp2_with (go_at_call 142; (with_reducible refine CC.mono ?_); clear CC; rintro e w1 ⟨rfl, hb1⟩)
        go_roundg (m - a)
        case measure => omega
        case rel => exact ⟨a, m, Nat.le_refl _, hap, hmp, by omega, rfl, by go_num, below_step HBE.out hb1⟩
    · have hab2 : a = p := by omega
      subst hab2
      have f1 : ¬ (a : Int) < (b : Nat) := by omega
      by_cases han : a < n
      · obtain ⟨x, bb, off, A1, n1, c1, hx, rfl, hbb, hnm, hlb, e0, e1⟩ := rRow_get HR.out han
        obtain ⟨cv, hcv⟩ : ∃ cv, Lib.compareBytes (Pl.rnm x).data.toList s.data.toList = cv := ⟨_, rfl⟩
        have CC := rowCmp_c x s A1 n1 c1 W
        rw [hcv] at CC
        have heq : (cv == 0) = true ↔ Pl.rnm x = s := by
          rw [← hcv, beq_iff_eq, Pl.rcmp_zero]
          exact ⟨Pl.rba_ext, fun h => by rw [h]⟩
        have HX := Lib.hid hx
        have HE := Lib.hid heq
        have f2 : (0 : Int) ≤ (a : Nat) := by omega
        have f3 : ((a : Nat) : Int).toNat = a := by omega
        have f4 : (a : Int) < (n : Nat) := by omega
        clear hx hcv hlb heq
        go_wp2_with (go_at_call 142; (with_reducible refine CC.mono ?_); clear CC; rintro e w1 ⟨rfl, hb1⟩)
        go_ret2
        refine ⟨_, rfl, ?_, below_step HBE.out hb1⟩
        rw [HE.out]
        exact ⟨fun h => ⟨x, HX.out, h⟩, fun ⟨o, ho, he⟩ => by rw [HX.out] at ho; injection ho with ho; rw [ho]; exact he⟩
      · have f4 : ¬ (a : Int) < (n : Nat) := by omega
        go_wp2
        go_ret2
        exact .inl ⟨rfl, fun o ho => absurd (List.getElem?_eq_some_iff.1 ho).1 (by rw [HLN.out]; omega), HBE.out⟩
set_option maxRecDepth 100000 in
theorem find_c (l : List Row) (s : ByteArray) (A : Option Addr) (n c g off : Nat) (w : World) (B : Nat) (hl : Mm.SlAt rRow w B l A n c) (hB : B ≤ w.heap.size) (hn : n ≤ 100) (hs : Pl.RSort l) (h0 : w.cell? ⟨g, off, none⟩ = some (.slice A n c)) :
    Calls Tryz.prog 95 #[.pointer (some ⟨g, off, none⟩), .string s] w fun e w' => ∃ fd : Bool, e = .returned (.tuple #[.int .i64 (Pl.rpos s l : Nat), .bool fd]) ∧ (fd = true ↔ ∃ o, l[Pl.rpos s l]? = some o ∧ Pl.rnm o = s) ∧ Below w.heap.size w w' := by
  have C := bsRow_c l s A n c w B hl hB hn hs
  clear hl hs
  go_enter Tryz.func95, Tryz.ntmps95
  go_wp2_with (go_at_call 141; (with_reducible refine C.mono ?_); clear C; rintro e w' ⟨fd, rfl, hfd, hb⟩)
  go_ret2
  exact ⟨fd, rfl, hfd, hb⟩
end Go.Proofs.YtbhmdnjammnlnaaGreatDoor

namespace Go.Proofs.YtbhmdnjammnlnaaGreatDoor
open Go.RowKit
namespace Mm
section
variable {α : Type} {E : Rep α} {e : TypeId} {w w' : World} {xs : List α} {fp : List Nat}
theorem Chg.grow {fx : List Nat} {a b : World} (h : Chg fx a b) {k : Nat} (hk : k < a.heap.size) (hn : k ∉ fx) : b.heap[k]? = a.heap[k]? := h.block k hk hn
theorem SlOwn.swap {g n c : Nat} (h : SlOwn E e w xs (.slice (some ⟨g, 0, none⟩) n c) fp) (hnd : fp.Nodup) {i : Nat} {x : α} (hi : xs[i]? = some x) :
    ∃ cs fx, E.own w x cs fx ∧ fx.Nodup ∧ (∀ b, b ∈ fx → b ∈ fp ∧ b ≠ g) ∧ (∀ j u, cs[j]? = some u → w.cell? ⟨g, i * E.size + j, none⟩ = some u) ∧
      ∀ W x' j u fx', Chg fx w W → j < E.size → E.own W x' (cs.set j u) fx' → fx'.Nodup → (∀ b, b ∈ fx' → b ∈ fx ∨ w.heap.size ≤ b) →
        ∃ fp', SlOwn E e (W.setCell ⟨g, i * E.size + j, none⟩ u) (xs.set i x') (.slice (some ⟨g, 0, none⟩) n c) fp' ∧ fp'.Nodup ∧ (∀ b, b ∈ fp' → b ∈ fp ∨ w.heap.size ≤ b) ∧ Chg fp w (W.setCell ⟨g, i * E.size + j, none⟩ u) := by
  have hol := h.olt
  have hgm := h.mem_block
  obtain ⟨es, he, ho, rfl⟩ := h
  have hn : n = xs.length := by
    rcases ho.2 with ⟨h, _⟩ | ⟨g', cap, cur, h, _⟩
    · cases h
    · injection h
  subst hn
  have hil : i < xs.length := (List.getElem?_eq_some_iff.1 hi).1
  have hie : i < es.length := by rw [he.1]; exact hil
  have hy := List.getElem?_eq_getElem hie
  have hown := he.2 i x _ hi hy
  have hgl := hol g hgm
  simp only [Value.ownBlock, Option.toList_some, List.singleton_append, List.nodup_cons] at hnd
  have hgn : ∀ y ∈ es, g ∉ y.2 := fun y hy hg => hnd.1 (List.mem_flatMap.2 ⟨y, hy, hg⟩)
  have hsp := flat_split (·.2) hy
  have hd := hnd.2
  rw [(hsp es[i]).1] at hd
  simp only [List.nodup_append] at hd
  have hmem : ∀ b, b ∈ es[i].2 → b ∈ es.flatMap (·.2) := fun b hb => List.mem_flatMap.2 ⟨_, List.getElem_mem hie, hb⟩
  refine ⟨es[i].1, es[i].2, hown, hd.2.1.1, fun b hb => ⟨List.mem_append_right _ (hmem b hb), fun e => hgn _ (List.getElem_mem hie) (e ▸ hb)⟩, fun j u hu => ?_, fun W x' j u fx' hc hj hx' hxn hxs => ?_⟩
  · have := ho.cells (g := g) rfl (i * E.size + j) u (flatMap_get (·.1) E.size es he.len i _ j u hy hu)
    rw [add0] at this
    exact this
  · have hW : ∀ b, b ≠ g → (W.setCell ⟨g, i * E.size + j, none⟩ u).heap[b]? = W.heap[b]? := fun b hb => Below.heap_setCell _ _ _ _ hb
    have m1 : ∀ y, y ∈ es.take i → ∀ b, b ∈ y.2 → b ∉ es[i].2 := fun y hy b hb hm => hd.2.2 b (List.mem_flatMap.2 ⟨y, hy, hb⟩) b (List.mem_append_left _ hm) rfl
    have m2 : ∀ y, y ∈ es.drop (i + 1) → ∀ b, b ∈ y.2 → b ∉ es[i].2 := fun y hy b hb hm => hd.2.1.2.2 b hm b (List.mem_flatMap.2 ⟨y, hy, hb⟩) rfl
    have hgx : g ∉ fx' := fun hg => by
      rcases hxs g hg with h | h
      · exact hgn _ (List.getElem_mem hie) h
      · omega
    have hsub : ∀ b, b ∈ (es.set i (es[i].1.set j u, fx')).flatMap (·.2) → b ∈ es.flatMap (·.2) ∨ w.heap.size ≤ b := by
      intro b hb
      obtain ⟨y, hy, hb⟩ := List.mem_flatMap.1 hb
      rcases List.mem_or_eq_of_mem_set hy with h | rfl
      · exact .inl (List.mem_flatMap.2 ⟨y, h, hb⟩)
      · exact (hxs b hb).imp (hmem b) id
    have hWo : W.ownsRow 0 e E.size (.slice (some ⟨g, 0, none⟩) xs.length c) xs.length (es.flatMap (·.1)) := by
      refine ⟨ho.1, ?_⟩
      rcases ho.2 with h | ⟨g', cap, cur, hv, h1, h2, h3⟩
      · exact .inl h
      · injection hv with hA _ hcap
        injection hA with hA
        injection hA with hA
        subst hA
        subst hcap
        exact .inr ⟨g, _, cur, rfl, h1, (hc.block g hgl (hgn _ (List.getElem_mem hie))).trans h2, h3⟩
    have h1 := (hWo.stored (i * E.size + j) u).1
    have hs : setList (es.flatMap (·.1)) (i * E.size) (es[i].1.set j u) = (es.flatMap (·.1)).set (i * E.size + j) u := by
      have hlen : (es.flatMap (·.1)).length = xs.length * E.size := ho.1
      have hle : i * E.size + E.size ≤ xs.length * E.size := by
        have := Nat.mul_le_mul_right E.size (show i + 1 ≤ xs.length by omega)
        rw [Nat.add_mul] at this; omega
      have hol := E.olen hown
      apply List.ext_getElem?
      intro k
      rw [setList_get _ _ _ _ (by rw [List.length_set, hol, hlen]; exact hle), List.length_set, hol]
      by_cases hkk : i * E.size ≤ k ∧ k < i * E.size + E.size
      · rw [if_pos hkk]
        by_cases hkj : k = i * E.size + j
        · subst hkj
          rw [show i * E.size + j - i * E.size = j by omega, List.getElem?_set_self (by omega), List.getElem?_set_self (by omega)]
        · rw [List.getElem?_set_ne (by omega), List.getElem?_set_ne (by omega)]
          have hu := List.getElem?_eq_getElem (show k - i * E.size < es[i].1.length by omega)
          have := flatMap_get (·.1) E.size es he.len i _ (k - i * E.size) _ hy hu
          rw [show i * E.size + (k - i * E.size) = k by omega] at this
          rw [this, hu]
      · rw [if_neg hkk, List.getElem?_set_ne (by omega)]
    have hll := setList_elems E.size es i (es[i].1.set j u) fx' he.len (by rw [List.length_set]; exact E.olen hown) hie
    have hchg : Chg (g :: es.flatMap (·.2)) w (W.setCell ⟨g, i * E.size + j, none⟩ u) := (hc.more fun b hb => List.mem_cons_of_mem _ (hmem b hb)).setCell (by simp) u
    refine ⟨_, ⟨es.set i (es[i].1.set j u, fx'), ⟨by rw [List.length_set, List.length_set, he.1], fun k y z hy hz => ?_⟩, ?_, rfl⟩, ?_, ?_, hchg⟩
    · by_cases hki : i = k
      · subst hki
        rw [List.getElem?_set_self hie] at hz
        rw [List.getElem?_set_self hil] at hy
        injection hy with hy; injection hz with hz
        subst hy; subst hz
        exact E.okeep hx' fun b hb => hW b (fun e => hgx (e ▸ hb))
      · rw [List.getElem?_set_ne hki] at hz hy
        have hk := he.2 k y z hy hz
        refine E.okeep hk fun b hb => (hW b (fun e => hgn z (List.mem_of_getElem? hz) (e ▸ hb))).trans (hc.block b (E.olt hk b hb) ?_)
        rcases Nat.lt_or_gt_of_ne hki with h | h
        · refine m2 z (List.mem_of_getElem? (i := k - (i + 1)) ?_) b hb
          rw [List.getElem?_drop, show i + 1 + (k - (i + 1)) = k by omega]
          exact hz
        · refine m1 z (List.mem_of_getElem? (i := k) ?_) b hb
          rw [List.getElem?_take, if_pos h]
          exact hz
    · rw [List.length_set, ← hll, hs]; exact h1
    · simp only [Value.ownBlock, Option.toList_some, List.singleton_append, List.nodup_cons]
      refine ⟨fun hg => ?_, ?_⟩
      · rcases hsub g hg with h | h
        · exact hnd.1 h
        · omega
      rw [(hsp (es[i].1.set j u, fx')).2]
      simp only [List.nodup_append]
      have hL : ∀ b, b ∈ es.flatMap (·.2) → b < w.heap.size := fun b hb => hol b (List.mem_append_right _ hb)
      rw [(hsp es[i]).1] at hL
      refine ⟨hd.1, ⟨hxn, hd.2.1.2.1, fun a ha b hb hab => ?_⟩, fun a ha b hb hab => ?_⟩
      · subst hab
        rcases hxs a ha with h | h
        · exact hd.2.1.2.2 a h a hb rfl
        · have := hL a (List.mem_append_right _ (List.mem_append_right _ hb)); omega
      · subst hab
        rcases List.mem_append.1 hb with hb | hb
        · rcases hxs a hb with h | h
          · exact hd.2.2 a ha a (List.mem_append_left _ h) rfl
          · have := hL a (List.mem_append_left _ ha); omega
        · exact hd.2.2 a ha a (List.mem_append_right _ hb) rfl
    · intro b hb
      rcases List.mem_append.1 hb with hb | hb
      · exact .inl (List.mem_append_left _ hb)
      · exact (hsub b hb).imp (List.mem_append_right _) id
theorem SepF.swap {F : List Nat} {w0 wr : World} {ts : List Thing} {g n c k : Nat} {x : α} (h : SepF F w0 wr ts) (i : Nat) (hi : ts[i]? = some (tsl E e xs (.slice (some ⟨g, 0, none⟩) n c) fp)) (hk : xs[k]? = some x) :
    ∃ cs fx, E.own wr x cs fx ∧ fx.Nodup ∧ (∀ b, b ∈ fx → b ∈ fp ∧ b ≠ g) ∧ (∀ j u, cs[j]? = some u → wr.cell? ⟨g, k * E.size + j, none⟩ = some u) ∧
      ∀ W x' j u fx', Chg fx wr W → j < E.size → E.own W x' (cs.set j u) fx' → fx'.Nodup → (∀ b, b ∈ fx' → b ∈ fx ∨ wr.heap.size ≤ b) →
        ∃ fp', SepF F w0 (W.setCell ⟨g, k * E.size + j, none⟩ u) (ts.set i (tsl E e (xs.set k x') (.slice (some ⟨g, 0, none⟩) n c) fp')) := by
  have h1 : SlOwn E e wr xs (.slice (some ⟨g, 0, none⟩) n c) fp := h.at_ i hi
  obtain ⟨cs, fx, k1, k2, k3, k4, k5⟩ := h1.swap (h.ndat hi) hk
  refine ⟨cs, fx, k1, k2, k3, k4, fun W x' j u fx' m1 m2 m3 m4 m5 => ?_⟩
  obtain ⟨fp', p1, p2, p3, p4⟩ := k5 W x' j u fx' m1 m2 m3 m4 m5
  exact ⟨fp', h.upd hi p4 p1 p2 p3⟩
end
end Mm
end Go.Proofs.YtbhmdnjammnlnaaGreatDoor

namespace Go.Proofs.YtbhmdnjammnlnaaGreatDoor
open Go.RowKit
theorem Mm.setCell_same {w : World} {g k : Nat} {t : TypeId} {cs : List Value} {v : Value} (h : Mm.Blk w g t cs) (hk : w.cell? ⟨g, k, none⟩ = some v) : w.setCell ⟨g, k, none⟩ v = w := by
  unfold Mm.Blk at h
  unfold World.cell? at hk
  rw [h] at hk
  rw [setCell_eq_setRow w g k cs.toArray t (0, 0) v h]
  have hk2 : cs[k]? = some v := by simpa using hk
  have e : cs.toArray.setIfInBounds k v = cs.toArray := by
    apply Array.toList_inj.1
    rw [Array.toList_setIfInBounds]
    apply List.ext_getElem?
    intro i
    by_cases hi : k = i
    · subst hi
      rw [List.getElem?_set_self (by simpa using (List.getElem?_eq_some_iff.1 hk2).1)]
      exact hk2.symm
    · rw [List.getElem?_set_ne hi]
  rw [e, setRow_self w g cs.toArray t (0, 0) h]
theorem Mm.SlOwn.blkOf {α : Type} {E : Mm.Rep α} {e : TypeId} {w : World} {xs : List α} {g n c : Nat} {fp : List Nat} (h : Mm.SlOwn E e w xs (.slice (some ⟨g, 0, none⟩) n c) fp) : ∃ cur, Mm.Blk w g e cur := by
  obtain ⟨es, he, ho, rfl⟩ := h
  rcases ho.2 with ⟨h, _⟩ | ⟨g', cap, cur, h, _, hg, _⟩
  · cases h
  · injection h with h _ _
    injection h with h
    injection h with h _
    subst h
    exact ⟨cur.toList, by unfold Mm.Blk; rw [Array.toArray_toList]; exact hg⟩
theorem Mm.SepF.headRows {F : List Nat} {w0 wr : World} {ts : List Mm.Thing} {xs : List Head} {g n c k : Nat} {x : Head} {fp : List Nat} (h : Mm.SepF F w0 wr ts) (i : Nat) (hi : ts[i]? = some (Mm.tsl rHead 73 xs (.slice (some ⟨g, 0, none⟩) n c) fp)) (hk : xs[k]? = some x) :
    ∃ A m d fx, wr.cell? ⟨g, k * 2, none⟩ = some (.slice A m d) ∧ wr.cell? ⟨g, k * 2 + 1, none⟩ = some (.int .i64 x.Offset) ∧ m = x.Rows.length ∧ Mm.SlOwn rRow 139 wr x.Rows (.slice A m d) fx ∧ fx.Nodup ∧ (∀ b, b ∈ fx → b ∈ fp ∧ b ≠ g) ∧ Mm.I64 x.Offset ∧
      (∀ W l A' m' d' fx', Mm.SepF fx wr W [Mm.tsl rRow 139 l (.slice A' m' d') fx'] →
        ∃ fp', Mm.SepF F w0 (W.setCell ⟨g, k * 2, none⟩ (.slice A' m' d')) (ts.set i (Mm.tsl rHead 73 (xs.set k ⟨l, x.Offset⟩) (.slice (some ⟨g, 0, none⟩) n c) fp'))) ∧
      (∀ W l fx', Mm.SepF fx wr W [Mm.tsl rRow 139 l (.slice A m d) fx'] →
        ∃ fp', Mm.SepF F w0 W (ts.set i (Mm.tsl rHead 73 (xs.set k ⟨l, x.Offset⟩) (.slice (some ⟨g, 0, none⟩) n c) fp'))) := by
  obtain ⟨cur, hcur⟩ := (h.sl i hi).blkOf
  have hgl : g < wr.heap.size := hcur.lt
  obtain ⟨cs, fx, hown, hfn, hfs, hc, hnext⟩ := h.swap i hi hk
  obtain ⟨A, m, d, f, rfl, rfl, h0, h1⟩ := rHead_own hown
  obtain ⟨A1, n1, c1, hv, hm, _⟩ := h0.form
  injection hv with _ hv2 _
  have main : ∀ W l A' m' d' fx', Mm.SepF fx wr W [Mm.tsl rRow 139 l (.slice A' m' d') fx'] →
        ∃ fp', Mm.SepF F w0 (W.setCell ⟨g, k * 2, none⟩ (.slice A' m' d')) (ts.set i (Mm.tsl rHead 73 (xs.set k ⟨l, x.Offset⟩) (.slice (some ⟨g, 0, none⟩) n c) fp')) := fun W l A' m' d' fx' hS => by
    refine hnext W ⟨l, x.Offset⟩ 0 (.slice A' m' d') fx' hS.chg (by decide) ?_ (hS.ndat (i := 0) rfl) (fun b hb => hS.new b (Mm.SepF.mem (i := 0) rfl hb))
    exact rHead_own_mk (x := ⟨l, x.Offset⟩) (hS.sl 0 rfl) h1
  refine ⟨A, m, d, fx, hc 0 _ rfl, hc 1 _ rfl, by omega, h0, hfn, hfs, h1, main, fun W l fx' hS => ?_⟩
  obtain ⟨fp', hS2⟩ := main W l A m d fx' hS
  have hgn : g ∉ fx := fun hh => (hfs g hh).2 rfl
  have hW : Mm.Blk W g 73 cur := hcur.keep (hS.chg.block g hgl hgn)
  have hce : W.cell? ⟨g, k * 2, none⟩ = some (.slice A m d) := (World.cell?_of_block (hS.chg.block g hgl hgn)).trans (hc 0 _ rfl)
  rw [Mm.setCell_same hW hce] at hS2
  exact ⟨fp', hS2⟩
theorem Mm.SepF.headOff {F : List Nat} {w0 wr : World} {ts : List Mm.Thing} {xs : List Head} {g n c k : Nat} {x : Head} {fp : List Nat} {v : Int} (h : Mm.SepF F w0 wr ts) (i : Nat) (hi : ts[i]? = some (Mm.tsl rHead 73 xs (.slice (some ⟨g, 0, none⟩) n c) fp)) (hk : xs[k]? = some x) (hv : Mm.I64 v) :
    Mm.SepF F w0 (wr.setCell ⟨g, k * 2 + 1, none⟩ (.int .i64 v)) (ts.set i (Mm.tsl rHead 73 (xs.set k ⟨x.Rows, v⟩) (.slice (some ⟨g, 0, none⟩) n c) fp)) := by
  have h9 := h.putSl (x' := (⟨x.Rows, v⟩ : Head)) (u := .int .i64 v) (m := 1) i hi hk (by decide) (fun cs fx ho => by
    obtain ⟨A, m, d, f, rfl, rfl, h0, h1⟩ := rHead_own ho
    exact rHead_own_mk (x := ⟨x.Rows, v⟩) h0 hv)
  exact h9
theorem Mm.SepF.rowSam {F : List Nat} {w0 wr : World} {ts : List Mm.Thing} {xs : List Row} {g n c k : Nat} {x : Row} {fp : List Nat} (h : Mm.SepF F w0 wr ts) (i : Nat) (hi : ts[i]? = some (Mm.tsl rRow 139 xs (.slice (some ⟨g, 0, none⟩) n c) fp)) (hk : xs[k]? = some x) :
    ∃ A m d fx, wr.cell? ⟨g, k * 2, none⟩ = some (.string x.Name) ∧ wr.cell? ⟨g, k * 2 + 1, none⟩ = some (.slice A m d) ∧ m = x.Samples.length ∧ Mm.SlOwn smp 124 wr x.Samples (.slice A m d) fx ∧ fx.Nodup ∧ (∀ b, b ∈ fx → b ∈ fp ∧ b ≠ g) ∧
      ∀ W l A' m' d' fx', Mm.SepF fx wr W [Mm.tsl smp 124 l (.slice A' m' d') fx'] →
        ∃ fp', Mm.SepF F w0 (W.setCell ⟨g, k * 2 + 1, none⟩ (.slice A' m' d')) (ts.set i (Mm.tsl rRow 139 (xs.set k ⟨x.Name, l⟩) (.slice (some ⟨g, 0, none⟩) n c) fp')) := by
  obtain ⟨cs, fx, hown, hfn, hfs, hc, hnext⟩ := h.swap i hi hk
  obtain ⟨A, m, d, f, rfl, rfl, h0, h1⟩ := rRow_own hown
  obtain ⟨A1, n1, c1, hv, hm, _⟩ := h1.form
  injection hv with _ hv2 _
  refine ⟨A, m, d, fx, hc 0 _ rfl, hc 1 _ rfl, by omega, h1, hfn, hfs, fun W l A' m' d' fx' hS => ?_⟩
  refine hnext W ⟨x.Name, l⟩ 1 (.slice A' m' d') fx' hS.chg (by decide) ?_ (hS.ndat (i := 0) rfl) (fun b hb => hS.new b (Mm.SepF.mem (i := 0) rfl hb))
  exact rRow_own_mk (x := ⟨x.Name, l⟩) h0 (hS.sl 0 rfl)
theorem Mm.SepF.headOne {F : List Nat} {w0 wr : World} {ts : List Mm.Thing} {g : Nat} {x : Head} {fp : List Nat} (h : Mm.SepF F w0 wr (Mm.tptr rHead 73 g x fp :: ts)) : Mm.SepF F w0 wr (Mm.tsl rHead 73 [x] (.slice (some ⟨g, 0, none⟩) 1 1) (g :: fp) :: ts) := by
  refine h.conv (List.Perm.refl _) (List.forall_mem_cons.2 ⟨?_, fun u hu => h.hold u (List.mem_cons_of_mem _ hu)⟩)
  obtain ⟨cs, h1, h2⟩ : ∃ cs, Mm.Blk wr g 73 cs ∧ rHead.own wr x cs fp := h.at_ 0 rfl
  have hl : cs.length = 2 := rHead.olen h2
  refine ⟨[(cs, fp)], ⟨rfl, fun i a b ha hb => ?_⟩, ?_, by simp [Value.ownBlock]⟩
  · cases i with
    | zero => simp at ha hb; subst ha; subst hb; exact h2
    | succ i => simp at ha
  · refine ⟨by simp [hl]; rfl, .inr ⟨g, 1, cs.toArray, rfl, Nat.zero_le _, h1, Nat.le_refl _, by unfold maxLen; omega, by simp [hl]; rfl, ?_⟩⟩
    simp only [List.length_singleton, List.flatMap_cons, List.flatMap_nil, List.append_nil]
    exact List.take_of_length_le (by rw [hl]; exact Nat.le_refl _)
theorem Mm.SepF.headPtr {F : List Nat} {w0 wr : World} {ts : List Mm.Thing} {g : Nat} {x : Head} {fp : List Nat} (h : Mm.SepF F w0 wr (Mm.tsl rHead 73 [x] (.slice (some ⟨g, 0, none⟩) 1 1) fp :: ts)) : ∃ fp', Mm.SepF F w0 wr (Mm.tptr rHead 73 g x fp' :: ts) := by
  obtain ⟨es, he, ho, hfp⟩ : Mm.SlOwn rHead 73 wr [x] (.slice (some ⟨g, 0, none⟩) 1 1) fp := h.at_ 0 rfl
  have hl1 : es.length = 1 := he.1
  obtain ⟨y, rfl⟩ := List.length_eq_one_iff.1 hl1
  have hy := he.2 0 x y rfl rfl
  have hl : y.1.length = 2 := rHead.olen hy
  simp [Value.ownBlock] at hfp
  refine ⟨y.2, h.conv (by simp [Mm.tptr, Mm.tsl, hfp]) (List.forall_mem_cons.2 ⟨⟨y.1, ?_, hy⟩, fun u hu => h.hold u (List.mem_cons_of_mem _ hu)⟩)⟩
  rcases ho.2 with ⟨hv, _⟩ | ⟨g', cap, cur, hv, _, hg, _, _, hcs, hct⟩
  · cases hv
  · injection hv with e1 e2 e3
    injection e1 with e1
    injection e1 with e1
    subst e1 e3
    have hc2 : cur.toList.length = 2 := by rw [Array.length_toList, hcs]; rfl
    simp only [List.length_singleton, List.flatMap_cons, List.flatMap_nil, List.append_nil] at hct
    have : cur.toList = y.1 := by rw [← hct]; exact (List.take_of_length_le (by rw [hc2]; exact Nat.le_refl _)).symm
    unfold Mm.Blk
    rw [← this, Array.toArray_toList]
    exact hg
end Go.Proofs.YtbhmdnjammnlnaaGreatDoor

namespace Go.Proofs.YtbhmdnjammnlnaaGreatDoor
open Go.RowKit
namespace Mm
section
variable {P : Program} {F : List Nat} {w : World} {N : Nat} {ops : Array Oper} {D : World → Prop} {rel : Nat → Option Rel} {takes : Nat → List Nat} {Q : Act → Sig → Prop} {i : Nat} {o : Oper} {rest : List Oper} {a : Act} {σ : Sig}
def GvQn (F : List Nat) (w : World) (r : List Thing → Prop) (df : List Deferred) (rest : List Thing) (x : Exit) (a' : Act) (w' : World) : Prop :=
  x = .normal ∧ a'.defers = df ∧ ∃ ds, r ds ∧ SepF F w w' (ds ++ rest)
theorem gvalid_none {r : Value → List Thing → Prop} {r' : List Thing → Prop} (hr : ∀ u ds, r' ds → r u ds) (hd : o.dst = none) (hw : Region.wanted o (yielded ops a.tmps) = true) (hi : i ≤ N) (hn : (takes i).Nodup) (hk : ∀ k ∈ takes i, k ≤ N)
    (h : ∀ others X, SepF F w X ((takes i).flatMap σ ++ others) → wpList P ops (GvQn F w r' a.defers others) [o] a X) : GValid P (GC F w N) takes i o a σ r := by
  intro σ' X hC hag
  have e4 : (takes i).flatMap σ' = (takes i).flatMap σ := by
    rw [List.flatMap_def, List.flatMap_def]; exact congrArg List.flatten (List.map_congr_left hag)
  have h0 : SepF F w X (sigAll N σ') := hC
  have h1 := h0.sigTake hn hk
  rw [e4] at h1
  have h2 := h _ X h1
  have fin : ∀ u w', GvQn F w r' a.defers (sigAll N (sigUpd takes σ' i [])) .normal (a.put o.dst u) w' → ∃ ds, r u ds ∧ GC F w N (sigUpd takes σ' i ds) w' := fun u w' ⟨_, _, ds, h3, h4⟩ =>
    ⟨ds, hr u ds h3, h4.permE (sigAll_upd hi)⟩
  unfold wpList at h2
  rw [if_pos hw] at h2
  have h3 : o.wp P a X (fun a' w' => GvQn F w r' a.defers (sigAll N (sigUpd takes σ' i [])) .normal a' w') (GvQn F w r' a.defers (sigAll N (sigUpd takes σ' i []))) := by
    first
      | exact h2
      | exact h2.elim id fun h => by obtain ⟨_, a', w', h, _⟩ := h; cases h
  unfold Oper.wp at h3
  generalize (execOp a.eval o).run P X = R at *
  cases R with
  | ok n w' =>
    cases n <;> simp only [Oper.upon] at h3 <;> simp only [ups] <;> first | exact fin _ _ h3 | skip
    · refine h3.mono fun e w'' he => ?_
      cases e with
      | returned v => exact ⟨v, rfl, fin _ _ he⟩
      | panicked c => exact absurd he.1 (by simp)
      | outgrown => obtain ⟨a', w', h, _⟩ := he; cases h
    · have := h3.2.1
      rw [hd] at this
      exact absurd this (by simp [Act.put])
    · exact Rows.mono h3 fun v w'' he => fin _ _ he
  | halt x w' => cases x <;> simp only [Oper.upon] at h3; exact absurd h3.1 (by simp)
def gSto (T : TypeId) : Rel := fun vals _ _ ds => ∃ g cs, vals = [.pointer (some ⟨g, 0, none⟩), .agg cs.toArray] ∧ ds = [tblk g T cs]
theorem give_store (T : TypeId) (g : Nat) (cs0 cs : List Value) (k : Nat) (hw : Region.wanted o (yielded ops a.tmps) = true) (hr : rel i = some (gSto T)) (hd : o.dst = none) (hi : Nat.ble i N = true) (ht : takes i = [k]) (hk : Nat.ble k N = true)
    (htk : σ k = [tblk g T cs0]) (hv : o.op.operands.toList.map a.eval = [.pointer (some ⟨g, 0, none⟩), .agg cs.toArray])
    (h : ∀ others X, SepF F w X (tblk g T cs0 :: others) → wpList P ops (GvQn F w (fun ds => ds = [tblk g T cs]) a.defers others) [o] a X)
    (hnext : wpGive P ops (GC F w N) D rel takes Q (i + 1) rest a (sigUpd takes σ i [tblk g T cs])) : wpGive P ops (GC F w N) D rel takes Q i (o :: rest) a σ := by
  have e : (takes i).flatMap σ = [tblk g T cs0] := by rw [ht, ← htk]; simp
  refine give_rel hw hr (gvalid_none (r' := fun ds => ds = [tblk g T cs]) (fun u ds h => ?_) hd hw (Nat.le_of_ble_eq_true hi) (by rw [ht]; simp) (by rw [ht]; intro x hx; rw [List.mem_singleton.1 hx]; exact Nat.le_of_ble_eq_true hk) ?_) ?_ ?_
  · exact ⟨g, cs, hv, h⟩
  · rw [e]; exact h
  · exact ⟨undef, _, g, cs, hv, rfl⟩
  · rintro v ds ⟨g', cs', hv', rfl⟩
    have h1 := hv.symm.trans hv'
    injection h1 with h2 h3
    injection h3 with h4 _
    injection h2 with h5
    injection h5 with h6
    injection h6 with h7
    injection h4 with h8
    have h9 : cs = cs' := by simpa using congrArg Array.toList h8
    subst h7 h9
    rw [hd]
    exact hnext
end
end Mm
end Go.Proofs.YtbhmdnjammnlnaaGreatDoor

namespace Go.Proofs.YtbhmdnjammnlnaaGreatDoor
open Go.RowKit
attribute [local go_sem] und_cell cha_cell World.cell?_alloc_some
theorem insRowT_c {F : List Nat} {w0 W : World} {ts : List Mm.Thing} {i j n c vb k : Nat} {A : Option Addr} {xs : List Row} {s : ByteArray} {fp : List Nat} (h : Mm.SepF F w0 W ts) (hij : i ≠ j) (hi : ts[i]? = some (Mm.tsl rRow 139 xs (.slice A n c) fp)) (hj : ts[j]? = some (Mm.tblk vb 139 [.string s, .slice none 0 0])) (hk : k ≤ n) (hn : n ≤ 1000) (hs : s.size ≤ maxLen) :
    Calls Tryz.prog 172 #[.slice A n c, .int .i64 k, .slice (some ⟨vb, 0, none⟩) 1 1] W fun e w' => ∃ A' n' c' fp', e = .returned (.slice A' n' c') ∧ n' = n + 1 ∧ Mm.SepF F w0 w' (ts.set i (Mm.tsl rRow 139 (Mm.insertAt xs k ⟨s, []⟩) (.slice A' n' c') fp')) := by
  have hb : Mm.Blk W vb 139 [.string s, .slice none 0 0] := h.at_ j hj
  have hso : Mm.SlOwn rRow 139 W xs (.slice A n c) fp := h.at_ i hi
  have hxl : xs.length = n := by obtain ⟨_, _, _, hv, q1, _⟩ := hso.form; injection hv with _ q2 _; exact (q2.trans q1).symm
  have h1 := h.add (Below.refl _ _) (t := Mm.tnil) trivial List.nodup_nil (fun b hb => by cases hb)
  obtain ⟨lc, ho, h1c, hnext⟩ := h1.insert (i + 1) 0 (by omega) (k := k) hi (by omega) rfl (Below.refl _ _) (x := ⟨s, []⟩) (cx := [.string s, .slice none 0 0]) (fun W _ => rRow_own_mk (x := ⟨s, []⟩) hs Mm.SlOwn.nil)
  rw [hxl] at ho hnext
  refine (insRow_c lc [.string s, .slice none 0 0] n k vb A c W ho hk hn rfl (fun j u hj => hb.cell hj) (by simp [Value.oneCell']) h1c (fun g hg => ?_) (Mm.shape_blk hb) (fun j => hb.frozen _) hb.lt).mono ?_
  · subst hg
    intro e
    exact h.apart hi hj hij vb (by show vb ∈ fp; rw [e]; exact hso.mem_block) (by simp [Mm.tblk])
  · rintro e w' ⟨A', n', c', rfl, hrow, hgrow, hat⟩
    obtain ⟨fp', hs7⟩ := hnext _ w' (by rw [List.append_assoc]; exact hrow) hgrow (hat.imp id (fun h g hg => by rw [h] at hg; injection hg with hg; omega))
    have hS : Mm.SepF F w0 w' (ts.set i (Mm.tsl rRow 139 (Mm.insertAt xs k ⟨s, []⟩) (.slice A' n' c') fp')) := by
      have h9 := hs7
      rw [List.set_cons_zero, List.set_cons_succ] at h9
      exact h9.tail
    have hlt : i < ts.length := (List.getElem?_eq_some_iff.1 hi).1
    obtain ⟨_, _, _, hv, q1, _⟩ := (hS.sl i (List.getElem?_set_self hlt)).form
    injection hv with _ q2 _
    exact ⟨A', n', c', fp', rfl, by rw [q2, q1, Mm.insertAt_len, hxl], hS⟩
end Go.Proofs.YtbhmdnjammnlnaaGreatDoor

namespace Go.Proofs.YtbhmdnjammnlnaaGreatDoor
open Go.RowKit
attribute [local go_sem] und_cell cha_cell World.cell?_alloc_some
theorem Tryz.infoSmpK : (Tryz.prog.info? 124).map (fun i => (i.zero, i.size, i.bytes)) = some (some (.agg #[.int .i64 0, .int .i64 0]), 2, 16) := by kernel_rfl
theorem Mm.insertAt_self {α : Type} {l : List α} {k : Nat} (x : α) (hk : k ≤ l.length) : (Mm.insertAt l k x)[k]? = some x := by
  unfold Mm.insertAt
  rw [List.getElem?_append_right (by rw [List.length_take]; omega), List.length_take, Nat.min_eq_left hk, Nat.sub_self]
  rfl
theorem Mm.insertAt_set {α : Type} {l : List α} {k : Nat} (x y : α) (hk : k ≤ l.length) : (Mm.insertAt l k x).set k y = Mm.insertAt l k y := by
  unfold Mm.insertAt
  rw [List.set_append_right _ _ (by rw [List.length_take]; omega), List.length_take, Nat.min_eq_left hk, Nat.sub_self]
  rfl
structure TakeIn (x : Say) (xs : List Head) (n k : Nat) (h : Head) : Prop where
  hk : xs[k]? = some h
  hw : Pl.HW h
  off : 0 ≤ h.Offset ∧ h.Offset ≤ 1000000
  hn : n ≤ 1000
  nm : x.Name.size ≤ maxLen
  at_ : Mm.I64 x.At
  val : Mm.I64 x.Value
def TakeAns (x : Say) (xs : List Head) (g n c k : Nat) (h : Head) (fp : List Nat) (w : World) (e : Ending) (w' : World) : Prop :=
  e = .returned (.int .i64 (Pl.takeS h x).2) ∧ ∃ fp', Mm.SepF fp w w' [Mm.tsl rHead 73 (xs.set k (Pl.takeS h x).1) (.slice (some ⟨g, 0, none⟩) n c) fp']
set_option maxRecDepth 100000 in
set_option maxHeartbeats 4000000 in
theorem take_c (x : Say) (xs : List Head) (g n c k : Nat) (fp : List Nat) (h : Head) (w : World) (hs : Mm.SlOwn rHead 73 w xs (.slice (some ⟨g, 0, none⟩) n c) fp) (hnd : fp.Nodup) (hin : TakeIn x xs n k h) :
    Calls Tryz.prog 139 #[.pointer (some ⟨g, k * 2, none⟩), .agg #[.string x.Name, .int .i64 x.At, .int .i64 x.Value]] w (TakeAns x xs g n c k h fp w) := by
  have HS0 : Hid (Mm.SepF fp w w [Mm.tsl rHead 73 xs (.slice (some ⟨g, 0, none⟩) n c) fp]) := Mm.SepF.one (Mm.tsl rHead 73 xs (.slice (some ⟨g, 0, none⟩) n c) fp) w hs hnd
  have HIN := Lib.hid hin
  have HXL : Hid (k < xs.length) := (List.getElem?_eq_some_iff.1 hin.hk).1
  have hf0 := hin.off.1
  have hf1 := hin.off.2
  have HI := Lib.hid (show Mm.I64 x.At ∧ Mm.I64 x.Value from ⟨hin.at_, hin.val⟩)
  clear hs hnd hin
  obtain ⟨gs, hgs⟩ : ∃ gs, w.heap.size = gs := ⟨_, rfl⟩
  obtain ⟨W1, hW1⟩ : ∃ W1, w.alloc (.cells #[.string x.Name, .int .i64 x.At, .int .i64 x.Value] 55) = W1 := ⟨_, rfl⟩
  have HS1 := Lib.hid ((HS0.out.alloc' hgs 55 [.string x.Name, .int .i64 x.At, .int .i64 x.Value]).atW hW1)
  go_enter Tryz.func139, Tryz.ntmps139
  go_upto_region 1 with fail
  clear hW1 hgs HS0
  obtain ⟨A, m, d, fx, e0, e1, -, -, -, -, hio, -, -⟩ := HS1.out.headRows 1 rfl HIN.out.hk
  have z1 := (HS1.out.sl 1 rfl).frozen (k * 2 + 1)
  obtain ⟨o1, ho1⟩ : ∃ o1, h.Offset + 1 = o1 := ⟨_, rfl⟩
  have f1 : IntKind.i64.wrap (h.Offset + 1) = o1 := by rw [IntWalk.i64_in _ (by omega)]; exact ho1
  have hI1 : Mm.I64 o1 := by unfold Mm.I64; omega
  go_upto_region 2 with fail
  obtain ⟨W2, hW2⟩ : ∃ W2, W1.setCell ⟨g, k * 2 + 1, none⟩ (.int .i64 o1) = W2 := ⟨_, rfl⟩
  have HS2 := Lib.hid ((HS1.out.headOff 1 rfl HIN.out.hk hI1).atW hW2)
  rw [hW2]
  have HO1 := Lib.hid ho1
  have HK1 : Hid ((xs.set k ⟨h.Rows, o1⟩)[k]? = some ⟨h.Rows, o1⟩) := Lib.hid (List.getElem?_set_self HXL.out)
  clear hW2 HS1 z1 e0 e1 f1 ho1 hI1 hio A m d fx
  obtain ⟨A, m, d, fx, e0, -, hml, hso, -, -, -, -, -⟩ := HS2.out.headRows 1 rfl HK1.out
  obtain ⟨p, hp⟩ : ∃ p, Pl.rpos x.Name h.Rows = p := ⟨_, rfl⟩
  have hpm : p ≤ m := by rw [hml, ← hp]; exact Pl.rpos_le _ _
  have HML : Hid (m = h.Rows.length) := hml
  have hm8 : m ≤ 8 := by rw [hml]; exact HIN.out.hw.len
  have CF := find_c h.Rows x.Name A m d g (k * 2) W2 W2.heap.size (hso.weak hso.olt) (Nat.le_refl _) (by omega) HIN.out.hw.srt e0
  rw [hp] at CF
  have HP := Lib.hid hp
  have s0 := HS2.out.cell (k := 0) 0 rfl rfl
  clear hml hso hp
  go_upto_region 3 with (go_at_call 95; (with_reducible refine CF.mono ?_); clear CF; rintro e w3 ⟨fd, rfl, hfd, hb3⟩; (have HS3 := Lib.hid (HS2.out.step hb3)); (have HFD := Lib.hid hfd); clear hb3 s0 e0 hfd)
  clear HS2
  cases fd with
  | false =>
    have HMS : Hid (Pl.takeS h x = Pl.missS h p x) := Lib.hid (by rw [← HP.out]; exact Pl.takeS_miss (fun o ho he => by rw [HP.out] at ho; exact absurd (HFD.out.2 ⟨o, ho, he⟩) (by simp)))
    obtain ⟨A', m', d', fx', e0, e1, hml, hso, hfn, hfx, hio, hst, -⟩ := HS3.out.headRows 1 rfl HK1.out
    obtain rfl : m = m' := HML.out.trans (show m' = h.Rows.length from hml).symm
    clear hml
    by_cases h8 : m = 8
    · as_aux_lemma =>
      have HF : Hid (Pl.takeS h x = (⟨h.Rows, o1⟩, 4)) := Lib.hid (by rw [HMS.out, ← HO1.out]; exact if_pos (by have := HML.out; omega))
      have f8 : ((m : Int) == 8) = true := by rw [h8]; rfl
      clear hso hst hfn hfx hio e1
      go_wp2
      go_ret
      exact ⟨ret_int (by rw [HF.out]), _, by rw [HF.out]; exact HS3.out.sel [1] (by decide) rfl⟩
    · as_aux_lemma =>
      have HF : Hid (Pl.takeS h x = (⟨Mm.insertAt h.Rows p ⟨x.Name, [⟨x.At, x.Value⟩]⟩, o1⟩, 1)) := Lib.hid (by rw [HMS.out, ← HO1.out]; exact if_neg (by have := HML.out; omega))
      have f8 : ((m : Int) == 8) = false := by rw [beq_eq_false_iff_ne]; omega
      go_upto_region 6 with fail
      have n0' : g ∉ fx' := fun hh => (hfx _ hh).2 rfl
      have n1' : gs ∉ fx' := fun hh => HS3.out.apart (i := 0) (j := 1) rfl rfl (by decide) gs (by simp [Mm.tblk]) (hfx _ hh).1
      have s0 := HS3.out.cell (k := 0) 0 rfl rfl
      have hlt0 : g < w3.heap.size := (HS3.out.sl 1 rfl).olt g (HS3.out.sl 1 rfl).mem_block
      have z3 := (HS3.out.sl 1 rfl).frozen (k * 2)
      have HGO := Lib.hid (And.intro hso hfn)
      have HNX := Lib.hid hst
      have ec := e0
      clear hso hfn hst hfx hio e1
      refine Mm.wp_region_give 13 (fun i => match i with | 9 => some (Mm.gBs 139 [.string x.Name, .slice none 0 0]) | 10 => some (Mm.gSl rRow 139 (Mm.insertAt h.Rows p ⟨x.Name, []⟩)) | _ => none) (fun i => match i with | 10 => [9, 14] | _ => []) (fun i => match i with | 14 => [Mm.tsl rRow 139 h.Rows (.slice A' m d') fx'] | _ => []) (F := fx') (D := fun w' => ∃ z : Cha fx' w3, w' = cha fx' w3 z) (fun X us h => Mm.sep_cha h) (by kernel_rfl) (by kernel_rfl) (by kernel_rfl) (Mm.sep_eq ((Mm.SepF.one (Mm.tsl rRow 139 h.Rows (.slice A' m d') fx') w3 HGO.out.1 HGO.out.2).step (Below.refl _ _).drew) rfl) ?_
      repeat (refine Mm.give_det (by rfl) (by rfl) (by rfl) (fun K hK => ?_); go_big_quiet_op; refine hK _ ?_; clear hK K)
      refine Mm.give_op0 41 (by rfl) rfl (by rfl) (by rfl) (by rfl) (by rfl) Mm.gBs_in (fun others X6 hX6 => ?_) ?_
      · go_wp2
        exact Mm.gvq_bs hX6 rfl rfl rfl
      rintro v ds ⟨gb, rfl, rfl⟩
      simp only [Act.put, List.setIfInBounds_toArray, List.set_cons_succ, List.set_cons_zero]
      refine Mm.give_op2 42 9 14 (by rfl) rfl (by rfl) (by rfl) (by rfl) rfl (by rfl) (by rfl) (by rfl) _ _ rfl rfl Mm.gSl_in (fun others X6 hX6 => ?_) ?_
      · go_wp2_with (go_at_call 172; (with_reducible refine (insRowT_c (i := 1) (j := 0) hX6 (by decide) rfl rfl hpm (by omega) HIN.out.nm).mono ?_); rintro e w5 ⟨A5, n5, c5, fp5, rfl, rfl, hS5⟩)
        exact ⟨rfl, rfl, _, ⟨_, _, _, fp5, rfl, rfl, Lib.hid (by rw [Mm.insertAt_len]; have := HML.out; omega)⟩, (hS5.tail)⟩
      rintro v ds ⟨A6, n6, c6, f6, rfl, rfl, hn6⟩
      simp only [Act.put, List.setIfInBounds_toArray, List.set_cons_succ, List.set_cons_zero]
      repeat (refine Mm.give_det (by rfl) (by rfl) (by rfl) (fun K hK => ?_); go_big_quiet_op; refine hK _ ?_; clear hK K)
      refine Mm.give_nil ?_
      rintro X6 hX6
      have hx6 : Mm.SepF fx' w3 X6 [Mm.tsl rRow 139 (Mm.insertAt h.Rows p ⟨x.Name, []⟩) (.slice A6 n6 c6) f6] := Mm.sep_eq hX6 rfl
      obtain ⟨fp7, hs7⟩ := HNX.out X6 _ _ _ _ _ hx6
      have ec6 : X6.cell? ⟨g, k * 2, none⟩ = some (.slice A' m d') := (World.cell?_of_block (hx6.chg.block g hlt0 n0')).trans ec
      have z36 : X6.frozen? ⟨g, k * 2, none⟩ = false := (World.frozen?_of_block (hx6.chg.block g hlt0 n0')).trans z3
      have HS7 := Lib.hid hs7
      clear hX6 hx6 hs7 n0' n1' ec e0 z3 hlt0 HNX HGO s0
      go_upto_region 7 with fail
      clear ec6 z36
      obtain ⟨XT, hXT⟩ : ∃ XT, X6.setCell ⟨g, k * 2, none⟩ (.slice A6 n6 c6) = XT := ⟨_, rfl⟩
      rw [hXT] at HS7 ⊢
      clear hXT
      have hpl : p ≤ h.Rows.length := by rw [← HML.out]; exact hpm
      obtain ⟨rows2, hr2⟩ : ∃ rows2, Mm.insertAt h.Rows p ⟨x.Name, []⟩ = rows2 := ⟨_, rfl⟩
      obtain ⟨r, hrr⟩ : ∃ r : Row, (⟨x.Name, []⟩ : Row) = r := ⟨_, rfl⟩
      have HR2 : Hid (rows2[p]? = some r) := Lib.hid (by rw [← hr2, ← hrr]; exact Mm.insertAt_self _ hpl)
      have HK8 : Hid (rows2.length ≤ 1000) := Lib.hid (by rw [← hr2, Mm.insertAt_len]; have := HML.out; omega)
      have HS0' : Hid (r.Samples.length = 0) := Lib.hid (by rw [← hrr]; rfl)
      have HS40 : Hid (r.Samples.length ≤ 40) := Lib.hid (by rw [HS0'.out]; omega)
      have HE : Hid ((⟨rows2.set p ⟨r.Name, r.Samples ++ [⟨x.At, x.Value⟩]⟩, o1⟩ : Head) = (Pl.takeS h x).1) := Lib.hid (by rw [HF.out, ← hr2, ← hrr, Mm.insertAt_set _ _ hpl]; rfl)
      have HCD : Hid ((Pl.takeS h x).2 = 1) := Lib.hid (by rw [HF.out])
      have HS : Hid (Mm.SepF fp w XT [Mm.tblk gs 55 [.string x.Name, .int .i64 x.At, .int .i64 x.Value], Mm.tsl rHead 73 (xs.set k ⟨rows2, o1⟩) (.slice (some ⟨g, 0, none⟩) n c) fp7]) := Lib.hid (by
        have h9 := HS7.out
        rw [hr2] at h9
        have h8 : Mm.SepF fp w XT [Mm.tblk gs 55 [.string x.Name, .int .i64 x.At, .int .i64 x.Value], Mm.tsl rHead 73 ((xs.set k ⟨h.Rows, o1⟩).set k ⟨rows2, o1⟩) (.slice (some ⟨g, 0, none⟩) n c) fp7] := h9
        rw [List.set_set] at h8
        exact h8)
      have HK2 : Hid ((xs.set k ⟨rows2, o1⟩)[k]? = some ⟨rows2, o1⟩) := Lib.hid (List.getElem?_set_self HXL.out)
      clear hr2 hrr HS7 HS3 HK1 f8 h8
      obtain ⟨A6, m6, c6, fx, e0, -, hml, hso, hfn, hfx, -, -, hsame⟩ := HS.out.headRows 1 rfl HK2.out
      have hm6p : p < m6 := by rw [hml]; exact (List.getElem?_eq_some_iff.1 HR2.out).1
      have hm6n : m6 ≤ 1000 := by rw [hml]; exact HK8.out
      obtain ⟨g2, rfl, -, -⟩ := Mm.sl_addr hso (by show 0 < rows2.length; have h7 : m6 = rows2.length := hml; omega)
      have HJ := Lib.hid (Mm.SepF.one (Mm.tsl rRow 139 rows2 (.slice (some ⟨g2, 0, none⟩) m6 c6) fx) XT hso hfn)
      obtain ⟨As, ms, ds, fx2, r0, r1, hsl, hso2, hfn2, hfx2, hrow⟩ := HJ.out.rowSam 0 rfl HR2.out
      have HSAME := Lib.hid hsame
      have HROW := Lib.hid hrow
      have HSO2 := Lib.hid (And.intro hso2 hfn2)
      have HSL : Hid (ms = r.Samples.length) := hsl
      have HFX : Hid (∀ b, b ∈ fx2 → b ∈ fp7) := Lib.hid (fun b hb => (hfx _ (hfx2 b hb).1).1)
      have zr := hso.frozen (p * 2 + 1)
      have hg2 : g2 ∉ fx2 := fun hh => (hfx2 _ hh).2 rfl
      have hg2l : g2 < XT.heap.size := hso.olt g2 hso.mem_block
      have f2 : (0 : Int) ≤ (p : Nat) := by omega
      have f3 : ((p : Nat) : Int).toNat = p := by omega
      have f4 : (p : Int) < (m6 : Nat) := by omega
      clear hml hso hfn hfx hsame hsl hso2 hfn2 hrow r0 hfx2
      have f9 : ¬ (0 : Int) < (ms : Nat) := by have := HS0'.out; have := HSL.out; omega
      go_upto_region 17 with fail
      clear e0 f9
      obtain ⟨i0, hi, hz0, hz1, hz2⟩ := info_parts Tryz.infoSmpK
      have s1 := HS.out.cell (k := 1) 0 rfl rfl
      have s2 := HS.out.cell (k := 2) 0 rfl rfl
      have n1' : gs ∉ fx2 := fun hh => HS.out.apart (i := 0) (j := 1) rfl rfl (by decide) gs (by simp [Mm.tblk]) (HFX.out _ hh)
      have hslm : r.Samples.length ≤ 40 := HS40.out
      refine Mm.wp_region_give 14 (fun i => match i with | 10 => some (Mm.gBs 124 [.int .i64 x.At, .int .i64 x.Value]) | 11 => some (Mm.gSl smp 124 (r.Samples ++ [⟨x.At, x.Value⟩])) | _ => none) (fun i => match i with | 11 => [10, 15] | _ => []) (fun i => match i with | 15 => [Mm.tsl smp 124 r.Samples (.slice As ms ds) fx2] | _ => []) (F := fx2) (D := fun w' => ∃ z : Cha fx2 XT, w' = cha fx2 XT z) (fun X us h => Mm.sep_cha h) (by kernel_rfl) (by kernel_rfl) (by kernel_rfl) (Mm.sep_eq ((Mm.SepF.one (Mm.tsl smp 124 r.Samples (.slice As ms ds) fx2) XT HSO2.out.1 HSO2.out.2).step (Below.refl _ _).drew) rfl) ?_
      repeat (refine Mm.give_det (by rfl) (by rfl) (by rfl) (fun K hK => ?_); go_big_quiet_op; refine hK _ ?_; clear hK K)
      refine Mm.give_op0 90 (by rfl) rfl (by rfl) (by rfl) (by rfl) (by rfl) Mm.gBs_in (fun others X6 hX6 => ?_) ?_
      · go_wp2
        exact Mm.gvq_bs hX6 rfl rfl rfl
      rintro v ds' ⟨gb, rfl, rfl⟩
      simp only [Act.put, List.setIfInBounds_toArray, List.set_cons_succ, List.set_cons_zero]
      refine Mm.give_op2 91 10 15 (by rfl) rfl (by rfl) (by rfl) (by rfl) rfl (by rfl) (by rfl) (by rfl) _ _ rfl rfl Mm.gSl_in (fun others X6 hX6 => Mm.app_gvq rfl (.tmp 84) (.tmp 90) 62 rfl 91 rfl (by rfl) i0 _ 16 Tryz.underlying62 hi hz0 hz1 hz2 rfl (by decide) rfl rfl (fun W => smp_own_mk (x := ⟨x.At, x.Value⟩) HI.out) (by unfold maxLen; omega) (by omega) hX6) ?_
      rintro v ds' ⟨A8, n8, c8, f8', rfl, rfl, hn8⟩
      simp only [Act.put, List.setIfInBounds_toArray, List.set_cons_succ, List.set_cons_zero]
      repeat (refine Mm.give_det (by rfl) (by rfl) (by rfl) (fun K hK => ?_); go_big_quiet_op; refine hK _ ?_; clear hK K)
      refine Mm.give_nil ?_
      rintro X7 hX7
      have hx7 : Mm.SepF fx2 XT X7 [Mm.tsl smp 124 (r.Samples ++ [⟨x.At, x.Value⟩]) (.slice A8 n8 c8) f8'] := Mm.sep_eq hX7 rfl
      have HS4 := Lib.hid hx7
      have d4 : X7.cell? ⟨g2, p * 2 + 1, none⟩ = some (.slice As ms ds) := (World.cell?_of_block (hx7.chg.block g2 hg2l hg2)).trans r1
      have z4 : X7.frozen? ⟨g2, p * 2 + 1, none⟩ = false := (World.frozen?_of_block (hx7.chg.block g2 hg2l hg2)).trans zr
      clear hX7 hx7 r1 zr s1 s2 n1'
      go_wp2
      go_ret
      obtain ⟨fp5, hs5⟩ := HROW.out _ _ _ _ _ _ HS4.out
      obtain ⟨fp6, hs6⟩ := HSAME.out _ _ _ hs5
      refine ⟨ret_int HCD.out.symm, fp6, ?_⟩
      have h9 := hs6.sel [1] (by decide) rfl
      rw [List.set_set] at h9
      rw [← HE.out]
      exact h9
  | true =>
    obtain ⟨r, hr, hrn⟩ := HFD.out.1 rfl
    have hne := HIN.out.hw.ne r (List.mem_of_getElem? hr)
    have HNE := Lib.hid hne
    have HMS : Hid (Pl.takeS h x = Pl.hitS h p r x) := Lib.hid (by rw [← HP.out]; exact Pl.takeS_hit (by rw [HP.out]; exact hr) hrn)
    have HR2 : Hid (h.Rows[p]? = some r) := Lib.hid hr
    obtain ⟨rows2, hrw⟩ : ∃ rows2, h.Rows = rows2 := ⟨_, rfl⟩
    have HRW := Lib.hid hrw
    rw [hrw] at HR2 HS3 HK1 HML
    have HS : Hid (Mm.SepF fp w w3 [Mm.tblk gs 55 [.string x.Name, .int .i64 x.At, .int .i64 x.Value], Mm.tsl rHead 73 (xs.set k ⟨rows2, o1⟩) (.slice (some ⟨g, 0, none⟩) n c) fp]) := HS3
    have HK2 := HK1
    have HK8 : Hid (rows2.length ≤ 1000) := Lib.hid (by have := HML.out; omega)
    have HS40 : Hid (r.Samples.length ≤ 40) := Lib.hid hne.2
    obtain ⟨XT, hXT⟩ : ∃ XT, w3 = XT := ⟨_, rfl⟩
    rw [hXT] at HS ⊢
    clear hXT HS3 HK1 hr hrn hne hrw
    obtain ⟨A6, m6, c6, fx, e0, -, hml, hso, hfn, hfx, -, -, hsame⟩ := HS.out.headRows 1 rfl HK2.out
    have hm6p : p < m6 := by rw [hml]; exact (List.getElem?_eq_some_iff.1 HR2.out).1
    have hm6n : m6 ≤ 1000 := by rw [hml]; exact HK8.out
    obtain ⟨g2, rfl, -, -⟩ := Mm.sl_addr hso (by show 0 < rows2.length; have h7 : m6 = rows2.length := hml; omega)
    have HJ := Lib.hid (Mm.SepF.one (Mm.tsl rRow 139 rows2 (.slice (some ⟨g2, 0, none⟩) m6 c6) fx) XT hso hfn)
    obtain ⟨As, ms, ds, fx2, r0, r1, hsl, hso2, hfn2, hfx2, hrow⟩ := HJ.out.rowSam 0 rfl HR2.out
    have HSAME := Lib.hid hsame
    have HROW := Lib.hid hrow
    have HSO2 := Lib.hid (And.intro hso2 hfn2)
    have HSL : Hid (ms = r.Samples.length) := hsl
    have HFX : Hid (∀ b, b ∈ fx2 → b ∈ fp) := Lib.hid (fun b hb => (hfx _ (hfx2 b hb).1).1)
    have zr := hso.frozen (p * 2 + 1)
    have hg2 : g2 ∉ fx2 := fun hh => (hfx2 _ hh).2 rfl
    have hg2l : g2 < XT.heap.size := hso.olt g2 hso.mem_block
    have f2 : (0 : Int) ≤ (p : Nat) := by omega
    have f3 : ((p : Nat) : Int).toNat = p := by omega
    have f4 : (p : Int) < (m6 : Nat) := by omega
    clear hml hso hfn hfx hsame hsl hso2 hfn2 hrow r0 hfx2
    have hms0 : 0 < ms := by
      have h1 := HSL.out
      have h2 : r.Samples.length ≠ 0 := fun hh => HNE.out.1 (List.length_eq_zero_iff.1 hh)
      omega
    have hms40 : ms ≤ 40 := by have := HSL.out; have := HS40.out; omega
    obtain ⟨q, hq⟩ : ∃ q, ms - 1 = q := ⟨_, rfl⟩
    have hrd := HSO2.out.1.weak HSO2.out.1.olt
    obtain ⟨y, bm, om, hy, hAs, hbm, -, -, d0, -⟩ := smp_get hrd (show q < ms by omega)
    subst hAs
    have HLA : Hid (Pl.lastAt r = y.At) := Lib.hid (by unfold Pl.lastAt; rw [← HSL.out, hq, Pl.sampleAt_of hy])
    have g1 : (0 : Int) < (ms : Nat) := by omega
    have g2' : IntKind.i64.wrap ((ms : Int) - 1) = (q : Int) := by rw [IntWalk.i64_in _ (by omega)]; omega
    have g3 : (0 : Int) ≤ (q : Nat) := by omega
    have g4 : ((q : Nat) : Int).toNat = q := by omega
    have g5 : (q : Int) < (ms : Nat) := by omega
    have HQ := Lib.hid hq
    have s1 := HS.out.cell (k := 1) 0 rfl rfl
    clear hrd hy hbm hq
    by_cases c1 : y.At = x.At
    · as_aux_lemma =>
      have HF : Hid (Pl.takeS h x = (⟨rows2, o1⟩, 2)) := Lib.hid (by rw [HMS.out, ← HO1.out, ← HRW.out]; exact if_pos (by rw [HLA.out]; exact c1))
      have q1 : (y.At == x.At) = true := by simp [c1]
      clear c1
      go_wp2
      go_ret
      exact ⟨ret_int (by rw [HF.out]), _, by rw [HF.out]; exact HS.out.sel [1] (by decide) rfl⟩
    · have q1 : (y.At == x.At) = false := by simp [c1]
      by_cases c2 : x.At < y.At
      · as_aux_lemma =>
        have HF : Hid (Pl.takeS h x = (⟨rows2, o1⟩, 3)) := Lib.hid (by rw [HMS.out, ← HO1.out, ← HRW.out]; exact (if_neg (by rw [HLA.out]; exact c1)).trans (if_pos (by rw [HLA.out]; exact c2)))
        clear c1
        go_wp2
        go_ret
        exact ⟨ret_int (by rw [HF.out]), _, by rw [HF.out]; exact HS.out.sel [1] (by decide) rfl⟩
      · by_cases c3 : ms = 40
        · as_aux_lemma =>
          have HF : Hid (Pl.takeS h x = (⟨rows2, o1⟩, 4)) := Lib.hid (by rw [HMS.out, ← HO1.out, ← HRW.out]; exact (if_neg (by rw [HLA.out]; exact c1)).trans ((if_neg (by rw [HLA.out]; exact c2)).trans (if_pos (by rw [← HSL.out]; exact c3))))
          have q3 : ((ms : Int) == 40) = true := by rw [c3]; rfl
          clear c1 c3
          go_wp2
          go_ret
          exact ⟨ret_int (by rw [HF.out]), _, by rw [HF.out]; exact HS.out.sel [1] (by decide) rfl⟩
        · as_aux_lemma =>
          have HF : Hid (Pl.takeS h x = (⟨rows2.set p ⟨r.Name, r.Samples ++ [⟨x.At, x.Value⟩]⟩, o1⟩, 1)) := Lib.hid (by rw [HMS.out, ← HO1.out, ← HRW.out]; exact (if_neg (by rw [HLA.out]; exact c1)).trans ((if_neg (by rw [HLA.out]; exact c2)).trans (if_neg (by rw [← HSL.out]; exact c3))))
          have HE : Hid ((⟨rows2.set p ⟨r.Name, r.Samples ++ [⟨x.At, x.Value⟩]⟩, o1⟩ : Head) = (Pl.takeS h x).1) := Lib.hid (by rw [HF.out])
          have HCD : Hid ((Pl.takeS h x).2 = 1) := Lib.hid (by rw [HF.out])
          have q3 : ((ms : Int) == 40) = false := by rw [beq_eq_false_iff_ne]; omega
          clear c1
          go_upto_region 17 with fail
          clear e0 d0 s1 q1 q3 c2
          obtain ⟨i0, hi, hz0, hz1, hz2⟩ := info_parts Tryz.infoSmpK
          have s1 := HS.out.cell (k := 1) 0 rfl rfl
          have s2 := HS.out.cell (k := 2) 0 rfl rfl
          have n1' : gs ∉ fx2 := fun hh => HS.out.apart (i := 0) (j := 1) rfl rfl (by decide) gs (by simp [Mm.tblk]) (HFX.out _ hh)
          have hslm : r.Samples.length ≤ 40 := HS40.out
          refine Mm.wp_region_give 14 (fun i => match i with | 10 => some (Mm.gBs 124 [.int .i64 x.At, .int .i64 x.Value]) | 11 => some (Mm.gSl smp 124 (r.Samples ++ [⟨x.At, x.Value⟩])) | _ => none) (fun i => match i with | 11 => [10, 15] | _ => []) (fun i => match i with | 15 => [Mm.tsl smp 124 r.Samples (.slice (some ⟨bm, om, none⟩) ms ds) fx2] | _ => []) (F := fx2) (D := fun w' => ∃ z : Cha fx2 XT, w' = cha fx2 XT z) (fun X us h => Mm.sep_cha h) (by kernel_rfl) (by kernel_rfl) (by kernel_rfl) (Mm.sep_eq ((Mm.SepF.one (Mm.tsl smp 124 r.Samples (.slice (some ⟨bm, om, none⟩) ms ds) fx2) XT HSO2.out.1 HSO2.out.2).step (Below.refl _ _).drew) rfl) ?_
          repeat (refine Mm.give_det (by rfl) (by rfl) (by rfl) (fun K hK => ?_); go_big_quiet_op; refine hK _ ?_; clear hK K)
          refine Mm.give_op0 90 (by rfl) rfl (by rfl) (by rfl) (by rfl) (by rfl) Mm.gBs_in (fun others X6 hX6 => ?_) ?_
          · go_wp2
            exact Mm.gvq_bs hX6 rfl rfl rfl
          rintro v ds' ⟨gb, rfl, rfl⟩
          simp only [Act.put, List.setIfInBounds_toArray, List.set_cons_succ, List.set_cons_zero]
          refine Mm.give_op2 91 10 15 (by rfl) rfl (by rfl) (by rfl) (by rfl) rfl (by rfl) (by rfl) (by rfl) _ _ rfl rfl Mm.gSl_in (fun others X6 hX6 => Mm.app_gvq rfl (.tmp 84) (.tmp 90) 62 rfl 91 rfl (by rfl) i0 _ 16 Tryz.underlying62 hi hz0 hz1 hz2 rfl (by decide) rfl rfl (fun W => smp_own_mk (x := ⟨x.At, x.Value⟩) HI.out) (by unfold maxLen; omega) (by omega) hX6) ?_
          rintro v ds' ⟨A8, n8, c8, f8', rfl, rfl, hn8⟩
          simp only [Act.put, List.setIfInBounds_toArray, List.set_cons_succ, List.set_cons_zero]
          repeat (refine Mm.give_det (by rfl) (by rfl) (by rfl) (fun K hK => ?_); go_big_quiet_op; refine hK _ ?_; clear hK K)
          refine Mm.give_nil ?_
          rintro X7 hX7
          have hx7 : Mm.SepF fx2 XT X7 [Mm.tsl smp 124 (r.Samples ++ [⟨x.At, x.Value⟩]) (.slice A8 n8 c8) f8'] := Mm.sep_eq hX7 rfl
          have HS4 := Lib.hid hx7
          have d4 : X7.cell? ⟨g2, p * 2 + 1, none⟩ = some (.slice (some ⟨bm, om, none⟩) ms ds) := (World.cell?_of_block (hx7.chg.block g2 hg2l hg2)).trans r1
          have z4 : X7.frozen? ⟨g2, p * 2 + 1, none⟩ = false := (World.frozen?_of_block (hx7.chg.block g2 hg2l hg2)).trans zr
          clear hX7 hx7 r1 zr s1 s2 n1'
          go_wp2
          go_ret
          obtain ⟨fp5, hs5⟩ := HROW.out _ _ _ _ _ _ HS4.out
          obtain ⟨fp6, hs6⟩ := HSAME.out _ _ _ hs5
          refine ⟨ret_int HCD.out.symm, fp6, ?_⟩
          have h9 := hs6.sel [1] (by decide) rfl
          rw [List.set_set] at h9
          rw [← HE.out]
          exact h9
end Go.Proofs.YtbhmdnjammnlnaaGreatDoor

namespace Go.Proofs.YtbhmdnjammnlnaaGreatDoor
open Go.RowKit
namespace Mm
theorem Sep.toF {w0 wr : World} {ts : List Thing} (h : Sep w0 wr ts) : SepF [] w0 wr ts := ⟨Chg.of_below h.bel, h.nd, fun b hb => .inr (h.new b hb), h.hold⟩
theorem SepF.toSep {w0 wr : World} {ts : List Thing} (h : SepF [] w0 wr ts) : Sep w0 wr ts := ⟨h.bel0, h.nd, fun b hb => (h.new b hb).resolve_left (fun h => by cases h), h.hold⟩
section
variable {P : Program} {F : List Nat} {w X : World} {ops : Array Oper} {o : Oper} {a a' : Act} {others tk : List Thing} {vals : List Value} {α : Type} {E : Rep α} {enc : α → List Value} {e : TypeId} {xs : List α} {v : Value} {fp : List Nat} {A : Option Addr} {n c B : Nat}
end
end Mm
end Go.Proofs.YtbhmdnjammnlnaaGreatDoor

namespace Go.Proofs.YtbhmdnjammnlnaaGreatDoor
open Go.RowKit
namespace Mm
abbrev Hdr := Option Addr × Nat × Nat
def hval (h : Hdr) : Value := .slice h.1 h.2.1 h.2.2
def hdr : Rep Hdr := flat 1 (fun h => [hval h]) (fun _ => True) (fun _ => rfl) (fun _ u hu => by rw [List.mem_singleton.1 hu]; rfl)
section
variable {α : Type} {E : Rep α} {e e2 : TypeId} {w : World} {B : Nat} {v : Value} {fp : List Nat}
end
end Mm
end Go.Proofs.YtbhmdnjammnlnaaGreatDoor

namespace Go.Proofs.YtbhmdnjammnlnaaGreatDoor
open Go.RowKit
end Go.Proofs.YtbhmdnjammnlnaaGreatDoor

namespace Go.Proofs.YtbhmdnjammnlnaaGreatDoor
open Go.RowKit
attribute [local go_sem] und_cell cha_cell World.cell?_alloc_some
def Mm.encSmpK (x : Sample) : List Value := [.int .i64 x.At, .int .i64 x.Value]
theorem Mm.flatA_smpK : Mm.Flat smp Mm.encSmpK := ⟨fun h => (smp_at h).1, fun h _ => smp_own_mk (smp_at h).2⟩
theorem Tryz.infoSmpC : (Tryz.prog.info? 124).map (fun i => (i.zero, i.size, i.bytes)) = some (some (.agg #[.int .i64 0, .int .i64 0]), 2, 16) := by kernel_rfl
set_option maxRecDepth 100000 in
set_option maxHeartbeats 1000000 in
theorem clSmp_c (l : List Sample) (A : Option Addr) (n c : Nat) (w : World) (B : Nat) (hl : Mm.SlAt smp w B l A n c) (hn : n ≤ 1048576) :
    Calls Tryz.prog 96 #[.slice A n c] w (Mm.NewSl smp 124 w l) := by
  have hlen := Lib.hid hl.1
  have hcap := hl.2.1
  have hq : ∀ (w : World) (a : Option Addr) (n c n' c' : Nat), (binOp .eql 62 (.slice a n c) (.slice none n' c')).run Tryz.prog w = .ok (.bool a.isNone) w := fun w a n c n' c' => Lib.run_eql_slice_nil w _ _ a n c n' c' Tryz.underlying62
  cases A with
  | none =>
    have hc : c = 0 := hl.2.2.2.1 rfl
    have hl0 : l = [] := List.length_eq_zero_iff.1 (by rw [hlen.out]; omega)
    subst hl0
    clear hl
    go_enter Tryz.func96, Tryz.ntmps96
    go_wp2
    go_ret
    exact (Mm.Acc.nil (Below.refl _ _)).newsl
  | some a =>
    have HC := Lib.hid (Mm.flat_cells' (E := smp) (enc := Mm.encSmpK) (fun x cs h => (Mm.flatA_smpK).at_ h) hl)
    have HLN := Lib.hid (Mm.flat_len (E := smp) (enc := Mm.encSmpK) (fun x cs h => (Mm.flatA_smpK).at_ h) hl)
    have HOK : Hid (∀ (w' : World) x, x ∈ l → (smp).own w' x ((Mm.encSmpK) x) []) := fun w' x hx => by
      obtain ⟨i, hi, rfl⟩ := List.mem_iff_getElem.1 hx
      obtain ⟨y, b, off, cs, hy, _, _, ha, _⟩ := hl.get (k := i) (by rw [← hlen.out]; exact hi)
      rw [List.getElem?_eq_getElem hi] at hy
      injection hy with hy
      subst hy
      exact (Mm.flatA_smpK).own ha w'
    have H1 : Hid (∀ u : Value, u ∈ l.flatMap Mm.encSmpK → u.oneCell' = true) := fun u hu => by
      obtain ⟨x, hx, hu⟩ := List.mem_flatMap.1 hu
      exact (smp).one (HOK.out w x hx) u hu
    clear hl
    obtain ⟨i0, hi, hz0, hz1, hz2⟩ := info_parts Tryz.infoSmpC
    go_enter Tryz.func96, Tryz.ntmps96
    go_wp2_with (at_builtin; refine wpList_append_own_at _ rfl _ _ 62 rfl w.heap.size 124 i0 (.agg #[.int .i64 0, .int .i64 0]) 2 16 Tryz.underlying62 hi hz0 hz1 hz2 rfl (by decide) _ _ _ rfl (World.ownsRow_made w #[] 0 (Nat.le_refl _) (Nat.zero_le _) rfl) a n c (l.flatMap Mm.encSmpK) rfl HLN.out (fun j u hj => Lib.cell?_alloc_some _ (HC.out j u hj)) H1.out (by unfold maxLen; omega) (by omega) (by simp) ?_; intro v' w1 hown hgrow hnil hat)
    have HA := Lib.hid (Mm.clone_post (E := smp) (e := 124) (Nat.zero_add _) (List.nil_append _) hown hgrow (fun x hx => HOK.out _ x hx) hlen.out)
    clear hown hgrow hat hnil
    go_wp2
    go_ret
    exact HA.out.newsl
theorem Tryz.infoRowK : (Tryz.prog.info? 139).map (fun i => (i.zero, i.size, i.bytes)) = some (some (.agg #[.string ByteArray.empty, .slice none 0 0]), 2, 40) := by kernel_rfl
set_option maxRecDepth 100000 in
set_option maxHeartbeats 4000000 in
theorem cloneHead_c (h : Head) (cs : List Value) (w : World) (B : Nat) (hh : rHead.at_ w B h cs) (hB : B ≤ w.heap.size) (hw : Pl.HW h) :
    Calls Tryz.prog 113 #[.agg cs.toArray] w (Mm.NewAg rHead w h) := by
  obtain ⟨A0, n0, c0, rfl, r0, io⟩ := rHead_at hh
  have g0 := r0.1
  have hn0 : n0 ≤ 8 := by have := hw.len; omega
  have HW := Lib.hid hw
  have G0 := Lib.hid g0
  have R0 := Lib.hid r0
  have IO := Lib.hid io
  have HBW := Lib.hid hB
  obtain ⟨iR, qR, qR0, qR1, qR2⟩ := info_parts Tryz.infoRowK
  obtain ⟨iS, qS, qS0, qS1, qS2⟩ := info_parts Tryz.infoSmpK
  clear hh r0 hw g0 io
  obtain ⟨ga, hga⟩ : ∃ g, w.heap.size = g := ⟨_, rfl⟩
  obtain ⟨gc, hgc⟩ : ∃ g, ga + 1 = g := ⟨_, rfl⟩
  obtain ⟨W0, hW0⟩ : ∃ W, (w.alloc (.cells #[.slice A0 n0 c0, .int .i64 h.Offset] 73)).alloc (.cells #[.slice none 0 0, .int .i64 0] 73) = W := ⟨_, rfl⟩
  have HS := Lib.hid ((((Mm.SepF.start w).alloc' hga 73 [.slice A0 n0 c0, .int .i64 h.Offset]).alloc' (g := gc) (by rw [Mm.sz1, hga, hgc]) 73 [.slice none 0 0, .int .i64 0]).atW hW0)
  go_enter Tryz.func113, Tryz.ntmps113
  go_upto_region 1 with fail
  clear hW0 hga hgc
  have b0 := HS.out.cell (k := 0) 1 rfl rfl
  have b1 := HS.out.cell (k := 1) 1 rfl rfl
  go_upto_region 2 with fail
  clear b0 b1
  obtain ⟨gp, hgp⟩ : ∃ g, W0.heap.size = g := ⟨_, rfl⟩
  obtain ⟨W6, hW6⟩ : ∃ W, W0.alloc (.cells #[.slice none 0 0, .int .i64 h.Offset] 73) = W := ⟨_, rfl⟩
  have HS6 := Lib.hid ((HS.out.alloc' hgp 73 [.slice none 0 0, .int .i64 h.Offset]).atW hW6)
  rw [hW6, hgp]
  clear hW6 hgp HS
  have KS := Lib.hid (HS6.out.add (Below.refl _ _) (t := Mm.tsl rRow 139 [] (.slice none 0 0) []) Mm.SlOwn.nil List.nodup_nil (fun b hb => by cases hb))
  have b0 := HS6.out.cell (k := 0) 2 rfl rfl
  go_upto_region 3 with fail
  clear b0 HS6
  go_loopg [12] n0 (fun gg i wr => ∃ (k : Nat) (A' : Option Addr) (c' : Nat) (fp : List Nat), n0 - k ≤ gg ∧ k ≤ n0 ∧ i = .int .i64 k ∧ Hid (Mm.SepF [] w wr [Mm.tsl rRow 139 (h.Rows.take k) (.slice A' k c') fp, Mm.tblk gp 73 [.slice A' k c', .int .i64 h.Offset], Mm.tblk gc 73 [.slice none 0 0, .int .i64 0], Mm.tblk ga 73 [.slice A0 n0 c0, .int .i64 h.Offset]]))
  case atStart => exact ⟨0, none, 0, [], Nat.le_refl _, Nat.zero_le _, rfl, KS.out⟩
  case round =>
    clear KS
    obtain ⟨k, A', c', fp, hgk, hk', rfl, HS⟩ := hrel
    obtain ⟨W, rfl⟩ : ∃ W : World, W = wr := ⟨_, rfl⟩
    by_cases hlt : k < n0
    · have fc : (k : Int) < (n0 : Nat) := by omega
      obtain ⟨x, b, off, AH, mH, dH, hx, rfl, hb, hnm, hrd, e0, e1⟩ := rRow_get (R0.out.keep (w' := W) fun b hb => HS.out.bel0.block b (by have := HBW.out; omega)) hlt
      have HNM := Lib.hid hnm
      have HRD := Lib.hid hrd
      have HNX := Lib.hid (Mm.take_succ_some hx)
      have hmH : mH ≤ 40 := by have := (HW.out.ne x (List.mem_of_getElem? hx)).2; have := hrd.1; omega
      have hlk : (h.Rows.take k).length = k := by rw [List.length_take]; have := G0.out; omega
      have HLK := Lib.hid hlk
      have hBW : B ≤ W.heap.size := by have := HBW.out; have := HS.out.bel0.size; omega
      clear hx hrd hlk hnm
      go_upto_region 5 with fail
      obtain ⟨gn, hgn⟩ : ∃ g, W.heap.size = g := ⟨_, rfl⟩
      obtain ⟨W1, hW1⟩ : ∃ V, W.alloc (.cells #[.string x.Name, .slice AH mH dH] 139) = V := ⟨_, rfl⟩
      have HS1 := Lib.hid ((HS.out.alloc' hgn 139 [.string x.Name, .slice AH mH dH]).atW hW1)
      have hb1 : Below W.heap.size W W1 := by rw [← hW1]; exact below_new (Below.refl _ _) _
      rw [hW1, hgn]
      have hsz1 : W.heap.size ≤ W1.heap.size := hb1.size
      have HB1 := Lib.hid hb1
      have HRW := Lib.hid (show Mm.SlAt smp W1.drew B x.Samples AH mH dH from HRD.out.keep (fun b hb => hb1.block b (by omega)))
      clear hW1 e0 e1 hb1 HS hgn
      have q0 := HS1.out.cell (k := 0) 0 rfl rfl
      have q1 := HS1.out.cell (k := 1) 0 rfl rfl
      have b0 := HS1.out.cell (k := 0) 2 rfl rfl
      have y0 := HS1.out.frz (k := 0) 2 rfl
      go_region_law (first
        | (go_simp; go_at_call 96; refine (clSmp_c x.Samples AH mH dH _ B HRW.out (by omega)).mono ?_; rintro e w1 ⟨A2, m2, c2, fp2, rfl, ho, hnd, hnew, hb1⟩; (have hs1 := (HS1.out.step (Below.refl _ _).drew).add hb1 (t := Mm.tsl smp 124 x.Samples (.slice A2 m2 c2) fp2) ho hnd hnew); obtain ⟨l0, ho3, hnext⟩ := hs1.push (W2 := w1.alloc (.cells #[.string x.Name, .slice A2 m2 c2] 139)) 2 0 (by decide) rfl rfl (below_new (Below.refl _ _) _) (x := x) (cx := [.string x.Name, .slice A2 m2 c2]) (fun W h => rRow_own_mk HNM.out h); rw [HLK.out] at ho3 hnext; (have HNXT := Lib.hid hnext); (have HS2 := Lib.hid hs1); (have q0 := hs1.cell (k := 0) 1 rfl rfl); (have q1 := hs1.cell (k := 1) 1 rfl rfl); (have b0 := hs1.cell (k := 0) 3 rfl rfl); (have y0 := hs1.frz (k := 0) 3 rfl); clear hnext hs1 hb1 ho hnd hnew)
        | (refine step_append_lies _ (by rfl) (.tmp 17) (.tmp 24) 71 (by rfl) 0 139 iR _ 2 40 Tryz.underlying71 qR qR0 qR1 qR2 rfl (by omega) (.slice A' k c') k l0 (by rfl) ho3 ⟨w1.heap.size, 0, none⟩ 1 1 [.string x.Name, .slice A2 m2 c2] (by rfl) (by rfl) (World.news_of_block (B := w1.heap.size) (cs := #[.string x.Name, .slice A2 m2 c2]) (t := 139) (fr := (0, 0)) (heap_alloc_new w1 _)) (by simp [Value.oneCell']) (by omega) (by unfold maxLen; omega) (by omega) (Nat.zero_le _) _ rfl ?_; intro gg cap w4 hown1 hgrow hat hlt'; obtain ⟨fp', hs4⟩ := HNXT.out gg cap w4 hown1 hgrow hat; (have HS4 := Lib.hid hs4); (have b0 := HS4.out.cell (k := 0) 3 rfl rfl); (have y0 := HS4.out.frz (k := 0) 3 rfl); clear hs4 hown1 hgrow hat))
      all_goals
        go_wp2
        go_roundg (n0 - (k + 1))
        case measure => omega
        case rel => exact ⟨k + 1, _, cap, fp', Nat.le_refl _, by omega, by go_num, by rw [HNX.out]; exact (HS4.out.setBlk (k := 0) 3 rfl _).sel [2, 3, 4, 5] (by decide) rfl⟩
    · obtain rfl : k = n0 := by omega
      have HE : Hid (h.Rows.take k = h.Rows) := Lib.hid (List.take_of_length_le (by have := G0.out; omega))
      rw [HE.out] at HS
      have fc : ¬ ((k : Nat) : Int) < (k : Nat) := by omega
      have b0 := HS.out.cell (k := 0) 1 rfl rfl
      have b1 := HS.out.cell (k := 1) 1 rfl rfl
      have o0 := HS.out.cell (k := 0) 2 rfl rfl
      have o1 := HS.out.cell (k := 1) 2 rfl rfl
      have z0 := HS.out.frz (k := 0) 2 rfl
      have z1 := HS.out.frz (k := 1) 2 rfl
      have HSF := Lib.hid ((HS.out.setBlk (k := 0) 2 rfl (.slice A' k c')).setBlk (k := 1) 2 rfl (.int .i64 h.Offset))
      have u0 := HSF.out.cell (k := 0) 2 rfl rfl
      have u1 := HSF.out.cell (k := 1) 2 rfl rfl
      go_wp2
      exact bodyPost_ret (v := .agg #[.slice A' k c', .int .i64 h.Offset]) (by simp [results, Tryz.results113, go_sem, u0, u1]) rfl ⟨_, fp, rfl, rHead_own_mk (HSF.out.sl 0 rfl) IO.out, HSF.out.ndat (i := 0) rfl, fun b hb => (HSF.out.new b (Mm.SepF.mem (i := 0) rfl hb)).resolve_left (fun h => by cases h), HSF.out.bel0⟩
set_option maxRecDepth 100000 in
set_option maxHeartbeats 4000000 in
theorem l13Own_c (h : Head) (cs : List Value) (w : World) (B : Nat) (hh : rHead.at_ w B h cs) (hB : B ≤ w.heap.size) (hw : Pl.HW h) :
    Calls Tryz.prog 107 #[.agg cs.toArray] w (Mm.NewAg rHead w h) := by
  obtain ⟨A0, n0, c0, rfl, r0, io⟩ := rHead_at hh
  have g0 := r0.1
  have hn0 : n0 ≤ 8 := by have := hw.len; omega
  have HW := Lib.hid hw
  have G0 := Lib.hid g0
  have R0 := Lib.hid r0
  have IO := Lib.hid io
  have HBW := Lib.hid hB
  obtain ⟨iR, qR, qR0, qR1, qR2⟩ := info_parts Tryz.infoRowK
  obtain ⟨iS, qS, qS0, qS1, qS2⟩ := info_parts Tryz.infoSmpK
  clear hh r0 hw g0 io
  obtain ⟨ga, hga⟩ : ∃ g, w.heap.size = g := ⟨_, rfl⟩
  obtain ⟨gc, hgc⟩ : ∃ g, ga + 1 = g := ⟨_, rfl⟩
  obtain ⟨W0, hW0⟩ : ∃ W, (w.alloc (.cells #[.slice A0 n0 c0, .int .i64 h.Offset] 73)).alloc (.cells #[.slice none 0 0, .int .i64 0] 73) = W := ⟨_, rfl⟩
  have HS := Lib.hid ((((Mm.SepF.start w).alloc' hga 73 [.slice A0 n0 c0, .int .i64 h.Offset]).alloc' (g := gc) (by rw [Mm.sz1, hga, hgc]) 73 [.slice none 0 0, .int .i64 0]).atW hW0)
  go_enter Tryz.func107, Tryz.ntmps107
  go_upto_region 1 with fail
  clear hW0 hga hgc
  have b0 := HS.out.cell (k := 0) 1 rfl rfl
  have b1 := HS.out.cell (k := 1) 1 rfl rfl
  go_upto_region 2 with fail
  clear b0 b1
  obtain ⟨gp, hgp⟩ : ∃ g, W0.heap.size = g := ⟨_, rfl⟩
  obtain ⟨W6, hW6⟩ : ∃ W, W0.alloc (.cells #[.slice none 0 0, .int .i64 h.Offset] 73) = W := ⟨_, rfl⟩
  have HS6 := Lib.hid ((HS.out.alloc' hgp 73 [.slice none 0 0, .int .i64 h.Offset]).atW hW6)
  rw [hW6, hgp]
  clear hW6 hgp HS
  have KS := Lib.hid (HS6.out.add (Below.refl _ _) (t := Mm.tsl rRow 139 [] (.slice none 0 0) []) Mm.SlOwn.nil List.nodup_nil (fun b hb => by cases hb))
  have b0 := HS6.out.cell (k := 0) 2 rfl rfl
  go_upto_region 3 with fail
  clear b0 HS6
  go_loopg [12] n0 (fun gg i wr => ∃ (k : Nat) (A' : Option Addr) (c' : Nat) (fp : List Nat), n0 - k ≤ gg ∧ k ≤ n0 ∧ i = .int .i64 k ∧ Hid (Mm.SepF [] w wr [Mm.tsl rRow 139 (h.Rows.take k) (.slice A' k c') fp, Mm.tblk gp 73 [.slice A' k c', .int .i64 h.Offset], Mm.tblk gc 73 [.slice none 0 0, .int .i64 0], Mm.tblk ga 73 [.slice A0 n0 c0, .int .i64 h.Offset]]))
  case atStart => exact ⟨0, none, 0, [], Nat.le_refl _, Nat.zero_le _, rfl, KS.out⟩
  case round =>
    clear KS
    obtain ⟨k, A', c', fp, hgk, hk', rfl, HS⟩ := hrel
    obtain ⟨W, rfl⟩ : ∃ W : World, W = wr := ⟨_, rfl⟩
    by_cases hlt : k < n0
    · have fc : (k : Int) < (n0 : Nat) := by omega
      obtain ⟨x, b, off, AH, mH, dH, hx, rfl, hb, hnm, hrd, e0, e1⟩ := rRow_get (R0.out.keep (w' := W) fun b hb => HS.out.bel0.block b (by have := HBW.out; omega)) hlt
      have HNM := Lib.hid hnm
      have HRD := Lib.hid hrd
      have HNX := Lib.hid (Mm.take_succ_some hx)
      have hmH : mH ≤ 40 := by have := (HW.out.ne x (List.mem_of_getElem? hx)).2; have := hrd.1; omega
      have hlk : (h.Rows.take k).length = k := by rw [List.length_take]; have := G0.out; omega
      have HLK := Lib.hid hlk
      have hBW : B ≤ W.heap.size := by have := HBW.out; have := HS.out.bel0.size; omega
      clear hx hrd hlk hnm
      go_upto_region 5 with fail
      obtain ⟨gn, hgn⟩ : ∃ g, W.heap.size = g := ⟨_, rfl⟩
      obtain ⟨W1, hW1⟩ : ∃ V, W.alloc (.cells #[.string x.Name, .slice AH mH dH] 139) = V := ⟨_, rfl⟩
      have HS1 := Lib.hid ((HS.out.alloc' hgn 139 [.string x.Name, .slice AH mH dH]).atW hW1)
      have hb1 : Below W.heap.size W W1 := by rw [← hW1]; exact below_new (Below.refl _ _) _
      rw [hW1, hgn]
      have hsz1 : W.heap.size ≤ W1.heap.size := hb1.size
      have HB1 := Lib.hid hb1
      have HRW := Lib.hid (show Mm.SlAt smp W1.drew B x.Samples AH mH dH from HRD.out.keep (fun b hb => hb1.block b (by omega)))
      clear hW1 e0 e1 hb1 HS hgn
      have q0 := HS1.out.cell (k := 0) 0 rfl rfl
      have q1 := HS1.out.cell (k := 1) 0 rfl rfl
      have b0 := HS1.out.cell (k := 0) 2 rfl rfl
      have y0 := HS1.out.frz (k := 0) 2 rfl
      have HSP := Lib.hid HS1.out.toSep
      have HRW2 := Lib.hid (show Mm.SlAt smp (W1.alloc (.cells #[] 124)).drew B x.Samples AH mH dH from HRD.out.keep (fun b hb => (Below.heap_alloc W1 _ b (by omega)).trans (HB1.out.block b (by omega))))
      go_region_law (first
        | (refine Mm.step_clone (by rfl) (.tmp 20) (.tmp 22) 62 (by rfl) Mm.flatA_smpK iS _ 16 Tryz.underlying62 qS qS0 qS1 qS2 rfl (by decide) HSP.out ((below_new (Below.refl W1.heap.size W1) (.cells #[] 124)).drew) (heap_alloc_new W1 _) (Nat.le_refl _) HRW2.out (by unfold maxLen; omega) (by omega) (by rfl) (by rfl) ?_; intro A2 c2 fp2 w1 hs0 hb1; (have hs1 := hs0.toF); obtain ⟨l0, ho3, hnext⟩ := hs1.push (W2 := w1.alloc (.cells #[.string x.Name, .slice A2 mH c2] 139)) 2 0 (by decide) rfl rfl (below_new (Below.refl _ _) _) (x := x) (cx := [.string x.Name, .slice A2 mH c2]) (fun W h => rRow_own_mk HNM.out h); rw [HLK.out] at ho3 hnext; (have HNXT := Lib.hid hnext); (have HS2 := Lib.hid hs1); (have q0 := hs1.cell (k := 0) 1 rfl rfl); (have q1 := hs1.cell (k := 1) 1 rfl rfl); (have b0 := hs1.cell (k := 0) 3 rfl rfl); (have y0 := hs1.frz (k := 0) 3 rfl); clear hnext hs1 hs0 hb1)
        | (refine step_append_lies _ (by rfl) (.tmp 17) (.tmp 25) 71 (by rfl) 0 139 iR _ 2 40 Tryz.underlying71 qR qR0 qR1 qR2 rfl (by omega) (.slice A' k c') k l0 (by rfl) ho3 ⟨w1.heap.size, 0, none⟩ 1 1 [.string x.Name, .slice A2 mH c2] (by rfl) (by rfl) (World.news_of_block (B := w1.heap.size) (cs := #[.string x.Name, .slice A2 mH c2]) (t := 139) (fr := (0, 0)) (heap_alloc_new w1 _)) (by simp [Value.oneCell']) (by omega) (by unfold maxLen; omega) (by omega) (Nat.zero_le _) _ rfl ?_; intro gg cap w4 hown1 hgrow hat hlt'; obtain ⟨fp', hs4⟩ := HNXT.out gg cap w4 hown1 hgrow hat; (have HS4 := Lib.hid hs4); (have b0 := HS4.out.cell (k := 0) 3 rfl rfl); (have y0 := HS4.out.frz (k := 0) 3 rfl); clear hs4 hown1 hgrow hat))
      all_goals
        go_wp2
        go_roundg (n0 - (k + 1))
        case measure => omega
        case rel => exact ⟨k + 1, _, cap, fp', Nat.le_refl _, by omega, by go_num, by rw [HNX.out]; exact (HS4.out.setBlk (k := 0) 3 rfl _).sel [2, 3, 4, 5] (by decide) rfl⟩
    · obtain rfl : k = n0 := by omega
      have HE : Hid (h.Rows.take k = h.Rows) := Lib.hid (List.take_of_length_le (by have := G0.out; omega))
      rw [HE.out] at HS
      have fc : ¬ ((k : Nat) : Int) < (k : Nat) := by omega
      have b0 := HS.out.cell (k := 0) 1 rfl rfl
      have b1 := HS.out.cell (k := 1) 1 rfl rfl
      have o0 := HS.out.cell (k := 0) 2 rfl rfl
      have o1 := HS.out.cell (k := 1) 2 rfl rfl
      have z0 := HS.out.frz (k := 0) 2 rfl
      have z1 := HS.out.frz (k := 1) 2 rfl
      have HSF := Lib.hid ((HS.out.setBlk (k := 0) 2 rfl (.slice A' k c')).setBlk (k := 1) 2 rfl (.int .i64 h.Offset))
      have u0 := HSF.out.cell (k := 0) 2 rfl rfl
      have u1 := HSF.out.cell (k := 1) 2 rfl rfl
      go_wp2
      exact bodyPost_ret (v := .agg #[.slice A' k c', .int .i64 h.Offset]) (by simp [results, Tryz.results107, go_sem, u0, u1]) rfl ⟨_, fp, rfl, rHead_own_mk (HSF.out.sl 0 rfl) IO.out, HSF.out.ndat (i := 0) rfl, fun b hb => (HSF.out.new b (Mm.SepF.mem (i := 0) rfl hb)).resolve_left (fun h => by cases h), HSF.out.bel0⟩
end Go.Proofs.YtbhmdnjammnlnaaGreatDoor

namespace Go.Proofs.YtbhmdnjammnlnaaGreatDoor
open Go.RowKit
namespace Mm
section
variable {P : Program} {F : List Nat} {w X : World} {ops : Array Oper} {o : Oper} {a : Act} {others tk : List Thing} {vals : List Value}
theorem app_gve {α : Type} {R : Rep α} {e : TypeId} {xs : List α} {x : α} {cs : List Value} {f : List Nat} {v : Value} {fp : List Nat} {gb : Nat} {m : Nat} (hgd : o.guard = none) (s y : Operand) (t : TypeId)
    (ho : o.op = .call { callee := .builtin .append, args := #[s, y], argTypes := #[t, t] }) (d : Nat) (hd : o.dst = some d) (hs : Nat.blt d a.tmps.size = true) (i : TypeInfo) (z : Value) (bytes : Nat)
    (ht : P.underlying t = some (.slice e)) (hi : P.info? e = some i) (hz : i.zero = some z) (hsize : i.size = R.size) (hby : i.bytes = bytes) (hzs : z.cells.size = R.size) (hR : 0 < R.size)
    (hsv : a.eval s = v) (hyv : a.eval y = .slice (some ⟨gb, 0, none⟩) 1 1) (hm : xs.length = m) (h63 : m + 1 ≤ maxLen) (hbytes : (m + 1) * bytes ≤ 140737488355328)
    (hS : SepF F w X ([tblk gb e cs, tow R x cs f, tsl R e xs v fp] ++ others)) : wpList P ops (GvQ F w (gSl R e (xs ++ [x]) vals tk) d a.defers others) [o] a X := by
  subst hm
  obtain ⟨l0, ho1, hnext⟩ := hS.push 2 1 (by decide) rfl rfl (Below.refl _ _) (x := x) (cx := cs) (fun W h => h)
  have hb : Blk X gb e cs := hS.at_ 0 rfl
  have hx : R.own X x cs f := hS.at_ 1 rfl
  unfold wpList
  rw [if_pos (by simp [Region.wanted, hgd])]
  refine .inl (wp_append_lies _ s y t ho 0 e i z R.size bytes ht hi hz hsize hby hzs hR v xs.length l0 hsv ho1 ⟨gb, 0, none⟩ 1 1 cs hyv (by rw [R.olen hx, Nat.one_mul]) ?_ (R.one hx) (by omega) h63 hbytes (Nat.zero_le _) _ rfl ?_)
  · have h1 := World.news_of_block hb
    simpa using h1
  · intro gg cap w4 hown1 hgrow hat hlt
    obtain ⟨fp', hs4⟩ := hnext gg cap w4 hown1 hgrow hat
    have e1 : ((a.put o.dst (.slice (some ⟨gg, 0, none⟩) (xs.length + 1) cap)).tmps.getD d undef) = .slice (some ⟨gg, 0, none⟩) (xs.length + 1) cap := by
      rw [hd]; exact put_get (by simpa [Nat.blt_eq] using hs) _
    exact ⟨rfl, by rw [hd]; rfl, _, ⟨some ⟨gg, 0, none⟩, xs.length + 1, cap, fp', e1, rfl, by show _ = _; simp⟩, hs4.tail.tail⟩
theorem SepF.toOw {α β : Type} {E : Rep β} {e : TypeId} {R : Rep α} {w0 wr : World} {ts : List Thing} {ys : List β} {v : Value} {f : List Nat} {x : α} {cs : List Value} (h : SepF F w0 wr (tsl E e ys v f :: ts)) (hx : ∀ W, SlOwn E e W ys v f → R.own W x cs f) : SepF F w0 wr (tow R x cs f :: ts) :=
  h.conv (by simp [tsl, tow]) (List.forall_mem_cons.2 ⟨hx _ (h.at_ 0 rfl), fun u hu => h.hold u (List.mem_cons_of_mem _ hu)⟩)
end
end Mm
end Go.Proofs.YtbhmdnjammnlnaaGreatDoor

