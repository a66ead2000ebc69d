/-
  Joined texts, in build order: Pr, Ew, Po, Cu, LwN, Sm, Dq, Dr, Fa. Each part says what it proves; no conditions beyond those that a part names.
-/
import Derived.Test.YtaepohocabealaaZ01
import Derived.Test.YtaepohocabealaaZ02
import Derived.Test.YtaepohocabealaaZ03
import Derived.Test.YtaepohocabealaaZ04
import Derived.Test.YtaepohocabealaaZ05
import Derived.Test.YtaepohocabealaaZ06
import Derived.Test.YtaepohocabealaaZ07
import Derived.Test.YtaepohocabealaaZ08
import Derived.Lib.Hide
import Derived.Deep.DeepFit
import Derived.Deep.RegionLaw
import Derived.Deep.LoopGhost
import Derived.Laws.Bits64b
import Derived.WalkSmall
import Derived.Deep.DeepCutAuto
import Derived.Deep.CutBlock
/-
  Plain laws: a good teller stays good. No program in sight. No conditions.
-/
namespace Go.Proofs.Ytaepohocabealaa
namespace Pl
structure GoodP (t : Tell) : Prop where
  pre : goodPre t = true
  tx : ∀ k, k < t.Texts.length → textOk t k = true
  nt : ∀ m, m ∈ t.Line → noteOk t m = true
  lg : logRun t t.Log = some t.Next
theorem good_iff {t : Tell} : goodTell t = true ↔ GoodP t := by
  unfold goodTell
  simp only [Bool.and_eq_true, decide_eq_true_eq, List.all_eq_true]
  exact ⟨fun ⟨⟨⟨h1, h2⟩, h3⟩, h4⟩ => ⟨h1, fun k hk => h2 k (List.mem_range.2 hk), h3, h4⟩, fun h => ⟨⟨⟨h.pre, fun k hk => h.tx k (List.mem_range.1 hk)⟩, h.nt⟩, h.lg⟩⟩
theorem good_pre_mk {t : Tell} (h1 : 1 ≤ t.Texts.length ∧ t.Texts.length ≤ 4) (h2 : t.Heard.length = t.Texts.length) (h3 : t.Next.length = t.Texts.length) (h4 : t.Line.length ≤ 30) : goodPre t = true := by
  unfold goodPre
  simp only [Bool.and_eq_true, decide_eq_true_eq, isIn_iff']
  omega
theorem said_same {t t' : Tell} (h : t'.Texts = t.Texts) (x : Told) : saidOk t' x = saidOk t x := by unfold saidOk sayAt tAt; rw [h]
theorem run_same {t t' : Tell} (h : t'.Texts = t.Texts) (l : List Told) : logRun t' l = logRun t l := by
  unfold logRun logStep
  simp only [said_same h, h]
theorem note_same {t t' : Tell} (h : t'.Texts = t.Texts) (h2 : t'.Next = t.Next) (m : Note) : noteOk t' m = noteOk t m := by unfold noteOk; rw [said_same h, h, h2]
theorem text_same {t t' : Tell} (h : t'.Texts = t.Texts) (h2 : t'.Next = t.Next) (h3 : t'.Heard = t.Heard) (k : Nat) : textOk t' k = textOk t k := by unfold textOk; rw [h, h2, h3]
/-- the line alone is another -/
theorem GoodP.line {t : Tell} (h : GoodP t) (l : List Note) (hl : l.length ≤ 30) (hn : ∀ m, m ∈ l → noteOk t m = true) : GoodP { t with Line := l } := by
  have hp := good_pre h.pre
  exact ⟨good_pre_mk hp.1 hp.2.1 hp.2.2.1 hl, fun k hk => (text_same (t := t) rfl rfl rfl k).trans (h.tx k hk), fun m hm => (note_same (t := t) rfl rfl m).trans (hn m hm), (run_same (t := t) rfl t.Log).trans h.lg⟩
theorem GoodP.send {t : Tell} (h : GoodP t) {m : Note} (hm : noteOk t m = true) : GoodP (tsend t m) := by
  unfold tsend
  split
  · rename_i hl
    refine h.line _ (by simp only [List.length_append, List.length_singleton]; omega) (fun x hx => ?_)
    rcases List.mem_append.1 hx with hx | hx
    · exact h.nt x hx
    · rw [List.mem_singleton.1 hx]; exact hm
  · exact h
theorem GoodP.at_ {t : Tell} (h : GoodP t) {k : Nat} (hk : k < t.Texts.length) : ∃ l a b, t.Texts[k]? = some l ∧ t.Next[k]? = some a ∧ t.Heard[k]? = some b ∧ l.length ≤ 20 ∧ l.all (fun s => decide (s.size ≤ 20)) = true ∧ (0 ≤ a ∧ a ≤ l.length) ∧ 0 ≤ b ∧ b ≤ a := by
  have hp := good_pre h.pre
  have e1 := List.getElem?_eq_getElem hk
  have e2 := List.getElem?_eq_getElem (show k < t.Next.length by omega)
  have e3 := List.getElem?_eq_getElem (show k < t.Heard.length by omega)
  have := h.tx k hk
  rw [textOk_eq e1 e2 e3] at this
  simp only [Bool.and_eq_true, decide_eq_true_eq, isIn_iff'] at this
  exact ⟨_, _, _, e1, e2, e3, this.1.1.1, this.1.1.2, this.1.2, this.2⟩
theorem textOk_mk {t : Tell} {k : Nat} {l : List ByteArray} {a b : Int} (h1 : t.Texts[k]? = some l) (h2 : t.Next[k]? = some a) (h3 : t.Heard[k]? = some b) (g1 : l.length ≤ 20) (g2 : l.all (fun s => decide (s.size ≤ 20)) = true) (g3 : 0 ≤ a ∧ a ≤ l.length) (g4 : 0 ≤ b ∧ b ≤ a) : textOk t k = true := by
  rw [textOk_eq h1 h2 h3]
  simp only [Bool.and_eq_true, decide_eq_true_eq, isIn_iff']
  exact ⟨⟨⟨g1, g2⟩, g3⟩, g4⟩
theorem note_who {t : Tell} {m : Note} (h : noteOk t m = true) : 0 ≤ m.What.Who ∧ m.What.Who < t.Texts.length := by
  unfold noteOk at h
  rw [Bool.and_eq_true, isIn_iff'] at h
  omega
theorem note_back {t : Tell} {m : Note} (h : noteOk t m = true) (hb : m.Back = true) : 0 ≤ m.What.No ∧ m.What.No ≤ iAt t.Next m.What.Who := by
  unfold noteOk at h
  rw [if_pos hb, Bool.and_eq_true, Bool.and_eq_true, isIn_iff', isIn_iff'] at h
  exact h.2.1
theorem note_said {t : Tell} {m : Note} (h : noteOk t m = true) (hb : m.Back = false) : saidOk t m.What = true := by
  unfold noteOk at h
  rw [if_neg (by rw [hb]; simp), Bool.and_eq_true] at h
  exact h.2
theorem said_no {t : Tell} {x : Told} (h : saidOk t x = true) : (0 ≤ x.Who ∧ x.Who < t.Texts.length) ∧ 0 ≤ x.No ∧ x.No < (tAt t x.Who).length := by
  unfold saidOk at h
  rw [Bool.and_eq_true, Bool.and_eq_true, isIn_iff', isIn_iff'] at h
  omega
theorem GoodP.back {t : Tell} (h : GoodP t) {m : Note} (hm : noteOk t m = true) (hb : m.Back = true) : GoodP (tback t m.What) := by
  have hp := good_pre h.pre
  have hw := note_who hm
  have hn := note_back hm hb
  refine ⟨good_pre_mk hp.1 (by show (t.Heard.set _ _).length = _; rw [List.length_set]; exact hp.2.1) hp.2.2.1 hp.2.2.2, fun k hk => ?_, fun x hx => (note_same (t := t) rfl rfl x).trans (h.nt x hx), (run_same (t := t) rfl t.Log).trans h.lg⟩
  obtain ⟨l, a, b, e1, e2, e3, g1, g2, g3, g4⟩ := h.at_ hk
  by_cases hkw : m.What.Who.toNat = k
  · have ew : iAt t.Next m.What.Who = a := iAt_of (by rw [hkw]; exact e2)
    have eh : iAt t.Heard m.What.Who = b := iAt_of (by rw [hkw]; exact e3)
    rw [ew] at hn
    refine textOk_mk e1 e2 (b := if b < m.What.No then m.What.No else b) ?_ g1 g2 g3 (by split <;> omega)
    show (t.Heard.set m.What.Who.toNat _)[k]? = _
    rw [hkw, eh, List.getElem?_set_self (List.getElem?_eq_some_iff.1 e3).1]
  · refine textOk_mk e1 e2 ?_ g1 g2 g3 g4
    show (t.Heard.set m.What.Who.toNat _)[k]? = _
    rw [List.getElem?_set_ne hkw]; exact e3
theorem GoodP.log {t : Tell} (h : GoodP t) {x : Told} (hs : saidOk t x = true) : GoodP (tlog t x) := by
  unfold tlog
  split
  · rename_i he
    have hp := good_pre h.pre
    have hx := said_no hs
    have hkn : x.Who.toNat < t.Texts.length := by omega
    obtain ⟨l, a, b, e1, e2, e3, g1, g2, g3, g4⟩ := h.at_ hkn
    have ea : iAt t.Next x.Who = a := iAt_of e2
    have el : tAt t x.Who = l := tAt_of e1
    rw [ea] at he ⊢
    rw [el] at hx
    refine ⟨good_pre_mk hp.1 hp.2.1 (by show (t.Next.set _ _).length = _; rw [List.length_set]; exact hp.2.2.1) hp.2.2.2, fun k hk => ?_, fun m hm => ?_, ?_⟩
    · obtain ⟨l', a', b', d1, d2, d3, j1, j2, j3, j4⟩ := h.at_ hk
      by_cases hkw : x.Who.toNat = k
      · subst hkw
        rw [e1] at d1; injection d1 with d1; subst d1
        rw [e2] at d2; injection d2 with d2; subst d2
        exact textOk_mk (a := a + 1) e1 (by show (t.Next.set _ _)[_]? = _; rw [List.getElem?_set_self (List.getElem?_eq_some_iff.1 e2).1]) d3 j1 j2 (by omega) (by omega)
      · exact textOk_mk d1 (by show (t.Next.set _ _)[_]? = _; rw [List.getElem?_set_ne hkw]; exact d2) d3 j1 j2 j3 j4
    · have hn := h.nt m hm
      have hw := note_who hn
      unfold noteOk at hn ⊢
      rw [Bool.and_eq_true] at hn ⊢
      refine ⟨hn.1, ?_⟩
      have hn2 := hn.2
      split
      · rename_i hb
        rw [if_pos hb, Bool.and_eq_true, isIn_iff'] at hn2
        rw [Bool.and_eq_true, isIn_iff']
        refine ⟨⟨hn2.1.1, Int.le_trans hn2.1.2 ?_⟩, hn2.2⟩
        show iAt t.Next m.What.Who ≤ iAt (t.Next.set x.Who.toNat (a + 1)) m.What.Who
        by_cases hq : x.Who.toNat = m.What.Who.toNat
        · have : iAt (t.Next.set x.Who.toNat (a + 1)) m.What.Who = a + 1 := iAt_of (by rw [← hq, List.getElem?_set_self (List.getElem?_eq_some_iff.1 e2).1])
          rw [this, iAt_of (l := t.Next) (a := a) (by rw [← hq]; exact e2)]; omega
        · have hk2 : m.What.Who.toNat < t.Next.length := by omega
          have := List.getElem?_eq_getElem hk2
          rw [iAt_of this, iAt_of (l := t.Next.set x.Who.toNat (a + 1)) (a := t.Next[m.What.Who.toNat]) (by rw [List.getElem?_set_ne hq]; exact this)]
          omega
      · rename_i hb
        rw [if_neg hb] at hn2
        exact hn2
    · show logRun _ (t.Log ++ [x]) = some (t.Next.set x.Who.toNat (a + 1))
      refine (run_same (t := t) rfl _).trans ?_
      rw [logRun_snoc, h.lg]
      show logStep t t.Next x = _
      unfold logStep
      rw [ea, if_pos (by rw [hs, Bool.true_and, decide_eq_true_eq]; exact he)]
  · exact h
theorem tlog_sub (t : Tell) (x : Told) : (tlog t x).Texts = t.Texts ∧ (tlog t x).Line = t.Line ∧ (tlog t x).Heard = t.Heard := by
  unfold tlog; split <;> exact ⟨rfl, rfl, rfl⟩
theorem GoodP.take {t : Tell} (h : GoodP t) {m : Note} (hm : noteOk t m = true) : GoodP (ttake t m) := by
  unfold ttake
  split
  · rename_i hb; exact h.back hm hb
  · rename_i hb
    have hb' : m.Back = false := by simpa using hb
    have hs := note_said hm hb'
    have h1 := h.log hs
    refine h1.send ?_
    have hw := note_who hm
    have hk : m.What.Who.toNat < (tlog t m.What).Texts.length := by rw [(tlog_sub t m.What).1]; omega
    obtain ⟨l, a, b, e1, e2, e3, g1, g2, g3, g4⟩ := h1.at_ hk
    have ea : iAt (tlog t m.What).Next m.What.Who = a := iAt_of e2
    unfold noteOk
    rw [if_pos rfl]
    dsimp only
    rw [ea, Bool.and_eq_true, Bool.and_eq_true, isIn_iff', isIn_iff']
    refine ⟨⟨hw.1, by rw [(tlog_sub t m.What).1]; omega⟩, ⟨g3.1, Int.le_refl _⟩, ?_⟩
    have : ByteArray.empty.toList = [] := by unfold ByteArray.toList ByteArray.toList.loop; rfl
    rw [this]; rfl
theorem said_put {t : Tell} {k : Nat} {ys : List ByteArray} {s : ByteArray} (hy : t.Texts[k]? = some ys) {x : Told} (h : saidOk t x = true) : saidOk { t with Texts := t.Texts.set k (ys ++ [s]) } x = true := by
  have hn := said_no h
  unfold saidOk at h ⊢
  rw [Bool.and_eq_true, Bool.and_eq_true] at h ⊢
  have hlen : ({ t with Texts := t.Texts.set k (ys ++ [s]) } : Tell).Texts.length = t.Texts.length := by show (t.Texts.set _ _).length = _; rw [List.length_set]
  rw [hlen]
  by_cases hq : k = x.Who.toNat
  · have e1 : tAt t x.Who = ys := tAt_of (by rw [← hq]; exact hy)
    have e2 : tAt { t with Texts := t.Texts.set k (ys ++ [s]) } x.Who = ys ++ [s] := tAt_of (by show (t.Texts.set k _)[_]? = _; rw [← hq, List.getElem?_set_self (List.getElem?_eq_some_iff.1 hy).1])
    unfold sayAt at h ⊢
    rw [e1] at h hn
    rw [e2]
    have hi : x.No.toNat < ys.length := by omega
    refine ⟨⟨h.1.1, ?_⟩, ?_⟩
    · rw [isIn_iff']; simp only [List.length_append, List.length_singleton]; omega
    · rw [List.getD_eq_getElem?_getD, List.getElem?_append_left hi, ← List.getD_eq_getElem?_getD]; exact h.2
  · have e2 : tAt { t with Texts := t.Texts.set k (ys ++ [s]) } x.Who = tAt t x.Who := by
      unfold tAt
      show (t.Texts.set k _).getD _ _ = _
      rw [List.getD_eq_getElem?_getD, List.getD_eq_getElem?_getD, List.getElem?_set_ne hq]
    unfold sayAt at h ⊢
    rw [e2]
    exact h
theorem run_put {t : Tell} {k : Nat} {ys : List ByteArray} {s : ByteArray} (hy : t.Texts[k]? = some ys) : ∀ (n : Nat) (l : List Told), l.length = n → ∀ r, logRun t l = some r → logRun { t with Texts := t.Texts.set k (ys ++ [s]) } l = some r
  | 0, l, hl, r, h => by
    rw [List.length_eq_zero_iff.1 hl] at h ⊢
    unfold logRun at h ⊢
    rw [List.foldl_nil] at h ⊢
    rw [← h]
    show some (List.replicate (t.Texts.set k _).length 0) = _
    rw [List.length_set]
  | n + 1, l, hl, r, h => by
    rcases List.eq_nil_or_concat l with rfl | ⟨l', x, rfl⟩
    · cases hl
    · rw [List.concat_eq_append] at hl h ⊢
      rw [logRun_snoc] at h ⊢
      cases hr : logRun t l' with
      | none => rw [hr] at h; cases h
      | some r' =>
        rw [hr] at h
        rw [run_put hy n l' (by simpa using hl) r' hr]
        show logStep _ r' x = some r
        have h' : logStep t r' x = some r := h
        unfold logStep at h' ⊢
        split at h'
        · rename_i hc
          rw [Bool.and_eq_true] at hc
          rw [if_pos (by rw [Bool.and_eq_true]; exact ⟨said_put hy hc.1, hc.2⟩)]
          exact h'
        · cases h'
theorem GoodP.put {t : Tell} (h : GoodP t) (k : Int) (s : ByteArray) : GoodP (tput t k s).1 := by
  unfold tput
  split
  · rename_i hp
    have hk : k.toNat < t.Texts.length := by omega
    obtain ⟨ys, a, b, e1, e2, e3, g1, g2, g3, g4⟩ := h.at_ hk
    have ey : tAt t k = ys := tAt_of e1
    rw [ey] at hp ⊢
    have hpp := good_pre h.pre
    have hlen : (t.Texts.set k.toNat (ys ++ [s])).length = t.Texts.length := List.length_set
    refine ⟨good_pre_mk (by show 1 ≤ (t.Texts.set _ _).length ∧ _; rw [hlen]; exact hpp.1) (by show _ = (t.Texts.set _ _).length; rw [hlen]; exact hpp.2.1) (by show _ = (t.Texts.set _ _).length; rw [hlen]; exact hpp.2.2.1) hpp.2.2.2, fun j hj => ?_, fun m hm => ?_, run_put e1 _ t.Log rfl _ h.lg⟩
    · have hj' : j < t.Texts.length := by rw [← hlen]; exact hj
      obtain ⟨l', a', b', d1, d2, d3, j1, j2, j3, j4⟩ := h.at_ hj'
      by_cases hq : k.toNat = j
      · subst hq
        rw [e1] at d1; injection d1 with d1; subst d1
        refine textOk_mk (l := ys ++ [s]) (by show (t.Texts.set _ _)[_]? = _; rw [List.getElem?_set_self hk]) d2 d3 (by simp; omega) ?_ (by simp only [List.length_append, List.length_singleton]; omega) j4
        rw [List.all_append, g2]
        simp; omega
      · exact textOk_mk (by show (t.Texts.set _ _)[_]? = _; rw [List.getElem?_set_ne hq]; exact d1) d2 d3 j1 j2 j3 j4
    · have hn := h.nt m hm
      unfold noteOk at hn ⊢
      rw [Bool.and_eq_true] at hn ⊢
      refine ⟨by show isIn _ 0 (((t.Texts.set _ _).length : Int) - 1) = true; rw [hlen]; exact hn.1, ?_⟩
      have hn2 := hn.2
      split
      · rename_i hb; rw [if_pos hb] at hn2; exact hn2
      · rename_i hb; rw [if_neg hb] at hn2; exact said_put e1 hn2
  · exact h
theorem GoodP.step {t : Tell} (h : GoodP t) (s : TellStep) : GoodP (tstep t s).1 := by
  have hpp := good_pre h.pre
  unfold tstep
  split
  · exact h.put _ _
  · split
    · exact h
    · rename_i hn1 hn2
      split
      · split
        · rename_i hk
          have hkn : s.K.toNat < t.Texts.length := by omega
          obtain ⟨ys, a, b, e1, e2, e3, g1, g2, g3, g4⟩ := h.at_ hkn
          have ey : tAt t s.K = ys := tAt_of e1
          have eb : iAt t.Heard s.K = b := iAt_of e3
          rw [ey, eb] at hk
          refine h.send ?_
          unfold noteOk
          rw [if_neg (by simp), Bool.and_eq_true]
          dsimp only
          rw [isIn_iff']
          refine ⟨by omega, ?_⟩
          unfold saidOk sayAt
          dsimp only
          rw [eb, ey, Bool.and_eq_true, Bool.and_eq_true, isIn_iff', isIn_iff']
          exact ⟨⟨by omega, by omega⟩, by simp⟩
        · exact h
      · split
        · rename_i hk
          have hki : s.K.toNat < t.Line.length := by omega
          have hx := List.getElem?_eq_getElem hki
          have hm : noteOk t (noteAt t s.K) = true := by
            rw [noteAt_of hx]; exact h.nt _ (List.getElem_mem hki)
          have he : GoodP { t with Line := t.Line.eraseIdx s.K.toNat } := h.line _ (Nat.le_trans (List.length_eraseIdx_le _ _) hpp.2.2.2) (fun m hm => h.nt m (List.mem_of_mem_eraseIdx hm))
          split
          · split
            · exact h
            · rename_i hl
              refine h.line _ (by simp only [List.length_append, List.length_singleton]; omega) (fun x hx => ?_)
              rcases List.mem_append.1 hx with hx | hx
              · exact h.nt x hx
              · rw [List.mem_singleton.1 hx]; exact hm
          · split
            · exact he.take ((note_same (t := t) rfl rfl _).trans hm)
            · exact he
        · exact h
end Pl
end Go.Proofs.Ytaepohocabealaa

/-
  Contracts: WrittenOf, the program's (chapter 10). No conditions.
-/
namespace Go.Proofs.Ytaepohocabealaa
open Go.RowKit
attribute [local go_sem] und_cell cha_cell World.cell?_alloc_some
/-- the texts of one teller in a log -/
def Pl.textsOf (l : List Told) (who : Int) : List ByteArray := (l.filter fun x => decide (x.Who = who)).map Told.Text
def Pl.writtenOf (t : Tell) (who : Int) : List ByteArray × Bool := if (Pl.goodTell t && Pl.isIn who 0 ((t.Texts.length : Int) - 1)) = true then (Pl.textsOf t.Log who, true) else ([], false)
theorem Pl.textsOf_snoc (l : List Told) (x : Told) (who : Int) : Pl.textsOf (l ++ [x]) who = Pl.textsOf l who ++ (if x.Who = who then [x.Text] else []) := by
  unfold Pl.textsOf
  rw [List.filter_append, List.map_append]
  by_cases h : x.Who = who <;> simp [h]
theorem Pl.textsOf_len (l : List Told) (who : Int) : (Pl.textsOf l who).length ≤ l.length := by
  unfold Pl.textsOf
  rw [List.length_map]
  exact List.length_filter_le _ _
set_option maxRecDepth 100000 in
set_option maxHeartbeats 4000000 in
theorem implWrittenOf_c (t : Tell) (who : Int) (cs : List Value) (w : World) (B : Nat) (hh : rTell.at_ w B t cs) (hB : B ≤ w.heap.size) :
    Calls Try.prog 15 #[.agg cs.toArray, .int .i64 who] w (Mm.RetS2 Mm.str 9 w (Pl.writtenOf t who).1 (Pl.writtenOf t who).2) := by
  have HHH := Lib.hid (And.intro hh hB)
  obtain ⟨A0, n0, c0, A1, n1, c1, A2, n2, c2, A3, n3, c3, A4, n4, c4, rfl, r0, r1, r2, r3, r4⟩ := rTell_at hh
  have m0 : n0 ≤ maxLen := Nat.le_trans r0.2.1 r0.2.2.1
  have m1 : n1 ≤ maxLen := Nat.le_trans r1.2.1 r1.2.2.1
  have m2 : n2 ≤ maxLen := Nat.le_trans r2.2.1 r2.2.2.1
  have m3 : n3 ≤ maxLen := Nat.le_trans r3.2.1 r3.2.2.1
  have m4 : n4 ≤ maxLen := Nat.le_trans r4.2.1 r4.2.2.1
  unfold maxLen at m0 m1 m2 m3 m4
  have HLN := Lib.hid (And.intro r0.1 (And.intro r1.1 (And.intro r2.1 (And.intro r3.1 r4.1))))
  have hbel : Below w.heap.size w (w.alloc (.cells #[.slice A0 n0 c0, .slice A1 n1 c1, .slice A2 n2 c2, .slice A3 n3 c3, .slice A4 n4 c4] 31)) := below_new (Below.refl _ _) _
  have HKK := Lib.hid (Mm.Blk.new w 31 [.slice A0 n0 c0, .slice A1 n1 c1, .slice A2 n2 c2, .slice A3 n3 c3, .slice A4 n4 c4])
  have HR0 := Lib.hid (r0.keep fun b hb => hbel.block b (by omega))
  have HR1 := Lib.hid (r1.keep fun b hb => hbel.block b (by omega))
  have HR2 := Lib.hid (r2.keep fun b hb => hbel.block b (by omega))
  have HR3 := Lib.hid (r3.keep fun b hb => hbel.block b (by omega))
  have HR4 := Lib.hid (r4.keep fun b hb => hbel.block b (by omega))
  have HBW := Lib.hid (Nat.le_trans hB hbel.size)
  have HT0 := Lib.hid hbel
  clear hbel r0 r1 r2 r3 r4 hh hB
  go_enter Try.func15, Try.ntmps15
  go_upto_region 1 with fail
  obtain ⟨gt, hgt⟩ : ∃ gt, w.heap.size = gt := ⟨_, rfl⟩
  obtain ⟨W0, hW0⟩ : ∃ W0, w.alloc (.cells #[.slice A0 n0 c0, .slice A1 n1 c1, .slice A2 n2 c2, .slice A3 n3 c3, .slice A4 n4 c4] 31) = W0 := ⟨_, rfl⟩
  rw [show [Value.slice A0 n0 c0, .slice A1 n1 c1, .slice A2 n2 c2, .slice A3 n3 c3, .slice A4 n4 c4].toArray = #[.slice A0 n0 c0, .slice A1 n1 c1, .slice A2 n2 c2, .slice A3 n3 c3, .slice A4 n4 c4] from rfl, hW0, hgt] at HKK
  rw [hW0] at HR0 HR1 HR2 HR3 HR4 HT0 HBW
  rw [hW0, hgt]
  have HGT := Lib.hid hgt
  clear hW0 hgt
  have d0 := HKK.out.cell (i := 0) rfl
  have d1 := HKK.out.cell (i := 1) rfl
  have d2 := HKK.out.cell (i := 2) rfl
  have d3 := HKK.out.cell (i := 3) rfl
  have d4 := HKK.out.cell (i := 4) rfl
  have HT := Lib.hid (rTell.keep HHH.out.1 (w' := W0) fun b hb => HT0.out.block b (by have := HHH.out.2; omega))
  obtain ⟨gg, hgg⟩ : ∃ gg, Pl.goodTell t = gg := ⟨_, rfl⟩
  have HGG := Lib.hid hgg
  clear hgg
  have CG := HGG.out ▸ isTell_c t _ W0 B HT.out HBW.out
  have hw1 : IntKind.i64.wrap ((n0 : Int) - 1) = (n0 : Int) - 1 := IntWalk.i64_in _ (by omega)
  cases gg with
  | false =>
    have HF : Hid (Pl.writtenOf t who = ([], false)) := if_neg (by rw [HGG.out]; simp)
    go_wp2_with (go_at_call 53; (with_reducible refine CG.mono ?_); rintro e w1 ⟨rfl, hX⟩)
    rw [HF.out]
    go_ret2
    exact (Mm.Acc.nil (below_step HT0.out hX)).ret
  | true =>
  obtain ⟨gi, hgi⟩ : ∃ gi, Pl.isIn who 0 ((n0 : Int) - 1) = gi := ⟨_, rfl⟩
  have HGI := Lib.hid hgi
  clear hgi
  have HW := Lib.hid (Pl.good_wf HGG.out)
  have hlog := HW.out.log_len
  rw [HLN.out.2.2.2.1] at hlog
  cases gi with
  | false =>
    have HF : Hid (Pl.writtenOf t who = ([], false)) := if_neg (by rw [HLN.out.1, HGI.out]; simp)
    go_wp2_with (first | (go_at_call 53; (with_reducible refine CG.mono ?_); rintro e w1 ⟨rfl, hX⟩; replace d0 := below_some hX d0) | (go_at_call 47; (with_reducible refine (within_is HGI.out _).mono ?_); rintro e w' ⟨rfl, rfl⟩))
    rw [HF.out]
    go_ret2
    exact (Mm.Acc.nil (below_step HT0.out hX)).ret
  | true =>
    have HF : Hid (Pl.writtenOf t who = (Pl.textsOf t.Log who, true)) := if_pos (by rw [HLN.out.1, HGG.out, HGI.out]; rfl)
    obtain ⟨i0, hi, hz0, hz1, hz2⟩ := info_parts Try.infoStr
    go_wp2_with (first | (go_at_call 53; (with_reducible refine CG.mono ?_); rintro e w1 ⟨rfl, hX⟩; (replace d0 := below_some hX d0); (replace d3 := below_some hX d3)) | (go_at_call 47; (with_reducible refine (within_is HGI.out _).mono ?_); rintro e w' ⟨rfl, rfl⟩))
    clear d0 d1 d2 d3 d4
    have HBX := below_step HT0.out hX
    clear hX
    go_loopg [6, 24] n3 (fun g o i wr => ∃ k : Nat, n3 - k ≤ g ∧ k ≤ n3 ∧ i = .int .i64 k ∧ Mm.Acc Mm.str 9 w (Pl.textsOf (t.Log.take k) who) o wr)
    case atStart => exact ⟨0, Nat.le_refl _, Nat.zero_le _, rfl, Mm.Acc.nil HBX⟩
    case round =>
      clear HBX
      obtain ⟨k, hgk, hk, rfl, hacc⟩ := hrel
      obtain ⟨W, rfl⟩ : ∃ W : World, W = wr := ⟨_, rfl⟩
      have hbel := hacc.bel
      have hsw := hbel.size
      obtain ⟨A', n', c', rfl, hn', -, -, -⟩ := hacc.form
      have hnk : n' ≤ k := by
        rw [hn']
        refine Nat.le_trans (Pl.textsOf_len _ _) ?_
        rw [List.length_take]; omega
      have HA := Lib.hid hacc
      have HNL : Hid (n' = (Pl.textsOf (t.Log.take k) who).length) := hn'
      clear hacc hn'
      by_cases hlt : k < n3
      · obtain ⟨⟨xW, xN, xT⟩, b, off, hx, rfl, hb, mi0, mi1, mi2, e0, e1, e2⟩ := rTold_get ((show Mm.SlAt rTold W B t.Log A3 n3 c3 from HR3.out.keep fun b hb => (hbel.block b (Nat.lt_of_lt_of_le hb HHH.out.2)).trans (HT0.out.block b (Nat.lt_of_lt_of_le hb HHH.out.2)).symm)) hlt
        dsimp only at mi0 mi1 mi2 e0 e1 e2
        have f1 : (k : Int) < (n3 : Nat) := by omega
        have f2 : (0 : Int) ≤ (k : Nat) := by omega
        have f3 : ((k : Nat) : Int).toNat = k := by omega
        have HTS : Hid (t.Log.take (k + 1) = t.Log.take k ++ [⟨xW, xN, xT⟩]) := by
          obtain ⟨hk', hg⟩ := List.getElem?_eq_some_iff.1 hx
          show _ = _
          rw [List.take_succ_eq_append_getElem hk', hg]
        have HMI := Lib.hid mi2
        clear hx mi0 mi1 mi2
        unfold maxLen at HMI
        by_cases hw : xW = who
        · obtain rfl : who = xW := hw.symm
          have HN : Hid (Pl.textsOf (t.Log.take (k + 1)) who = Pl.textsOf (t.Log.take k) who ++ [xT]) := by show _ = _; rw [HTS.out, Pl.textsOf_snoc, if_pos rfl]
          obtain ⟨l0, ho, hnext⟩ := HA.out.push (W2 := (W.alloc (.cells #[.int .i64 who, .int .i64 xN, .string xT] 52)).alloc (.cells #[.string xT] 9)) (below_new (below_new (Below.refl _ _) _) _) (x := xT) (cx := [.string xT]) (fx := []) ⟨rfl, HMI.out, rfl⟩ List.nodup_nil (fun b hb => by cases hb)
          rw [← HNL.out] at ho hnext
          have HNX := Lib.hid hnext
          have HO := Lib.hid ho
          clear ho hnext
          go_wp2_with (at_builtin; refine wpList_append_lies _ (by rfl) _ _ _ (by rfl) 0 9 i0 _ 1 16 Try.underlying40 hi hz0 hz1 hz2 rfl (by omega) _ n' l0 (by rfl) HO.out ⟨W.heap.size + 1, 0, none⟩ 1 1 [.string xT] (by rfl) (by rfl) (World.news_of_block (B := W.heap.size + 1) (cs := #[.string xT]) (t := 9) (fr := (0, 0)) (Mm.heap_new _ (Mm.sz1 _ _) _)) (by simp [Value.oneCell']) (by omega) (by unfold maxLen; omega) (by omega) (Nat.zero_le _) _ rfl ?_; intro gg cap w2 hown1 hgrow hat hlt9; have HAC := Lib.hid (HNX.out gg cap w2 hown1 hgrow hat); clear hown1 hgrow hat hlt9)
          go_roundg (n3 - (k + 1))
          case measure => omega
          case rel => exact ⟨k + 1, Nat.le_refl _, by omega, by go_num, by rw [HN.out]; exact HAC.out⟩
        · have HN : Hid (Pl.textsOf (t.Log.take (k + 1)) who = Pl.textsOf (t.Log.take k) who) := by show _ = _; rw [HTS.out, Pl.textsOf_snoc, if_neg hw, List.append_nil]
          go_wp2
          go_roundg (n3 - (k + 1))
          case measure => omega
          case rel => exact ⟨k + 1, Nat.le_refl _, by omega, by go_num, by rw [HN.out]; exact HA.out.step (below_new (Below.refl _ _) _)⟩
      · obtain rfl : n3 = k := by omega
        have HTK : Hid (t.Log.take n3 = t.Log) := List.take_of_length_le (by have := HLN.out.2.2.2.1; omega)
        have hlt' : ¬ (n3 : Int) < (n3 : Nat) := by omega
        have HR := Lib.hid (HA.out.ret (b := true))
        rw [HTK.out] at HR
        go_wp2
        go_ret2
        rw [HF.out]
        exact HR.out
end Go.Proofs.Ytaepohocabealaa

/-
  Plain laws: what is written of a good teller, and a settled teller. No program in sight. No conditions.
-/
namespace Go.Proofs.Ytaepohocabealaa
namespace Pl
theorem log_texts {t : Tell} : ∀ (n : Nat) (l : List Told), l.length = n → ∀ r, logRun t l = some r → r.length = t.Texts.length ∧ ∀ k : Nat, k < t.Texts.length → 0 ≤ iAt r k ∧ iAt r k ≤ ((tAt t k).length : Nat) ∧ textsOf l k = (tAt t k).take (iAt r k).toNat
  | 0, l, hl, r, h => by
    rw [List.length_eq_zero_iff.1 hl] at h ⊢
    unfold logRun at h
    rw [List.foldl_nil] at h
    injection h with h
    subst h
    refine ⟨List.length_replicate, fun k hk => ?_⟩
    have : iAt (List.replicate t.Texts.length 0) k = 0 := iAt_of (by rw [show ((k : Nat) : Int).toNat = k by omega, List.getElem?_replicate, if_pos hk])
    rw [this]
    exact ⟨Int.le_refl _, by omega, rfl⟩
  | n + 1, l, hl, r, h => by
    rcases List.eq_nil_or_concat l with rfl | ⟨l', x, rfl⟩
    · cases hl
    · rw [List.concat_eq_append] at hl h ⊢
      rw [logRun_snoc] at h
      cases hr : logRun t l' with
      | none => rw [hr] at h; cases h
      | some r' =>
        rw [hr] at h
        have ih := log_texts n l' (by simpa using hl) r' hr
        have h' : logStep t r' x = some r := h
        unfold logStep at h'
        split at h'
        · rename_i hc
          rw [Bool.and_eq_true, decide_eq_true_eq] at hc
          injection h' with h'
          subst h'
          refine ⟨by rw [List.length_set]; exact ih.1, fun k hk => ?_⟩
          have hx := said_no hc.1
          have i1 := ih.2 k hk
          rw [textsOf_snoc]
          by_cases hq : x.Who = k
          · rw [if_pos hq]
            have ex : x.Text = sayAt t x := by
              have := hc.1
              unfold saidOk at this
              rw [Bool.and_eq_true, beq_iff_eq] at this
              exact (ba_inj this.2).symm
            have e1 : iAt (r'.set x.Who.toNat (iAt r' x.Who + 1)) k = iAt r' k + 1 := iAt_of (by rw [hq, List.getElem?_set_self (by rw [ih.1]; omega)])
            rw [e1]
            rw [hq] at hc hx
            have e2 : (iAt r' k + 1).toNat = (iAt r' k).toNat + 1 := by omega
            refine ⟨by omega, by omega, ?_⟩
            have hlt : (iAt r' k).toNat < (tAt t k).length := by omega
            rw [e2, List.take_succ_eq_append_getElem hlt, i1.2.2, ex]
            unfold sayAt
            rw [hq, hc.2, List.getD_eq_getElem?_getD, List.getElem?_eq_getElem hlt]
            rfl
          · rw [if_neg hq, List.append_nil]
            have e1 : iAt (r'.set x.Who.toNat (iAt r' x.Who + 1)) k = iAt r' k := by
              unfold iAt
              rw [List.getD_eq_getElem?_getD, List.getElem?_set_ne (by omega), List.getD_eq_getElem?_getD]
            rw [e1]
            exact i1
        · cases h'
theorem GoodP.new {n : Nat} (h1 : 1 ≤ n) (h4 : n ≤ 4) : GoodP (newTe n) := by
  have lT : (newTe n).Texts.length = n := List.length_replicate
  have lH : (newTe n).Heard.length = n := List.length_replicate
  have lN : (newTe n).Next.length = n := List.length_replicate
  refine ⟨good_pre_mk (by omega) (by omega) (by omega) (Nat.zero_le _), fun k hk => ?_, fun m hm => (by cases hm), ?_⟩
  · rw [lT] at hk
    exact textOk_mk (l := []) (a := 0) (b := 0) (by show (List.replicate n _)[k]? = _; rw [List.getElem?_replicate, if_pos hk]) (by show (List.replicate n _)[k]? = _; rw [List.getElem?_replicate, if_pos hk]) (by show (List.replicate n _)[k]? = _; rw [List.getElem?_replicate, if_pos hk]) (Nat.zero_le _) rfl ⟨Int.le_refl _, Int.le_refl _⟩ ⟨Int.le_refl _, Int.le_refl _⟩
  · show some (List.replicate (newTe n).Texts.length 0) = some (List.replicate n 0)
    rw [lT]
/-- what a step leaves: the number of tellers, and what is acknowledged grows -/
def Grew (t t' : Tell) : Prop := t'.Texts.length = t.Texts.length ∧ ∀ j : Nat, iAt t.Heard j ≤ iAt t'.Heard j
theorem Grew.refl (t : Tell) : Grew t t := ⟨rfl, fun _ => Int.le_refl _⟩
theorem Grew.same {t t' : Tell} (h1 : t'.Texts.length = t.Texts.length) (h2 : t'.Heard = t.Heard) : Grew t t' := ⟨h1, fun j => by rw [h2]; exact Int.le_refl _⟩
theorem Grew.trans {a b c : Tell} (h1 : Grew a b) (h2 : Grew b c) : Grew a c := ⟨h2.1.trans h1.1, fun j => Int.le_trans (h1.2 j) (h2.2 j)⟩
theorem send_grew (t : Tell) (m : Note) : Grew t (tsend t m) := by unfold tsend; split <;> exact .same rfl rfl
theorem back_grew (t : Tell) (x : Told) : Grew t (tback t x) := by
  refine ⟨rfl, fun j => ?_⟩
  show _ ≤ iAt (t.Heard.set _ _) j
  by_cases hq : x.Who.toNat = j
  · by_cases hj : j < t.Heard.length
    · have e : iAt t.Heard x.Who = iAt t.Heard (j : Int) := by unfold iAt; rw [hq]; rfl
      rw [iAt_of (l := t.Heard.set x.Who.toNat _) (k := (j : Int)) (by rw [hq, show ((j : Nat) : Int).toNat = j by omega, List.getElem?_set_self hj]), e]
      split <;> omega
    · rw [List.set_eq_of_length_le (by omega)]; exact Int.le_refl _
  · have : iAt (t.Heard.set x.Who.toNat (if iAt t.Heard x.Who < x.No then x.No else iAt t.Heard x.Who)) (j : Int) = iAt t.Heard j := by
      unfold iAt
      rw [List.getD_eq_getElem?_getD, List.getElem?_set_ne (by omega), List.getD_eq_getElem?_getD]
    rw [this]; exact Int.le_refl _
theorem log_grew (t : Tell) (x : Told) : Grew t (tlog t x) := by unfold tlog; split <;> exact .same rfl rfl
theorem take_grew (t : Tell) (m : Note) : Grew t (ttake t m) := by
  unfold ttake
  split
  · exact back_grew _ _
  · exact (log_grew _ _).trans (send_grew _ _)
theorem step_grew (t : Tell) (s : TellStep) : Grew t (tstep t s).1 := by
  unfold tstep
  split
  · unfold tput
    split
    · exact .same List.length_set rfl
    · exact .refl _
  · split
    · exact .refl _
    · split
      · split
        · exact send_grew _ _
        · exact .refl _
      · split
        · split
          · split
            · exact .refl _
            · exact .same rfl rfl
          · split
            · exact (Grew.same (t := t) (t' := { t with Line := t.Line.eraseIdx s.K.toNat }) rfl rfl).trans (take_grew _ _)
            · exact .same rfl rfl
        · exact .refl _
theorem GoodP.play {t : Tell} (h : GoodP t) : ∀ (n : Nat) (l : List TellStep), l.length = n → GoodP (playL t l).1 ∧ (playL t l).1.Texts.length = t.Texts.length
  | 0, l, hl => by
    rw [List.length_eq_zero_iff.1 hl]
    exact ⟨h, rfl⟩
  | n + 1, l, hl => by
    rcases List.eq_nil_or_concat l with rfl | ⟨l', s, rfl⟩
    · cases hl
    · rw [List.concat_eq_append] at hl ⊢
      have ih := h.play n l' (by simpa using hl)
      rw [playL_snoc]
      exact ⟨ih.1.step s, (step_grew _ _).1.trans ih.2⟩
theorem GoodP.settleOne {t : Tell} (h : GoodP t) (k : Int) : GoodP (settleOne t k) ∧ Grew t (settleOne t k) := by
  unfold Pl.settleOne
  exact ⟨(((h.line [] (Nat.zero_le _) (fun m hm => by cases hm)).step _).step _).step _, (Grew.same (t := t) (t' := noLine t) rfl rfl).trans (((step_grew _ _).trans (step_grew _ _)).trans (step_grew _ _))⟩
theorem GoodP.settleF {k : Nat} : ∀ (f : Nat) (t : Tell) (c : Int), GoodP t → k < t.Texts.length → ((tAt t k).length : Int) - iAt t.Heard k ≤ f → GoodP (Pl.settleF f t k c).1 ∧ Grew t (Pl.settleF f t k c).1 ∧ (Pl.settleF f t k c).1.Texts = t.Texts ∧ ((tAt t k).length : Int) ≤ iAt (Pl.settleF f t k c).1.Heard k
  | 0, t, c, h, hk, hf => ⟨h, .refl t, rfl, by show _ ≤ iAt t.Heard k; omega⟩
  | f + 1, t, c, h, hk, hf => by
    unfold Pl.settleF
    by_cases hl : iAt t.Heard (k : Int) < ((tAt t (k : Int)).length : Nat)
    · rw [if_pos hl]
      have g := good_iff.2 h
      obtain ⟨-, -, hT, hH⟩ := settle_one (good_wf g) (good_hle g) hk hl
      have h1 := h.settleOne k
      have eT : tAt (Pl.settleOne t k) k = tAt t k := by unfold tAt; rw [hT]
      have ih := GoodP.settleF f (Pl.settleOne t k) (c + 1) h1.1 (by rw [hT]; exact hk) (by rw [eT]; push_cast at hf; omega)
      rw [eT] at ih
      exact ⟨ih.1, h1.2.trans ih.2.1, ih.2.2.1.trans hT, ih.2.2.2⟩
    · rw [if_neg hl]
      exact ⟨h, .refl t, rfl, by show _ ≤ iAt t.Heard k; omega⟩
theorem GoodP.settleTo {t : Tell} (h : GoodP t) : ∀ k, k ≤ t.Texts.length → GoodP (Pl.settleTo t k).1 ∧ Grew t (Pl.settleTo t k).1 ∧ (Pl.settleTo t k).1.Texts = t.Texts ∧ ∀ j : Nat, j < k → ((tAt t j).length : Int) ≤ iAt (Pl.settleTo t k).1.Heard j
  | 0, _ => ⟨h, .refl t, rfl, fun j hj => absurd hj (Nat.not_lt_zero _)⟩
  | k + 1, hk => by
    have ih := h.settleTo k (by omega)
    have hk' : k < (Pl.settleTo t k).1.Texts.length := by rw [ih.2.2.1]; omega
    have eT : ∀ j : Int, tAt (Pl.settleTo t k).1 j = tAt t j := fun j => by unfold tAt; rw [ih.2.2.1]
    obtain ⟨l, a, b, e1, e2, e3, g1, g2, g3, g4⟩ := ih.1.at_ hk'
    have el : tAt (Pl.settleTo t k).1 (k : Int) = l := tAt_of (by simpa using e1)
    have eb : iAt (Pl.settleTo t k).1.Heard (k : Int) = b := iAt_of (by simpa using e3)
    have := GoodP.settleF (k := k) 21 (Pl.settleTo t k).1 (Pl.settleTo t k).2 ih.1 hk' (by rw [el, eb]; omega)
    refine ⟨this.1, ih.2.1.trans this.2.1, this.2.2.1.trans ih.2.2.1, fun j hj => ?_⟩
    rcases Nat.lt_succ_iff_lt_or_eq.1 hj with h1 | rfl
    · exact Int.le_trans (ih.2.2.2 j h1) (this.2.1.2 j)
    · have h5 := this.2.2.2
      rw [eT] at h5
      exact h5
/-- what the law on writings needs -/
theorem once_texts {t : Tell} (h : GoodP t) {k : Nat} (hk : k < t.Texts.length) {l : List ByteArray} (hl : t.Texts[k]? = some l) :
    writtenOf t k = (textsOf t.Log k, true) ∧ (textsOf t.Log k).length ≤ l.length ∧ textsOf t.Log k = l.take (textsOf t.Log k).length ∧ ∃ b, t.Heard[k]? = some b ∧ b ≤ (textsOf t.Log k).length := by
  have el : tAt t (k : Int) = l := tAt_of (by simpa using hl)
  have := (log_texts _ t.Log rfl t.Next h.lg).2 k hk
  rw [el] at this
  obtain ⟨l', a, b, e1, e2, e3, g1, g2, g3, g4⟩ := h.at_ hk
  have ea : iAt t.Next (k : Int) = a := iAt_of (by simpa using e2)
  rw [ea] at this
  have hlen : (textsOf t.Log k).length = a.toNat := by rw [this.2.2, List.length_take]; omega
  refine ⟨if_pos (by rw [good_iff.2 h, Bool.true_and, isIn_iff']; omega), by omega, by rw [hlen]; exact this.2.2, b, e3, by omega⟩
theorem once_settled {t : Tell} (h : GoodP t) {k : Nat} (hk : k < t.Texts.length) {l : List ByteArray} (hl : t.Texts[k]? = some l) :
    writtenOf (Pl.settleTo t t.Texts.length).1 k = (l, true) := by
  have hs := h.settleTo t.Texts.length (Nat.le_refl _)
  have el : tAt t (k : Int) = l := tAt_of (by simpa using hl)
  have hk' : k < (Pl.settleTo t t.Texts.length).1.Texts.length := by rw [hs.2.2.1]; exact hk
  have hl' : (Pl.settleTo t t.Texts.length).1.Texts[k]? = some l := by rw [hs.2.2.1]; exact hl
  obtain ⟨w1, w2, w3, b, w4, w5⟩ := once_texts hs.1 hk' hl'
  have eb : iAt (Pl.settleTo t t.Texts.length).1.Heard (k : Int) = b := iAt_of (by simpa using w4)
  have h6 := hs.2.2.2 k hk
  rw [eb, el] at h6
  rw [w1, w3, List.take_of_length_le (by omega)]
end Pl
end Go.Proofs.Ytaepohocabealaa

/-
  Contracts: the cursor that draws choices from bytes. No conditions.
-/
namespace Go.Proofs.Ytaepohocabealaa
open Go.RowKit
attribute [local go_sem] und_cell World.cell?_alloc_some
namespace Mm
def U8 (n : Int) : Prop := 0 ≤ n ∧ n ≤ 255
def u8 : Rep Int := flat 1 (fun n => [.int .u8 n]) U8 (fun _ => rfl) (fun _ u hu => by rw [List.mem_singleton.1 hu]; rfl)
theorem opens_u8 {P : Program} {t : TypeId} (ht : P.underlying t = some (.int .u8)) (hc : P.cellsOf t = 1) : Opens P t u8 := ⟨hc, fun H enc w base spare held fuel cs x h => by
  obtain ⟨n, rfl, _, hw⟩ := DataW.trod_int ht h
  refine ⟨n, rfl, ?_⟩
  simp [Lit.wf, IntKind.min, IntKind.max, IntKind.signed, IntKind.bits] at hw
  unfold U8
  omega⟩
/-- a cursor: its block -/
def tcur (T : TypeId) (A : Option Addr) (n c g K : Nat) : Thing :=
  ⟨[g], fun w => ∃ at_ seed : Int, Blk w g T [.slice A n c, .int .i64 at_, .int .u64 seed] ∧ 0 ≤ at_ ∧ at_ ≤ K, fun ⟨a, s, h1, h2⟩ k => ⟨a, s, h1.keep (k g (by simp)), h2⟩, fun ⟨a, s, h1, h2⟩ b hb => by rw [List.mem_singleton.1 hb]; exact h1.lt⟩
theorem tcur_more {T : TypeId} {A : Option Addr} {n c g K K' : Nat} {w : World} (h : (tcur T A n c g K).holds w) (hk : K ≤ K') : (tcur T A n c g K').holds w := by
  obtain ⟨a, s, h1, h2, h3⟩ := h
  exact ⟨a, s, h1, h2, by omega⟩
theorem SepF.swapFor {F : List Nat} {w0 wr : World} {ts : List Thing} {t t' : Thing} (h : SepF F w0 wr ts) (i : Nat) (hi : ts[i]? = some t) (hf : t'.fp = t.fp) (hh : t.holds wr → t'.holds wr) : SepF F w0 wr (ts.set i t') :=
  h.upd hi (Chg.refl _ _) (hh (h.at_ i hi)) (by rw [hf]; exact h.ndat hi) (fun b hb => .inl (hf ▸ hb))
theorem SepF.more {F : List Nat} {w0 wr : World} {ts : List Thing} {T : TypeId} {A : Option Addr} {n c g K K' : Nat} (h : SepF F w0 wr ts) (i : Nat) (hi : ts[i]? = some (tcur T A n c g K)) (hk : K ≤ K') : SepF F w0 wr (ts.set i (tcur T A n c g K')) :=
  h.swapFor i hi rfl fun h => tcur_more h hk
end Mm
theorem opens_u8S : Mm.Opens Try.prog 22 (Mm.slice Mm.u8 5) := Mm.opens_slice Try.underlying22 (by kernel_rfl) (by decide) (Mm.opens_u8 Try.underlying5 (by kernel_rfl))
theorem next_left {T : TypeId} {A : Option Addr} {n c g K p q : Nat} {a s a' s' : Int} {w : World} (hb : Mm.Blk w g T [.slice A n c, .int .i64 a, .int .u64 s]) (h0 : 0 ≤ a') (h1 : a' ≤ K) :
    Mm.Left [g] w ((((w.drewN p).setCell ⟨g, 1, none⟩ (.int .i64 a')).setCell ⟨g, 2, none⟩ (.int .u64 s')).drewN q) (Mm.tcur T A n c g K) := by
  have h2 := (((hb.bel (below_drewN (Below.refl _ w) p)).set_ 1 (.int .i64 a')).set_ 2 (.int .u64 s'))
  have h3 := h2.bel (below_drewN (Below.refl _ _) q)
  have h4 : Mm.Chg [g] w (((w.drewN p).setCell ⟨g, 1, none⟩ (.int .i64 a')).setCell ⟨g, 2, none⟩ (.int .u64 s')) := ((Mm.Chg.of_below (below_drewN (Below.refl _ w) p)).setCell (by simp) _).setCell (by simp) _
  exact ⟨h4.trans (Mm.Chg.of_below (below_drewN (Below.refl _ _) q)), by simp [Mm.tcur], fun b hb => .inl (by simpa [Mm.tcur] using hb), a', s', h3, h0, h1⟩
theorem u64_bd (z : Int) : 0 ≤ IntKind.u64.wrap z ∧ IntKind.u64.wrap z < 18446744073709551616 := by rw [IntKind.wrap_u64]; omega
theorem and255 (z : Int) : 0 ≤ wrap64 (bits .and .u64 (IntKind.u64.wrap z / 1099511627776) 255) ∧ wrap64 (bits .and .u64 (IntKind.u64.wrap z / 1099511627776) 255) ≤ 255 := by
  have h := u64_bd z
  obtain ⟨m, hm⟩ : ∃ m : Nat, IntKind.u64.wrap z / 1099511627776 = m := ⟨(IntKind.u64.wrap z / 1099511627776).toNat, by omega⟩
  rw [hm, show (255 : Int) = ((255 : Nat) : Int) from rfl, bits_and_u64_nat m 255 (by omega) (by omega)]
  have h2 : m &&& 255 ≤ 255 := Nat.and_le_right
  rw [IntWalk.wrap64_in _ (by omega)]
  omega
set_option maxRecDepth 100000 in
set_option maxHeartbeats 1000000 in
theorem next_c (code : List Int) (A : Option Addr) (n c g K : Nat) (w : World) (B : Nat) (hc : Mm.SlAt Mm.u8 w B code A n c) (hB : B ≤ g) (h : (Mm.tcur 85 A n c g K).holds w) (hK : K < 4611686018427387904) :
    Calls Try.prog 86 #[.pointer (some ⟨g, 0, none⟩)] w fun e w' => ∃ b : Int, e = .returned (.int .i64 b) ∧ 0 ≤ b ∧ b ≤ 255 ∧ Mm.Left [g] w w' (Mm.tcur 85 A n c g (K + 1)) := by
  obtain ⟨a, s, hb, h0, h1⟩ := h
  have hlen : n ≤ maxLen := Nat.le_trans hc.2.1 hc.2.2.1
  unfold maxLen at hlen
  have KB := Lib.hid hb
  have c0 := hb.cell (i := 0) rfl
  have c1 := hb.cell (i := 1) rfl
  have c2 := hb.cell (i := 2) rfl
  have z0 := hb.frozen 0
  have z1 := hb.frozen 1
  have z2 := hb.frozen 2
  obtain ⟨k, rfl⟩ : ∃ k : Nat, a = k := ⟨a.toNat, by omega⟩
  clear hb
  by_cases hlt : k < n
  · obtain ⟨x, b, off, cs, hx, rfl, hbB, hat, hcell⟩ := hc.get hlt
    obtain ⟨rfl, hx0, hx1⟩ := hat
    have hcc := hcell 0 _ rfl
    rw [Nat.add_zero, show Mm.u8.size = 1 from rfl, Nat.mul_one] at hcc
    have hgb : b ≠ g := by omega
    have e1 : ((k : Nat) : Int) < (n : Nat) := by omega
    have e2 : (0 : Int) ≤ (k : Nat) := by omega
    have e3 : ((k : Nat) : Int).toNat = k := by omega
    clear hcell hx hc
    go_enter Try.func86, Try.ntmps86
    go_wp2
    go_quiet (fail)
    go_wp2
    go_quiet (fail)
    go_wp2
    go_quiet (fail)
    go_wp2
    go_ret
    exact ⟨x, rfl, hx0, hx1, next_left KB.out (by omega) (by omega)⟩
  · have e1 : ¬ ((k : Nat) : Int) < (n : Nat) := by omega
    have e2 : ¬ ((k : Nat) : Int) + 1 ≤ (n : Nat) := by omega
    clear hc
    go_enter Try.func86, Try.ntmps86
    go_wp2
    go_quiet (fail)
    go_wp2
    go_quiet (fail)
    go_wp2
    go_ret
    exact ⟨_, rfl, (and255 _).1, (and255 _).2, next_left KB.out (by omega) (by omega)⟩
set_option maxRecDepth 100000 in
theorem pick_c (code : List Int) (A : Option Addr) (n c g K : Nat) (N : Int) (w : World) (B : Nat) (hc : Mm.SlAt Mm.u8 w B code A n c) (hB : B ≤ g) (h : (Mm.tcur 85 A n c g K).holds w) (hK : K < 4611686018427387000) (hN : N ≤ 200) :
    Calls Try.prog 45 #[.pointer (some ⟨g, 0, none⟩), .int .i64 N] w fun e w' => ∃ b : Int, e = .returned (.int .i64 b) ∧ 0 ≤ b ∧ b ≤ 199 ∧ (1 ≤ N → b < N) ∧ Mm.Left [g] w w' (Mm.tcur 85 A n c g (K + 1)) := by
  by_cases h1 : N ≤ 1
  · go_enter Try.func45, Try.ntmps45
    go_wp2
    go_ret
    exact ⟨0, rfl, by omega, by omega, by omega, Mm.Chg.refl _ _, by simp [Mm.tcur], fun b hb => .inl (by simpa [Mm.tcur] using hb), Mm.tcur_more h (by omega)⟩
  · have h2 : ¬ 200 < N := by omega
    have h3 : N ≠ 0 := by omega
    go_enter Try.func45, Try.ntmps45
    go_wp2_with (go_at_call 86; refine (next_c code A n c g K _ B hc hB h (by omega)).mono ?_; rintro e w1 ⟨b, rfl, hb0, hb1, hL⟩)
    go_ret
    have hm0 : 0 ≤ b % N := Int.emod_nonneg _ h3
    have hm1 : b % N < N := Int.emod_lt_of_pos _ (by omega)
    exact ⟨_, rfl, hm0, by omega, fun _ => hm1, hL⟩
theorem one_c (code : List Int) (A : Option Addr) (n c g K : Nat) (N : Int) (w : World) (B : Nat) (hc : Mm.SlAt Mm.u8 w B code A n c) (hB : B ≤ g) (h : (Mm.tcur 85 A n c g K).holds w) (hK : K < 4611686018427387000) (hN : N ≤ 200) :
    Calls Try.prog 87 #[.pointer (some ⟨g, 0, none⟩), .int .i64 N] w fun e w' => ∃ b : Bool, e = .returned (.bool b) ∧ Mm.Left [g] w w' (Mm.tcur 85 A n c g (K + 1)) := by
  go_enter Try.func87, Try.ntmps87
  go_wp2_with (go_at_call 45; refine (pick_c code A n c g K N _ B hc hB h hK hN).mono ?_; rintro e w1 ⟨b, rfl, hb0, hb1, -, hL⟩)
  go_ret
  exact ⟨_, rfl, hL⟩
set_option maxRecDepth 100000 in
theorem among_c (code : List Int) (A : Option Addr) (n c g K : Nat) (xs : List Int) (bl m : Nat) (w : World) (B : Nat) (hc : Mm.SlAt Mm.u8 w B code A n c) (hB : B ≤ g) (h : (Mm.tcur 85 A n c g K).holds w) (hK : K < 4611686018427387000)
    (hbl : Mm.Blk w bl 3 (xs.map fun x => .int .i64 x)) (hne : bl ≠ g) (hm : xs.length = m) (h1 : 1 ≤ m) (h2 : m ≤ 200) :
    Calls Try.prog 61 #[.pointer (some ⟨g, 0, none⟩), .slice (some ⟨bl, 0, none⟩) m m] w fun e w' => ∃ v : Int, e = .returned (.int .i64 v) ∧ v ∈ xs ∧ Mm.Left [g] w w' (Mm.tcur 85 A n c g (K + 1)) := by
  go_enter Try.func61, Try.ntmps61
  have arm : ∀ (w1 : World) (b : Int), 0 ≤ b → (1 ≤ (m : Int) → b < m) → Mm.Left [g] w w1 (Mm.tcur 85 A n c g (K + 1)) → ∃ v : Int, v ∈ xs ∧ w1.cell? ⟨bl, b.toNat, none⟩ = some (.int .i64 v) ∧ 0 ≤ b ∧ b < m := fun w1 b hb0 hb1 hL => by
    have hlt := hb1 (by omega)
    have hk : b.toNat < xs.length := by omega
    have hx := List.getElem?_eq_getElem hk
    refine ⟨xs[b.toNat], List.getElem_mem hk, ?_, hb0, hlt⟩
    exact (hbl.keep (w' := w1) (hL.1.block bl hbl.lt (by simpa using hne))).cell (by rw [List.getElem?_map, hx]; rfl)
  go_wp2_with (go_at_call 45; refine (pick_c code A n c g K m _ B hc hB h hK (by omega)).mono ?_; rintro e w1 ⟨b, rfl, hb0, -, hb2, hL⟩; obtain ⟨v, hv, hcell, hb3, hb4⟩ := arm w1 b hb0 hb2 hL)
  go_ret
  exact ⟨v, rfl, hv, hL⟩
set_option maxRecDepth 100000 in
theorem of_c (code : List Int) (A : Option Addr) (n c g K : Nat) (xs : List ByteArray) (bl m : Nat) (w : World) (B : Nat) (hc : Mm.SlAt Mm.u8 w B code A n c) (hB : B ≤ g) (h : (Mm.tcur 85 A n c g K).holds w) (hK : K < 4611686018427387000)
    (hbl : Mm.Blk w bl 9 (xs.map fun x => .string x)) (hne : bl ≠ g) (hm : xs.length = m) (h1 : 1 ≤ m) (h2 : m ≤ 200) :
    Calls Try.prog 88 #[.pointer (some ⟨g, 0, none⟩), .slice (some ⟨bl, 0, none⟩) m m] w fun e w' => ∃ v : ByteArray, e = .returned (.string v) ∧ v ∈ xs ∧ Mm.Left [g] w w' (Mm.tcur 85 A n c g (K + 1)) := by
  go_enter Try.func88, Try.ntmps88
  have arm : ∀ (w1 : World) (b : Int), 0 ≤ b → (1 ≤ (m : Int) → b < m) → Mm.Left [g] w w1 (Mm.tcur 85 A n c g (K + 1)) → ∃ v : ByteArray, v ∈ xs ∧ w1.cell? ⟨bl, b.toNat, none⟩ = some (.string v) ∧ 0 ≤ b ∧ b < m := fun w1 b hb0 hb1 hL => by
    have hlt := hb1 (by omega)
    have hk : b.toNat < xs.length := by omega
    have hx := List.getElem?_eq_getElem hk
    refine ⟨xs[b.toNat], List.getElem_mem hk, ?_, hb0, hlt⟩
    exact (hbl.keep (w' := w1) (hL.1.block bl hbl.lt (by simpa using hne))).cell (by rw [List.getElem?_map, hx]; rfl)
  go_wp2_with (go_at_call 45; refine (pick_c code A n c g K m _ B hc hB h hK (by omega)).mono ?_; rintro e w1 ⟨b, rfl, hb0, -, hb2, hL⟩; obtain ⟨v, hv, hcell, hb3, hb4⟩ := arm w1 b hb0 hb2 hL)
  go_ret
  exact ⟨v, rfl, hv, hL⟩
end Go.Proofs.Ytaepohocabealaa

/-
  Contracts: the laws' own comparisons, at equal data, and the number of some bytes. No conditions.
-/
namespace Go.Proofs.Ytaepohocabealaa
open Go.RowKit
attribute [local go_sem] und_cell World.cell?_alloc_some
set_option maxRecDepth 100000 in
set_option maxHeartbeats 1000000 in
theorem sameInts_c (l : List Int) (A A' : Option Addr) (n c c' : Nat) (w : World) (B : Nat) (h1 : Mm.SlAt Mm.int w B l A n c) (h2 : Mm.SlAt Mm.int w B l A' n c') (hB : B ≤ w.heap.size) :
    Calls Try.prog 52 #[.slice A n c, .slice A' n c'] w fun e w' => e = .returned (.bool true) ∧ Below w.heap.size w w' := by
  have H1 := Lib.hid h1
  have H2 := Lib.hid h2
  have hlen : n ≤ maxLen := Nat.le_trans h1.2.1 h1.2.2.1
  unfold maxLen at hlen
  clear h1 h2
  go_enter Try.func52, Try.ntmps52
  go_wp2
  go_loopg [13] n (fun gg i wr => ∃ k : Nat, n - k ≤ gg ∧ k ≤ n ∧ i = .int .i64 k ∧ Below w.heap.size w wr)
  case atStart => exact ⟨0, Nat.le_refl _, Nat.zero_le _, rfl, Below.refl _ _⟩
  case round =>
    obtain ⟨k, hgk, hk, rfl, hbel⟩ := hrel
    have HB := Lib.hid hbel
    by_cases hlt : k < n
    · obtain ⟨x, b, off, hx, rfl, hb, b1, c1⟩ := int_get (H1.out.keep fun b hb => hbel.block b (by omega)) hlt
      obtain ⟨y, b', off', hy, rfl, hb', b1', c1'⟩ := int_get (H2.out.keep fun b hb => hbel.block b (by omega)) hlt
      rw [hx] at hy
      injection hy with hy
      subst hy
      have f1 : (k : Int) < (n : Nat) := by omega
      have f2 : (0 : Int) ≤ (k : Nat) := by omega
      clear hx hbel
      go_wp2
      go_quiet (fail)
      go_wp2
      go_roundg (n - (k + 1))
      case measure => omega
      case rel => exact ⟨k + 1, Nat.le_refl _, by omega, by go_num, below_drewN HB.out _⟩
    · go_wp2
      go_ret
      exact ⟨rfl, HB.out⟩
set_option maxRecDepth 100000 in
set_option maxHeartbeats 1000000 in
theorem sameTexts_c (l : List ByteArray) (A A' : Option Addr) (n c c' : Nat) (w : World) (B : Nat) (h1 : Mm.SlAt Mm.str w B l A n c) (h2 : Mm.SlAt Mm.str w B l A' n c') (hB : B ≤ w.heap.size) :
    Calls Try.prog 16 #[.slice A n c, .slice A' n c'] w fun e w' => e = .returned (.bool true) ∧ Below w.heap.size w w' := by
  have H1 := Lib.hid h1
  have H2 := Lib.hid h2
  have hlen : n ≤ maxLen := Nat.le_trans h1.2.1 h1.2.2.1
  unfold maxLen at hlen
  clear h1 h2
  go_enter Try.func16, Try.ntmps16
  go_wp2
  go_loopg [13] n (fun gg i wr => ∃ k : Nat, n - k ≤ gg ∧ k ≤ n ∧ i = .int .i64 k ∧ Below w.heap.size w wr)
  case atStart => exact ⟨0, Nat.le_refl _, Nat.zero_le _, rfl, Below.refl _ _⟩
  case round =>
    obtain ⟨k, hgk, hk, rfl, hbel⟩ := hrel
    have HB := Lib.hid hbel
    by_cases hlt : k < n
    · obtain ⟨x, b, off, hx, rfl, hb, b1, c1⟩ := str_get (H1.out.keep fun b hb => hbel.block b (by omega)) hlt
      obtain ⟨y, b', off', hy, rfl, hb', b1', c1'⟩ := str_get (H2.out.keep fun b hb => hbel.block b (by omega)) hlt
      rw [hx] at hy
      injection hy with hy
      subst hy
      have f1 : (k : Int) < (n : Nat) := by omega
      have f2 : (0 : Int) ≤ (k : Nat) := by omega
      clear hx hbel
      go_wp2
      go_quiet (fail)
      go_wp2
      go_roundg (n - (k + 1))
      case measure => omega
      case rel => exact ⟨k + 1, Nat.le_refl _, by omega, by go_num, below_drewN HB.out _⟩
    · go_wp2
      go_ret
      exact ⟨rfl, HB.out⟩
set_option maxRecDepth 100000 in
set_option maxHeartbeats 1000000 in
theorem sameBools_c (l : List Bool) (A A' : Option Addr) (n c c' : Nat) (w : World) (B : Nat) (h1 : Mm.SlAt Mm.bool w B l A n c) (h2 : Mm.SlAt Mm.bool w B l A' n c') (hB : B ≤ w.heap.size) :
    Calls Try.prog 11 #[.slice A n c, .slice A' n c'] w fun e w' => e = .returned (.bool true) ∧ Below w.heap.size w w' := by
  have H1 := Lib.hid h1
  have H2 := Lib.hid h2
  have hlen : n ≤ maxLen := Nat.le_trans h1.2.1 h1.2.2.1
  unfold maxLen at hlen
  clear h1 h2
  go_enter Try.func11, Try.ntmps11
  go_wp2
  go_loopg [13] n (fun gg i wr => ∃ k : Nat, n - k ≤ gg ∧ k ≤ n ∧ i = .int .i64 k ∧ Below w.heap.size w wr)
  case atStart => exact ⟨0, Nat.le_refl _, Nat.zero_le _, rfl, Below.refl _ _⟩
  case round =>
    obtain ⟨k, hgk, hk, rfl, hbel⟩ := hrel
    have HB := Lib.hid hbel
    by_cases hlt : k < n
    · obtain ⟨x, b, off, hx, rfl, hb, c1⟩ := bool_get (H1.out.keep fun b hb => hbel.block b (by omega)) hlt
      obtain ⟨y, b', off', hy, rfl, hb', c1'⟩ := bool_get (H2.out.keep fun b hb => hbel.block b (by omega)) hlt
      rw [hx] at hy
      injection hy with hy
      subst hy
      have f1 : (k : Int) < (n : Nat) := by omega
      have f2 : (0 : Int) ≤ (k : Nat) := by omega
      clear hx hbel
      go_wp2
      go_quiet (fail)
      go_wp2
      go_roundg (n - (k + 1))
      case measure => omega
      case rel => exact ⟨k + 1, Nat.le_refl _, by omega, by go_num, below_drewN HB.out _⟩
    · go_wp2
      go_ret
      exact ⟨rfl, HB.out⟩
end Go.Proofs.Ytaepohocabealaa

/-
  Contracts: the laws' own comparison of tellers, at equal data (chapter 10). No conditions.
-/
namespace Go.Proofs.Ytaepohocabealaa
open Go.RowKit
attribute [local go_sem] und_cell cha_cell World.cell?_alloc_some
set_option maxRecDepth 100000 in
set_option maxHeartbeats 2000000 in
theorem sameTells_c (t : Tell) (cs cs2 : List Value) (w : World) (B : Nat) (h1 : rTell.at_ w B t cs) (h2 : rTell.at_ w B t cs2) (hB : B ≤ w.heap.size) :
    Calls Try.prog 12 #[.agg cs.toArray, .agg cs2.toArray] w fun e w' => e = .returned (.bool true) ∧ Below w.heap.size w w' := by
  obtain ⟨A0, n0, c0, A1, n1, c1, A2, n2, c2, A3, n3, c3, A4, n4, c4, rfl, r0, r1, r2, r3, r4⟩ := rTell_at h1
  obtain ⟨A0', m0, c0', A1', m1, c1', A2', m2, c2', A3', m3, c3', A4', m4, c4', rfl, q0, q1, q2, q3, q4⟩ := rTell_at h2
  obtain rfl : n0 = m0 := r0.1.symm.trans q0.1
  obtain rfl : n1 = m1 := r1.1.symm.trans q1.1
  obtain rfl : n2 = m2 := r2.1.symm.trans q2.1
  obtain rfl : n3 = m3 := r3.1.symm.trans q3.1
  obtain rfl : n4 = m4 := r4.1.symm.trans q4.1
  have l0 : n0 ≤ maxLen := Nat.le_trans r0.2.1 r0.2.2.1
  have l2 : n2 ≤ maxLen := Nat.le_trans r2.2.1 r2.2.2.1
  have l3 : n3 ≤ maxLen := Nat.le_trans r3.2.1 r3.2.2.1
  unfold maxLen at l0 l2 l3
  have HR := Lib.hid (And.intro r0 (And.intro r1 (And.intro r2 (And.intro r3 r4))))
  have HQ := Lib.hid (And.intro q0 (And.intro q1 (And.intro q2 (And.intro q3 q4))))
  clear h1 h2 r0 r1 r2 r3 r4 q0 q1 q2 q3 q4
  go_enter Try.func12, Try.ntmps12
  go_upto_region 1 with fail
  obtain ⟨ga, hga⟩ : ∃ ga, w.heap.size = ga := ⟨_, rfl⟩
  obtain ⟨gb, hgb⟩ : ∃ gb, ga + 1 = gb := ⟨_, rfl⟩
  obtain ⟨W0, hW0⟩ : ∃ W0, (w.alloc (.cells #[.slice A0 n0 c0, .slice A1 n1 c1, .slice A2 n2 c2, .slice A3 n3 c3, .slice A4 n4 c4] 31)).alloc (.cells #[.slice A0' n0 c0', .slice A1' n1 c1', .slice A2' n2 c2', .slice A3' n3 c3', .slice A4' n4 c4'] 31) = W0 := ⟨_, rfl⟩
  have HS0 := Lib.hid ((((Mm.SepF.start w).alloc' hga 31 [.slice A0 n0 c0, .slice A1 n1 c1, .slice A2 n2 c2, .slice A3 n3 c3, .slice A4 n4 c4]).alloc' (g := gb) (by rw [Mm.sz1, hga, hgb]) 31 [.slice A0' n0 c0', .slice A1' n1 c1', .slice A2' n2 c2', .slice A3' n3 c3', .slice A4' n4 c4']).atW hW0)
  rw [hW0, hga, hgb]
  have HGA := Lib.hid hga
  clear hW0 hga hgb
  have HB0 := Lib.hid HS0.out.bel0
  have HBW := Lib.hid (Nat.le_trans hB HB0.out.size)
  have HX := Lib.hid (Below.refl W0.heap.size W0)
  have b0 := below_some HX.out (HS0.out.cell (k := 0) 0 rfl rfl)
  have b1 := below_some HX.out (HS0.out.cell (k := 1) 0 rfl rfl)
  have b2 := below_some HX.out (HS0.out.cell (k := 2) 0 rfl rfl)
  have b3 := below_some HX.out (HS0.out.cell (k := 3) 0 rfl rfl)
  have b4 := below_some HX.out (HS0.out.cell (k := 4) 0 rfl rfl)
  have d0 := below_some HX.out (HS0.out.cell (k := 0) 1 rfl rfl)
  have d1 := below_some HX.out (HS0.out.cell (k := 1) 1 rfl rfl)
  have d2 := below_some HX.out (HS0.out.cell (k := 2) 1 rfl rfl)
  have d3 := below_some HX.out (HS0.out.cell (k := 3) 1 rfl rfl)
  have d4 := below_some HX.out (HS0.out.cell (k := 4) 1 rfl rfl)
  have HR0 := Lib.hid (And.intro (HR.out.2.1.keep fun b hb => HB0.out.block b (Nat.lt_of_lt_of_le hb hB)) (HQ.out.2.1.keep fun b hb => HB0.out.block b (Nat.lt_of_lt_of_le hb hB)))
  go_wp2_with (go_at_call 52; (with_reducible refine (sameInts_c t.Heard A1 A1' n1 c1 c1' W0 B HR0.out.1 HR0.out.2 HBW.out).mono ?_); rintro e w1 ⟨rfl, hX⟩; (clear b0 b1 b2 b3 b4 d0 d1 d2 d3 d4); (replace HX := Lib.hid hX); (have b0 := below_some HX.out (HS0.out.cell (k := 0) 0 rfl rfl)); (have b1 := below_some HX.out (HS0.out.cell (k := 1) 0 rfl rfl)); (have b2 := below_some HX.out (HS0.out.cell (k := 2) 0 rfl rfl)); (have b3 := below_some HX.out (HS0.out.cell (k := 3) 0 rfl rfl)); (have b4 := below_some HX.out (HS0.out.cell (k := 4) 0 rfl rfl)); (have d0 := below_some HX.out (HS0.out.cell (k := 0) 1 rfl rfl)); (have d1 := below_some HX.out (HS0.out.cell (k := 1) 1 rfl rfl)); (have d2 := below_some HX.out (HS0.out.cell (k := 2) 1 rfl rfl)); (have d3 := below_some HX.out (HS0.out.cell (k := 3) 1 rfl rfl)); (have d4 := below_some HX.out (HS0.out.cell (k := 4) 1 rfl rfl)); (have HQ1 := Lib.hid (And.intro (HQ.out.2.2.2.2.keep fun b hb => (hX.block b (Nat.lt_of_lt_of_le hb HBW.out)).trans (HB0.out.block b (Nat.lt_of_lt_of_le hb hB))) (HR.out.2.2.2.2.keep fun b hb => (hX.block b (Nat.lt_of_lt_of_le hb HBW.out)).trans (HB0.out.block b (Nat.lt_of_lt_of_le hb hB))))); (have HBW1 := Lib.hid (Nat.le_trans HBW.out hX.size)); clear hX; go_wp2_with (go_at_call 52; (with_reducible refine (sameInts_c t.Next A4 A4' n4 c4 c4' w1 B HQ1.out.2 HQ1.out.1 HBW1.out).mono ?_); rintro e w2 ⟨rfl, hX2⟩; (clear b0 b1 b2 b3 b4 d0 d1 d2 d3 d4); (replace HX := Lib.hid (below_step HX.out hX2)); clear hX2; (have b0 := below_some HX.out (HS0.out.cell (k := 0) 0 rfl rfl)); (have b1 := below_some HX.out (HS0.out.cell (k := 1) 0 rfl rfl)); (have b2 := below_some HX.out (HS0.out.cell (k := 2) 0 rfl rfl)); (have b3 := below_some HX.out (HS0.out.cell (k := 3) 0 rfl rfl)); (have b4 := below_some HX.out (HS0.out.cell (k := 4) 0 rfl rfl)); (have d0 := below_some HX.out (HS0.out.cell (k := 0) 1 rfl rfl)); (have d1 := below_some HX.out (HS0.out.cell (k := 1) 1 rfl rfl)); (have d2 := below_some HX.out (HS0.out.cell (k := 2) 1 rfl rfl)); (have d3 := below_some HX.out (HS0.out.cell (k := 3) 1 rfl rfl)); (have d4 := below_some HX.out (HS0.out.cell (k := 4) 1 rfl rfl))))
  clear HBW1 HQ1 HR0
  clear b0 b1 b2 b3 b4 d0 d1 d2 d3 d4
  have HXX := Lib.hid HX.out
  clear HX
  go_loopg [52] n0 (fun gg i wr => ∃ k : Nat, n0 - k ≤ gg ∧ k ≤ n0 ∧ i = .int .i64 k ∧ Below W0.heap.size W0 wr)
  case atStart => exact ⟨0, Nat.le_refl _, Nat.zero_le _, rfl, HXX.out⟩
  case round =>
    clear HXX
    obtain ⟨k, hgk, hk, rfl, hbel⟩ := hrel
    obtain ⟨W1, rfl⟩ : ∃ W1 : World, W1 = wr := ⟨_, rfl⟩
    have HX := Lib.hid hbel
    clear hbel
    have b0 := below_some HX.out (HS0.out.cell (k := 0) 0 rfl rfl)
    have b1 := below_some HX.out (HS0.out.cell (k := 1) 0 rfl rfl)
    have b2 := below_some HX.out (HS0.out.cell (k := 2) 0 rfl rfl)
    have b3 := below_some HX.out (HS0.out.cell (k := 3) 0 rfl rfl)
    have b4 := below_some HX.out (HS0.out.cell (k := 4) 0 rfl rfl)
    have d0 := below_some HX.out (HS0.out.cell (k := 0) 1 rfl rfl)
    have d1 := below_some HX.out (HS0.out.cell (k := 1) 1 rfl rfl)
    have d2 := below_some HX.out (HS0.out.cell (k := 2) 1 rfl rfl)
    have d3 := below_some HX.out (HS0.out.cell (k := 3) 1 rfl rfl)
    have d4 := below_some HX.out (HS0.out.cell (k := 4) 1 rfl rfl)
    by_cases hlt : k < n0
    · obtain ⟨x, b, off, P1, p1, q1, hx, rfl, hb, uf0, uc0⟩ := strs_get (HR.out.1.keep (w' := W1) fun b hb => (HX.out.block b (Nat.lt_of_lt_of_le hb HBW.out)).trans (HB0.out.block b (Nat.lt_of_lt_of_le hb hB))) hlt
      obtain ⟨y, b', off', P2, p2, q2, hy, rfl, hb', vf0, vc0⟩ := strs_get (HQ.out.1.keep (w' := W1) fun b hb => (HX.out.block b (Nat.lt_of_lt_of_le hb HBW.out)).trans (HB0.out.block b (Nat.lt_of_lt_of_le hb hB))) hlt
      obtain rfl : x = y := by rw [hx] at hy; injection hy
      obtain rfl : p1 = p2 := uf0.1.symm.trans vf0.1
      have HF := Lib.hid (And.intro uf0 vf0)
      have hBw : B ≤ W1.heap.size := Nat.le_trans HBW.out HX.out.size
      have f1 : (k : Int) < (n0 : Nat) := by omega
      have f2 : (0 : Int) ≤ (k : Nat) := by omega
      have f3 : ((k : Nat) : Int).toNat = k := by omega
      clear hx hy uf0 vf0
      have CS := fun z : Und W1 => und_call z (sameTexts_c x P1 P2 p1 q1 q2 (und W1 z) B (HF.out.1.und hBw z) (HF.out.2.und hBw z) (Nat.le_trans hBw (und_size z)))
      go_wp2
      refine wp_region_und (by kernel_rfl) (by kernel_rfl) ?_
      repeat (go_big_quiet_step ((first | (go_at_call 16; with_reducible exact CS _))))
      refine wpQuiet_nil ?_
      intro X hX
      go_wp2
      go_roundg (n0 - (k + 1))
      case measure => omega
      case rel => exact ⟨k + 1, Nat.le_refl _, by omega, by go_num, below_step HX.out hX⟩
    · have f1 : ¬ (k : Int) < (n0 : Nat) := by omega
      go_wp2
      clear b0 b1 b2 b3 b4 d0 d1 d2 d3 d4
      clear f1
      have HXX := Lib.hid HX.out
      clear HX
      go_loopg [71] n2 (fun gg i wr => ∃ k : Nat, n2 - k ≤ gg ∧ k ≤ n2 ∧ i = .int .i64 k ∧ Below W0.heap.size W0 wr)
      case atStart => exact ⟨0, Nat.le_refl _, Nat.zero_le _, rfl, HXX.out⟩
      case round =>
      clear HXX
      obtain ⟨k, hgk, hk, rfl, hbel⟩ := hrel
      obtain ⟨W1, rfl⟩ : ∃ W1 : World, W1 = wr := ⟨_, rfl⟩
      have HX := Lib.hid hbel
      clear hbel
      have b0 := below_some HX.out (HS0.out.cell (k := 0) 0 rfl rfl)
      have b1 := below_some HX.out (HS0.out.cell (k := 1) 0 rfl rfl)
      have b2 := below_some HX.out (HS0.out.cell (k := 2) 0 rfl rfl)
      have b3 := below_some HX.out (HS0.out.cell (k := 3) 0 rfl rfl)
      have b4 := below_some HX.out (HS0.out.cell (k := 4) 0 rfl rfl)
      have d0 := below_some HX.out (HS0.out.cell (k := 0) 1 rfl rfl)
      have d1 := below_some HX.out (HS0.out.cell (k := 1) 1 rfl rfl)
      have d2 := below_some HX.out (HS0.out.cell (k := 2) 1 rfl rfl)
      have d3 := below_some HX.out (HS0.out.cell (k := 3) 1 rfl rfl)
      have d4 := below_some HX.out (HS0.out.cell (k := 4) 1 rfl rfl)
      by_cases hlt : k < n2
      · have hg1 := rNote_get (HR.out.2.2.1.keep (w' := W1) fun b hb => (HX.out.block b (Nat.lt_of_lt_of_le hb HBW.out)).trans (HB0.out.block b (Nat.lt_of_lt_of_le hb hB))) hlt
        have hg2 := rNote_get (HQ.out.2.2.1.keep (w' := W1) fun b hb => (HX.out.block b (Nat.lt_of_lt_of_le hb HBW.out)).trans (HB0.out.block b (Nat.lt_of_lt_of_le hb hB))) hlt
        (obtain ⟨x, b, off, hx, rfl, hb, u0, u1, u2, x0, x1, x2, x3⟩ := hg1)
        (obtain ⟨y, b', off', hy, rfl, hb', v0, v1, v2, y0, y1, y2, y3⟩ := hg2)
        obtain rfl : x = y := by rw [hx] at hy; injection hy
        clear hx hy
        have f1 : (k : Int) < (n2 : Nat) := by omega
        have f2 : (0 : Int) ≤ (k : Nat) := by omega
        have f3 : ((k : Nat) : Int).toNat = k := by omega
        go_wp2
        go_quiet (fail)
        go_wp2
        go_roundg (n2 - (k + 1))
        case measure => omega
        case rel => exact ⟨k + 1, Nat.le_refl _, by omega, by go_num, below_drewN HX.out _⟩
      have f1 : ¬ (k : Int) < (n2 : Nat) := by omega
      go_wp2
      clear b0 b1 b2 b3 b4 d0 d1 d2 d3 d4
      clear f1
      have HXX := Lib.hid HX.out
      clear HX
      go_loopg [89] n3 (fun gg i wr => ∃ k : Nat, n3 - k ≤ gg ∧ k ≤ n3 ∧ i = .int .i64 k ∧ Below W0.heap.size W0 wr)
      case atStart => exact ⟨0, Nat.le_refl _, Nat.zero_le _, rfl, HXX.out⟩
      case round =>
      clear HXX
      obtain ⟨k, hgk, hk, rfl, hbel⟩ := hrel
      obtain ⟨W1, rfl⟩ : ∃ W1 : World, W1 = wr := ⟨_, rfl⟩
      have HX := Lib.hid hbel
      clear hbel
      have b0 := below_some HX.out (HS0.out.cell (k := 0) 0 rfl rfl)
      have b1 := below_some HX.out (HS0.out.cell (k := 1) 0 rfl rfl)
      have b2 := below_some HX.out (HS0.out.cell (k := 2) 0 rfl rfl)
      have b3 := below_some HX.out (HS0.out.cell (k := 3) 0 rfl rfl)
      have b4 := below_some HX.out (HS0.out.cell (k := 4) 0 rfl rfl)
      have d0 := below_some HX.out (HS0.out.cell (k := 0) 1 rfl rfl)
      have d1 := below_some HX.out (HS0.out.cell (k := 1) 1 rfl rfl)
      have d2 := below_some HX.out (HS0.out.cell (k := 2) 1 rfl rfl)
      have d3 := below_some HX.out (HS0.out.cell (k := 3) 1 rfl rfl)
      have d4 := below_some HX.out (HS0.out.cell (k := 4) 1 rfl rfl)
      by_cases hlt : k < n3
      · have hg1 := rTold_get (HR.out.2.2.2.1.keep (w' := W1) fun b hb => (HX.out.block b (Nat.lt_of_lt_of_le hb HBW.out)).trans (HB0.out.block b (Nat.lt_of_lt_of_le hb hB))) hlt
        have hg2 := rTold_get (HQ.out.2.2.2.1.keep (w' := W1) fun b hb => (HX.out.block b (Nat.lt_of_lt_of_le hb HBW.out)).trans (HB0.out.block b (Nat.lt_of_lt_of_le hb hB))) hlt
        (obtain ⟨x, b, off, hx, rfl, hb, u0, u1, u2, x0, x1, x2⟩ := hg1)
        (obtain ⟨y, b', off', hy, rfl, hb', v0, v1, v2, y0, y1, y2⟩ := hg2)
        obtain rfl : x = y := by rw [hx] at hy; injection hy
        clear hx hy
        have f1 : (k : Int) < (n3 : Nat) := by omega
        have f2 : (0 : Int) ≤ (k : Nat) := by omega
        have f3 : ((k : Nat) : Int).toNat = k := by omega
        go_wp2
        go_quiet (fail)
        go_wp2
        go_roundg (n3 - (k + 1))
        case measure => omega
        case rel => exact ⟨k + 1, Nat.le_refl _, by omega, by go_num, below_drewN HX.out _⟩
      have f1 : ¬ (k : Int) < (n3 : Nat) := by omega
      go_wp2
      clear b0 b1 b2 b3 b4 d0 d1 d2 d3 d4
      clear f1
      go_ret
      exact ⟨rfl, below_step HB0.out HX.out⟩
end Go.Proofs.Ytaepohocabealaa

/-
  Contracts: drawn steps of a teller (chapter 10). No conditions.
-/
namespace Go.Proofs.Ytaepohocabealaa
open Go.RowKit
attribute [local go_sem] und_cell World.cell?_alloc_some
theorem Try.infoStep : (Try.prog.info? 46).map (fun i => (i.zero, i.size, i.bytes)) = some (some (.agg #[.int .i64 0, .int .i64 0, .string ⟨#[]⟩]), 3, 32) := by kernel_rfl
set_option maxRecDepth 100000 in
set_option maxHeartbeats 4000000 in
theorem tellSteps_c (code : List Int) (A : Option Addr) (n c g K : Nat) (q : Int) (w : World) (B : Nat) (hc : Mm.SlAt Mm.u8 w B code A n c) (hBg : B ≤ g) (h : (Mm.tcur 85 A n c g K).holds w) (hK : K < 4611686018427380000) (hq : 1 ≤ q ∧ q ≤ 4) :
    Calls Try.prog 46 #[.pointer (some ⟨g, 0, none⟩), .int .i64 q] w fun e w' => ∃ (l : List TellStep) (A1 : Option Addr) (n1 c1 : Nat) (fp : List Nat), e = .returned (.slice A1 n1 c1) ∧ l.length ≤ 151 ∧ Mm.SepF [g] w w' [Mm.tsl rTellStep 46 l (.slice A1 n1 c1) fp, Mm.tcur 85 A n c g (K + 2000)] := by
  have hgw : g < w.heap.size := (Mm.tcur 85 A n c g K).lt h g (by simp [Mm.tcur])
  have HC := Lib.hid hc
  have HS : Hid (Mm.SepF [g] w w [Mm.tcur 85 A n c g K]) := Mm.SepF.one (Mm.tcur 85 A n c g K) w h (by simp [Mm.tcur])
  clear hc h
  go_enter Try.func46, Try.ntmps46
  go_upto_if 11 with first
    | ((go_at_call 45); (refine (pick_c code A n c g _ _ _ B (HC.out.keep fun b hb => HS.out.chg.block b (by omega) (by simp; omega)) hBg (HS.out.at_ 0 rfl) (by omega) (by omega)).mono ?_); (rintro e w1 ⟨b1, rfl, b10, b1x, b11, hL⟩); ((have HS := Lib.hid (HS.out.call 0 rfl hL))); (clear hL))
    | ((go_at_call 87); (refine (one_c code A n c g _ _ _ B (HC.out.keep fun b hb => HS.out.chg.block b (by omega) (by simp; omega)) hBg (HS.out.at_ 0 rfl) (by omega) (by omega)).mono ?_); (rintro e w1 ⟨b9, rfl, hL⟩); ((have HS := Lib.hid (HS.out.call 0 rfl hL))); (clear hL))
  have b12 := b11 (by omega)
  clear b11
  go_cut [6] (fun s6 wx => ∃ m : Int, s6 = .int .i64 m ∧ 0 ≤ m ∧ m ≤ 151 ∧ Mm.SepF [g] w wx [Mm.tcur 85 A n c g (K + 3)])
  case first =>
    cases b9
    · go_wp2_with fail
      go_meet
      exact ⟨_, rfl, b10, by omega, HS.out.more 0 rfl (by omega)⟩
    · go_wp2_with ((go_at_call 45); (refine (pick_c code A n c g _ _ _ B (HC.out.keep fun b hb => HS.out.chg.block b (by omega) (by simp; omega)) hBg (HS.out.at_ 0 rfl) (by omega) (by omega)).mono ?_); (rintro e w1 ⟨b2, rfl, b20, b2x, b21, hL⟩); ((have HS := Lib.hid (HS.out.call 0 rfl hL))); (clear hL); have b22 := b21 (by omega))
      go_meet
      exact ⟨_, rfl, by omega, by omega, HS.out.more 0 rfl (by omega)⟩
  case rest =>
  obtain ⟨m, rfl, hm0, hm1, HS⟩ := hcut
  have HS := Lib.hid ((HS.add (Below.refl _ _) (t := Mm.tsl rTellStep 46 [] (.slice none 0 0) []) Mm.SlOwn.nil List.nodup_nil (fun b hb => by cases hb)))
  go_wp2_with fail
  go_loopg [5, 6] 151 (fun gg l nn wr => ∃ (k mm : Nat) (ls : List TellStep) (A1 : Option Addr) (c1 : Nat) (fp : List Nat) (Kc : Nat), k ≤ gg ∧ nn = .int .i64 k ∧ Hid (mm = ls.length) ∧ k + mm ≤ 151 ∧ l = .slice A1 mm c1 ∧ Kc + 10 * k ≤ K + 1600 ∧ Hid (Mm.SepF [g] w wr [Mm.tsl rTellStep 46 ls (.slice A1 mm c1) fp, Mm.tcur 85 A n c g Kc]))
  case atStart => exact ⟨m.toNat, 0, [], none, 0, [], K + 3, by omega, by rw [Int.toNat_of_nonneg hm0], rfl, by omega, rfl, by omega, HS⟩
  case round =>
    obtain ⟨k, mm, ls, A1, c1, fp, Kc, hkg, rfl, hml, hkm, rfl, hKc, HS⟩ := hrel
    obtain ⟨Wr, rfl⟩ : ∃ Wr : World, Wr = wr := ⟨_, rfl⟩
    by_cases hk0 : 0 < k
    · have hk1 : (0 : Int) < (k : Nat) := by omega
      have HA := Lib.hid (HS.out.alloc' rfl 3 [.int .i64 1, .int .i64 1, .int .i64 2, .int .i64 2, .int .i64 2, .int .i64 3, .int .i64 3, .int .i64 3, .int .i64 3, .int .i64 4, .int .i64 5])
      have hgW : g < Wr.heap.size := Nat.lt_of_lt_of_le hgw HS.out.chg.size
      go_upto_block 2 with (go_at_call 61; refine (among_c code A n c g _ [1, 1, 2, 2, 2, 3, 3, 3, 3, 4, 5] Wr.heap.size 11 _ B (HC.out.keep fun b hb => HA.out.chg.block b (by omega) (by simp; omega)) hBg (HA.out.at_ 2 rfl) (by omega) (HA.out.at_ 0 rfl) (by omega) rfl (by omega) (by omega)).mono ?_; rintro e w1 ⟨v, rfl, hv, hL⟩; (have HS := Lib.hid ((HA.out.call 2 rfl hL).tail)); clear hL HA)
      obtain ⟨gs, hgs⟩ : ∃ gs, w1.heap.size = gs := ⟨_, rfl⟩
      obtain ⟨W2, hW2⟩ : ∃ W2, w1.alloc (.cells #[.int .i64 v, .int .i64 0, .string ⟨#[]⟩] 46) = W2 := ⟨_, rfl⟩
      have HSA := Lib.hid ((HS.out.alloc' hgs 46 [.int .i64 v, .int .i64 0, .string ⟨#[]⟩]).atW hW2)
      have hgsg : g < gs := by have := HS.out.chg.size; omega
      rw [hW2, hgs]
      have hvi : Mm.I64 v := by simp only [List.mem_cons, List.not_mem_nil, or_false] at hv; unfold Mm.I64; omega
      have HVI := Lib.hid hvi
      clear hW2 hgs hvi hv
      go_cut [] (fun wx => ∃ (kk : Int) (tx : ByteArray), Mm.I64 kk ∧ tx.size ≤ 24 ∧ Mm.SepF [g] w wx [Mm.tblk gs 46 [.int .i64 v, .int .i64 kk, .string tx], Mm.tsl rTellStep 46 ls (.slice A1 mm c1) fp, Mm.tcur 85 A n c g (Kc + 3)])
      case first =>
        by_cases h1 : v = 1
        · subst h1
          go_wp2_with fail
          refine (pick_c code A n c g _ _ _ B (HC.out.keep fun b hb => HSA.out.chg.block b (by omega) (by simp; omega)) hBg (HSA.out.at_ 2 rfl) (by omega) (by omega)).mono ?_
          rintro e w3 ⟨b2, rfl, b20, b2x, b21, hL⟩
          have HS2 := Lib.hid (HSA.out.call 2 rfl hL)
          clear hL
          have z1 := HS2.out.frz (k := 1) 0 rfl
          have c1' := HS2.out.cell (k := 1) 0 rfl rfl
          go_upto_region 12 with fail
          obtain ⟨W4, hW4⟩ : ∃ W4, w3.setCell ⟨gs, 1, none⟩ (.int .i64 b2) = W4 := ⟨_, rfl⟩
          have HS3 := Lib.hid ((HS2.out.setBlk (k := 1) 0 rfl (.int .i64 b2)).atW hW4)
          rw [hW4]
          clear hW4 z1 c1'
          have HA := Lib.hid (HS3.out.alloc' rfl 9 [.string ⟨#[97]⟩, .string ⟨#[98]⟩, .string ⟨#[99]⟩, .string ⟨#[]⟩])
          go_wp2_with fail
          refine (of_c code A n c g _ [⟨#[97]⟩, ⟨#[98]⟩, ⟨#[99]⟩, ⟨#[]⟩] _ 4 _ B (HC.out.keep fun b hb => HA.out.chg.block b (by omega) (by simp; omega)) hBg (HA.out.at_ 3 rfl) (by omega) (HA.out.at_ 0 rfl) (by have := HS3.out.chg.size; omega) rfl (by omega) (by omega)).mono ?_
          rintro e w5 ⟨tx, rfl, htx, hL⟩
          have HS5 := Lib.hid ((HA.out.call 3 rfl hL).tail)
          clear hL HA
          have htx2 : tx.size ≤ 24 := by simp only [List.mem_cons, List.not_mem_nil, or_false] at htx; rcases htx with h | h | h | h <;> (rw [h]; decide)
          clear htx
          have z2 := HS5.out.frz (k := 2) 0 rfl
          have c2' := HS5.out.cell (k := 2) 0 rfl rfl
          go_wp2_with fail
          go_meet
          exact ⟨b2, tx, by unfold Mm.I64; omega, htx2, (HS5.out.setBlk (k := 2) 0 rfl (.string tx)).more 2 rfl (by omega)⟩
        · have n1 : (v == 1) = false := by simpa using h1
          have H1 := Lib.hid h1
          clear h1
          by_cases h2 : v = 2
          · subst h2
            go_wp2_with fail
            refine (pick_c code A n c g _ _ _ B (HC.out.keep fun b hb => HSA.out.chg.block b (by omega) (by simp; omega)) hBg (HSA.out.at_ 2 rfl) (by omega) (by omega)).mono ?_
            rintro e w3 ⟨b2, rfl, b20, b2x, b21, hL⟩
            have HS2 := Lib.hid (HSA.out.call 2 rfl hL)
            clear hL
            have z1 := HS2.out.frz (k := 1) 0 rfl
            have c1' := HS2.out.cell (k := 1) 0 rfl rfl
            go_wp2_with fail
            go_meet
            exact ⟨b2, ⟨#[]⟩, by unfold Mm.I64; omega, by decide, (HS2.out.setBlk (k := 1) 0 rfl (.int .i64 b2)).more 2 rfl (by omega)⟩
          · have n2 : (v == 2) = false := by simpa using h2
            have H2 := Lib.hid h2
            clear h2
            go_wp2_with fail
            refine (pick_c code A n c g _ _ _ B (HC.out.keep fun b hb => HSA.out.chg.block b (by omega) (by simp; omega)) hBg (HSA.out.at_ 2 rfl) (by omega) (by omega)).mono ?_
            rintro e w3 ⟨b2, rfl, b20, b2x, b21, hL⟩
            have HS2 := Lib.hid (HSA.out.call 2 rfl hL)
            clear hL
            have z1 := HS2.out.frz (k := 1) 0 rfl
            have c1' := HS2.out.cell (k := 1) 0 rfl rfl
            go_wp2_with fail
            go_meet
            exact ⟨b2, ⟨#[]⟩, by unfold Mm.I64; omega, by decide, (HS2.out.setBlk (k := 1) 0 rfl (.int .i64 b2)).more 2 rfl (by omega)⟩
      case rest =>
        obtain ⟨kk, tx, hkk, htx, HS⟩ := hcut
        have HKK := Lib.hid hkk
        clear hkk
        have HS := Lib.hid HS
        go_upto_if 45 with ((go_at_call 87); (refine (one_c code A n c g _ _ _ B (HC.out.keep fun b hb => HS.out.chg.block b (by omega) (by simp; omega)) hBg (HS.out.at_ 2 rfl) (by omega) (by omega)).mono ?_); (rintro e w1 ⟨b9, rfl, hL⟩); ((have HS := Lib.hid (HS.out.call 2 rfl hL))); (clear hL))
        go_cut [] (fun wx => ∃ (kd kk : Int) (tx : ByteArray), Mm.I64 kd ∧ Mm.I64 kk ∧ tx.size ≤ 25 ∧ Mm.SepF [g] w wx [Mm.tblk gs 46 [.int .i64 kd, .int .i64 kk, .string tx], Mm.tsl rTellStep 46 ls (.slice A1 mm c1) fp, Mm.tcur 85 A n c g (Kc + 8)])
        case first =>
          cases b9
          · go_wp2_with fail
            go_meet
            exact ⟨v, kk, tx, HVI.out, HKK.out, by omega, HS.out.more 2 rfl (by omega)⟩
          · go_wp2_with fail
            refine (pick_c code A n c g _ _ _ B (HC.out.keep fun b hb => HS.out.chg.block b (by omega) (by simp; omega)) hBg (HS.out.at_ 2 rfl) (by omega) (by omega)).mono ?_
            rintro e w3 ⟨b3, rfl, b30, b3x, b31, hL⟩
            have HS3 := Lib.hid (HS.out.call 2 rfl hL)
            clear hL
            go_wp2_with fail
            refine (pick_c code A n c g _ _ _ B (HC.out.keep fun b hb => HS3.out.chg.block b (by omega) (by simp; omega)) hBg (HS3.out.at_ 2 rfl) (by omega) (by omega)).mono ?_
            rintro e w4 ⟨b4, rfl, b40, b4x, b41, hL⟩
            have HS4 := Lib.hid (HS3.out.call 2 rfl hL)
            clear hL
            have hw4 : IntKind.i64.wrap (b4 - 1) = b4 - 1 := IntWalk.i64_in _ (by omega)
            have HA := Lib.hid (HS4.out.alloc' rfl 9 [.string ⟨#[]⟩, .string ⟨#[97, 32, 114, 101, 99, 111, 114, 100, 32, 116, 104, 97, 116, 32, 105, 115, 32, 116, 111, 111, 32, 108, 111, 110, 103]⟩])
            go_wp2_with fail
            refine (of_c code A n c g _ [⟨#[]⟩, ⟨#[97, 32, 114, 101, 99, 111, 114, 100, 32, 116, 104, 97, 116, 32, 105, 115, 32, 116, 111, 111, 32, 108, 111, 110, 103]⟩] _ 2 _ B (HC.out.keep fun b hb => HA.out.chg.block b (by omega) (by simp; omega)) hBg (HA.out.at_ 3 rfl) (by omega) (HA.out.at_ 0 rfl) (by have := HS4.out.chg.size; omega) rfl (by omega) (by omega)).mono ?_
            rintro e w5 ⟨tx', rfl, htx', hL⟩
            have HS5 := Lib.hid ((HA.out.call 3 rfl hL).tail)
            clear hL HA
            have htx2 : tx'.size ≤ 25 := by simp only [List.mem_cons, List.not_mem_nil, or_false] at htx'; rcases htx' with h | h <;> (rw [h]; decide)
            clear htx'
            have s0 := HS5.out.cell (k := 0) 0 rfl rfl
            have s1 := HS5.out.cell (k := 1) 0 rfl rfl
            have s2 := HS5.out.cell (k := 2) 0 rfl rfl
            have z0 := HS5.out.frz (k := 0) 0 rfl
            have z1 := HS5.out.frz (k := 1) 0 rfl
            have z2 := HS5.out.frz (k := 2) 0 rfl
            go_wp2_with fail
            go_meet
            exact ⟨b3, b4 - 1, tx', by unfold Mm.I64; omega, by unfold Mm.I64; omega, htx2, (((HS5.out.setBlk (k := 0) 0 rfl (.int .i64 b3)).setBlk (k := 1) 0 rfl (.int .i64 (b4 - 1))).setBlk (k := 2) 0 rfl (.string tx')).more 2 rfl (by omega)⟩
        case rest =>
          obtain ⟨kd, kk, tx, hkd, hkk, htx, HS⟩ := hcut
          have HKD := Lib.hid (And.intro hkd hkk)
          clear hkd hkk
          have HS := Lib.hid HS
          have s0 := HS.out.cell (k := 0) 0 rfl rfl
          have s1 := HS.out.cell (k := 1) 0 rfl rfl
          have s2 := HS.out.cell (k := 2) 0 rfl rfl
          have hts : tx.size ≤ maxLen := by unfold maxLen; omega
          have HTS := Lib.hid hts
          clear hts
          obtain ⟨i0, hi, hz0, hz1, hz2⟩ := info_parts Try.infoStep
          go_wp2_with (at_builtin; refine Mm.app_list (x := (⟨kd, kk, tx⟩ : TellStep)) HS.out 1 rfl rfl (.tmp 55) (.tmp 57) 23 rfl i0 _ 32 Try.underlying23 hi hz0 hz1 hz2 rfl (by decide) rfl rfl (fun W => rTellStep_own_mk (x := ⟨kd, kk, tx⟩) ⟨HKD.out.1, HKD.out.2, HTS.out⟩) hml.out.symm (by unfold maxLen; omega) (by omega) ?_; intro ga cap w' fp' hs; (have HS4 := Lib.hid hs); clear hs)
          go_roundg (k - 1)
          case measure => omega
          case rel => exact ⟨k - 1, mm + 1, _, _, cap, fp', Kc + 8, Nat.le_refl _, by go_num, by show _ = _; rw [List.length_append, hml.out]; rfl, by omega, rfl, by omega, HS4.out.sel [1, 2] (by decide) rfl⟩
    · have hk1 : ¬ (0 : Int) < (k : Nat) := by omega
      go_wp2
      go_ret
      first
        | exact ⟨ls, _, _, _, fp, rfl, by rw [← hml.out]; omega, HS.out.more 1 rfl (by omega)⟩
        | exact ⟨ls, _, _, _, rfl, by rw [← hml.out]; omega, fp, HS.out.more 1 rfl (by omega)⟩
end Go.Proofs.Ytaepohocabealaa

/-
  Contracts: drawn plays of a teller; what is written of a teller; the small functions of chapter 10's laws. No conditions.
-/
namespace Go.Proofs.Ytaepohocabealaa
open Go.RowKit
attribute [local go_sem] und_cell cha_cell World.cell?_alloc_some
def DrawnPlay (w : World) (e : Ending) (w' : World) : Prop := ∃ (l : List TellStep) (A1 : Option Addr) (n1 c1 : Nat) (k : Int), e = .returned (.tuple #[.int .i64 k, .slice A1 n1 c1]) ∧ 1 ≤ k ∧ k ≤ 3 ∧ l.length ≤ 151 ∧ Mm.SlAt rTellStep w' w'.heap.size l A1 n1 c1 ∧ Below w.heap.size w w'
set_option maxRecDepth 100000 in
theorem DrawPlayTell_c (code : List Int) (A : Option Addr) (n c : Nat) (w : World) (B : Nat) (hc : Mm.SlAt Mm.u8 w B code A n c) (hB : B ≤ w.heap.size) :
    Calls Try.prog 8 #[.slice A n c] w (DrawnPlay w) := by
  have hg0 : (Mm.tcur 85 A n c w.heap.size 0).holds (w.alloc (.cells #[.slice A n c, .int .i64 0, .int .u64 0] 85)) := ⟨0, 0, Mm.Blk.new w 85 [.slice A n c, .int .i64 0, .int .u64 0], by omega, by omega⟩
  have HC := Lib.hid (hc.keep (w' := w.alloc (.cells #[.slice A n c, .int .i64 0, .int .u64 0] 85)) fun b hb => (below_new (Below.refl _ w) _).block b (by omega))
  have hsw : (w.alloc (.cells #[.slice A n c, .int .i64 0, .int .u64 0] 85)).heap.size = w.heap.size + 1 := Mm.sz1 _ _
  have HS : Hid (Mm.SepF [w.heap.size] (w.alloc (.cells #[.slice A n c, .int .i64 0, .int .u64 0] 85)) (w.alloc (.cells #[.slice A n c, .int .i64 0, .int .u64 0] 85)) [Mm.tcur 85 A n c w.heap.size 0]) := Mm.SepF.one (Mm.tcur 85 A n c w.heap.size 0) _ hg0 (by simp [Mm.tcur])
  obtain ⟨g, hg⟩ : ∃ g, w.heap.size = g := ⟨_, rfl⟩
  rw [hg] at HS hB hsw
  clear hc hg0
  go_enter Try.func8, Try.ntmps8
  go_wp2_with first
    | (go_at_call 45; refine (pick_c code A n c g _ _ _ B (HC.out.keep fun b hb => HS.out.chg.block b (by omega) (by simp; omega)) hB (HS.out.at_ 0 rfl) (by omega) (by omega)).mono ?_; rintro e w1 ⟨b1, rfl, b10, -, b11, hL⟩; (have HS := Lib.hid (HS.out.call 0 rfl hL)); have b11 := b11 (by omega); clear hL)
    | (go_at_call 46; refine (tellSteps_c code A n c g _ _ _ B (HC.out.keep fun b hb => HS.out.chg.block b (by omega) (by simp; omega)) hB (HS.out.at_ 0 rfl) (by omega) (by omega)).mono ?_; rintro e w1 ⟨l, A1, n1, c1, fp, rfl, hl, hS⟩; have hch := (HS.out.chg).trans hS.chg)
  go_ret2
  refine ⟨l, _, _, _, _, rfl, by omega, by omega, hl, (hS.sl 0 rfl).weak (hS.sl 0 rfl).olt, ?_⟩
  rw [hg]
  exact Mm.Below.chg (hg ▸ below_new (Below.refl _ w) _) hch (by rw [Mm.sz1]; omega) (by simp)
theorem implGoodTell_c (t : Tell) (cs : List Value) (w : World) (B : Nat) (hh : rTell.at_ w B t cs) (hB : B ≤ w.heap.size) :
    Calls Try.prog 14 #[.agg cs.toArray] w fun e w' => e = .returned (.bool (Pl.goodTell t)) ∧ Below w.heap.size w w' := by
  obtain ⟨A0, n0, c0, A1, n1, c1, A2, n2, c2, A3, n3, c3, A4, n4, c4, rfl, -⟩ := rTell_at hh
  have HS := Lib.hid ((Mm.SepF.start w).alloc' rfl 31 [.slice A0 n0 c0, .slice A1 n1 c1, .slice A2 n2 c2, .slice A3 n3 c3, .slice A4 n4 c4])
  have HR := Lib.hid (rTell.keep hh (w' := w.alloc (.cells #[.slice A0 n0 c0, .slice A1 n1 c1, .slice A2 n2 c2, .slice A3 n3 c3, .slice A4 n4 c4] 31)) fun b hb => HS.out.bel0.block b (by omega))
  have hB2 := Nat.le_trans hB HS.out.chg.size
  clear hh
  go_enter Try.func14, Try.ntmps14
  go_wp2_with (go_at_call 53; refine (isTell_c t _ _ B HR.out hB2).mono ?_; rintro e w1 ⟨rfl, hb1⟩)
  go_ret
  exact ⟨rfl, below_step HS.out.bel0 hb1⟩
end Go.Proofs.Ytaepohocabealaa

/-
  What stays true while a call only makes memory: a list of facts that move on together. No program in sight. No conditions.
-/
namespace Go.Proofs.Ytaepohocabealaa
open Go.RowKit
namespace Mm
structure Fact where
  holds : World → Prop
  keep : ∀ {w w' : World}, holds w → Below w.heap.size w w' → holds w'
/-- a reading of a struct, a slice; a block known whole -/
def frd {α : Type} (R : Rep α) (x : α) (cs : List Value) : Fact := ⟨fun w => R.at_ w w.heap.size x cs, fun h hb => R.more (R.keep h fun b hb' => hb.block b hb') hb.size⟩
def fsl {α : Type} (E : Rep α) (xs : List α) (A : Option Addr) (n c : Nat) : Fact := ⟨fun w => SlAt E w w.heap.size xs A n c, fun h hb => (h.keep fun b hb' => hb.block b hb').more hb.size⟩
def fbk (g : Nat) (t : TypeId) (cs : List Value) : Fact := ⟨fun w => Blk w g t cs, fun h hb => h.bel hb⟩
structure Facts (w0 w : World) (fs : List Fact) : Prop where
  bel : Below w0.heap.size w0 w
  all : ∀ f, f ∈ fs → f.holds w
section
variable {w0 w w' : World} {fs gs : List Fact} {f : Fact}
theorem Facts.nil (w : World) : Facts w w [] := ⟨Below.refl _ _, fun f h => by cases h⟩
theorem Facts.step (h : Facts w0 w fs) (hb : Below w.heap.size w w') : Facts w0 w' fs := ⟨below_step h.bel hb, fun f hf => f.keep (h.all f hf) hb⟩
theorem Facts.add (h : Facts w0 w fs) (hb : Below w.heap.size w w') (hf : f.holds w') : Facts w0 w' (fs ++ [f]) :=
  ⟨below_step h.bel hb, fun g hg => by
    rcases List.mem_append.1 hg with hg | hg
    · exact g.keep (h.all g hg) hb
    · rw [List.mem_singleton.1 hg]; exact hf⟩
theorem Facts.put (h : Facts w0 w fs) (hf : f.holds w) : Facts w0 w (fs ++ [f]) := h.add (Below.refl _ _) hf
/-- a variable of its own: its block, laid at the world's end -/
theorem Facts.var {g : Nat} (h : Facts w0 w fs) (hg : w.heap.size = g) (t : TypeId) (cs : List Value) : Facts w0 (w.alloc (.cells cs.toArray t)) (fs ++ [fbk g t cs]) := by
  subst hg
  exact h.add (below_new (Below.refl _ _) _) (Blk.new w t cs)
theorem Facts.at_ (h : Facts w0 w fs) (i : Nat) (hi : fs[i]? = some f) : f.holds w := h.all f (List.mem_of_getElem? hi)
theorem Facts.rd {α : Type} {R : Rep α} {x : α} {cs : List Value} (h : Facts w0 w fs) (i : Nat) (hi : fs[i]? = some (frd R x cs)) : R.at_ w w.heap.size x cs := h.at_ i hi
theorem Facts.sl {α : Type} {E : Rep α} {xs : List α} {A : Option Addr} {n c : Nat} (h : Facts w0 w fs) (i : Nat) (hi : fs[i]? = some (fsl E xs A n c)) : SlAt E w w.heap.size xs A n c := h.at_ i hi
theorem Facts.cell {g k : Nat} {t : TypeId} {cs : List Value} {u : Value} (h : Facts w0 w fs) (i : Nat) (hi : fs[i]? = some (fbk g t cs)) (hu : cs[k]? = some u) : w.cell? ⟨g, k, none⟩ = some u := (show Blk w g t cs from h.at_ i hi).cell hu
theorem Facts.und (h : Facts w0 w fs) (x : Und w) : Facts w0 (und w x) fs := h.step x.h
theorem Facts.fewer (h : Facts w0 w fs) (hs : gs.Sublist fs) : Facts w0 w gs := ⟨h.bel, fun f hf => h.all f (hs.subset hf)⟩
end
end Mm
end Go.Proofs.Ytaepohocabealaa
