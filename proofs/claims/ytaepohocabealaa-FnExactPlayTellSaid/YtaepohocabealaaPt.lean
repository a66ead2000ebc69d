/-
  Plain functions: tellers. No program in sight. No conditions.
-/
import Derived.Test.YtaepohocabealaaPc
namespace Go.Proofs.Ytaepohocabealaa
namespace Pl
def iAt (l : List Int) (k : Int) : Int := l.getD k.toNat 0
def tAt (t : Tell) (k : Int) : List ByteArray := t.Texts.getD k.toNat []
def judge (next no : Int) : Int := if no = next then 1 else if no < next then 2 else 3
def tsend (t : Tell) (m : Note) : Tell := if t.Line.length < 30 then { t with Line := t.Line ++ [m] } else t
def tback (t : Tell) (x : Told) : Tell := { t with Heard := t.Heard.set x.Who.toNat (if iAt t.Heard x.Who < x.No then x.No else iAt t.Heard x.Who) }
def tlog (t : Tell) (x : Told) : Tell := if x.No = iAt t.Next x.Who then { t with Log := t.Log ++ [x], Next := t.Next.set x.Who.toNat (iAt t.Next x.Who + 1) } else t
def ttake (t : Tell) (m : Note) : Tell :=
  if m.Back = true then tback t m.What else tsend (tlog t m.What) ⟨true, ⟨m.What.Who, iAt (tlog t m.What).Next m.What.Who, ByteArray.empty⟩⟩
def tput (t : Tell) (k : Int) (s : ByteArray) : Tell × Bool :=
  if 0 ≤ k ∧ k < t.Texts.length ∧ s.size ≤ 20 ∧ (tAt t k).length ≠ 20 then ({ t with Texts := t.Texts.set k.toNat (tAt t k ++ [s]) }, true) else (t, false)
def noteAt (t : Tell) (k : Int) : Note := t.Line.getD k.toNat ⟨false, ⟨0, 0, ByteArray.empty⟩⟩
def tstep (t : Tell) (s : TellStep) : Tell × Bool :=
  if s.Kind = 1 then tput t s.K s.Text
  else if s.Text.size ≠ 0 ∨ s.K < 0 then (t, false)
  else if s.Kind = 2 then
    if s.K < t.Texts.length ∧ iAt t.Heard s.K ≠ (tAt t s.K).length then (tsend t ⟨false, ⟨s.K, iAt t.Heard s.K, (tAt t s.K).getD (iAt t.Heard s.K).toNat ByteArray.empty⟩⟩, true) else (t, false)
  else if 3 ≤ s.Kind ∧ s.Kind ≤ 5 ∧ s.K < t.Line.length then
    if s.Kind = 5 then (if t.Line.length = 30 then (t, false) else ({ t with Line := t.Line ++ [noteAt t s.K] }, true))
    else if s.Kind = 3 then (ttake { t with Line := t.Line.eraseIdx s.K.toNat } (noteAt t s.K), true)
    else ({ t with Line := t.Line.eraseIdx s.K.toNat }, true)
  else (t, false)
/-- a message fits a state -/
def MsgOk (t : Tell) (m : Note) : Prop := 0 ≤ m.What.Who ∧ m.What.Who < t.Texts.length ∧ 0 ≤ m.What.No ∧ ∀ l, t.Texts[m.What.Who.toNat]? = some l → m.What.No ≤ l.length ∧ (m.Back = false → m.What.No < l.length)
/-- what every state that is played meets -/
structure TWf (t : Tell) : Prop where
  n4 : t.Texts.length ≤ 4
  heard : t.Heard.length = t.Texts.length
  next : t.Next.length = t.Texts.length
  line : t.Line.length ≤ 30
  log : (t.Log.length : Int) = sum t.Next
  texts : ∀ (k : Nat) (l : List ByteArray), t.Texts[k]? = some l → l.length ≤ 20
  nx : ∀ (k : Nat) (a : Int) (l : List ByteArray), t.Next[k]? = some a → t.Texts[k]? = some l → 0 ≤ a ∧ a ≤ l.length
  hd : ∀ (k : Nat) (a : Int) (l : List ByteArray), t.Heard[k]? = some a → t.Texts[k]? = some l → 0 ≤ a ∧ a ≤ l.length
  msg : ∀ m, m ∈ t.Line → MsgOk t m
theorem TWf.send {t : Tell} (h : TWf t) {m : Note} (hm : MsgOk t m) : TWf (tsend t m) := by
  unfold tsend
  split
  · rename_i hl
    exact ⟨h.n4, h.heard, h.next, by simp only [List.length_append, List.length_singleton]; omega, h.log, h.texts, h.nx, h.hd, fun x hx => by
      rcases List.mem_append.1 hx with hx | hx
      · exact h.msg x hx
      · rw [List.mem_singleton.1 hx]; exact hm⟩
  · exact h
theorem set_some {α : Type} {l : List α} {k j : Nat} {x a : α} (h : (l.set k x)[j]? = some a) : (k = j ∧ a = x) ∨ (k ≠ j ∧ l[j]? = some a) := by
  by_cases hkj : k = j
  · subst hkj
    have hk : k < l.length := by have := (List.getElem?_eq_some_iff.1 h).1; rwa [List.length_set] at this
    rw [List.getElem?_set_self hk] at h
    injection h with h
    exact .inl ⟨rfl, h.symm⟩
  · rw [List.getElem?_set_ne hkj] at h
    exact .inr ⟨hkj, h⟩
theorem iAt_of {l : List Int} {k : Int} {a : Int} (h : l[k.toNat]? = some a) : iAt l k = a := by
  unfold iAt; rw [List.getD_eq_getElem?_getD, h]; rfl
theorem tAt_of {t : Tell} {k : Int} {l : List ByteArray} (h : t.Texts[k.toNat]? = some l) : tAt t k = l := by
  unfold tAt; rw [List.getD_eq_getElem?_getD, h]; rfl
theorem noteAt_of {t : Tell} {k : Int} {m : Note} (h : t.Line[k.toNat]? = some m) : noteAt t k = m := by
  unfold noteAt; rw [List.getD_eq_getElem?_getD, h]; rfl
theorem TWf.back {t : Tell} (h : TWf t) {m : Note} (hm : MsgOk t m) : TWf (tback t m.What) := by
  refine ⟨h.n4, by show (t.Heard.set _ _).length = _; rw [List.length_set]; exact h.heard, h.next, h.line, h.log, h.texts, h.nx, fun k a l ha hl => ?_, h.msg⟩
  rcases set_some ha with ⟨rfl, rfl⟩ | ⟨_, ha⟩
  · have hk : m.What.Who.toNat < t.Heard.length := by have := hm.1; have := hm.2.1; rw [h.heard]; omega
    have hh := h.hd _ _ l (List.getElem?_eq_getElem hk) hl
    rw [iAt_of (List.getElem?_eq_getElem hk)]
    have h3 := (hm.2.2.2 l hl).1
    have h4 := hm.2.2.1
    split <;> omega
  · exact h.hd k a l ha hl
theorem sumTo_set {l : List Int} {k : Nat} {a b : Int} (h : l[k]? = some a) : ∀ n, sumTo (l.set k b) n = sumTo l n + if k < n then b - a else 0
  | 0 => by simp [sumTo]
  | n + 1 => by
    have ih := sumTo_set (b := b) h n
    have hk := (List.getElem?_eq_some_iff.1 h).1
    rw [sumTo, sumTo, ih]
    by_cases hkn : k = n
    · subst hkn
      rw [List.getD_eq_getElem?_getD, List.getD_eq_getElem?_getD, List.getElem?_set_self hk, h]
      simp
      omega
    · rw [List.getD_eq_getElem?_getD, List.getD_eq_getElem?_getD, List.getElem?_set_ne hkn]
      by_cases hlt : k < n
      · rw [if_pos hlt, if_pos (by omega)]; omega
      · rw [if_neg hlt, if_neg (by omega)]; omega
theorem sum_set {l : List Int} {k : Nat} {a b : Int} (h : l[k]? = some a) : sum (l.set k b) = sum l + (b - a) := by
  unfold sum
  rw [List.length_set, sumTo_set h, if_pos (List.getElem?_eq_some_iff.1 h).1]
theorem TWf.tlog {t : Tell} (h : TWf t) {m : Note} (hm : MsgOk t m) (hb : m.Back = false) : TWf (tlog t m.What) := by
  unfold Pl.tlog
  split
  · rename_i he
    have hk : m.What.Who.toNat < t.Next.length := by have := hm.1; have := hm.2.1; rw [h.next]; omega
    have hx := List.getElem?_eq_getElem hk
    rw [iAt_of hx] at he ⊢
    refine ⟨h.n4, h.heard, by show (t.Next.set _ _).length = _; rw [List.length_set]; exact h.next, h.line, ?_, h.texts, fun k a l ha hl => ?_, h.hd, h.msg⟩
    · show ((t.Log ++ [m.What]).length : Int) = sum (t.Next.set _ _)
      rw [sum_set hx, List.length_append, List.length_singleton]
      have := h.log
      push_cast
      omega
    · rcases set_some ha with ⟨rfl, rfl⟩ | ⟨_, ha⟩
      · have h3 := (hm.2.2.2 l hl).2 hb
        have h4 := h.nx _ _ l hx hl
        omega
      · exact h.nx k a l ha hl
  · exact h
theorem TWf.log_len {t : Tell} (h : TWf t) : t.Log.length ≤ 80 := by
  have h1 : ∀ n : Nat, n ≤ t.Next.length → sumTo t.Next n ≤ 20 * n := by
    intro n
    induction n with
    | zero => intro _; simp [sumTo]
    | succ n ih =>
      intro hn
      have hx := List.getElem?_eq_getElem (show n < t.Next.length by omega)
      have hl := List.getElem?_eq_getElem (show n < t.Texts.length by have := h.next; omega)
      have h2 := (h.nx _ _ _ hx hl).2
      have h3 := h.texts _ _ hl
      rw [sumTo_next hx]
      have := ih (by omega)
      push_cast
      omega
  have h2 := h1 t.Next.length (Nat.le_refl _)
  have h3 := h.log
  have h4 := h.next
  have h5 := h.n4
  unfold sum at h3
  omega
theorem tlog_texts (t : Tell) (x : Told) : (Pl.tlog t x).Texts = t.Texts := by unfold Pl.tlog; split <;> rfl
theorem TWf.take {t : Tell} (h : TWf t) {m : Note} (hm : MsgOk t m) : TWf (ttake t m) := by
  unfold ttake
  split
  · exact h.back hm
  · rename_i hb
    have hb' : m.Back = false := by simpa using hb
    have h1 := h.tlog hm hb'
    refine h1.send ⟨hm.1, by rw [tlog_texts]; exact hm.2.1, ?_, fun l hl => ?_⟩
    · have hk : m.What.Who.toNat < (Pl.tlog t m.What).Next.length := by have := hm.1; have := hm.2.1; rw [h1.next, tlog_texts]; omega
      have hkt : m.What.Who.toNat < (Pl.tlog t m.What).Texts.length := by have := h1.next; omega
      show 0 ≤ iAt _ _
      rw [iAt_of (List.getElem?_eq_getElem hk)]
      exact (h1.nx _ _ _ (List.getElem?_eq_getElem hk) (List.getElem?_eq_getElem hkt)).1
    · have hk : m.What.Who.toNat < (Pl.tlog t m.What).Next.length := by have := hm.1; have := hm.2.1; rw [h1.next, tlog_texts]; omega
      refine ⟨?_, fun hh => by cases hh⟩
      show iAt _ _ ≤ _
      rw [iAt_of (List.getElem?_eq_getElem hk)]
      exact (h1.nx _ _ _ (List.getElem?_eq_getElem hk) hl).2
theorem TWf.drop {t : Tell} (h : TWf t) (k : Nat) : TWf { t with Line := t.Line.eraseIdx k } :=
  ⟨h.n4, h.heard, h.next, Nat.le_trans (List.length_eraseIdx_le _ _) h.line, h.log, h.texts, h.nx, h.hd, fun m hm => h.msg m (List.mem_of_mem_eraseIdx hm)⟩
theorem TWf.note {t : Tell} (h : TWf t) {k : Int} (h0 : 0 ≤ k) (h1 : k < t.Line.length) : MsgOk t (noteAt t k) := by
  have hk : k.toNat < t.Line.length := by omega
  rw [noteAt_of (List.getElem?_eq_getElem hk)]
  exact h.msg _ (List.getElem_mem hk)
theorem TWf.step {t : Tell} (h : TWf t) (s : TellStep) : TWf (tstep t s).1 := by
  unfold tstep
  split
  · unfold tput
    split
    · rename_i hp
      have hk : s.K.toNat < t.Texts.length := by omega
      have hx := List.getElem?_eq_getElem hk
      rw [tAt_of hx] at hp ⊢
      have hlen := h.texts _ _ hx
      have hgrow : ∀ (k : Nat) (l : List ByteArray), (t.Texts.set s.K.toNat (t.Texts[s.K.toNat] ++ [s.Text]))[k]? = some l → ∃ l', t.Texts[k]? = some l' ∧ l'.length ≤ l.length ∧ l.length ≤ 20 := fun k l hl => by
        rcases set_some hl with ⟨rfl, rfl⟩ | ⟨_, hl⟩
        · exact ⟨_, hx, by simp, by simp; omega⟩
        · exact ⟨l, hl, Nat.le_refl _, h.texts k l hl⟩
      refine ⟨by show (t.Texts.set _ _).length ≤ 4; rw [List.length_set]; exact h.n4, by show _ = (t.Texts.set _ _).length; rw [List.length_set]; exact h.heard, by show _ = (t.Texts.set _ _).length; rw [List.length_set]; exact h.next, h.line, h.log, fun k l hl => ?_, fun k a l ha hl => ?_, fun k a l ha hl => ?_, fun m hm => ?_⟩
      · obtain ⟨_, _, _, h3⟩ := hgrow k l hl; exact h3
      · obtain ⟨l', h1, h2, _⟩ := hgrow k l hl
        have := h.nx k a l' ha h1; omega
      · obtain ⟨l', h1, h2, _⟩ := hgrow k l hl
        have := h.hd k a l' ha h1; omega
      · have h5 := h.msg m hm
        refine ⟨h5.1, by show _ < ((t.Texts.set _ _).length : Int); rw [List.length_set]; exact h5.2.1, h5.2.2.1, fun l hl => ?_⟩
        obtain ⟨l', h1, h2, _⟩ := hgrow _ l hl
        have h6 := h5.2.2.2 l' h1
        exact ⟨by omega, fun hb => by have := h6.2 hb; omega⟩
    · exact h
  · split
    · exact h
    · rename_i hn1 hn2
      split
      · split
        · rename_i hk
          have hkn : s.K.toNat < t.Texts.length := by omega
          have hkh : s.K.toNat < t.Heard.length := by rw [h.heard]; exact hkn
          have hx := List.getElem?_eq_getElem hkn
          have hy := List.getElem?_eq_getElem hkh
          have hb := h.hd _ _ _ hy hx
          rw [tAt_of hx, iAt_of hy] at hk
          refine h.send ⟨by show 0 ≤ s.K; omega, hk.1, by show 0 ≤ iAt _ _; rw [iAt_of hy]; exact hb.1, fun l hl => ?_⟩
          rw [hx] at hl
          injection hl with hl
          subst hl
          have : iAt t.Heard s.K < (t.Texts[s.K.toNat].length : Int) := by rw [iAt_of hy]; omega
          exact ⟨by show iAt _ _ ≤ _; omega, fun _ => this⟩
        · exact h
      · split
        · rename_i hk
          have hm := h.note (k := s.K) (by omega) hk.2.2
          split
          · split
            · exact h
            · rename_i hl
              exact ⟨h.n4, h.heard, h.next, by show (t.Line ++ [_]).length ≤ 30; have := h.line; simp only [List.length_append, List.length_singleton]; omega, h.log, h.texts, h.nx, h.hd, fun x hx => by
                rcases List.mem_append.1 hx with hx | hx
                · exact h.msg x hx
                · rw [List.mem_singleton.1 hx]; exact hm⟩
          · split
            · exact (h.drop _).take hm
            · exact h.drop _
        · exact h
end Pl
end Go.Proofs.Ytaepohocabealaa
