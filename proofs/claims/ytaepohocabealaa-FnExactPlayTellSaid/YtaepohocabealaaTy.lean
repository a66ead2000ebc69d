/-
  How the program's types lie in memory. No conditions.
-/
import Derived.Test.YtaepohocabealaaOx
import Derived.Test.YtaepohocabealaaDt
import Derived.Test.YtaepohocabealaaMk
namespace Go.Proofs.Ytaepohocabealaa
def rTold : Mm.Rep Told := Mm.flat 3 (fun x => [.int .i64 x.Who, .int .i64 x.No, .string x.Text]) (fun x => Mm.I64 x.Who ∧ Mm.I64 x.No ∧ x.Text.size ≤ maxLen) (fun _ => rfl) (fun _ u hu => by
  simp at hu; rcases hu with rfl | rfl | rfl <;> rfl)
theorem rTold_at {w : World} {B : Nat} {x : Told} {cs : List Value} (h : rTold.at_ w B x cs) : cs = [.int .i64 x.Who, .int .i64 x.No, .string x.Text] ∧ Mm.I64 x.Who ∧ Mm.I64 x.No ∧ x.Text.size ≤ maxLen := h
theorem rTold_own {w : World} {x : Told} {cs : List Value} {fp : List Nat} (h : rTold.own w x cs fp) : cs = [.int .i64 x.Who, .int .i64 x.No, .string x.Text] ∧ (Mm.I64 x.Who ∧ Mm.I64 x.No ∧ x.Text.size ≤ maxLen) ∧ fp = [] := h
theorem rTold_own_mk {w : World} {x : Told} (h : Mm.I64 x.Who ∧ Mm.I64 x.No ∧ x.Text.size ≤ maxLen) : rTold.own w x [.int .i64 x.Who, .int .i64 x.No, .string x.Text] [] := ⟨rfl, h, rfl⟩
def rNote : Mm.Rep Note := Mm.flat 4 (fun x => [.bool x.Back, .int .i64 x.What.Who, .int .i64 x.What.No, .string x.What.Text]) (fun x => Mm.I64 x.What.Who ∧ Mm.I64 x.What.No ∧ x.What.Text.size ≤ maxLen) (fun _ => rfl) (fun _ u hu => by
  simp at hu; rcases hu with rfl | rfl | rfl | rfl <;> rfl)
theorem rNote_at {w : World} {B : Nat} {x : Note} {cs : List Value} (h : rNote.at_ w B x cs) : cs = [.bool x.Back, .int .i64 x.What.Who, .int .i64 x.What.No, .string x.What.Text] ∧ Mm.I64 x.What.Who ∧ Mm.I64 x.What.No ∧ x.What.Text.size ≤ maxLen := h
theorem rNote_own {w : World} {x : Note} {cs : List Value} {fp : List Nat} (h : rNote.own w x cs fp) : cs = [.bool x.Back, .int .i64 x.What.Who, .int .i64 x.What.No, .string x.What.Text] ∧ (Mm.I64 x.What.Who ∧ Mm.I64 x.What.No ∧ x.What.Text.size ≤ maxLen) ∧ fp = [] := h
theorem rNote_own_mk {w : World} {x : Note} (h : Mm.I64 x.What.Who ∧ Mm.I64 x.What.No ∧ x.What.Text.size ≤ maxLen) : rNote.own w x [.bool x.Back, .int .i64 x.What.Who, .int .i64 x.What.No, .string x.What.Text] [] := ⟨rfl, h, rfl⟩
def rTellStep : Mm.Rep TellStep := Mm.flat 3 (fun x => [.int .i64 x.Kind, .int .i64 x.K, .string x.Text]) (fun x => Mm.I64 x.Kind ∧ Mm.I64 x.K ∧ x.Text.size ≤ maxLen) (fun _ => rfl) (fun _ u hu => by
  simp at hu; rcases hu with rfl | rfl | rfl <;> rfl)
theorem rTellStep_at {w : World} {B : Nat} {x : TellStep} {cs : List Value} (h : rTellStep.at_ w B x cs) : cs = [.int .i64 x.Kind, .int .i64 x.K, .string x.Text] ∧ Mm.I64 x.Kind ∧ Mm.I64 x.K ∧ x.Text.size ≤ maxLen := h
theorem rTellStep_own {w : World} {x : TellStep} {cs : List Value} {fp : List Nat} (h : rTellStep.own w x cs fp) : cs = [.int .i64 x.Kind, .int .i64 x.K, .string x.Text] ∧ (Mm.I64 x.Kind ∧ Mm.I64 x.K ∧ x.Text.size ≤ maxLen) ∧ fp = [] := h
theorem rTellStep_own_mk {w : World} {x : TellStep} (h : Mm.I64 x.Kind ∧ Mm.I64 x.K ∧ x.Text.size ≤ maxLen) : rTellStep.own w x [.int .i64 x.Kind, .int .i64 x.K, .string x.Text] [] := ⟨rfl, h, rfl⟩
def ints : Mm.Rep (List Int) := Mm.slice Mm.int 3
def strs : Mm.Rep (List ByteArray) := Mm.slice Mm.str 9
def strss : Mm.Rep (List (List ByteArray)) := Mm.slice strs 40
def rNoteS : Mm.Rep (List Note) := Mm.slice rNote 94
def rToldS : Mm.Rep (List Told) := Mm.slice rTold 52
def rTell : Mm.Rep Tell := Mm.iso (fun x => (x.Texts, (x.Heard, (x.Line, (x.Log, x.Next))))) (Mm.pair strss (Mm.pair ints (Mm.pair rNoteS (Mm.pair rToldS ints))))
theorem rTell_at {w : World} {B : Nat} {x : Tell} {cs : List Value} (h : rTell.at_ w B x cs) : ∃ A0 n0 c0 A1 n1 c1 A2 n2 c2 A3 n3 c3 A4 n4 c4, cs = [.slice A0 n0 c0, .slice A1 n1 c1, .slice A2 n2 c2, .slice A3 n3 c3, .slice A4 n4 c4] ∧ Mm.SlAt strs w B x.Texts A0 n0 c0 ∧ Mm.SlAt Mm.int w B x.Heard A1 n1 c1 ∧ Mm.SlAt rNote w B x.Line A2 n2 c2 ∧ Mm.SlAt rTold w B x.Log A3 n3 c3 ∧ Mm.SlAt Mm.int w B x.Next A4 n4 c4 := by
  obtain ⟨_, _, rfl, ⟨A0, n0, c0, rfl, h0⟩, ⟨_, _, rfl, ⟨A1, n1, c1, rfl, h1⟩, ⟨_, _, rfl, ⟨A2, n2, c2, rfl, h2⟩, ⟨_, _, rfl, ⟨A3, n3, c3, rfl, h3⟩, ⟨A4, n4, c4, rfl, h4⟩⟩⟩⟩⟩ := h
  exact ⟨A0, n0, c0, A1, n1, c1, A2, n2, c2, A3, n3, c3, A4, n4, c4, rfl, h0, h1, h2, h3, h4⟩
theorem rTell_at_mk {w : World} {B : Nat} {x : Tell} {A0 : Option Addr} {n0 c0 : Nat} {A1 : Option Addr} {n1 c1 : Nat} {A2 : Option Addr} {n2 c2 : Nat} {A3 : Option Addr} {n3 c3 : Nat} {A4 : Option Addr} {n4 c4 : Nat} (g0 : Mm.SlAt strs w B x.Texts A0 n0 c0) (g1 : Mm.SlAt Mm.int w B x.Heard A1 n1 c1) (g2 : Mm.SlAt rNote w B x.Line A2 n2 c2) (g3 : Mm.SlAt rTold w B x.Log A3 n3 c3) (g4 : Mm.SlAt Mm.int w B x.Next A4 n4 c4) : rTell.at_ w B x [.slice A0 n0 c0, .slice A1 n1 c1, .slice A2 n2 c2, .slice A3 n3 c3, .slice A4 n4 c4] :=
  ⟨_, _, rfl, ⟨A0, n0, c0, rfl, g0⟩, ⟨_, _, rfl, ⟨A1, n1, c1, rfl, g1⟩, ⟨_, _, rfl, ⟨A2, n2, c2, rfl, g2⟩, ⟨_, _, rfl, ⟨A3, n3, c3, rfl, g3⟩, ⟨A4, n4, c4, rfl, g4⟩⟩⟩⟩⟩
theorem rTell_own {w : World} {x : Tell} {cs : List Value} {fp : List Nat} (h : rTell.own w x cs fp) : ∃ A0 n0 c0 A1 n1 c1 A2 n2 c2 A3 n3 c3 A4 n4 c4 f0 f1 f2 f3 f4, cs = [.slice A0 n0 c0, .slice A1 n1 c1, .slice A2 n2 c2, .slice A3 n3 c3, .slice A4 n4 c4] ∧ fp = f0 ++ (f1 ++ (f2 ++ (f3 ++ f4))) ∧ Mm.SlOwn strs 40 w x.Texts (.slice A0 n0 c0) f0 ∧ Mm.SlOwn Mm.int 3 w x.Heard (.slice A1 n1 c1) f1 ∧ Mm.SlOwn rNote 94 w x.Line (.slice A2 n2 c2) f2 ∧ Mm.SlOwn rTold 52 w x.Log (.slice A3 n3 c3) f3 ∧ Mm.SlOwn Mm.int 3 w x.Next (.slice A4 n4 c4) f4 := by
  obtain ⟨_, _, _, _, rfl, rfl, ⟨v0, rfl, h0⟩, ⟨_, _, _, _, rfl, rfl, ⟨v1, rfl, h1⟩, ⟨_, _, _, _, rfl, rfl, ⟨v2, rfl, h2⟩, ⟨_, _, _, _, rfl, rfl, ⟨v3, rfl, h3⟩, ⟨v4, rfl, h4⟩⟩⟩⟩⟩ := h
  obtain ⟨A0, n0, c0, rfl, _⟩ := h0.form
  obtain ⟨A1, n1, c1, rfl, _⟩ := h1.form
  obtain ⟨A2, n2, c2, rfl, _⟩ := h2.form
  obtain ⟨A3, n3, c3, rfl, _⟩ := h3.form
  obtain ⟨A4, n4, c4, rfl, _⟩ := h4.form
  exact ⟨A0, n0, c0, A1, n1, c1, A2, n2, c2, A3, n3, c3, A4, n4, c4, _, _, _, _, _, rfl, by simp, h0, h1, h2, h3, h4⟩
theorem rTell_own_mk {w : World} {x : Tell} {A0 : Option Addr} {n0 c0 : Nat} {A1 : Option Addr} {n1 c1 : Nat} {A2 : Option Addr} {n2 c2 : Nat} {A3 : Option Addr} {n3 c3 : Nat} {A4 : Option Addr} {n4 c4 : Nat} {f0 f1 f2 f3 f4 : List Nat} (g0 : Mm.SlOwn strs 40 w x.Texts (.slice A0 n0 c0) f0) (g1 : Mm.SlOwn Mm.int 3 w x.Heard (.slice A1 n1 c1) f1) (g2 : Mm.SlOwn rNote 94 w x.Line (.slice A2 n2 c2) f2) (g3 : Mm.SlOwn rTold 52 w x.Log (.slice A3 n3 c3) f3) (g4 : Mm.SlOwn Mm.int 3 w x.Next (.slice A4 n4 c4) f4) : rTell.own w x [.slice A0 n0 c0, .slice A1 n1 c1, .slice A2 n2 c2, .slice A3 n3 c3, .slice A4 n4 c4] (f0 ++ (f1 ++ (f2 ++ (f3 ++ f4)))) := by
  have h : rTell.own w x _ _ := ⟨_, _, _, _, rfl, rfl, ⟨_, rfl, g0⟩, ⟨_, _, _, _, rfl, rfl, ⟨_, rfl, g1⟩, ⟨_, _, _, _, rfl, rfl, ⟨_, rfl, g2⟩, ⟨_, _, _, _, rfl, rfl, ⟨_, rfl, g3⟩, ⟨_, rfl, g4⟩⟩⟩⟩⟩
  simpa using h
def bools : Mm.Rep (List Bool) := Mm.slice Mm.bool 4
def rTellStepS : Mm.Rep (List TellStep) := Mm.slice rTellStep 46
theorem int_get {w : World} {B : Nat} {l : List Int} {A : Option Addr} {n c k : Nat} (h : Mm.SlAt Mm.int w B l A n c) (hk : k < n) :
    ∃ x b off, l[k]? = some x ∧ A = some ⟨b, off, none⟩ ∧ b < B ∧ Mm.I64 x ∧ w.cell? ⟨b, off + k, none⟩ = some (.int .i64 x) := by
  obtain ⟨x, b, off, cs, hx, hA, hb, ha, hc⟩ := h.get hk
  obtain ⟨rfl, g0⟩ := ha
  exact ⟨x, b, off, hx, hA, hb, g0, (by rw [show off + k = off + k * Mm.int.size + 0 by show _ = off + k * 1 + 0; omega]; exact hc 0 _ rfl)⟩
theorem int_get' {w : World} {B : Nat} {l : List Int} {b off n c k : Nat} (h : Mm.SlAt Mm.int w B l (some ⟨b, off, none⟩) n c) (hk : k < n) :
    ∃ x, l[k]? = some x ∧ b < B ∧ Mm.I64 x ∧ w.cell? ⟨b, off + k, none⟩ = some (.int .i64 x) := by
  obtain ⟨x, cs, hx, hb, ha, hc⟩ := h.get' hk
  obtain ⟨rfl, g0⟩ := ha
  exact ⟨x, hx, hb, g0, (by rw [show off + k = off + k * Mm.int.size + 0 by show _ = off + k * 1 + 0; omega]; exact hc 0 _ rfl)⟩
theorem int_ocell {w : World} {e : TypeId} {xs : List Int} {g n c i : Nat} {x : Int} {fp : List Nat} (h : Mm.SlOwn Mm.int e w xs (.slice (some ⟨g, 0, none⟩) n c) fp) (hnd : fp.Nodup) (hi : xs[i]? = some x) : w.cell? ⟨g, i, none⟩ = some (.int .i64 x) := by
  obtain ⟨cs, fx, hown, _, _, hc, _⟩ := h.inner hnd hi
  obtain ⟨rfl, _, _⟩ := hown
  exact ((by have e0 := hc 0 _ rfl; rwa [show i * Mm.int.size + 0 = i by show i * 1 + 0 = i; omega] at e0))
theorem str_get {w : World} {B : Nat} {l : List ByteArray} {A : Option Addr} {n c k : Nat} (h : Mm.SlAt Mm.str w B l A n c) (hk : k < n) :
    ∃ x b off, l[k]? = some x ∧ A = some ⟨b, off, none⟩ ∧ b < B ∧ x.size ≤ maxLen ∧ w.cell? ⟨b, off + k, none⟩ = some (.string x) := by
  obtain ⟨x, b, off, cs, hx, hA, hb, ha, hc⟩ := h.get hk
  obtain ⟨rfl, g0⟩ := ha
  exact ⟨x, b, off, hx, hA, hb, g0, (by rw [show off + k = off + k * Mm.str.size + 0 by show _ = off + k * 1 + 0; omega]; exact hc 0 _ rfl)⟩
theorem str_get' {w : World} {B : Nat} {l : List ByteArray} {b off n c k : Nat} (h : Mm.SlAt Mm.str w B l (some ⟨b, off, none⟩) n c) (hk : k < n) :
    ∃ x, l[k]? = some x ∧ b < B ∧ x.size ≤ maxLen ∧ w.cell? ⟨b, off + k, none⟩ = some (.string x) := by
  obtain ⟨x, cs, hx, hb, ha, hc⟩ := h.get' hk
  obtain ⟨rfl, g0⟩ := ha
  exact ⟨x, hx, hb, g0, (by rw [show off + k = off + k * Mm.str.size + 0 by show _ = off + k * 1 + 0; omega]; exact hc 0 _ rfl)⟩
theorem str_ocell {w : World} {e : TypeId} {xs : List ByteArray} {g n c i : Nat} {x : ByteArray} {fp : List Nat} (h : Mm.SlOwn Mm.str e w xs (.slice (some ⟨g, 0, none⟩) n c) fp) (hnd : fp.Nodup) (hi : xs[i]? = some x) : w.cell? ⟨g, i, none⟩ = some (.string x) := by
  obtain ⟨cs, fx, hown, _, _, hc, _⟩ := h.inner hnd hi
  obtain ⟨rfl, _, _⟩ := hown
  exact ((by have e0 := hc 0 _ rfl; rwa [show i * Mm.str.size + 0 = i by show i * 1 + 0 = i; omega] at e0))
theorem bool_get {w : World} {B : Nat} {l : List Bool} {A : Option Addr} {n c k : Nat} (h : Mm.SlAt Mm.bool w B l A n c) (hk : k < n) :
    ∃ x b off, l[k]? = some x ∧ A = some ⟨b, off, none⟩ ∧ b < B ∧ w.cell? ⟨b, off + k, none⟩ = some (.bool x) := by
  obtain ⟨x, b, off, cs, hx, hA, hb, ha, hc⟩ := h.get hk
  obtain ⟨rfl, _⟩ := ha
  exact ⟨x, b, off, hx, hA, hb, (by rw [show off + k = off + k * Mm.bool.size + 0 by show _ = off + k * 1 + 0; omega]; exact hc 0 _ rfl)⟩
theorem bool_get' {w : World} {B : Nat} {l : List Bool} {b off n c k : Nat} (h : Mm.SlAt Mm.bool w B l (some ⟨b, off, none⟩) n c) (hk : k < n) :
    ∃ x, l[k]? = some x ∧ b < B ∧ w.cell? ⟨b, off + k, none⟩ = some (.bool x) := by
  obtain ⟨x, cs, hx, hb, ha, hc⟩ := h.get' hk
  obtain ⟨rfl, _⟩ := ha
  exact ⟨x, hx, hb, (by rw [show off + k = off + k * Mm.bool.size + 0 by show _ = off + k * 1 + 0; omega]; exact hc 0 _ rfl)⟩
theorem bool_ocell {w : World} {e : TypeId} {xs : List Bool} {g n c i : Nat} {x : Bool} {fp : List Nat} (h : Mm.SlOwn Mm.bool e w xs (.slice (some ⟨g, 0, none⟩) n c) fp) (hnd : fp.Nodup) (hi : xs[i]? = some x) : w.cell? ⟨g, i, none⟩ = some (.bool x) := by
  obtain ⟨cs, fx, hown, _, _, hc, _⟩ := h.inner hnd hi
  obtain ⟨rfl, _, _⟩ := hown
  exact ((by have e0 := hc 0 _ rfl; rwa [show i * Mm.bool.size + 0 = i by show i * 1 + 0 = i; omega] at e0))
theorem strs_get {w : World} {B : Nat} {l : List (List ByteArray)} {A : Option Addr} {n c k : Nat} (h : Mm.SlAt strs w B l A n c) (hk : k < n) :
    ∃ x b off A' n' c', l[k]? = some x ∧ A = some ⟨b, off, none⟩ ∧ b < B ∧ Mm.SlAt Mm.str w B x A' n' c' ∧ w.cell? ⟨b, off + k, none⟩ = some (.slice A' n' c') := by
  obtain ⟨x, b, off, cs, hx, hA, hb, ha, hc⟩ := h.get hk
  obtain ⟨A', n', c', rfl, g0⟩ := ha
  exact ⟨x, b, off, A', n', c', hx, hA, hb, g0, (by rw [show off + k = off + k * strs.size + 0 by show _ = off + k * 1 + 0; omega]; exact hc 0 _ rfl)⟩
theorem strs_get' {w : World} {B : Nat} {l : List (List ByteArray)} {b off n c k : Nat} (h : Mm.SlAt strs w B l (some ⟨b, off, none⟩) n c) (hk : k < n) :
    ∃ x A' n' c', l[k]? = some x ∧ b < B ∧ Mm.SlAt Mm.str w B x A' n' c' ∧ w.cell? ⟨b, off + k, none⟩ = some (.slice A' n' c') := by
  obtain ⟨x, cs, hx, hb, ha, hc⟩ := h.get' hk
  obtain ⟨A', n', c', rfl, g0⟩ := ha
  exact ⟨x, A', n', c', hx, hb, g0, (by rw [show off + k = off + k * strs.size + 0 by show _ = off + k * 1 + 0; omega]; exact hc 0 _ rfl)⟩
theorem strs_ocell {w : World} {e : TypeId} {xs : List (List ByteArray)} {g n c i : Nat} {x : (List ByteArray)} {fp : List Nat} (h : Mm.SlOwn strs e w xs (.slice (some ⟨g, 0, none⟩) n c) fp) (hnd : fp.Nodup) (hi : xs[i]? = some x) : ∃ A' n' c', w.cell? ⟨g, i, none⟩ = some (.slice A' n' c') := by
  obtain ⟨cs, fx, hown, _, _, hc, _⟩ := h.inner hnd hi
  obtain ⟨v', rfl, ho⟩ := hown
  obtain ⟨A', n', c', rfl, _⟩ := ho.form
  exact ⟨A', n', c', (by have e0 := hc 0 _ rfl; rwa [show i * strs.size + 0 = i by show i * 1 + 0 = i; omega] at e0)⟩
theorem rTold_get {w : World} {B : Nat} {l : List Told} {A : Option Addr} {n c k : Nat} (h : Mm.SlAt rTold w B l A n c) (hk : k < n) :
    ∃ x b off, l[k]? = some x ∧ A = some ⟨b, off, none⟩ ∧ b < B ∧ Mm.I64 x.Who ∧ Mm.I64 x.No ∧ x.Text.size ≤ maxLen ∧ w.cell? ⟨b, off + k * 3, none⟩ = some (.int .i64 x.Who) ∧ w.cell? ⟨b, off + k * 3 + 1, none⟩ = some (.int .i64 x.No) ∧ w.cell? ⟨b, off + k * 3 + 2, none⟩ = some (.string x.Text) := by
  obtain ⟨x, b, off, cs, hx, hA, hb, ha, hc⟩ := h.get hk
  obtain ⟨rfl, g0, g1, g2⟩ := rTold_at ha
  exact ⟨x, b, off, hx, hA, hb, g0, g1, g2, hc 0 _ rfl, hc 1 _ rfl, hc 2 _ rfl⟩
theorem rTold_get' {w : World} {B : Nat} {l : List Told} {b off n c k : Nat} (h : Mm.SlAt rTold w B l (some ⟨b, off, none⟩) n c) (hk : k < n) :
    ∃ x, l[k]? = some x ∧ b < B ∧ Mm.I64 x.Who ∧ Mm.I64 x.No ∧ x.Text.size ≤ maxLen ∧ w.cell? ⟨b, off + k * 3, none⟩ = some (.int .i64 x.Who) ∧ w.cell? ⟨b, off + k * 3 + 1, none⟩ = some (.int .i64 x.No) ∧ w.cell? ⟨b, off + k * 3 + 2, none⟩ = some (.string x.Text) := by
  obtain ⟨x, cs, hx, hb, ha, hc⟩ := h.get' hk
  obtain ⟨rfl, g0, g1, g2⟩ := rTold_at ha
  exact ⟨x, hx, hb, g0, g1, g2, hc 0 _ rfl, hc 1 _ rfl, hc 2 _ rfl⟩
theorem rTold_ocell {w : World} {e : TypeId} {xs : List Told} {g n c i : Nat} {x : Told} {fp : List Nat} (h : Mm.SlOwn rTold e w xs (.slice (some ⟨g, 0, none⟩) n c) fp) (hnd : fp.Nodup) (hi : xs[i]? = some x) : w.cell? ⟨g, i * 3, none⟩ = some (.int .i64 x.Who) ∧ w.cell? ⟨g, i * 3 + 1, none⟩ = some (.int .i64 x.No) ∧ w.cell? ⟨g, i * 3 + 2, none⟩ = some (.string x.Text) := by
  obtain ⟨cs, fx, hown, _, _, hc, _⟩ := h.inner hnd hi
  obtain ⟨rfl, _⟩ := rTold_own hown
  exact ⟨hc 0 _ rfl, hc 1 _ rfl, hc 2 _ rfl⟩
theorem rNote_get {w : World} {B : Nat} {l : List Note} {A : Option Addr} {n c k : Nat} (h : Mm.SlAt rNote w B l A n c) (hk : k < n) :
    ∃ x b off, l[k]? = some x ∧ A = some ⟨b, off, none⟩ ∧ b < B ∧ Mm.I64 x.What.Who ∧ Mm.I64 x.What.No ∧ x.What.Text.size ≤ maxLen ∧ w.cell? ⟨b, off + k * 4, none⟩ = some (.bool x.Back) ∧ w.cell? ⟨b, off + k * 4 + 1, none⟩ = some (.int .i64 x.What.Who) ∧ w.cell? ⟨b, off + k * 4 + 2, none⟩ = some (.int .i64 x.What.No) ∧ w.cell? ⟨b, off + k * 4 + 3, none⟩ = some (.string x.What.Text) := by
  obtain ⟨x, b, off, cs, hx, hA, hb, ha, hc⟩ := h.get hk
  obtain ⟨rfl, g0, g1, g2⟩ := rNote_at ha
  exact ⟨x, b, off, hx, hA, hb, g0, g1, g2, hc 0 _ rfl, hc 1 _ rfl, hc 2 _ rfl, hc 3 _ rfl⟩
theorem rNote_get' {w : World} {B : Nat} {l : List Note} {b off n c k : Nat} (h : Mm.SlAt rNote w B l (some ⟨b, off, none⟩) n c) (hk : k < n) :
    ∃ x, l[k]? = some x ∧ b < B ∧ Mm.I64 x.What.Who ∧ Mm.I64 x.What.No ∧ x.What.Text.size ≤ maxLen ∧ w.cell? ⟨b, off + k * 4, none⟩ = some (.bool x.Back) ∧ w.cell? ⟨b, off + k * 4 + 1, none⟩ = some (.int .i64 x.What.Who) ∧ w.cell? ⟨b, off + k * 4 + 2, none⟩ = some (.int .i64 x.What.No) ∧ w.cell? ⟨b, off + k * 4 + 3, none⟩ = some (.string x.What.Text) := by
  obtain ⟨x, cs, hx, hb, ha, hc⟩ := h.get' hk
  obtain ⟨rfl, g0, g1, g2⟩ := rNote_at ha
  exact ⟨x, hx, hb, g0, g1, g2, hc 0 _ rfl, hc 1 _ rfl, hc 2 _ rfl, hc 3 _ rfl⟩
theorem rNote_ocell {w : World} {e : TypeId} {xs : List Note} {g n c i : Nat} {x : Note} {fp : List Nat} (h : Mm.SlOwn rNote e w xs (.slice (some ⟨g, 0, none⟩) n c) fp) (hnd : fp.Nodup) (hi : xs[i]? = some x) : w.cell? ⟨g, i * 4, none⟩ = some (.bool x.Back) ∧ w.cell? ⟨g, i * 4 + 1, none⟩ = some (.int .i64 x.What.Who) ∧ w.cell? ⟨g, i * 4 + 2, none⟩ = some (.int .i64 x.What.No) ∧ w.cell? ⟨g, i * 4 + 3, none⟩ = some (.string x.What.Text) := by
  obtain ⟨cs, fx, hown, _, _, hc, _⟩ := h.inner hnd hi
  obtain ⟨rfl, _⟩ := rNote_own hown
  exact ⟨hc 0 _ rfl, hc 1 _ rfl, hc 2 _ rfl, hc 3 _ rfl⟩
theorem rTellStep_get {w : World} {B : Nat} {l : List TellStep} {A : Option Addr} {n c k : Nat} (h : Mm.SlAt rTellStep w B l A n c) (hk : k < n) :
    ∃ x b off, l[k]? = some x ∧ A = some ⟨b, off, none⟩ ∧ b < B ∧ Mm.I64 x.Kind ∧ Mm.I64 x.K ∧ x.Text.size ≤ maxLen ∧ w.cell? ⟨b, off + k * 3, none⟩ = some (.int .i64 x.Kind) ∧ w.cell? ⟨b, off + k * 3 + 1, none⟩ = some (.int .i64 x.K) ∧ w.cell? ⟨b, off + k * 3 + 2, none⟩ = some (.string x.Text) := by
  obtain ⟨x, b, off, cs, hx, hA, hb, ha, hc⟩ := h.get hk
  obtain ⟨rfl, g0, g1, g2⟩ := rTellStep_at ha
  exact ⟨x, b, off, hx, hA, hb, g0, g1, g2, hc 0 _ rfl, hc 1 _ rfl, hc 2 _ rfl⟩
theorem rTellStep_get' {w : World} {B : Nat} {l : List TellStep} {b off n c k : Nat} (h : Mm.SlAt rTellStep w B l (some ⟨b, off, none⟩) n c) (hk : k < n) :
    ∃ x, l[k]? = some x ∧ b < B ∧ Mm.I64 x.Kind ∧ Mm.I64 x.K ∧ x.Text.size ≤ maxLen ∧ w.cell? ⟨b, off + k * 3, none⟩ = some (.int .i64 x.Kind) ∧ w.cell? ⟨b, off + k * 3 + 1, none⟩ = some (.int .i64 x.K) ∧ w.cell? ⟨b, off + k * 3 + 2, none⟩ = some (.string x.Text) := by
  obtain ⟨x, cs, hx, hb, ha, hc⟩ := h.get' hk
  obtain ⟨rfl, g0, g1, g2⟩ := rTellStep_at ha
  exact ⟨x, hx, hb, g0, g1, g2, hc 0 _ rfl, hc 1 _ rfl, hc 2 _ rfl⟩
theorem rTellStep_ocell {w : World} {e : TypeId} {xs : List TellStep} {g n c i : Nat} {x : TellStep} {fp : List Nat} (h : Mm.SlOwn rTellStep e w xs (.slice (some ⟨g, 0, none⟩) n c) fp) (hnd : fp.Nodup) (hi : xs[i]? = some x) : w.cell? ⟨g, i * 3, none⟩ = some (.int .i64 x.Kind) ∧ w.cell? ⟨g, i * 3 + 1, none⟩ = some (.int .i64 x.K) ∧ w.cell? ⟨g, i * 3 + 2, none⟩ = some (.string x.Text) := by
  obtain ⟨cs, fx, hown, _, _, hc, _⟩ := h.inner hnd hi
  obtain ⟨rfl, _⟩ := rTellStep_own hown
  exact ⟨hc 0 _ rfl, hc 1 _ rfl, hc 2 _ rfl⟩
end Go.Proofs.Ytaepohocabealaa
