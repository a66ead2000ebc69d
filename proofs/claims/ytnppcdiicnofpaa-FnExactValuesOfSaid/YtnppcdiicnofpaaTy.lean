/-
  How the program's types lie in memory. No conditions.
-/
import Derived.Test.YtnppcdiicnofpaaOx
import Derived.Test.YtnppcdiicnofpaaDt
import Derived.Test.YtnppcdiicnofpaaMk
namespace Go.Proofs.Ytnppcdiicnofpaa
def rLabel : Mm.Rep Label := Mm.flat 2 (fun x => [.string x.Name, .string x.Value]) (fun x => x.Name.size ≤ maxLen ∧ x.Value.size ≤ maxLen) (fun _ => rfl) (fun _ u hu => by
  simp at hu; rcases hu with rfl | rfl <;> rfl)
theorem rLabel_at {w : World} {B : Nat} {x : Label} {cs : List Value} (h : rLabel.at_ w B x cs) : cs = [.string x.Name, .string x.Value] ∧ x.Name.size ≤ maxLen ∧ x.Value.size ≤ maxLen := h
theorem rLabel_own {w : World} {x : Label} {cs : List Value} {fp : List Nat} (h : rLabel.own w x cs fp) : cs = [.string x.Name, .string x.Value] ∧ (x.Name.size ≤ maxLen ∧ x.Value.size ≤ maxLen) ∧ fp = [] := h
theorem rLabel_own_mk {w : World} {x : Label} (h : x.Name.size ≤ maxLen ∧ x.Value.size ≤ maxLen) : rLabel.own w x [.string x.Name, .string x.Value] [] := ⟨rfl, h, rfl⟩
def rLabelS : Mm.Rep (List Label) := Mm.slice rLabel 97
def rItem : Mm.Rep Item := Mm.iso (fun x => (x.Labels, x.Value)) (Mm.pair rLabelS Mm.int)
theorem rItem_at {w : World} {B : Nat} {x : Item} {cs : List Value} (h : rItem.at_ w B x cs) : ∃ A n c, cs = [.slice A n c, .int .i64 x.Value] ∧ Mm.SlAt rLabel w B x.Labels A n c ∧ Mm.I64 x.Value := by
  obtain ⟨_, _, rfl, ⟨A, n, c, rfl, h0⟩, ⟨rfl, h1⟩⟩ := h
  exact ⟨A, n, c, rfl, h0, h1⟩
theorem rItem_at_mk {w : World} {B : Nat} {x : Item} {A : Option Addr} {n c : Nat} (g0 : Mm.SlAt rLabel w B x.Labels A n c) (g1 : Mm.I64 x.Value) : rItem.at_ w B x [.slice A n c, .int .i64 x.Value] :=
  ⟨_, _, rfl, ⟨A, n, c, rfl, g0⟩, ⟨rfl, g1⟩⟩
theorem rItem_own {w : World} {x : Item} {cs : List Value} {fp : List Nat} (h : rItem.own w x cs fp) : ∃ A n c f, cs = [.slice A n c, .int .i64 x.Value] ∧ fp = f ∧ Mm.SlOwn rLabel 97 w x.Labels (.slice A n c) f ∧ Mm.I64 x.Value := by
  obtain ⟨_, _, _, _, rfl, rfl, ⟨v0, rfl, h0⟩, ⟨rfl, h1, rfl⟩⟩ := h
  obtain ⟨A, n, c, rfl, _⟩ := h0.form
  exact ⟨A, n, c, _, rfl, by simp, h0, h1⟩
theorem rItem_own_mk {w : World} {x : Item} {A : Option Addr} {n c : Nat} {f : List Nat} (g0 : Mm.SlOwn rLabel 97 w x.Labels (.slice A n c) f) (g1 : Mm.I64 x.Value) : rItem.own w x [.slice A n c, .int .i64 x.Value] (f) := by
  have h : rItem.own w x _ _ := ⟨_, _, _, _, rfl, rfl, ⟨_, rfl, g0⟩, ⟨rfl, g1, rfl⟩⟩
  simpa using h
def rTotal : Mm.Rep Total := Mm.iso (fun x => (x.Labels, (x.Sum, (x.Count, (x.Least, x.Most))))) (Mm.pair rLabelS (Mm.pair Mm.int (Mm.pair Mm.int (Mm.pair Mm.int Mm.int))))
theorem rTotal_at {w : World} {B : Nat} {x : Total} {cs : List Value} (h : rTotal.at_ w B x cs) : ∃ A n c, cs = [.slice A n c, .int .i64 x.Sum, .int .i64 x.Count, .int .i64 x.Least, .int .i64 x.Most] ∧ Mm.SlAt rLabel w B x.Labels A n c ∧ Mm.I64 x.Sum ∧ Mm.I64 x.Count ∧ Mm.I64 x.Least ∧ Mm.I64 x.Most := by
  obtain ⟨_, _, rfl, ⟨A, n, c, rfl, h0⟩, ⟨_, _, rfl, ⟨rfl, h1⟩, ⟨_, _, rfl, ⟨rfl, h2⟩, ⟨_, _, rfl, ⟨rfl, h3⟩, ⟨rfl, h4⟩⟩⟩⟩⟩ := h
  exact ⟨A, n, c, rfl, h0, h1, h2, h3, h4⟩
theorem rTotal_at_mk {w : World} {B : Nat} {x : Total} {A : Option Addr} {n c : Nat} (g0 : Mm.SlAt rLabel w B x.Labels A n c) (g1 : Mm.I64 x.Sum) (g2 : Mm.I64 x.Count) (g3 : Mm.I64 x.Least) (g4 : Mm.I64 x.Most) : rTotal.at_ w B x [.slice A n c, .int .i64 x.Sum, .int .i64 x.Count, .int .i64 x.Least, .int .i64 x.Most] :=
  ⟨_, _, rfl, ⟨A, n, c, rfl, g0⟩, ⟨_, _, rfl, ⟨rfl, g1⟩, ⟨_, _, rfl, ⟨rfl, g2⟩, ⟨_, _, rfl, ⟨rfl, g3⟩, ⟨rfl, g4⟩⟩⟩⟩⟩
theorem rTotal_own {w : World} {x : Total} {cs : List Value} {fp : List Nat} (h : rTotal.own w x cs fp) : ∃ A n c f, cs = [.slice A n c, .int .i64 x.Sum, .int .i64 x.Count, .int .i64 x.Least, .int .i64 x.Most] ∧ fp = f ∧ Mm.SlOwn rLabel 97 w x.Labels (.slice A n c) f ∧ Mm.I64 x.Sum ∧ Mm.I64 x.Count ∧ Mm.I64 x.Least ∧ Mm.I64 x.Most := by
  obtain ⟨_, _, _, _, rfl, rfl, ⟨v0, rfl, h0⟩, ⟨_, _, _, _, rfl, rfl, ⟨rfl, h1, rfl⟩, ⟨_, _, _, _, rfl, rfl, ⟨rfl, h2, rfl⟩, ⟨_, _, _, _, rfl, rfl, ⟨rfl, h3, rfl⟩, ⟨rfl, h4, rfl⟩⟩⟩⟩⟩ := h
  obtain ⟨A, n, c, rfl, _⟩ := h0.form
  exact ⟨A, n, c, _, rfl, by simp, h0, h1, h2, h3, h4⟩
theorem rTotal_own_mk {w : World} {x : Total} {A : Option Addr} {n c : Nat} {f : List Nat} (g0 : Mm.SlOwn rLabel 97 w x.Labels (.slice A n c) f) (g1 : Mm.I64 x.Sum) (g2 : Mm.I64 x.Count) (g3 : Mm.I64 x.Least) (g4 : Mm.I64 x.Most) : rTotal.own w x [.slice A n c, .int .i64 x.Sum, .int .i64 x.Count, .int .i64 x.Least, .int .i64 x.Most] (f) := by
  have h : rTotal.own w x _ _ := ⟨_, _, _, _, rfl, rfl, ⟨_, rfl, g0⟩, ⟨_, _, _, _, rfl, rfl, ⟨rfl, g1, rfl⟩, ⟨_, _, _, _, rfl, rfl, ⟨rfl, g2, rfl⟩, ⟨_, _, _, _, rfl, rfl, ⟨rfl, g3, rfl⟩, ⟨rfl, g4, rfl⟩⟩⟩⟩⟩
  simpa using h
def ints : Mm.Rep (List Int) := Mm.slice Mm.int 3
def strs : Mm.Rep (List ByteArray) := Mm.slice Mm.str 9
def rItemS : Mm.Rep (List Item) := Mm.slice rItem 91
def rTotalS : Mm.Rep (List Total) := Mm.slice rTotal 50
theorem int_get {w : World} {B : Nat} {l : List Int} {A : Option Addr} {n c k : Nat} (h : Mm.SlAt Mm.int w B l A n c) (hk : k < n) :
    ∃ x b off, l[k]? = some x ∧ A = some ⟨b, off, none⟩ ∧ b < B ∧ Mm.I64 x ∧ w.cell? ⟨b, off + k, none⟩ = some (.int .i64 x) := by
  obtain ⟨x, b, off, cs, hx, hA, hb, ha, hc⟩ := h.get hk
  obtain ⟨rfl, g0⟩ := ha
  exact ⟨x, b, off, hx, hA, hb, g0, (by rw [show off + k = off + k * Mm.int.size + 0 by show _ = off + k * 1 + 0; omega]; exact hc 0 _ rfl)⟩
theorem int_get' {w : World} {B : Nat} {l : List Int} {b off n c k : Nat} (h : Mm.SlAt Mm.int w B l (some ⟨b, off, none⟩) n c) (hk : k < n) :
    ∃ x, l[k]? = some x ∧ b < B ∧ Mm.I64 x ∧ w.cell? ⟨b, off + k, none⟩ = some (.int .i64 x) := by
  obtain ⟨x, cs, hx, hb, ha, hc⟩ := h.get' hk
  obtain ⟨rfl, g0⟩ := ha
  exact ⟨x, hx, hb, g0, (by rw [show off + k = off + k * Mm.int.size + 0 by show _ = off + k * 1 + 0; omega]; exact hc 0 _ rfl)⟩
theorem int_ocell {w : World} {e : TypeId} {xs : List Int} {g n c i : Nat} {x : Int} {fp : List Nat} (h : Mm.SlOwn Mm.int e w xs (.slice (some ⟨g, 0, none⟩) n c) fp) (hnd : fp.Nodup) (hi : xs[i]? = some x) : w.cell? ⟨g, i, none⟩ = some (.int .i64 x) := by
  obtain ⟨cs, fx, hown, _, _, hc, _⟩ := h.inner hnd hi
  obtain ⟨rfl, _, _⟩ := hown
  exact ((by have e0 := hc 0 _ rfl; rwa [show i * Mm.int.size + 0 = i by show i * 1 + 0 = i; omega] at e0))
theorem str_get {w : World} {B : Nat} {l : List ByteArray} {A : Option Addr} {n c k : Nat} (h : Mm.SlAt Mm.str w B l A n c) (hk : k < n) :
    ∃ x b off, l[k]? = some x ∧ A = some ⟨b, off, none⟩ ∧ b < B ∧ x.size ≤ maxLen ∧ w.cell? ⟨b, off + k, none⟩ = some (.string x) := by
  obtain ⟨x, b, off, cs, hx, hA, hb, ha, hc⟩ := h.get hk
  obtain ⟨rfl, g0⟩ := ha
  exact ⟨x, b, off, hx, hA, hb, g0, (by rw [show off + k = off + k * Mm.str.size + 0 by show _ = off + k * 1 + 0; omega]; exact hc 0 _ rfl)⟩
theorem str_get' {w : World} {B : Nat} {l : List ByteArray} {b off n c k : Nat} (h : Mm.SlAt Mm.str w B l (some ⟨b, off, none⟩) n c) (hk : k < n) :
    ∃ x, l[k]? = some x ∧ b < B ∧ x.size ≤ maxLen ∧ w.cell? ⟨b, off + k, none⟩ = some (.string x) := by
  obtain ⟨x, cs, hx, hb, ha, hc⟩ := h.get' hk
  obtain ⟨rfl, g0⟩ := ha
  exact ⟨x, hx, hb, g0, (by rw [show off + k = off + k * Mm.str.size + 0 by show _ = off + k * 1 + 0; omega]; exact hc 0 _ rfl)⟩
theorem str_ocell {w : World} {e : TypeId} {xs : List ByteArray} {g n c i : Nat} {x : ByteArray} {fp : List Nat} (h : Mm.SlOwn Mm.str e w xs (.slice (some ⟨g, 0, none⟩) n c) fp) (hnd : fp.Nodup) (hi : xs[i]? = some x) : w.cell? ⟨g, i, none⟩ = some (.string x) := by
  obtain ⟨cs, fx, hown, _, _, hc, _⟩ := h.inner hnd hi
  obtain ⟨rfl, _, _⟩ := hown
  exact ((by have e0 := hc 0 _ rfl; rwa [show i * Mm.str.size + 0 = i by show i * 1 + 0 = i; omega] at e0))
theorem rLabel_get {w : World} {B : Nat} {l : List Label} {A : Option Addr} {n c k : Nat} (h : Mm.SlAt rLabel w B l A n c) (hk : k < n) :
    ∃ x b off, l[k]? = some x ∧ A = some ⟨b, off, none⟩ ∧ b < B ∧ x.Name.size ≤ maxLen ∧ x.Value.size ≤ maxLen ∧ w.cell? ⟨b, off + k * 2, none⟩ = some (.string x.Name) ∧ w.cell? ⟨b, off + k * 2 + 1, none⟩ = some (.string x.Value) := by
  obtain ⟨x, b, off, cs, hx, hA, hb, ha, hc⟩ := h.get hk
  obtain ⟨rfl, g0, g1⟩ := rLabel_at ha
  exact ⟨x, b, off, hx, hA, hb, g0, g1, hc 0 _ rfl, hc 1 _ rfl⟩
theorem rLabel_get' {w : World} {B : Nat} {l : List Label} {b off n c k : Nat} (h : Mm.SlAt rLabel w B l (some ⟨b, off, none⟩) n c) (hk : k < n) :
    ∃ x, l[k]? = some x ∧ b < B ∧ x.Name.size ≤ maxLen ∧ x.Value.size ≤ maxLen ∧ w.cell? ⟨b, off + k * 2, none⟩ = some (.string x.Name) ∧ w.cell? ⟨b, off + k * 2 + 1, none⟩ = some (.string x.Value) := by
  obtain ⟨x, cs, hx, hb, ha, hc⟩ := h.get' hk
  obtain ⟨rfl, g0, g1⟩ := rLabel_at ha
  exact ⟨x, hx, hb, g0, g1, hc 0 _ rfl, hc 1 _ rfl⟩
theorem rLabel_ocell {w : World} {e : TypeId} {xs : List Label} {g n c i : Nat} {x : Label} {fp : List Nat} (h : Mm.SlOwn rLabel e w xs (.slice (some ⟨g, 0, none⟩) n c) fp) (hnd : fp.Nodup) (hi : xs[i]? = some x) : w.cell? ⟨g, i * 2, none⟩ = some (.string x.Name) ∧ w.cell? ⟨g, i * 2 + 1, none⟩ = some (.string x.Value) := by
  obtain ⟨cs, fx, hown, _, _, hc, _⟩ := h.inner hnd hi
  obtain ⟨rfl, _⟩ := rLabel_own hown
  exact ⟨hc 0 _ rfl, hc 1 _ rfl⟩
theorem rItem_get {w : World} {B : Nat} {l : List Item} {A : Option Addr} {n c k : Nat} (h : Mm.SlAt rItem w B l A n c) (hk : k < n) :
    ∃ x b off A' n' c', l[k]? = some x ∧ A = some ⟨b, off, none⟩ ∧ b < B ∧ Mm.SlAt rLabel w B x.Labels A' n' c' ∧ Mm.I64 x.Value ∧ w.cell? ⟨b, off + k * 2, none⟩ = some (.slice A' n' c') ∧ w.cell? ⟨b, off + k * 2 + 1, none⟩ = some (.int .i64 x.Value) := by
  obtain ⟨x, b, off, cs, hx, hA, hb, ha, hc⟩ := h.get hk
  obtain ⟨A', n', c', rfl, g0, g1⟩ := rItem_at ha
  exact ⟨x, b, off, A', n', c', hx, hA, hb, g0, g1, hc 0 _ rfl, hc 1 _ rfl⟩
theorem rItem_get' {w : World} {B : Nat} {l : List Item} {b off n c k : Nat} (h : Mm.SlAt rItem w B l (some ⟨b, off, none⟩) n c) (hk : k < n) :
    ∃ x A' n' c', l[k]? = some x ∧ b < B ∧ Mm.SlAt rLabel w B x.Labels A' n' c' ∧ Mm.I64 x.Value ∧ w.cell? ⟨b, off + k * 2, none⟩ = some (.slice A' n' c') ∧ w.cell? ⟨b, off + k * 2 + 1, none⟩ = some (.int .i64 x.Value) := by
  obtain ⟨x, cs, hx, hb, ha, hc⟩ := h.get' hk
  obtain ⟨A', n', c', rfl, g0, g1⟩ := rItem_at ha
  exact ⟨x, A', n', c', hx, hb, g0, g1, hc 0 _ rfl, hc 1 _ rfl⟩
theorem rItem_ocell {w : World} {e : TypeId} {xs : List Item} {g n c i : Nat} {x : Item} {fp : List Nat} (h : Mm.SlOwn rItem e w xs (.slice (some ⟨g, 0, none⟩) n c) fp) (hnd : fp.Nodup) (hi : xs[i]? = some x) : ∃ A' n' c', w.cell? ⟨g, i * 2, none⟩ = some (.slice A' n' c') ∧ w.cell? ⟨g, i * 2 + 1, none⟩ = some (.int .i64 x.Value) := by
  obtain ⟨cs, fx, hown, _, _, hc, _⟩ := h.inner hnd hi
  obtain ⟨A', n', c', _, rfl, _⟩ := rItem_own hown
  exact ⟨A', n', c', hc 0 _ rfl, hc 1 _ rfl⟩
theorem rTotal_get {w : World} {B : Nat} {l : List Total} {A : Option Addr} {n c k : Nat} (h : Mm.SlAt rTotal w B l A n c) (hk : k < n) :
    ∃ x b off A' n' c', l[k]? = some x ∧ A = some ⟨b, off, none⟩ ∧ b < B ∧ Mm.SlAt rLabel w B x.Labels A' n' c' ∧ Mm.I64 x.Sum ∧ Mm.I64 x.Count ∧ Mm.I64 x.Least ∧ Mm.I64 x.Most ∧ w.cell? ⟨b, off + k * 5, none⟩ = some (.slice A' n' c') ∧ w.cell? ⟨b, off + k * 5 + 1, none⟩ = some (.int .i64 x.Sum) ∧ w.cell? ⟨b, off + k * 5 + 2, none⟩ = some (.int .i64 x.Count) ∧ w.cell? ⟨b, off + k * 5 + 3, none⟩ = some (.int .i64 x.Least) ∧ w.cell? ⟨b, off + k * 5 + 4, none⟩ = some (.int .i64 x.Most) := by
  obtain ⟨x, b, off, cs, hx, hA, hb, ha, hc⟩ := h.get hk
  obtain ⟨A', n', c', rfl, g0, g1, g2, g3, g4⟩ := rTotal_at ha
  exact ⟨x, b, off, A', n', c', hx, hA, hb, g0, g1, g2, g3, g4, hc 0 _ rfl, hc 1 _ rfl, hc 2 _ rfl, hc 3 _ rfl, hc 4 _ rfl⟩
theorem rTotal_get' {w : World} {B : Nat} {l : List Total} {b off n c k : Nat} (h : Mm.SlAt rTotal w B l (some ⟨b, off, none⟩) n c) (hk : k < n) :
    ∃ x A' n' c', l[k]? = some x ∧ b < B ∧ Mm.SlAt rLabel w B x.Labels A' n' c' ∧ Mm.I64 x.Sum ∧ Mm.I64 x.Count ∧ Mm.I64 x.Least ∧ Mm.I64 x.Most ∧ w.cell? ⟨b, off + k * 5, none⟩ = some (.slice A' n' c') ∧ w.cell? ⟨b, off + k * 5 + 1, none⟩ = some (.int .i64 x.Sum) ∧ w.cell? ⟨b, off + k * 5 + 2, none⟩ = some (.int .i64 x.Count) ∧ w.cell? ⟨b, off + k * 5 + 3, none⟩ = some (.int .i64 x.Least) ∧ w.cell? ⟨b, off + k * 5 + 4, none⟩ = some (.int .i64 x.Most) := by
  obtain ⟨x, cs, hx, hb, ha, hc⟩ := h.get' hk
  obtain ⟨A', n', c', rfl, g0, g1, g2, g3, g4⟩ := rTotal_at ha
  exact ⟨x, A', n', c', hx, hb, g0, g1, g2, g3, g4, hc 0 _ rfl, hc 1 _ rfl, hc 2 _ rfl, hc 3 _ rfl, hc 4 _ rfl⟩
theorem rTotal_ocell {w : World} {e : TypeId} {xs : List Total} {g n c i : Nat} {x : Total} {fp : List Nat} (h : Mm.SlOwn rTotal e w xs (.slice (some ⟨g, 0, none⟩) n c) fp) (hnd : fp.Nodup) (hi : xs[i]? = some x) : ∃ A' n' c', w.cell? ⟨g, i * 5, none⟩ = some (.slice A' n' c') ∧ w.cell? ⟨g, i * 5 + 1, none⟩ = some (.int .i64 x.Sum) ∧ w.cell? ⟨g, i * 5 + 2, none⟩ = some (.int .i64 x.Count) ∧ w.cell? ⟨g, i * 5 + 3, none⟩ = some (.int .i64 x.Least) ∧ w.cell? ⟨g, i * 5 + 4, none⟩ = some (.int .i64 x.Most) := by
  obtain ⟨cs, fx, hown, _, _, hc, _⟩ := h.inner hnd hi
  obtain ⟨A', n', c', _, rfl, _⟩ := rTotal_own hown
  exact ⟨A', n', c', hc 0 _ rfl, hc 1 _ rfl, hc 2 _ rfl, hc 3 _ rfl, hc 4 _ rfl⟩
end Go.Proofs.Ytnppcdiicnofpaa
