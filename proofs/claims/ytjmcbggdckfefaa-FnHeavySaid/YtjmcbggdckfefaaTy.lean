/-
  How the program's types lie in memory. No conditions.
-/
import Derived.Test.YtjmcbggdckfefaaOx
import Derived.Test.YtjmcbggdckfefaaDt
import Derived.Test.YtjmcbggdckfefaaMk
namespace Go.Proofs.Ytjmcbggdckfefaa
def ints : Mm.Rep (List Int) := Mm.slice Mm.int 3
def intss : Mm.Rep (List (List Int)) := Mm.slice ints 34
def sk : Mm.Rep Sketch := Mm.iso (fun x => (x.Rows, x.Total)) (Mm.pair intss Mm.int)
theorem sk_at {w : World} {B : Nat} {x : Sketch} {cs : List Value} (h : sk.at_ w B x cs) : ∃ A n c, cs = [.slice A n c, .int .i64 x.Total] ∧ Mm.SlAt ints w B x.Rows A n c ∧ Mm.I64 x.Total := by
  obtain ⟨_, _, rfl, ⟨A, n, c, rfl, h0⟩, ⟨rfl, h1⟩⟩ := h
  exact ⟨A, n, c, rfl, h0, h1⟩
theorem sk_at_mk {w : World} {B : Nat} {x : Sketch} {A : Option Addr} {n c : Nat} (g0 : Mm.SlAt ints w B x.Rows A n c) (g1 : Mm.I64 x.Total) : sk.at_ w B x [.slice A n c, .int .i64 x.Total] :=
  ⟨_, _, rfl, ⟨A, n, c, rfl, g0⟩, ⟨rfl, g1⟩⟩
theorem sk_own {w : World} {x : Sketch} {cs : List Value} {fp : List Nat} (h : sk.own w x cs fp) : ∃ A n c f, cs = [.slice A n c, .int .i64 x.Total] ∧ fp = f ∧ Mm.SlOwn ints 34 w x.Rows (.slice A n c) f ∧ Mm.I64 x.Total := by
  obtain ⟨_, _, _, _, rfl, rfl, ⟨v0, rfl, h0⟩, ⟨rfl, h1, rfl⟩⟩ := h
  obtain ⟨A, n, c, rfl, _⟩ := h0.form
  exact ⟨A, n, c, _, rfl, by simp, h0, h1⟩
theorem sk_own_mk {w : World} {x : Sketch} {A : Option Addr} {n c : Nat} {f : List Nat} (g0 : Mm.SlOwn ints 34 w x.Rows (.slice A n c) f) (g1 : Mm.I64 x.Total) : sk.own w x [.slice A n c, .int .i64 x.Total] (f) := by
  have h : sk.own w x _ _ := ⟨_, _, _, _, rfl, rfl, ⟨_, rfl, g0⟩, ⟨rfl, g1, rfl⟩⟩
  simpa using h
def strs : Mm.Rep (List ByteArray) := Mm.slice Mm.str 9
def rHeavy : Mm.Rep Heavy := Mm.iso (fun x => (x.Names, (x.Counts, (x.Gone, x.Total)))) (Mm.pair strs (Mm.pair ints (Mm.pair Mm.int Mm.int)))
theorem rHeavy_at {w : World} {B : Nat} {x : Heavy} {cs : List Value} (h : rHeavy.at_ w B x cs) : ∃ A0 n0 c0 A1 n1 c1, cs = [.slice A0 n0 c0, .slice A1 n1 c1, .int .i64 x.Gone, .int .i64 x.Total] ∧ Mm.SlAt Mm.str w B x.Names A0 n0 c0 ∧ Mm.SlAt Mm.int w B x.Counts A1 n1 c1 ∧ Mm.I64 x.Gone ∧ Mm.I64 x.Total := by
  obtain ⟨_, _, rfl, ⟨A0, n0, c0, rfl, h0⟩, ⟨_, _, rfl, ⟨A1, n1, c1, rfl, h1⟩, ⟨_, _, rfl, ⟨rfl, h2⟩, ⟨rfl, h3⟩⟩⟩⟩ := h
  exact ⟨A0, n0, c0, A1, n1, c1, rfl, h0, h1, h2, h3⟩
theorem rHeavy_at_mk {w : World} {B : Nat} {x : Heavy} {A0 : Option Addr} {n0 c0 : Nat} {A1 : Option Addr} {n1 c1 : Nat} (g0 : Mm.SlAt Mm.str w B x.Names A0 n0 c0) (g1 : Mm.SlAt Mm.int w B x.Counts A1 n1 c1) (g2 : Mm.I64 x.Gone) (g3 : Mm.I64 x.Total) : rHeavy.at_ w B x [.slice A0 n0 c0, .slice A1 n1 c1, .int .i64 x.Gone, .int .i64 x.Total] :=
  ⟨_, _, rfl, ⟨A0, n0, c0, rfl, g0⟩, ⟨_, _, rfl, ⟨A1, n1, c1, rfl, g1⟩, ⟨_, _, rfl, ⟨rfl, g2⟩, ⟨rfl, g3⟩⟩⟩⟩
theorem rHeavy_own {w : World} {x : Heavy} {cs : List Value} {fp : List Nat} (h : rHeavy.own w x cs fp) : ∃ A0 n0 c0 A1 n1 c1 f0 f1, cs = [.slice A0 n0 c0, .slice A1 n1 c1, .int .i64 x.Gone, .int .i64 x.Total] ∧ fp = f0 ++ f1 ∧ Mm.SlOwn Mm.str 9 w x.Names (.slice A0 n0 c0) f0 ∧ Mm.SlOwn Mm.int 3 w x.Counts (.slice A1 n1 c1) f1 ∧ Mm.I64 x.Gone ∧ Mm.I64 x.Total := by
  obtain ⟨_, _, _, _, rfl, rfl, ⟨v0, rfl, h0⟩, ⟨_, _, _, _, rfl, rfl, ⟨v1, rfl, h1⟩, ⟨_, _, _, _, rfl, rfl, ⟨rfl, h2, rfl⟩, ⟨rfl, h3, rfl⟩⟩⟩⟩ := h
  obtain ⟨A0, n0, c0, rfl, _⟩ := h0.form
  obtain ⟨A1, n1, c1, rfl, _⟩ := h1.form
  exact ⟨A0, n0, c0, A1, n1, c1, _, _, rfl, by simp, h0, h1, h2, h3⟩
theorem rHeavy_own_mk {w : World} {x : Heavy} {A0 : Option Addr} {n0 c0 : Nat} {A1 : Option Addr} {n1 c1 : Nat} {f0 f1 : List Nat} (g0 : Mm.SlOwn Mm.str 9 w x.Names (.slice A0 n0 c0) f0) (g1 : Mm.SlOwn Mm.int 3 w x.Counts (.slice A1 n1 c1) f1) (g2 : Mm.I64 x.Gone) (g3 : Mm.I64 x.Total) : rHeavy.own w x [.slice A0 n0 c0, .slice A1 n1 c1, .int .i64 x.Gone, .int .i64 x.Total] (f0 ++ f1) := by
  have h : rHeavy.own w x _ _ := ⟨_, _, _, _, rfl, rfl, ⟨_, rfl, g0⟩, ⟨_, _, _, _, rfl, rfl, ⟨_, rfl, g1⟩, ⟨_, _, _, _, rfl, rfl, ⟨rfl, g2, rfl⟩, ⟨rfl, g3, rfl⟩⟩⟩⟩
  simpa using h
theorem int_get {w : World} {B : Nat} {l : List Int} {A : Option Addr} {n c k : Nat} (h : Mm.SlAt Mm.int w B l A n c) (hk : k < n) :
    ∃ x b off, l[k]? = some x ∧ A = some ⟨b, off, none⟩ ∧ b < B ∧ Mm.I64 x ∧ w.cell? ⟨b, off + k, none⟩ = some (.int .i64 x) := by
  obtain ⟨x, b, off, cs, hx, hA, hb, ha, hc⟩ := h.get hk
  obtain ⟨rfl, g0⟩ := ha
  exact ⟨x, b, off, hx, hA, hb, g0, (by rw [show off + k = off + k * Mm.int.size + 0 by show _ = off + k * 1 + 0; omega]; exact hc 0 _ rfl)⟩
theorem int_get' {w : World} {B : Nat} {l : List Int} {b off n c k : Nat} (h : Mm.SlAt Mm.int w B l (some ⟨b, off, none⟩) n c) (hk : k < n) :
    ∃ x, l[k]? = some x ∧ b < B ∧ Mm.I64 x ∧ w.cell? ⟨b, off + k, none⟩ = some (.int .i64 x) := by
  obtain ⟨x, cs, hx, hb, ha, hc⟩ := h.get' hk
  obtain ⟨rfl, g0⟩ := ha
  exact ⟨x, hx, hb, g0, (by rw [show off + k = off + k * Mm.int.size + 0 by show _ = off + k * 1 + 0; omega]; exact hc 0 _ rfl)⟩
theorem int_ocell {w : World} {e : TypeId} {xs : List Int} {g n c i : Nat} {x : Int} {fp : List Nat} (h : Mm.SlOwn Mm.int e w xs (.slice (some ⟨g, 0, none⟩) n c) fp) (hnd : fp.Nodup) (hi : xs[i]? = some x) : w.cell? ⟨g, i, none⟩ = some (.int .i64 x) := by
  obtain ⟨cs, fx, hown, _, _, hc, _⟩ := h.inner hnd hi
  obtain ⟨rfl, _, _⟩ := hown
  exact ((by have e0 := hc 0 _ rfl; rwa [show i * Mm.int.size + 0 = i by show i * 1 + 0 = i; omega] at e0))
theorem str_get {w : World} {B : Nat} {l : List ByteArray} {A : Option Addr} {n c k : Nat} (h : Mm.SlAt Mm.str w B l A n c) (hk : k < n) :
    ∃ x b off, l[k]? = some x ∧ A = some ⟨b, off, none⟩ ∧ b < B ∧ x.size ≤ maxLen ∧ w.cell? ⟨b, off + k, none⟩ = some (.string x) := by
  obtain ⟨x, b, off, cs, hx, hA, hb, ha, hc⟩ := h.get hk
  obtain ⟨rfl, g0⟩ := ha
  exact ⟨x, b, off, hx, hA, hb, g0, (by rw [show off + k = off + k * Mm.str.size + 0 by show _ = off + k * 1 + 0; omega]; exact hc 0 _ rfl)⟩
theorem str_get' {w : World} {B : Nat} {l : List ByteArray} {b off n c k : Nat} (h : Mm.SlAt Mm.str w B l (some ⟨b, off, none⟩) n c) (hk : k < n) :
    ∃ x, l[k]? = some x ∧ b < B ∧ x.size ≤ maxLen ∧ w.cell? ⟨b, off + k, none⟩ = some (.string x) := by
  obtain ⟨x, cs, hx, hb, ha, hc⟩ := h.get' hk
  obtain ⟨rfl, g0⟩ := ha
  exact ⟨x, hx, hb, g0, (by rw [show off + k = off + k * Mm.str.size + 0 by show _ = off + k * 1 + 0; omega]; exact hc 0 _ rfl)⟩
theorem str_ocell {w : World} {e : TypeId} {xs : List ByteArray} {g n c i : Nat} {x : ByteArray} {fp : List Nat} (h : Mm.SlOwn Mm.str e w xs (.slice (some ⟨g, 0, none⟩) n c) fp) (hnd : fp.Nodup) (hi : xs[i]? = some x) : w.cell? ⟨g, i, none⟩ = some (.string x) := by
  obtain ⟨cs, fx, hown, _, _, hc, _⟩ := h.inner hnd hi
  obtain ⟨rfl, _, _⟩ := hown
  exact ((by have e0 := hc 0 _ rfl; rwa [show i * Mm.str.size + 0 = i by show i * 1 + 0 = i; omega] at e0))
theorem ints_get {w : World} {B : Nat} {l : List (List Int)} {A : Option Addr} {n c k : Nat} (h : Mm.SlAt ints w B l A n c) (hk : k < n) :
    ∃ x b off A' n' c', l[k]? = some x ∧ A = some ⟨b, off, none⟩ ∧ b < B ∧ Mm.SlAt Mm.int w B x A' n' c' ∧ w.cell? ⟨b, off + k, none⟩ = some (.slice A' n' c') := by
  obtain ⟨x, b, off, cs, hx, hA, hb, ha, hc⟩ := h.get hk
  obtain ⟨A', n', c', rfl, g0⟩ := ha
  exact ⟨x, b, off, A', n', c', hx, hA, hb, g0, (by rw [show off + k = off + k * ints.size + 0 by show _ = off + k * 1 + 0; omega]; exact hc 0 _ rfl)⟩
theorem ints_get' {w : World} {B : Nat} {l : List (List Int)} {b off n c k : Nat} (h : Mm.SlAt ints w B l (some ⟨b, off, none⟩) n c) (hk : k < n) :
    ∃ x A' n' c', l[k]? = some x ∧ b < B ∧ Mm.SlAt Mm.int w B x A' n' c' ∧ w.cell? ⟨b, off + k, none⟩ = some (.slice A' n' c') := by
  obtain ⟨x, cs, hx, hb, ha, hc⟩ := h.get' hk
  obtain ⟨A', n', c', rfl, g0⟩ := ha
  exact ⟨x, A', n', c', hx, hb, g0, (by rw [show off + k = off + k * ints.size + 0 by show _ = off + k * 1 + 0; omega]; exact hc 0 _ rfl)⟩
theorem ints_ocell {w : World} {e : TypeId} {xs : List (List Int)} {g n c i : Nat} {x : (List Int)} {fp : List Nat} (h : Mm.SlOwn ints e w xs (.slice (some ⟨g, 0, none⟩) n c) fp) (hnd : fp.Nodup) (hi : xs[i]? = some x) : ∃ A' n' c', w.cell? ⟨g, i, none⟩ = some (.slice A' n' c') := by
  obtain ⟨cs, fx, hown, _, _, hc, _⟩ := h.inner hnd hi
  obtain ⟨v', rfl, ho⟩ := hown
  obtain ⟨A', n', c', rfl, _⟩ := ho.form
  exact ⟨A', n', c', (by have e0 := hc 0 _ rfl; rwa [show i * ints.size + 0 = i by show i * 1 + 0 = i; omega] at e0)⟩
end Go.Proofs.Ytjmcbggdckfefaa
