/-
  How the program's types lie in memory. No conditions.
-/
import Derived.Test.YtjpmnegpkpimhaaOx
import Derived.Test.YtjpmnegpkpimhaaDt
import Derived.Test.YtjpmnegpkpimhaaMk
namespace Go.Proofs.Ytjpmnegpkpimhaa
def smp : Mm.Rep Sample := Mm.flat 2 (fun x => [.int .i64 x.At, .int .i64 x.Value]) (fun x => Mm.I64 x.At ∧ Mm.I64 x.Value) (fun _ => rfl) (fun _ u hu => by
  simp at hu; rcases hu with rfl | rfl <;> rfl)
theorem smp_at {w : World} {B : Nat} {x : Sample} {cs : List Value} (h : smp.at_ w B x cs) : cs = [.int .i64 x.At, .int .i64 x.Value] ∧ Mm.I64 x.At ∧ Mm.I64 x.Value := h
theorem smp_own {w : World} {x : Sample} {cs : List Value} {fp : List Nat} (h : smp.own w x cs fp) : cs = [.int .i64 x.At, .int .i64 x.Value] ∧ (Mm.I64 x.At ∧ Mm.I64 x.Value) ∧ fp = [] := h
theorem smp_own_mk {w : World} {x : Sample} (h : Mm.I64 x.At ∧ Mm.I64 x.Value) : smp.own w x [.int .i64 x.At, .int .i64 x.Value] [] := ⟨rfl, h, rfl⟩
def rWindow : Mm.Rep Window := Mm.flat 5 (fun x => [.int .i64 x.From, .int .i64 x.First, .int .i64 x.Last, .int .i64 x.Count, .int .i64 x.Rise]) (fun x => Mm.I64 x.From ∧ Mm.I64 x.First ∧ Mm.I64 x.Last ∧ Mm.I64 x.Count ∧ Mm.I64 x.Rise) (fun _ => rfl) (fun _ u hu => by
  simp at hu; rcases hu with rfl | rfl | rfl | rfl | rfl <;> rfl)
theorem rWindow_at {w : World} {B : Nat} {x : Window} {cs : List Value} (h : rWindow.at_ w B x cs) : cs = [.int .i64 x.From, .int .i64 x.First, .int .i64 x.Last, .int .i64 x.Count, .int .i64 x.Rise] ∧ Mm.I64 x.From ∧ Mm.I64 x.First ∧ Mm.I64 x.Last ∧ Mm.I64 x.Count ∧ Mm.I64 x.Rise := h
theorem rWindow_own {w : World} {x : Window} {cs : List Value} {fp : List Nat} (h : rWindow.own w x cs fp) : cs = [.int .i64 x.From, .int .i64 x.First, .int .i64 x.Last, .int .i64 x.Count, .int .i64 x.Rise] ∧ (Mm.I64 x.From ∧ Mm.I64 x.First ∧ Mm.I64 x.Last ∧ Mm.I64 x.Count ∧ Mm.I64 x.Rise) ∧ fp = [] := h
theorem rWindow_own_mk {w : World} {x : Window} (h : Mm.I64 x.From ∧ Mm.I64 x.First ∧ Mm.I64 x.Last ∧ Mm.I64 x.Count ∧ Mm.I64 x.Rise) : rWindow.own w x [.int .i64 x.From, .int .i64 x.First, .int .i64 x.Last, .int .i64 x.Count, .int .i64 x.Rise] [] := ⟨rfl, h, rfl⟩
def rSampleS : Mm.Rep (List Sample) := Mm.slice smp 37
def ints : Mm.Rep (List Int) := Mm.slice Mm.int 3
def rWindowS : Mm.Rep (List Window) := Mm.slice rWindow 30
theorem int_get {w : World} {B : Nat} {l : List Int} {A : Option Addr} {n c k : Nat} (h : Mm.SlAt Mm.int w B l A n c) (hk : k < n) :
    ∃ x b off, l[k]? = some x ∧ A = some ⟨b, off, none⟩ ∧ b < B ∧ Mm.I64 x ∧ w.cell? ⟨b, off + k, none⟩ = some (.int .i64 x) := by
  obtain ⟨x, b, off, cs, hx, hA, hb, ha, hc⟩ := h.get hk
  obtain ⟨rfl, g0⟩ := ha
  exact ⟨x, b, off, hx, hA, hb, g0, (by rw [show off + k = off + k * Mm.int.size + 0 by show _ = off + k * 1 + 0; omega]; exact hc 0 _ rfl)⟩
theorem int_get' {w : World} {B : Nat} {l : List Int} {b off n c k : Nat} (h : Mm.SlAt Mm.int w B l (some ⟨b, off, none⟩) n c) (hk : k < n) :
    ∃ x, l[k]? = some x ∧ b < B ∧ Mm.I64 x ∧ w.cell? ⟨b, off + k, none⟩ = some (.int .i64 x) := by
  obtain ⟨x, cs, hx, hb, ha, hc⟩ := h.get' hk
  obtain ⟨rfl, g0⟩ := ha
  exact ⟨x, hx, hb, g0, (by rw [show off + k = off + k * Mm.int.size + 0 by show _ = off + k * 1 + 0; omega]; exact hc 0 _ rfl)⟩
theorem int_ocell {w : World} {e : TypeId} {xs : List Int} {g n c i : Nat} {x : Int} {fp : List Nat} (h : Mm.SlOwn Mm.int e w xs (.slice (some ⟨g, 0, none⟩) n c) fp) (hnd : fp.Nodup) (hi : xs[i]? = some x) : w.cell? ⟨g, i, none⟩ = some (.int .i64 x) := by
  obtain ⟨cs, fx, hown, _, _, hc, _⟩ := h.inner hnd hi
  obtain ⟨rfl, _, _⟩ := hown
  exact ((by have e0 := hc 0 _ rfl; rwa [show i * Mm.int.size + 0 = i by show i * 1 + 0 = i; omega] at e0))
theorem smp_get {w : World} {B : Nat} {l : List Sample} {A : Option Addr} {n c k : Nat} (h : Mm.SlAt smp w B l A n c) (hk : k < n) :
    ∃ x b off, l[k]? = some x ∧ A = some ⟨b, off, none⟩ ∧ b < B ∧ Mm.I64 x.At ∧ Mm.I64 x.Value ∧ w.cell? ⟨b, off + k * 2, none⟩ = some (.int .i64 x.At) ∧ w.cell? ⟨b, off + k * 2 + 1, none⟩ = some (.int .i64 x.Value) := by
  obtain ⟨x, b, off, cs, hx, hA, hb, ha, hc⟩ := h.get hk
  obtain ⟨rfl, g0, g1⟩ := smp_at ha
  exact ⟨x, b, off, hx, hA, hb, g0, g1, hc 0 _ rfl, hc 1 _ rfl⟩
theorem smp_get' {w : World} {B : Nat} {l : List Sample} {b off n c k : Nat} (h : Mm.SlAt smp w B l (some ⟨b, off, none⟩) n c) (hk : k < n) :
    ∃ x, l[k]? = some x ∧ b < B ∧ Mm.I64 x.At ∧ Mm.I64 x.Value ∧ w.cell? ⟨b, off + k * 2, none⟩ = some (.int .i64 x.At) ∧ w.cell? ⟨b, off + k * 2 + 1, none⟩ = some (.int .i64 x.Value) := by
  obtain ⟨x, cs, hx, hb, ha, hc⟩ := h.get' hk
  obtain ⟨rfl, g0, g1⟩ := smp_at ha
  exact ⟨x, hx, hb, g0, g1, hc 0 _ rfl, hc 1 _ rfl⟩
theorem smp_ocell {w : World} {e : TypeId} {xs : List Sample} {g n c i : Nat} {x : Sample} {fp : List Nat} (h : Mm.SlOwn smp e w xs (.slice (some ⟨g, 0, none⟩) n c) fp) (hnd : fp.Nodup) (hi : xs[i]? = some x) : w.cell? ⟨g, i * 2, none⟩ = some (.int .i64 x.At) ∧ w.cell? ⟨g, i * 2 + 1, none⟩ = some (.int .i64 x.Value) := by
  obtain ⟨cs, fx, hown, _, _, hc, _⟩ := h.inner hnd hi
  obtain ⟨rfl, _⟩ := smp_own hown
  exact ⟨hc 0 _ rfl, hc 1 _ rfl⟩
theorem rWindow_get {w : World} {B : Nat} {l : List Window} {A : Option Addr} {n c k : Nat} (h : Mm.SlAt rWindow w B l A n c) (hk : k < n) :
    ∃ x b off, l[k]? = some x ∧ A = some ⟨b, off, none⟩ ∧ b < B ∧ Mm.I64 x.From ∧ Mm.I64 x.First ∧ Mm.I64 x.Last ∧ Mm.I64 x.Count ∧ Mm.I64 x.Rise ∧ w.cell? ⟨b, off + k * 5, none⟩ = some (.int .i64 x.From) ∧ w.cell? ⟨b, off + k * 5 + 1, none⟩ = some (.int .i64 x.First) ∧ w.cell? ⟨b, off + k * 5 + 2, none⟩ = some (.int .i64 x.Last) ∧ w.cell? ⟨b, off + k * 5 + 3, none⟩ = some (.int .i64 x.Count) ∧ w.cell? ⟨b, off + k * 5 + 4, none⟩ = some (.int .i64 x.Rise) := by
  obtain ⟨x, b, off, cs, hx, hA, hb, ha, hc⟩ := h.get hk
  obtain ⟨rfl, g0, g1, g2, g3, g4⟩ := rWindow_at ha
  exact ⟨x, b, off, hx, hA, hb, g0, g1, g2, g3, g4, hc 0 _ rfl, hc 1 _ rfl, hc 2 _ rfl, hc 3 _ rfl, hc 4 _ rfl⟩
theorem rWindow_get' {w : World} {B : Nat} {l : List Window} {b off n c k : Nat} (h : Mm.SlAt rWindow w B l (some ⟨b, off, none⟩) n c) (hk : k < n) :
    ∃ x, l[k]? = some x ∧ b < B ∧ Mm.I64 x.From ∧ Mm.I64 x.First ∧ Mm.I64 x.Last ∧ Mm.I64 x.Count ∧ Mm.I64 x.Rise ∧ w.cell? ⟨b, off + k * 5, none⟩ = some (.int .i64 x.From) ∧ w.cell? ⟨b, off + k * 5 + 1, none⟩ = some (.int .i64 x.First) ∧ w.cell? ⟨b, off + k * 5 + 2, none⟩ = some (.int .i64 x.Last) ∧ w.cell? ⟨b, off + k * 5 + 3, none⟩ = some (.int .i64 x.Count) ∧ w.cell? ⟨b, off + k * 5 + 4, none⟩ = some (.int .i64 x.Rise) := by
  obtain ⟨x, cs, hx, hb, ha, hc⟩ := h.get' hk
  obtain ⟨rfl, g0, g1, g2, g3, g4⟩ := rWindow_at ha
  exact ⟨x, hx, hb, g0, g1, g2, g3, g4, hc 0 _ rfl, hc 1 _ rfl, hc 2 _ rfl, hc 3 _ rfl, hc 4 _ rfl⟩
theorem rWindow_ocell {w : World} {e : TypeId} {xs : List Window} {g n c i : Nat} {x : Window} {fp : List Nat} (h : Mm.SlOwn rWindow e w xs (.slice (some ⟨g, 0, none⟩) n c) fp) (hnd : fp.Nodup) (hi : xs[i]? = some x) : w.cell? ⟨g, i * 5, none⟩ = some (.int .i64 x.From) ∧ w.cell? ⟨g, i * 5 + 1, none⟩ = some (.int .i64 x.First) ∧ w.cell? ⟨g, i * 5 + 2, none⟩ = some (.int .i64 x.Last) ∧ w.cell? ⟨g, i * 5 + 3, none⟩ = some (.int .i64 x.Count) ∧ w.cell? ⟨g, i * 5 + 4, none⟩ = some (.int .i64 x.Rise) := by
  obtain ⟨cs, fx, hown, _, _, hc, _⟩ := h.inner hnd hi
  obtain ⟨rfl, _⟩ := rWindow_own hown
  exact ⟨hc 0 _ rfl, hc 1 _ rfl, hc 2 _ rfl, hc 3 _ rfl, hc 4 _ rfl⟩
end Go.Proofs.Ytjpmnegpkpimhaa
