/-
  How the program's types lie in memory. No conditions.
-/
import Derived.Test.YtkodfflnpalbbaaOx
import Derived.Test.YtkodfflnpalbbaaDt
import Derived.Test.YtkodfflnpalbbaaMk
namespace Go.Proofs.Ytkodfflnpalbbaa
def smp : Mm.Rep Sample := Mm.flat 2 (fun x => [.int .i64 x.At, .int .i64 x.Value]) (fun x => Mm.I64 x.At ∧ Mm.I64 x.Value) (fun _ => rfl) (fun _ u hu => by
  simp at hu; rcases hu with rfl | rfl <;> rfl)
theorem smp_at {w : World} {B : Nat} {x : Sample} {cs : List Value} (h : smp.at_ w B x cs) : cs = [.int .i64 x.At, .int .i64 x.Value] ∧ Mm.I64 x.At ∧ Mm.I64 x.Value := h
theorem smp_own {w : World} {x : Sample} {cs : List Value} {fp : List Nat} (h : smp.own w x cs fp) : cs = [.int .i64 x.At, .int .i64 x.Value] ∧ (Mm.I64 x.At ∧ Mm.I64 x.Value) ∧ fp = [] := h
theorem smp_own_mk {w : World} {x : Sample} (h : Mm.I64 x.At ∧ Mm.I64 x.Value) : smp.own w x [.int .i64 x.At, .int .i64 x.Value] [] := ⟨rfl, h, rfl⟩
def rSay : Mm.Rep Say := Mm.flat 3 (fun x => [.string x.Name, .int .i64 x.At, .int .i64 x.Value]) (fun x => x.Name.size ≤ maxLen ∧ Mm.I64 x.At ∧ Mm.I64 x.Value) (fun _ => rfl) (fun _ u hu => by
  simp at hu; rcases hu with rfl | rfl | rfl <;> rfl)
theorem rSay_at {w : World} {B : Nat} {x : Say} {cs : List Value} (h : rSay.at_ w B x cs) : cs = [.string x.Name, .int .i64 x.At, .int .i64 x.Value] ∧ x.Name.size ≤ maxLen ∧ Mm.I64 x.At ∧ Mm.I64 x.Value := h
theorem rSay_own {w : World} {x : Say} {cs : List Value} {fp : List Nat} (h : rSay.own w x cs fp) : cs = [.string x.Name, .int .i64 x.At, .int .i64 x.Value] ∧ (x.Name.size ≤ maxLen ∧ Mm.I64 x.At ∧ Mm.I64 x.Value) ∧ fp = [] := h
theorem rSay_own_mk {w : World} {x : Say} (h : x.Name.size ≤ maxLen ∧ Mm.I64 x.At ∧ Mm.I64 x.Value) : rSay.own w x [.string x.Name, .int .i64 x.At, .int .i64 x.Value] [] := ⟨rfl, h, rfl⟩
def rHouseStep : Mm.Rep HouseStep := Mm.flat 5 (fun x => [.int .i64 x.Kind, .int .i64 x.Part, .string x.What.Name, .int .i64 x.What.At, .int .i64 x.What.Value]) (fun x => Mm.I64 x.Kind ∧ Mm.I64 x.Part ∧ x.What.Name.size ≤ maxLen ∧ Mm.I64 x.What.At ∧ Mm.I64 x.What.Value) (fun _ => rfl) (fun _ u hu => by
  simp at hu; rcases hu with rfl | rfl | rfl | rfl | rfl <;> rfl)
theorem rHouseStep_at {w : World} {B : Nat} {x : HouseStep} {cs : List Value} (h : rHouseStep.at_ w B x cs) : cs = [.int .i64 x.Kind, .int .i64 x.Part, .string x.What.Name, .int .i64 x.What.At, .int .i64 x.What.Value] ∧ Mm.I64 x.Kind ∧ Mm.I64 x.Part ∧ x.What.Name.size ≤ maxLen ∧ Mm.I64 x.What.At ∧ Mm.I64 x.What.Value := h
theorem rHouseStep_own {w : World} {x : HouseStep} {cs : List Value} {fp : List Nat} (h : rHouseStep.own w x cs fp) : cs = [.int .i64 x.Kind, .int .i64 x.Part, .string x.What.Name, .int .i64 x.What.At, .int .i64 x.What.Value] ∧ (Mm.I64 x.Kind ∧ Mm.I64 x.Part ∧ x.What.Name.size ≤ maxLen ∧ Mm.I64 x.What.At ∧ Mm.I64 x.What.Value) ∧ fp = [] := h
theorem rHouseStep_own_mk {w : World} {x : HouseStep} (h : Mm.I64 x.Kind ∧ Mm.I64 x.Part ∧ x.What.Name.size ≤ maxLen ∧ Mm.I64 x.What.At ∧ Mm.I64 x.What.Value) : rHouseStep.own w x [.int .i64 x.Kind, .int .i64 x.Part, .string x.What.Name, .int .i64 x.What.At, .int .i64 x.What.Value] [] := ⟨rfl, h, rfl⟩
def rSampleS : Mm.Rep (List Sample) := Mm.slice smp 89
def rRow : Mm.Rep Row := Mm.iso (fun x => (x.Name, x.Samples)) (Mm.pair Mm.str rSampleS)
theorem rRow_at {w : World} {B : Nat} {x : Row} {cs : List Value} (h : rRow.at_ w B x cs) : ∃ A n c, cs = [.string x.Name, .slice A n c] ∧ x.Name.size ≤ maxLen ∧ Mm.SlAt smp w B x.Samples A n c := by
  obtain ⟨_, _, rfl, ⟨rfl, h0⟩, ⟨A, n, c, rfl, h1⟩⟩ := h
  exact ⟨A, n, c, rfl, h0, h1⟩
theorem rRow_at_mk {w : World} {B : Nat} {x : Row} {A : Option Addr} {n c : Nat} (g0 : x.Name.size ≤ maxLen) (g1 : Mm.SlAt smp w B x.Samples A n c) : rRow.at_ w B x [.string x.Name, .slice A n c] :=
  ⟨_, _, rfl, ⟨rfl, g0⟩, ⟨A, n, c, rfl, g1⟩⟩
theorem rRow_own {w : World} {x : Row} {cs : List Value} {fp : List Nat} (h : rRow.own w x cs fp) : ∃ A n c f, cs = [.string x.Name, .slice A n c] ∧ fp = f ∧ x.Name.size ≤ maxLen ∧ Mm.SlOwn smp 89 w x.Samples (.slice A n c) f := by
  obtain ⟨_, _, _, _, rfl, rfl, ⟨rfl, h0, rfl⟩, ⟨v1, rfl, h1⟩⟩ := h
  obtain ⟨A, n, c, rfl, _⟩ := h1.form
  exact ⟨A, n, c, _, rfl, by simp, h0, h1⟩
theorem rRow_own_mk {w : World} {x : Row} {A : Option Addr} {n c : Nat} {f : List Nat} (g0 : x.Name.size ≤ maxLen) (g1 : Mm.SlOwn smp 89 w x.Samples (.slice A n c) f) : rRow.own w x [.string x.Name, .slice A n c] (f) := by
  have h : rRow.own w x _ _ := ⟨_, _, _, _, rfl, rfl, ⟨rfl, g0, rfl⟩, ⟨_, rfl, g1⟩⟩
  simpa using h
def rRowS : Mm.Rep (List Row) := Mm.slice rRow 83
def rHead : Mm.Rep Head := Mm.iso (fun x => (x.Rows, x.Offset)) (Mm.pair rRowS Mm.int)
theorem rHead_at {w : World} {B : Nat} {x : Head} {cs : List Value} (h : rHead.at_ w B x cs) : ∃ A n c, cs = [.slice A n c, .int .i64 x.Offset] ∧ Mm.SlAt rRow w B x.Rows A n c ∧ Mm.I64 x.Offset := by
  obtain ⟨_, _, rfl, ⟨A, n, c, rfl, h0⟩, ⟨rfl, h1⟩⟩ := h
  exact ⟨A, n, c, rfl, h0, h1⟩
theorem rHead_at_mk {w : World} {B : Nat} {x : Head} {A : Option Addr} {n c : Nat} (g0 : Mm.SlAt rRow w B x.Rows A n c) (g1 : Mm.I64 x.Offset) : rHead.at_ w B x [.slice A n c, .int .i64 x.Offset] :=
  ⟨_, _, rfl, ⟨A, n, c, rfl, g0⟩, ⟨rfl, g1⟩⟩
theorem rHead_own {w : World} {x : Head} {cs : List Value} {fp : List Nat} (h : rHead.own w x cs fp) : ∃ A n c f, cs = [.slice A n c, .int .i64 x.Offset] ∧ fp = f ∧ Mm.SlOwn rRow 83 w x.Rows (.slice A n c) f ∧ Mm.I64 x.Offset := by
  obtain ⟨_, _, _, _, rfl, rfl, ⟨v0, rfl, h0⟩, ⟨rfl, h1, rfl⟩⟩ := h
  obtain ⟨A, n, c, rfl, _⟩ := h0.form
  exact ⟨A, n, c, _, rfl, by simp, h0, h1⟩
theorem rHead_own_mk {w : World} {x : Head} {A : Option Addr} {n c : Nat} {f : List Nat} (g0 : Mm.SlOwn rRow 83 w x.Rows (.slice A n c) f) (g1 : Mm.I64 x.Offset) : rHead.own w x [.slice A n c, .int .i64 x.Offset] (f) := by
  have h : rHead.own w x _ _ := ⟨_, _, _, _, rfl, rfl, ⟨_, rfl, g0⟩, ⟨rfl, g1, rfl⟩⟩
  simpa using h
def ints : Mm.Rep (List Int) := Mm.slice Mm.int 3
def rPiece : Mm.Rep Piece := Mm.iso (fun x => (x.From, (x.Bytes, x.Index))) (Mm.pair Mm.int (Mm.pair Mm.str ints))
theorem rPiece_at {w : World} {B : Nat} {x : Piece} {cs : List Value} (h : rPiece.at_ w B x cs) : ∃ A n c, cs = [.int .i64 x.From, .string x.Bytes, .slice A n c] ∧ Mm.I64 x.From ∧ x.Bytes.size ≤ maxLen ∧ Mm.SlAt Mm.int w B x.Index A n c := by
  obtain ⟨_, _, rfl, ⟨rfl, h0⟩, ⟨_, _, rfl, ⟨rfl, h1⟩, ⟨A, n, c, rfl, h2⟩⟩⟩ := h
  exact ⟨A, n, c, rfl, h0, h1, h2⟩
theorem rPiece_at_mk {w : World} {B : Nat} {x : Piece} {A : Option Addr} {n c : Nat} (g0 : Mm.I64 x.From) (g1 : x.Bytes.size ≤ maxLen) (g2 : Mm.SlAt Mm.int w B x.Index A n c) : rPiece.at_ w B x [.int .i64 x.From, .string x.Bytes, .slice A n c] :=
  ⟨_, _, rfl, ⟨rfl, g0⟩, ⟨_, _, rfl, ⟨rfl, g1⟩, ⟨A, n, c, rfl, g2⟩⟩⟩
theorem rPiece_own {w : World} {x : Piece} {cs : List Value} {fp : List Nat} (h : rPiece.own w x cs fp) : ∃ A n c f, cs = [.int .i64 x.From, .string x.Bytes, .slice A n c] ∧ fp = f ∧ Mm.I64 x.From ∧ x.Bytes.size ≤ maxLen ∧ Mm.SlOwn Mm.int 3 w x.Index (.slice A n c) f := by
  obtain ⟨_, _, _, _, rfl, rfl, ⟨rfl, h0, rfl⟩, ⟨_, _, _, _, rfl, rfl, ⟨rfl, h1, rfl⟩, ⟨v2, rfl, h2⟩⟩⟩ := h
  obtain ⟨A, n, c, rfl, _⟩ := h2.form
  exact ⟨A, n, c, _, rfl, by simp, h0, h1, h2⟩
theorem rPiece_own_mk {w : World} {x : Piece} {A : Option Addr} {n c : Nat} {f : List Nat} (g0 : Mm.I64 x.From) (g1 : x.Bytes.size ≤ maxLen) (g2 : Mm.SlOwn Mm.int 3 w x.Index (.slice A n c) f) : rPiece.own w x [.int .i64 x.From, .string x.Bytes, .slice A n c] (f) := by
  have h : rPiece.own w x _ _ := ⟨_, _, _, _, rfl, rfl, ⟨rfl, g0, rfl⟩, ⟨_, _, _, _, rfl, rfl, ⟨rfl, g1, rfl⟩, ⟨_, rfl, g2⟩⟩⟩
  simpa using h
def rPieceS : Mm.Rep (List Piece) := Mm.slice rPiece 76
def rLog : Mm.Rep Log := Mm.iso (fun x => (x.Pieces, x.Begin)) (Mm.pair rPieceS Mm.int)
theorem rLog_at {w : World} {B : Nat} {x : Log} {cs : List Value} (h : rLog.at_ w B x cs) : ∃ A n c, cs = [.slice A n c, .int .i64 x.Begin] ∧ Mm.SlAt rPiece w B x.Pieces A n c ∧ Mm.I64 x.Begin := by
  obtain ⟨_, _, rfl, ⟨A, n, c, rfl, h0⟩, ⟨rfl, h1⟩⟩ := h
  exact ⟨A, n, c, rfl, h0, h1⟩
theorem rLog_at_mk {w : World} {B : Nat} {x : Log} {A : Option Addr} {n c : Nat} (g0 : Mm.SlAt rPiece w B x.Pieces A n c) (g1 : Mm.I64 x.Begin) : rLog.at_ w B x [.slice A n c, .int .i64 x.Begin] :=
  ⟨_, _, rfl, ⟨A, n, c, rfl, g0⟩, ⟨rfl, g1⟩⟩
theorem rLog_own {w : World} {x : Log} {cs : List Value} {fp : List Nat} (h : rLog.own w x cs fp) : ∃ A n c f, cs = [.slice A n c, .int .i64 x.Begin] ∧ fp = f ∧ Mm.SlOwn rPiece 76 w x.Pieces (.slice A n c) f ∧ Mm.I64 x.Begin := by
  obtain ⟨_, _, _, _, rfl, rfl, ⟨v0, rfl, h0⟩, ⟨rfl, h1, rfl⟩⟩ := h
  obtain ⟨A, n, c, rfl, _⟩ := h0.form
  exact ⟨A, n, c, _, rfl, by simp, h0, h1⟩
theorem rLog_own_mk {w : World} {x : Log} {A : Option Addr} {n c : Nat} {f : List Nat} (g0 : Mm.SlOwn rPiece 76 w x.Pieces (.slice A n c) f) (g1 : Mm.I64 x.Begin) : rLog.own w x [.slice A n c, .int .i64 x.Begin] (f) := by
  have h : rLog.own w x _ _ := ⟨_, _, _, _, rfl, rfl, ⟨_, rfl, g0⟩, ⟨rfl, g1, rfl⟩⟩
  simpa using h
def rLogS : Mm.Rep (List Log) := Mm.slice rLog 48
def rHeadS : Mm.Rep (List Head) := Mm.slice rHead 35
def rHouse : Mm.Rep House := Mm.iso (fun x => (x.Logs, (x.Heads, x.Kept))) (Mm.pair rLogS (Mm.pair rHeadS rHeadS))
theorem rHouse_at {w : World} {B : Nat} {x : House} {cs : List Value} (h : rHouse.at_ w B x cs) : ∃ A0 n0 c0 A1 n1 c1 A2 n2 c2, cs = [.slice A0 n0 c0, .slice A1 n1 c1, .slice A2 n2 c2] ∧ Mm.SlAt rLog w B x.Logs A0 n0 c0 ∧ Mm.SlAt rHead w B x.Heads A1 n1 c1 ∧ Mm.SlAt rHead w B x.Kept A2 n2 c2 := by
  obtain ⟨_, _, rfl, ⟨A0, n0, c0, rfl, h0⟩, ⟨_, _, rfl, ⟨A1, n1, c1, rfl, h1⟩, ⟨A2, n2, c2, rfl, h2⟩⟩⟩ := h
  exact ⟨A0, n0, c0, A1, n1, c1, A2, n2, c2, rfl, h0, h1, h2⟩
theorem rHouse_at_mk {w : World} {B : Nat} {x : House} {A0 : Option Addr} {n0 c0 : Nat} {A1 : Option Addr} {n1 c1 : Nat} {A2 : Option Addr} {n2 c2 : Nat} (g0 : Mm.SlAt rLog w B x.Logs A0 n0 c0) (g1 : Mm.SlAt rHead w B x.Heads A1 n1 c1) (g2 : Mm.SlAt rHead w B x.Kept A2 n2 c2) : rHouse.at_ w B x [.slice A0 n0 c0, .slice A1 n1 c1, .slice A2 n2 c2] :=
  ⟨_, _, rfl, ⟨A0, n0, c0, rfl, g0⟩, ⟨_, _, rfl, ⟨A1, n1, c1, rfl, g1⟩, ⟨A2, n2, c2, rfl, g2⟩⟩⟩
theorem rHouse_own {w : World} {x : House} {cs : List Value} {fp : List Nat} (h : rHouse.own w x cs fp) : ∃ A0 n0 c0 A1 n1 c1 A2 n2 c2 f0 f1 f2, cs = [.slice A0 n0 c0, .slice A1 n1 c1, .slice A2 n2 c2] ∧ fp = f0 ++ (f1 ++ f2) ∧ Mm.SlOwn rLog 48 w x.Logs (.slice A0 n0 c0) f0 ∧ Mm.SlOwn rHead 35 w x.Heads (.slice A1 n1 c1) f1 ∧ Mm.SlOwn rHead 35 w x.Kept (.slice A2 n2 c2) f2 := by
  obtain ⟨_, _, _, _, rfl, rfl, ⟨v0, rfl, h0⟩, ⟨_, _, _, _, rfl, rfl, ⟨v1, rfl, h1⟩, ⟨v2, rfl, h2⟩⟩⟩ := h
  obtain ⟨A0, n0, c0, rfl, _⟩ := h0.form
  obtain ⟨A1, n1, c1, rfl, _⟩ := h1.form
  obtain ⟨A2, n2, c2, rfl, _⟩ := h2.form
  exact ⟨A0, n0, c0, A1, n1, c1, A2, n2, c2, _, _, _, rfl, by simp, h0, h1, h2⟩
theorem rHouse_own_mk {w : World} {x : House} {A0 : Option Addr} {n0 c0 : Nat} {A1 : Option Addr} {n1 c1 : Nat} {A2 : Option Addr} {n2 c2 : Nat} {f0 f1 f2 : List Nat} (g0 : Mm.SlOwn rLog 48 w x.Logs (.slice A0 n0 c0) f0) (g1 : Mm.SlOwn rHead 35 w x.Heads (.slice A1 n1 c1) f1) (g2 : Mm.SlOwn rHead 35 w x.Kept (.slice A2 n2 c2) f2) : rHouse.own w x [.slice A0 n0 c0, .slice A1 n1 c1, .slice A2 n2 c2] (f0 ++ (f1 ++ f2)) := by
  have h : rHouse.own w x _ _ := ⟨_, _, _, _, rfl, rfl, ⟨_, rfl, g0⟩, ⟨_, _, _, _, rfl, rfl, ⟨_, rfl, g1⟩, ⟨_, rfl, g2⟩⟩⟩
  simpa using h
def rSayS : Mm.Rep (List Say) := Mm.slice rSay 61
def rHouseStepS : Mm.Rep (List HouseStep) := Mm.slice rHouseStep 63
theorem int_get {w : World} {B : Nat} {l : List Int} {A : Option Addr} {n c k : Nat} (h : Mm.SlAt Mm.int w B l A n c) (hk : k < n) :
    ∃ x b off, l[k]? = some x ∧ A = some ⟨b, off, none⟩ ∧ b < B ∧ Mm.I64 x ∧ w.cell? ⟨b, off + k, none⟩ = some (.int .i64 x) := by
  obtain ⟨x, b, off, cs, hx, hA, hb, ha, hc⟩ := h.get hk
  obtain ⟨rfl, g0⟩ := ha
  exact ⟨x, b, off, hx, hA, hb, g0, (by rw [show off + k = off + k * Mm.int.size + 0 by show _ = off + k * 1 + 0; omega]; exact hc 0 _ rfl)⟩
theorem int_get' {w : World} {B : Nat} {l : List Int} {b off n c k : Nat} (h : Mm.SlAt Mm.int w B l (some ⟨b, off, none⟩) n c) (hk : k < n) :
    ∃ x, l[k]? = some x ∧ b < B ∧ Mm.I64 x ∧ w.cell? ⟨b, off + k, none⟩ = some (.int .i64 x) := by
  obtain ⟨x, cs, hx, hb, ha, hc⟩ := h.get' hk
  obtain ⟨rfl, g0⟩ := ha
  exact ⟨x, hx, hb, g0, (by rw [show off + k = off + k * Mm.int.size + 0 by show _ = off + k * 1 + 0; omega]; exact hc 0 _ rfl)⟩
theorem int_ocell {w : World} {e : TypeId} {xs : List Int} {g n c i : Nat} {x : Int} {fp : List Nat} (h : Mm.SlOwn Mm.int e w xs (.slice (some ⟨g, 0, none⟩) n c) fp) (hnd : fp.Nodup) (hi : xs[i]? = some x) : w.cell? ⟨g, i, none⟩ = some (.int .i64 x) := by
  obtain ⟨cs, fx, hown, _, _, hc, _⟩ := h.inner hnd hi
  obtain ⟨rfl, _, _⟩ := hown
  exact ((by have e0 := hc 0 _ rfl; rwa [show i * Mm.int.size + 0 = i by show i * 1 + 0 = i; omega] at e0))
theorem smp_get {w : World} {B : Nat} {l : List Sample} {A : Option Addr} {n c k : Nat} (h : Mm.SlAt smp w B l A n c) (hk : k < n) :
    ∃ x b off, l[k]? = some x ∧ A = some ⟨b, off, none⟩ ∧ b < B ∧ Mm.I64 x.At ∧ Mm.I64 x.Value ∧ w.cell? ⟨b, off + k * 2, none⟩ = some (.int .i64 x.At) ∧ w.cell? ⟨b, off + k * 2 + 1, none⟩ = some (.int .i64 x.Value) := by
  obtain ⟨x, b, off, cs, hx, hA, hb, ha, hc⟩ := h.get hk
  obtain ⟨rfl, g0, g1⟩ := smp_at ha
  exact ⟨x, b, off, hx, hA, hb, g0, g1, hc 0 _ rfl, hc 1 _ rfl⟩
theorem smp_get' {w : World} {B : Nat} {l : List Sample} {b off n c k : Nat} (h : Mm.SlAt smp w B l (some ⟨b, off, none⟩) n c) (hk : k < n) :
    ∃ x, l[k]? = some x ∧ b < B ∧ Mm.I64 x.At ∧ Mm.I64 x.Value ∧ w.cell? ⟨b, off + k * 2, none⟩ = some (.int .i64 x.At) ∧ w.cell? ⟨b, off + k * 2 + 1, none⟩ = some (.int .i64 x.Value) := by
  obtain ⟨x, cs, hx, hb, ha, hc⟩ := h.get' hk
  obtain ⟨rfl, g0, g1⟩ := smp_at ha
  exact ⟨x, hx, hb, g0, g1, hc 0 _ rfl, hc 1 _ rfl⟩
theorem smp_ocell {w : World} {e : TypeId} {xs : List Sample} {g n c i : Nat} {x : Sample} {fp : List Nat} (h : Mm.SlOwn smp e w xs (.slice (some ⟨g, 0, none⟩) n c) fp) (hnd : fp.Nodup) (hi : xs[i]? = some x) : w.cell? ⟨g, i * 2, none⟩ = some (.int .i64 x.At) ∧ w.cell? ⟨g, i * 2 + 1, none⟩ = some (.int .i64 x.Value) := by
  obtain ⟨cs, fx, hown, _, _, hc, _⟩ := h.inner hnd hi
  obtain ⟨rfl, _⟩ := smp_own hown
  exact ⟨hc 0 _ rfl, hc 1 _ rfl⟩
theorem rSay_get {w : World} {B : Nat} {l : List Say} {A : Option Addr} {n c k : Nat} (h : Mm.SlAt rSay w B l A n c) (hk : k < n) :
    ∃ x b off, l[k]? = some x ∧ A = some ⟨b, off, none⟩ ∧ b < B ∧ x.Name.size ≤ maxLen ∧ Mm.I64 x.At ∧ Mm.I64 x.Value ∧ w.cell? ⟨b, off + k * 3, none⟩ = some (.string x.Name) ∧ w.cell? ⟨b, off + k * 3 + 1, none⟩ = some (.int .i64 x.At) ∧ w.cell? ⟨b, off + k * 3 + 2, none⟩ = some (.int .i64 x.Value) := by
  obtain ⟨x, b, off, cs, hx, hA, hb, ha, hc⟩ := h.get hk
  obtain ⟨rfl, g0, g1, g2⟩ := rSay_at ha
  exact ⟨x, b, off, hx, hA, hb, g0, g1, g2, hc 0 _ rfl, hc 1 _ rfl, hc 2 _ rfl⟩
theorem rSay_get' {w : World} {B : Nat} {l : List Say} {b off n c k : Nat} (h : Mm.SlAt rSay w B l (some ⟨b, off, none⟩) n c) (hk : k < n) :
    ∃ x, l[k]? = some x ∧ b < B ∧ x.Name.size ≤ maxLen ∧ Mm.I64 x.At ∧ Mm.I64 x.Value ∧ w.cell? ⟨b, off + k * 3, none⟩ = some (.string x.Name) ∧ w.cell? ⟨b, off + k * 3 + 1, none⟩ = some (.int .i64 x.At) ∧ w.cell? ⟨b, off + k * 3 + 2, none⟩ = some (.int .i64 x.Value) := by
  obtain ⟨x, cs, hx, hb, ha, hc⟩ := h.get' hk
  obtain ⟨rfl, g0, g1, g2⟩ := rSay_at ha
  exact ⟨x, hx, hb, g0, g1, g2, hc 0 _ rfl, hc 1 _ rfl, hc 2 _ rfl⟩
theorem rSay_ocell {w : World} {e : TypeId} {xs : List Say} {g n c i : Nat} {x : Say} {fp : List Nat} (h : Mm.SlOwn rSay e w xs (.slice (some ⟨g, 0, none⟩) n c) fp) (hnd : fp.Nodup) (hi : xs[i]? = some x) : w.cell? ⟨g, i * 3, none⟩ = some (.string x.Name) ∧ w.cell? ⟨g, i * 3 + 1, none⟩ = some (.int .i64 x.At) ∧ w.cell? ⟨g, i * 3 + 2, none⟩ = some (.int .i64 x.Value) := by
  obtain ⟨cs, fx, hown, _, _, hc, _⟩ := h.inner hnd hi
  obtain ⟨rfl, _⟩ := rSay_own hown
  exact ⟨hc 0 _ rfl, hc 1 _ rfl, hc 2 _ rfl⟩
theorem rHouseStep_get {w : World} {B : Nat} {l : List HouseStep} {A : Option Addr} {n c k : Nat} (h : Mm.SlAt rHouseStep w B l A n c) (hk : k < n) :
    ∃ x b off, l[k]? = some x ∧ A = some ⟨b, off, none⟩ ∧ b < B ∧ Mm.I64 x.Kind ∧ Mm.I64 x.Part ∧ x.What.Name.size ≤ maxLen ∧ Mm.I64 x.What.At ∧ Mm.I64 x.What.Value ∧ w.cell? ⟨b, off + k * 5, none⟩ = some (.int .i64 x.Kind) ∧ w.cell? ⟨b, off + k * 5 + 1, none⟩ = some (.int .i64 x.Part) ∧ w.cell? ⟨b, off + k * 5 + 2, none⟩ = some (.string x.What.Name) ∧ w.cell? ⟨b, off + k * 5 + 3, none⟩ = some (.int .i64 x.What.At) ∧ w.cell? ⟨b, off + k * 5 + 4, none⟩ = some (.int .i64 x.What.Value) := by
  obtain ⟨x, b, off, cs, hx, hA, hb, ha, hc⟩ := h.get hk
  obtain ⟨rfl, g0, g1, g2, g3, g4⟩ := rHouseStep_at ha
  exact ⟨x, b, off, hx, hA, hb, g0, g1, g2, g3, g4, hc 0 _ rfl, hc 1 _ rfl, hc 2 _ rfl, hc 3 _ rfl, hc 4 _ rfl⟩
theorem rHouseStep_get' {w : World} {B : Nat} {l : List HouseStep} {b off n c k : Nat} (h : Mm.SlAt rHouseStep w B l (some ⟨b, off, none⟩) n c) (hk : k < n) :
    ∃ x, l[k]? = some x ∧ b < B ∧ Mm.I64 x.Kind ∧ Mm.I64 x.Part ∧ x.What.Name.size ≤ maxLen ∧ Mm.I64 x.What.At ∧ Mm.I64 x.What.Value ∧ w.cell? ⟨b, off + k * 5, none⟩ = some (.int .i64 x.Kind) ∧ w.cell? ⟨b, off + k * 5 + 1, none⟩ = some (.int .i64 x.Part) ∧ w.cell? ⟨b, off + k * 5 + 2, none⟩ = some (.string x.What.Name) ∧ w.cell? ⟨b, off + k * 5 + 3, none⟩ = some (.int .i64 x.What.At) ∧ w.cell? ⟨b, off + k * 5 + 4, none⟩ = some (.int .i64 x.What.Value) := by
  obtain ⟨x, cs, hx, hb, ha, hc⟩ := h.get' hk
  obtain ⟨rfl, g0, g1, g2, g3, g4⟩ := rHouseStep_at ha
  exact ⟨x, hx, hb, g0, g1, g2, g3, g4, hc 0 _ rfl, hc 1 _ rfl, hc 2 _ rfl, hc 3 _ rfl, hc 4 _ rfl⟩
theorem rHouseStep_ocell {w : World} {e : TypeId} {xs : List HouseStep} {g n c i : Nat} {x : HouseStep} {fp : List Nat} (h : Mm.SlOwn rHouseStep e w xs (.slice (some ⟨g, 0, none⟩) n c) fp) (hnd : fp.Nodup) (hi : xs[i]? = some x) : w.cell? ⟨g, i * 5, none⟩ = some (.int .i64 x.Kind) ∧ w.cell? ⟨g, i * 5 + 1, none⟩ = some (.int .i64 x.Part) ∧ w.cell? ⟨g, i * 5 + 2, none⟩ = some (.string x.What.Name) ∧ w.cell? ⟨g, i * 5 + 3, none⟩ = some (.int .i64 x.What.At) ∧ w.cell? ⟨g, i * 5 + 4, none⟩ = some (.int .i64 x.What.Value) := by
  obtain ⟨cs, fx, hown, _, _, hc, _⟩ := h.inner hnd hi
  obtain ⟨rfl, _⟩ := rHouseStep_own hown
  exact ⟨hc 0 _ rfl, hc 1 _ rfl, hc 2 _ rfl, hc 3 _ rfl, hc 4 _ rfl⟩
theorem rRow_get {w : World} {B : Nat} {l : List Row} {A : Option Addr} {n c k : Nat} (h : Mm.SlAt rRow w B l A n c) (hk : k < n) :
    ∃ x b off A' n' c', l[k]? = some x ∧ A = some ⟨b, off, none⟩ ∧ b < B ∧ x.Name.size ≤ maxLen ∧ Mm.SlAt smp w B x.Samples A' n' c' ∧ w.cell? ⟨b, off + k * 2, none⟩ = some (.string x.Name) ∧ w.cell? ⟨b, off + k * 2 + 1, none⟩ = some (.slice A' n' c') := by
  obtain ⟨x, b, off, cs, hx, hA, hb, ha, hc⟩ := h.get hk
  obtain ⟨A', n', c', rfl, g0, g1⟩ := rRow_at ha
  exact ⟨x, b, off, A', n', c', hx, hA, hb, g0, g1, hc 0 _ rfl, hc 1 _ rfl⟩
theorem rRow_get' {w : World} {B : Nat} {l : List Row} {b off n c k : Nat} (h : Mm.SlAt rRow w B l (some ⟨b, off, none⟩) n c) (hk : k < n) :
    ∃ x A' n' c', l[k]? = some x ∧ b < B ∧ x.Name.size ≤ maxLen ∧ Mm.SlAt smp w B x.Samples A' n' c' ∧ w.cell? ⟨b, off + k * 2, none⟩ = some (.string x.Name) ∧ w.cell? ⟨b, off + k * 2 + 1, none⟩ = some (.slice A' n' c') := by
  obtain ⟨x, cs, hx, hb, ha, hc⟩ := h.get' hk
  obtain ⟨A', n', c', rfl, g0, g1⟩ := rRow_at ha
  exact ⟨x, A', n', c', hx, hb, g0, g1, hc 0 _ rfl, hc 1 _ rfl⟩
theorem rRow_ocell {w : World} {e : TypeId} {xs : List Row} {g n c i : Nat} {x : Row} {fp : List Nat} (h : Mm.SlOwn rRow e w xs (.slice (some ⟨g, 0, none⟩) n c) fp) (hnd : fp.Nodup) (hi : xs[i]? = some x) : ∃ A' n' c', w.cell? ⟨g, i * 2, none⟩ = some (.string x.Name) ∧ w.cell? ⟨g, i * 2 + 1, none⟩ = some (.slice A' n' c') := by
  obtain ⟨cs, fx, hown, _, _, hc, _⟩ := h.inner hnd hi
  obtain ⟨A', n', c', _, rfl, _⟩ := rRow_own hown
  exact ⟨A', n', c', hc 0 _ rfl, hc 1 _ rfl⟩
theorem rHead_get {w : World} {B : Nat} {l : List Head} {A : Option Addr} {n c k : Nat} (h : Mm.SlAt rHead w B l A n c) (hk : k < n) :
    ∃ x b off A' n' c', l[k]? = some x ∧ A = some ⟨b, off, none⟩ ∧ b < B ∧ Mm.SlAt rRow w B x.Rows A' n' c' ∧ Mm.I64 x.Offset ∧ w.cell? ⟨b, off + k * 2, none⟩ = some (.slice A' n' c') ∧ w.cell? ⟨b, off + k * 2 + 1, none⟩ = some (.int .i64 x.Offset) := by
  obtain ⟨x, b, off, cs, hx, hA, hb, ha, hc⟩ := h.get hk
  obtain ⟨A', n', c', rfl, g0, g1⟩ := rHead_at ha
  exact ⟨x, b, off, A', n', c', hx, hA, hb, g0, g1, hc 0 _ rfl, hc 1 _ rfl⟩
theorem rHead_get' {w : World} {B : Nat} {l : List Head} {b off n c k : Nat} (h : Mm.SlAt rHead w B l (some ⟨b, off, none⟩) n c) (hk : k < n) :
    ∃ x A' n' c', l[k]? = some x ∧ b < B ∧ Mm.SlAt rRow w B x.Rows A' n' c' ∧ Mm.I64 x.Offset ∧ w.cell? ⟨b, off + k * 2, none⟩ = some (.slice A' n' c') ∧ w.cell? ⟨b, off + k * 2 + 1, none⟩ = some (.int .i64 x.Offset) := by
  obtain ⟨x, cs, hx, hb, ha, hc⟩ := h.get' hk
  obtain ⟨A', n', c', rfl, g0, g1⟩ := rHead_at ha
  exact ⟨x, A', n', c', hx, hb, g0, g1, hc 0 _ rfl, hc 1 _ rfl⟩
theorem rHead_ocell {w : World} {e : TypeId} {xs : List Head} {g n c i : Nat} {x : Head} {fp : List Nat} (h : Mm.SlOwn rHead e w xs (.slice (some ⟨g, 0, none⟩) n c) fp) (hnd : fp.Nodup) (hi : xs[i]? = some x) : ∃ A' n' c', w.cell? ⟨g, i * 2, none⟩ = some (.slice A' n' c') ∧ w.cell? ⟨g, i * 2 + 1, none⟩ = some (.int .i64 x.Offset) := by
  obtain ⟨cs, fx, hown, _, _, hc, _⟩ := h.inner hnd hi
  obtain ⟨A', n', c', _, rfl, _⟩ := rHead_own hown
  exact ⟨A', n', c', hc 0 _ rfl, hc 1 _ rfl⟩
theorem rPiece_get {w : World} {B : Nat} {l : List Piece} {A : Option Addr} {n c k : Nat} (h : Mm.SlAt rPiece w B l A n c) (hk : k < n) :
    ∃ x b off A' n' c', l[k]? = some x ∧ A = some ⟨b, off, none⟩ ∧ b < B ∧ Mm.I64 x.From ∧ x.Bytes.size ≤ maxLen ∧ Mm.SlAt Mm.int w B x.Index A' n' c' ∧ w.cell? ⟨b, off + k * 3, none⟩ = some (.int .i64 x.From) ∧ w.cell? ⟨b, off + k * 3 + 1, none⟩ = some (.string x.Bytes) ∧ w.cell? ⟨b, off + k * 3 + 2, none⟩ = some (.slice A' n' c') := by
  obtain ⟨x, b, off, cs, hx, hA, hb, ha, hc⟩ := h.get hk
  obtain ⟨A', n', c', rfl, g0, g1, g2⟩ := rPiece_at ha
  exact ⟨x, b, off, A', n', c', hx, hA, hb, g0, g1, g2, hc 0 _ rfl, hc 1 _ rfl, hc 2 _ rfl⟩
theorem rPiece_get' {w : World} {B : Nat} {l : List Piece} {b off n c k : Nat} (h : Mm.SlAt rPiece w B l (some ⟨b, off, none⟩) n c) (hk : k < n) :
    ∃ x A' n' c', l[k]? = some x ∧ b < B ∧ Mm.I64 x.From ∧ x.Bytes.size ≤ maxLen ∧ Mm.SlAt Mm.int w B x.Index A' n' c' ∧ w.cell? ⟨b, off + k * 3, none⟩ = some (.int .i64 x.From) ∧ w.cell? ⟨b, off + k * 3 + 1, none⟩ = some (.string x.Bytes) ∧ w.cell? ⟨b, off + k * 3 + 2, none⟩ = some (.slice A' n' c') := by
  obtain ⟨x, cs, hx, hb, ha, hc⟩ := h.get' hk
  obtain ⟨A', n', c', rfl, g0, g1, g2⟩ := rPiece_at ha
  exact ⟨x, A', n', c', hx, hb, g0, g1, g2, hc 0 _ rfl, hc 1 _ rfl, hc 2 _ rfl⟩
theorem rPiece_ocell {w : World} {e : TypeId} {xs : List Piece} {g n c i : Nat} {x : Piece} {fp : List Nat} (h : Mm.SlOwn rPiece e w xs (.slice (some ⟨g, 0, none⟩) n c) fp) (hnd : fp.Nodup) (hi : xs[i]? = some x) : ∃ A' n' c', w.cell? ⟨g, i * 3, none⟩ = some (.int .i64 x.From) ∧ w.cell? ⟨g, i * 3 + 1, none⟩ = some (.string x.Bytes) ∧ w.cell? ⟨g, i * 3 + 2, none⟩ = some (.slice A' n' c') := by
  obtain ⟨cs, fx, hown, _, _, hc, _⟩ := h.inner hnd hi
  obtain ⟨A', n', c', _, rfl, _⟩ := rPiece_own hown
  exact ⟨A', n', c', hc 0 _ rfl, hc 1 _ rfl, hc 2 _ rfl⟩
theorem rLog_get {w : World} {B : Nat} {l : List Log} {A : Option Addr} {n c k : Nat} (h : Mm.SlAt rLog w B l A n c) (hk : k < n) :
    ∃ x b off A' n' c', l[k]? = some x ∧ A = some ⟨b, off, none⟩ ∧ b < B ∧ Mm.SlAt rPiece w B x.Pieces A' n' c' ∧ Mm.I64 x.Begin ∧ w.cell? ⟨b, off + k * 2, none⟩ = some (.slice A' n' c') ∧ w.cell? ⟨b, off + k * 2 + 1, none⟩ = some (.int .i64 x.Begin) := by
  obtain ⟨x, b, off, cs, hx, hA, hb, ha, hc⟩ := h.get hk
  obtain ⟨A', n', c', rfl, g0, g1⟩ := rLog_at ha
  exact ⟨x, b, off, A', n', c', hx, hA, hb, g0, g1, hc 0 _ rfl, hc 1 _ rfl⟩
theorem rLog_get' {w : World} {B : Nat} {l : List Log} {b off n c k : Nat} (h : Mm.SlAt rLog w B l (some ⟨b, off, none⟩) n c) (hk : k < n) :
    ∃ x A' n' c', l[k]? = some x ∧ b < B ∧ Mm.SlAt rPiece w B x.Pieces A' n' c' ∧ Mm.I64 x.Begin ∧ w.cell? ⟨b, off + k * 2, none⟩ = some (.slice A' n' c') ∧ w.cell? ⟨b, off + k * 2 + 1, none⟩ = some (.int .i64 x.Begin) := by
  obtain ⟨x, cs, hx, hb, ha, hc⟩ := h.get' hk
  obtain ⟨A', n', c', rfl, g0, g1⟩ := rLog_at ha
  exact ⟨x, A', n', c', hx, hb, g0, g1, hc 0 _ rfl, hc 1 _ rfl⟩
theorem rLog_ocell {w : World} {e : TypeId} {xs : List Log} {g n c i : Nat} {x : Log} {fp : List Nat} (h : Mm.SlOwn rLog e w xs (.slice (some ⟨g, 0, none⟩) n c) fp) (hnd : fp.Nodup) (hi : xs[i]? = some x) : ∃ A' n' c', w.cell? ⟨g, i * 2, none⟩ = some (.slice A' n' c') ∧ w.cell? ⟨g, i * 2 + 1, none⟩ = some (.int .i64 x.Begin) := by
  obtain ⟨cs, fx, hown, _, _, hc, _⟩ := h.inner hnd hi
  obtain ⟨A', n', c', _, rfl, _⟩ := rLog_own hown
  exact ⟨A', n', c', hc 0 _ rfl, hc 1 _ rfl⟩
end Go.Proofs.Ytkodfflnpalbbaa
