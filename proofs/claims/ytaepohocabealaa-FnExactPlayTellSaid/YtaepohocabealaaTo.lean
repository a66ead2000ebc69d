/-
  A struct behind a pointer, opened into its block and its slices, and shut again. No conditions.
-/
import Derived.Test.YtaepohocabealaaSw
import Derived.Test.YtaepohocabealaaTy
namespace Go.Proofs.Ytaepohocabealaa
open Go.RowKit
theorem open_Tell {F : List Nat} {w0 wr : World} {ts : List Mm.Thing} {g : Nat} {x : Tell} {fp : List Nat} (h : Mm.SepF F w0 wr (Mm.tptr rTell 31 g x fp :: ts)) :
    ∃ A0 n0 c0 A1 n1 c1 A2 n2 c2 A3 n3 c3 A4 n4 c4 f0 f1 f2 f3 f4, fp = f0 ++ (f1 ++ (f2 ++ (f3 ++ f4))) ∧ Mm.SepF F w0 wr (Mm.tblk g 31 [.slice A0 n0 c0, .slice A1 n1 c1, .slice A2 n2 c2, .slice A3 n3 c3, .slice A4 n4 c4] :: Mm.tsl strs 40 x.Texts (.slice A0 n0 c0) f0 :: Mm.tsl Mm.int 3 x.Heard (.slice A1 n1 c1) f1 :: Mm.tsl rNote 94 x.Line (.slice A2 n2 c2) f2 :: Mm.tsl rTold 52 x.Log (.slice A3 n3 c3) f3 :: Mm.tsl Mm.int 3 x.Next (.slice A4 n4 c4) f4 :: ts) := by
  have h0 := h.hold _ (List.mem_cons_self)
  obtain ⟨cs, hb, ho⟩ := h0
  obtain ⟨A0, n0, c0, A1, n1, c1, A2, n2, c2, A3, n3, c3, A4, n4, c4, f0, f1, f2, f3, f4, rfl, rfl, k0, k1, k2, k3, k4⟩ := rTell_own ho
  exact ⟨_, _, _, _, _, _, _, _, _, _, _, _, _, _, _, _, _, _, _, _, rfl, h.conv (by simp [Mm.tblk, Mm.tsl, Mm.tptr]) (List.forall_mem_cons.2 ⟨hb, List.forall_mem_cons.2 ⟨k0, List.forall_mem_cons.2 ⟨k1, List.forall_mem_cons.2 ⟨k2, List.forall_mem_cons.2 ⟨k3, List.forall_mem_cons.2 ⟨k4, fun u hu => h.hold u (List.mem_cons_of_mem _ hu)⟩⟩⟩⟩⟩⟩)⟩
theorem shut_Tell {F : List Nat} {w0 wr : World} {ts : List Mm.Thing} {g : Nat} {x : Tell} {A0 A1 A2 A3 A4 : Option Addr} {n0 c0 n1 c1 n2 c2 n3 c3 n4 c4 : Nat} {f0 f1 f2 f3 f4 : List Nat} (h : Mm.SepF F w0 wr (Mm.tblk g 31 [.slice A0 n0 c0, .slice A1 n1 c1, .slice A2 n2 c2, .slice A3 n3 c3, .slice A4 n4 c4] :: Mm.tsl strs 40 x.Texts (.slice A0 n0 c0) f0 :: Mm.tsl Mm.int 3 x.Heard (.slice A1 n1 c1) f1 :: Mm.tsl rNote 94 x.Line (.slice A2 n2 c2) f2 :: Mm.tsl rTold 52 x.Log (.slice A3 n3 c3) f3 :: Mm.tsl Mm.int 3 x.Next (.slice A4 n4 c4) f4 :: ts)) :
    Mm.SepF F w0 wr (Mm.tptr rTell 31 g x (f0 ++ (f1 ++ (f2 ++ (f3 ++ f4)))) :: ts) :=
  h.conv (by simp [Mm.tblk, Mm.tsl, Mm.tptr]) (List.forall_mem_cons.2 ⟨⟨_, h.at_ 0 rfl, rTell_own_mk (h.sl 1 rfl) (h.sl 2 rfl) (h.sl 3 rfl) (h.sl 4 rfl) (h.sl 5 rfl)⟩, fun u hu => h.hold u (by
    iterate 6 apply List.mem_cons_of_mem
    exact hu)⟩)
end Go.Proofs.Ytaepohocabealaa
