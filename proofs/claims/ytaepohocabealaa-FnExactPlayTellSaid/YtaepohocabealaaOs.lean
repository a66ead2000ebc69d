/-
  The laws' own types, opened. No conditions.
-/
import Derived.Test.YtaepohocabealaaRows
import Derived.Test.YtaepohocabealaaOp
import Derived.Test.YtaepohocabealaaTy
namespace Go.Proofs.Ytaepohocabealaa
theorem opens_IntS : Mm.Opens Try.prog 27 (Mm.slice Mm.int 3) := Mm.opens_slice Try.underlying27 (by kernel_rfl) (by decide) (Mm.opens_int Try.underlying3 (by kernel_rfl))
theorem opens_StringS : Mm.Opens Try.prog 40 (Mm.slice Mm.str 9) := Mm.opens_slice Try.underlying40 (by kernel_rfl) (by decide) (Mm.opens_str Try.underlying9 (by kernel_rfl))
theorem opens_BoolS : Mm.Opens Try.prog 32 (Mm.slice Mm.bool 4) := Mm.opens_slice Try.underlying32 (by kernel_rfl) (by decide) (Mm.opens_bool Try.underlying4 (by kernel_rfl))
theorem opens_StringSS : Mm.Opens Try.prog 26 (Mm.slice strs 40) := Mm.opens_slice Try.underlying26 (by kernel_rfl) (by decide) opens_StringS
theorem opens_Told : Mm.Opens Try.prog 132 rTold :=
  Mm.opens_map (Mm.opens_struct (E := (Mm.pair Mm.int (Mm.pair Mm.int Mm.str))) Try.underlying132 (by kernel_rfl) (Mm.opensF_cons rfl (Mm.opens_int Try.underlying3 (by kernel_rfl)) (Mm.opensF_cons rfl (Mm.opens_int Try.underlying3 (by kernel_rfl)) (Mm.opensF_one rfl (Mm.opens_str Try.underlying9 (by kernel_rfl)))))) rfl
    (fun w B x cs h => by obtain ⟨_, _, rfl, ⟨rfl, h0⟩, ⟨_, _, rfl, ⟨rfl, h1⟩, ⟨rfl, h2⟩⟩⟩ := h; exact ⟨⟨x.1, x.2.1, x.2.2⟩, rfl, ⟨h0, h1, h2⟩⟩)
theorem opens_ToldS : Mm.Opens Try.prog 72 (Mm.slice rTold 132) := Mm.opens_slice Try.underlying72 (by kernel_rfl) (by decide) opens_Told
theorem opens_Note : Mm.Opens Try.prog 134 rNote :=
  Mm.opens_map (Mm.opens_struct (E := (Mm.pair Mm.bool rTold)) Try.underlying134 (by kernel_rfl) (Mm.opensF_cons rfl (Mm.opens_bool Try.underlying4 (by kernel_rfl)) (Mm.opensF_one rfl opens_Told))) rfl
    (fun w B x cs h => by obtain ⟨_, _, rfl, ⟨rfl, h0⟩, ⟨rfl, h1⟩⟩ := h; exact ⟨⟨x.1, x.2⟩, rfl, ⟨h1.1, h1.2.1, h1.2.2⟩⟩)
theorem opens_NoteS : Mm.Opens Try.prog 71 (Mm.slice rNote 134) := Mm.opens_slice Try.underlying71 (by kernel_rfl) (by decide) opens_Note
theorem opens_TellStep : Mm.Opens Try.prog 78 rTellStep :=
  Mm.opens_map (Mm.opens_struct (E := (Mm.pair Mm.int (Mm.pair Mm.int Mm.str))) Try.underlying78 (by kernel_rfl) (Mm.opensF_cons rfl (Mm.opens_int Try.underlying3 (by kernel_rfl)) (Mm.opensF_cons rfl (Mm.opens_int Try.underlying3 (by kernel_rfl)) (Mm.opensF_one rfl (Mm.opens_str Try.underlying9 (by kernel_rfl)))))) rfl
    (fun w B x cs h => by obtain ⟨_, _, rfl, ⟨rfl, h0⟩, ⟨_, _, rfl, ⟨rfl, h1⟩, ⟨rfl, h2⟩⟩⟩ := h; exact ⟨⟨x.1, x.2.1, x.2.2⟩, rfl, ⟨h0, h1, h2⟩⟩)
theorem opens_TellStepS : Mm.Opens Try.prog 63 (Mm.slice rTellStep 78) := Mm.opens_slice Try.underlying63 (by kernel_rfl) (by decide) opens_TellStep
theorem opens_Tell : Mm.Opens Try.prog 74 rTell :=
  Mm.opens_map (Mm.opens_struct (E := (Mm.pair strss (Mm.pair ints (Mm.pair rNoteS (Mm.pair rToldS ints))))) Try.underlying74 (by kernel_rfl) (Mm.opensF_cons rfl opens_StringSS (Mm.opensF_cons rfl opens_IntS (Mm.opensF_cons rfl opens_NoteS (Mm.opensF_cons rfl opens_ToldS (Mm.opensF_one rfl opens_IntS)))))) rfl
    (fun w B x cs h => ⟨⟨x.1, x.2.1, x.2.2.1, x.2.2.2.1, x.2.2.2.2⟩, h⟩)
end Go.Proofs.Ytaepohocabealaa
