/-
  The laws' own sample types, opened. No conditions.
-/
import Derived.Test.YtffjepjblokjmaaRows
import Derived.Test.YtffjepjblokjmaaOp
import Derived.Test.YtffjepjblokjmaaTy
namespace Go.Proofs.Ytffjepjblokjmaa
theorem opens_smp : Mm.Opens Try.prog 56 smp :=
  Mm.opens_map (Mm.opens_struct (E := Mm.pair Mm.int Mm.int) Try.underlying56 (by kernel_rfl) (Mm.opensF_cons rfl (Mm.opens_int Try.underlying3 (by kernel_rfl)) (Mm.opensF_one rfl (Mm.opens_int Try.underlying3 (by kernel_rfl))))) rfl
    (fun w B x cs h => by obtain ⟨_, _, rfl, ⟨rfl, h1⟩, ⟨rfl, h2⟩⟩ := h; exact ⟨⟨x.1, x.2⟩, rfl, h1, h2⟩)
theorem opens_smpS : Mm.Opens Try.prog 25 (Mm.slice smp 56) := Mm.opens_slice Try.underlying25 (by kernel_rfl) (by decide) opens_smp
end Go.Proofs.Ytffjepjblokjmaa
