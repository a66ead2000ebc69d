/-
  The laws' own types, opened. No conditions.
-/
import Derived.Test.YtogfhncaodaefaaRows
import Derived.Test.YtogfhncaodaefaaOp
import Derived.Test.YtogfhncaodaefaaTy
namespace Go.Proofs.Ytogfhncaodaefaa
theorem opens_Sample : Mm.Opens Try.prog 46 smp :=
  Mm.opens_map (Mm.opens_struct (E := (Mm.pair Mm.int Mm.int)) Try.underlying46 (by kernel_rfl) (Mm.opensF_cons rfl (Mm.opens_int Try.underlying3 (by kernel_rfl)) (Mm.opensF_one rfl (Mm.opens_int Try.underlying3 (by kernel_rfl))))) rfl
    (fun w B x cs h => by obtain ⟨_, _, rfl, ⟨rfl, h0⟩, ⟨rfl, h1⟩⟩ := h; exact ⟨⟨x.1, x.2⟩, rfl, ⟨h0, h1⟩⟩)
theorem opens_SampleS : Mm.Opens Try.prog 22 (Mm.slice smp 46) := Mm.opens_slice Try.underlying22 (by kernel_rfl) (by decide) opens_Sample
end Go.Proofs.Ytogfhncaodaefaa
