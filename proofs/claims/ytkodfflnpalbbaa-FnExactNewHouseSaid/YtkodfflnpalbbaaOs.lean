/-
  The laws' own types, opened. No conditions.
-/
import Derived.Test.YtkodfflnpalbbaaRows
import Derived.Test.YtkodfflnpalbbaaOp
import Derived.Test.YtkodfflnpalbbaaTy
namespace Go.Proofs.Ytkodfflnpalbbaa
theorem opens_IntS : Mm.Opens Try.prog 68 (Mm.slice Mm.int 3) := Mm.opens_slice Try.underlying68 (by kernel_rfl) (by decide) (Mm.opens_int Try.underlying3 (by kernel_rfl))
theorem opens_Say : Mm.Opens Try.prog 57 rSay :=
  Mm.opens_map (Mm.opens_struct (E := (Mm.pair Mm.str (Mm.pair Mm.int Mm.int))) Try.underlying57 (by kernel_rfl) (Mm.opensF_cons rfl (Mm.opens_str Try.underlying9 (by kernel_rfl)) (Mm.opensF_cons rfl (Mm.opens_int Try.underlying3 (by kernel_rfl)) (Mm.opensF_one rfl (Mm.opens_int Try.underlying3 (by kernel_rfl)))))) rfl
    (fun w B x cs h => by obtain ⟨_, _, rfl, ⟨rfl, h0⟩, ⟨_, _, rfl, ⟨rfl, h1⟩, ⟨rfl, h2⟩⟩⟩ := h; exact ⟨⟨x.1, x.2.1, x.2.2⟩, rfl, ⟨h0, h1, h2⟩⟩)
theorem opens_HouseStep : Mm.Opens Try.prog 59 rHouseStep :=
  Mm.opens_map (Mm.opens_struct (E := (Mm.pair Mm.int (Mm.pair Mm.int rSay))) Try.underlying59 (by kernel_rfl) (Mm.opensF_cons rfl (Mm.opens_int Try.underlying3 (by kernel_rfl)) (Mm.opensF_cons rfl (Mm.opens_int Try.underlying3 (by kernel_rfl)) (Mm.opensF_one rfl opens_Say)))) rfl
    (fun w B x cs h => by obtain ⟨_, _, rfl, ⟨rfl, h0⟩, ⟨_, _, rfl, ⟨rfl, h1⟩, ⟨rfl, h2⟩⟩⟩ := h; exact ⟨⟨x.1, x.2.1, x.2.2⟩, rfl, ⟨h0, h1, h2.1, h2.2.1, h2.2.2⟩⟩)
theorem opens_HouseStepS : Mm.Opens Try.prog 31 (Mm.slice rHouseStep 59) := Mm.opens_slice Try.underlying31 (by kernel_rfl) (by decide) opens_HouseStep
end Go.Proofs.Ytkodfflnpalbbaa
