/-
  The laws' own types, opened. No conditions.
-/
import Derived.Test.YtnppcdiicnofpaaRows
import Derived.Test.YtnppcdiicnofpaaOp
import Derived.Test.YtnppcdiicnofpaaTy
namespace Go.Proofs.Ytnppcdiicnofpaa
theorem opens_IntS : Mm.Opens Try.prog 24 (Mm.slice Mm.int 3) := Mm.opens_slice Try.underlying24 (by kernel_rfl) (by decide) (Mm.opens_int Try.underlying3 (by kernel_rfl))
theorem opens_StringS : Mm.Opens Try.prog 41 (Mm.slice Mm.str 9) := Mm.opens_slice Try.underlying41 (by kernel_rfl) (by decide) (Mm.opens_str Try.underlying9 (by kernel_rfl))
theorem opens_Label : Mm.Opens Try.prog 129 rLabel :=
  Mm.opens_map (Mm.opens_struct (E := (Mm.pair Mm.str Mm.str)) Try.underlying129 (by kernel_rfl) (Mm.opensF_cons rfl (Mm.opens_str Try.underlying9 (by kernel_rfl)) (Mm.opensF_one rfl (Mm.opens_str Try.underlying9 (by kernel_rfl))))) rfl
    (fun w B x cs h => by obtain ⟨_, _, rfl, ⟨rfl, h0⟩, ⟨rfl, h1⟩⟩ := h; exact ⟨⟨x.1, x.2⟩, rfl, ⟨h0, h1⟩⟩)
theorem opens_LabelS : Mm.Opens Try.prog 71 (Mm.slice rLabel 129) := Mm.opens_slice Try.underlying71 (by kernel_rfl) (by decide) opens_Label
theorem opens_Item : Mm.Opens Try.prog 101 rItem :=
  Mm.opens_map (Mm.opens_struct (E := (Mm.pair rLabelS Mm.int)) Try.underlying101 (by kernel_rfl) (Mm.opensF_cons rfl opens_LabelS (Mm.opensF_one rfl (Mm.opens_int Try.underlying3 (by kernel_rfl))))) rfl
    (fun w B x cs h => ⟨⟨x.1, x.2⟩, h⟩)
theorem opens_ItemS : Mm.Opens Try.prog 64 (Mm.slice rItem 101) := Mm.opens_slice Try.underlying64 (by kernel_rfl) (by decide) opens_Item
theorem opens_Total : Mm.Opens Try.prog 73 rTotal :=
  Mm.opens_map (Mm.opens_struct (E := (Mm.pair rLabelS (Mm.pair Mm.int (Mm.pair Mm.int (Mm.pair Mm.int Mm.int))))) Try.underlying73 (by kernel_rfl) (Mm.opensF_cons rfl opens_LabelS (Mm.opensF_cons rfl (Mm.opens_int Try.underlying3 (by kernel_rfl)) (Mm.opensF_cons rfl (Mm.opens_int Try.underlying3 (by kernel_rfl)) (Mm.opensF_cons rfl (Mm.opens_int Try.underlying3 (by kernel_rfl)) (Mm.opensF_one rfl (Mm.opens_int Try.underlying3 (by kernel_rfl)))))))) rfl
    (fun w B x cs h => ⟨⟨x.1, x.2.1, x.2.2.1, x.2.2.2.1, x.2.2.2.2⟩, h⟩)
theorem opens_TotalS : Mm.Opens Try.prog 22 (Mm.slice rTotal 73) := Mm.opens_slice Try.underlying22 (by kernel_rfl) (by decide) opens_Total
end Go.Proofs.Ytnppcdiicnofpaa
