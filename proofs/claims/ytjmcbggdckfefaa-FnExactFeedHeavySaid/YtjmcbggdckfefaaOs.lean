/-
  The laws' own types, opened. No conditions.
-/
import Derived.Test.YtjmcbggdckfefaaRows
import Derived.Test.YtjmcbggdckfefaaOp
import Derived.Test.YtjmcbggdckfefaaTy
namespace Go.Proofs.Ytjmcbggdckfefaa
theorem opens_IntS : Mm.Opens Try.prog 34 (Mm.slice Mm.int 3) := Mm.opens_slice Try.underlying34 (by kernel_rfl) (by decide) (Mm.opens_int Try.underlying3 (by kernel_rfl))
theorem opens_StringS : Mm.Opens Try.prog 33 (Mm.slice Mm.str 9) := Mm.opens_slice Try.underlying33 (by kernel_rfl) (by decide) (Mm.opens_str Try.underlying9 (by kernel_rfl))
theorem opens_IntSS : Mm.Opens Try.prog 22 (Mm.slice ints 34) := Mm.opens_slice Try.underlying22 (by kernel_rfl) (by decide) opens_IntS
theorem opens_Sketch : Mm.Opens Try.prog 24 sk :=
  Mm.opens_map (Mm.opens_struct (E := (Mm.pair intss Mm.int)) Try.underlying24 (by kernel_rfl) (Mm.opensF_cons rfl opens_IntSS (Mm.opensF_one rfl (Mm.opens_int Try.underlying3 (by kernel_rfl))))) rfl
    (fun w B x cs h => ⟨⟨x.1, x.2⟩, h⟩)
theorem opens_Heavy : Mm.Opens Try.prog 36 rHeavy :=
  Mm.opens_map (Mm.opens_struct (E := (Mm.pair strs (Mm.pair ints (Mm.pair Mm.int Mm.int)))) Try.underlying36 (by kernel_rfl) (Mm.opensF_cons rfl opens_StringS (Mm.opensF_cons rfl opens_IntS (Mm.opensF_cons rfl (Mm.opens_int Try.underlying3 (by kernel_rfl)) (Mm.opensF_one rfl (Mm.opens_int Try.underlying3 (by kernel_rfl))))))) rfl
    (fun w B x cs h => ⟨⟨x.1, x.2.1, x.2.2.1, x.2.2.2⟩, h⟩)
end Go.Proofs.Ytjmcbggdckfefaa
