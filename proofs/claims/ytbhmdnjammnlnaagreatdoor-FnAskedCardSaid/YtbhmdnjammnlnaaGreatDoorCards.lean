/-
  DERIVED. GIVEN WITH THE SEED: THE CARDS: each row of YtbhmdnjammnlnaaGreatDoorRows.lean that lists a variable, with what it lists TIED to the program's text (the seventh form; the later family's looks); each row that meets fmt, with fmt's text TOLD by the authors' own Lean function (tested against real Go, not proved from fmt's source: count such statements apart). THE CARD IS WHAT COUNTS. Prove the row's statement (the work); the ties are given (YtbhmdnjammnlnaaGreatDoorTie.lean); close each card by the builder's one call (the guide's Derived/Test/ToyasCard.lean, 'card_holds'). Laid BY PROGRAM, IN A SANDBOX (cutbox-door.mjs). By AI agents, Wed Nov 11 2026. No macro, syntax, notation, axiom, sorry.
-/
import Derived.Test.YtbhmdnjammnlnaaGreatDoorRows
import GoSem.ClaimSeven
namespace Go.Proofs.YtbhmdnjammnlnaaGreatDoor
namespace Rows

/-- THE TIED CARD OF 'laws.FnExactPlayHouse'. -/
def fnExactPlayHouseCard : Claim7 := { stood := { row := fnExactPlayHouseRow, standIns := [], harness := (true, "855fd0b385ae4fcec6d6e82019ad17b3e09284dcad45630c123f56186e6361d8"), looks := true }, kinds := [], alts := [], laidByText := true, laidKinds := [.data, .data, .data, .data, .sentinel, .sentinel, .pinned], laidTests := true, laidLooks := .later }
def FnExactPlayHouseCardSaid : Prop := Claim7.holds Tryz.pinned (.plain (OpenSpec.ofChange fnExactPlayHouseSpec)) fnExactPlayHouseCard

/-- THE TIED CARD OF 'laws.FnExactGoodHouse'. -/
def fnExactGoodHouseCard : Claim7 := { stood := { row := fnExactGoodHouseRow, standIns := [], harness := (true, "855fd0b385ae4fcec6d6e82019ad17b3e09284dcad45630c123f56186e6361d8"), looks := true }, kinds := [], alts := [], laidByText := true, laidKinds := [.data, .data, .data, .data, .sentinel, .sentinel, .pinned], laidTests := true, laidLooks := .later }
def FnExactGoodHouseCardSaid : Prop := Claim7.holds Tryz.pinned (.plain (OpenSpec.ofChange fnExactGoodHouseSpec)) fnExactGoodHouseCard

/-- THE TIED CARD OF 'laws.FnExactStepHouse'. -/
def fnExactStepHouseCard : Claim7 := { stood := { row := fnExactStepHouseRow, standIns := [], harness := (true, "855fd0b385ae4fcec6d6e82019ad17b3e09284dcad45630c123f56186e6361d8"), looks := true }, kinds := [], alts := [], laidByText := true, laidKinds := [.data, .data, .data, .data, .sentinel, .sentinel, .pinned], laidTests := true, laidLooks := .later }
def FnExactStepHouseCardSaid : Prop := Claim7.holds Tryz.pinned (.plain (OpenSpec.ofChange fnExactStepHouseSpec)) fnExactStepHouseCard

/-- THE TIED CARD OF 'laws.FnExactCatchUp'. -/
def fnExactCatchUpCard : Claim7 := { stood := { row := fnExactCatchUpRow, standIns := [], harness := (true, "855fd0b385ae4fcec6d6e82019ad17b3e09284dcad45630c123f56186e6361d8"), looks := true }, kinds := [], alts := [], laidByText := true, laidKinds := [.data, .data, .data, .data, .sentinel, .sentinel, .pinned], laidTests := true, laidLooks := .later }
def FnExactCatchUpCardSaid : Prop := Claim7.holds Tryz.pinned (.plain (OpenSpec.ofChange fnExactCatchUpSpec)) fnExactCatchUpCard

/-- THE TIED CARD OF 'laws.FnExactAskHouse'. -/
def fnExactAskHouseCard : Claim7 := { stood := { row := fnExactAskHouseRow, standIns := [], harness := (true, "855fd0b385ae4fcec6d6e82019ad17b3e09284dcad45630c123f56186e6361d8"), looks := true }, kinds := [], alts := [], laidByText := true, laidKinds := [.data, .data, .data, .data, .sentinel, .sentinel, .pinned], laidTests := true, laidLooks := .later }
def FnExactAskHouseCardSaid : Prop := Claim7.holds Tryz.pinned (.plain (OpenSpec.ofChange fnExactAskHouseSpec)) fnExactAskHouseCard

/-- THE TIED CARD OF 'laws.FnHouse'. -/
def fnHouseCard : Claim7 := { stood := { row := fnHouseRow, standIns := [], harness := (true, "855fd0b385ae4fcec6d6e82019ad17b3e09284dcad45630c123f56186e6361d8"), looks := true }, kinds := [], alts := [], laidByText := true, laidKinds := [.data, .data, .data, .data, .sentinel, .sentinel, .pinned], laidTests := true, laidLooks := .later }
def FnHouseCardSaid : Prop := Claim7.holds Tryz.pinned (.plain (OpenSpec.ofChange fnHouseSpec)) fnHouseCard

/-- THE TIED CARD OF 'laws.FnAsked'. -/
def fnAskedCard : Claim7 := { stood := { row := fnAskedRow, standIns := [], harness := (true, "855fd0b385ae4fcec6d6e82019ad17b3e09284dcad45630c123f56186e6361d8"), looks := true }, kinds := [], alts := [], laidByText := true, laidKinds := [.data, .data, .data, .data, .sentinel, .sentinel, .pinned], laidTests := true, laidLooks := .later }
def FnAskedCardSaid : Prop := Claim7.holds Tryz.pinned (.plain (OpenSpec.ofChange fnAskedSpec)) fnAskedCard

/-- THE SECOND FORM's CARD OF 'laws.FnExactPlayHouse'. -/
def fnExactPlayHouseUptoCard : Claim7 := { stood := { row := fnExactPlayHouseUptoRow, standIns := [], harness := (true, "855fd0b385ae4fcec6d6e82019ad17b3e09284dcad45630c123f56186e6361d8"), looks := true }, kinds := [], alts := [], laidByText := true, laidKinds := [.data, .data, .data, .data, .sentinel, .sentinel, .pinned], laidTests := true, laidLooks := .later }
def FnExactPlayHouseUptoCardSaid : Prop := Claim7.holds Tryz.pinned (.plain (OpenSpec.upto fnExactPlayHouseSpec)) fnExactPlayHouseUptoCard

/-- THE SECOND FORM's CARD OF 'laws.FnExactGoodHouse'. -/
def fnExactGoodHouseUptoCard : Claim7 := { stood := { row := fnExactGoodHouseUptoRow, standIns := [], harness := (true, "855fd0b385ae4fcec6d6e82019ad17b3e09284dcad45630c123f56186e6361d8"), looks := true }, kinds := [], alts := [], laidByText := true, laidKinds := [.data, .data, .data, .data, .sentinel, .sentinel, .pinned], laidTests := true, laidLooks := .later }
def FnExactGoodHouseUptoCardSaid : Prop := Claim7.holds Tryz.pinned (.plain (OpenSpec.upto fnExactGoodHouseSpec)) fnExactGoodHouseUptoCard

/-- THE SECOND FORM's CARD OF 'laws.FnExactStepHouse'. -/
def fnExactStepHouseUptoCard : Claim7 := { stood := { row := fnExactStepHouseUptoRow, standIns := [], harness := (true, "855fd0b385ae4fcec6d6e82019ad17b3e09284dcad45630c123f56186e6361d8"), looks := true }, kinds := [], alts := [], laidByText := true, laidKinds := [.data, .data, .data, .data, .sentinel, .sentinel, .pinned], laidTests := true, laidLooks := .later }
def FnExactStepHouseUptoCardSaid : Prop := Claim7.holds Tryz.pinned (.plain (OpenSpec.upto fnExactStepHouseSpec)) fnExactStepHouseUptoCard

/-- THE SECOND FORM's CARD OF 'laws.FnExactCatchUp'. -/
def fnExactCatchUpUptoCard : Claim7 := { stood := { row := fnExactCatchUpUptoRow, standIns := [], harness := (true, "855fd0b385ae4fcec6d6e82019ad17b3e09284dcad45630c123f56186e6361d8"), looks := true }, kinds := [], alts := [], laidByText := true, laidKinds := [.data, .data, .data, .data, .sentinel, .sentinel, .pinned], laidTests := true, laidLooks := .later }
def FnExactCatchUpUptoCardSaid : Prop := Claim7.holds Tryz.pinned (.plain (OpenSpec.upto fnExactCatchUpSpec)) fnExactCatchUpUptoCard

/-- THE SECOND FORM's CARD OF 'laws.FnExactAskHouse'. -/
def fnExactAskHouseUptoCard : Claim7 := { stood := { row := fnExactAskHouseUptoRow, standIns := [], harness := (true, "855fd0b385ae4fcec6d6e82019ad17b3e09284dcad45630c123f56186e6361d8"), looks := true }, kinds := [], alts := [], laidByText := true, laidKinds := [.data, .data, .data, .data, .sentinel, .sentinel, .pinned], laidTests := true, laidLooks := .later }
def FnExactAskHouseUptoCardSaid : Prop := Claim7.holds Tryz.pinned (.plain (OpenSpec.upto fnExactAskHouseSpec)) fnExactAskHouseUptoCard

/-- THE SECOND FORM's CARD OF 'laws.FnHouse'. -/
def fnHouseUptoCard : Claim7 := { stood := { row := fnHouseUptoRow, standIns := [], harness := (true, "855fd0b385ae4fcec6d6e82019ad17b3e09284dcad45630c123f56186e6361d8"), looks := true }, kinds := [], alts := [], laidByText := true, laidKinds := [.data, .data, .data, .data, .sentinel, .sentinel, .pinned], laidTests := true, laidLooks := .later }
def FnHouseUptoCardSaid : Prop := Claim7.holds Tryz.pinned (.plain (OpenSpec.upto fnHouseSpec)) fnHouseUptoCard

/-- THE SECOND FORM's CARD OF 'laws.FnAsked'. -/
def fnAskedUptoCard : Claim7 := { stood := { row := fnAskedUptoRow, standIns := [], harness := (true, "855fd0b385ae4fcec6d6e82019ad17b3e09284dcad45630c123f56186e6361d8"), looks := true }, kinds := [], alts := [], laidByText := true, laidKinds := [.data, .data, .data, .data, .sentinel, .sentinel, .pinned], laidTests := true, laidLooks := .later }
def FnAskedUptoCardSaid : Prop := Claim7.holds Tryz.pinned (.plain (OpenSpec.upto fnAskedSpec)) fnAskedUptoCard
end Rows
end Go.Proofs.YtbhmdnjammnlnaaGreatDoor
