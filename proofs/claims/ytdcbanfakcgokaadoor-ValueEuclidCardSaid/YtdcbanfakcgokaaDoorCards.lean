/-
  DERIVED. GIVEN WITH THE SEED: THE CARDS: each row of YtdcbanfakcgokaaDoorRows.lean that lists a variable, with what it lists TIED to the program's text (the seventh form; the later family's looks); each row that meets fmt, with fmt's text TOLD by the authors' own Lean function (tested against real Go, not proved from fmt's source: count such statements apart). THE CARD IS WHAT COUNTS. Prove the row's statement (the work); the ties are given (YtdcbanfakcgokaaDoorTie.lean); close each card by the builder's one call (the guide's Derived/Test/ToyasCard.lean, 'card_holds'). Laid BY PROGRAM, IN A SANDBOX (cutbox-door.mjs). By AI agents, Wed Nov 11 2026. No macro, syntax, notation, axiom, sorry.
-/
import Derived.Test.YtdcbanfakcgokaaDoorRows
import GoSem.ClaimSeven
namespace Go.Proofs.YtdcbanfakcgokaaDoor
namespace Rows

/-- THE TIED CARD OF 'trellislaw1.ValueKeys'. -/
def valueKeysCard : Claim7 := { stood := { row := valueKeysRow, standIns := [], harness := (true, "6827e9875c4790601de8852be2550ca69d4ddba6849df32a7c44a36a46c78d9c"), looks := true }, kinds := [], alts := [], laidByText := true, laidKinds := [.data, .pinned], laidTests := true, laidLooks := .later }
def ValueKeysCardSaid : Prop := Claim7.holds Tryd.pinned (.plain (OpenSpec.ofChange valueKeysSpec)) valueKeysCard

/-- THE TIED CARD OF 'trellislaw1.ValueOrder'. -/
def valueOrderCard : Claim7 := { stood := { row := valueOrderRow, standIns := [], harness := (true, "6827e9875c4790601de8852be2550ca69d4ddba6849df32a7c44a36a46c78d9c"), looks := true }, kinds := [], alts := [], laidByText := true, laidKinds := [.data, .pinned], laidTests := true, laidLooks := .later }
def ValueOrderCardSaid : Prop := Claim7.holds Tryd.pinned (.plain (OpenSpec.ofChange valueOrderSpec)) valueOrderCard

/-- THE TIED CARD OF 'trellislaw1.ValueRing'. -/
def valueRingCard : Claim7 := { stood := { row := valueRingRow, standIns := [], harness := (true, "6827e9875c4790601de8852be2550ca69d4ddba6849df32a7c44a36a46c78d9c"), looks := true }, kinds := [], alts := [], laidByText := true, laidKinds := [.data, .pinned], laidTests := true, laidLooks := .later }
def ValueRingCardSaid : Prop := Claim7.holds Tryd.pinned (.plain (OpenSpec.ofChange valueRingSpec)) valueRingCard

/-- THE TIED CARD OF 'trellislaw1.ValueEuclid'. -/
def valueEuclidCard : Claim7 := { stood := { row := valueEuclidRow, standIns := [], harness := (true, "6827e9875c4790601de8852be2550ca69d4ddba6849df32a7c44a36a46c78d9c"), looks := true }, kinds := [], alts := [], laidByText := true, laidKinds := [.data, .pinned], laidTests := true, laidLooks := .later }
def ValueEuclidCardSaid : Prop := Claim7.holds Tryd.pinned (.plain (OpenSpec.ofChange valueEuclidSpec)) valueEuclidCard

/-- THE TIED CARD OF 'trellislaw1.ValueKleene'. -/
def valueKleeneCard : Claim7 := { stood := { row := valueKleeneRow, standIns := [], harness := (true, "6827e9875c4790601de8852be2550ca69d4ddba6849df32a7c44a36a46c78d9c"), looks := true }, kinds := [], alts := [], laidByText := true, laidKinds := [.data, .pinned], laidTests := true, laidLooks := .later }
def ValueKleeneCardSaid : Prop := Claim7.holds Tryd.pinned (.plain (OpenSpec.ofChange valueKleeneSpec)) valueKleeneCard

/-- THE SECOND FORM's CARD OF 'trellislaw1.ValueKeys'. -/
def valueKeysUptoCard : Claim7 := { stood := { row := valueKeysUptoRow, standIns := [], harness := (true, "6827e9875c4790601de8852be2550ca69d4ddba6849df32a7c44a36a46c78d9c"), looks := true }, kinds := [], alts := [], laidByText := true, laidKinds := [.data, .pinned], laidTests := true, laidLooks := .later }
def ValueKeysUptoCardSaid : Prop := Claim7.holds Tryd.pinned (.plain (OpenSpec.upto valueKeysSpec)) valueKeysUptoCard

/-- THE SECOND FORM's CARD OF 'trellislaw1.ValueOrder'. -/
def valueOrderUptoCard : Claim7 := { stood := { row := valueOrderUptoRow, standIns := [], harness := (true, "6827e9875c4790601de8852be2550ca69d4ddba6849df32a7c44a36a46c78d9c"), looks := true }, kinds := [], alts := [], laidByText := true, laidKinds := [.data, .pinned], laidTests := true, laidLooks := .later }
def ValueOrderUptoCardSaid : Prop := Claim7.holds Tryd.pinned (.plain (OpenSpec.upto valueOrderSpec)) valueOrderUptoCard

/-- THE SECOND FORM's CARD OF 'trellislaw1.ValueRing'. -/
def valueRingUptoCard : Claim7 := { stood := { row := valueRingUptoRow, standIns := [], harness := (true, "6827e9875c4790601de8852be2550ca69d4ddba6849df32a7c44a36a46c78d9c"), looks := true }, kinds := [], alts := [], laidByText := true, laidKinds := [.data, .pinned], laidTests := true, laidLooks := .later }
def ValueRingUptoCardSaid : Prop := Claim7.holds Tryd.pinned (.plain (OpenSpec.upto valueRingSpec)) valueRingUptoCard

/-- THE SECOND FORM's CARD OF 'trellislaw1.ValueEuclid'. -/
def valueEuclidUptoCard : Claim7 := { stood := { row := valueEuclidUptoRow, standIns := [], harness := (true, "6827e9875c4790601de8852be2550ca69d4ddba6849df32a7c44a36a46c78d9c"), looks := true }, kinds := [], alts := [], laidByText := true, laidKinds := [.data, .pinned], laidTests := true, laidLooks := .later }
def ValueEuclidUptoCardSaid : Prop := Claim7.holds Tryd.pinned (.plain (OpenSpec.upto valueEuclidSpec)) valueEuclidUptoCard

/-- THE SECOND FORM's CARD OF 'trellislaw1.ValueKleene'. -/
def valueKleeneUptoCard : Claim7 := { stood := { row := valueKleeneUptoRow, standIns := [], harness := (true, "6827e9875c4790601de8852be2550ca69d4ddba6849df32a7c44a36a46c78d9c"), looks := true }, kinds := [], alts := [], laidByText := true, laidKinds := [.data, .pinned], laidTests := true, laidLooks := .later }
def ValueKleeneUptoCardSaid : Prop := Claim7.holds Tryd.pinned (.plain (OpenSpec.upto valueKleeneSpec)) valueKleeneUptoCard
end Rows
end Go.Proofs.YtdcbanfakcgokaaDoor
