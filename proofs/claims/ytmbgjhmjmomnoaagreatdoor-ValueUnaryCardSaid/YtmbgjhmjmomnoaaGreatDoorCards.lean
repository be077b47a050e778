/-
  DERIVED. GIVEN WITH THE SEED: THE CARDS: each row of YtmbgjhmjmomnoaaGreatDoorRows.lean that lists a variable, with what it lists TIED to the program's text (the seventh form; the later family's looks); each row that meets fmt, with fmt's text TOLD by the authors' own Lean function (tested against real Go, not proved from fmt's source: count such statements apart). THE CARD IS WHAT COUNTS. Prove the row's statement (the work); the ties are given (YtmbgjhmjmomnoaaGreatDoorTie.lean); close each card by the builder's one call (the guide's Derived/Test/ToyasCard.lean, 'card_holds'). Laid BY PROGRAM, IN A SANDBOX (cutbox-door.mjs). By AI agents, Wed Nov 11 2026. No macro, syntax, notation, axiom, sorry.
-/
import Derived.Test.YtmbgjhmjmomnoaaGreatDoorRows
import GoSem.ClaimSeven
namespace Go.Proofs.YtmbgjhmjmomnoaaGreatDoor
namespace Rows

/-- THE TIED CARD OF 'trellislaw1.ValueForms'. -/
def valueFormsCard : Claim7 := { stood := { row := valueFormsRow, standIns := [], harness := (true, "498f9e1a9fa2c44ded9cf79dc1c2ab642e27789b48177fb47ceb04a24b31c81a"), looks := true }, kinds := [], alts := [], laidByText := true, laidKinds := [.data, .data, .data, .data, .sentinel, .sentinel, .data, .pinned], laidTests := true, laidLooks := .later }
def ValueFormsCardSaid : Prop := Claim7.holds Tryz.pinned (.plain (OpenSpec.ofChange valueFormsSpec)) valueFormsCard

/-- THE TIED CARD OF 'trellislaw1.ValueUnary'. -/
def valueUnaryCard : Claim7 := { stood := { row := valueUnaryRow, standIns := [], harness := (true, "498f9e1a9fa2c44ded9cf79dc1c2ab642e27789b48177fb47ceb04a24b31c81a"), looks := true }, kinds := [], alts := [], laidByText := true, laidKinds := [.data, .data, .data, .data, .sentinel, .sentinel, .data, .pinned], laidTests := true, laidLooks := .later }
def ValueUnaryCardSaid : Prop := Claim7.holds Tryz.pinned (.plain (OpenSpec.ofChange valueUnarySpec)) valueUnaryCard

/-- THE TIED CARD OF 'trellislaw1.ValueBinary'. -/
def valueBinaryCard : Claim7 := { stood := { row := valueBinaryRow, standIns := [], harness := (true, "498f9e1a9fa2c44ded9cf79dc1c2ab642e27789b48177fb47ceb04a24b31c81a"), looks := true }, kinds := [], alts := [], laidByText := true, laidKinds := [.data, .data, .data, .data, .sentinel, .sentinel, .data, .pinned], laidTests := true, laidLooks := .later }
def ValueBinaryCardSaid : Prop := Claim7.holds Tryz.pinned (.plain (OpenSpec.ofChange valueBinarySpec)) valueBinaryCard

/-- THE TIED CARD OF 'trellislaw1.ValueCompare'. -/
def valueCompareCard : Claim7 := { stood := { row := valueCompareRow, standIns := [], harness := (true, "498f9e1a9fa2c44ded9cf79dc1c2ab642e27789b48177fb47ceb04a24b31c81a"), looks := true }, kinds := [], alts := [], laidByText := true, laidKinds := [.data, .data, .data, .data, .sentinel, .sentinel, .data, .pinned], laidTests := true, laidLooks := .later }
def ValueCompareCardSaid : Prop := Claim7.holds Tryz.pinned (.plain (OpenSpec.ofChange valueCompareSpec)) valueCompareCard

/-- THE TIED CARD OF 'trellislaw1.ValueFold'. -/
def valueFoldCard : Claim7 := { stood := { row := valueFoldRow, standIns := [], harness := (true, "498f9e1a9fa2c44ded9cf79dc1c2ab642e27789b48177fb47ceb04a24b31c81a"), looks := true }, kinds := [], alts := [], laidByText := true, laidKinds := [.data, .data, .data, .data, .sentinel, .sentinel, .data, .pinned], laidTests := true, laidLooks := .later }
def ValueFoldCardSaid : Prop := Claim7.holds Tryz.pinned (.plain (OpenSpec.ofChange valueFoldSpec)) valueFoldCard

/-- THE TIED CARD OF 'trellislaw1.ValueTexts'. -/
def valueTextsCard : Claim7 := { stood := { row := valueTextsRow, standIns := [], harness := (true, "498f9e1a9fa2c44ded9cf79dc1c2ab642e27789b48177fb47ceb04a24b31c81a"), looks := true }, kinds := [], alts := [], laidByText := true, laidKinds := [.data, .data, .data, .data, .sentinel, .sentinel, .data, .pinned], laidTests := true, laidLooks := .later }
def ValueTextsCardSaid : Prop := Claim7.holds Tryz.pinned (.plain (OpenSpec.ofChange valueTextsSpec)) valueTextsCard

/-- THE TIED CARD OF 'trellislaw1.ValueDecode'. -/
def valueDecodeCard : Claim7 := { stood := { row := valueDecodeRow, standIns := [], harness := (true, "498f9e1a9fa2c44ded9cf79dc1c2ab642e27789b48177fb47ceb04a24b31c81a"), looks := true }, kinds := [], alts := [], laidByText := true, laidKinds := [.data, .data, .data, .data, .sentinel, .sentinel, .data, .pinned], laidTests := true, laidLooks := .later }
def ValueDecodeCardSaid : Prop := Claim7.holds Tryz.pinned (.plain (OpenSpec.ofChange valueDecodeSpec)) valueDecodeCard

/-- THE TIED CARD OF 'trellislaw1.ValueParts'. -/
def valuePartsCard : Claim7 := { stood := { row := valuePartsRow, standIns := [], harness := (true, "498f9e1a9fa2c44ded9cf79dc1c2ab642e27789b48177fb47ceb04a24b31c81a"), looks := true }, kinds := [], alts := [], laidByText := true, laidKinds := [.data, .data, .data, .data, .sentinel, .sentinel, .data, .pinned], laidTests := true, laidLooks := .later }
def ValuePartsCardSaid : Prop := Claim7.holds Tryz.pinned (.plain (OpenSpec.ofChange valuePartsSpec)) valuePartsCard

/-- THE TIED CARD OF 'trellislaw1.ValueNames'. -/
def valueNamesCard : Claim7 := { stood := { row := valueNamesRow, standIns := [], harness := (true, "498f9e1a9fa2c44ded9cf79dc1c2ab642e27789b48177fb47ceb04a24b31c81a"), looks := true }, kinds := [], alts := [], laidByText := true, laidKinds := [.data, .data, .data, .data, .sentinel, .sentinel, .data, .pinned], laidTests := true, laidLooks := .later }
def ValueNamesCardSaid : Prop := Claim7.holds Tryz.pinned (.plain (OpenSpec.ofChange valueNamesSpec)) valueNamesCard

/-- THE TIED CARD OF 'trellislaw1.ValueAll'. -/
def valueAllCard : Claim7 := { stood := { row := valueAllRow, standIns := [], harness := (true, "498f9e1a9fa2c44ded9cf79dc1c2ab642e27789b48177fb47ceb04a24b31c81a"), looks := true }, kinds := [], alts := [], laidByText := true, laidKinds := [.data, .data, .data, .data, .sentinel, .sentinel, .data, .pinned], laidTests := true, laidLooks := .later }
def ValueAllCardSaid : Prop := Claim7.holds Tryz.pinned (.plain (OpenSpec.ofChange valueAllSpec)) valueAllCard

/-- THE TIED CARD OF 'trellislaw1.ValueBytes'. -/
def valueBytesCard : Claim7 := { stood := { row := valueBytesRow, standIns := [], harness := (true, "498f9e1a9fa2c44ded9cf79dc1c2ab642e27789b48177fb47ceb04a24b31c81a"), looks := true }, kinds := [], alts := [], laidByText := true, laidKinds := [.data, .data, .data, .data, .sentinel, .sentinel, .data, .pinned], laidTests := true, laidLooks := .later }
def ValueBytesCardSaid : Prop := Claim7.holds Tryz.pinned (.plain (OpenSpec.ofChange valueBytesSpec)) valueBytesCard

/-- THE SECOND FORM's CARD OF 'trellislaw1.ValueForms'. -/
def valueFormsUptoCard : Claim7 := { stood := { row := valueFormsUptoRow, standIns := [], harness := (true, "498f9e1a9fa2c44ded9cf79dc1c2ab642e27789b48177fb47ceb04a24b31c81a"), looks := true }, kinds := [], alts := [], laidByText := true, laidKinds := [.data, .data, .data, .data, .sentinel, .sentinel, .data, .pinned], laidTests := true, laidLooks := .later }
def ValueFormsUptoCardSaid : Prop := Claim7.holds Tryz.pinned (.plain (OpenSpec.upto valueFormsSpec)) valueFormsUptoCard

/-- THE SECOND FORM's CARD OF 'trellislaw1.ValueUnary'. -/
def valueUnaryUptoCard : Claim7 := { stood := { row := valueUnaryUptoRow, standIns := [], harness := (true, "498f9e1a9fa2c44ded9cf79dc1c2ab642e27789b48177fb47ceb04a24b31c81a"), looks := true }, kinds := [], alts := [], laidByText := true, laidKinds := [.data, .data, .data, .data, .sentinel, .sentinel, .data, .pinned], laidTests := true, laidLooks := .later }
def ValueUnaryUptoCardSaid : Prop := Claim7.holds Tryz.pinned (.plain (OpenSpec.upto valueUnarySpec)) valueUnaryUptoCard

/-- THE SECOND FORM's CARD OF 'trellislaw1.ValueBinary'. -/
def valueBinaryUptoCard : Claim7 := { stood := { row := valueBinaryUptoRow, standIns := [], harness := (true, "498f9e1a9fa2c44ded9cf79dc1c2ab642e27789b48177fb47ceb04a24b31c81a"), looks := true }, kinds := [], alts := [], laidByText := true, laidKinds := [.data, .data, .data, .data, .sentinel, .sentinel, .data, .pinned], laidTests := true, laidLooks := .later }
def ValueBinaryUptoCardSaid : Prop := Claim7.holds Tryz.pinned (.plain (OpenSpec.upto valueBinarySpec)) valueBinaryUptoCard

/-- THE SECOND FORM's CARD OF 'trellislaw1.ValueCompare'. -/
def valueCompareUptoCard : Claim7 := { stood := { row := valueCompareUptoRow, standIns := [], harness := (true, "498f9e1a9fa2c44ded9cf79dc1c2ab642e27789b48177fb47ceb04a24b31c81a"), looks := true }, kinds := [], alts := [], laidByText := true, laidKinds := [.data, .data, .data, .data, .sentinel, .sentinel, .data, .pinned], laidTests := true, laidLooks := .later }
def ValueCompareUptoCardSaid : Prop := Claim7.holds Tryz.pinned (.plain (OpenSpec.upto valueCompareSpec)) valueCompareUptoCard

/-- THE SECOND FORM's CARD OF 'trellislaw1.ValueFold'. -/
def valueFoldUptoCard : Claim7 := { stood := { row := valueFoldUptoRow, standIns := [], harness := (true, "498f9e1a9fa2c44ded9cf79dc1c2ab642e27789b48177fb47ceb04a24b31c81a"), looks := true }, kinds := [], alts := [], laidByText := true, laidKinds := [.data, .data, .data, .data, .sentinel, .sentinel, .data, .pinned], laidTests := true, laidLooks := .later }
def ValueFoldUptoCardSaid : Prop := Claim7.holds Tryz.pinned (.plain (OpenSpec.upto valueFoldSpec)) valueFoldUptoCard

/-- THE SECOND FORM's CARD OF 'trellislaw1.ValueTexts'. -/
def valueTextsUptoCard : Claim7 := { stood := { row := valueTextsUptoRow, standIns := [], harness := (true, "498f9e1a9fa2c44ded9cf79dc1c2ab642e27789b48177fb47ceb04a24b31c81a"), looks := true }, kinds := [], alts := [], laidByText := true, laidKinds := [.data, .data, .data, .data, .sentinel, .sentinel, .data, .pinned], laidTests := true, laidLooks := .later }
def ValueTextsUptoCardSaid : Prop := Claim7.holds Tryz.pinned (.plain (OpenSpec.upto valueTextsSpec)) valueTextsUptoCard

/-- THE SECOND FORM's CARD OF 'trellislaw1.ValueDecode'. -/
def valueDecodeUptoCard : Claim7 := { stood := { row := valueDecodeUptoRow, standIns := [], harness := (true, "498f9e1a9fa2c44ded9cf79dc1c2ab642e27789b48177fb47ceb04a24b31c81a"), looks := true }, kinds := [], alts := [], laidByText := true, laidKinds := [.data, .data, .data, .data, .sentinel, .sentinel, .data, .pinned], laidTests := true, laidLooks := .later }
def ValueDecodeUptoCardSaid : Prop := Claim7.holds Tryz.pinned (.plain (OpenSpec.upto valueDecodeSpec)) valueDecodeUptoCard

/-- THE SECOND FORM's CARD OF 'trellislaw1.ValueParts'. -/
def valuePartsUptoCard : Claim7 := { stood := { row := valuePartsUptoRow, standIns := [], harness := (true, "498f9e1a9fa2c44ded9cf79dc1c2ab642e27789b48177fb47ceb04a24b31c81a"), looks := true }, kinds := [], alts := [], laidByText := true, laidKinds := [.data, .data, .data, .data, .sentinel, .sentinel, .data, .pinned], laidTests := true, laidLooks := .later }
def ValuePartsUptoCardSaid : Prop := Claim7.holds Tryz.pinned (.plain (OpenSpec.upto valuePartsSpec)) valuePartsUptoCard

/-- THE SECOND FORM's CARD OF 'trellislaw1.ValueNames'. -/
def valueNamesUptoCard : Claim7 := { stood := { row := valueNamesUptoRow, standIns := [], harness := (true, "498f9e1a9fa2c44ded9cf79dc1c2ab642e27789b48177fb47ceb04a24b31c81a"), looks := true }, kinds := [], alts := [], laidByText := true, laidKinds := [.data, .data, .data, .data, .sentinel, .sentinel, .data, .pinned], laidTests := true, laidLooks := .later }
def ValueNamesUptoCardSaid : Prop := Claim7.holds Tryz.pinned (.plain (OpenSpec.upto valueNamesSpec)) valueNamesUptoCard

/-- THE SECOND FORM's CARD OF 'trellislaw1.ValueAll'. -/
def valueAllUptoCard : Claim7 := { stood := { row := valueAllUptoRow, standIns := [], harness := (true, "498f9e1a9fa2c44ded9cf79dc1c2ab642e27789b48177fb47ceb04a24b31c81a"), looks := true }, kinds := [], alts := [], laidByText := true, laidKinds := [.data, .data, .data, .data, .sentinel, .sentinel, .data, .pinned], laidTests := true, laidLooks := .later }
def ValueAllUptoCardSaid : Prop := Claim7.holds Tryz.pinned (.plain (OpenSpec.upto valueAllSpec)) valueAllUptoCard

/-- THE SECOND FORM's CARD OF 'trellislaw1.ValueBytes'. -/
def valueBytesUptoCard : Claim7 := { stood := { row := valueBytesUptoRow, standIns := [], harness := (true, "498f9e1a9fa2c44ded9cf79dc1c2ab642e27789b48177fb47ceb04a24b31c81a"), looks := true }, kinds := [], alts := [], laidByText := true, laidKinds := [.data, .data, .data, .data, .sentinel, .sentinel, .data, .pinned], laidTests := true, laidLooks := .later }
def ValueBytesUptoCardSaid : Prop := Claim7.holds Tryz.pinned (.plain (OpenSpec.upto valueBytesSpec)) valueBytesUptoCard
end Rows
end Go.Proofs.YtmbgjhmjmomnoaaGreatDoor
