/-
  DERIVED. GIVEN WITH THE SEED: THE CARDS: each row of YtiokfaiioealdaaGreatDoorRows.lean that lists a variable, with what it lists TIED to the program's text (the seventh form; the later family's looks); each row that meets fmt, with fmt's text TOLD by the authors' own Lean function (tested against real Go, not proved from fmt's source: count such statements apart). THE CARD IS WHAT COUNTS. Prove the row's statement (the work); the ties are given (YtiokfaiioealdaaGreatDoorTie.lean); close each card by the builder's one call (the guide's Derived/Test/ToyasCard.lean, 'card_holds'). Laid BY PROGRAM, IN A SANDBOX (cutbox-door.mjs). By AI agents, Wed Nov 11 2026. No macro, syntax, notation, axiom, sorry.
-/
import Derived.Test.YtiokfaiioealdaaGreatDoorRows
import GoSem.ClaimSeven
namespace Go.Proofs.YtiokfaiioealdaaGreatDoor
namespace Rows

/-- THE TIED CARD OF 'descantlaw13.Residuals'. -/
def residualsCard : Claim7 := { stood := { row := residualsRow, standIns := [], harness := (true, "390a089fdcdcd9b978fd1c5194f5a7c0e4d1b1be63bb27375690d2faadf7d5a8"), looks := false }, kinds := [], alts := [], laidByText := true, laidKinds := [.data], laidTests := true, laidLooks := .later }
def ResidualsCardSaid : Prop := Claim7.holds Tryz.pinned (.plain (OpenSpec.ofChange residualsSpec)) residualsCard

/-- THE TIED CARD OF 'descantlaw22.Segments'. -/
def segmentsCard : Claim7 := { stood := { row := segmentsRow, standIns := [], harness := (true, "390a089fdcdcd9b978fd1c5194f5a7c0e4d1b1be63bb27375690d2faadf7d5a8"), looks := false }, kinds := [], alts := [], laidByText := true, laidKinds := [.data, .data, .data], laidTests := true, laidLooks := .later }
def SegmentsCardSaid : Prop := Claim7.holds Tryz.pinned (.plain (OpenSpec.ofChange segmentsSpec)) segmentsCard

/-- THE TIED CARD OF 'descantlaw22.SegmentBurst'. -/
def segmentBurstCard : Claim7 := { stood := { row := segmentBurstRow, standIns := [], harness := (true, "390a089fdcdcd9b978fd1c5194f5a7c0e4d1b1be63bb27375690d2faadf7d5a8"), looks := false }, kinds := [], alts := [], laidByText := true, laidKinds := [.data, .data, .data], laidTests := true, laidLooks := .later }
def SegmentBurstCardSaid : Prop := Claim7.holds Tryz.pinned (.plain (OpenSpec.ofChange segmentBurstSpec)) segmentBurstCard

/-- THE TIED CARD OF 'descantlaw22.SegmentForms'. -/
def segmentFormsCard : Claim7 := { stood := { row := segmentFormsRow, standIns := [], harness := (true, "390a089fdcdcd9b978fd1c5194f5a7c0e4d1b1be63bb27375690d2faadf7d5a8"), looks := false }, kinds := [], alts := [], laidByText := true, laidKinds := [.data, .data, .data], laidTests := true, laidLooks := .later }
def SegmentFormsCardSaid : Prop := Claim7.holds Tryz.pinned (.plain (OpenSpec.ofChange segmentFormsSpec)) segmentFormsCard

/-- THE TIED CARD OF 'descantlaw22.SegmentBounds'. -/
def segmentBoundsCard : Claim7 := { stood := { row := segmentBoundsRow, standIns := [], harness := (true, "390a089fdcdcd9b978fd1c5194f5a7c0e4d1b1be63bb27375690d2faadf7d5a8"), looks := false }, kinds := [], alts := [], laidByText := true, laidKinds := [.data, .data, .data], laidTests := true, laidLooks := .later }
def SegmentBoundsCardSaid : Prop := Claim7.holds Tryz.pinned (.plain (OpenSpec.ofChange segmentBoundsSpec)) segmentBoundsCard

/-- THE TIED CARD OF 'descantlaw22.SegmentKinds'. -/
def segmentKindsCard : Claim7 := { stood := { row := segmentKindsRow, standIns := [], harness := (true, "390a089fdcdcd9b978fd1c5194f5a7c0e4d1b1be63bb27375690d2faadf7d5a8"), looks := false }, kinds := [], alts := [], laidByText := true, laidKinds := [.data, .data, .data], laidTests := true, laidLooks := .later }
def SegmentKindsCardSaid : Prop := Claim7.holds Tryz.pinned (.plain (OpenSpec.ofChange segmentKindsSpec)) segmentKindsCard

/-- THE TIED CARD OF 'descantlaw22.SegmentWaste'. -/
def segmentWasteCard : Claim7 := { stood := { row := segmentWasteRow, standIns := [], harness := (true, "390a089fdcdcd9b978fd1c5194f5a7c0e4d1b1be63bb27375690d2faadf7d5a8"), looks := false }, kinds := [], alts := [], laidByText := true, laidKinds := [.data, .data, .data], laidTests := true, laidLooks := .later }
def SegmentWasteCardSaid : Prop := Claim7.holds Tryz.pinned (.plain (OpenSpec.ofChange segmentWasteSpec)) segmentWasteCard

/-- THE TIED CARD OF 'descantlaw22.SegmentUnlike'. -/
def segmentUnlikeCard : Claim7 := { stood := { row := segmentUnlikeRow, standIns := [], harness := (true, "390a089fdcdcd9b978fd1c5194f5a7c0e4d1b1be63bb27375690d2faadf7d5a8"), looks := false }, kinds := [], alts := [], laidByText := true, laidKinds := [.data, .data, .data], laidTests := true, laidLooks := .later }
def SegmentUnlikeCardSaid : Prop := Claim7.holds Tryz.pinned (.plain (OpenSpec.ofChange segmentUnlikeSpec)) segmentUnlikeCard

/-- THE TIED CARD OF 'descantlaw22.SegmentOther'. -/
def segmentOtherCard : Claim7 := { stood := { row := segmentOtherRow, standIns := [], harness := (true, "390a089fdcdcd9b978fd1c5194f5a7c0e4d1b1be63bb27375690d2faadf7d5a8"), looks := false }, kinds := [], alts := [], laidByText := true, laidKinds := [.data, .data, .data], laidTests := true, laidLooks := .later }
def SegmentOtherCardSaid : Prop := Claim7.holds Tryz.pinned (.plain (OpenSpec.ofChange segmentOtherSpec)) segmentOtherCard

/-- THE TIED CARD OF 'descantlaw22.SegmentOne'. -/
def segmentOneCard : Claim7 := { stood := { row := segmentOneRow, standIns := [], harness := (true, "390a089fdcdcd9b978fd1c5194f5a7c0e4d1b1be63bb27375690d2faadf7d5a8"), looks := false }, kinds := [], alts := [], laidByText := true, laidKinds := [.data, .data, .data], laidTests := true, laidLooks := .later }
def SegmentOneCardSaid : Prop := Claim7.holds Tryz.pinned (.plain (OpenSpec.ofChange segmentOneSpec)) segmentOneCard

/-- THE SECOND FORM's CARD OF 'descantlaw13.Residuals'. -/
def residualsUptoCard : Claim7 := { stood := { row := residualsUptoRow, standIns := [], harness := (true, "390a089fdcdcd9b978fd1c5194f5a7c0e4d1b1be63bb27375690d2faadf7d5a8"), looks := false }, kinds := [], alts := [], laidByText := true, laidKinds := [.data], laidTests := true, laidLooks := .later }
def ResidualsUptoCardSaid : Prop := Claim7.holds Tryz.pinned (.plain (OpenSpec.upto residualsSpec)) residualsUptoCard

/-- THE SECOND FORM's CARD OF 'descantlaw22.Segments'. -/
def segmentsUptoCard : Claim7 := { stood := { row := segmentsUptoRow, standIns := [], harness := (true, "390a089fdcdcd9b978fd1c5194f5a7c0e4d1b1be63bb27375690d2faadf7d5a8"), looks := false }, kinds := [], alts := [], laidByText := true, laidKinds := [.data, .data, .data], laidTests := true, laidLooks := .later }
def SegmentsUptoCardSaid : Prop := Claim7.holds Tryz.pinned (.plain (OpenSpec.upto segmentsSpec)) segmentsUptoCard

/-- THE SECOND FORM's CARD OF 'descantlaw22.SegmentBurst'. -/
def segmentBurstUptoCard : Claim7 := { stood := { row := segmentBurstUptoRow, standIns := [], harness := (true, "390a089fdcdcd9b978fd1c5194f5a7c0e4d1b1be63bb27375690d2faadf7d5a8"), looks := false }, kinds := [], alts := [], laidByText := true, laidKinds := [.data, .data, .data], laidTests := true, laidLooks := .later }
def SegmentBurstUptoCardSaid : Prop := Claim7.holds Tryz.pinned (.plain (OpenSpec.upto segmentBurstSpec)) segmentBurstUptoCard

/-- THE SECOND FORM's CARD OF 'descantlaw22.SegmentForms'. -/
def segmentFormsUptoCard : Claim7 := { stood := { row := segmentFormsUptoRow, standIns := [], harness := (true, "390a089fdcdcd9b978fd1c5194f5a7c0e4d1b1be63bb27375690d2faadf7d5a8"), looks := false }, kinds := [], alts := [], laidByText := true, laidKinds := [.data, .data, .data], laidTests := true, laidLooks := .later }
def SegmentFormsUptoCardSaid : Prop := Claim7.holds Tryz.pinned (.plain (OpenSpec.upto segmentFormsSpec)) segmentFormsUptoCard

/-- THE SECOND FORM's CARD OF 'descantlaw22.SegmentBounds'. -/
def segmentBoundsUptoCard : Claim7 := { stood := { row := segmentBoundsUptoRow, standIns := [], harness := (true, "390a089fdcdcd9b978fd1c5194f5a7c0e4d1b1be63bb27375690d2faadf7d5a8"), looks := false }, kinds := [], alts := [], laidByText := true, laidKinds := [.data, .data, .data], laidTests := true, laidLooks := .later }
def SegmentBoundsUptoCardSaid : Prop := Claim7.holds Tryz.pinned (.plain (OpenSpec.upto segmentBoundsSpec)) segmentBoundsUptoCard

/-- THE SECOND FORM's CARD OF 'descantlaw22.SegmentKinds'. -/
def segmentKindsUptoCard : Claim7 := { stood := { row := segmentKindsUptoRow, standIns := [], harness := (true, "390a089fdcdcd9b978fd1c5194f5a7c0e4d1b1be63bb27375690d2faadf7d5a8"), looks := false }, kinds := [], alts := [], laidByText := true, laidKinds := [.data, .data, .data], laidTests := true, laidLooks := .later }
def SegmentKindsUptoCardSaid : Prop := Claim7.holds Tryz.pinned (.plain (OpenSpec.upto segmentKindsSpec)) segmentKindsUptoCard

/-- THE SECOND FORM's CARD OF 'descantlaw22.SegmentWaste'. -/
def segmentWasteUptoCard : Claim7 := { stood := { row := segmentWasteUptoRow, standIns := [], harness := (true, "390a089fdcdcd9b978fd1c5194f5a7c0e4d1b1be63bb27375690d2faadf7d5a8"), looks := false }, kinds := [], alts := [], laidByText := true, laidKinds := [.data, .data, .data], laidTests := true, laidLooks := .later }
def SegmentWasteUptoCardSaid : Prop := Claim7.holds Tryz.pinned (.plain (OpenSpec.upto segmentWasteSpec)) segmentWasteUptoCard

/-- THE SECOND FORM's CARD OF 'descantlaw22.SegmentUnlike'. -/
def segmentUnlikeUptoCard : Claim7 := { stood := { row := segmentUnlikeUptoRow, standIns := [], harness := (true, "390a089fdcdcd9b978fd1c5194f5a7c0e4d1b1be63bb27375690d2faadf7d5a8"), looks := false }, kinds := [], alts := [], laidByText := true, laidKinds := [.data, .data, .data], laidTests := true, laidLooks := .later }
def SegmentUnlikeUptoCardSaid : Prop := Claim7.holds Tryz.pinned (.plain (OpenSpec.upto segmentUnlikeSpec)) segmentUnlikeUptoCard

/-- THE SECOND FORM's CARD OF 'descantlaw22.SegmentOther'. -/
def segmentOtherUptoCard : Claim7 := { stood := { row := segmentOtherUptoRow, standIns := [], harness := (true, "390a089fdcdcd9b978fd1c5194f5a7c0e4d1b1be63bb27375690d2faadf7d5a8"), looks := false }, kinds := [], alts := [], laidByText := true, laidKinds := [.data, .data, .data], laidTests := true, laidLooks := .later }
def SegmentOtherUptoCardSaid : Prop := Claim7.holds Tryz.pinned (.plain (OpenSpec.upto segmentOtherSpec)) segmentOtherUptoCard

/-- THE SECOND FORM's CARD OF 'descantlaw22.SegmentOne'. -/
def segmentOneUptoCard : Claim7 := { stood := { row := segmentOneUptoRow, standIns := [], harness := (true, "390a089fdcdcd9b978fd1c5194f5a7c0e4d1b1be63bb27375690d2faadf7d5a8"), looks := false }, kinds := [], alts := [], laidByText := true, laidKinds := [.data, .data, .data], laidTests := true, laidLooks := .later }
def SegmentOneUptoCardSaid : Prop := Claim7.holds Tryz.pinned (.plain (OpenSpec.upto segmentOneSpec)) segmentOneUptoCard
end Rows
end Go.Proofs.YtiokfaiioealdaaGreatDoor
