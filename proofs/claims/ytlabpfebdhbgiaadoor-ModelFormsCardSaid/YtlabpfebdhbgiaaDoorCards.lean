/-
  DERIVED. GIVEN WITH THE SEED: THE CARDS: each row of YtlabpfebdhbgiaaDoorRows.lean that lists a variable, with what it lists TIED to the program's text (the seventh form; the later family's looks); each row that meets fmt, with fmt's text TOLD by the authors' own Lean function (tested against real Go, not proved from fmt's source: count such statements apart). THE CARD IS WHAT COUNTS. Prove the row's statement (the work); the ties are given (YtlabpfebdhbgiaaDoorTie.lean); close each card by the builder's one call (the guide's Derived/Test/ToyasCard.lean, 'card_holds'). Laid BY PROGRAM, IN A SANDBOX (cutbox-door.mjs). By AI agents, Wed Nov 11 2026. No macro, syntax, notation, axiom, sorry.
-/
import Derived.Test.YtlabpfebdhbgiaaDoorRows
import GoSem.ClaimSeven
namespace Go.Proofs.YtlabpfebdhbgiaaDoor
namespace Rows

/-- THE TIED CARD OF 'descantlaw6.Stretches'. -/
def stretchesCard : Claim7 := { stood := { row := stretchesRow, standIns := [], harness := (true, "374dc5cfcae46b2f914e90a0addf3266ad2bbb2f0c6bade7c435d9883f08acf4"), looks := false }, kinds := [], alts := [], laidByText := true, laidKinds := [.data], laidTests := true, laidLooks := .later }
def StretchesCardSaid : Prop := Claim7.holds Tryd.pinned (.plain (OpenSpec.ofChange stretchesSpec)) stretchesCard

/-- THE TIED CARD OF 'descantlaw6.StretchRises'. -/
def stretchRisesCard : Claim7 := { stood := { row := stretchRisesRow, standIns := [], harness := (true, "374dc5cfcae46b2f914e90a0addf3266ad2bbb2f0c6bade7c435d9883f08acf4"), looks := false }, kinds := [], alts := [], laidByText := true, laidKinds := [.data], laidTests := true, laidLooks := .later }
def StretchRisesCardSaid : Prop := Claim7.holds Tryd.pinned (.plain (OpenSpec.ofChange stretchRisesSpec)) stretchRisesCard

/-- THE TIED CARD OF 'descantlaw6.StretchForms'. -/
def stretchFormsCard : Claim7 := { stood := { row := stretchFormsRow, standIns := [], harness := (true, "374dc5cfcae46b2f914e90a0addf3266ad2bbb2f0c6bade7c435d9883f08acf4"), looks := false }, kinds := [], alts := [], laidByText := true, laidKinds := [.data], laidTests := true, laidLooks := .later }
def StretchFormsCardSaid : Prop := Claim7.holds Tryd.pinned (.plain (OpenSpec.ofChange stretchFormsSpec)) stretchFormsCard

/-- THE TIED CARD OF 'descantlaw6.StretchBack'. -/
def stretchBackCard : Claim7 := { stood := { row := stretchBackRow, standIns := [], harness := (true, "374dc5cfcae46b2f914e90a0addf3266ad2bbb2f0c6bade7c435d9883f08acf4"), looks := false }, kinds := [], alts := [], laidByText := true, laidKinds := [.data], laidTests := true, laidLooks := .later }
def StretchBackCardSaid : Prop := Claim7.holds Tryd.pinned (.plain (OpenSpec.ofChange stretchBackSpec)) stretchBackCard

/-- THE TIED CARD OF 'descantlaw6.StretchKnots'. -/
def stretchKnotsCard : Claim7 := { stood := { row := stretchKnotsRow, standIns := [], harness := (true, "374dc5cfcae46b2f914e90a0addf3266ad2bbb2f0c6bade7c435d9883f08acf4"), looks := false }, kinds := [], alts := [], laidByText := true, laidKinds := [.data], laidTests := true, laidLooks := .later }
def StretchKnotsCardSaid : Prop := Claim7.holds Tryd.pinned (.plain (OpenSpec.ofChange stretchKnotsSpec)) stretchKnotsCard

/-- THE TIED CARD OF 'descantlaw6.StretchMirror'. -/
def stretchMirrorCard : Claim7 := { stood := { row := stretchMirrorRow, standIns := [], harness := (true, "374dc5cfcae46b2f914e90a0addf3266ad2bbb2f0c6bade7c435d9883f08acf4"), looks := false }, kinds := [], alts := [], laidByText := true, laidKinds := [.data], laidTests := true, laidLooks := .later }
def StretchMirrorCardSaid : Prop := Claim7.holds Tryd.pinned (.plain (OpenSpec.ofChange stretchMirrorSpec)) stretchMirrorCard

/-- THE TIED CARD OF 'descantlaw8.Mixes'. -/
def mixesCard : Claim7 := { stood := { row := mixesRow, standIns := [], harness := (true, "374dc5cfcae46b2f914e90a0addf3266ad2bbb2f0c6bade7c435d9883f08acf4"), looks := false }, kinds := [], alts := [], laidByText := true, laidKinds := [.data], laidTests := true, laidLooks := .later }
def MixesCardSaid : Prop := Claim7.holds Tryd.pinned (.plain (OpenSpec.ofChange mixesSpec)) mixesCard

/-- THE TIED CARD OF 'descantlaw8.MixForms'. -/
def mixFormsCard : Claim7 := { stood := { row := mixFormsRow, standIns := [], harness := (true, "374dc5cfcae46b2f914e90a0addf3266ad2bbb2f0c6bade7c435d9883f08acf4"), looks := false }, kinds := [], alts := [], laidByText := true, laidKinds := [.data], laidTests := true, laidLooks := .later }
def MixFormsCardSaid : Prop := Claim7.holds Tryd.pinned (.plain (OpenSpec.ofChange mixFormsSpec)) mixFormsCard

/-- THE TIED CARD OF 'descantlaw8.MixTrains'. -/
def mixTrainsCard : Claim7 := { stood := { row := mixTrainsRow, standIns := [], harness := (true, "374dc5cfcae46b2f914e90a0addf3266ad2bbb2f0c6bade7c435d9883f08acf4"), looks := false }, kinds := [], alts := [], laidByText := true, laidKinds := [.data], laidTests := true, laidLooks := .later }
def MixTrainsCardSaid : Prop := Claim7.holds Tryd.pinned (.plain (OpenSpec.ofChange mixTrainsSpec)) mixTrainsCard

/-- THE TIED CARD OF 'descantlaw8.MixMore'. -/
def mixMoreCard : Claim7 := { stood := { row := mixMoreRow, standIns := [], harness := (true, "374dc5cfcae46b2f914e90a0addf3266ad2bbb2f0c6bade7c435d9883f08acf4"), looks := false }, kinds := [], alts := [], laidByText := true, laidKinds := [.data], laidTests := true, laidLooks := .later }
def MixMoreCardSaid : Prop := Claim7.holds Tryd.pinned (.plain (OpenSpec.ofChange mixMoreSpec)) mixMoreCard

/-- THE TIED CARD OF 'descantlaw8.MixRow'. -/
def mixRowCard : Claim7 := { stood := { row := mixRowRow, standIns := [], harness := (true, "374dc5cfcae46b2f914e90a0addf3266ad2bbb2f0c6bade7c435d9883f08acf4"), looks := false }, kinds := [], alts := [], laidByText := true, laidKinds := [.data], laidTests := true, laidLooks := .later }
def MixRowCardSaid : Prop := Claim7.holds Tryd.pinned (.plain (OpenSpec.ofChange mixRowSpec)) mixRowCard

/-- THE TIED CARD OF 'descantlaw8.MixNearer'. -/
def mixNearerCard : Claim7 := { stood := { row := mixNearerRow, standIns := [], harness := (true, "374dc5cfcae46b2f914e90a0addf3266ad2bbb2f0c6bade7c435d9883f08acf4"), looks := false }, kinds := [], alts := [], laidByText := true, laidKinds := [.data], laidTests := true, laidLooks := .later }
def MixNearerCardSaid : Prop := Claim7.holds Tryd.pinned (.plain (OpenSpec.ofChange mixNearerSpec)) mixNearerCard

/-- THE TIED CARD OF 'descantlaw9.Models'. -/
def modelsCard : Claim7 := { stood := { row := modelsRow, standIns := [], harness := (true, "374dc5cfcae46b2f914e90a0addf3266ad2bbb2f0c6bade7c435d9883f08acf4"), looks := false }, kinds := [], alts := [], laidByText := true, laidKinds := [.data], laidTests := true, laidLooks := .later }
def ModelsCardSaid : Prop := Claim7.holds Tryd.pinned (.plain (OpenSpec.ofChange modelsSpec)) modelsCard

/-- THE TIED CARD OF 'descantlaw9.ModelForms'. -/
def modelFormsCard : Claim7 := { stood := { row := modelFormsRow, standIns := [], harness := (true, "374dc5cfcae46b2f914e90a0addf3266ad2bbb2f0c6bade7c435d9883f08acf4"), looks := false }, kinds := [], alts := [], laidByText := true, laidKinds := [.data], laidTests := true, laidLooks := .later }
def ModelFormsCardSaid : Prop := Claim7.holds Tryd.pinned (.plain (OpenSpec.ofChange modelFormsSpec)) modelFormsCard

/-- THE TIED CARD OF 'descantlaw9.ModelOwn'. -/
def modelOwnCard : Claim7 := { stood := { row := modelOwnRow, standIns := [], harness := (true, "374dc5cfcae46b2f914e90a0addf3266ad2bbb2f0c6bade7c435d9883f08acf4"), looks := false }, kinds := [], alts := [], laidByText := true, laidKinds := [.data], laidTests := true, laidLooks := .later }
def ModelOwnCardSaid : Prop := Claim7.holds Tryd.pinned (.plain (OpenSpec.ofChange modelOwnSpec)) modelOwnCard

/-- THE TIED CARD OF 'descantlaw9.ModelLearns'. -/
def modelLearnsCard : Claim7 := { stood := { row := modelLearnsRow, standIns := [], harness := (true, "374dc5cfcae46b2f914e90a0addf3266ad2bbb2f0c6bade7c435d9883f08acf4"), looks := false }, kinds := [], alts := [], laidByText := true, laidKinds := [.data], laidTests := true, laidLooks := .later }
def ModelLearnsCardSaid : Prop := Claim7.holds Tryd.pinned (.plain (OpenSpec.ofChange modelLearnsSpec)) modelLearnsCard

/-- THE TIED CARD OF 'descantlaw9.ModelEven'. -/
def modelEvenCard : Claim7 := { stood := { row := modelEvenRow, standIns := [], harness := (true, "374dc5cfcae46b2f914e90a0addf3266ad2bbb2f0c6bade7c435d9883f08acf4"), looks := false }, kinds := [], alts := [], laidByText := true, laidKinds := [.data], laidTests := true, laidLooks := .later }
def ModelEvenCardSaid : Prop := Claim7.holds Tryd.pinned (.plain (OpenSpec.ofChange modelEvenSpec)) modelEvenCard

/-- THE SECOND FORM's CARD OF 'descantlaw6.Stretches'. -/
def stretchesUptoCard : Claim7 := { stood := { row := stretchesUptoRow, standIns := [], harness := (true, "374dc5cfcae46b2f914e90a0addf3266ad2bbb2f0c6bade7c435d9883f08acf4"), looks := false }, kinds := [], alts := [], laidByText := true, laidKinds := [.data], laidTests := true, laidLooks := .later }
def StretchesUptoCardSaid : Prop := Claim7.holds Tryd.pinned (.plain (OpenSpec.upto stretchesSpec)) stretchesUptoCard

/-- THE SECOND FORM's CARD OF 'descantlaw6.StretchRises'. -/
def stretchRisesUptoCard : Claim7 := { stood := { row := stretchRisesUptoRow, standIns := [], harness := (true, "374dc5cfcae46b2f914e90a0addf3266ad2bbb2f0c6bade7c435d9883f08acf4"), looks := false }, kinds := [], alts := [], laidByText := true, laidKinds := [.data], laidTests := true, laidLooks := .later }
def StretchRisesUptoCardSaid : Prop := Claim7.holds Tryd.pinned (.plain (OpenSpec.upto stretchRisesSpec)) stretchRisesUptoCard

/-- THE SECOND FORM's CARD OF 'descantlaw6.StretchForms'. -/
def stretchFormsUptoCard : Claim7 := { stood := { row := stretchFormsUptoRow, standIns := [], harness := (true, "374dc5cfcae46b2f914e90a0addf3266ad2bbb2f0c6bade7c435d9883f08acf4"), looks := false }, kinds := [], alts := [], laidByText := true, laidKinds := [.data], laidTests := true, laidLooks := .later }
def StretchFormsUptoCardSaid : Prop := Claim7.holds Tryd.pinned (.plain (OpenSpec.upto stretchFormsSpec)) stretchFormsUptoCard

/-- THE SECOND FORM's CARD OF 'descantlaw6.StretchBack'. -/
def stretchBackUptoCard : Claim7 := { stood := { row := stretchBackUptoRow, standIns := [], harness := (true, "374dc5cfcae46b2f914e90a0addf3266ad2bbb2f0c6bade7c435d9883f08acf4"), looks := false }, kinds := [], alts := [], laidByText := true, laidKinds := [.data], laidTests := true, laidLooks := .later }
def StretchBackUptoCardSaid : Prop := Claim7.holds Tryd.pinned (.plain (OpenSpec.upto stretchBackSpec)) stretchBackUptoCard

/-- THE SECOND FORM's CARD OF 'descantlaw6.StretchKnots'. -/
def stretchKnotsUptoCard : Claim7 := { stood := { row := stretchKnotsUptoRow, standIns := [], harness := (true, "374dc5cfcae46b2f914e90a0addf3266ad2bbb2f0c6bade7c435d9883f08acf4"), looks := false }, kinds := [], alts := [], laidByText := true, laidKinds := [.data], laidTests := true, laidLooks := .later }
def StretchKnotsUptoCardSaid : Prop := Claim7.holds Tryd.pinned (.plain (OpenSpec.upto stretchKnotsSpec)) stretchKnotsUptoCard

/-- THE SECOND FORM's CARD OF 'descantlaw6.StretchMirror'. -/
def stretchMirrorUptoCard : Claim7 := { stood := { row := stretchMirrorUptoRow, standIns := [], harness := (true, "374dc5cfcae46b2f914e90a0addf3266ad2bbb2f0c6bade7c435d9883f08acf4"), looks := false }, kinds := [], alts := [], laidByText := true, laidKinds := [.data], laidTests := true, laidLooks := .later }
def StretchMirrorUptoCardSaid : Prop := Claim7.holds Tryd.pinned (.plain (OpenSpec.upto stretchMirrorSpec)) stretchMirrorUptoCard

/-- THE SECOND FORM's CARD OF 'descantlaw8.Mixes'. -/
def mixesUptoCard : Claim7 := { stood := { row := mixesUptoRow, standIns := [], harness := (true, "374dc5cfcae46b2f914e90a0addf3266ad2bbb2f0c6bade7c435d9883f08acf4"), looks := false }, kinds := [], alts := [], laidByText := true, laidKinds := [.data], laidTests := true, laidLooks := .later }
def MixesUptoCardSaid : Prop := Claim7.holds Tryd.pinned (.plain (OpenSpec.upto mixesSpec)) mixesUptoCard

/-- THE SECOND FORM's CARD OF 'descantlaw8.MixForms'. -/
def mixFormsUptoCard : Claim7 := { stood := { row := mixFormsUptoRow, standIns := [], harness := (true, "374dc5cfcae46b2f914e90a0addf3266ad2bbb2f0c6bade7c435d9883f08acf4"), looks := false }, kinds := [], alts := [], laidByText := true, laidKinds := [.data], laidTests := true, laidLooks := .later }
def MixFormsUptoCardSaid : Prop := Claim7.holds Tryd.pinned (.plain (OpenSpec.upto mixFormsSpec)) mixFormsUptoCard

/-- THE SECOND FORM's CARD OF 'descantlaw8.MixTrains'. -/
def mixTrainsUptoCard : Claim7 := { stood := { row := mixTrainsUptoRow, standIns := [], harness := (true, "374dc5cfcae46b2f914e90a0addf3266ad2bbb2f0c6bade7c435d9883f08acf4"), looks := false }, kinds := [], alts := [], laidByText := true, laidKinds := [.data], laidTests := true, laidLooks := .later }
def MixTrainsUptoCardSaid : Prop := Claim7.holds Tryd.pinned (.plain (OpenSpec.upto mixTrainsSpec)) mixTrainsUptoCard

/-- THE SECOND FORM's CARD OF 'descantlaw8.MixMore'. -/
def mixMoreUptoCard : Claim7 := { stood := { row := mixMoreUptoRow, standIns := [], harness := (true, "374dc5cfcae46b2f914e90a0addf3266ad2bbb2f0c6bade7c435d9883f08acf4"), looks := false }, kinds := [], alts := [], laidByText := true, laidKinds := [.data], laidTests := true, laidLooks := .later }
def MixMoreUptoCardSaid : Prop := Claim7.holds Tryd.pinned (.plain (OpenSpec.upto mixMoreSpec)) mixMoreUptoCard

/-- THE SECOND FORM's CARD OF 'descantlaw8.MixRow'. -/
def mixRowUptoCard : Claim7 := { stood := { row := mixRowUptoRow, standIns := [], harness := (true, "374dc5cfcae46b2f914e90a0addf3266ad2bbb2f0c6bade7c435d9883f08acf4"), looks := false }, kinds := [], alts := [], laidByText := true, laidKinds := [.data], laidTests := true, laidLooks := .later }
def MixRowUptoCardSaid : Prop := Claim7.holds Tryd.pinned (.plain (OpenSpec.upto mixRowSpec)) mixRowUptoCard

/-- THE SECOND FORM's CARD OF 'descantlaw8.MixNearer'. -/
def mixNearerUptoCard : Claim7 := { stood := { row := mixNearerUptoRow, standIns := [], harness := (true, "374dc5cfcae46b2f914e90a0addf3266ad2bbb2f0c6bade7c435d9883f08acf4"), looks := false }, kinds := [], alts := [], laidByText := true, laidKinds := [.data], laidTests := true, laidLooks := .later }
def MixNearerUptoCardSaid : Prop := Claim7.holds Tryd.pinned (.plain (OpenSpec.upto mixNearerSpec)) mixNearerUptoCard

/-- THE SECOND FORM's CARD OF 'descantlaw9.Models'. -/
def modelsUptoCard : Claim7 := { stood := { row := modelsUptoRow, standIns := [], harness := (true, "374dc5cfcae46b2f914e90a0addf3266ad2bbb2f0c6bade7c435d9883f08acf4"), looks := false }, kinds := [], alts := [], laidByText := true, laidKinds := [.data], laidTests := true, laidLooks := .later }
def ModelsUptoCardSaid : Prop := Claim7.holds Tryd.pinned (.plain (OpenSpec.upto modelsSpec)) modelsUptoCard

/-- THE SECOND FORM's CARD OF 'descantlaw9.ModelForms'. -/
def modelFormsUptoCard : Claim7 := { stood := { row := modelFormsUptoRow, standIns := [], harness := (true, "374dc5cfcae46b2f914e90a0addf3266ad2bbb2f0c6bade7c435d9883f08acf4"), looks := false }, kinds := [], alts := [], laidByText := true, laidKinds := [.data], laidTests := true, laidLooks := .later }
def ModelFormsUptoCardSaid : Prop := Claim7.holds Tryd.pinned (.plain (OpenSpec.upto modelFormsSpec)) modelFormsUptoCard

/-- THE SECOND FORM's CARD OF 'descantlaw9.ModelOwn'. -/
def modelOwnUptoCard : Claim7 := { stood := { row := modelOwnUptoRow, standIns := [], harness := (true, "374dc5cfcae46b2f914e90a0addf3266ad2bbb2f0c6bade7c435d9883f08acf4"), looks := false }, kinds := [], alts := [], laidByText := true, laidKinds := [.data], laidTests := true, laidLooks := .later }
def ModelOwnUptoCardSaid : Prop := Claim7.holds Tryd.pinned (.plain (OpenSpec.upto modelOwnSpec)) modelOwnUptoCard

/-- THE SECOND FORM's CARD OF 'descantlaw9.ModelLearns'. -/
def modelLearnsUptoCard : Claim7 := { stood := { row := modelLearnsUptoRow, standIns := [], harness := (true, "374dc5cfcae46b2f914e90a0addf3266ad2bbb2f0c6bade7c435d9883f08acf4"), looks := false }, kinds := [], alts := [], laidByText := true, laidKinds := [.data], laidTests := true, laidLooks := .later }
def ModelLearnsUptoCardSaid : Prop := Claim7.holds Tryd.pinned (.plain (OpenSpec.upto modelLearnsSpec)) modelLearnsUptoCard

/-- THE SECOND FORM's CARD OF 'descantlaw9.ModelEven'. -/
def modelEvenUptoCard : Claim7 := { stood := { row := modelEvenUptoRow, standIns := [], harness := (true, "374dc5cfcae46b2f914e90a0addf3266ad2bbb2f0c6bade7c435d9883f08acf4"), looks := false }, kinds := [], alts := [], laidByText := true, laidKinds := [.data], laidTests := true, laidLooks := .later }
def ModelEvenUptoCardSaid : Prop := Claim7.holds Tryd.pinned (.plain (OpenSpec.upto modelEvenSpec)) modelEvenUptoCard
end Rows
end Go.Proofs.YtlabpfebdhbgiaaDoor
