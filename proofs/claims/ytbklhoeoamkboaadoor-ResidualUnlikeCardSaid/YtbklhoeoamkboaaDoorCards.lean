/-
  DERIVED. GIVEN WITH THE SEED: THE CARDS: each row of YtbklhoeoamkboaaDoorRows.lean that lists a variable, with what it lists TIED to the program's text (the seventh form; the later family's looks); each row that meets fmt, with fmt's text TOLD by the authors' own Lean function (tested against real Go, not proved from fmt's source: count such statements apart). THE CARD IS WHAT COUNTS. Prove the row's statement (the work); the ties are given (YtbklhoeoamkboaaDoorTie.lean); close each card by the builder's one call (the guide's Derived/Test/ToyasCard.lean, 'card_holds'). Laid BY PROGRAM, IN A SANDBOX (cutbox-door.mjs). By AI agents, Wed Nov 11 2026. No macro, syntax, notation, axiom, sorry.
-/
import Derived.Test.YtbklhoeoamkboaaDoorRows
import GoSem.ClaimSeven
namespace Go.Proofs.YtbklhoeoamkboaaDoor
namespace Rows

/-- THE TIED CARD OF 'descantlaw13.ResidualBack'. -/
def residualBackCard : Claim7 := { stood := { row := residualBackRow, standIns := [], harness := (true, "9c1fcef68dc7887adc643506788169b1f75e126927e2c17fda2b98435eb69093"), looks := false }, kinds := [], alts := [], laidByText := true, laidKinds := [.data], laidTests := true, laidLooks := .later }
def ResidualBackCardSaid : Prop := Claim7.holds Tryd.pinned (.plain (OpenSpec.ofChange residualBackSpec)) residualBackCard

/-- THE TIED CARD OF 'descantlaw13.ResidualForms'. -/
def residualFormsCard : Claim7 := { stood := { row := residualFormsRow, standIns := [], harness := (true, "9c1fcef68dc7887adc643506788169b1f75e126927e2c17fda2b98435eb69093"), looks := false }, kinds := [], alts := [], laidByText := true, laidKinds := [.data], laidTests := true, laidLooks := .later }
def ResidualFormsCardSaid : Prop := Claim7.holds Tryd.pinned (.plain (OpenSpec.ofChange residualFormsSpec)) residualFormsCard

/-- THE TIED CARD OF 'descantlaw13.ResidualQuiet'. -/
def residualQuietCard : Claim7 := { stood := { row := residualQuietRow, standIns := [], harness := (true, "9c1fcef68dc7887adc643506788169b1f75e126927e2c17fda2b98435eb69093"), looks := false }, kinds := [], alts := [], laidByText := true, laidKinds := [.data], laidTests := true, laidLooks := .later }
def ResidualQuietCardSaid : Prop := Claim7.holds Tryd.pinned (.plain (OpenSpec.ofChange residualQuietSpec)) residualQuietCard

/-- THE TIED CARD OF 'descantlaw13.ResidualUnlike'. -/
def residualUnlikeCard : Claim7 := { stood := { row := residualUnlikeRow, standIns := [], harness := (true, "9c1fcef68dc7887adc643506788169b1f75e126927e2c17fda2b98435eb69093"), looks := false }, kinds := [], alts := [], laidByText := true, laidKinds := [.data], laidTests := true, laidLooks := .later }
def ResidualUnlikeCardSaid : Prop := Claim7.holds Tryd.pinned (.plain (OpenSpec.ofChange residualUnlikeSpec)) residualUnlikeCard

/-- THE TIED CARD OF 'descantlaw13.ResidualPrefix'. -/
def residualPrefixCard : Claim7 := { stood := { row := residualPrefixRow, standIns := [], harness := (true, "9c1fcef68dc7887adc643506788169b1f75e126927e2c17fda2b98435eb69093"), looks := false }, kinds := [], alts := [], laidByText := true, laidKinds := [.data], laidTests := true, laidLooks := .later }
def ResidualPrefixCardSaid : Prop := Claim7.holds Tryd.pinned (.plain (OpenSpec.ofChange residualPrefixSpec)) residualPrefixCard

/-- THE SECOND FORM's CARD OF 'descantlaw13.ResidualBack'. -/
def residualBackUptoCard : Claim7 := { stood := { row := residualBackUptoRow, standIns := [], harness := (true, "9c1fcef68dc7887adc643506788169b1f75e126927e2c17fda2b98435eb69093"), looks := false }, kinds := [], alts := [], laidByText := true, laidKinds := [.data], laidTests := true, laidLooks := .later }
def ResidualBackUptoCardSaid : Prop := Claim7.holds Tryd.pinned (.plain (OpenSpec.upto residualBackSpec)) residualBackUptoCard

/-- THE SECOND FORM's CARD OF 'descantlaw13.ResidualForms'. -/
def residualFormsUptoCard : Claim7 := { stood := { row := residualFormsUptoRow, standIns := [], harness := (true, "9c1fcef68dc7887adc643506788169b1f75e126927e2c17fda2b98435eb69093"), looks := false }, kinds := [], alts := [], laidByText := true, laidKinds := [.data], laidTests := true, laidLooks := .later }
def ResidualFormsUptoCardSaid : Prop := Claim7.holds Tryd.pinned (.plain (OpenSpec.upto residualFormsSpec)) residualFormsUptoCard

/-- THE SECOND FORM's CARD OF 'descantlaw13.ResidualQuiet'. -/
def residualQuietUptoCard : Claim7 := { stood := { row := residualQuietUptoRow, standIns := [], harness := (true, "9c1fcef68dc7887adc643506788169b1f75e126927e2c17fda2b98435eb69093"), looks := false }, kinds := [], alts := [], laidByText := true, laidKinds := [.data], laidTests := true, laidLooks := .later }
def ResidualQuietUptoCardSaid : Prop := Claim7.holds Tryd.pinned (.plain (OpenSpec.upto residualQuietSpec)) residualQuietUptoCard

/-- THE SECOND FORM's CARD OF 'descantlaw13.ResidualUnlike'. -/
def residualUnlikeUptoCard : Claim7 := { stood := { row := residualUnlikeUptoRow, standIns := [], harness := (true, "9c1fcef68dc7887adc643506788169b1f75e126927e2c17fda2b98435eb69093"), looks := false }, kinds := [], alts := [], laidByText := true, laidKinds := [.data], laidTests := true, laidLooks := .later }
def ResidualUnlikeUptoCardSaid : Prop := Claim7.holds Tryd.pinned (.plain (OpenSpec.upto residualUnlikeSpec)) residualUnlikeUptoCard

/-- THE SECOND FORM's CARD OF 'descantlaw13.ResidualPrefix'. -/
def residualPrefixUptoCard : Claim7 := { stood := { row := residualPrefixUptoRow, standIns := [], harness := (true, "9c1fcef68dc7887adc643506788169b1f75e126927e2c17fda2b98435eb69093"), looks := false }, kinds := [], alts := [], laidByText := true, laidKinds := [.data], laidTests := true, laidLooks := .later }
def ResidualPrefixUptoCardSaid : Prop := Claim7.holds Tryd.pinned (.plain (OpenSpec.upto residualPrefixSpec)) residualPrefixUptoCard
end Rows
end Go.Proofs.YtbklhoeoamkboaaDoor
