/-
  NARROWER THAN 'FOR EVERY INPUT', by the rows' own cells (each row's printed sentence says how): ResidualBack: laid · ResidualForms: laid · ResidualQuiet: laid · ResidualUnlike: laid · ResidualPrefix: laid.
  DERIVED. THE GIVEN ROWS OF THIS SEAT. 5 by the template 'for every input the law returns true; each argument reads behind the call as it read before'; 0 by the template 'total and deterministic' (their statements: YtbklhoeoamkboaaDoorTotals.lean).
  GIVEN WITH THE SEED: the statements are not yours to turn. If you find one false, say at which input.
  Laid BY PROGRAM, IN A SANDBOX (cutbox-rows.mjs): the forced cells as the released guide's own fill.sh prints them over the translation ed378b3cca73624f… (all of the seat's roots in one cut). By AI agents, Wed Nov 11 2026. No macro, syntax, notation, axiom, sorry.
-/
import Derived.Test.YtbklhoeoamkboaaDoorChecked
import GoSem.Claim
import GoSem.ClaimJoined
import GoSem.ClaimMapViews
import Derived.JoinedTies
import Derived.KernelRfl
namespace Go.Proofs.YtbklhoeoamkboaaDoor
/- THE CELL 'sum', in the pinned program and in every row, IS THE sha256 OF THE DUMP (.gsa) THAT YtbklhoeoamkboaaDoorProg.lean LOADS. Nothing in Lean hashes anything: it is a label: what it is worth is what the hold of that sum in a sandbox is worth. -/
noncomputable def Tryd.pinned : Pinned := { name := "ytbklhoeoamkboaadoor", sum := "ed378b3cca73624f73297985fd266a624e62105a8a717a584ae528241e1dbd48", checked := Tryd.checked }
namespace Rows
def none {H : Type} : Left H := { results := [], args := [] }

/- WHAT THE LISTED PACKAGE-LEVEL VARIABLES READ AS WHEN THE CALL BEGINS. Each datum BY PROGRAM (the guide's laid-datum.mjs) off the statement by which the dump's own 'gosem.cut.vars' lays the variable. In a bare row this is a premise. The card (YtbklhoeoamkboaaDoorCards.lean) ties it to the program's text. -/
def laid_descant_stretch_table {H : Type} : DataW H := .agg [.lit (.int .i64 1), .lit (.int .i64 2), .lit (.int .i64 3), .lit (.int .i64 6), .lit (.int .i64 10), .lit (.int .i64 16), .lit (.int .i64 27), .lit (.int .i64 45), .lit (.int .i64 73), .lit (.int .i64 120), .lit (.int .i64 194), .lit (.int .i64 310), .lit (.int .i64 488), .lit (.int .i64 747), .lit (.int .i64 1101), .lit (.int .i64 1546), .lit (.int .i64 2047), .lit (.int .i64 2549), .lit (.int .i64 2994), .lit (.int .i64 3348), .lit (.int .i64 3607), .lit (.int .i64 3785), .lit (.int .i64 3901), .lit (.int .i64 3975), .lit (.int .i64 4022), .lit (.int .i64 4050), .lit (.int .i64 4068), .lit (.int .i64 4079), .lit (.int .i64 4085), .lit (.int .i64 4089), .lit (.int .i64 4092), .lit (.int .i64 4093), .lit (.int .i64 4094)]

/-- 'descantlaw13.ResidualBack': WHATEVER THE INPUT: true; the input reads as it did. -/
def residualBackSpec : ChangeSpec := { name := "residualBack", fn := fun _ => fun
  | [d1, d2] => { results := [.lit (.bool true)], args := [d1, d2] }
  | _ => none }
def residualBackRow : OpenClaim := { program := "ytbklhoeoamkboaadoor", sum := "ed378b3cca73624f73297985fd266a624e62105a8a717a584ae528241e1dbd48", func := "descant/descantlaw13.ResidualBack", spec := "residualBack", unfollowed := true, recurses := true, named := ["descant/stretch.table"], apart := false, laid := [("descant/stretch.table", laid_descant_stretch_table)] }
def ResidualBackSaid : Prop := residualBackRow.holds Tryd.pinned (OpenSpec.ofChange residualBackSpec)

/-- ITS FALSE NEIGHBOUR: 'it returns false'. Refute it at one input. -/
def residualBackWrong : ChangeSpec := { name := "residualBack", fn := fun _ => fun
  | [d1, d2] => { results := [.lit (.bool false)], args := [d1, d2] }
  | _ => none }
def ResidualBackWrongFalsely : Prop := residualBackRow.holds Tryd.pinned (OpenSpec.ofChange residualBackWrong)

/-- 'descantlaw13.ResidualForms': WHATEVER THE INPUT: true; the input reads as it did. -/
def residualFormsSpec : ChangeSpec := { name := "residualForms", fn := fun _ => fun
  | [d1, d2] => { results := [.lit (.bool true)], args := [d1, d2] }
  | _ => none }
def residualFormsRow : OpenClaim := { program := "ytbklhoeoamkboaadoor", sum := "ed378b3cca73624f73297985fd266a624e62105a8a717a584ae528241e1dbd48", func := "descant/descantlaw13.ResidualForms", spec := "residualForms", unfollowed := true, recurses := true, named := ["descant/stretch.table"], apart := false, laid := [("descant/stretch.table", laid_descant_stretch_table)] }
def ResidualFormsSaid : Prop := residualFormsRow.holds Tryd.pinned (OpenSpec.ofChange residualFormsSpec)

/-- ITS FALSE NEIGHBOUR: 'it returns false'. Refute it at one input. -/
def residualFormsWrong : ChangeSpec := { name := "residualForms", fn := fun _ => fun
  | [d1, d2] => { results := [.lit (.bool false)], args := [d1, d2] }
  | _ => none }
def ResidualFormsWrongFalsely : Prop := residualFormsRow.holds Tryd.pinned (OpenSpec.ofChange residualFormsWrong)

/-- 'descantlaw13.ResidualQuiet': WHATEVER THE INPUT: true; the input reads as it did. -/
def residualQuietSpec : ChangeSpec := { name := "residualQuiet", fn := fun _ => fun
  | [d] => { results := [.lit (.bool true)], args := [d] }
  | _ => none }
def residualQuietRow : OpenClaim := { program := "ytbklhoeoamkboaadoor", sum := "ed378b3cca73624f73297985fd266a624e62105a8a717a584ae528241e1dbd48", func := "descant/descantlaw13.ResidualQuiet", spec := "residualQuiet", unfollowed := true, recurses := true, named := ["descant/stretch.table"], apart := false, laid := [("descant/stretch.table", laid_descant_stretch_table)] }
def ResidualQuietSaid : Prop := residualQuietRow.holds Tryd.pinned (OpenSpec.ofChange residualQuietSpec)

/-- ITS FALSE NEIGHBOUR: 'it returns false'. Refute it at one input. -/
def residualQuietWrong : ChangeSpec := { name := "residualQuiet", fn := fun _ => fun
  | [d] => { results := [.lit (.bool false)], args := [d] }
  | _ => none }
def ResidualQuietWrongFalsely : Prop := residualQuietRow.holds Tryd.pinned (OpenSpec.ofChange residualQuietWrong)

/-- 'descantlaw13.ResidualUnlike': WHATEVER THE INPUT: true; the input reads as it did. -/
def residualUnlikeSpec : ChangeSpec := { name := "residualUnlike", fn := fun _ => fun
  | [d1, d2, d3] => { results := [.lit (.bool true)], args := [d1, d2, d3] }
  | _ => none }
def residualUnlikeRow : OpenClaim := { program := "ytbklhoeoamkboaadoor", sum := "ed378b3cca73624f73297985fd266a624e62105a8a717a584ae528241e1dbd48", func := "descant/descantlaw13.ResidualUnlike", spec := "residualUnlike", unfollowed := true, recurses := true, named := ["descant/stretch.table"], apart := false, laid := [("descant/stretch.table", laid_descant_stretch_table)] }
def ResidualUnlikeSaid : Prop := residualUnlikeRow.holds Tryd.pinned (OpenSpec.ofChange residualUnlikeSpec)

/-- ITS FALSE NEIGHBOUR: 'it returns false'. Refute it at one input. -/
def residualUnlikeWrong : ChangeSpec := { name := "residualUnlike", fn := fun _ => fun
  | [d1, d2, d3] => { results := [.lit (.bool false)], args := [d1, d2, d3] }
  | _ => none }
def ResidualUnlikeWrongFalsely : Prop := residualUnlikeRow.holds Tryd.pinned (OpenSpec.ofChange residualUnlikeWrong)

/-- 'descantlaw13.ResidualPrefix': WHATEVER THE INPUT: true; the input reads as it did. -/
def residualPrefixSpec : ChangeSpec := { name := "residualPrefix", fn := fun _ => fun
  | [d1, d2] => { results := [.lit (.bool true)], args := [d1, d2] }
  | _ => none }
def residualPrefixRow : OpenClaim := { program := "ytbklhoeoamkboaadoor", sum := "ed378b3cca73624f73297985fd266a624e62105a8a717a584ae528241e1dbd48", func := "descant/descantlaw13.ResidualPrefix", spec := "residualPrefix", unfollowed := true, recurses := true, named := ["descant/stretch.table"], apart := false, laid := [("descant/stretch.table", laid_descant_stretch_table)] }
def ResidualPrefixSaid : Prop := residualPrefixRow.holds Tryd.pinned (OpenSpec.ofChange residualPrefixSpec)

/-- ITS FALSE NEIGHBOUR: 'it returns false'. Refute it at one input. -/
def residualPrefixWrong : ChangeSpec := { name := "residualPrefix", fn := fun _ => fun
  | [d1, d2] => { results := [.lit (.bool false)], args := [d1, d2] }
  | _ => none }
def ResidualPrefixWrongFalsely : Prop := residualPrefixRow.holds Tryd.pinned (OpenSpec.ofChange residualPrefixWrong)

/- THE SECOND FORM. 'bulk': how many values and letters a reading holds, each counted each time it is reached (what is shared counts as often as it is met; a slice's spare places count too). A statement '..UptoSaid' is the law's where the arguments, and the package variables that the reading takes, are together of bulk at most 1048576: NARROWER than '..Said'. Prove '..Said' where nothing that the law and all that it calls make is longer than what came in: it says more and counts as full. Else prove '..UptoSaid'. A law counts once. -/
mutual
def uptoBulk {H : Type} : DataW H → Nat
  | .lit (.string bytes) => bytes.length + 1
  | .lit _ => 1
  | .nil => 1
  | .ptr d => uptoBulk d + 1
  | .slice elems spare => uptoBulkAll elems + uptoBulkAll spare + 1
  | .agg parts => uptoBulkAll parts + 1
  | .iface _ d => uptoBulk d + 1
  | .map entries => uptoBulkEntries entries + 1
  | .held _ => 1
def uptoBulkAll {H : Type} : List (DataW H) → Nat
  | [] => 0
  | d :: r => uptoBulk d + uptoBulkAll r
def uptoBulkEntries {H : Type} : List (Lit × DataW H) → Nat
  | [] => 0
  | x :: r => uptoBulkEntry x + uptoBulkEntries r
def uptoBulkEntry {H : Type} : Lit × DataW H → Nat
  | (.string bytes, d) => bytes.length + uptoBulk d + 1
  | (_, d) => uptoBulk d + 1
 end
def uptoSmall : (H : Type) → List (DataW H) → Bool := fun _ ds => decide (uptoBulkAll ds ≤ 1048576)
def OpenSpec.upto (s : _root_.Go.ChangeSpec) : _root_.Go.OpenSpec := { _root_.Go.OpenSpec.ofChange s with cond := some uptoSmall }

/-- 'descantlaw13.ResidualBack', WHERE WHAT IT READS IS OF BULK AT MOST 1048576: true; the input reads as it did. -/
def residualBackUptoRow : OpenClaim := { program := "ytbklhoeoamkboaadoor", sum := "ed378b3cca73624f73297985fd266a624e62105a8a717a584ae528241e1dbd48", func := "descant/descantlaw13.ResidualBack", spec := "residualBack", unfollowed := true, recurses := true, named := ["descant/stretch.table"], apart := false, laid := [("descant/stretch.table", laid_descant_stretch_table)], narrowed := true }
def ResidualBackUptoSaid : Prop := residualBackUptoRow.holds Tryd.pinned (OpenSpec.upto residualBackSpec)

/-- 'descantlaw13.ResidualForms', WHERE WHAT IT READS IS OF BULK AT MOST 1048576: true; the input reads as it did. -/
def residualFormsUptoRow : OpenClaim := { program := "ytbklhoeoamkboaadoor", sum := "ed378b3cca73624f73297985fd266a624e62105a8a717a584ae528241e1dbd48", func := "descant/descantlaw13.ResidualForms", spec := "residualForms", unfollowed := true, recurses := true, named := ["descant/stretch.table"], apart := false, laid := [("descant/stretch.table", laid_descant_stretch_table)], narrowed := true }
def ResidualFormsUptoSaid : Prop := residualFormsUptoRow.holds Tryd.pinned (OpenSpec.upto residualFormsSpec)

/-- 'descantlaw13.ResidualQuiet', WHERE WHAT IT READS IS OF BULK AT MOST 1048576: true; the input reads as it did. -/
def residualQuietUptoRow : OpenClaim := { program := "ytbklhoeoamkboaadoor", sum := "ed378b3cca73624f73297985fd266a624e62105a8a717a584ae528241e1dbd48", func := "descant/descantlaw13.ResidualQuiet", spec := "residualQuiet", unfollowed := true, recurses := true, named := ["descant/stretch.table"], apart := false, laid := [("descant/stretch.table", laid_descant_stretch_table)], narrowed := true }
def ResidualQuietUptoSaid : Prop := residualQuietUptoRow.holds Tryd.pinned (OpenSpec.upto residualQuietSpec)

/-- 'descantlaw13.ResidualUnlike', WHERE WHAT IT READS IS OF BULK AT MOST 1048576: true; the input reads as it did. -/
def residualUnlikeUptoRow : OpenClaim := { program := "ytbklhoeoamkboaadoor", sum := "ed378b3cca73624f73297985fd266a624e62105a8a717a584ae528241e1dbd48", func := "descant/descantlaw13.ResidualUnlike", spec := "residualUnlike", unfollowed := true, recurses := true, named := ["descant/stretch.table"], apart := false, laid := [("descant/stretch.table", laid_descant_stretch_table)], narrowed := true }
def ResidualUnlikeUptoSaid : Prop := residualUnlikeUptoRow.holds Tryd.pinned (OpenSpec.upto residualUnlikeSpec)

/-- 'descantlaw13.ResidualPrefix', WHERE WHAT IT READS IS OF BULK AT MOST 1048576: true; the input reads as it did. -/
def residualPrefixUptoRow : OpenClaim := { program := "ytbklhoeoamkboaadoor", sum := "ed378b3cca73624f73297985fd266a624e62105a8a717a584ae528241e1dbd48", func := "descant/descantlaw13.ResidualPrefix", spec := "residualPrefix", unfollowed := true, recurses := true, named := ["descant/stretch.table"], apart := false, laid := [("descant/stretch.table", laid_descant_stretch_table)], narrowed := true }
def ResidualPrefixUptoSaid : Prop := residualPrefixUptoRow.holds Tryd.pinned (OpenSpec.upto residualPrefixSpec)

end Rows
end Go.Proofs.YtbklhoeoamkboaaDoor
