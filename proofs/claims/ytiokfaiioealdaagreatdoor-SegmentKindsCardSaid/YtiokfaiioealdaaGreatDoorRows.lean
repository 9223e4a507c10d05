/-
  NARROWER THAN 'FOR EVERY INPUT', by the rows' own cells (each row's printed sentence says how): Residuals: laid · Segments: laid · SegmentBurst: laid · SegmentForms: laid · SegmentBounds: laid · SegmentKinds: laid · SegmentWaste: laid · SegmentUnlike: laid · SegmentOther: laid · SegmentOne: laid.
  DERIVED. THE GIVEN ROWS OF THIS SEAT. 10 by the template 'for every input the law returns true; each argument reads behind the call as it read before'; 0 by the template 'total and deterministic' (their statements: YtiokfaiioealdaaGreatDoorTotals.lean).
  GIVEN WITH THE SEED: the statements are not yours to turn. If you find one false, say at which input.
  Laid BY PROGRAM, IN A SANDBOX (cutbox-rows.mjs): the forced cells as the released guide's own fill.sh prints them over the translation 46c0989c8daa2d7d… (all of the seat's roots in one cut). By AI agents, Wed Nov 11 2026. No macro, syntax, notation, axiom, sorry.
-/
import Derived.Test.YtiokfaiioealdaaGreatDoorChecked
import GoSem.Claim
import GoSem.ClaimJoined
import GoSem.ClaimMapViews
import Derived.JoinedTies
import Derived.KernelRfl
namespace Go.Proofs.YtiokfaiioealdaaGreatDoor
/- THE CELL 'sum', in the pinned program and in every row, IS THE sha256 OF THE DUMP (.gsa) THAT YtiokfaiioealdaaGreatDoorProg.lean LOADS. Nothing in Lean hashes anything: it is a label: what it is worth is what the hold of that sum in a sandbox is worth. -/
noncomputable def Tryz.pinned : Pinned := { name := "ytiokfaiioealdaagreatdoor", sum := "46c0989c8daa2d7dc7f2aa117ebf4094a9417628a5cb094442214cc40d394c5b", checked := Tryz.checked }
namespace Rows
def none {H : Type} : Left H := { results := [], args := [] }

/- WHAT THE LISTED PACKAGE-LEVEL VARIABLES READ AS WHEN THE CALL BEGINS. Each datum BY PROGRAM (the guide's laid-datum.mjs) off the statement by which the dump's own 'gosem.cut.vars' lays the variable. In a bare row this is a premise. The card (YtiokfaiioealdaaGreatDoorCards.lean) ties it to the program's text. -/
def laid_descant_stretch_table {H : Type} : DataW H := .agg [.lit (.int .i64 1), .lit (.int .i64 2), .lit (.int .i64 3), .lit (.int .i64 6), .lit (.int .i64 10), .lit (.int .i64 16), .lit (.int .i64 27), .lit (.int .i64 45), .lit (.int .i64 73), .lit (.int .i64 120), .lit (.int .i64 194), .lit (.int .i64 310), .lit (.int .i64 488), .lit (.int .i64 747), .lit (.int .i64 1101), .lit (.int .i64 1546), .lit (.int .i64 2047), .lit (.int .i64 2549), .lit (.int .i64 2994), .lit (.int .i64 3348), .lit (.int .i64 3607), .lit (.int .i64 3785), .lit (.int .i64 3901), .lit (.int .i64 3975), .lit (.int .i64 4022), .lit (.int .i64 4050), .lit (.int .i64 4068), .lit (.int .i64 4079), .lit (.int .i64 4085), .lit (.int .i64 4089), .lit (.int .i64 4092), .lit (.int .i64 4093), .lit (.int .i64 4094)]
def laid_math_bits_deBruijn32tab {H : Type} : DataW H := .agg [.lit (.int .u8 0), .lit (.int .u8 1), .lit (.int .u8 28), .lit (.int .u8 2), .lit (.int .u8 29), .lit (.int .u8 14), .lit (.int .u8 24), .lit (.int .u8 3), .lit (.int .u8 30), .lit (.int .u8 22), .lit (.int .u8 20), .lit (.int .u8 15), .lit (.int .u8 25), .lit (.int .u8 17), .lit (.int .u8 4), .lit (.int .u8 8), .lit (.int .u8 31), .lit (.int .u8 27), .lit (.int .u8 13), .lit (.int .u8 23), .lit (.int .u8 21), .lit (.int .u8 19), .lit (.int .u8 16), .lit (.int .u8 7), .lit (.int .u8 26), .lit (.int .u8 12), .lit (.int .u8 18), .lit (.int .u8 6), .lit (.int .u8 11), .lit (.int .u8 5), .lit (.int .u8 10), .lit (.int .u8 9)]
def laid_math_bits_deBruijn64tab {H : Type} : DataW H := .agg [.lit (.int .u8 0), .lit (.int .u8 1), .lit (.int .u8 56), .lit (.int .u8 2), .lit (.int .u8 57), .lit (.int .u8 49), .lit (.int .u8 28), .lit (.int .u8 3), .lit (.int .u8 61), .lit (.int .u8 58), .lit (.int .u8 42), .lit (.int .u8 50), .lit (.int .u8 38), .lit (.int .u8 29), .lit (.int .u8 17), .lit (.int .u8 4), .lit (.int .u8 62), .lit (.int .u8 47), .lit (.int .u8 59), .lit (.int .u8 36), .lit (.int .u8 45), .lit (.int .u8 43), .lit (.int .u8 51), .lit (.int .u8 22), .lit (.int .u8 53), .lit (.int .u8 39), .lit (.int .u8 33), .lit (.int .u8 30), .lit (.int .u8 24), .lit (.int .u8 18), .lit (.int .u8 12), .lit (.int .u8 5), .lit (.int .u8 63), .lit (.int .u8 55), .lit (.int .u8 48), .lit (.int .u8 27), .lit (.int .u8 60), .lit (.int .u8 41), .lit (.int .u8 37), .lit (.int .u8 16), .lit (.int .u8 46), .lit (.int .u8 35), .lit (.int .u8 44), .lit (.int .u8 21), .lit (.int .u8 52), .lit (.int .u8 32), .lit (.int .u8 23), .lit (.int .u8 11), .lit (.int .u8 54), .lit (.int .u8 26), .lit (.int .u8 40), .lit (.int .u8 15), .lit (.int .u8 34), .lit (.int .u8 20), .lit (.int .u8 31), .lit (.int .u8 10), .lit (.int .u8 25), .lit (.int .u8 14), .lit (.int .u8 19), .lit (.int .u8 9), .lit (.int .u8 13), .lit (.int .u8 8), .lit (.int .u8 7), .lit (.int .u8 6)]

/-- 'descantlaw13.Residuals': WHATEVER THE INPUT: true; the input reads as it did. -/
def residualsSpec : ChangeSpec := { name := "residuals", fn := fun _ => fun
  | [d1, d2, d3] => { results := [.lit (.bool true)], args := [d1, d2, d3] }
  | _ => none }
def residualsRow : OpenClaim := { program := "ytiokfaiioealdaagreatdoor", sum := "46c0989c8daa2d7dc7f2aa117ebf4094a9417628a5cb094442214cc40d394c5b", func := "descant/descantlaw13.Residuals", spec := "residuals", unfollowed := true, recurses := true, named := ["descant/stretch.table"], apart := false, laid := [("descant/stretch.table", laid_descant_stretch_table)] }
def ResidualsSaid : Prop := residualsRow.holds Tryz.pinned (OpenSpec.ofChange residualsSpec)

/-- ITS FALSE NEIGHBOUR: 'it returns false'. Refute it at one input. -/
def residualsWrong : ChangeSpec := { name := "residuals", fn := fun _ => fun
  | [d1, d2, d3] => { results := [.lit (.bool false)], args := [d1, d2, d3] }
  | _ => none }
def ResidualsWrongFalsely : Prop := residualsRow.holds Tryz.pinned (OpenSpec.ofChange residualsWrong)

/-- 'descantlaw22.Segments': WHATEVER THE INPUT: true; the input reads as it did. -/
def segmentsSpec : ChangeSpec := { name := "segments", fn := fun _ => fun
  | [d1, d2, d3] => { results := [.lit (.bool true)], args := [d1, d2, d3] }
  | _ => none }
def segmentsRow : OpenClaim := { program := "ytiokfaiioealdaagreatdoor", sum := "46c0989c8daa2d7dc7f2aa117ebf4094a9417628a5cb094442214cc40d394c5b", func := "descant/descantlaw22.Segments", spec := "segments", inPlace := ["internal/abi.NoEscape", "internal/bytealg.MakeNoZero"], unfollowed := true, recurses := true, named := ["math/bits.deBruijn32tab", "math/bits.deBruijn64tab", "descant/stretch.table"], apart := false, laid := [("math/bits.deBruijn32tab", laid_math_bits_deBruijn32tab), ("math/bits.deBruijn64tab", laid_math_bits_deBruijn64tab), ("descant/stretch.table", laid_descant_stretch_table)] }
def SegmentsSaid : Prop := segmentsRow.holds Tryz.pinned (OpenSpec.ofChange segmentsSpec)

/-- ITS FALSE NEIGHBOUR: 'it returns false'. Refute it at one input. -/
def segmentsWrong : ChangeSpec := { name := "segments", fn := fun _ => fun
  | [d1, d2, d3] => { results := [.lit (.bool false)], args := [d1, d2, d3] }
  | _ => none }
def SegmentsWrongFalsely : Prop := segmentsRow.holds Tryz.pinned (OpenSpec.ofChange segmentsWrong)

/-- 'descantlaw22.SegmentBurst': WHATEVER THE INPUT: true; the input reads as it did. -/
def segmentBurstSpec : ChangeSpec := { name := "segmentBurst", fn := fun _ => fun
  | [d1, d2, d3, d4] => { results := [.lit (.bool true)], args := [d1, d2, d3, d4] }
  | _ => none }
def segmentBurstRow : OpenClaim := { program := "ytiokfaiioealdaagreatdoor", sum := "46c0989c8daa2d7dc7f2aa117ebf4094a9417628a5cb094442214cc40d394c5b", func := "descant/descantlaw22.SegmentBurst", spec := "segmentBurst", inPlace := ["internal/abi.NoEscape", "internal/bytealg.MakeNoZero"], unfollowed := true, recurses := true, named := ["math/bits.deBruijn32tab", "math/bits.deBruijn64tab", "descant/stretch.table"], apart := false, laid := [("math/bits.deBruijn32tab", laid_math_bits_deBruijn32tab), ("math/bits.deBruijn64tab", laid_math_bits_deBruijn64tab), ("descant/stretch.table", laid_descant_stretch_table)] }
def SegmentBurstSaid : Prop := segmentBurstRow.holds Tryz.pinned (OpenSpec.ofChange segmentBurstSpec)

/-- ITS FALSE NEIGHBOUR: 'it returns false'. Refute it at one input. -/
def segmentBurstWrong : ChangeSpec := { name := "segmentBurst", fn := fun _ => fun
  | [d1, d2, d3, d4] => { results := [.lit (.bool false)], args := [d1, d2, d3, d4] }
  | _ => none }
def SegmentBurstWrongFalsely : Prop := segmentBurstRow.holds Tryz.pinned (OpenSpec.ofChange segmentBurstWrong)

/-- 'descantlaw22.SegmentForms': WHATEVER THE INPUT: true; the input reads as it did. -/
def segmentFormsSpec : ChangeSpec := { name := "segmentForms", fn := fun _ => fun
  | [d1, d2] => { results := [.lit (.bool true)], args := [d1, d2] }
  | _ => none }
def segmentFormsRow : OpenClaim := { program := "ytiokfaiioealdaagreatdoor", sum := "46c0989c8daa2d7dc7f2aa117ebf4094a9417628a5cb094442214cc40d394c5b", func := "descant/descantlaw22.SegmentForms", spec := "segmentForms", inPlace := ["internal/abi.NoEscape", "internal/bytealg.MakeNoZero"], unfollowed := true, recurses := true, named := ["math/bits.deBruijn32tab", "math/bits.deBruijn64tab", "descant/stretch.table"], apart := false, laid := [("math/bits.deBruijn32tab", laid_math_bits_deBruijn32tab), ("math/bits.deBruijn64tab", laid_math_bits_deBruijn64tab), ("descant/stretch.table", laid_descant_stretch_table)] }
def SegmentFormsSaid : Prop := segmentFormsRow.holds Tryz.pinned (OpenSpec.ofChange segmentFormsSpec)

/-- ITS FALSE NEIGHBOUR: 'it returns false'. Refute it at one input. -/
def segmentFormsWrong : ChangeSpec := { name := "segmentForms", fn := fun _ => fun
  | [d1, d2] => { results := [.lit (.bool false)], args := [d1, d2] }
  | _ => none }
def SegmentFormsWrongFalsely : Prop := segmentFormsRow.holds Tryz.pinned (OpenSpec.ofChange segmentFormsWrong)

/-- 'descantlaw22.SegmentBounds': WHATEVER THE INPUT: true; the input reads as it did. -/
def segmentBoundsSpec : ChangeSpec := { name := "segmentBounds", fn := fun _ => fun
  | [d1, d2] => { results := [.lit (.bool true)], args := [d1, d2] }
  | _ => none }
def segmentBoundsRow : OpenClaim := { program := "ytiokfaiioealdaagreatdoor", sum := "46c0989c8daa2d7dc7f2aa117ebf4094a9417628a5cb094442214cc40d394c5b", func := "descant/descantlaw22.SegmentBounds", spec := "segmentBounds", inPlace := ["internal/abi.NoEscape", "internal/bytealg.MakeNoZero"], unfollowed := true, recurses := true, named := ["math/bits.deBruijn32tab", "math/bits.deBruijn64tab", "descant/stretch.table"], apart := false, laid := [("math/bits.deBruijn32tab", laid_math_bits_deBruijn32tab), ("math/bits.deBruijn64tab", laid_math_bits_deBruijn64tab), ("descant/stretch.table", laid_descant_stretch_table)] }
def SegmentBoundsSaid : Prop := segmentBoundsRow.holds Tryz.pinned (OpenSpec.ofChange segmentBoundsSpec)

/-- ITS FALSE NEIGHBOUR: 'it returns false'. Refute it at one input. -/
def segmentBoundsWrong : ChangeSpec := { name := "segmentBounds", fn := fun _ => fun
  | [d1, d2] => { results := [.lit (.bool false)], args := [d1, d2] }
  | _ => none }
def SegmentBoundsWrongFalsely : Prop := segmentBoundsRow.holds Tryz.pinned (OpenSpec.ofChange segmentBoundsWrong)

/-- 'descantlaw22.SegmentKinds': WHATEVER THE INPUT: true; the input reads as it did. -/
def segmentKindsSpec : ChangeSpec := { name := "segmentKinds", fn := fun _ => fun
  | [d1, d2] => { results := [.lit (.bool true)], args := [d1, d2] }
  | _ => none }
def segmentKindsRow : OpenClaim := { program := "ytiokfaiioealdaagreatdoor", sum := "46c0989c8daa2d7dc7f2aa117ebf4094a9417628a5cb094442214cc40d394c5b", func := "descant/descantlaw22.SegmentKinds", spec := "segmentKinds", inPlace := ["internal/abi.NoEscape", "internal/bytealg.MakeNoZero"], unfollowed := true, recurses := true, named := ["math/bits.deBruijn32tab", "math/bits.deBruijn64tab", "descant/stretch.table"], apart := false, laid := [("math/bits.deBruijn32tab", laid_math_bits_deBruijn32tab), ("math/bits.deBruijn64tab", laid_math_bits_deBruijn64tab), ("descant/stretch.table", laid_descant_stretch_table)] }
def SegmentKindsSaid : Prop := segmentKindsRow.holds Tryz.pinned (OpenSpec.ofChange segmentKindsSpec)

/-- ITS FALSE NEIGHBOUR: 'it returns false'. Refute it at one input. -/
def segmentKindsWrong : ChangeSpec := { name := "segmentKinds", fn := fun _ => fun
  | [d1, d2] => { results := [.lit (.bool false)], args := [d1, d2] }
  | _ => none }
def SegmentKindsWrongFalsely : Prop := segmentKindsRow.holds Tryz.pinned (OpenSpec.ofChange segmentKindsWrong)

/-- 'descantlaw22.SegmentWaste': WHATEVER THE INPUT: true; the input reads as it did. -/
def segmentWasteSpec : ChangeSpec := { name := "segmentWaste", fn := fun _ => fun
  | [d1, d2] => { results := [.lit (.bool true)], args := [d1, d2] }
  | _ => none }
def segmentWasteRow : OpenClaim := { program := "ytiokfaiioealdaagreatdoor", sum := "46c0989c8daa2d7dc7f2aa117ebf4094a9417628a5cb094442214cc40d394c5b", func := "descant/descantlaw22.SegmentWaste", spec := "segmentWaste", inPlace := ["internal/abi.NoEscape", "internal/bytealg.MakeNoZero"], unfollowed := true, recurses := true, named := ["math/bits.deBruijn32tab", "math/bits.deBruijn64tab", "descant/stretch.table"], apart := false, laid := [("math/bits.deBruijn32tab", laid_math_bits_deBruijn32tab), ("math/bits.deBruijn64tab", laid_math_bits_deBruijn64tab), ("descant/stretch.table", laid_descant_stretch_table)] }
def SegmentWasteSaid : Prop := segmentWasteRow.holds Tryz.pinned (OpenSpec.ofChange segmentWasteSpec)

/-- ITS FALSE NEIGHBOUR: 'it returns false'. Refute it at one input. -/
def segmentWasteWrong : ChangeSpec := { name := "segmentWaste", fn := fun _ => fun
  | [d1, d2] => { results := [.lit (.bool false)], args := [d1, d2] }
  | _ => none }
def SegmentWasteWrongFalsely : Prop := segmentWasteRow.holds Tryz.pinned (OpenSpec.ofChange segmentWasteWrong)

/-- 'descantlaw22.SegmentUnlike': WHATEVER THE INPUT: true; the input reads as it did. -/
def segmentUnlikeSpec : ChangeSpec := { name := "segmentUnlike", fn := fun _ => fun
  | [d1, d2, d3, d4] => { results := [.lit (.bool true)], args := [d1, d2, d3, d4] }
  | _ => none }
def segmentUnlikeRow : OpenClaim := { program := "ytiokfaiioealdaagreatdoor", sum := "46c0989c8daa2d7dc7f2aa117ebf4094a9417628a5cb094442214cc40d394c5b", func := "descant/descantlaw22.SegmentUnlike", spec := "segmentUnlike", inPlace := ["internal/abi.NoEscape", "internal/bytealg.MakeNoZero"], unfollowed := true, recurses := true, named := ["math/bits.deBruijn32tab", "math/bits.deBruijn64tab", "descant/stretch.table"], apart := false, laid := [("math/bits.deBruijn32tab", laid_math_bits_deBruijn32tab), ("math/bits.deBruijn64tab", laid_math_bits_deBruijn64tab), ("descant/stretch.table", laid_descant_stretch_table)] }
def SegmentUnlikeSaid : Prop := segmentUnlikeRow.holds Tryz.pinned (OpenSpec.ofChange segmentUnlikeSpec)

/-- ITS FALSE NEIGHBOUR: 'it returns false'. Refute it at one input. -/
def segmentUnlikeWrong : ChangeSpec := { name := "segmentUnlike", fn := fun _ => fun
  | [d1, d2, d3, d4] => { results := [.lit (.bool false)], args := [d1, d2, d3, d4] }
  | _ => none }
def SegmentUnlikeWrongFalsely : Prop := segmentUnlikeRow.holds Tryz.pinned (OpenSpec.ofChange segmentUnlikeWrong)

/-- 'descantlaw22.SegmentOther': WHATEVER THE INPUT: true; the input reads as it did. -/
def segmentOtherSpec : ChangeSpec := { name := "segmentOther", fn := fun _ => fun
  | [d1, d2] => { results := [.lit (.bool true)], args := [d1, d2] }
  | _ => none }
def segmentOtherRow : OpenClaim := { program := "ytiokfaiioealdaagreatdoor", sum := "46c0989c8daa2d7dc7f2aa117ebf4094a9417628a5cb094442214cc40d394c5b", func := "descant/descantlaw22.SegmentOther", spec := "segmentOther", inPlace := ["internal/abi.NoEscape", "internal/bytealg.MakeNoZero"], unfollowed := true, recurses := true, named := ["math/bits.deBruijn32tab", "math/bits.deBruijn64tab", "descant/stretch.table"], apart := false, laid := [("math/bits.deBruijn32tab", laid_math_bits_deBruijn32tab), ("math/bits.deBruijn64tab", laid_math_bits_deBruijn64tab), ("descant/stretch.table", laid_descant_stretch_table)] }
def SegmentOtherSaid : Prop := segmentOtherRow.holds Tryz.pinned (OpenSpec.ofChange segmentOtherSpec)

/-- ITS FALSE NEIGHBOUR: 'it returns false'. Refute it at one input. -/
def segmentOtherWrong : ChangeSpec := { name := "segmentOther", fn := fun _ => fun
  | [d1, d2] => { results := [.lit (.bool false)], args := [d1, d2] }
  | _ => none }
def SegmentOtherWrongFalsely : Prop := segmentOtherRow.holds Tryz.pinned (OpenSpec.ofChange segmentOtherWrong)

/-- 'descantlaw22.SegmentOne': WHATEVER THE INPUT: true; the input reads as it did. -/
def segmentOneSpec : ChangeSpec := { name := "segmentOne", fn := fun _ => fun
  | [d1, d2, d3] => { results := [.lit (.bool true)], args := [d1, d2, d3] }
  | _ => none }
def segmentOneRow : OpenClaim := { program := "ytiokfaiioealdaagreatdoor", sum := "46c0989c8daa2d7dc7f2aa117ebf4094a9417628a5cb094442214cc40d394c5b", func := "descant/descantlaw22.SegmentOne", spec := "segmentOne", inPlace := ["internal/abi.NoEscape", "internal/bytealg.MakeNoZero"], unfollowed := true, recurses := true, named := ["math/bits.deBruijn32tab", "math/bits.deBruijn64tab", "descant/stretch.table"], apart := false, laid := [("math/bits.deBruijn32tab", laid_math_bits_deBruijn32tab), ("math/bits.deBruijn64tab", laid_math_bits_deBruijn64tab), ("descant/stretch.table", laid_descant_stretch_table)] }
def SegmentOneSaid : Prop := segmentOneRow.holds Tryz.pinned (OpenSpec.ofChange segmentOneSpec)

/-- ITS FALSE NEIGHBOUR: 'it returns false'. Refute it at one input. -/
def segmentOneWrong : ChangeSpec := { name := "segmentOne", fn := fun _ => fun
  | [d1, d2, d3] => { results := [.lit (.bool false)], args := [d1, d2, d3] }
  | _ => none }
def SegmentOneWrongFalsely : Prop := segmentOneRow.holds Tryz.pinned (OpenSpec.ofChange segmentOneWrong)

/- THE SECOND FORM. 'bulk': how many values and letters a reading holds, each counted each time it is reached (what is shared counts as often as it is met; a slice's spare places count too). A statement '..UptoSaid' is the law's where the arguments, and the package variables that the reading takes, are together of bulk at most 1048576: NARROWER than '..Said'. Prove '..Said' where nothing that the law and all that it calls make is longer than what came in: it says more and counts as full. Else prove '..UptoSaid'. A law counts once. -/
mutual
def uptoBulk {H : Type} : DataW H → Nat
  | .lit (.string bytes) => bytes.length + 1
  | .lit _ => 1
  | .nil => 1
  | .ptr d => uptoBulk d + 1
  | .slice elems spare => uptoBulkAll elems + uptoBulkAll spare + 1
  | .agg parts => uptoBulkAll parts + 1
  | .iface _ d => uptoBulk d + 1
  | .map entries => uptoBulkEntries entries + 1
  | .held _ => 1
def uptoBulkAll {H : Type} : List (DataW H) → Nat
  | [] => 0
  | d :: r => uptoBulk d + uptoBulkAll r
def uptoBulkEntries {H : Type} : List (Lit × DataW H) → Nat
  | [] => 0
  | x :: r => uptoBulkEntry x + uptoBulkEntries r
def uptoBulkEntry {H : Type} : Lit × DataW H → Nat
  | (.string bytes, d) => bytes.length + uptoBulk d + 1
  | (_, d) => uptoBulk d + 1
 end
def uptoSmall : (H : Type) → List (DataW H) → Bool := fun _ ds => decide (uptoBulkAll ds ≤ 1048576)
def OpenSpec.upto (s : _root_.Go.ChangeSpec) : _root_.Go.OpenSpec := { _root_.Go.OpenSpec.ofChange s with cond := some uptoSmall }

/-- 'descantlaw13.Residuals', WHERE WHAT IT READS IS OF BULK AT MOST 1048576: true; the input reads as it did. -/
def residualsUptoRow : OpenClaim := { program := "ytiokfaiioealdaagreatdoor", sum := "46c0989c8daa2d7dc7f2aa117ebf4094a9417628a5cb094442214cc40d394c5b", func := "descant/descantlaw13.Residuals", spec := "residuals", unfollowed := true, recurses := true, named := ["descant/stretch.table"], apart := false, laid := [("descant/stretch.table", laid_descant_stretch_table)], narrowed := true }
def ResidualsUptoSaid : Prop := residualsUptoRow.holds Tryz.pinned (OpenSpec.upto residualsSpec)

/-- 'descantlaw22.Segments', WHERE WHAT IT READS IS OF BULK AT MOST 1048576: true; the input reads as it did. -/
def segmentsUptoRow : OpenClaim := { program := "ytiokfaiioealdaagreatdoor", sum := "46c0989c8daa2d7dc7f2aa117ebf4094a9417628a5cb094442214cc40d394c5b", func := "descant/descantlaw22.Segments", spec := "segments", inPlace := ["internal/abi.NoEscape", "internal/bytealg.MakeNoZero"], unfollowed := true, recurses := true, named := ["math/bits.deBruijn32tab", "math/bits.deBruijn64tab", "descant/stretch.table"], apart := false, laid := [("math/bits.deBruijn32tab", laid_math_bits_deBruijn32tab), ("math/bits.deBruijn64tab", laid_math_bits_deBruijn64tab), ("descant/stretch.table", laid_descant_stretch_table)], narrowed := true }
def SegmentsUptoSaid : Prop := segmentsUptoRow.holds Tryz.pinned (OpenSpec.upto segmentsSpec)

/-- 'descantlaw22.SegmentBurst', WHERE WHAT IT READS IS OF BULK AT MOST 1048576: true; the input reads as it did. -/
def segmentBurstUptoRow : OpenClaim := { program := "ytiokfaiioealdaagreatdoor", sum := "46c0989c8daa2d7dc7f2aa117ebf4094a9417628a5cb094442214cc40d394c5b", func := "descant/descantlaw22.SegmentBurst", spec := "segmentBurst", inPlace := ["internal/abi.NoEscape", "internal/bytealg.MakeNoZero"], unfollowed := true, recurses := true, named := ["math/bits.deBruijn32tab", "math/bits.deBruijn64tab", "descant/stretch.table"], apart := false, laid := [("math/bits.deBruijn32tab", laid_math_bits_deBruijn32tab), ("math/bits.deBruijn64tab", laid_math_bits_deBruijn64tab), ("descant/stretch.table", laid_descant_stretch_table)], narrowed := true }
def SegmentBurstUptoSaid : Prop := segmentBurstUptoRow.holds Tryz.pinned (OpenSpec.upto segmentBurstSpec)

/-- 'descantlaw22.SegmentForms', WHERE WHAT IT READS IS OF BULK AT MOST 1048576: true; the input reads as it did. -/
def segmentFormsUptoRow : OpenClaim := { program := "ytiokfaiioealdaagreatdoor", sum := "46c0989c8daa2d7dc7f2aa117ebf4094a9417628a5cb094442214cc40d394c5b", func := "descant/descantlaw22.SegmentForms", spec := "segmentForms", inPlace := ["internal/abi.NoEscape", "internal/bytealg.MakeNoZero"], unfollowed := true, recurses := true, named := ["math/bits.deBruijn32tab", "math/bits.deBruijn64tab", "descant/stretch.table"], apart := false, laid := [("math/bits.deBruijn32tab", laid_math_bits_deBruijn32tab), ("math/bits.deBruijn64tab", laid_math_bits_deBruijn64tab), ("descant/stretch.table", laid_descant_stretch_table)], narrowed := true }
def SegmentFormsUptoSaid : Prop := segmentFormsUptoRow.holds Tryz.pinned (OpenSpec.upto segmentFormsSpec)

/-- 'descantlaw22.SegmentBounds', WHERE WHAT IT READS IS OF BULK AT MOST 1048576: true; the input reads as it did. -/
def segmentBoundsUptoRow : OpenClaim := { program := "ytiokfaiioealdaagreatdoor", sum := "46c0989c8daa2d7dc7f2aa117ebf4094a9417628a5cb094442214cc40d394c5b", func := "descant/descantlaw22.SegmentBounds", spec := "segmentBounds", inPlace := ["internal/abi.NoEscape", "internal/bytealg.MakeNoZero"], unfollowed := true, recurses := true, named := ["math/bits.deBruijn32tab", "math/bits.deBruijn64tab", "descant/stretch.table"], apart := false, laid := [("math/bits.deBruijn32tab", laid_math_bits_deBruijn32tab), ("math/bits.deBruijn64tab", laid_math_bits_deBruijn64tab), ("descant/stretch.table", laid_descant_stretch_table)], narrowed := true }
def SegmentBoundsUptoSaid : Prop := segmentBoundsUptoRow.holds Tryz.pinned (OpenSpec.upto segmentBoundsSpec)

/-- 'descantlaw22.SegmentKinds', WHERE WHAT IT READS IS OF BULK AT MOST 1048576: true; the input reads as it did. -/
def segmentKindsUptoRow : OpenClaim := { program := "ytiokfaiioealdaagreatdoor", sum := "46c0989c8daa2d7dc7f2aa117ebf4094a9417628a5cb094442214cc40d394c5b", func := "descant/descantlaw22.SegmentKinds", spec := "segmentKinds", inPlace := ["internal/abi.NoEscape", "internal/bytealg.MakeNoZero"], unfollowed := true, recurses := true, named := ["math/bits.deBruijn32tab", "math/bits.deBruijn64tab", "descant/stretch.table"], apart := false, laid := [("math/bits.deBruijn32tab", laid_math_bits_deBruijn32tab), ("math/bits.deBruijn64tab", laid_math_bits_deBruijn64tab), ("descant/stretch.table", laid_descant_stretch_table)], narrowed := true }
def SegmentKindsUptoSaid : Prop := segmentKindsUptoRow.holds Tryz.pinned (OpenSpec.upto segmentKindsSpec)

/-- 'descantlaw22.SegmentWaste', WHERE WHAT IT READS IS OF BULK AT MOST 1048576: true; the input reads as it did. -/
def segmentWasteUptoRow : OpenClaim := { program := "ytiokfaiioealdaagreatdoor", sum := "46c0989c8daa2d7dc7f2aa117ebf4094a9417628a5cb094442214cc40d394c5b", func := "descant/descantlaw22.SegmentWaste", spec := "segmentWaste", inPlace := ["internal/abi.NoEscape", "internal/bytealg.MakeNoZero"], unfollowed := true, recurses := true, named := ["math/bits.deBruijn32tab", "math/bits.deBruijn64tab", "descant/stretch.table"], apart := false, laid := [("math/bits.deBruijn32tab", laid_math_bits_deBruijn32tab), ("math/bits.deBruijn64tab", laid_math_bits_deBruijn64tab), ("descant/stretch.table", laid_descant_stretch_table)], narrowed := true }
def SegmentWasteUptoSaid : Prop := segmentWasteUptoRow.holds Tryz.pinned (OpenSpec.upto segmentWasteSpec)

/-- 'descantlaw22.SegmentUnlike', WHERE WHAT IT READS IS OF BULK AT MOST 1048576: true; the input reads as it did. -/
def segmentUnlikeUptoRow : OpenClaim := { program := "ytiokfaiioealdaagreatdoor", sum := "46c0989c8daa2d7dc7f2aa117ebf4094a9417628a5cb094442214cc40d394c5b", func := "descant/descantlaw22.SegmentUnlike", spec := "segmentUnlike", inPlace := ["internal/abi.NoEscape", "internal/bytealg.MakeNoZero"], unfollowed := true, recurses := true, named := ["math/bits.deBruijn32tab", "math/bits.deBruijn64tab", "descant/stretch.table"], apart := false, laid := [("math/bits.deBruijn32tab", laid_math_bits_deBruijn32tab), ("math/bits.deBruijn64tab", laid_math_bits_deBruijn64tab), ("descant/stretch.table", laid_descant_stretch_table)], narrowed := true }
def SegmentUnlikeUptoSaid : Prop := segmentUnlikeUptoRow.holds Tryz.pinned (OpenSpec.upto segmentUnlikeSpec)

/-- 'descantlaw22.SegmentOther', WHERE WHAT IT READS IS OF BULK AT MOST 1048576: true; the input reads as it did. -/
def segmentOtherUptoRow : OpenClaim := { program := "ytiokfaiioealdaagreatdoor", sum := "46c0989c8daa2d7dc7f2aa117ebf4094a9417628a5cb094442214cc40d394c5b", func := "descant/descantlaw22.SegmentOther", spec := "segmentOther", inPlace := ["internal/abi.NoEscape", "internal/bytealg.MakeNoZero"], unfollowed := true, recurses := true, named := ["math/bits.deBruijn32tab", "math/bits.deBruijn64tab", "descant/stretch.table"], apart := false, laid := [("math/bits.deBruijn32tab", laid_math_bits_deBruijn32tab), ("math/bits.deBruijn64tab", laid_math_bits_deBruijn64tab), ("descant/stretch.table", laid_descant_stretch_table)], narrowed := true }
def SegmentOtherUptoSaid : Prop := segmentOtherUptoRow.holds Tryz.pinned (OpenSpec.upto segmentOtherSpec)

/-- 'descantlaw22.SegmentOne', WHERE WHAT IT READS IS OF BULK AT MOST 1048576: true; the input reads as it did. -/
def segmentOneUptoRow : OpenClaim := { program := "ytiokfaiioealdaagreatdoor", sum := "46c0989c8daa2d7dc7f2aa117ebf4094a9417628a5cb094442214cc40d394c5b", func := "descant/descantlaw22.SegmentOne", spec := "segmentOne", inPlace := ["internal/abi.NoEscape", "internal/bytealg.MakeNoZero"], unfollowed := true, recurses := true, named := ["math/bits.deBruijn32tab", "math/bits.deBruijn64tab", "descant/stretch.table"], apart := false, laid := [("math/bits.deBruijn32tab", laid_math_bits_deBruijn32tab), ("math/bits.deBruijn64tab", laid_math_bits_deBruijn64tab), ("descant/stretch.table", laid_descant_stretch_table)], narrowed := true }
def SegmentOneUptoSaid : Prop := segmentOneUptoRow.holds Tryz.pinned (OpenSpec.upto segmentOneSpec)

end Rows
end Go.Proofs.YtiokfaiioealdaaGreatDoor
