/-
  NARROWER THAN 'FOR EVERY INPUT', by the rows' own cells (each row's printed sentence says how): Stretches: laid · StretchRises: laid · StretchForms: laid · StretchBack: laid · StretchKnots: laid · StretchMirror: laid · Mixes: laid · MixForms: laid · MixTrains: laid · MixMore: laid · MixRow: laid · MixNearer: laid · Models: laid · ModelForms: laid · ModelOwn: laid · ModelLearns: laid · ModelEven: laid.
  DERIVED. THE GIVEN ROWS OF THIS SEAT. 17 by the template 'for every input the law returns true; each argument reads behind the call as it read before'; 0 by the template 'total and deterministic' (their statements: YtlabpfebdhbgiaaDoorTotals.lean).
  GIVEN WITH THE SEED: the statements are not yours to turn. If you find one false, say at which input.
  Laid BY PROGRAM, IN A SANDBOX (cutbox-rows.mjs): the forced cells as the released guide's own fill.sh prints them over the translation f76765ea6b02b653… (all of the seat's roots in one cut). By AI agents, Wed Nov 11 2026. No macro, syntax, notation, axiom, sorry.
-/
import Derived.Test.YtlabpfebdhbgiaaDoorChecked
import GoSem.Claim
import GoSem.ClaimJoined
import GoSem.ClaimMapViews
import Derived.JoinedTies
import Derived.KernelRfl
namespace Go.Proofs.YtlabpfebdhbgiaaDoor
/- THE CELL 'sum', in the pinned program and in every row, IS THE sha256 OF THE DUMP (.gsa) THAT YtlabpfebdhbgiaaDoorProg.lean LOADS. Nothing in Lean hashes anything: it is a label: what it is worth is what the hold of that sum in a sandbox is worth. -/
noncomputable def Tryd.pinned : Pinned := { name := "ytlabpfebdhbgiaadoor", sum := "f76765ea6b02b65386bd1c413b7ba94b4a0d1cb577dd11a38238f8d908e819da", checked := Tryd.checked }
namespace Rows
def none {H : Type} : Left H := { results := [], args := [] }

/- WHAT THE LISTED PACKAGE-LEVEL VARIABLES READ AS WHEN THE CALL BEGINS. Each datum BY PROGRAM (the guide's laid-datum.mjs) off the statement by which the dump's own 'gosem.cut.vars' lays the variable. In a bare row this is a premise. The card (YtlabpfebdhbgiaaDoorCards.lean) ties it to the program's text. -/
def laid_descant_stretch_table {H : Type} : DataW H := .agg [.lit (.int .i64 1), .lit (.int .i64 2), .lit (.int .i64 3), .lit (.int .i64 6), .lit (.int .i64 10), .lit (.int .i64 16), .lit (.int .i64 27), .lit (.int .i64 45), .lit (.int .i64 73), .lit (.int .i64 120), .lit (.int .i64 194), .lit (.int .i64 310), .lit (.int .i64 488), .lit (.int .i64 747), .lit (.int .i64 1101), .lit (.int .i64 1546), .lit (.int .i64 2047), .lit (.int .i64 2549), .lit (.int .i64 2994), .lit (.int .i64 3348), .lit (.int .i64 3607), .lit (.int .i64 3785), .lit (.int .i64 3901), .lit (.int .i64 3975), .lit (.int .i64 4022), .lit (.int .i64 4050), .lit (.int .i64 4068), .lit (.int .i64 4079), .lit (.int .i64 4085), .lit (.int .i64 4089), .lit (.int .i64 4092), .lit (.int .i64 4093), .lit (.int .i64 4094)]

/-- 'descantlaw6.Stretches': WHATEVER THE INPUT: true; the input reads as it did. -/
def stretchesSpec : ChangeSpec := { name := "stretches", fn := fun _ => fun
  | [d1, d2] => { results := [.lit (.bool true)], args := [d1, d2] }
  | _ => none }
def stretchesRow : OpenClaim := { program := "ytlabpfebdhbgiaadoor", sum := "f76765ea6b02b65386bd1c413b7ba94b4a0d1cb577dd11a38238f8d908e819da", func := "descant/descantlaw6.Stretches", spec := "stretches", unfollowed := true, recurses := true, named := ["descant/stretch.table"], apart := false, laid := [("descant/stretch.table", laid_descant_stretch_table)] }
def StretchesSaid : Prop := stretchesRow.holds Tryd.pinned (OpenSpec.ofChange stretchesSpec)

/-- ITS FALSE NEIGHBOUR: 'it returns false'. Refute it at one input. -/
def stretchesWrong : ChangeSpec := { name := "stretches", fn := fun _ => fun
  | [d1, d2] => { results := [.lit (.bool false)], args := [d1, d2] }
  | _ => none }
def StretchesWrongFalsely : Prop := stretchesRow.holds Tryd.pinned (OpenSpec.ofChange stretchesWrong)

/-- 'descantlaw6.StretchRises': WHATEVER THE INPUT: true; the input reads as it did. -/
def stretchRisesSpec : ChangeSpec := { name := "stretchRises", fn := fun _ => fun
  | [d1, d2] => { results := [.lit (.bool true)], args := [d1, d2] }
  | _ => none }
def stretchRisesRow : OpenClaim := { program := "ytlabpfebdhbgiaadoor", sum := "f76765ea6b02b65386bd1c413b7ba94b4a0d1cb577dd11a38238f8d908e819da", func := "descant/descantlaw6.StretchRises", spec := "stretchRises", unfollowed := true, recurses := true, named := ["descant/stretch.table"], apart := false, laid := [("descant/stretch.table", laid_descant_stretch_table)] }
def StretchRisesSaid : Prop := stretchRisesRow.holds Tryd.pinned (OpenSpec.ofChange stretchRisesSpec)

/-- ITS FALSE NEIGHBOUR: 'it returns false'. Refute it at one input. -/
def stretchRisesWrong : ChangeSpec := { name := "stretchRises", fn := fun _ => fun
  | [d1, d2] => { results := [.lit (.bool false)], args := [d1, d2] }
  | _ => none }
def StretchRisesWrongFalsely : Prop := stretchRisesRow.holds Tryd.pinned (OpenSpec.ofChange stretchRisesWrong)

/-- 'descantlaw6.StretchForms': WHATEVER THE INPUT: true; the input reads as it did. -/
def stretchFormsSpec : ChangeSpec := { name := "stretchForms", fn := fun _ => fun
  | [d] => { results := [.lit (.bool true)], args := [d] }
  | _ => none }
def stretchFormsRow : OpenClaim := { program := "ytlabpfebdhbgiaadoor", sum := "f76765ea6b02b65386bd1c413b7ba94b4a0d1cb577dd11a38238f8d908e819da", func := "descant/descantlaw6.StretchForms", spec := "stretchForms", unfollowed := true, recurses := true, named := ["descant/stretch.table"], apart := false, laid := [("descant/stretch.table", laid_descant_stretch_table)] }
def StretchFormsSaid : Prop := stretchFormsRow.holds Tryd.pinned (OpenSpec.ofChange stretchFormsSpec)

/-- ITS FALSE NEIGHBOUR: 'it returns false'. Refute it at one input. -/
def stretchFormsWrong : ChangeSpec := { name := "stretchForms", fn := fun _ => fun
  | [d] => { results := [.lit (.bool false)], args := [d] }
  | _ => none }
def StretchFormsWrongFalsely : Prop := stretchFormsRow.holds Tryd.pinned (OpenSpec.ofChange stretchFormsWrong)

/-- 'descantlaw6.StretchBack': WHATEVER THE INPUT: true; the input reads as it did. -/
def stretchBackSpec : ChangeSpec := { name := "stretchBack", fn := fun _ => fun
  | [d] => { results := [.lit (.bool true)], args := [d] }
  | _ => none }
def stretchBackRow : OpenClaim := { program := "ytlabpfebdhbgiaadoor", sum := "f76765ea6b02b65386bd1c413b7ba94b4a0d1cb577dd11a38238f8d908e819da", func := "descant/descantlaw6.StretchBack", spec := "stretchBack", unfollowed := true, recurses := true, named := ["descant/stretch.table"], apart := false, laid := [("descant/stretch.table", laid_descant_stretch_table)] }
def StretchBackSaid : Prop := stretchBackRow.holds Tryd.pinned (OpenSpec.ofChange stretchBackSpec)

/-- ITS FALSE NEIGHBOUR: 'it returns false'. Refute it at one input. -/
def stretchBackWrong : ChangeSpec := { name := "stretchBack", fn := fun _ => fun
  | [d] => { results := [.lit (.bool false)], args := [d] }
  | _ => none }
def StretchBackWrongFalsely : Prop := stretchBackRow.holds Tryd.pinned (OpenSpec.ofChange stretchBackWrong)

/-- 'descantlaw6.StretchKnots': WHATEVER THE INPUT: true; the input reads as it did. -/
def stretchKnotsSpec : ChangeSpec := { name := "stretchKnots", fn := fun _ => fun
  | [d] => { results := [.lit (.bool true)], args := [d] }
  | _ => none }
def stretchKnotsRow : OpenClaim := { program := "ytlabpfebdhbgiaadoor", sum := "f76765ea6b02b65386bd1c413b7ba94b4a0d1cb577dd11a38238f8d908e819da", func := "descant/descantlaw6.StretchKnots", spec := "stretchKnots", unfollowed := true, recurses := true, named := ["descant/stretch.table"], apart := false, laid := [("descant/stretch.table", laid_descant_stretch_table)] }
def StretchKnotsSaid : Prop := stretchKnotsRow.holds Tryd.pinned (OpenSpec.ofChange stretchKnotsSpec)

/-- ITS FALSE NEIGHBOUR: 'it returns false'. Refute it at one input. -/
def stretchKnotsWrong : ChangeSpec := { name := "stretchKnots", fn := fun _ => fun
  | [d] => { results := [.lit (.bool false)], args := [d] }
  | _ => none }
def StretchKnotsWrongFalsely : Prop := stretchKnotsRow.holds Tryd.pinned (OpenSpec.ofChange stretchKnotsWrong)

/-- 'descantlaw6.StretchMirror': WHATEVER THE INPUT: true; the input reads as it did. -/
def stretchMirrorSpec : ChangeSpec := { name := "stretchMirror", fn := fun _ => fun
  | [d] => { results := [.lit (.bool true)], args := [d] }
  | _ => none }
def stretchMirrorRow : OpenClaim := { program := "ytlabpfebdhbgiaadoor", sum := "f76765ea6b02b65386bd1c413b7ba94b4a0d1cb577dd11a38238f8d908e819da", func := "descant/descantlaw6.StretchMirror", spec := "stretchMirror", unfollowed := true, recurses := true, named := ["descant/stretch.table"], apart := false, laid := [("descant/stretch.table", laid_descant_stretch_table)] }
def StretchMirrorSaid : Prop := stretchMirrorRow.holds Tryd.pinned (OpenSpec.ofChange stretchMirrorSpec)

/-- ITS FALSE NEIGHBOUR: 'it returns false'. Refute it at one input. -/
def stretchMirrorWrong : ChangeSpec := { name := "stretchMirror", fn := fun _ => fun
  | [d] => { results := [.lit (.bool false)], args := [d] }
  | _ => none }
def StretchMirrorWrongFalsely : Prop := stretchMirrorRow.holds Tryd.pinned (OpenSpec.ofChange stretchMirrorWrong)

/-- 'descantlaw8.Mixes': WHATEVER THE INPUT: true; the input reads as it did. -/
def mixesSpec : ChangeSpec := { name := "mixes", fn := fun _ => fun
  | [d1, d2, d3] => { results := [.lit (.bool true)], args := [d1, d2, d3] }
  | _ => none }
def mixesRow : OpenClaim := { program := "ytlabpfebdhbgiaadoor", sum := "f76765ea6b02b65386bd1c413b7ba94b4a0d1cb577dd11a38238f8d908e819da", func := "descant/descantlaw8.Mixes", spec := "mixes", named := ["descant/stretch.table"], apart := false, laid := [("descant/stretch.table", laid_descant_stretch_table)] }
def MixesSaid : Prop := mixesRow.holds Tryd.pinned (OpenSpec.ofChange mixesSpec)

/-- ITS FALSE NEIGHBOUR: 'it returns false'. Refute it at one input. -/
def mixesWrong : ChangeSpec := { name := "mixes", fn := fun _ => fun
  | [d1, d2, d3] => { results := [.lit (.bool false)], args := [d1, d2, d3] }
  | _ => none }
def MixesWrongFalsely : Prop := mixesRow.holds Tryd.pinned (OpenSpec.ofChange mixesWrong)

/-- 'descantlaw8.MixForms': WHATEVER THE INPUT: true; the input reads as it did. -/
def mixFormsSpec : ChangeSpec := { name := "mixForms", fn := fun _ => fun
  | [d1, d2] => { results := [.lit (.bool true)], args := [d1, d2] }
  | _ => none }
def mixFormsRow : OpenClaim := { program := "ytlabpfebdhbgiaadoor", sum := "f76765ea6b02b65386bd1c413b7ba94b4a0d1cb577dd11a38238f8d908e819da", func := "descant/descantlaw8.MixForms", spec := "mixForms", named := ["descant/stretch.table"], apart := false, laid := [("descant/stretch.table", laid_descant_stretch_table)] }
def MixFormsSaid : Prop := mixFormsRow.holds Tryd.pinned (OpenSpec.ofChange mixFormsSpec)

/-- ITS FALSE NEIGHBOUR: 'it returns false'. Refute it at one input. -/
def mixFormsWrong : ChangeSpec := { name := "mixForms", fn := fun _ => fun
  | [d1, d2] => { results := [.lit (.bool false)], args := [d1, d2] }
  | _ => none }
def MixFormsWrongFalsely : Prop := mixFormsRow.holds Tryd.pinned (OpenSpec.ofChange mixFormsWrong)

/-- 'descantlaw8.MixTrains': WHATEVER THE INPUT: true; the input reads as it did. -/
def mixTrainsSpec : ChangeSpec := { name := "mixTrains", fn := fun _ => fun
  | [d1, d2] => { results := [.lit (.bool true)], args := [d1, d2] }
  | _ => none }
def mixTrainsRow : OpenClaim := { program := "ytlabpfebdhbgiaadoor", sum := "f76765ea6b02b65386bd1c413b7ba94b4a0d1cb577dd11a38238f8d908e819da", func := "descant/descantlaw8.MixTrains", spec := "mixTrains", named := ["descant/stretch.table"], apart := false, laid := [("descant/stretch.table", laid_descant_stretch_table)] }
def MixTrainsSaid : Prop := mixTrainsRow.holds Tryd.pinned (OpenSpec.ofChange mixTrainsSpec)

/-- ITS FALSE NEIGHBOUR: 'it returns false'. Refute it at one input. -/
def mixTrainsWrong : ChangeSpec := { name := "mixTrains", fn := fun _ => fun
  | [d1, d2] => { results := [.lit (.bool false)], args := [d1, d2] }
  | _ => none }
def MixTrainsWrongFalsely : Prop := mixTrainsRow.holds Tryd.pinned (OpenSpec.ofChange mixTrainsWrong)

/-- 'descantlaw8.MixMore': WHATEVER THE INPUT: true; the input reads as it did. -/
def mixMoreSpec : ChangeSpec := { name := "mixMore", fn := fun _ => fun
  | [d1, d2, d3, d4] => { results := [.lit (.bool true)], args := [d1, d2, d3, d4] }
  | _ => none }
def mixMoreRow : OpenClaim := { program := "ytlabpfebdhbgiaadoor", sum := "f76765ea6b02b65386bd1c413b7ba94b4a0d1cb577dd11a38238f8d908e819da", func := "descant/descantlaw8.MixMore", spec := "mixMore", named := ["descant/stretch.table"], apart := false, laid := [("descant/stretch.table", laid_descant_stretch_table)] }
def MixMoreSaid : Prop := mixMoreRow.holds Tryd.pinned (OpenSpec.ofChange mixMoreSpec)

/-- ITS FALSE NEIGHBOUR: 'it returns false'. Refute it at one input. -/
def mixMoreWrong : ChangeSpec := { name := "mixMore", fn := fun _ => fun
  | [d1, d2, d3, d4] => { results := [.lit (.bool false)], args := [d1, d2, d3, d4] }
  | _ => none }
def MixMoreWrongFalsely : Prop := mixMoreRow.holds Tryd.pinned (OpenSpec.ofChange mixMoreWrong)

/-- 'descantlaw8.MixRow': WHATEVER THE INPUT: true; the input reads as it did. -/
def mixRowSpec : ChangeSpec := { name := "mixRow", fn := fun _ => fun
  | [d1, d2, d3] => { results := [.lit (.bool true)], args := [d1, d2, d3] }
  | _ => none }
def mixRowRow : OpenClaim := { program := "ytlabpfebdhbgiaadoor", sum := "f76765ea6b02b65386bd1c413b7ba94b4a0d1cb577dd11a38238f8d908e819da", func := "descant/descantlaw8.MixRow", spec := "mixRow", named := ["descant/stretch.table"], apart := false, laid := [("descant/stretch.table", laid_descant_stretch_table)] }
def MixRowSaid : Prop := mixRowRow.holds Tryd.pinned (OpenSpec.ofChange mixRowSpec)

/-- ITS FALSE NEIGHBOUR: 'it returns false'. Refute it at one input. -/
def mixRowWrong : ChangeSpec := { name := "mixRow", fn := fun _ => fun
  | [d1, d2, d3] => { results := [.lit (.bool false)], args := [d1, d2, d3] }
  | _ => none }
def MixRowWrongFalsely : Prop := mixRowRow.holds Tryd.pinned (OpenSpec.ofChange mixRowWrong)

/-- 'descantlaw8.MixNearer': WHATEVER THE INPUT: true; the input reads as it did. -/
def mixNearerSpec : ChangeSpec := { name := "mixNearer", fn := fun _ => fun
  | [d1, d2] => { results := [.lit (.bool true)], args := [d1, d2] }
  | _ => none }
def mixNearerRow : OpenClaim := { program := "ytlabpfebdhbgiaadoor", sum := "f76765ea6b02b65386bd1c413b7ba94b4a0d1cb577dd11a38238f8d908e819da", func := "descant/descantlaw8.MixNearer", spec := "mixNearer", named := ["descant/stretch.table"], apart := false, laid := [("descant/stretch.table", laid_descant_stretch_table)] }
def MixNearerSaid : Prop := mixNearerRow.holds Tryd.pinned (OpenSpec.ofChange mixNearerSpec)

/-- ITS FALSE NEIGHBOUR: 'it returns false'. Refute it at one input. -/
def mixNearerWrong : ChangeSpec := { name := "mixNearer", fn := fun _ => fun
  | [d1, d2] => { results := [.lit (.bool false)], args := [d1, d2] }
  | _ => none }
def MixNearerWrongFalsely : Prop := mixNearerRow.holds Tryd.pinned (OpenSpec.ofChange mixNearerWrong)

/-- 'descantlaw9.Models': WHATEVER THE INPUT: true; the input reads as it did. -/
def modelsSpec : ChangeSpec := { name := "models", fn := fun _ => fun
  | [d1, d2, d3] => { results := [.lit (.bool true)], args := [d1, d2, d3] }
  | _ => none }
def modelsRow : OpenClaim := { program := "ytlabpfebdhbgiaadoor", sum := "f76765ea6b02b65386bd1c413b7ba94b4a0d1cb577dd11a38238f8d908e819da", func := "descant/descantlaw9.Models", spec := "models", unfollowed := true, recurses := true, named := ["descant/stretch.table"], apart := false, laid := [("descant/stretch.table", laid_descant_stretch_table)] }
def ModelsSaid : Prop := modelsRow.holds Tryd.pinned (OpenSpec.ofChange modelsSpec)

/-- ITS FALSE NEIGHBOUR: 'it returns false'. Refute it at one input. -/
def modelsWrong : ChangeSpec := { name := "models", fn := fun _ => fun
  | [d1, d2, d3] => { results := [.lit (.bool false)], args := [d1, d2, d3] }
  | _ => none }
def ModelsWrongFalsely : Prop := modelsRow.holds Tryd.pinned (OpenSpec.ofChange modelsWrong)

/-- 'descantlaw9.ModelForms': WHATEVER THE INPUT: true; the input reads as it did. -/
def modelFormsSpec : ChangeSpec := { name := "modelForms", fn := fun _ => fun
  | [d1, d2] => { results := [.lit (.bool true)], args := [d1, d2] }
  | _ => none }
def modelFormsRow : OpenClaim := { program := "ytlabpfebdhbgiaadoor", sum := "f76765ea6b02b65386bd1c413b7ba94b4a0d1cb577dd11a38238f8d908e819da", func := "descant/descantlaw9.ModelForms", spec := "modelForms", unfollowed := true, recurses := true, named := ["descant/stretch.table"], apart := false, laid := [("descant/stretch.table", laid_descant_stretch_table)] }
def ModelFormsSaid : Prop := modelFormsRow.holds Tryd.pinned (OpenSpec.ofChange modelFormsSpec)

/-- ITS FALSE NEIGHBOUR: 'it returns false'. Refute it at one input. -/
def modelFormsWrong : ChangeSpec := { name := "modelForms", fn := fun _ => fun
  | [d1, d2] => { results := [.lit (.bool false)], args := [d1, d2] }
  | _ => none }
def ModelFormsWrongFalsely : Prop := modelFormsRow.holds Tryd.pinned (OpenSpec.ofChange modelFormsWrong)

/-- 'descantlaw9.ModelOwn': WHATEVER THE INPUT: true; the input reads as it did. -/
def modelOwnSpec : ChangeSpec := { name := "modelOwn", fn := fun _ => fun
  | [d1, d2, d3] => { results := [.lit (.bool true)], args := [d1, d2, d3] }
  | _ => none }
def modelOwnRow : OpenClaim := { program := "ytlabpfebdhbgiaadoor", sum := "f76765ea6b02b65386bd1c413b7ba94b4a0d1cb577dd11a38238f8d908e819da", func := "descant/descantlaw9.ModelOwn", spec := "modelOwn", unfollowed := true, recurses := true, named := ["descant/stretch.table"], apart := false, laid := [("descant/stretch.table", laid_descant_stretch_table)] }
def ModelOwnSaid : Prop := modelOwnRow.holds Tryd.pinned (OpenSpec.ofChange modelOwnSpec)

/-- ITS FALSE NEIGHBOUR: 'it returns false'. Refute it at one input. -/
def modelOwnWrong : ChangeSpec := { name := "modelOwn", fn := fun _ => fun
  | [d1, d2, d3] => { results := [.lit (.bool false)], args := [d1, d2, d3] }
  | _ => none }
def ModelOwnWrongFalsely : Prop := modelOwnRow.holds Tryd.pinned (OpenSpec.ofChange modelOwnWrong)

/-- 'descantlaw9.ModelLearns': WHATEVER THE INPUT: true; the input reads as it did. -/
def modelLearnsSpec : ChangeSpec := { name := "modelLearns", fn := fun _ => fun
  | [d1, d2] => { results := [.lit (.bool true)], args := [d1, d2] }
  | _ => none }
def modelLearnsRow : OpenClaim := { program := "ytlabpfebdhbgiaadoor", sum := "f76765ea6b02b65386bd1c413b7ba94b4a0d1cb577dd11a38238f8d908e819da", func := "descant/descantlaw9.ModelLearns", spec := "modelLearns", unfollowed := true, recurses := true, named := ["descant/stretch.table"], apart := false, laid := [("descant/stretch.table", laid_descant_stretch_table)] }
def ModelLearnsSaid : Prop := modelLearnsRow.holds Tryd.pinned (OpenSpec.ofChange modelLearnsSpec)

/-- ITS FALSE NEIGHBOUR: 'it returns false'. Refute it at one input. -/
def modelLearnsWrong : ChangeSpec := { name := "modelLearns", fn := fun _ => fun
  | [d1, d2] => { results := [.lit (.bool false)], args := [d1, d2] }
  | _ => none }
def ModelLearnsWrongFalsely : Prop := modelLearnsRow.holds Tryd.pinned (OpenSpec.ofChange modelLearnsWrong)

/-- 'descantlaw9.ModelEven': WHATEVER THE INPUT: true; the input reads as it did. -/
def modelEvenSpec : ChangeSpec := { name := "modelEven", fn := fun _ => fun
  | [d1, d2] => { results := [.lit (.bool true)], args := [d1, d2] }
  | _ => none }
def modelEvenRow : OpenClaim := { program := "ytlabpfebdhbgiaadoor", sum := "f76765ea6b02b65386bd1c413b7ba94b4a0d1cb577dd11a38238f8d908e819da", func := "descant/descantlaw9.ModelEven", spec := "modelEven", unfollowed := true, recurses := true, named := ["descant/stretch.table"], apart := false, laid := [("descant/stretch.table", laid_descant_stretch_table)] }
def ModelEvenSaid : Prop := modelEvenRow.holds Tryd.pinned (OpenSpec.ofChange modelEvenSpec)

/-- ITS FALSE NEIGHBOUR: 'it returns false'. Refute it at one input. -/
def modelEvenWrong : ChangeSpec := { name := "modelEven", fn := fun _ => fun
  | [d1, d2] => { results := [.lit (.bool false)], args := [d1, d2] }
  | _ => none }
def ModelEvenWrongFalsely : Prop := modelEvenRow.holds Tryd.pinned (OpenSpec.ofChange modelEvenWrong)

/- THE SECOND FORM. 'bulk': how many values and letters a reading holds, each counted each time it is reached (what is shared counts as often as it is met; a slice's spare places count too). A statement '..UptoSaid' is the law's where the arguments, and the package variables that the reading takes, are together of bulk at most 1048576: NARROWER than '..Said'. Prove '..Said' where nothing that the law and all that it calls make is longer than what came in: it says more and counts as full. Else prove '..UptoSaid'. A law counts once. -/
mutual
def uptoBulk {H : Type} : DataW H → Nat
  | .lit (.string bytes) => bytes.length + 1
  | .lit _ => 1
  | .nil => 1
  | .ptr d => uptoBulk d + 1
  | .slice elems spare => uptoBulkAll elems + uptoBulkAll spare + 1
  | .agg parts => uptoBulkAll parts + 1
  | .iface _ d => uptoBulk d + 1
  | .map entries => uptoBulkEntries entries + 1
  | .held _ => 1
def uptoBulkAll {H : Type} : List (DataW H) → Nat
  | [] => 0
  | d :: r => uptoBulk d + uptoBulkAll r
def uptoBulkEntries {H : Type} : List (Lit × DataW H) → Nat
  | [] => 0
  | x :: r => uptoBulkEntry x + uptoBulkEntries r
def uptoBulkEntry {H : Type} : Lit × DataW H → Nat
  | (.string bytes, d) => bytes.length + uptoBulk d + 1
  | (_, d) => uptoBulk d + 1
 end
def uptoSmall : (H : Type) → List (DataW H) → Bool := fun _ ds => decide (uptoBulkAll ds ≤ 1048576)
def OpenSpec.upto (s : _root_.Go.ChangeSpec) : _root_.Go.OpenSpec := { _root_.Go.OpenSpec.ofChange s with cond := some uptoSmall }

/-- 'descantlaw6.Stretches', WHERE WHAT IT READS IS OF BULK AT MOST 1048576: true; the input reads as it did. -/
def stretchesUptoRow : OpenClaim := { program := "ytlabpfebdhbgiaadoor", sum := "f76765ea6b02b65386bd1c413b7ba94b4a0d1cb577dd11a38238f8d908e819da", func := "descant/descantlaw6.Stretches", spec := "stretches", unfollowed := true, recurses := true, named := ["descant/stretch.table"], apart := false, laid := [("descant/stretch.table", laid_descant_stretch_table)], narrowed := true }
def StretchesUptoSaid : Prop := stretchesUptoRow.holds Tryd.pinned (OpenSpec.upto stretchesSpec)

/-- 'descantlaw6.StretchRises', WHERE WHAT IT READS IS OF BULK AT MOST 1048576: true; the input reads as it did. -/
def stretchRisesUptoRow : OpenClaim := { program := "ytlabpfebdhbgiaadoor", sum := "f76765ea6b02b65386bd1c413b7ba94b4a0d1cb577dd11a38238f8d908e819da", func := "descant/descantlaw6.StretchRises", spec := "stretchRises", unfollowed := true, recurses := true, named := ["descant/stretch.table"], apart := false, laid := [("descant/stretch.table", laid_descant_stretch_table)], narrowed := true }
def StretchRisesUptoSaid : Prop := stretchRisesUptoRow.holds Tryd.pinned (OpenSpec.upto stretchRisesSpec)

/-- 'descantlaw6.StretchForms', WHERE WHAT IT READS IS OF BULK AT MOST 1048576: true; the input reads as it did. -/
def stretchFormsUptoRow : OpenClaim := { program := "ytlabpfebdhbgiaadoor", sum := "f76765ea6b02b65386bd1c413b7ba94b4a0d1cb577dd11a38238f8d908e819da", func := "descant/descantlaw6.StretchForms", spec := "stretchForms", unfollowed := true, recurses := true, named := ["descant/stretch.table"], apart := false, laid := [("descant/stretch.table", laid_descant_stretch_table)], narrowed := true }
def StretchFormsUptoSaid : Prop := stretchFormsUptoRow.holds Tryd.pinned (OpenSpec.upto stretchFormsSpec)

/-- 'descantlaw6.StretchBack', WHERE WHAT IT READS IS OF BULK AT MOST 1048576: true; the input reads as it did. -/
def stretchBackUptoRow : OpenClaim := { program := "ytlabpfebdhbgiaadoor", sum := "f76765ea6b02b65386bd1c413b7ba94b4a0d1cb577dd11a38238f8d908e819da", func := "descant/descantlaw6.StretchBack", spec := "stretchBack", unfollowed := true, recurses := true, named := ["descant/stretch.table"], apart := false, laid := [("descant/stretch.table", laid_descant_stretch_table)], narrowed := true }
def StretchBackUptoSaid : Prop := stretchBackUptoRow.holds Tryd.pinned (OpenSpec.upto stretchBackSpec)

/-- 'descantlaw6.StretchKnots', WHERE WHAT IT READS IS OF BULK AT MOST 1048576: true; the input reads as it did. -/
def stretchKnotsUptoRow : OpenClaim := { program := "ytlabpfebdhbgiaadoor", sum := "f76765ea6b02b65386bd1c413b7ba94b4a0d1cb577dd11a38238f8d908e819da", func := "descant/descantlaw6.StretchKnots", spec := "stretchKnots", unfollowed := true, recurses := true, named := ["descant/stretch.table"], apart := false, laid := [("descant/stretch.table", laid_descant_stretch_table)], narrowed := true }
def StretchKnotsUptoSaid : Prop := stretchKnotsUptoRow.holds Tryd.pinned (OpenSpec.upto stretchKnotsSpec)

/-- 'descantlaw6.StretchMirror', WHERE WHAT IT READS IS OF BULK AT MOST 1048576: true; the input reads as it did. -/
def stretchMirrorUptoRow : OpenClaim := { program := "ytlabpfebdhbgiaadoor", sum := "f76765ea6b02b65386bd1c413b7ba94b4a0d1cb577dd11a38238f8d908e819da", func := "descant/descantlaw6.StretchMirror", spec := "stretchMirror", unfollowed := true, recurses := true, named := ["descant/stretch.table"], apart := false, laid := [("descant/stretch.table", laid_descant_stretch_table)], narrowed := true }
def StretchMirrorUptoSaid : Prop := stretchMirrorUptoRow.holds Tryd.pinned (OpenSpec.upto stretchMirrorSpec)

/-- 'descantlaw8.Mixes', WHERE WHAT IT READS IS OF BULK AT MOST 1048576: true; the input reads as it did. -/
def mixesUptoRow : OpenClaim := { program := "ytlabpfebdhbgiaadoor", sum := "f76765ea6b02b65386bd1c413b7ba94b4a0d1cb577dd11a38238f8d908e819da", func := "descant/descantlaw8.Mixes", spec := "mixes", named := ["descant/stretch.table"], apart := false, laid := [("descant/stretch.table", laid_descant_stretch_table)], narrowed := true }
def MixesUptoSaid : Prop := mixesUptoRow.holds Tryd.pinned (OpenSpec.upto mixesSpec)

/-- 'descantlaw8.MixForms', WHERE WHAT IT READS IS OF BULK AT MOST 1048576: true; the input reads as it did. -/
def mixFormsUptoRow : OpenClaim := { program := "ytlabpfebdhbgiaadoor", sum := "f76765ea6b02b65386bd1c413b7ba94b4a0d1cb577dd11a38238f8d908e819da", func := "descant/descantlaw8.MixForms", spec := "mixForms", named := ["descant/stretch.table"], apart := false, laid := [("descant/stretch.table", laid_descant_stretch_table)], narrowed := true }
def MixFormsUptoSaid : Prop := mixFormsUptoRow.holds Tryd.pinned (OpenSpec.upto mixFormsSpec)

/-- 'descantlaw8.MixTrains', WHERE WHAT IT READS IS OF BULK AT MOST 1048576: true; the input reads as it did. -/
def mixTrainsUptoRow : OpenClaim := { program := "ytlabpfebdhbgiaadoor", sum := "f76765ea6b02b65386bd1c413b7ba94b4a0d1cb577dd11a38238f8d908e819da", func := "descant/descantlaw8.MixTrains", spec := "mixTrains", named := ["descant/stretch.table"], apart := false, laid := [("descant/stretch.table", laid_descant_stretch_table)], narrowed := true }
def MixTrainsUptoSaid : Prop := mixTrainsUptoRow.holds Tryd.pinned (OpenSpec.upto mixTrainsSpec)

/-- 'descantlaw8.MixMore', WHERE WHAT IT READS IS OF BULK AT MOST 1048576: true; the input reads as it did. -/
def mixMoreUptoRow : OpenClaim := { program := "ytlabpfebdhbgiaadoor", sum := "f76765ea6b02b65386bd1c413b7ba94b4a0d1cb577dd11a38238f8d908e819da", func := "descant/descantlaw8.MixMore", spec := "mixMore", named := ["descant/stretch.table"], apart := false, laid := [("descant/stretch.table", laid_descant_stretch_table)], narrowed := true }
def MixMoreUptoSaid : Prop := mixMoreUptoRow.holds Tryd.pinned (OpenSpec.upto mixMoreSpec)

/-- 'descantlaw8.MixRow', WHERE WHAT IT READS IS OF BULK AT MOST 1048576: true; the input reads as it did. -/
def mixRowUptoRow : OpenClaim := { program := "ytlabpfebdhbgiaadoor", sum := "f76765ea6b02b65386bd1c413b7ba94b4a0d1cb577dd11a38238f8d908e819da", func := "descant/descantlaw8.MixRow", spec := "mixRow", named := ["descant/stretch.table"], apart := false, laid := [("descant/stretch.table", laid_descant_stretch_table)], narrowed := true }
def MixRowUptoSaid : Prop := mixRowUptoRow.holds Tryd.pinned (OpenSpec.upto mixRowSpec)

/-- 'descantlaw8.MixNearer', WHERE WHAT IT READS IS OF BULK AT MOST 1048576: true; the input reads as it did. -/
def mixNearerUptoRow : OpenClaim := { program := "ytlabpfebdhbgiaadoor", sum := "f76765ea6b02b65386bd1c413b7ba94b4a0d1cb577dd11a38238f8d908e819da", func := "descant/descantlaw8.MixNearer", spec := "mixNearer", named := ["descant/stretch.table"], apart := false, laid := [("descant/stretch.table", laid_descant_stretch_table)], narrowed := true }
def MixNearerUptoSaid : Prop := mixNearerUptoRow.holds Tryd.pinned (OpenSpec.upto mixNearerSpec)

/-- 'descantlaw9.Models', WHERE WHAT IT READS IS OF BULK AT MOST 1048576: true; the input reads as it did. -/
def modelsUptoRow : OpenClaim := { program := "ytlabpfebdhbgiaadoor", sum := "f76765ea6b02b65386bd1c413b7ba94b4a0d1cb577dd11a38238f8d908e819da", func := "descant/descantlaw9.Models", spec := "models", unfollowed := true, recurses := true, named := ["descant/stretch.table"], apart := false, laid := [("descant/stretch.table", laid_descant_stretch_table)], narrowed := true }
def ModelsUptoSaid : Prop := modelsUptoRow.holds Tryd.pinned (OpenSpec.upto modelsSpec)

/-- 'descantlaw9.ModelForms', WHERE WHAT IT READS IS OF BULK AT MOST 1048576: true; the input reads as it did. -/
def modelFormsUptoRow : OpenClaim := { program := "ytlabpfebdhbgiaadoor", sum := "f76765ea6b02b65386bd1c413b7ba94b4a0d1cb577dd11a38238f8d908e819da", func := "descant/descantlaw9.ModelForms", spec := "modelForms", unfollowed := true, recurses := true, named := ["descant/stretch.table"], apart := false, laid := [("descant/stretch.table", laid_descant_stretch_table)], narrowed := true }
def ModelFormsUptoSaid : Prop := modelFormsUptoRow.holds Tryd.pinned (OpenSpec.upto modelFormsSpec)

/-- 'descantlaw9.ModelOwn', WHERE WHAT IT READS IS OF BULK AT MOST 1048576: true; the input reads as it did. -/
def modelOwnUptoRow : OpenClaim := { program := "ytlabpfebdhbgiaadoor", sum := "f76765ea6b02b65386bd1c413b7ba94b4a0d1cb577dd11a38238f8d908e819da", func := "descant/descantlaw9.ModelOwn", spec := "modelOwn", unfollowed := true, recurses := true, named := ["descant/stretch.table"], apart := false, laid := [("descant/stretch.table", laid_descant_stretch_table)], narrowed := true }
def ModelOwnUptoSaid : Prop := modelOwnUptoRow.holds Tryd.pinned (OpenSpec.upto modelOwnSpec)

/-- 'descantlaw9.ModelLearns', WHERE WHAT IT READS IS OF BULK AT MOST 1048576: true; the input reads as it did. -/
def modelLearnsUptoRow : OpenClaim := { program := "ytlabpfebdhbgiaadoor", sum := "f76765ea6b02b65386bd1c413b7ba94b4a0d1cb577dd11a38238f8d908e819da", func := "descant/descantlaw9.ModelLearns", spec := "modelLearns", unfollowed := true, recurses := true, named := ["descant/stretch.table"], apart := false, laid := [("descant/stretch.table", laid_descant_stretch_table)], narrowed := true }
def ModelLearnsUptoSaid : Prop := modelLearnsUptoRow.holds Tryd.pinned (OpenSpec.upto modelLearnsSpec)

/-- 'descantlaw9.ModelEven', WHERE WHAT IT READS IS OF BULK AT MOST 1048576: true; the input reads as it did. -/
def modelEvenUptoRow : OpenClaim := { program := "ytlabpfebdhbgiaadoor", sum := "f76765ea6b02b65386bd1c413b7ba94b4a0d1cb577dd11a38238f8d908e819da", func := "descant/descantlaw9.ModelEven", spec := "modelEven", unfollowed := true, recurses := true, named := ["descant/stretch.table"], apart := false, laid := [("descant/stretch.table", laid_descant_stretch_table)], narrowed := true }
def ModelEvenUptoSaid : Prop := modelEvenUptoRow.holds Tryd.pinned (OpenSpec.upto modelEvenSpec)

end Rows
end Go.Proofs.YtlabpfebdhbgiaaDoor
