/-
  No cell of these rows narrows 'for every input' (looked for: loops, veiled, ifaces, maps, wideKeys, modest, calm, conditions, laid).
  DERIVED. THE GIVEN ROWS OF THIS SEAT. 9 by the template 'for every input the law returns true; each argument reads behind the call as it read before'; 0 by the template 'total and deterministic' (their statements: YtlabpfebdhbgiaaTotals.lean).
  GIVEN WITH THE SEED: the statements are not yours to turn. If you find one false, say at which input.
  Laid BY PROGRAM, IN A SANDBOX (cutbox-rows.mjs): the forced cells as the released guide's own fill.sh prints them over the translation 923182caed7b6d4d… (all of the seat's roots in one cut). By AI agents, Wed Nov 11 2026. No macro, syntax, notation, axiom, sorry.
-/
import Derived.Test.YtlabpfebdhbgiaaChecked
import GoSem.Claim
import GoSem.ClaimJoined
import GoSem.ClaimMapViews
import Derived.JoinedTies
import Derived.KernelRfl
namespace Go.Proofs.Ytlabpfebdhbgiaa
/- THE CELL 'sum', in the pinned program and in every row, IS THE sha256 OF THE DUMP (.gsa) THAT YtlabpfebdhbgiaaProg.lean LOADS. Nothing in Lean hashes anything: it is a label: what it is worth is what the hold of that sum in a sandbox is worth. -/
noncomputable def Try.pinned : Pinned := { name := "ytlabpfebdhbgiaa", sum := "923182caed7b6d4d733aaa763c95d7625ddaeb62be6dcaf9d6c93a8c51a97823", checked := Try.checked }
namespace Rows
def none {H : Type} : Left H := { results := [], args := [] }

/-- 'descantlaw7.Counts': WHATEVER THE INPUT: true; the input reads as it did. -/
def countsSpec : ChangeSpec := { name := "counts", fn := fun _ => fun
  | [d1, d2] => { results := [.lit (.bool true)], args := [d1, d2] }
  | _ => none }
def countsRow : OpenClaim := { program := "ytlabpfebdhbgiaa", sum := "923182caed7b6d4d733aaa763c95d7625ddaeb62be6dcaf9d6c93a8c51a97823", func := "descant/descantlaw7.Counts", spec := "counts", apart := false }
def CountsSaid : Prop := countsRow.holds Try.pinned (OpenSpec.ofChange countsSpec)

/-- ITS FALSE NEIGHBOUR: 'it returns false'. Refute it at one input. -/
def countsWrong : ChangeSpec := { name := "counts", fn := fun _ => fun
  | [d1, d2] => { results := [.lit (.bool false)], args := [d1, d2] }
  | _ => none }
def CountsWrongFalsely : Prop := countsRow.holds Try.pinned (OpenSpec.ofChange countsWrong)

/-- 'descantlaw7.CountLearns': WHATEVER THE INPUT: true; the input reads as it did. -/
def countLearnsSpec : ChangeSpec := { name := "countLearns", fn := fun _ => fun
  | [d1, d2] => { results := [.lit (.bool true)], args := [d1, d2] }
  | _ => none }
def countLearnsRow : OpenClaim := { program := "ytlabpfebdhbgiaa", sum := "923182caed7b6d4d733aaa763c95d7625ddaeb62be6dcaf9d6c93a8c51a97823", func := "descant/descantlaw7.CountLearns", spec := "countLearns", apart := false }
def CountLearnsSaid : Prop := countLearnsRow.holds Try.pinned (OpenSpec.ofChange countLearnsSpec)

/-- ITS FALSE NEIGHBOUR: 'it returns false'. Refute it at one input. -/
def countLearnsWrong : ChangeSpec := { name := "countLearns", fn := fun _ => fun
  | [d1, d2] => { results := [.lit (.bool false)], args := [d1, d2] }
  | _ => none }
def CountLearnsWrongFalsely : Prop := countLearnsRow.holds Try.pinned (OpenSpec.ofChange countLearnsWrong)

/-- 'descantlaw7.CountForms': WHATEVER THE INPUT: true; the input reads as it did. -/
def countFormsSpec : ChangeSpec := { name := "countForms", fn := fun _ => fun
  | [d1, d2] => { results := [.lit (.bool true)], args := [d1, d2] }
  | _ => none }
def countFormsRow : OpenClaim := { program := "ytlabpfebdhbgiaa", sum := "923182caed7b6d4d733aaa763c95d7625ddaeb62be6dcaf9d6c93a8c51a97823", func := "descant/descantlaw7.CountForms", spec := "countForms", apart := false }
def CountFormsSaid : Prop := countFormsRow.holds Try.pinned (OpenSpec.ofChange countFormsSpec)

/-- ITS FALSE NEIGHBOUR: 'it returns false'. Refute it at one input. -/
def countFormsWrong : ChangeSpec := { name := "countForms", fn := fun _ => fun
  | [d1, d2] => { results := [.lit (.bool false)], args := [d1, d2] }
  | _ => none }
def CountFormsWrongFalsely : Prop := countFormsRow.holds Try.pinned (OpenSpec.ofChange countFormsWrong)

/-- 'descantlaw7.CountMirror': WHATEVER THE INPUT: true; the input reads as it did. -/
def countMirrorSpec : ChangeSpec := { name := "countMirror", fn := fun _ => fun
  | [d] => { results := [.lit (.bool true)], args := [d] }
  | _ => none }
def countMirrorRow : OpenClaim := { program := "ytlabpfebdhbgiaa", sum := "923182caed7b6d4d733aaa763c95d7625ddaeb62be6dcaf9d6c93a8c51a97823", func := "descant/descantlaw7.CountMirror", spec := "countMirror", apart := false }
def CountMirrorSaid : Prop := countMirrorRow.holds Try.pinned (OpenSpec.ofChange countMirrorSpec)

/-- ITS FALSE NEIGHBOUR: 'it returns false'. Refute it at one input. -/
def countMirrorWrong : ChangeSpec := { name := "countMirror", fn := fun _ => fun
  | [d] => { results := [.lit (.bool false)], args := [d] }
  | _ => none }
def CountMirrorWrongFalsely : Prop := countMirrorRow.holds Try.pinned (OpenSpec.ofChange countMirrorWrong)

/-- 'descantlaw7.CountSteps': WHATEVER THE INPUT: true; the input reads as it did. -/
def countStepsSpec : ChangeSpec := { name := "countSteps", fn := fun _ => fun
  | [d] => { results := [.lit (.bool true)], args := [d] }
  | _ => none }
def countStepsRow : OpenClaim := { program := "ytlabpfebdhbgiaa", sum := "923182caed7b6d4d733aaa763c95d7625ddaeb62be6dcaf9d6c93a8c51a97823", func := "descant/descantlaw7.CountSteps", spec := "countSteps", apart := false }
def CountStepsSaid : Prop := countStepsRow.holds Try.pinned (OpenSpec.ofChange countStepsSpec)

/-- ITS FALSE NEIGHBOUR: 'it returns false'. Refute it at one input. -/
def countStepsWrong : ChangeSpec := { name := "countSteps", fn := fun _ => fun
  | [d] => { results := [.lit (.bool false)], args := [d] }
  | _ => none }
def CountStepsWrongFalsely : Prop := countStepsRow.holds Try.pinned (OpenSpec.ofChange countStepsWrong)

/-- 'descantlaw11.Gammas': WHATEVER THE INPUT: true; the input reads as it did. -/
def gammasSpec : ChangeSpec := { name := "gammas", fn := fun _ => fun
  | [d1, d2] => { results := [.lit (.bool true)], args := [d1, d2] }
  | _ => none }
def gammasRow : OpenClaim := { program := "ytlabpfebdhbgiaa", sum := "923182caed7b6d4d733aaa763c95d7625ddaeb62be6dcaf9d6c93a8c51a97823", func := "descant/descantlaw11.Gammas", spec := "gammas", apart := false }
def GammasSaid : Prop := gammasRow.holds Try.pinned (OpenSpec.ofChange gammasSpec)

/-- ITS FALSE NEIGHBOUR: 'it returns false'. Refute it at one input. -/
def gammasWrong : ChangeSpec := { name := "gammas", fn := fun _ => fun
  | [d1, d2] => { results := [.lit (.bool false)], args := [d1, d2] }
  | _ => none }
def GammasWrongFalsely : Prop := gammasRow.holds Try.pinned (OpenSpec.ofChange gammasWrong)

/-- 'descantlaw11.GammaForms': WHATEVER THE INPUT: true; the input reads as it did. -/
def gammaFormsSpec : ChangeSpec := { name := "gammaForms", fn := fun _ => fun
  | [d1, d2] => { results := [.lit (.bool true)], args := [d1, d2] }
  | _ => none }
def gammaFormsRow : OpenClaim := { program := "ytlabpfebdhbgiaa", sum := "923182caed7b6d4d733aaa763c95d7625ddaeb62be6dcaf9d6c93a8c51a97823", func := "descant/descantlaw11.GammaForms", spec := "gammaForms", apart := false }
def GammaFormsSaid : Prop := gammaFormsRow.holds Try.pinned (OpenSpec.ofChange gammaFormsSpec)

/-- ITS FALSE NEIGHBOUR: 'it returns false'. Refute it at one input. -/
def gammaFormsWrong : ChangeSpec := { name := "gammaForms", fn := fun _ => fun
  | [d1, d2] => { results := [.lit (.bool false)], args := [d1, d2] }
  | _ => none }
def GammaFormsWrongFalsely : Prop := gammaFormsRow.holds Try.pinned (OpenSpec.ofChange gammaFormsWrong)

/-- 'descantlaw11.GammaLong': WHATEVER THE INPUT: true; the input reads as it did. -/
def gammaLongSpec : ChangeSpec := { name := "gammaLong", fn := fun _ => fun
  | [d] => { results := [.lit (.bool true)], args := [d] }
  | _ => none }
def gammaLongRow : OpenClaim := { program := "ytlabpfebdhbgiaa", sum := "923182caed7b6d4d733aaa763c95d7625ddaeb62be6dcaf9d6c93a8c51a97823", func := "descant/descantlaw11.GammaLong", spec := "gammaLong", apart := false }
def GammaLongSaid : Prop := gammaLongRow.holds Try.pinned (OpenSpec.ofChange gammaLongSpec)

/-- ITS FALSE NEIGHBOUR: 'it returns false'. Refute it at one input. -/
def gammaLongWrong : ChangeSpec := { name := "gammaLong", fn := fun _ => fun
  | [d] => { results := [.lit (.bool false)], args := [d] }
  | _ => none }
def GammaLongWrongFalsely : Prop := gammaLongRow.holds Try.pinned (OpenSpec.ofChange gammaLongWrong)

/-- 'descantlaw11.GammaPrefix': WHATEVER THE INPUT: true; the input reads as it did. -/
def gammaPrefixSpec : ChangeSpec := { name := "gammaPrefix", fn := fun _ => fun
  | [d1, d2] => { results := [.lit (.bool true)], args := [d1, d2] }
  | _ => none }
def gammaPrefixRow : OpenClaim := { program := "ytlabpfebdhbgiaa", sum := "923182caed7b6d4d733aaa763c95d7625ddaeb62be6dcaf9d6c93a8c51a97823", func := "descant/descantlaw11.GammaPrefix", spec := "gammaPrefix", apart := false }
def GammaPrefixSaid : Prop := gammaPrefixRow.holds Try.pinned (OpenSpec.ofChange gammaPrefixSpec)

/-- ITS FALSE NEIGHBOUR: 'it returns false'. Refute it at one input. -/
def gammaPrefixWrong : ChangeSpec := { name := "gammaPrefix", fn := fun _ => fun
  | [d1, d2] => { results := [.lit (.bool false)], args := [d1, d2] }
  | _ => none }
def GammaPrefixWrongFalsely : Prop := gammaPrefixRow.holds Try.pinned (OpenSpec.ofChange gammaPrefixWrong)

/- THE SECOND FORM. 'bulk': how many values and letters a reading holds, each counted each time it is reached (what is shared counts as often as it is met; a slice's spare places count too). A statement '..UptoSaid' is the law's where the arguments, and the package variables that the reading takes, are together of bulk at most 1048576: NARROWER than '..Said'. Prove '..Said' where nothing that the law and all that it calls make is longer than what came in: it says more and counts as full. Else prove '..UptoSaid'. A law counts once. -/
mutual
def uptoBulk {H : Type} : DataW H → Nat
  | .lit (.string bytes) => bytes.length + 1
  | .lit _ => 1
  | .nil => 1
  | .ptr d => uptoBulk d + 1
  | .slice elems spare => uptoBulkAll elems + uptoBulkAll spare + 1
  | .agg parts => uptoBulkAll parts + 1
  | .iface _ d => uptoBulk d + 1
  | .map entries => uptoBulkEntries entries + 1
  | .held _ => 1
def uptoBulkAll {H : Type} : List (DataW H) → Nat
  | [] => 0
  | d :: r => uptoBulk d + uptoBulkAll r
def uptoBulkEntries {H : Type} : List (Lit × DataW H) → Nat
  | [] => 0
  | x :: r => uptoBulkEntry x + uptoBulkEntries r
def uptoBulkEntry {H : Type} : Lit × DataW H → Nat
  | (.string bytes, d) => bytes.length + uptoBulk d + 1
  | (_, d) => uptoBulk d + 1
 end
def uptoSmall : (H : Type) → List (DataW H) → Bool := fun _ ds => decide (uptoBulkAll ds ≤ 1048576)
def OpenSpec.upto (s : _root_.Go.ChangeSpec) : _root_.Go.OpenSpec := { _root_.Go.OpenSpec.ofChange s with cond := some uptoSmall }

/-- 'descantlaw7.Counts', WHERE WHAT IT READS IS OF BULK AT MOST 1048576: true; the input reads as it did. -/
def countsUptoRow : OpenClaim := { program := "ytlabpfebdhbgiaa", sum := "923182caed7b6d4d733aaa763c95d7625ddaeb62be6dcaf9d6c93a8c51a97823", func := "descant/descantlaw7.Counts", spec := "counts", apart := false, narrowed := true }
def CountsUptoSaid : Prop := countsUptoRow.holds Try.pinned (OpenSpec.upto countsSpec)

/-- 'descantlaw7.CountLearns', WHERE WHAT IT READS IS OF BULK AT MOST 1048576: true; the input reads as it did. -/
def countLearnsUptoRow : OpenClaim := { program := "ytlabpfebdhbgiaa", sum := "923182caed7b6d4d733aaa763c95d7625ddaeb62be6dcaf9d6c93a8c51a97823", func := "descant/descantlaw7.CountLearns", spec := "countLearns", apart := false, narrowed := true }
def CountLearnsUptoSaid : Prop := countLearnsUptoRow.holds Try.pinned (OpenSpec.upto countLearnsSpec)

/-- 'descantlaw7.CountForms', WHERE WHAT IT READS IS OF BULK AT MOST 1048576: true; the input reads as it did. -/
def countFormsUptoRow : OpenClaim := { program := "ytlabpfebdhbgiaa", sum := "923182caed7b6d4d733aaa763c95d7625ddaeb62be6dcaf9d6c93a8c51a97823", func := "descant/descantlaw7.CountForms", spec := "countForms", apart := false, narrowed := true }
def CountFormsUptoSaid : Prop := countFormsUptoRow.holds Try.pinned (OpenSpec.upto countFormsSpec)

/-- 'descantlaw7.CountMirror', WHERE WHAT IT READS IS OF BULK AT MOST 1048576: true; the input reads as it did. -/
def countMirrorUptoRow : OpenClaim := { program := "ytlabpfebdhbgiaa", sum := "923182caed7b6d4d733aaa763c95d7625ddaeb62be6dcaf9d6c93a8c51a97823", func := "descant/descantlaw7.CountMirror", spec := "countMirror", apart := false, narrowed := true }
def CountMirrorUptoSaid : Prop := countMirrorUptoRow.holds Try.pinned (OpenSpec.upto countMirrorSpec)

/-- 'descantlaw7.CountSteps', WHERE WHAT IT READS IS OF BULK AT MOST 1048576: true; the input reads as it did. -/
def countStepsUptoRow : OpenClaim := { program := "ytlabpfebdhbgiaa", sum := "923182caed7b6d4d733aaa763c95d7625ddaeb62be6dcaf9d6c93a8c51a97823", func := "descant/descantlaw7.CountSteps", spec := "countSteps", apart := false, narrowed := true }
def CountStepsUptoSaid : Prop := countStepsUptoRow.holds Try.pinned (OpenSpec.upto countStepsSpec)

/-- 'descantlaw11.Gammas', WHERE WHAT IT READS IS OF BULK AT MOST 1048576: true; the input reads as it did. -/
def gammasUptoRow : OpenClaim := { program := "ytlabpfebdhbgiaa", sum := "923182caed7b6d4d733aaa763c95d7625ddaeb62be6dcaf9d6c93a8c51a97823", func := "descant/descantlaw11.Gammas", spec := "gammas", apart := false, narrowed := true }
def GammasUptoSaid : Prop := gammasUptoRow.holds Try.pinned (OpenSpec.upto gammasSpec)

/-- 'descantlaw11.GammaForms', WHERE WHAT IT READS IS OF BULK AT MOST 1048576: true; the input reads as it did. -/
def gammaFormsUptoRow : OpenClaim := { program := "ytlabpfebdhbgiaa", sum := "923182caed7b6d4d733aaa763c95d7625ddaeb62be6dcaf9d6c93a8c51a97823", func := "descant/descantlaw11.GammaForms", spec := "gammaForms", apart := false, narrowed := true }
def GammaFormsUptoSaid : Prop := gammaFormsUptoRow.holds Try.pinned (OpenSpec.upto gammaFormsSpec)

/-- 'descantlaw11.GammaLong', WHERE WHAT IT READS IS OF BULK AT MOST 1048576: true; the input reads as it did. -/
def gammaLongUptoRow : OpenClaim := { program := "ytlabpfebdhbgiaa", sum := "923182caed7b6d4d733aaa763c95d7625ddaeb62be6dcaf9d6c93a8c51a97823", func := "descant/descantlaw11.GammaLong", spec := "gammaLong", apart := false, narrowed := true }
def GammaLongUptoSaid : Prop := gammaLongUptoRow.holds Try.pinned (OpenSpec.upto gammaLongSpec)

/-- 'descantlaw11.GammaPrefix', WHERE WHAT IT READS IS OF BULK AT MOST 1048576: true; the input reads as it did. -/
def gammaPrefixUptoRow : OpenClaim := { program := "ytlabpfebdhbgiaa", sum := "923182caed7b6d4d733aaa763c95d7625ddaeb62be6dcaf9d6c93a8c51a97823", func := "descant/descantlaw11.GammaPrefix", spec := "gammaPrefix", apart := false, narrowed := true }
def GammaPrefixUptoSaid : Prop := gammaPrefixUptoRow.holds Try.pinned (OpenSpec.upto gammaPrefixSpec)

end Rows
end Go.Proofs.Ytlabpfebdhbgiaa
