/-
  No cell of these rows narrows 'for every input' (looked for: loops, veiled, ifaces, maps, wideKeys, modest, calm, conditions, laid).
  DERIVED. THE GIVEN ROWS OF THIS SEAT. 5 by the template 'for every input the law returns true; each argument reads behind the call as it read before'; 0 by the template 'total and deterministic' (their statements: YtokegkpbbhegpaaTotals.lean).
  GIVEN WITH THE SEED: the statements are not yours to turn. If you find one false, say at which input.
  Laid BY PROGRAM, IN A SANDBOX (cutbox-rows.mjs): the forced cells as the released guide's own fill.sh prints them over the translation 8ca20503f542ac24… (all of the seat's roots in one cut). By AI agents, Wed Nov 11 2026. No macro, syntax, notation, axiom, sorry.
-/
import Derived.Test.YtokegkpbbhegpaaChecked
import GoSem.Claim
import GoSem.ClaimJoined
import GoSem.ClaimMapViews
import Derived.JoinedTies
import Derived.KernelRfl
namespace Go.Proofs.Ytokegkpbbhegpaa
/- THE CELL 'sum', in the pinned program and in every row, IS THE sha256 OF THE DUMP (.gsa) THAT YtokegkpbbhegpaaProg.lean LOADS. Nothing in Lean hashes anything: it is a label: what it is worth is what the hold of that sum in a sandbox is worth. -/
noncomputable def Try.pinned : Pinned := { name := "ytokegkpbbhegpaa", sum := "8ca20503f542ac24e20ca29a006394adc4d44ede9f1408829fc01d3202837e20", checked := Try.checked }
namespace Rows
def none {H : Type} : Left H := { results := [], args := [] }

/-- 'descantlaw23.Streams': WHATEVER THE INPUT: true; the input reads as it did. -/
def streamsSpec : ChangeSpec := { name := "streams", fn := fun _ => fun
  | [d1, d2] => { results := [.lit (.bool true)], args := [d1, d2] }
  | _ => none }
def streamsRow : OpenClaim := { program := "ytokegkpbbhegpaa", sum := "8ca20503f542ac24e20ca29a006394adc4d44ede9f1408829fc01d3202837e20", func := "descant/descantlaw23.Streams", spec := "streams", inPlace := ["internal/abi.NoEscape", "internal/bytealg.MakeNoZero"], unfollowed := true, recurses := true, apart := false }
def StreamsSaid : Prop := streamsRow.holds Try.pinned (OpenSpec.ofChange streamsSpec)

/-- ITS FALSE NEIGHBOUR: 'it returns false'. Refute it at one input. -/
def streamsWrong : ChangeSpec := { name := "streams", fn := fun _ => fun
  | [d1, d2] => { results := [.lit (.bool false)], args := [d1, d2] }
  | _ => none }
def StreamsWrongFalsely : Prop := streamsRow.holds Try.pinned (OpenSpec.ofChange streamsWrong)

/-- 'descantlaw23.StreamForms': WHATEVER THE INPUT: true; the input reads as it did. -/
def streamFormsSpec : ChangeSpec := { name := "streamForms", fn := fun _ => fun
  | [d1, d2] => { results := [.lit (.bool true)], args := [d1, d2] }
  | _ => none }
def streamFormsRow : OpenClaim := { program := "ytokegkpbbhegpaa", sum := "8ca20503f542ac24e20ca29a006394adc4d44ede9f1408829fc01d3202837e20", func := "descant/descantlaw23.StreamForms", spec := "streamForms", inPlace := ["internal/abi.NoEscape", "internal/bytealg.MakeNoZero"], unfollowed := true, recurses := true, apart := false }
def StreamFormsSaid : Prop := streamFormsRow.holds Try.pinned (OpenSpec.ofChange streamFormsSpec)

/-- ITS FALSE NEIGHBOUR: 'it returns false'. Refute it at one input. -/
def streamFormsWrong : ChangeSpec := { name := "streamForms", fn := fun _ => fun
  | [d1, d2] => { results := [.lit (.bool false)], args := [d1, d2] }
  | _ => none }
def StreamFormsWrongFalsely : Prop := streamFormsRow.holds Try.pinned (OpenSpec.ofChange streamFormsWrong)

/-- 'descantlaw23.StreamTexts': WHATEVER THE INPUT: true; the input reads as it did. -/
def streamTextsSpec : ChangeSpec := { name := "streamTexts", fn := fun _ => fun
  | [d1, d2, d3] => { results := [.lit (.bool true)], args := [d1, d2, d3] }
  | _ => none }
def streamTextsRow : OpenClaim := { program := "ytokegkpbbhegpaa", sum := "8ca20503f542ac24e20ca29a006394adc4d44ede9f1408829fc01d3202837e20", func := "descant/descantlaw23.StreamTexts", spec := "streamTexts", inPlace := ["internal/abi.NoEscape", "internal/bytealg.MakeNoZero"], unfollowed := true, recurses := true, apart := false }
def StreamTextsSaid : Prop := streamTextsRow.holds Try.pinned (OpenSpec.ofChange streamTextsSpec)

/-- ITS FALSE NEIGHBOUR: 'it returns false'. Refute it at one input. -/
def streamTextsWrong : ChangeSpec := { name := "streamTexts", fn := fun _ => fun
  | [d1, d2, d3] => { results := [.lit (.bool false)], args := [d1, d2, d3] }
  | _ => none }
def StreamTextsWrongFalsely : Prop := streamTextsRow.holds Try.pinned (OpenSpec.ofChange streamTextsWrong)

/-- 'descantlaw23.StreamLoose': WHATEVER THE INPUT: true; the input reads as it did. -/
def streamLooseSpec : ChangeSpec := { name := "streamLoose", fn := fun _ => fun
  | [d1, d2] => { results := [.lit (.bool true)], args := [d1, d2] }
  | _ => none }
def streamLooseRow : OpenClaim := { program := "ytokegkpbbhegpaa", sum := "8ca20503f542ac24e20ca29a006394adc4d44ede9f1408829fc01d3202837e20", func := "descant/descantlaw23.StreamLoose", spec := "streamLoose", inPlace := ["internal/abi.NoEscape", "internal/bytealg.MakeNoZero"], unfollowed := true, recurses := true, apart := false }
def StreamLooseSaid : Prop := streamLooseRow.holds Try.pinned (OpenSpec.ofChange streamLooseSpec)

/-- ITS FALSE NEIGHBOUR: 'it returns false'. Refute it at one input. -/
def streamLooseWrong : ChangeSpec := { name := "streamLoose", fn := fun _ => fun
  | [d1, d2] => { results := [.lit (.bool false)], args := [d1, d2] }
  | _ => none }
def StreamLooseWrongFalsely : Prop := streamLooseRow.holds Try.pinned (OpenSpec.ofChange streamLooseWrong)

/-- 'descantlaw23.StreamHead': WHATEVER THE INPUT: true; the input reads as it did. -/
def streamHeadSpec : ChangeSpec := { name := "streamHead", fn := fun _ => fun
  | [d1, d2, d3] => { results := [.lit (.bool true)], args := [d1, d2, d3] }
  | _ => none }
def streamHeadRow : OpenClaim := { program := "ytokegkpbbhegpaa", sum := "8ca20503f542ac24e20ca29a006394adc4d44ede9f1408829fc01d3202837e20", func := "descant/descantlaw23.StreamHead", spec := "streamHead", inPlace := ["internal/abi.NoEscape", "internal/bytealg.MakeNoZero"], unfollowed := true, recurses := true, apart := false }
def StreamHeadSaid : Prop := streamHeadRow.holds Try.pinned (OpenSpec.ofChange streamHeadSpec)

/-- ITS FALSE NEIGHBOUR: 'it returns false'. Refute it at one input. -/
def streamHeadWrong : ChangeSpec := { name := "streamHead", fn := fun _ => fun
  | [d1, d2, d3] => { results := [.lit (.bool false)], args := [d1, d2, d3] }
  | _ => none }
def StreamHeadWrongFalsely : Prop := streamHeadRow.holds Try.pinned (OpenSpec.ofChange streamHeadWrong)

/- THE SECOND FORM. 'bulk': how many values and letters a reading holds, each counted each time it is reached (what is shared counts as often as it is met; a slice's spare places count too). A statement '..UptoSaid' is the law's where the arguments, and the package variables that the reading takes, are together of bulk at most 1048576: NARROWER than '..Said'. Prove '..Said' where nothing that the law and all that it calls make is longer than what came in: it says more and counts as full. Else prove '..UptoSaid'. A law counts once. -/
mutual
def uptoBulk {H : Type} : DataW H → Nat
  | .lit (.string bytes) => bytes.length + 1
  | .lit _ => 1
  | .nil => 1
  | .ptr d => uptoBulk d + 1
  | .slice elems spare => uptoBulkAll elems + uptoBulkAll spare + 1
  | .agg parts => uptoBulkAll parts + 1
  | .iface _ d => uptoBulk d + 1
  | .map entries => uptoBulkEntries entries + 1
  | .held _ => 1
def uptoBulkAll {H : Type} : List (DataW H) → Nat
  | [] => 0
  | d :: r => uptoBulk d + uptoBulkAll r
def uptoBulkEntries {H : Type} : List (Lit × DataW H) → Nat
  | [] => 0
  | x :: r => uptoBulkEntry x + uptoBulkEntries r
def uptoBulkEntry {H : Type} : Lit × DataW H → Nat
  | (.string bytes, d) => bytes.length + uptoBulk d + 1
  | (_, d) => uptoBulk d + 1
 end
def uptoSmall : (H : Type) → List (DataW H) → Bool := fun _ ds => decide (uptoBulkAll ds ≤ 1048576)
def OpenSpec.upto (s : _root_.Go.ChangeSpec) : _root_.Go.OpenSpec := { _root_.Go.OpenSpec.ofChange s with cond := some uptoSmall }

/-- 'descantlaw23.Streams', WHERE WHAT IT READS IS OF BULK AT MOST 1048576: true; the input reads as it did. -/
def streamsUptoRow : OpenClaim := { program := "ytokegkpbbhegpaa", sum := "8ca20503f542ac24e20ca29a006394adc4d44ede9f1408829fc01d3202837e20", func := "descant/descantlaw23.Streams", spec := "streams", inPlace := ["internal/abi.NoEscape", "internal/bytealg.MakeNoZero"], unfollowed := true, recurses := true, apart := false, narrowed := true }
def StreamsUptoSaid : Prop := streamsUptoRow.holds Try.pinned (OpenSpec.upto streamsSpec)

/-- 'descantlaw23.StreamForms', WHERE WHAT IT READS IS OF BULK AT MOST 1048576: true; the input reads as it did. -/
def streamFormsUptoRow : OpenClaim := { program := "ytokegkpbbhegpaa", sum := "8ca20503f542ac24e20ca29a006394adc4d44ede9f1408829fc01d3202837e20", func := "descant/descantlaw23.StreamForms", spec := "streamForms", inPlace := ["internal/abi.NoEscape", "internal/bytealg.MakeNoZero"], unfollowed := true, recurses := true, apart := false, narrowed := true }
def StreamFormsUptoSaid : Prop := streamFormsUptoRow.holds Try.pinned (OpenSpec.upto streamFormsSpec)

/-- 'descantlaw23.StreamTexts', WHERE WHAT IT READS IS OF BULK AT MOST 1048576: true; the input reads as it did. -/
def streamTextsUptoRow : OpenClaim := { program := "ytokegkpbbhegpaa", sum := "8ca20503f542ac24e20ca29a006394adc4d44ede9f1408829fc01d3202837e20", func := "descant/descantlaw23.StreamTexts", spec := "streamTexts", inPlace := ["internal/abi.NoEscape", "internal/bytealg.MakeNoZero"], unfollowed := true, recurses := true, apart := false, narrowed := true }
def StreamTextsUptoSaid : Prop := streamTextsUptoRow.holds Try.pinned (OpenSpec.upto streamTextsSpec)

/-- 'descantlaw23.StreamLoose', WHERE WHAT IT READS IS OF BULK AT MOST 1048576: true; the input reads as it did. -/
def streamLooseUptoRow : OpenClaim := { program := "ytokegkpbbhegpaa", sum := "8ca20503f542ac24e20ca29a006394adc4d44ede9f1408829fc01d3202837e20", func := "descant/descantlaw23.StreamLoose", spec := "streamLoose", inPlace := ["internal/abi.NoEscape", "internal/bytealg.MakeNoZero"], unfollowed := true, recurses := true, apart := false, narrowed := true }
def StreamLooseUptoSaid : Prop := streamLooseUptoRow.holds Try.pinned (OpenSpec.upto streamLooseSpec)

/-- 'descantlaw23.StreamHead', WHERE WHAT IT READS IS OF BULK AT MOST 1048576: true; the input reads as it did. -/
def streamHeadUptoRow : OpenClaim := { program := "ytokegkpbbhegpaa", sum := "8ca20503f542ac24e20ca29a006394adc4d44ede9f1408829fc01d3202837e20", func := "descant/descantlaw23.StreamHead", spec := "streamHead", inPlace := ["internal/abi.NoEscape", "internal/bytealg.MakeNoZero"], unfollowed := true, recurses := true, apart := false, narrowed := true }
def StreamHeadUptoSaid : Prop := streamHeadUptoRow.holds Try.pinned (OpenSpec.upto streamHeadSpec)

end Rows
end Go.Proofs.Ytokegkpbbhegpaa
