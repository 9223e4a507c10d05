/- What the given stream's text comes to, read back: closed computations. -/
import Derived.Test.YtokegkpbbhegpaaWGetD
namespace Go.Proofs.Ytokegkpbbhegpaa
open Go.RowKit Go.Proofs.YtokegkpbbhegpaaW.PrintWords Go.Proofs.Ytokegkpbbhegpaa.PL Go.Proofs.Ytokegkpbbhegpaa.L
set_option linter.unusedVariables false
set_option linter.unusedSimpArgs false
def headS : ByteArray := ⟨#[104, 101, 97, 100]⟩
def tailS : ByteArray := ⟨#[116]⟩
def segS0 : ByteArray := ⟨#[115, 101, 103, 109, 101, 110, 116, 32, 48]⟩
def segS1 : ByteArray := ⟨#[115, 101, 103, 109, 101, 110, 116, 32, 49, 46]⟩
def A42 : ByteArray := ⟨#[68, 83, 67, 84, 1, 8, 4, 7, 4, 1, 104, 101, 97, 100, 116, 9, 0, 10, 0, 38, 91, 77, 57, 115, 101, 103, 109, 101, 110, 116, 32, 48, 115, 101, 103, 109, 101, 110, 116, 32, 49, 46]⟩
set_option maxRecDepth 100000 in
theorem may_given : mayOk 1 8 4 7 headS tailS [segS0, segS1] = true := by decide +kernel
set_option maxRecDepth 100000 in
theorem put_given : (⟨(putB 1 8 4 7 headS tailS [segS0, segS1]).toArray⟩ : ByteArray) = A42 := by decide +kernel
set_option maxRecDepth 100000 in
theorem get_given : getT A42 = (1, 8, 4, 7, headS, tailS, [segS0, segS1], 0) := by kernel_rfl
set_option maxRecDepth 100000 in
theorem get_longer : getT (A42 ++ ⟨#[120]⟩) = noR 2300 := by kernel_rfl
set_option maxRecDepth 100000 in
theorem get_other : getT (A42.extract 0 10 ++ ⟨#[72]⟩ ++ A42.extract 11 42) = noR 2301 := by kernel_rfl
set_option maxRecDepth 100000 in
theorem may_zero : mayOk 0 0 0 0 ⟨#[]⟩ ⟨#[]⟩ [] = false := by decide +kernel
end Go.Proofs.Ytokegkpbbhegpaa
