/- Shifts as they are told in the printed functions; two small gates (so that the larger modules of words need not come along). -/
import Derived.Test.YtiokfaiioealdaaGreatDoorWWords
import Derived.Test.YtiokfaiioealdaaGreatDoorWLast
import Derived.Test.YtiokfaiioealdaaGreatDoorWTab
import Derived.Test.YtiokfaiioealdaaGreatDoorLib
namespace Go.Proofs.YtiokfaiioealdaaGreatDoorW.PrintMore
end Go.Proofs.YtiokfaiioealdaaGreatDoorW.PrintMore
namespace Go.Proofs.YtiokfaiioealdaaGreatDoorW.PrintWords
open Go.RowKit Go.Proofs.YtiokfaiioealdaaGreatDoor.L
/-- x times two to the power y, y at most the kind's bits; wrapped. -/
def shl (k : IntKind) (x y : Int) : Int := k.wrap (x * 2 ^ min y.toNat k.bits)
/-- x by two to the power y, rounded down; y at most the kind's bits. -/
def shr (k : IntKind) (x y : Int) : Int := x / 2 ^ min y.toNat k.bits
theorem shl_small {k : IntKind} {x y j : Int} (h : shl k x y = j) (hy : y ≤ k.bits) : k.wrap (x * 2 ^ y.toNat) = j := by
  have e : min y.toNat k.bits = y.toNat := Nat.min_eq_left (by omega)
  rw [← h]; unfold shl; rw [e]
theorem shr_small {k : IntKind} {x y j : Int} (h : shr k x y = j) (hy : y ≤ k.bits) : x / 2 ^ y.toNat = j := by
  have e : min y.toNat k.bits = y.toNat := Nat.min_eq_left (by omega)
  rw [← h]; unfold shr; rw [e]
section
variable {P : Program} {ops : Array Oper} {rest : List Oper} {o : Oper} {a : Act} {Q : Exit → Act → World → Prop} {W : World}
theorem gate_callee {f : FuncId} {xs : Array Operand} {ts : Array TypeId} (_ho : o.op = .call { callee := .value (.func f), args := xs, argTypes := ts }) (h : wpList P ops Q (o :: rest) a W) : wpList P ops Q (o :: rest) a W := h
theorem gate_builtin {b : Builtin} {xs : Array Operand} {ts : Array TypeId} (_ho : o.op = .call { callee := .builtin b, args := xs, argTypes := ts }) (h : wpList P ops Q (o :: rest) a W) : wpList P ops Q (o :: rest) a W := h
end
end Go.Proofs.YtiokfaiioealdaaGreatDoorW.PrintWords
