/- Stores and loads of whole structs in a region that draws. -/
import Derived.Test.YtokegkpbbhegpaaBlk
import Derived.Test.YtokegkpbbhegpaaWLast
import Derived.Test.YtokegkpbbhegpaaWWords
namespace Go.Proofs.Ytokegkpbbhegpaa.L
open Go.RowKit Go.Proofs.YtokegkpbbhegpaaW.PrintWords Go.Proofs.YtokegkpbbhegpaaW.PrintLast Go.Proofs.Ytokegkpbbhegpaa.L
set_option linter.unusedVariables false
set_option linter.unusedSimpArgs false

/-- What has come up, as the bits of a number. -/
def B (n m : Nat) : Array Bool := ((List.range n).map (fun i => m / 2 ^ i % 2 == 1)).toArray
section
variable {P : Program} {ops : Array Oper} {Q : Exit → Act → World → Prop}
/-- A whole struct stored over a block. -/
theorem skip_over {oi : Oper} {a : Act} {W : World} {K : Act → World → Prop} (ty : TypeId) (x y : Operand) (g : Nat) (L R : List Value) (hw : Region.wanted oi (yielded ops a.tmps) = true) (hN : oi.dst = none) (ho : oi.op = .store ty x y)
    (hx : a.eval x = .pointer (some ⟨g, 0, none⟩)) (hy : a.eval y = .agg R.toArray) (h : BC W g ty L) (hl : L.length = R.length) (hi : (P.info? ty).map (·.size) = some R.length) (h1 : ∀ v ∈ R, v.oneCell' = true)
    (hk : K a (W.setCells g 0 R)) : if Region.wanted oi (yielded ops a.tmps) = true then Oper.wp P oi a W K Q else K (a.put none undef) W := by
  refine skip_ hw hN ?_ hk
  unfold execOp
  simp only [ho, hx, hy, Instr.storeAt, Instr.sureAddr, Sem.run_bind, Sem.run_pure, Result.andThen_ok, run_storeVar_mid W g 0 ty R.toArray (by simpa [← hl] using h.there (Nat.le_refl _)) (by simpa using hi) (all_oneCell_toArray h1)]
/-- A whole struct loaded. -/
theorem loads {oi : Oper} {a : Act} (ty : TypeId) (x : Operand) (g : Nat) (L : List Value) (d : TypeDesc) (ho : oi.op = .load ty x) (hx : a.eval x = .pointer (some ⟨g, 0, none⟩)) (hu : P.underlying ty = some d) (hd : d.isRow = true) (hi : (P.info? ty).map (·.size) = some L.length)
    (W : World) (h : BC W g ty L) : (execOp a.eval oi).run P W = .ok (.value (.agg L.toArray)) W := by
  unfold execOp
  simp only [ho, hx, Instr.loadAt, Instr.sureAddr, Sem.run_bind, Sem.run_pure, Result.andThen_ok, run_loadVar_mid W g 0 ty L d h.range hu hd hi]
end
end Go.Proofs.Ytokegkpbbhegpaa.L
