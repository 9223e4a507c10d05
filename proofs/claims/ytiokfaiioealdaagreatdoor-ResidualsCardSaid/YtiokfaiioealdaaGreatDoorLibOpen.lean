/- An argument that is an array or a struct of whole numbers, taken by value: its cells as a list. -/
import Derived.Test.YtiokfaiioealdaaGreatDoorLib
import Derived.ProofKit
namespace Go.Proofs.YtiokfaiioealdaaGreatDoor
open Go.RowKit Go.Proofs.YtiokfaiioealdaaGreatDoor.L
set_option linter.unusedVariables false
set_option linter.unusedSimpArgs false

theorem cell_is_int {P : Program} {w : World} {r : Reach} {base : Nat} {e : TypeId} {v : Value} (he : P.underlying e = some (.int .i64)) (h : Cell.okWide P w r base e v) : ∃ n : Int, v = .int .i64 n ∧ IntKind.i64.has n := by
  unfold Cell.okWide at h
  rw [he] at h
  cases v <;> simp [Cell.ok, he] at h
  rename_i k n
  obtain ⟨rfl, hn⟩ := h
  exact ⟨n, rfl, hn⟩

theorem ints_of_list {l : List Value} (h : ∀ v ∈ l, ∃ n : Int, v = .int .i64 n ∧ IntKind.i64.has n) : ∃ xs : List Int, l = xs.map (Value.int .i64) ∧ ∀ x ∈ xs, IntKind.i64.has x := by
  induction l with
  | nil => exact ⟨[], rfl, by simp⟩
  | cons v l ih =>
    obtain ⟨n, rfl, hn⟩ := h v (by simp)
    obtain ⟨xs, rfl, hx⟩ := ih fun u hu => h u (by simp [hu])
    exact ⟨n :: xs, rfl, by simpa using ⟨hn, hx⟩⟩

theorem open_ints_agg {P : Program} {w : World} {r : Reach} {base : Nat} {t e : TypeId} {v : Value} {n : Nat} {d : TypeDesc} (ht : P.underlying t = some d) (hd : d.isRow = true) (hc : P.cellsOf t = n)
    (hts : P.cellTypes P.depth t = some (List.replicate n e)) (he : P.underlying e = some (.int .i64)) (hv : Value.okWide P w r base t v) :
    ∃ xs : List Int, xs.length = n ∧ v = .agg (xs.map (Value.int .i64)).toArray ∧ ∀ x ∈ xs, IntKind.i64.has x := by
  unfold Value.okWide at hv
  rw [ht] at hv
  have hv' : ∃ cs, v = .agg cs ∧ cs.size = P.cellsOf t ∧ Row.okWide P w r base t cs := by
    cases d <;> simp_all [TypeDesc.isRow]
  obtain ⟨cs, rfl, hs, ts, hts', -, hcells⟩ := hv'
  rw [hts] at hts'
  obtain rfl := Option.some.inj hts'
  have hall : ∀ v ∈ cs.toList, ∃ n : Int, v = .int .i64 n ∧ IntKind.i64.has n := by
    intro v hv
    obtain ⟨i, hi, rfl⟩ := List.mem_iff_getElem.1 hv
    obtain ⟨u, hu, hcu⟩ := hcells i (cs.toList[i]) (by simp at hi ⊢)
    have : u = e := List.eq_of_mem_replicate (List.mem_of_getElem? hu)
    subst this
    exact cell_is_int he hcu
  obtain ⟨xs, hxs, hx⟩ := ints_of_list hall
  refine ⟨xs, ?_, ?_, hx⟩
  · have := congrArg List.length hxs
    simp at this
    omega
  · congr 1
    rw [← hxs, Array.toArray_toList]
theorem list3 {xs : List Int} (h : xs.length = 3) : ∃ x y z, xs = [x, y, z] := by
  match xs, h with
  | [x, y, z], _ => exact ⟨x, y, z, rfl⟩
end Go.Proofs.YtiokfaiioealdaaGreatDoor
