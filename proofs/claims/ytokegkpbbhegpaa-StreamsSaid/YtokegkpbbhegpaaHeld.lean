/- A region that draws its order, walked by hand: what its guard passes over is taken first, at no cost. -/
import Derived.Test.YtokegkpbbhegpaaProg
import Derived.Deep.RegionHeld3
namespace Go.Proofs.Ytokegkpbbhegpaa
set_option linter.unusedVariables false
section
variable {P : Program} {ops : Array Oper} {Q : Exit → Act → World → Prop} {md : Region.Mode} {S : World → Prop}
theorem held_skip (i : Nat) {d : Option Tmp} {fuel : Nat} {listed : Array Bool} {a : Act} {w : World}
    (hi : (ops[i]?).map (fun o => o.dst) = some d) (hw : (ops[i]?).map (fun o => Region.wanted o (yielded ops a.tmps)) = some false)
    (hs : Region.noSelect ops = true) (hf : Region.free md ops listed i = true) (hr : (Region.ready md ops listed).contains i = true)
    (hQ : ∀ c a w, Q (.panic c) (Act.put a d undef) w → Q (.panic c) a w) (hp : a.put d undef = a) (hS : S w)
    (h : wpAnyH P md ops Q S fuel (listed.setIfInBounds i true) a w) : wpAnyH P md ops Q S (fuel + 1) listed a w := by
  obtain ⟨oi, h1, h2⟩ := Option.map_eq_some_iff.1 hi
  obtain ⟨oj, h3, h4⟩ := Option.map_eq_some_iff.1 hw
  rw [h1] at h3; cases h3
  subst h2
  refine wpAnyH_take (v := undef) h1 hs hf hr hQ (Or.inr ⟨h4, rfl⟩) hS ?_
  rw [hp]; exact h
theorem held_take (i : Nat) {d : Option Tmp} {v : Value} {fuel : Nat} {listed : Array Bool} {a a' : Act} {w : World}
    (hi : (ops[i]?).map (fun o => o.dst) = some d) (hw : (ops[i]?).map (fun o => Region.wanted o (yielded ops a.tmps)) = some true)
    (hv : ∀ w, S w → (ops[i]?).map (fun o => (execOp a.eval o).run P w) = some (.ok (.value v) w))
    (hs : Region.noSelect ops = true) (hf : Region.free md ops listed i = true) (hr : (Region.ready md ops listed).contains i = true)
    (hQ : ∀ c a w, Q (.panic c) (Act.put a d v) w → Q (.panic c) a w) (hp : a.put d v = a') (hS : S w)
    (h : wpAnyH P md ops Q S fuel (listed.setIfInBounds i true) a' w) : wpAnyH P md ops Q S (fuel + 1) listed a w := by
  obtain ⟨oi, h1, h2⟩ := Option.map_eq_some_iff.1 hi
  obtain ⟨oj, h3, h4⟩ := Option.map_eq_some_iff.1 hw
  rw [h1] at h3; cases h3
  subst h2
  refine wpAnyH_take (v := v) h1 hs hf hr hQ (Or.inl ⟨h4, fun w hw => ?_⟩) hS ?_
  · have := hv w hw
    rw [h1] at this
    exact Option.some.inj this
  · rw [hp]; exact h
end
end Go.Proofs.Ytokegkpbbhegpaa
