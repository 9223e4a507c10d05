/- A block whose cells are known whole, as a list: what reads, stores and calls leave of it. -/
import Derived.Test.YtokegkpbbhegpaaLib
import Derived.Deep.MidRow
import Derived.Laws.NewBlocks
namespace Go.Proofs.Ytokegkpbbhegpaa.L
open Go.RowKit Go.Proofs.Ytokegkpbbhegpaa.L
set_option linter.unusedVariables false
set_option linter.unusedSimpArgs false

/-- Block g holds the cells cs. -/
structure BC (w : World) (g : Nat) (t : TypeId) (cs : List Value) : Prop where
  blk : w.heap[g]? = some (.cells cs.toArray t (0, 0))
theorem BC.lt {w : World} {g : Nat} {t : TypeId} {cs : List Value} (h : BC w g t cs) : g < w.heap.size := by
  rcases Nat.lt_or_ge g w.heap.size with hh | hh
  · exact hh
  · have := h.blk; rw [Array.getElem?_eq_none hh] at this; cases this
theorem BC.cell {w : World} {g : Nat} {t : TypeId} {cs : List Value} (h : BC w g t cs) (o : Nat) : w.cell? ⟨g, o, none⟩ = cs[o]? := by
  rw [cell_of_row w g o _ _ _ h.blk]; simp
theorem BC.at_ {w : World} {g : Nat} {t : TypeId} {cs : List Value} (h : BC w g t cs) {o : Nat} {v : Value} (e : cs[o]? = some v) : w.cell? ⟨g, o, none⟩ = some v := (h.cell o).trans e
theorem BC.frozen {w : World} {g : Nat} {t : TypeId} {cs : List Value} (h : BC w g t cs) (o : Nat) : w.frozen? ⟨g, o, none⟩ = false := by simp [World.frozen?, h.blk]
theorem BC.range {w : World} {g : Nat} {t : TypeId} {cs : List Value} (h : BC w g t cs) : w.rangeAt g 0 cs := by
  intro j v hv
  rw [Nat.zero_add, h.cell]; exact hv
theorem BC.there {w : World} {g n : Nat} {t : TypeId} {cs : List Value} (h : BC w g t cs) (hn : n ≤ cs.length) : w.there g 0 n := fun j hj =>
  ⟨by rw [Nat.zero_add, h.cell, List.getElem?_eq_getElem (by omega)]; rfl, h.frozen _⟩
theorem BC.below {w w1 : World} {g : Nat} {t : TypeId} {cs : List Value} (h : BC w g t cs) (hb : Below w.heap.size w w1) : BC w1 g t cs := ⟨(hb.block g h.lt).trans h.blk⟩
theorem BC.blw {B : Nat} {w w1 : World} {g : Nat} {t : TypeId} {cs : List Value} (h : BC w g t cs) (hb : Below B w w1) (hg : g < B) : BC w1 g t cs := ⟨(hb.block g hg).trans h.blk⟩
theorem BC.alloc {w : World} {g : Nat} {t : TypeId} {cs : List Value} (h : BC w g t cs) (o : Obj) : BC (w.alloc o) g t cs := ⟨(Below.heap_alloc w o g h.lt).trans h.blk⟩
theorem BC.drew {w : World} {g : Nat} {t : TypeId} {cs : List Value} (h : BC w g t cs) : BC w.drew g t cs := ⟨h.blk⟩
theorem BC.drewN {w : World} {g : Nat} {t : TypeId} {cs : List Value} (h : BC w g t cs) (n : Nat) : BC (w.drewN n) g t cs := ⟨h.blk⟩
theorem BC.new (w : World) (cs : List Value) (t : TypeId) : BC (w.alloc (.cells cs.toArray t)) w.heap.size t cs := ⟨heap_alloc_new w _⟩
theorem BC.newAt {w : World} {g : Nat} {cs : List Value} {t : TypeId} (h : g = w.heap.size) : BC (w.alloc (.cells cs.toArray t)) g t cs := by subst h; exact BC.new w cs t
theorem BC.set {w : World} {g : Nat} {t : TypeId} {cs : List Value} (h : BC w g t cs) (o : Nat) (v : Value) : BC (w.setCell ⟨g, o, none⟩ v) g t (cs.set o v) :=
  ⟨by simp [World.setCell, Array.getElem?_modify, h.blk]⟩
theorem BC.far {w : World} {g : Nat} {t : TypeId} {cs : List Value} (h : BC w g t cs) {p : Addr} (hp : p.block ≠ g) (v : Value) : BC (w.setCell p v) g t cs :=
  ⟨by show (w.heap.modify p.block _)[g]? = _; rw [Array.getElem?_modify, if_neg hp]; exact h.blk⟩
theorem bc_setCells_far : ∀ (vs : List Value) (o : Nat) (w : World) (g k : Nat), g ≠ k → (w.setCells g o vs).heap[k]? = w.heap[k]?
  | [], _, _, _, _, _ => rfl
  | v :: r, o, w, g, k, h => by
    rw [World.setCells, bc_setCells_far r (o + 1) _ g k h]
    show (w.heap.modify g _)[k]? = _
    rw [Array.getElem?_modify, if_neg h]
theorem BC.beside {w : World} {g k : Nat} {t : TypeId} {cs : List Value} (h : BC w g t cs) (hk : k ≠ g) (vs : List Value) : BC (w.setCells k 0 vs) g t cs := ⟨by rw [bc_setCells_far _ _ _ _ _ hk]; exact h.blk⟩
def bcLaid : List Value → Nat → List Value → List Value
  | L, _, [] => L
  | L, o, x :: r => bcLaid (L.set o x) (o + 1) r
theorem bcLaid_all : ∀ (r P S : List Value), S.length = r.length → bcLaid (P ++ S) P.length r = P ++ r
  | [], P, S, h => by rw [List.length_nil, List.length_eq_zero_iff] at h; subst h; rfl
  | x :: r, P, [], h => by simp at h
  | x :: r, P, s :: S, h => by
    rw [bcLaid, List.set_append_right _ _ (Nat.le_refl _), Nat.sub_self, List.set_cons_zero]
    have := bcLaid_all r (P ++ [x]) S (by simpa using h)
    rw [List.length_append, List.length_singleton, List.append_assoc, List.append_assoc, List.singleton_append, List.singleton_append] at this
    exact this
theorem bcLaid_over {L R : List Value} (h : L.length = R.length) : bcLaid L 0 R = R := bcLaid_all R [] L h
theorem bc_setCells : ∀ (R : List Value) (o : Nat) (w : World) (g : Nat) (L : List Value) (t : TypeId), BC w g t L → BC (w.setCells g o R) g t (bcLaid L o R)
  | [], _, _, _, _, _, h => h
  | x :: R, o, w, g, L, t, h => by
    rw [World.setCells, bcLaid]
    exact bc_setCells R (o + 1) _ g _ t (h.set o x)
theorem BC.over {w : World} {g : Nat} {t : TypeId} {L R : List Value} (h : BC w g t L) (hR : L.length = R.length) : BC (w.setCells g 0 R) g t R := by
  have := bc_setCells R 0 w g L t h; rwa [bcLaid_over hR] at this
theorem bc_below_setCells {B g : Nat} {w0 : World} (hBg : B ≤ g) : ∀ (vs : List Value) (o : Nat) (W : World), Below B w0 W → Below B w0 (W.setCells g o vs)
  | [], _, _, h => h
  | v :: r, o, W, h => by rw [World.setCells]; exact bc_below_setCells hBg r (o + 1) _ (h.setCell (p := ⟨g, o, none⟩) hBg v)
theorem bc_results1 {P : Program} {fn : Func} {p : Tmp} {ty : TypeId} (h : fn.results = #[.cell p ty]) (tmps : Array Value) (w : World) (g : Nat) (cs : List Value) (d : TypeDesc)
    (hp : tmps.getD p undef = .pointer (some ⟨g, 0, none⟩)) (hc : w.rangeAt g 0 cs) (hu : P.underlying ty = some d) (hd : d.isRow = true) (hi : (P.info? ty).map (·.size) = some cs.length) :
    (results fn tmps).run P w = .ok (.agg cs.toArray) w := by
  have hp' : tmps[p]?.getD undef = .pointer (some ⟨g, 0, none⟩) := by simpa using hp
  simp [results, h, hp', asAddr, run_loadVar_mid w g 0 ty cs d hc hu hd hi]
theorem bc_resultst {P : Program} {fn : Func} {p u : Tmp} {ty : TypeId} (h : fn.results = #[.cell p ty, .tmp u]) (tmps : Array Value) (w : World) (g : Nat) (cs : List Value) (d : TypeDesc)
    (hp : tmps.getD p undef = .pointer (some ⟨g, 0, none⟩)) (hc : w.rangeAt g 0 cs) (hu : P.underlying ty = some d) (hd : d.isRow = true) (hi : (P.info? ty).map (·.size) = some cs.length) :
    (results fn tmps).run P w = .ok (.tuple #[.agg cs.toArray, tmps.getD u undef]) w := by
  have hp' : tmps[p]?.getD undef = .pointer (some ⟨g, 0, none⟩) := by simpa using hp
  simp [results, h, hp', asAddr, run_loadVar_mid w g 0 ty cs d hc hu hd hi]
theorem below_then {B : Nat} {w w1 w2 : World} (h : Below B w w1) (hB : B ≤ w.heap.size) (k : Below w1.heap.size w1 w2) : Below B w w2 :=
  h.trans ⟨k.os, k.tape, k.output, k.size, fun i hi => k.block i (by have := h.size; omega)⟩
theorem below_less {B B' : Nat} {w w1 : World} (h : Below B w w1) (hB : B' ≤ B) : Below B' w w1 := ⟨h.os, h.tape, h.output, h.size, fun i hi => h.block i (by omega)⟩
/-- All but block g stays. -/
structure But (w w' : World) (g : Nat) : Prop where
  os : w'.os = w.os
  tape : w'.tape = w.tape
  output : w'.output = w.output
  size : w.heap.size ≤ w'.heap.size
  block : ∀ i, i < w.heap.size → i ≠ g → w'.heap[i]? = w.heap[i]?
theorem But.refl (w : World) (g : Nat) : But w w g := ⟨rfl, rfl, rfl, Nat.le_refl _, fun _ _ _ => rfl⟩
theorem But.of_below {w w' : World} (h : Below w.heap.size w w') (g : Nat) : But w w' g := ⟨h.os, h.tape, h.output, h.size, fun i hi _ => h.block i hi⟩
theorem But.trans {w w1 w2 : World} {g : Nat} (h : But w w1 g) (k : But w1 w2 g) : But w w2 g :=
  ⟨k.os.trans h.os, k.tape.trans h.tape, k.output.trans h.output, Nat.le_trans h.size k.size, fun i hi hg => (k.block i (Nat.lt_of_lt_of_le hi h.size) hg).trans (h.block i hi hg)⟩
theorem But.set {w W : World} {g : Nat} (h : But w W g) (o : Nat) (v : Value) : But w (W.setCell ⟨g, o, none⟩ v) g :=
  ⟨h.os, h.tape, h.output, by simpa using h.size, fun i hi hg => (Below.heap_setCell W ⟨g, o, none⟩ v i hg).trans (h.block i hi hg)⟩
theorem But.drewN {w W : World} {g : Nat} (h : But w W g) (n : Nat) : But w (W.drewN n) g := ⟨h.os, h.tape, h.output, h.size, h.block⟩
theorem But.drew {w W : World} {g : Nat} (h : But w W g) : But w W.drew g := ⟨h.os, h.tape, h.output, h.size, h.block⟩
theorem But.alloc {w W : World} {g : Nat} (h : But w W g) (o : Obj) : But w (W.alloc o) g := h.trans (But.of_below (below_alloc (Below.refl _ _) o) g)
theorem BC.but {w w' : World} {g k : Nat} {t : TypeId} {cs : List Value} (h : BC w k t cs) (hb : But w w' g) (hk : k ≠ g) : BC w' k t cs := ⟨(hb.block k h.lt hk).trans h.blk⟩
theorem But.below {B : Nat} {w0 w w' : World} {g : Nat} (h : Below B w0 w) (hb : But w w' g) (hg : B ≤ g) (hB : B ≤ w.heap.size) : Below B w0 w' :=
  ⟨hb.os.trans h.os, hb.tape.trans h.tape, hb.output.trans h.output, Nat.le_trans h.size hb.size, fun i hi => (hb.block i (by omega) (by omega)).trans (h.block i hi)⟩
end Go.Proofs.Ytokegkpbbhegpaa.L
