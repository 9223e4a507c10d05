/- A block that holds a model: what reads, stores, and calls leave of it (chapter 9). -/
import Derived.Test.YtiokfaiioealdaaGreatDoorWModM
import Derived.Test.YtiokfaiioealdaaGreatDoorWModR
import Derived.Test.YtiokfaiioealdaaGreatDoorWModE
import Derived.Test.YtiokfaiioealdaaGreatDoorLMix
import Derived.Laws.NewBlocks
namespace Go.Proofs.YtiokfaiioealdaaGreatDoor
open Go.RowKit Go.Proofs.YtiokfaiioealdaaGreatDoor.L
set_option linter.unusedVariables false
set_option linter.unusedSimpArgs false

theorem newM_length : newM.length = 195 := nm_length (by omega) (by omega)
theorem zM_length : zM.length = 195 := nm_length (by omega) (by omega)
theorem lR_length {M : List Int} (hM : M.length = 195) (x y z bit : Int) : (lR M x y z bit).length = 195 := by
  unfold lR; split
  · rw [lM_length]; exact hM
  · exact zM_length
/-- Block g holds the model L. -/
structure MB (w : World) (g : Nat) (L : List Int) : Prop where
  blk : w.heap[g]? = some (.cells (ints L).toArray 63 (0, 0))
  len : L.length = 195
theorem MB.range {w : World} {g : Nat} {L : List Int} (h : MB w g L) : w.rangeAt g 0 (ints L) := blk_range h.blk
theorem MB.cell {w : World} {g : Nat} {L : List Int} (h : MB w g L) {o : Nat} (ho : o < 195) : w.cell? ⟨g, o, none⟩ = some (.int .i64 (L.getD o 0)) := blk_cell h.blk (by rw [h.len]; exact ho)
theorem MB.frozen {w : World} {g : Nat} {L : List Int} (h : MB w g L) (o : Nat) : w.frozen? ⟨g, o, none⟩ = false := blk_frozen h.blk o
theorem MB.lt {w : World} {g : Nat} {L : List Int} (h : MB w g L) : g < w.heap.size := blk_lt h.blk
theorem info_M {L : List Int} (h : L.length = 195) : (Tryz.prog.info? 63).map (·.size) = some (ints L).toArray.size := by
  have : (ints L).toArray.size = 195 := by simp [ints_length, h]
  rw [this]; exact info_model
theorem MB.info {w : World} {g : Nat} {L : List Int} (h : MB w g L) : (Tryz.prog.info? 63).map (·.size) = some (ints L).length := info_M h.len
theorem MB.there {w : World} {g : Nat} {L L' : List Int} (h : MB w g L) (h' : L'.length = 195) : w.there g 0 (ints L').toArray.size := by
  have e : (ints L').toArray.size = 195 := by simp [ints_length, h']
  rw [e]
  exact blk_there h.blk (by rw [h.len]; omega)
theorem MB.below {w w1 : World} {g : Nat} {L : List Int} (h : MB w g L) (hb : Below w.heap.size w w1) : MB w1 g L := ⟨hm_below h.blk hb, h.len⟩
theorem MB.blw {B : Nat} {w w1 : World} {g : Nat} {L : List Int} (h : MB w g L) (hb : Below B w w1) (hg : g < B) : MB w1 g L := ⟨(hb.block g hg).trans h.blk, h.len⟩
theorem MB.alloc {w : World} {g : Nat} {L : List Int} (h : MB w g L) (o : Obj) : MB (w.alloc o) g L := ⟨hm_alloc h.blk o, h.len⟩
theorem MB.drew {w : World} {g : Nat} {L : List Int} (h : MB w g L) : MB w.drew g L := ⟨h.blk, h.len⟩
theorem MB.drewN {w : World} {g : Nat} {L : List Int} (h : MB w g L) (n : Nat) : MB (w.drewN n) g L := ⟨h.blk, h.len⟩
theorem MB.new (w : World) {L : List Int} (h : L.length = 195) : MB (w.alloc (.cells (ints L).toArray 63)) w.heap.size L := ⟨heap_alloc_new w _, h⟩
theorem MB.set {w : World} {g : Nat} {L : List Int} (h : MB w g L) (o : Nat) (x : Int) : MB (w.setCell ⟨g, o, none⟩ (.int .i64 x)) g (L.set o x) := ⟨blk_set h.blk x, by rw [List.length_set]; exact h.len⟩
theorem MB.far {w : World} {g : Nat} {L : List Int} (h : MB w g L) {p : Addr} (hp : p.block ≠ g) (v : Value) : MB (w.setCell p v) g L :=
  ⟨by show (w.heap.modify p.block _)[g]? = _; rw [Array.getElem?_modify, if_neg hp]; exact h.blk, h.len⟩
/-- What a list is when another one is laid over it, cell by cell. -/
def laid : List Int → Nat → List Int → List Int
  | L, _, [] => L
  | L, o, x :: r => laid (L.set o x) (o + 1) r
theorem laid_length : ∀ (r L : List Int) (o : Nat), (laid L o r).length = L.length
  | [], _, _ => rfl
  | x :: r, L, o => by rw [laid, laid_length r, List.length_set]
theorem laid_all : ∀ (r P S : List Int), S.length = r.length → laid (P ++ S) P.length r = P ++ r
  | [], P, S, h => by rw [List.length_nil, List.length_eq_zero_iff] at h; subst h; rfl
  | x :: r, P, [], h => by simp at h
  | x :: r, P, s :: S, h => by
    rw [laid, List.set_append_right _ _ (Nat.le_refl _), Nat.sub_self, List.set_cons_zero]
    have := laid_all r (P ++ [x]) S (by simpa using h)
    rw [List.length_append, List.length_singleton, List.append_assoc, List.append_assoc, List.singleton_append, List.singleton_append] at this
    exact this
theorem laid_over {L R : List Int} (h : L.length = R.length) : laid L 0 R = R := laid_all R [] L h
theorem setCells_blk : ∀ (R : List Int) (o : Nat) (w : World) (g : Nat) (L : List Int) (t : TypeId), w.heap[g]? = some (.cells (ints L).toArray t (0, 0)) → (w.setCells g o (ints R)).heap[g]? = some (.cells (ints (laid L o R)).toArray t (0, 0))
  | [], _, _, _, _, _, h => h
  | x :: R, o, w, g, L, t, h => by
    show ((w.setCell ⟨g, o, none⟩ (.int .i64 x)).setCells g (o + 1) (ints R)).heap[g]? = _
    rw [laid]
    exact setCells_blk R (o + 1) _ g _ t (blk_set h x)
theorem setCells_far : ∀ (vs : List Value) (o : Nat) (w : World) (g k : Nat), g ≠ k → (w.setCells g o vs).heap[k]? = w.heap[k]?
  | [], _, _, _, _, _ => rfl
  | v :: r, o, w, g, k, h => by
    rw [World.setCells, setCells_far r (o + 1) _ g k h]
    show (w.heap.modify g _)[k]? = _
    rw [Array.getElem?_modify, if_neg h]
theorem MB.over {w : World} {g : Nat} {L R : List Int} (h : MB w g L) (hR : R.length = 195) : MB (w.setCells g 0 (ints R)) g R := ⟨by have := setCells_blk R 0 w g L _ h.blk; rwa [laid_over (by rw [h.len, hR])] at this, hR⟩
theorem MB.beside {w : World} {g k : Nat} {L : List Int} (h : MB w g L) (hk : k ≠ g) (vs : List Value) : MB (w.setCells k 0 vs) g L := ⟨by rw [setCells_far _ _ _ _ _ hk]; exact h.blk, h.len⟩
theorem setCells_new : ∀ (R : List Int) (o : Nat) (w : World) (L : List Int) (t : TypeId), (w.alloc (.cells (ints L).toArray t)).setCells w.heap.size o (ints R) = w.alloc (.cells (ints (laid L o R)).toArray t)
  | [], _, _, _, _ => rfl
  | x :: R, o, w, L, t => by
    show ((w.alloc (.cells (ints L).toArray t)).setCell ⟨w.heap.size, o, none⟩ (.int .i64 x)).setCells w.heap.size (o + 1) (ints R) = _
    rw [World.setCell_alloc_at _ _ _ _ _ rfl, laid]
    have e : (ints L).toArray.setIfInBounds o (.int .i64 x) = (ints (L.set o x)).toArray := by rw [← ints_set]; simp
    rw [e]
    exact setCells_new R (o + 1) w _ t
/-- A new model, laid whole at once. -/
theorem store_new (w : World) {R : List Int} (h : R.length = 195) : (w.alloc (.cells (ints zM).toArray 63)).setCells w.heap.size 0 (ints R) = w.alloc (.cells (ints R).toArray 63) := by
  rw [setCells_new, laid_over (by rw [zM_length, h])]
theorem there_new (w : World) (L : List Int) (h : L.length = 195) : (w.alloc (.cells (ints zM).toArray 63)).there w.heap.size 0 (ints L).toArray.size := (MB.new w zM_length).there h
theorem wpList_alloc_model {ops : Array Oper} {rest : List Oper} {o : Oper} {a : Act} {w : World} {Q : Exit → Act → World → Prop} (hg : o.guard = none) (ho : o.op = .alloc 63)
    (h : wpList Tryz.prog ops Q rest (a.put o.dst (.pointer (some ⟨w.heap.size, 0, none⟩))) (w.alloc (.cells (ints zM).toArray 63))) : wpList Tryz.prog ops Q (o :: rest) a w := by
  have hz0 : Tryz.zeroCells63 = (ints zM).toArray := by kernel_rfl
  rw [← hz0] at h
  refine wpList_plain hg fun K hK => ?_
  have hk := hK _ _ h
  unfold Oper.wp execOp
  simp only [ho]
  simp [go_sem]
  exact hk
/-- An alloc of a model, and the store of one into it right behind. -/
theorem wpList_new_model {ops : Array Oper} {rest : List Oper} {o s : Oper} {a : Act} {w : World} {Q : Exit → Act → World → Prop} (L : List Int) (hL : L.length = 195) (x y : Operand) (hg : o.guard = none) (ho : o.op = .alloc 63) (hsg : s.guard = none) (hs : s.op = .store 63 x y)
    (hx : (a.put o.dst (.pointer (some ⟨w.heap.size, 0, none⟩))).eval x = .pointer (some ⟨w.heap.size, 0, none⟩)) (hy : (a.put o.dst (.pointer (some ⟨w.heap.size, 0, none⟩))).eval y = .agg (ints L).toArray)
    (h : wpList Tryz.prog ops Q rest ((a.put o.dst (.pointer (some ⟨w.heap.size, 0, none⟩))).put s.dst undef) (w.alloc (.cells (ints L).toArray 63))) : wpList Tryz.prog ops Q (o :: s :: rest) a w := by
  refine wpList_alloc_model hg ho ?_
  refine wpList_store_mid hsg 63 x y hs w.heap.size 0 (ints L).toArray hx hy (there_new w L hL) (info_M hL) (all_oneCell_toArray (ints_one _)) ?_
  rw [show (ints L).toArray.toList = ints L from rfl, store_new w hL]
  exact h
/-- The load of a whole model under its own word: 195 cells are not opened. -/
def loadM (p : Value) : Sem Value := Instr.loadAt 63 p
theorem loadM_eq (p : Value) : Instr.loadAt 63 p = loadM p := rfl
theorem run_loadM (g : Nat) (w : World) (L : List Int) (h : MB w g L) : (loadM (.pointer (some ⟨g, 0, none⟩))).run Tryz.prog w = .ok (.agg (ints L).toArray) w :=
  run_loadAt_mid w g 0 63 (ints L) _ h.range Tryz.underlying63 rfl h.info
attribute [go_sem ↓] loadM_eq
attribute [go_sem] run_loadM
theorem below_over {w W : World} {g : Nat} (h : Below w.heap.size w W) (hg : w.heap.size ≤ g) (vs : List Value) : Below w.heap.size w (W.setCells g 0 vs) := below_setCells hg vs 0 W h
end Go.Proofs.YtiokfaiioealdaaGreatDoor
