/- '[]byte(s)' of a string: the row of its bytes, read and written; xor of bytes; lists turned by xor. -/
import Derived.Test.YtokegkpbbhegpaaBlk
import Derived.Test.YtokegkpbbhegpaaWCrc
import Derived.Test.YtokegkpbbhegpaaWWords
import Derived.Test.YtokegkpbbhegpaaWMore
import Derived.Lib.ConvBytes
namespace Go.Proofs.Ytokegkpbbhegpaa.L
open Go.RowKit Go.Proofs.YtokegkpbbhegpaaW.PrintWords Go.Proofs.Ytokegkpbbhegpaa.L
set_option linter.unusedVariables false
set_option linter.unusedSimpArgs false

/-- Block g is a row of bytes whose first ones are xs. -/
structure M8 (w : World) (g : Nat) (xs : List Nat) : Prop where
  has : ∃ cs t m, w.heap[g]? = some (.cells cs t (m, m + 1)) ∧ xs.length ≤ m ∧ ∀ (j x : Nat), xs[j]? = some x → cs[j]? = some (.int .u8 (x : Int))
theorem M8.lt {w : World} {g : Nat} {xs : List Nat} (h : M8 w g xs) : g < w.heap.size := by
  obtain ⟨cs, t, m, hb, -⟩ := h.has
  rcases Nat.lt_or_ge g w.heap.size with hh | hh
  · exact hh
  · rw [Array.getElem?_eq_none hh] at hb; cases hb
theorem M8.cell {w : World} {g : Nat} {xs : List Nat} (h : M8 w g xs) {j x : Nat} (e : xs[j]? = some x) : w.cell? ⟨g, j, none⟩ = some (.int .u8 (x : Int)) := by
  obtain ⟨cs, t, m, hb, -, hc⟩ := h.has
  simp only [World.cell?, hb]
  simpa using hc j x e
theorem M8.free {w : World} {g : Nat} {xs : List Nat} (h : M8 w g xs) {j : Nat} (hj : j < xs.length) : w.frozen? ⟨g, j, none⟩ = false := by
  obtain ⟨cs, t, m, hb, hm, -⟩ := h.has
  simp only [World.frozen?, hb]
  simp; omega
theorem M8.keep {w w1 : World} {g : Nat} {xs : List Nat} (h : M8 w g xs) (e : w1.heap[g]? = w.heap[g]?) : M8 w1 g xs := ⟨by rw [e]; exact h.has⟩
theorem M8.below {w w1 : World} {g : Nat} {xs : List Nat} (h : M8 w g xs) (hb : Below w.heap.size w w1) : M8 w1 g xs := h.keep (hb.block g h.lt)
theorem M8.drew {w : World} {g : Nat} {xs : List Nat} (h : M8 w g xs) : M8 w.drew g xs := ⟨h.has⟩
theorem M8.drewN {w : World} {g : Nat} {xs : List Nat} (h : M8 w g xs) (n : Nat) : M8 (w.drewN n) g xs := ⟨h.has⟩
theorem M8.alloc {w : World} {g : Nat} {xs : List Nat} (h : M8 w g xs) (o : Obj) : M8 (w.alloc o) g xs := h.keep (Below.heap_alloc w o g h.lt)
theorem M8.far {w : World} {g : Nat} {xs : List Nat} (h : M8 w g xs) {p : Addr} (hp : p.block ≠ g) (v : Value) : M8 (w.setCell p v) g xs :=
  h.keep (by show (w.heap.modify p.block _)[g]? = _; rw [Array.getElem?_modify, if_neg hp])
theorem M8.set {w : World} {g : Nat} {xs : List Nat} (h : M8 w g xs) (i x : Nat) : M8 (w.setCell ⟨g, i, none⟩ (.int .u8 (x : Int))) g (xs.set i x) := by
  obtain ⟨cs, t, m, hb, hm, hc⟩ := h.has
  refine ⟨cs.setIfInBounds i (.int .u8 (x : Int)), t, m, by simp [World.setCell, Array.getElem?_modify, hb], by rw [List.length_set]; exact hm, fun j y hy => ?_⟩
  rw [List.getElem?_set] at hy
  rw [Array.getElem?_setIfInBounds]
  by_cases e : i = j
  · subst e
    rw [if_pos rfl] at hy ⊢
    split at hy
    · cases hy
      have : i < cs.size := by
        have h1 := hc i (xs[i]'(by assumption)) (List.getElem?_eq_getElem (by assumption))
        exact (Array.getElem?_eq_some_iff.1 h1).1
      rw [if_pos this]
    · cases hy
  · rw [if_neg e] at hy ⊢
    exact hc j y hy
theorem M8.of_bytes (w : World) (e : TypeId) (s : ByteArray) : M8 (Lib.bytesWorld w e s) w.heap.size (nats s) := by
  refine ⟨_, _, _, Lib.bytesWorld_at_new w e s, ?_, fun j x hx => ?_⟩
  · rw [nats_length]; simp [Lib.bytesCells]
  · have hj : j < s.size := by rw [← nats_length]; exact (List.getElem?_eq_some_iff.1 hx).1
    unfold Lib.bytesCells
    rw [Array.getElem?_append, if_pos (by rw [Array.size_map]; exact hj), Array.getElem?_map]
    unfold nats at hx
    rw [List.getElem?_map, Array.getElem?_toList] at hx
    cases hb : s.data[j]? with
    | none => rw [hb] at hx; cases hx
    | some b =>
      rw [hb] at hx
      cases hx
      rfl
theorem below_bytes {B : Nat} {w0 w : World} (h : Below B w0 w) (hB : B ≤ w0.heap.size) (e : TypeId) (s : ByteArray) : Below B w0 (Lib.bytesWorld w e s) :=
  below_then h hB ⟨rfl, rfl, rfl, by rw [Lib.bytesWorld_size]; omega, fun i hi => Lib.bytesWorld_at_old w e s i hi⟩
theorem below_bytes' (w : World) (e : TypeId) (s : ByteArray) : Below w.heap.size w (Lib.bytesWorld w e s) := below_bytes (Below.refl _ _) (Nat.le_refl _) e s
/-- The text of such a row. -/
def ofNats (xs : List Nat) : ByteArray := ⟨(xs.map UInt8.ofNat).toArray⟩
theorem M8.text {P : Program} {w : World} {g c : Nat} {xs : List Nat} {src dst e : TypeId} (h : M8 w g xs) (hs : P.underlying src = some (.slice e)) (he : P.underlying e = some (.int .u8)) (hd : P.underlying dst = some .string) (hl : xs.length ≤ 9223372036854775807) :
    (convert src dst (.slice (some ⟨g, 0, none⟩) xs.length c)).run P w = .ok (.string (ofNats xs)) w := by
  have hr : ReadsInt w .u8 (some ⟨g, 0, none⟩) xs.length (xs.map (fun x : Nat => (x : Int))) := by
    refine ⟨by simp, hl, fun _ => ⟨_, rfl, fun j hj => ?_⟩⟩
    have := h.cell (List.getElem?_eq_getElem hj)
    rw [show (Addr.add ⟨g, 0, none⟩ j) = ⟨g, j, none⟩ from by unfold Addr.add; split <;> simp_all]
    rw [this]
    simp [List.getD_eq_getElem?_getD, List.getElem?_eq_getElem hj]
  rw [string_of_reads hs he hd hr]
  refine congrArg (fun s => Result.ok (Value.string s) w) ?_
  unfold strOfNums ofNats
  rw [List.map_map]
  rfl
theorem ofNats_nats (s : ByteArray) : ofNats (nats s) = s := by
  unfold ofNats nats
  rw [List.map_map]
  have : (UInt8.ofNat ∘ UInt8.toNat) = id := by funext x; simp
  rw [this, List.map_id]
theorem xor8 (a b : Nat) (ha : a < 256) (hb : b < 256) : bits .xor .u8 (a : Int) (b : Int) = ((a ^^^ b : Nat) : Int) := by
  have e : bits .xor .u8 (a : Int) (b : Int) = IntKind.u8.wrap (((BitVec.ofInt 8 (a : Int) ^^^ BitVec.ofInt 8 (b : Int)).toNat : Nat) : Int) := rfl
  rw [e, BitVec.toNat_xor, BitVec.ofInt_natCast, BitVec.ofInt_natCast, BitVec.toNat_ofNat, BitVec.toNat_ofNat, Nat.mod_eq_of_lt ha, Nat.mod_eq_of_lt hb, IntKind.wrap_u8]
  have : a ^^^ b < 2 ^ 8 := Nat.xor_lt_two_pow ha hb
  omega
/-- Some bytes from k on turned. -/
def xr : List Nat → Nat → List Nat → List Nat
  | xs, _, [] => xs
  | xs, k, e :: r => xr (xs.set k (xs.getD k 0 ^^^ e)) (k + 1) r
theorem xr_snoc : ∀ (es xs : List Nat) (k e : Nat), xr xs k (es ++ [e]) = (xr xs k es).set (k + es.length) ((xr xs k es).getD (k + es.length) 0 ^^^ e)
  | [], _, _, _ => rfl
  | a :: r, xs, k, e => by
    rw [List.cons_append, xr, xr, xr_snoc r, List.length_cons, show k + 1 + r.length = k + (r.length + 1) by omega]
theorem xr_length : ∀ (es xs : List Nat) (k : Nat), (xr xs k es).length = xs.length
  | [], _, _ => rfl
  | e :: r, xs, k => by rw [xr, xr_length r, List.length_set]
theorem xr_lt : ∀ (es xs : List Nat) (k : Nat), (∀ x ∈ xs, x < 256) → (∀ e ∈ es, e < 256) → ∀ x ∈ xr xs k es, x < 256
  | [], _, _, h, _ => h
  | e :: r, xs, k, h, he => by
    rw [xr]
    refine xr_lt r _ _ (fun x hx => ?_) (fun y hy => he y (by simp [hy]))
    rcases List.mem_or_eq_of_mem_set hx with hx | rfl
    · exact h x hx
    · have h1 : xs.getD k 0 < 256 := by
        rw [List.getD_eq_getElem?_getD]
        cases hq : xs[k]? with
        | none => simp
        | some y => exact h y (List.mem_of_getElem? hq)
      exact Nat.xor_lt_two_pow (n := 8) h1 (he e (by simp))
theorem xr_mid : ∀ (es B A C : List Nat), B.length = es.length → xr (A ++ B ++ C) A.length es = A ++ List.zipWith (· ^^^ ·) B es ++ C
  | [], B, A, C, h => by
    have : B = [] := List.eq_nil_of_length_eq_zero h
    subst this; simp [xr]
  | e :: r, [], A, C, h => by simp at h
  | e :: r, b :: B, A, C, h => by
    have h1 : (A ++ b :: B ++ C).getD A.length 0 = b := by
      rw [List.getD_eq_getElem?_getD, List.append_assoc, List.getElem?_append_right (Nat.le_refl _)]; simp
    have h2 : (A ++ b :: B ++ C).set A.length (b ^^^ e) = (A ++ [b ^^^ e]) ++ B ++ C := by
      rw [List.append_assoc, List.set_append_right _ _ (Nat.le_refl _)]; simp
    rw [xr, h1, h2]
    have := xr_mid r B (A ++ [b ^^^ e]) C (by simpa using h)
    rw [List.length_append, List.length_singleton] at this
    rw [this]; simp
theorem M8.ne {w : World} {g k : Nat} {xs : List Nat} {t : TypeId} {cs : List Value} (h : M8 w g xs) (hk : BC w k t cs) : g ≠ k := by
  rintro rfl
  obtain ⟨cs', t', m, hb, -⟩ := h.has
  have := hb.symm.trans hk.blk
  simp at this
theorem R_set8 {α : Type} {d : Kd α} {e base g j : Nat} {W : World} {ok : Nat → Prop} {v u : Value} {xs : List α} {ys : List Nat} (h : d.R e W base ok v xs) (hE : d.E = []) (hM : M8 W g ys) : d.R e (W.setCell ⟨g, j, none⟩ u) base ok v xs := by
  refine Kd.R_mono (Kd.R_far (p := ⟨g, j, none⟩) (Kd.R_tight hE h) (fun k hk => ?_) u) (fun k hk => h.1 k hk.symm)
  rintro rfl
  obtain ⟨cells, hc⟩ := Kd.R_typed h _ hk.symm
  obtain ⟨cs', t', m, hb, -⟩ := hM.has
  have := hb.symm.trans hc
  simp at this
section
variable {P : Program} {ops : Array Oper} {rest : List Oper} {o : Oper} {a : Act} {Q : Exit → Act → World → Prop} {W : World}
/-- '[]byte(s)' in a plain region: its block and its world by names of their own. -/
theorem bytes_event (hgd : o.guard = none) {N : Tmp} (_hd : o.dst = some N) (src dst e : TypeId) (x : Operand) (ho : o.op = .convert src dst x) (s : ByteArray) (hx : a.eval x = .string s) {u : TypeDesc}
    (hs : P.underlying src = some u) (hd : P.underlying dst = some (.slice e)) (he : P.underlying e = some (.int .u8))
    (h : ∀ g c w1, g = W.heap.size → M8 w1 g (nats s) → Below W.heap.size W w1 → wpList P ops Q rest (a.put o.dst (.slice (some ⟨g, 0, none⟩) s.size c)) w1) : wpList P ops Q (o :: rest) a W := by
  refine Kd.event_run hgd ?_ (h _ (grownCap W s.size 0 e) _ rfl (M8.of_bytes W e s) (below_bytes' W e s))
  unfold execOp
  simp only [ho, hx]
  rw [Sem.run_bind, Lib.run_convert_string_bytes W src dst e s hs hd he]
  rfl
end
end Go.Proofs.Ytokegkpbbhegpaa.L
