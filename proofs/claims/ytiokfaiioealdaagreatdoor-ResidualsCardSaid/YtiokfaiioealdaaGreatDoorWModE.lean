/- '==' of two models (chapter 9). -/
import Derived.Test.YtiokfaiioealdaaGreatDoorWMod
import Derived.Test.YtiokfaiioealdaaGreatDoorLibEq
import Derived.Laws.StructEq
namespace Go.Proofs.YtiokfaiioealdaaGreatDoor
open Go.RowKit Go.Proofs.YtiokfaiioealdaaGreatDoor.L
set_option linter.unusedVariables false
set_option linter.unusedSimpArgs false

theorem ints_extract (L : List Int) (o n : Nat) : (ints L).toArray.extract o (o + n) = (ints (cut L o n)).toArray := by
  apply Array.ext'
  simp [ints, cut, List.map_drop, List.map_take]
theorem cut_ext {A B : List Int} (h : A.length = B.length) (n m : Nat) (hl : A.length = n * m) : (List.range n).all (fun i => cut A (i * m) m == cut B (i * m) m) = (A == B) := by
  rw [Bool.eq_iff_iff, List.all_eq_true, beq_iff_eq]
  constructor
  · intro hh
    refine List.ext_getElem h fun j h1 h2 => ?_
    have hm : 0 < m := by rcases Nat.eq_zero_or_pos m with e | e
                          · subst e; omega
                          · exact e
    have hi : j / m < n := by rw [Nat.div_lt_iff_lt_mul hm]; omega
    have e := beq_iff_eq.1 (hh (j / m) (List.mem_range.2 hi))
    have e2 : (cut A (j / m * m) m).getD (j % m) 0 = (cut B (j / m * m) m).getD (j % m) 0 := by rw [e]
    rw [cut_get (Nat.mod_lt _ hm), cut_get (Nat.mod_lt _ hm), Nat.div_add_mod'] at e2
    simpa [List.getD_eq_getElem?_getD, List.getElem?_eq_getElem h1, List.getElem?_eq_getElem h2] using e2
  · rintro rfl i -
    exact beq_self_eq_true _
section
variable {P : Program} (w : World)
theorem run_equalIn_rows (d : Nat) (t e e2 : TypeId) (n m : Nat) (ht : P.underlying t = some (.array n e)) (he : P.underlying e = some (.array m e2)) (he2 : P.underlying e2 = some (.int .i64)) (hsz2 : ∀ w, (sizeOf e2).run P w = .ok 1 w) (hsz : ∀ w, (sizeOf e).run P w = .ok m w)
    (A B : List Int) (hA : A.length = n * m) (hB : B.length = n * m) :
    (Op.equalIn (d + 3) t (.agg (ints A).toArray) (.agg (ints B).toArray)).run P w = .ok (A == B) w := by
  rw [← cut_ext (hA.trans hB.symm) n m hA, List.range_eq_range', Op.equalIn]
  simp only [Sem.run_bind, run_underlying ht, Result.andThen_ok, hsz, Std.Legacy.Range.forIn_eq_forIn_range', Std.Legacy.Range.size, Nat.sub_zero, Nat.add_sub_cancel, Nat.div_one]
  have hl : ∀ i ∈ List.range' 0 n 1, i < n := fun i hi => by simpa using (List.mem_range'_1.1 hi).2
  generalize List.range' 0 n 1 = l at hl ⊢
  induction l with
  | nil => simp
  | cons i l ih =>
    have hi : i < n := hl i (by simp)
    have hfit : i * m + m ≤ n * m := by have := Nat.mul_le_mul_right m (show i + 1 ≤ n by omega); rwa [Nat.add_mul, Nat.one_mul] at this
    have px : ∀ L : List Int, (part e (ints L).toArray (i * m)).run P w = .ok (.agg (ints (cut L (i * m) m)).toArray) w := by
      intro L
      simp only [part, isAgg, Sem.run_bind, run_underlying he, Sem.run_pure, Result.andThen_ok, if_true, hsz, ints_extract]
    have pe : (Op.equalIn (d + 2) e (.agg (ints (cut A (i * m) m)).toArray) (.agg (ints (cut B (i * m) m)).toArray)).run P w = .ok (cut A (i * m) m == cut B (i * m) m) w :=
      run_equalIn_ints w d e e2 m he he2 hsz2 _ _ (cut_length (by omega)) (cut_length (by omega))
    simp only [List.forIn_cons, Sem.run_bind, px, pe, Result.andThen_ok, List.all_cons]
    cases hb : (cut A (i * m) m == cut B (i * m) m)
    · simp
    · simp only [Bool.not_true, Bool.false_eq_true, if_false, Sem.run_pure, Result.andThen_ok, Bool.true_and]
      exact ih fun j hj => hl j (by simp [hj])
end
theorem size_row64 (w : World) : (sizeOf 59).run Tryz.prog w = .ok 64 w := by kernel_rfl
theorem size_rows (w : World) : (sizeOf 60).run Tryz.prog w = .ok 192 w := by kernel_rfl
theorem size_three (w : World) : (sizeOf 61).run Tryz.prog w = .ok 3 w := by kernel_rfl
theorem size_int9 (w : World) : (sizeOf 3).run Tryz.prog w = .ok 1 w := by kernel_rfl
theorem fields_model : (Tryz.prog.fieldsOf 63).toList.map (fun f => (f.name, f.type, f.offset)) = [("Counts", 60, 0), ("Weights", 61, 192)] := by kernel_rfl
theorem eqf_one {P : Program} {w : World} {d : Nat} {xs ys : Array Value} {f : Field} {a b : Value} {r : Bool} (hn : f.name ≠ "_") (ha : (part f.type xs f.offset).run P w = .ok a w) (hb : (part f.type ys f.offset).run P w = .ok b w) (he : (Op.equalIn d f.type a b).run P w = .ok r w) : (Op.eqFields d xs ys [f]).run P w = .ok r w := by
  simp only [Op.eqFields, if_pos hn, Sem.run_bind, ha, hb, he, Result.andThen_ok]
  cases r <;> simp
theorem eqf_two {P : Program} {w : World} {d : Nat} {xs ys : Array Value} {f : Field} {fs : List Field} {a b : Value} {r s : Bool} (hn : f.name ≠ "_") (ha : (part f.type xs f.offset).run P w = .ok a w) (hb : (part f.type ys f.offset).run P w = .ok b w) (he : (Op.equalIn d f.type a b).run P w = .ok r w) (hr : (Op.eqFields d xs ys fs).run P w = .ok s w) :
    (Op.eqFields d xs ys (f :: fs)).run P w = .ok (r && s) w := by
  rw [Op.eqFields]
  simp only [if_pos hn, Sem.run_bind, ha, hb, he, Result.andThen_ok]
  cases r
  · simp
  · simpa using hr
theorem model_split {A B : List Int} (hA : A.length = 195) (hB : B.length = 195) : (cut A 0 192 == cut B 0 192 && cut A 192 3 == cut B 192 3) = (A == B) := by
  rw [Bool.eq_iff_iff, Bool.and_eq_true, beq_iff_eq, beq_iff_eq, beq_iff_eq]
  constructor
  · rintro ⟨h1, h2⟩
    have eA : A = cut A 0 192 ++ cut A 192 3 := by
      simp only [cut, List.drop_zero]
      rw [List.take_of_length_le (l := A.drop 192) (by simp; omega), List.take_append_drop]
    have eB : B = cut B 0 192 ++ cut B 192 3 := by
      simp only [cut, List.drop_zero]
      rw [List.take_of_length_le (l := B.drop 192) (by simp; omega), List.take_append_drop]
    rw [eA, eB, h1, h2]
  · rintro rfl; exact ⟨rfl, rfl⟩
theorem eql_model (A B : List Int) (hA : A.length = 195) (hB : B.length = 195) (w : World) : (binOp .eql 63 (.agg (ints A).toArray) (.agg (ints B).toArray)).run Tryz.prog w = .ok (.bool (A == B)) w := by
  have hf := fields_model
  obtain ⟨f, g, hfg⟩ : ∃ f g, (Tryz.prog.fieldsOf 63).toList = [f, g] := by
    match h : (Tryz.prog.fieldsOf 63).toList with
    | [f, g] => exact ⟨f, g, rfl⟩
    | [] => rw [h] at hf; simp at hf
    | [f] => rw [h] at hf; simp at hf
    | f :: g :: k :: r => rw [h] at hf; simp at hf
  rw [hfg] at hf
  simp only [List.map_cons, List.map_nil, List.cons.injEq, Prod.mk.injEq, and_true] at hf
  obtain ⟨⟨n1, t1, o1⟩, n2, t2, o2⟩ := hf
  have px : ∀ L : List Int, (part f.type (ints L).toArray f.offset).run Tryz.prog w = .ok (.agg (ints (cut L 0 192)).toArray) w := by
    intro L
    rw [t1, o1]
    simp only [part, isAgg, Sem.run_bind, run_underlying Tryz.underlying60, Sem.run_pure, Result.andThen_ok, if_true, size_rows, ints_extract]
  have py : ∀ L : List Int, (part g.type (ints L).toArray g.offset).run Tryz.prog w = .ok (.agg (ints (cut L 192 3)).toArray) w := by
    intro L
    rw [t2, o2]
    simp only [part, isAgg, Sem.run_bind, run_underlying Tryz.underlying61, Sem.run_pure, Result.andThen_ok, if_true, size_three, ints_extract]
  have ex : (Op.equalIn 9999 f.type (.agg (ints (cut A 0 192)).toArray) (.agg (ints (cut B 0 192)).toArray)).run Tryz.prog w = .ok (cut A 0 192 == cut B 0 192) w := by
    rw [t1]
    exact run_equalIn_rows w 9996 60 59 3 3 64 Tryz.underlying60 Tryz.underlying59 Tryz.underlying3 size_int9 size_row64 _ _ (cut_length (by omega)) (cut_length (by omega))
  have ey : (Op.equalIn 9999 g.type (.agg (ints (cut A 192 3)).toArray) (.agg (ints (cut B 192 3)).toArray)).run Tryz.prog w = .ok (cut A 192 3 == cut B 192 3) w := by
    rw [t2]
    exact run_equalIn_ints w 9997 61 3 3 Tryz.underlying61 Tryz.underlying3 size_int9 _ _ (cut_length (by omega)) (cut_length (by omega))
  have hrun : (Op.equalIn 10000 63 (.agg (ints A).toArray) (.agg (ints B).toArray)).run Tryz.prog w = .ok (A == B) w := by
    rw [run_equalIn_agg w 9999 63 _ _ (by kernel_rfl) (by kernel_rfl), hfg, ← model_split hA hB]
    exact eqf_two (by rw [n1]; decide) (px A) (px B) ex (eqf_one (by rw [n2]; decide) (py A) (py B) ey)
  rw [run_eql_struct, hrun]
  rfl
end Go.Proofs.YtiokfaiioealdaaGreatDoor
