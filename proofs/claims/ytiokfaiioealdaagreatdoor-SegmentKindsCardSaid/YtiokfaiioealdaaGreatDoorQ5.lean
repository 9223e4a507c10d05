/- The texts behind the row, joined: WModM LibEq WModR WModE WMixR LStr LMix WModV. -/
import Derived.Test.YtiokfaiioealdaaGreatDoorQ4
import Derived.Test.YtiokfaiioealdaaGreatDoorQ1
import Derived.Stop.BytesEq
import Derived.Laws.StructEq
import Derived.Test.YtiokfaiioealdaaGreatDoorProg
import Derived.Laws.NewBlocks
namespace Go.Proofs.YtiokfaiioealdaaGreatDoor
open Go.RowKit Go.Proofs.YtiokfaiioealdaaGreatDoor.L
set_option linter.unusedVariables false
set_option linter.unusedSimpArgs false
def zM : List Int := nm 0 0
def lOk (M : List Int) (x y z bit : Int) : Bool := mMay M && xOk x y z && (decide (0 ≤ bit) && decide (bit ≤ 1))
set_option maxRecDepth 100000 in
set_option maxHeartbeats 2000000 in
theorem learn_no (M : List Int) (hM : M.length = 195) (x y z bit : Int) (w : World) (h : lOk M x y z bit = false) :
   Calls Tryz.prog 163 #[.agg (ints M).toArray, v3 x y z, .int .i64 bit] w fun e w' => e = .returned (.tuple #[.agg (ints zM).toArray, .int .i64 900]) ∧ Below w.heap.size w w' := by
  have HM := Lib.hid hM
  have hsz : (Tryz.prog.info? 63).map (·.size) = some (ints M).length := by rw [ints_length, hM]; exact info_model
  have hszZ : (Tryz.prog.info? 63).map (·.size) = some (ints zM).length := by rw [ints_length]; exact info_model
  have HSZ := Lib.hid hsz
  have HSF := Lib.hid hszZ
  have HSA : Hid ((Tryz.prog.info? 63).map (·.size) = some (ints zM).toArray.size) := hszZ
  have hz0 : Tryz.zeroCells63 = (ints zM).toArray := by kernel_rfl
  have HZ0 := Lib.hid hz0
  clear hM hsz hz0 hszZ
  unfold v3
  have key : mMay M = false ∨ (mMay M = true ∧ xOk x y z = false) ∨ (mMay M = true ∧ xOk x y z = true ∧ bit < 0) ∨ (mMay M = true ∧ xOk x y z = true ∧ ¬ bit < 0 ∧ 1 < bit) := by
    unfold lOk at h
    cases hm : mMay M
    · exact .inl rfl
    · cases hx : xOk x y z
      · exact .inr (.inl ⟨rfl, rfl⟩)
      · rw [hm, hx] at h
        simp only [Bool.true_and, Bool.and_eq_false_iff, decide_eq_false_iff_not] at h
        rcases (by omega : bit < 0 ∨ 1 < bit) with h1 | h1
        · exact .inr (.inr (.inl ⟨rfl, rfl, h1⟩))
        · exact .inr (.inr (.inr ⟨rfl, rfl, by omega, h1⟩))
  clear h
  have go : ∀ B : Bool, mMay M = B → Hid (mMay M = B) := fun _ h => h
  go_enter Tryz.func163, Tryz.ntmps163
  rcases key with h1 | ⟨h1, h2⟩ | ⟨h1, h2, h3⟩ | ⟨h1, h2, h3, h4⟩
  · have H1 := Lib.hid h1
    clear h1 go
    go_wp2_with (with_reducible refine wpList_load_mid rfl 63 (.tmp 3) rfl w.heap.size 0 ?_ (ints M) _ (range_below (range_below (range_new w M 63) (below_alloc (Below.refl _ _) _)) (below_alloc (Below.refl _ _) _)) Tryz.underlying63 rfl HSZ.out ?_)
    all_goals first | (show _ = Value.pointer _; rfl) | skip
    rw [HZ0.out]
    refine (model_may M HM.out _).mono ?_
    rw [H1.out]
    rintro e w1 ⟨rfl, hb⟩
    have hq := Lib.hid (below_next (w := w) (by repeat (first | (with_reducible exact Below.refl _ _) | (with_reducible exact Hid.out (by with_reducible assumption)) | (with_reducible apply below_drewN) | (with_reducible apply below_drew) | (with_reducible apply below_alloc) | (refine below_set ?_ ?_ _; (focus (first | (simp; done) | (simp; omega)))))) hb)
    have HO1 := Lib.hid (hm_below (heap_alloc_new ((w.alloc (.cells (ints M).toArray 63)).alloc (.cells #[.int .i64 x, .int .i64 y, .int .i64 z] 61)) (.cells (ints zM).toArray 63)) hb)
    simp only [World.size_alloc] at HO1
    clear hb
    have HTH : Hid (w1.there (w.heap.size + 1 + 1) 0 (ints zM).toArray.size) := by
      have e : (ints zM).toArray.size = 195 := by simp [ints_length, zM, nm_length]
      rw [e]
      exact blk_there HO1.out (by rw [show zM = nm 0 0 from rfl, nm_length (by omega) (by omega)]; omega)
    go_wp2_with (with_reducible refine wpList_store_mid rfl 63 (.tmp 6) (.tmp 26) rfl (w.heap.size + 1 + 1) 0 (ints zM).toArray ?_ ?_ HTH.out HSA.out (all_oneCell_toArray (ints_one _)) ?_)
    all_goals first | (show _ = Value.pointer _; rfl) | (show _ = Value.agg _; rfl) | (show _ = Value.agg _; exact congrArg Value.agg HZ0.out) | skip
    have hrs := World.rangeAt_setCells_same w1 (w.heap.size + 1 + 1) 0 (ints zM) HTH.out
    refine bodyPost_ret (results_cellt (P := Tryz.prog) Tryz.results163 _ _ (w.heap.size + 1 + 1) (ints zM) _ ?_ hrs Tryz.underlying63 rfl HSF.out) ?_ ⟨rfl, below_setCells (by omega) _ _ _ hq.out⟩
    all_goals first | rfl | go_simp
  · have H1 := Lib.hid h1
    have H2 := Lib.hid h2
    clear h1 h2 go
    go_wp2_with (with_reducible refine wpList_load_mid rfl 63 (.tmp 3) rfl w.heap.size 0 ?_ (ints M) _ (range_below (range_below (range_new w M 63) (below_alloc (Below.refl _ _) _)) (below_alloc (Below.refl _ _) _)) Tryz.underlying63 rfl HSZ.out ?_)
    all_goals first | (show _ = Value.pointer _; rfl) | skip
    rw [HZ0.out]
    refine (model_may M HM.out _).mono ?_
    rw [H1.out]
    rintro e w1 ⟨rfl, hb⟩
    have hq := Lib.hid (below_next (w := w) (by repeat (first | (with_reducible exact Below.refl _ _) | (with_reducible exact Hid.out (by with_reducible assumption)) | (with_reducible apply below_drewN) | (with_reducible apply below_drew) | (with_reducible apply below_alloc) | (refine below_set ?_ ?_ _; (focus (first | (simp; done) | (simp; omega)))))) hb)
    have HO1 := Lib.hid (hm_below (heap_alloc_new ((w.alloc (.cells (ints M).toArray 63)).alloc (.cells #[.int .i64 x, .int .i64 y, .int .i64 z] 61)) (.cells (ints zM).toArray 63)) hb)
    simp only [World.size_alloc] at HO1
    obtain ⟨ep, eq, er, fp, fq, fr, lp⟩ := own3 hb (b := w.heap.size + 1) (x := .int .i64 (x)) (y := .int .i64 (y)) (z := .int .i64 (z)) (by go_simp) (by go_simp) (by go_simp) (by go_simp) (by go_simp) (by go_simp)
    clear hb
    have HTH : Hid (w1.there (w.heap.size + 1 + 1) 0 (ints zM).toArray.size) := by
      have e : (ints zM).toArray.size = 195 := by simp [ints_length, zM, nm_length]
      rw [e]
      exact blk_there HO1.out (by rw [show zM = nm 0 0 from rfl, nm_length (by omega) (by omega)]; omega)
    go_wp2_with (first | (go_at_call 186; refine (there_any _ 0 x y z _ ep eq er).mono ?_; rw [H2.out]; rintro e w2 ⟨rfl, rfl⟩) | (with_reducible refine wpList_store_mid rfl 63 (.tmp 6) (.tmp 26) rfl (w.heap.size + 1 + 1) 0 (ints zM).toArray ?_ ?_ HTH.out HSA.out (all_oneCell_toArray (ints_one _)) ?_))
    all_goals first | (show _ = Value.pointer _; rfl) | (show _ = Value.agg _; rfl) | (show _ = Value.agg _; exact congrArg Value.agg HZ0.out) | skip
    have hrs := World.rangeAt_setCells_same w1 (w.heap.size + 1 + 1) 0 (ints zM) HTH.out
    refine bodyPost_ret (results_cellt (P := Tryz.prog) Tryz.results163 _ _ (w.heap.size + 1 + 1) (ints zM) _ ?_ hrs Tryz.underlying63 rfl HSF.out) ?_ ⟨rfl, below_setCells (by omega) _ _ _ hq.out⟩
    all_goals first | rfl | go_simp
  · have H1 := Lib.hid h1
    have H2 := Lib.hid h2
    have d1 : decide (bit < 0) = true := by simp; omega
    clear h1 h2 h3 go
    go_wp2_with (with_reducible refine wpList_load_mid rfl 63 (.tmp 3) rfl w.heap.size 0 ?_ (ints M) _ (range_below (range_below (range_new w M 63) (below_alloc (Below.refl _ _) _)) (below_alloc (Below.refl _ _) _)) Tryz.underlying63 rfl HSZ.out ?_)
    all_goals first | (show _ = Value.pointer _; rfl) | skip
    rw [HZ0.out]
    refine (model_may M HM.out _).mono ?_
    rw [H1.out]
    rintro e w1 ⟨rfl, hb⟩
    have hq := Lib.hid (below_next (w := w) (by repeat (first | (with_reducible exact Below.refl _ _) | (with_reducible exact Hid.out (by with_reducible assumption)) | (with_reducible apply below_drewN) | (with_reducible apply below_drew) | (with_reducible apply below_alloc) | (refine below_set ?_ ?_ _; (focus (first | (simp; done) | (simp; omega)))))) hb)
    have HO1 := Lib.hid (hm_below (heap_alloc_new ((w.alloc (.cells (ints M).toArray 63)).alloc (.cells #[.int .i64 x, .int .i64 y, .int .i64 z] 61)) (.cells (ints zM).toArray 63)) hb)
    simp only [World.size_alloc] at HO1
    obtain ⟨ep, eq, er, fp, fq, fr, lp⟩ := own3 hb (b := w.heap.size + 1) (x := .int .i64 (x)) (y := .int .i64 (y)) (z := .int .i64 (z)) (by go_simp) (by go_simp) (by go_simp) (by go_simp) (by go_simp) (by go_simp)
    clear hb
    have HTH : Hid (w1.there (w.heap.size + 1 + 1) 0 (ints zM).toArray.size) := by
      have e : (ints zM).toArray.size = 195 := by simp [ints_length, zM, nm_length]
      rw [e]
      exact blk_there HO1.out (by rw [show zM = nm 0 0 from rfl, nm_length (by omega) (by omega)]; omega)
    go_wp2_with (first | (go_at_call 186; refine (there_any _ 0 x y z _ ep eq er).mono ?_; rw [H2.out]; rintro e w2 ⟨rfl, rfl⟩) | (with_reducible refine wpList_store_mid rfl 63 (.tmp 6) (.tmp 26) rfl (w.heap.size + 1 + 1) 0 (ints zM).toArray ?_ ?_ HTH.out HSA.out (all_oneCell_toArray (ints_one _)) ?_))
    all_goals first | (show _ = Value.pointer _; rfl) | (show _ = Value.agg _; rfl) | (show _ = Value.agg _; exact congrArg Value.agg HZ0.out) | skip
    have hrs := World.rangeAt_setCells_same w1 (w.heap.size + 1 + 1) 0 (ints zM) HTH.out
    refine bodyPost_ret (results_cellt (P := Tryz.prog) Tryz.results163 _ _ (w.heap.size + 1 + 1) (ints zM) _ ?_ hrs Tryz.underlying63 rfl HSF.out) ?_ ⟨rfl, below_setCells (by omega) _ _ _ hq.out⟩
    all_goals first | rfl | go_simp
  · have H1 := Lib.hid h1
    have H2 := Lib.hid h2
    have d1 : decide (bit < 0) = false := by simp; omega
    have d2 : decide (1 < bit) = true := by simp; omega
    clear h1 h2 h3 h4 go
    go_wp2_with (with_reducible refine wpList_load_mid rfl 63 (.tmp 3) rfl w.heap.size 0 ?_ (ints M) _ (range_below (range_below (range_new w M 63) (below_alloc (Below.refl _ _) _)) (below_alloc (Below.refl _ _) _)) Tryz.underlying63 rfl HSZ.out ?_)
    all_goals first | (show _ = Value.pointer _; rfl) | skip
    rw [HZ0.out]
    refine (model_may M HM.out _).mono ?_
    rw [H1.out]
    rintro e w1 ⟨rfl, hb⟩
    have hq := Lib.hid (below_next (w := w) (by repeat (first | (with_reducible exact Below.refl _ _) | (with_reducible exact Hid.out (by with_reducible assumption)) | (with_reducible apply below_drewN) | (with_reducible apply below_drew) | (with_reducible apply below_alloc) | (refine below_set ?_ ?_ _; (focus (first | (simp; done) | (simp; omega)))))) hb)
    have HO1 := Lib.hid (hm_below (heap_alloc_new ((w.alloc (.cells (ints M).toArray 63)).alloc (.cells #[.int .i64 x, .int .i64 y, .int .i64 z] 61)) (.cells (ints zM).toArray 63)) hb)
    simp only [World.size_alloc] at HO1
    obtain ⟨ep, eq, er, fp, fq, fr, lp⟩ := own3 hb (b := w.heap.size + 1) (x := .int .i64 (x)) (y := .int .i64 (y)) (z := .int .i64 (z)) (by go_simp) (by go_simp) (by go_simp) (by go_simp) (by go_simp) (by go_simp)
    clear hb
    have HTH : Hid (w1.there (w.heap.size + 1 + 1) 0 (ints zM).toArray.size) := by
      have e : (ints zM).toArray.size = 195 := by simp [ints_length, zM, nm_length]
      rw [e]
      exact blk_there HO1.out (by rw [show zM = nm 0 0 from rfl, nm_length (by omega) (by omega)]; omega)
    go_wp2_with (first | (go_at_call 186; refine (there_any _ 0 x y z _ ep eq er).mono ?_; rw [H2.out]; rintro e w2 ⟨rfl, rfl⟩) | (with_reducible refine wpList_store_mid rfl 63 (.tmp 6) (.tmp 26) rfl (w.heap.size + 1 + 1) 0 (ints zM).toArray ?_ ?_ HTH.out HSA.out (all_oneCell_toArray (ints_one _)) ?_))
    all_goals first | (show _ = Value.pointer _; rfl) | (show _ = Value.agg _; rfl) | (show _ = Value.agg _; exact congrArg Value.agg HZ0.out) | skip
    have hrs := World.rangeAt_setCells_same w1 (w.heap.size + 1 + 1) 0 (ints zM) HTH.out
    refine bodyPost_ret (results_cellt (P := Tryz.prog) Tryz.results163 _ _ (w.heap.size + 1 + 1) (ints zM) _ ?_ hrs Tryz.underlying63 rfl HSF.out) ?_ ⟨rfl, below_setCells (by omega) _ _ _ hq.out⟩
    all_goals first | rfl | go_simp
def lR (M : List Int) (x y z bit : Int) : List Int := if lOk M x y z bit then lM M x.toNat y.toNat z.toNat bit else zM
theorem lOk_iff {M : List Int} {x y z bit : Int} : lOk M x y z bit = true ↔ mMay M = true ∧ ((0 ≤ x ∧ x ≤ 63) ∧ (0 ≤ y ∧ y ≤ 63) ∧ (0 ≤ z ∧ z ≤ 63)) ∧ 0 ≤ bit ∧ bit ≤ 1 := by
  unfold lOk
  rw [Bool.and_eq_true, Bool.and_eq_true, xOk_iff, Bool.and_eq_true, decide_eq_true_eq, decide_eq_true_eq, and_assoc]
theorem model_learn (M : List Int) (hM : M.length = 195) (x y z bit : Int) (w : World) (ht : Tab w) :
   Calls Tryz.prog 163 #[.agg (ints M).toArray, v3 x y z, .int .i64 bit] w fun e w' => e = .returned (.tuple #[.agg (ints (lR M x y z bit)).toArray, .int .i64 (if lOk M x y z bit then 0 else 900)]) ∧ Below w.heap.size w w' := by
  unfold lR
  cases h : lOk M x y z bit
  · exact learn_no M hM x y z bit w h
  · obtain ⟨hm, ⟨h1, h2, h3⟩, hb0, hb1⟩ := lOk_iff.1 h
    obtain ⟨x, rfl⟩ := Int.eq_ofNat_of_zero_le h1.1
    obtain ⟨y, rfl⟩ := Int.eq_ofNat_of_zero_le h2.1
    obtain ⟨z, rfl⟩ := Int.eq_ofNat_of_zero_le h3.1
    exact learn_yes M hM x y z bit w ht hm (by omega) (by omega) (by omega) hb0 hb1
end Go.Proofs.YtiokfaiioealdaaGreatDoor
namespace Go.Proofs.YtiokfaiioealdaaGreatDoor
open Go.RowKit Go.Proofs.YtiokfaiioealdaaGreatDoor.L
set_option linter.unusedVariables false
set_option linter.unusedSimpArgs false
theorem all_range_ints : ∀ (xs ys : List Int), xs.length = ys.length → (List.range xs.length).all (fun i => xs.getD i 0 == ys.getD i 0) = (xs == ys)
  | [], [], _ => by simp
  | x :: xs, y :: ys, h => by
    rw [List.length_cons, List.range_succ_eq_map, List.all_cons, List.all_map]
    have ih := all_range_ints xs ys (by simpa using h)
    have e : ((fun i => (x :: xs).getD i 0 == (y :: ys).getD i 0) ∘ Nat.succ) = (fun i => xs.getD i 0 == ys.getD i 0) := by funext i; simp [List.getD]
    rw [e, ih]
    simp [List.cons_beq_cons]
  | [], _ :: _, h => by simp at h
  | _ :: _, [], h => by simp at h
section
variable {P : Program} (w : World)
theorem run_equalIn_ints (d : Nat) (t e : TypeId) (n : Nat) (ht : P.underlying t = some (.array n e)) (he : P.underlying e = some (.int .i64)) (hsz : ∀ w, (sizeOf e).run P w = .ok 1 w)
    (xs ys : List Int) (hx : xs.length = n) (hy : ys.length = n) :
    (Op.equalIn (d + 2) t (.agg (xs.map (Value.int .i64)).toArray) (.agg (ys.map (Value.int .i64)).toArray)).run P w = .ok (xs == ys) w := by
  rw [← all_range_ints xs ys (hx.trans hy.symm), hx, List.range_eq_range', Op.equalIn]
  simp only [Sem.run_bind, run_underlying ht, Result.andThen_ok, hsz, Std.Legacy.Range.forIn_eq_forIn_range', Std.Legacy.Range.size, Nat.sub_zero, Nat.add_sub_cancel, Nat.div_one]
  have hl : ∀ i ∈ List.range' 0 n 1, i < n := fun i hi => by simpa using (List.mem_range'_1.1 hi).2
  generalize List.range' 0 n 1 = l at hl ⊢
  induction l with
  | nil => simp
  | cons i l ih =>
    have hi : i < n := hl i (by simp)
    have px : (part e (xs.map (Value.int .i64)).toArray (i * 1)).run P w = .ok (.int .i64 (xs.getD i 0)) w := by
      simp [part, isAgg, run_underlying he, List.getD, List.getElem?_eq_getElem (show i < xs.length by omega)]
    have py : (part e (ys.map (Value.int .i64)).toArray (i * 1)).run P w = .ok (.int .i64 (ys.getD i 0)) w := by
      simp [part, isAgg, run_underlying he, List.getD, List.getElem?_eq_getElem (show i < ys.length by omega)]
    have pe : (Op.equalIn (d + 1) e (.int .i64 (xs.getD i 0)) (.int .i64 (ys.getD i 0))).run P w = .ok (xs.getD i 0 == ys.getD i 0) w := run_equalIn_int w d e .i64 .i64 _ _ he
    simp only [List.forIn_cons, Sem.run_bind, px, py, pe, Result.andThen_ok, List.all_cons]
    cases hb : (xs.getD i 0 == ys.getD i 0)
    · simp
    · simp only [Bool.not_true, Bool.false_eq_true, if_false, Sem.run_pure, Result.andThen_ok, Bool.true_and]
      exact ih fun j hj => hl j (by simp [hj])
theorem run_eql_ints (t e : TypeId) (n : Nat) (ht : P.underlying t = some (.array n e)) (he : P.underlying e = some (.int .i64)) (hsz : ∀ w, (sizeOf e).run P w = .ok 1 w)
    (xs ys : List Int) (hx : xs.length = n) (hy : ys.length = n) :
    (binOp .eql t (.agg (xs.map (Value.int .i64)).toArray) (.agg (ys.map (Value.int .i64)).toArray)).run P w = .ok (.bool (xs == ys)) w := by
  rw [run_eql_struct, run_equalIn_ints w 9998 t e n ht he hsz xs ys hx hy]
  rfl
end
end Go.Proofs.YtiokfaiioealdaaGreatDoor
namespace Go.Proofs.YtiokfaiioealdaaGreatDoor
open Go.RowKit Go.Proofs.YtiokfaiioealdaaGreatDoor.L
set_option linter.unusedVariables false
set_option linter.unusedSimpArgs false
end Go.Proofs.YtiokfaiioealdaaGreatDoor
namespace Go.Proofs.YtiokfaiioealdaaGreatDoor
open Go.RowKit Go.Proofs.YtiokfaiioealdaaGreatDoor.L
set_option linter.unusedVariables false
set_option linter.unusedSimpArgs false
section
variable {P : Program} (w : World)
end
end Go.Proofs.YtiokfaiioealdaaGreatDoor
namespace Go.Proofs.YtiokfaiioealdaaGreatDoor
open Go.RowKit Go.Proofs.YtiokfaiioealdaaGreatDoor.L
set_option linter.unusedVariables false
set_option linter.unusedSimpArgs false
end Go.Proofs.YtiokfaiioealdaaGreatDoor
namespace Go.Proofs.YtiokfaiioealdaaGreatDoor
open Go.RowKit Go.Proofs.YtiokfaiioealdaaGreatDoor.L
set_option linter.unusedVariables false
set_option linter.unusedSimpArgs false
theorem num_any (e : Int) (w : World) : Calls Tryz.prog 18 #[.int .i64 e] w fun e' w' => e' = .returned (.int .i64 e) ∧ w = w' := by
  go_enter Tryz.func18, Tryz.ntmps18
  go_wp2
  go_ret
  exact ⟨rfl, rfl⟩
end Go.Proofs.YtiokfaiioealdaaGreatDoor
namespace Go.Proofs.YtiokfaiioealdaaGreatDoor
open Go.RowKit Go.Proofs.YtiokfaiioealdaaGreatDoor.L
set_option linter.unusedVariables false
set_option linter.unusedSimpArgs false
theorem size_int (w : World) : (sizeOf 3).run Tryz.prog w = .ok 1 w := by kernel_rfl
theorem eql3 (a b c x y z : Int) (w : World) : (binOp .eql 61 (.agg #[.int .i64 a, .int .i64 b, .int .i64 c]) (.agg #[.int .i64 x, .int .i64 y, .int .i64 z])).run Tryz.prog w = .ok (.bool ([a, b, c] == [x, y, z])) w :=
  run_eql_ints w 61 3 3 Tryz.underlying61 Tryz.underlying3 size_int [a, b, c] [x, y, z] rfl rfl
attribute [go_sem ↓] eql3
end Go.Proofs.YtiokfaiioealdaaGreatDoor
namespace Go.Proofs.YtiokfaiioealdaaGreatDoor
open Go.RowKit Go.Proofs.YtiokfaiioealdaaGreatDoor.L
set_option linter.unusedVariables false
set_option linter.unusedSimpArgs false
theorem newM_length : newM.length = 195 := nm_length (by omega) (by omega)
theorem zM_length : zM.length = 195 := nm_length (by omega) (by omega)
theorem lR_length {M : List Int} (hM : M.length = 195) (x y z bit : Int) : (lR M x y z bit).length = 195 := by
  unfold lR; split
  · rw [lM_length]; exact hM
  · exact zM_length
/-- Block g holds the model L. -/
structure MB (w : World) (g : Nat) (L : List Int) : Prop where
  blk : w.heap[g]? = some (.cells (ints L).toArray 63 (0, 0))
  len : L.length = 195
theorem MB.range {w : World} {g : Nat} {L : List Int} (h : MB w g L) : w.rangeAt g 0 (ints L) := blk_range h.blk
theorem MB.cell {w : World} {g : Nat} {L : List Int} (h : MB w g L) {o : Nat} (ho : o < 195) : w.cell? ⟨g, o, none⟩ = some (.int .i64 (L.getD o 0)) := blk_cell h.blk (by rw [h.len]; exact ho)
theorem MB.frozen {w : World} {g : Nat} {L : List Int} (h : MB w g L) (o : Nat) : w.frozen? ⟨g, o, none⟩ = false := blk_frozen h.blk o
theorem MB.lt {w : World} {g : Nat} {L : List Int} (h : MB w g L) : g < w.heap.size := blk_lt h.blk
theorem info_M {L : List Int} (h : L.length = 195) : (Tryz.prog.info? 63).map (·.size) = some (ints L).toArray.size := by
  have : (ints L).toArray.size = 195 := by simp [ints_length, h]
  rw [this]; exact info_model
theorem MB.info {w : World} {g : Nat} {L : List Int} (h : MB w g L) : (Tryz.prog.info? 63).map (·.size) = some (ints L).length := info_M h.len
theorem MB.there {w : World} {g : Nat} {L L' : List Int} (h : MB w g L) (h' : L'.length = 195) : w.there g 0 (ints L').toArray.size := by
  have e : (ints L').toArray.size = 195 := by simp [ints_length, h']
  rw [e]
  exact blk_there h.blk (by rw [h.len]; omega)
theorem MB.below {w w1 : World} {g : Nat} {L : List Int} (h : MB w g L) (hb : Below w.heap.size w w1) : MB w1 g L := ⟨hm_below h.blk hb, h.len⟩
theorem MB.blw {B : Nat} {w w1 : World} {g : Nat} {L : List Int} (h : MB w g L) (hb : Below B w w1) (hg : g < B) : MB w1 g L := ⟨(hb.block g hg).trans h.blk, h.len⟩
theorem MB.alloc {w : World} {g : Nat} {L : List Int} (h : MB w g L) (o : Obj) : MB (w.alloc o) g L := ⟨hm_alloc h.blk o, h.len⟩
theorem MB.drew {w : World} {g : Nat} {L : List Int} (h : MB w g L) : MB w.drew g L := ⟨h.blk, h.len⟩
theorem MB.drewN {w : World} {g : Nat} {L : List Int} (h : MB w g L) (n : Nat) : MB (w.drewN n) g L := ⟨h.blk, h.len⟩
theorem MB.new (w : World) {L : List Int} (h : L.length = 195) : MB (w.alloc (.cells (ints L).toArray 63)) w.heap.size L := ⟨heap_alloc_new w _, h⟩
theorem MB.set {w : World} {g : Nat} {L : List Int} (h : MB w g L) (o : Nat) (x : Int) : MB (w.setCell ⟨g, o, none⟩ (.int .i64 x)) g (L.set o x) := ⟨blk_set h.blk x, by rw [List.length_set]; exact h.len⟩
theorem MB.far {w : World} {g : Nat} {L : List Int} (h : MB w g L) {p : Addr} (hp : p.block ≠ g) (v : Value) : MB (w.setCell p v) g L :=
  ⟨by show (w.heap.modify p.block _)[g]? = _; rw [Array.getElem?_modify, if_neg hp]; exact h.blk, h.len⟩
/-- What a list is when another one is laid over it, cell by cell. -/
def laid : List Int → Nat → List Int → List Int
  | L, _, [] => L
  | L, o, x :: r => laid (L.set o x) (o + 1) r
theorem laid_all : ∀ (r P S : List Int), S.length = r.length → laid (P ++ S) P.length r = P ++ r
  | [], P, S, h => by rw [List.length_nil, List.length_eq_zero_iff] at h; subst h; rfl
  | x :: r, P, [], h => by simp at h
  | x :: r, P, s :: S, h => by
    rw [laid, List.set_append_right _ _ (Nat.le_refl _), Nat.sub_self, List.set_cons_zero]
    have := laid_all r (P ++ [x]) S (by simpa using h)
    rw [List.length_append, List.length_singleton, List.append_assoc, List.append_assoc, List.singleton_append, List.singleton_append] at this
    exact this
theorem laid_over {L R : List Int} (h : L.length = R.length) : laid L 0 R = R := laid_all R [] L h
theorem setCells_blk : ∀ (R : List Int) (o : Nat) (w : World) (g : Nat) (L : List Int) (t : TypeId), w.heap[g]? = some (.cells (ints L).toArray t (0, 0)) → (w.setCells g o (ints R)).heap[g]? = some (.cells (ints (laid L o R)).toArray t (0, 0))
  | [], _, _, _, _, _, h => h
  | x :: R, o, w, g, L, t, h => by
    show ((w.setCell ⟨g, o, none⟩ (.int .i64 x)).setCells g (o + 1) (ints R)).heap[g]? = _
    rw [laid]
    exact setCells_blk R (o + 1) _ g _ t (blk_set h x)
theorem setCells_far : ∀ (vs : List Value) (o : Nat) (w : World) (g k : Nat), g ≠ k → (w.setCells g o vs).heap[k]? = w.heap[k]?
  | [], _, _, _, _, _ => rfl
  | v :: r, o, w, g, k, h => by
    rw [World.setCells, setCells_far r (o + 1) _ g k h]
    show (w.heap.modify g _)[k]? = _
    rw [Array.getElem?_modify, if_neg h]
theorem MB.over {w : World} {g : Nat} {L R : List Int} (h : MB w g L) (hR : R.length = 195) : MB (w.setCells g 0 (ints R)) g R := ⟨by have := setCells_blk R 0 w g L _ h.blk; rwa [laid_over (by rw [h.len, hR])] at this, hR⟩
theorem MB.beside {w : World} {g k : Nat} {L : List Int} (h : MB w g L) (hk : k ≠ g) (vs : List Value) : MB (w.setCells k 0 vs) g L := ⟨by rw [setCells_far _ _ _ _ _ hk]; exact h.blk, h.len⟩
/-- The load of a whole model under its own word: 195 cells are not opened. -/
def loadM (p : Value) : Sem Value := Instr.loadAt 63 p
theorem loadM_eq (p : Value) : Instr.loadAt 63 p = loadM p := rfl
theorem run_loadM (g : Nat) (w : World) (L : List Int) (h : MB w g L) : (loadM (.pointer (some ⟨g, 0, none⟩))).run Tryz.prog w = .ok (.agg (ints L).toArray) w :=
  run_loadAt_mid w g 0 63 (ints L) _ h.range Tryz.underlying63 rfl h.info
attribute [go_sem ↓] loadM_eq
attribute [go_sem] run_loadM
end Go.Proofs.YtiokfaiioealdaaGreatDoor
