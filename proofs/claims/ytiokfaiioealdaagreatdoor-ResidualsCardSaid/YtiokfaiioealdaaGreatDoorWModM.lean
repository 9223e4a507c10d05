/- A model that may not learn; what the call of Learn comes to, whatever it is given (chapter 9). -/
import Derived.Test.YtiokfaiioealdaaGreatDoorWModL
namespace Go.Proofs.YtiokfaiioealdaaGreatDoor
open Go.RowKit Go.Proofs.YtiokfaiioealdaaGreatDoor.L
set_option linter.unusedVariables false
set_option linter.unusedSimpArgs false

def zM : List Int := nm 0 0
def lOk (M : List Int) (x y z bit : Int) : Bool := mMay M && xOk x y z && (decide (0 ≤ bit) && decide (bit ≤ 1))
set_option maxRecDepth 100000 in
set_option maxHeartbeats 2000000 in
theorem learn_no (M : List Int) (hM : M.length = 195) (x y z bit : Int) (w : World) (h : lOk M x y z bit = false) :
   Calls Tryz.prog 163 #[.agg (ints M).toArray, v3 x y z, .int .i64 bit] w fun e w' => e = .returned (.tuple #[.agg (ints zM).toArray, .int .i64 900]) ∧ Below w.heap.size w w' := by
  have HM := Lib.hid hM
  have hsz : (Tryz.prog.info? 63).map (·.size) = some (ints M).length := by rw [ints_length, hM]; exact info_model
  have hszZ : (Tryz.prog.info? 63).map (·.size) = some (ints zM).length := by rw [ints_length]; exact info_model
  have HSZ := Lib.hid hsz
  have HSF := Lib.hid hszZ
  have HSA : Hid ((Tryz.prog.info? 63).map (·.size) = some (ints zM).toArray.size) := hszZ
  have hz0 : Tryz.zeroCells63 = (ints zM).toArray := by kernel_rfl
  have HZ0 := Lib.hid hz0
  clear hM hsz hz0 hszZ
  unfold v3
  have key : mMay M = false ∨ (mMay M = true ∧ xOk x y z = false) ∨ (mMay M = true ∧ xOk x y z = true ∧ bit < 0) ∨ (mMay M = true ∧ xOk x y z = true ∧ ¬ bit < 0 ∧ 1 < bit) := by
    unfold lOk at h
    cases hm : mMay M
    · exact .inl rfl
    · cases hx : xOk x y z
      · exact .inr (.inl ⟨rfl, rfl⟩)
      · rw [hm, hx] at h
        simp only [Bool.true_and, Bool.and_eq_false_iff, decide_eq_false_iff_not] at h
        rcases (by omega : bit < 0 ∨ 1 < bit) with h1 | h1
        · exact .inr (.inr (.inl ⟨rfl, rfl, h1⟩))
        · exact .inr (.inr (.inr ⟨rfl, rfl, by omega, h1⟩))
  clear h
  have go : ∀ B : Bool, mMay M = B → Hid (mMay M = B) := fun _ h => h
  go_enter Tryz.func163, Tryz.ntmps163
  rcases key with h1 | ⟨h1, h2⟩ | ⟨h1, h2, h3⟩ | ⟨h1, h2, h3, h4⟩
  · have H1 := Lib.hid h1
    clear h1 go
    go_wp2_with (with_reducible refine wpList_load_mid rfl 63 (.tmp 3) rfl w.heap.size 0 ?_ (ints M) _ (range_below (range_below (range_new w M 63) (below_alloc (Below.refl _ _) _)) (below_alloc (Below.refl _ _) _)) Tryz.underlying63 rfl HSZ.out ?_)
    all_goals first | (show _ = Value.pointer _; rfl) | skip
    rw [HZ0.out]
    refine (model_may M HM.out _).mono ?_
    rw [H1.out]
    rintro e w1 ⟨rfl, hb⟩
    have hq := Lib.hid (below_next (w := w) (by repeat (first | (with_reducible exact Below.refl _ _) | (with_reducible exact Hid.out (by with_reducible assumption)) | (with_reducible apply below_drewN) | (with_reducible apply below_drew) | (with_reducible apply below_alloc) | (refine below_set ?_ ?_ _; (focus (first | (simp; done) | (simp; omega)))))) hb)
    have HO1 := Lib.hid (hm_below (heap_alloc_new ((w.alloc (.cells (ints M).toArray 63)).alloc (.cells #[.int .i64 x, .int .i64 y, .int .i64 z] 61)) (.cells (ints zM).toArray 63)) hb)
    simp only [World.size_alloc] at HO1
    clear hb
    have HTH : Hid (w1.there (w.heap.size + 1 + 1) 0 (ints zM).toArray.size) := by
      have e : (ints zM).toArray.size = 195 := by simp [ints_length, zM, nm_length]
      rw [e]
      exact blk_there HO1.out (by rw [show zM = nm 0 0 from rfl, nm_length (by omega) (by omega)]; omega)
    go_wp2_with (with_reducible refine wpList_store_mid rfl 63 (.tmp 6) (.tmp 26) rfl (w.heap.size + 1 + 1) 0 (ints zM).toArray ?_ ?_ HTH.out HSA.out (all_oneCell_toArray (ints_one _)) ?_)
    all_goals first | (show _ = Value.pointer _; rfl) | (show _ = Value.agg _; rfl) | (show _ = Value.agg _; exact congrArg Value.agg HZ0.out) | skip
    have hrs := World.rangeAt_setCells_same w1 (w.heap.size + 1 + 1) 0 (ints zM) HTH.out
    refine bodyPost_ret (results_cellt (P := Tryz.prog) Tryz.results163 _ _ (w.heap.size + 1 + 1) (ints zM) _ ?_ hrs Tryz.underlying63 rfl HSF.out) ?_ ⟨rfl, below_setCells (by omega) _ _ _ hq.out⟩
    all_goals first | rfl | go_simp
  · have H1 := Lib.hid h1
    have H2 := Lib.hid h2
    clear h1 h2 go
    go_wp2_with (with_reducible refine wpList_load_mid rfl 63 (.tmp 3) rfl w.heap.size 0 ?_ (ints M) _ (range_below (range_below (range_new w M 63) (below_alloc (Below.refl _ _) _)) (below_alloc (Below.refl _ _) _)) Tryz.underlying63 rfl HSZ.out ?_)
    all_goals first | (show _ = Value.pointer _; rfl) | skip
    rw [HZ0.out]
    refine (model_may M HM.out _).mono ?_
    rw [H1.out]
    rintro e w1 ⟨rfl, hb⟩
    have hq := Lib.hid (below_next (w := w) (by repeat (first | (with_reducible exact Below.refl _ _) | (with_reducible exact Hid.out (by with_reducible assumption)) | (with_reducible apply below_drewN) | (with_reducible apply below_drew) | (with_reducible apply below_alloc) | (refine below_set ?_ ?_ _; (focus (first | (simp; done) | (simp; omega)))))) hb)
    have HO1 := Lib.hid (hm_below (heap_alloc_new ((w.alloc (.cells (ints M).toArray 63)).alloc (.cells #[.int .i64 x, .int .i64 y, .int .i64 z] 61)) (.cells (ints zM).toArray 63)) hb)
    simp only [World.size_alloc] at HO1
    obtain ⟨ep, eq, er, fp, fq, fr, lp⟩ := own3 hb (b := w.heap.size + 1) (x := .int .i64 (x)) (y := .int .i64 (y)) (z := .int .i64 (z)) (by go_simp) (by go_simp) (by go_simp) (by go_simp) (by go_simp) (by go_simp)
    clear hb
    have HTH : Hid (w1.there (w.heap.size + 1 + 1) 0 (ints zM).toArray.size) := by
      have e : (ints zM).toArray.size = 195 := by simp [ints_length, zM, nm_length]
      rw [e]
      exact blk_there HO1.out (by rw [show zM = nm 0 0 from rfl, nm_length (by omega) (by omega)]; omega)
    go_wp2_with (first | (go_at_call 186; refine (there_any _ 0 x y z _ ep eq er).mono ?_; rw [H2.out]; rintro e w2 ⟨rfl, rfl⟩) | (with_reducible refine wpList_store_mid rfl 63 (.tmp 6) (.tmp 26) rfl (w.heap.size + 1 + 1) 0 (ints zM).toArray ?_ ?_ HTH.out HSA.out (all_oneCell_toArray (ints_one _)) ?_))
    all_goals first | (show _ = Value.pointer _; rfl) | (show _ = Value.agg _; rfl) | (show _ = Value.agg _; exact congrArg Value.agg HZ0.out) | skip
    have hrs := World.rangeAt_setCells_same w1 (w.heap.size + 1 + 1) 0 (ints zM) HTH.out
    refine bodyPost_ret (results_cellt (P := Tryz.prog) Tryz.results163 _ _ (w.heap.size + 1 + 1) (ints zM) _ ?_ hrs Tryz.underlying63 rfl HSF.out) ?_ ⟨rfl, below_setCells (by omega) _ _ _ hq.out⟩
    all_goals first | rfl | go_simp
  · have H1 := Lib.hid h1
    have H2 := Lib.hid h2
    have d1 : decide (bit < 0) = true := by simp; omega
    clear h1 h2 h3 go
    go_wp2_with (with_reducible refine wpList_load_mid rfl 63 (.tmp 3) rfl w.heap.size 0 ?_ (ints M) _ (range_below (range_below (range_new w M 63) (below_alloc (Below.refl _ _) _)) (below_alloc (Below.refl _ _) _)) Tryz.underlying63 rfl HSZ.out ?_)
    all_goals first | (show _ = Value.pointer _; rfl) | skip
    rw [HZ0.out]
    refine (model_may M HM.out _).mono ?_
    rw [H1.out]
    rintro e w1 ⟨rfl, hb⟩
    have hq := Lib.hid (below_next (w := w) (by repeat (first | (with_reducible exact Below.refl _ _) | (with_reducible exact Hid.out (by with_reducible assumption)) | (with_reducible apply below_drewN) | (with_reducible apply below_drew) | (with_reducible apply below_alloc) | (refine below_set ?_ ?_ _; (focus (first | (simp; done) | (simp; omega)))))) hb)
    have HO1 := Lib.hid (hm_below (heap_alloc_new ((w.alloc (.cells (ints M).toArray 63)).alloc (.cells #[.int .i64 x, .int .i64 y, .int .i64 z] 61)) (.cells (ints zM).toArray 63)) hb)
    simp only [World.size_alloc] at HO1
    obtain ⟨ep, eq, er, fp, fq, fr, lp⟩ := own3 hb (b := w.heap.size + 1) (x := .int .i64 (x)) (y := .int .i64 (y)) (z := .int .i64 (z)) (by go_simp) (by go_simp) (by go_simp) (by go_simp) (by go_simp) (by go_simp)
    clear hb
    have HTH : Hid (w1.there (w.heap.size + 1 + 1) 0 (ints zM).toArray.size) := by
      have e : (ints zM).toArray.size = 195 := by simp [ints_length, zM, nm_length]
      rw [e]
      exact blk_there HO1.out (by rw [show zM = nm 0 0 from rfl, nm_length (by omega) (by omega)]; omega)
    go_wp2_with (first | (go_at_call 186; refine (there_any _ 0 x y z _ ep eq er).mono ?_; rw [H2.out]; rintro e w2 ⟨rfl, rfl⟩) | (with_reducible refine wpList_store_mid rfl 63 (.tmp 6) (.tmp 26) rfl (w.heap.size + 1 + 1) 0 (ints zM).toArray ?_ ?_ HTH.out HSA.out (all_oneCell_toArray (ints_one _)) ?_))
    all_goals first | (show _ = Value.pointer _; rfl) | (show _ = Value.agg _; rfl) | (show _ = Value.agg _; exact congrArg Value.agg HZ0.out) | skip
    have hrs := World.rangeAt_setCells_same w1 (w.heap.size + 1 + 1) 0 (ints zM) HTH.out
    refine bodyPost_ret (results_cellt (P := Tryz.prog) Tryz.results163 _ _ (w.heap.size + 1 + 1) (ints zM) _ ?_ hrs Tryz.underlying63 rfl HSF.out) ?_ ⟨rfl, below_setCells (by omega) _ _ _ hq.out⟩
    all_goals first | rfl | go_simp
  · have H1 := Lib.hid h1
    have H2 := Lib.hid h2
    have d1 : decide (bit < 0) = false := by simp; omega
    have d2 : decide (1 < bit) = true := by simp; omega
    clear h1 h2 h3 h4 go
    go_wp2_with (with_reducible refine wpList_load_mid rfl 63 (.tmp 3) rfl w.heap.size 0 ?_ (ints M) _ (range_below (range_below (range_new w M 63) (below_alloc (Below.refl _ _) _)) (below_alloc (Below.refl _ _) _)) Tryz.underlying63 rfl HSZ.out ?_)
    all_goals first | (show _ = Value.pointer _; rfl) | skip
    rw [HZ0.out]
    refine (model_may M HM.out _).mono ?_
    rw [H1.out]
    rintro e w1 ⟨rfl, hb⟩
    have hq := Lib.hid (below_next (w := w) (by repeat (first | (with_reducible exact Below.refl _ _) | (with_reducible exact Hid.out (by with_reducible assumption)) | (with_reducible apply below_drewN) | (with_reducible apply below_drew) | (with_reducible apply below_alloc) | (refine below_set ?_ ?_ _; (focus (first | (simp; done) | (simp; omega)))))) hb)
    have HO1 := Lib.hid (hm_below (heap_alloc_new ((w.alloc (.cells (ints M).toArray 63)).alloc (.cells #[.int .i64 x, .int .i64 y, .int .i64 z] 61)) (.cells (ints zM).toArray 63)) hb)
    simp only [World.size_alloc] at HO1
    obtain ⟨ep, eq, er, fp, fq, fr, lp⟩ := own3 hb (b := w.heap.size + 1) (x := .int .i64 (x)) (y := .int .i64 (y)) (z := .int .i64 (z)) (by go_simp) (by go_simp) (by go_simp) (by go_simp) (by go_simp) (by go_simp)
    clear hb
    have HTH : Hid (w1.there (w.heap.size + 1 + 1) 0 (ints zM).toArray.size) := by
      have e : (ints zM).toArray.size = 195 := by simp [ints_length, zM, nm_length]
      rw [e]
      exact blk_there HO1.out (by rw [show zM = nm 0 0 from rfl, nm_length (by omega) (by omega)]; omega)
    go_wp2_with (first | (go_at_call 186; refine (there_any _ 0 x y z _ ep eq er).mono ?_; rw [H2.out]; rintro e w2 ⟨rfl, rfl⟩) | (with_reducible refine wpList_store_mid rfl 63 (.tmp 6) (.tmp 26) rfl (w.heap.size + 1 + 1) 0 (ints zM).toArray ?_ ?_ HTH.out HSA.out (all_oneCell_toArray (ints_one _)) ?_))
    all_goals first | (show _ = Value.pointer _; rfl) | (show _ = Value.agg _; rfl) | (show _ = Value.agg _; exact congrArg Value.agg HZ0.out) | skip
    have hrs := World.rangeAt_setCells_same w1 (w.heap.size + 1 + 1) 0 (ints zM) HTH.out
    refine bodyPost_ret (results_cellt (P := Tryz.prog) Tryz.results163 _ _ (w.heap.size + 1 + 1) (ints zM) _ ?_ hrs Tryz.underlying63 rfl HSF.out) ?_ ⟨rfl, below_setCells (by omega) _ _ _ hq.out⟩
    all_goals first | rfl | go_simp
def lR (M : List Int) (x y z bit : Int) : List Int := if lOk M x y z bit then lM M x.toNat y.toNat z.toNat bit else zM
theorem lOk_iff {M : List Int} {x y z bit : Int} : lOk M x y z bit = true ↔ mMay M = true ∧ ((0 ≤ x ∧ x ≤ 63) ∧ (0 ≤ y ∧ y ≤ 63) ∧ (0 ≤ z ∧ z ≤ 63)) ∧ 0 ≤ bit ∧ bit ≤ 1 := by
  unfold lOk
  rw [Bool.and_eq_true, Bool.and_eq_true, xOk_iff, Bool.and_eq_true, decide_eq_true_eq, decide_eq_true_eq, and_assoc]
theorem model_learn (M : List Int) (hM : M.length = 195) (x y z bit : Int) (w : World) (ht : Tab w) :
   Calls Tryz.prog 163 #[.agg (ints M).toArray, v3 x y z, .int .i64 bit] w fun e w' => e = .returned (.tuple #[.agg (ints (lR M x y z bit)).toArray, .int .i64 (if lOk M x y z bit then 0 else 900)]) ∧ Below w.heap.size w w' := by
  unfold lR
  cases h : lOk M x y z bit
  · exact learn_no M hM x y z bit w h
  · obtain ⟨hm, ⟨h1, h2, h3⟩, hb0, hb1⟩ := lOk_iff.1 h
    obtain ⟨x, rfl⟩ := Int.eq_ofNat_of_zero_le h1.1
    obtain ⟨y, rfl⟩ := Int.eq_ofNat_of_zero_le h2.1
    obtain ⟨z, rfl⟩ := Int.eq_ofNat_of_zero_le h3.1
    exact learn_yes M hM x y z bit w ht hm (by omega) (by omega) (by omega) hb0 hb1
end Go.Proofs.YtiokfaiioealdaaGreatDoor
