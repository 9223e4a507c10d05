/- A model that learns, in the document's own answer (chapter 9). -/
import Derived.Test.YtlabpfebdhbgiaaDoorWModT
import Derived.BigRegion
namespace Go.Proofs.YtlabpfebdhbgiaaDoor
open Go.RowKit
set_option linter.unusedVariables false
set_option linter.unusedSimpArgs false

theorem info_L {L : List Int} (h : L.length = 195) : (Tryd.prog.info? 48).map (·.size) = some (ints L).length := info_M h
theorem rtrain_ok (a b c x y z bit : Int) (w : World) (h : mixOk a b c x y z = true) (h0 : 0 ≤ bit) (h1 : bit ≤ 1) :
   Calls Tryd.prog 29 #[v3 a b c, v3 x y z, .int .i64 bit] w fun e w' => e = .returned (.tuple #[.agg #[.int .i64 (tw a x (4096 * bit - dot a b c x y z)), .int .i64 (tw b y (4096 * bit - dot a b c x y z)), .int .i64 (tw c z (4096 * bit - dot a b c x y z))], .int .i64 0]) ∧ Below w.heap.size w w' := by
  refine (rtrain_any a b c x y z bit w).mono fun e w' he => ?_
  rw [show trOk a b c x y z bit = true by simp [trOk, h, h0, h1]] at he; exact he
theorem rnext_ok (c bit : Int) (w : World) (h : cMay c = true) (h0 : 0 ≤ bit) (h1 : bit ≤ 1) : Calls Tryd.prog 55 #[.int .i64 c, .int .i64 bit] w fun e w' => e = .returned (.tuple #[.int .i64 (cUp c bit), .int .i64 0]) ∧ w = w' := by
  refine (rcount_next c bit w).mono fun e w' he => ?_
  rw [show cOk c bit = true by simp [cOk, h, h0, h1]] at he; exact he
/-- The document's Learn under way. -/
structure LRs (w W : World) (L : List Int) (x y z : Int) : Prop where
  hm : MB W w.heap.size L
  hx : C3 W (w.heap.size + 1) x y z
  ho : MB W (w.heap.size + 1 + 1) zM
  hb : Below w.heap.size w W
theorem LRs.below {w W W1 : World} {L : List Int} {x y z : Int} (h : LRs w W L x y z) (hb : Below W.heap.size W W1) : LRs w W1 L x y z := ⟨h.hm.below hb, h.hx.below hb, h.ho.below hb, below_next h.hb hb⟩
theorem LRs.drewN {w W : World} {L : List Int} {x y z : Int} (h : LRs w W L x y z) (n : Nat) : LRs w (W.drewN n) L x y z := ⟨h.hm.drewN n, h.hx.drewN n, h.ho.drewN n, below_drewN h.hb n⟩
theorem LRs.drew {w W : World} {L : List Int} {x y z : Int} (h : LRs w W L x y z) : LRs w W.drew L x y z := ⟨h.hm.drew, h.hx.drew, h.ho.drew, below_drew h.hb⟩
theorem LRs.alloc {w W : World} {L : List Int} {x y z : Int} (h : LRs w W L x y z) (o : Obj) : LRs w (W.alloc o) L x y z := ⟨h.hm.alloc o, h.hx.alloc o, h.ho.alloc o, below_alloc h.hb o⟩
theorem LRs.set {w W : World} {L : List Int} {x y z : Int} (h : LRs w W L x y z) (o : Nat) (v : Int) : LRs w (W.setCell ⟨w.heap.size, o, none⟩ (.int .i64 v)) (L.set o v) x y z :=
  ⟨h.hm.set o v, h.hx.far (by simp) _, h.ho.far (by simp; omega) _, below_set (by simp) h.hb _⟩
theorem LRs.start (w : World) {M : List Int} (hM : M.length = 195) (x y z : Int) (t : TypeId) : LRs w (((w.alloc (.cells (ints M).toArray 48)).alloc (.cells #[.int .i64 x, .int .i64 y, .int .i64 z] t)).alloc (.cells (ints zM).toArray 48)) M x y z := by
  refine ⟨((MB.new w hM).alloc _).alloc _, (C3.newAt (by simp)).alloc _, ?_, below_alloc (below_alloc (below_alloc (Below.refl _ _) _) _) _⟩
  have := MB.new ((w.alloc (.cells (ints M).toArray 48)).alloc (.cells #[.int .i64 x, .int .i64 y, .int .i64 z] t)) zM_length
  simpa using this
set_option maxRecDepth 100000 in
set_option maxHeartbeats 2000000 in
theorem rlearn_no (M : List Int) (hM : M.length = 195) (x y z bit : Int) (w : World) (h : lOk M x y z bit = false) :
   Calls Tryd.prog 34 #[.agg (ints M).toArray, v3 x y z, .int .i64 bit] w fun e w' => e = .returned (.tuple #[.agg (ints zM).toArray, .int .i64 900]) ∧ Below w.heap.size w w' := by
  have HM := Lib.hid hM
  have HS := Lib.hid (LRs.start w hM x y z 34)
  have hz0 : Tryd.zeroCells48 = (ints zM).toArray := by kernel_rfl
  have HZ0 := Lib.hid hz0
  have HSA := Lib.hid (info_M zM_length)
  clear hM hz0
  unfold v3
  have key : mMay M = false ∨ (mMay M = true ∧ xOk x y z = false) ∨ (mMay M = true ∧ xOk x y z = true ∧ (decide (0 ≤ bit) && decide (bit ≤ 1)) = false) := by
    unfold lOk at h
    cases hm : mMay M
    · exact .inl rfl
    · cases hx : xOk x y z
      · exact .inr (.inl ⟨rfl, rfl⟩)
      · rw [hm, hx] at h
        exact .inr (.inr ⟨rfl, rfl, by simpa using h⟩)
  clear h
  go_enter Tryd.func34, Tryd.ntmps34
  go_wp2_with (with_reducible refine wpList_load_mid rfl 48 (.tmp 3) rfl w.heap.size 0 ?_ (ints M) _ (range_below (range_below (range_new w M 48) (below_alloc (Below.refl _ _) _)) (below_alloc (Below.refl _ _) _)) Tryd.underlying48 rfl (info_L HM.out) ?_)
  all_goals first | (show _ = Value.pointer _; rfl) | skip
  rw [HZ0.out]
  generalize ((w.alloc _).alloc _).alloc _ = W0 at HS ⊢
  rcases key with h1 | ⟨h1, h2⟩ | ⟨h1, h2, h3⟩
  · have H1 := Lib.hid h1
    clear h1
    refine (rmodel_may M HM.out _).mono ?_
    rw [H1.out]
    rintro e w1 ⟨rfl, hb⟩
    have HS1 := Lib.hid (HS.out.below hb)
    have HTH := Lib.hid (HS1.out.ho.there zM_length)
    clear hb
    go_wp2_with (with_reducible refine wpList_store_mid rfl 48 (.tmp 6) (.tmp 27) rfl (w.heap.size + 1 + 1) 0 (ints zM).toArray ?_ ?_ HTH.out HSA.out (all_oneCell_toArray (ints_one _)) ?_)
    all_goals first | (show _ = Value.pointer _; rfl) | (show _ = Value.agg _; rfl) | (show _ = Value.agg _; exact congrArg Value.agg HZ0.out) | skip
    have hrs := World.rangeAt_setCells_same w1 (w.heap.size + 1 + 1) 0 (ints zM) HTH.out
    refine bodyPost_ret (results_cellt (P := Tryd.prog) Tryd.results34 _ _ (w.heap.size + 1 + 1) (ints zM) _ ?_ hrs Tryd.underlying48 rfl (info_L zM_length)) ?_ ⟨rfl, below_setCells (by omega) _ _ _ HS1.out.hb⟩
    all_goals first | rfl | go_simp
  · have H1 := Lib.hid h1
    have H2 := Lib.hid h2
    clear h1 h2
    refine (rmodel_may M HM.out _).mono ?_
    rw [H1.out]
    rintro e w1 ⟨rfl, hb⟩
    have HS1 := Lib.hid (HS.out.below hb)
    obtain ⟨x0, x1, x2⟩ := HS1.out.hx.cells3
    clear hb
    go_wp2_with fail
    refine (rctx_may x y z _).mono ?_
    rw [H2.out]
    rintro e w2 ⟨rfl, hb⟩
    have HS2 := Lib.hid (HS1.out.below hb)
    have HTH := Lib.hid (HS2.out.ho.there zM_length)
    clear hb x0 x1 x2
    go_wp2_with (with_reducible refine wpList_store_mid rfl 48 (.tmp 6) (.tmp 27) rfl (w.heap.size + 1 + 1) 0 (ints zM).toArray ?_ ?_ HTH.out HSA.out (all_oneCell_toArray (ints_one _)) ?_)
    all_goals first | (show _ = Value.pointer _; rfl) | (show _ = Value.agg _; rfl) | (show _ = Value.agg _; exact congrArg Value.agg HZ0.out) | skip
    have hrs := World.rangeAt_setCells_same w2 (w.heap.size + 1 + 1) 0 (ints zM) HTH.out
    refine bodyPost_ret (results_cellt (P := Tryd.prog) Tryd.results34 _ _ (w.heap.size + 1 + 1) (ints zM) _ ?_ hrs Tryd.underlying48 rfl (info_L zM_length)) ?_ ⟨rfl, below_setCells (by omega) _ _ _ HS2.out.hb⟩
    all_goals first | rfl | go_simp
  · have H1 := Lib.hid h1
    have H2 := Lib.hid h2
    have H3 := Lib.hid h3
    clear h1 h2 h3
    refine (rmodel_may M HM.out _).mono ?_
    rw [H1.out]
    rintro e w1 ⟨rfl, hb⟩
    have HS1 := Lib.hid (HS.out.below hb)
    obtain ⟨x0, x1, x2⟩ := HS1.out.hx.cells3
    clear hb
    go_wp2_with fail
    refine (rctx_may x y z _).mono ?_
    rw [H2.out]
    rintro e w2 ⟨rfl, hb⟩
    have HS2 := Lib.hid (HS1.out.below hb)
    have HTH := Lib.hid (HS2.out.ho.there zM_length)
    clear hb x0 x1 x2
    go_wp2_with (first | (go_at_call 48; refine (bit_may _ _).mono ?_; rw [H3.out]; rintro e w3 ⟨rfl, rfl⟩) | (with_reducible refine wpList_store_mid rfl 48 (.tmp 6) (.tmp 27) rfl (w.heap.size + 1 + 1) 0 (ints zM).toArray ?_ ?_ HTH.out HSA.out (all_oneCell_toArray (ints_one _)) ?_))
    all_goals first | (show _ = Value.pointer _; rfl) | (show _ = Value.agg _; rfl) | (show _ = Value.agg _; exact congrArg Value.agg HZ0.out) | skip
    have hrs := World.rangeAt_setCells_same w2 (w.heap.size + 1 + 1) 0 (ints zM) HTH.out
    refine bodyPost_ret (results_cellt (P := Tryd.prog) Tryd.results34 _ _ (w.heap.size + 1 + 1) (ints zM) _ ?_ hrs Tryd.underlying48 rfl (info_L zM_length)) ?_ ⟨rfl, below_setCells (by omega) _ _ _ HS2.out.hb⟩
    all_goals first | rfl | go_simp
set_option maxRecDepth 100000 in
set_option maxHeartbeats 4000000 in
theorem rlearn_yes (M : List Int) (hM : M.length = 195) (x y z : Nat) (bit : Int) (w : World) (hm : mMay M = true) (hx : x < 64) (hy : y < 64) (hz : z < 64) (hb0 : 0 ≤ bit) (hb1 : bit ≤ 1) :
   Calls Tryd.prog 34 #[.agg (ints M).toArray, v3 x y z, .int .i64 bit] w fun e w' => e = .returned (.tuple #[.agg (ints (lM M x y z bit)).toArray, .int .i64 0]) ∧ Below w.heap.size w w' := by
  have HM := Lib.hid hM
  have HS := Lib.hid (LRs.start w hM x y z 34)
  have HX := Lib.hid (show xOk x y z = true from xOk_iff.2 (by omega))
  have HMM := Lib.hid hm
  have HMX := Lib.hid (model_mix hM hm x (64 + y) (128 + z))
  have HG := Lib.hid (mMay_good hM hm)
  have hz0 : Tryd.zeroCells48 = (ints zM).toArray := by kernel_rfl
  have HZ0 := Lib.hid hz0
  have tb : (decide (0 ≤ bit) && decide (bit ≤ 1)) = true := by simp; omega
  have TB := Lib.hid tb
  clear hM hm hz0 tb
  obtain ⟨A, hA⟩ : ∃ A, mi M x = A := ⟨_, rfl⟩
  obtain ⟨B, hB⟩ : ∃ A, mi M (64 + y) = A := ⟨_, rfl⟩
  obtain ⟨C, hC⟩ : ∃ A, mi M (128 + z) = A := ⟨_, rfl⟩
  obtain ⟨a, ha⟩ : ∃ A, M.getD 192 0 = A := ⟨_, rfl⟩
  obtain ⟨b, hb'⟩ : ∃ A, M.getD 193 0 = A := ⟨_, rfl⟩
  obtain ⟨c, hc⟩ : ∃ A, M.getD 194 0 = A := ⟨_, rfl⟩
  have hok := HMX.out
  rw [hA, hB, hC, ha, hb', hc] at hok
  have HOK := Lib.hid hok
  have HABC := Lib.hid (show v3 (mi M x) (mi M (64 + y)) (mi M (128 + z)) = v3 A B C by rw [hA, hB, hC])
  obtain ⟨U, hU⟩ : ∃ A', tw a A (4096 * bit - dot a b c A B C) = A' := ⟨_, rfl⟩
  obtain ⟨V, hV⟩ : ∃ A', tw b B (4096 * bit - dot a b c A B C) = A' := ⟨_, rfl⟩
  obtain ⟨X, hX⟩ : ∃ A', tw c C (4096 * bit - dot a b c A B C) = A' := ⟨_, rfl⟩
  have HTR := Lib.hid (show (Value.tuple #[.agg #[.int .i64 (tw a A (4096 * bit - dot a b c A B C)), .int .i64 (tw b B (4096 * bit - dot a b c A B C)), .int .i64 (tw c C (4096 * bit - dot a b c A B C))], .int .i64 0]) = .tuple #[.agg #[.int .i64 U, .int .i64 V, .int .i64 X], .int .i64 0] by rw [hU, hV, hX])
  have HLA : Hid (lA M x y z bit = ((M.set 192 U).set 193 V).set 194 X) := by
    show _ = _
    unfold lA lW
    simp only [Nat.add_zero, Nat.reduceAdd]
    rw [hA, hB, hC, ha, hb', hc, hU, hV, hX]
  have Ha := Lib.hid ha
  have Hb := Lib.hid hb'
  have Hc := Lib.hid hc
  clear hA hB hC ha hb' hc hU hV hX hok HMX
  unfold v3
  go_enter Tryd.func34, Tryd.ntmps34
  go_wp2_with (with_reducible refine wpList_load_mid rfl 48 (.tmp 3) rfl w.heap.size 0 ?_ (ints M) _ (range_below (range_below (range_new w M 48) (below_alloc (Below.refl _ _) _)) (below_alloc (Below.refl _ _) _)) Tryd.underlying48 rfl (info_L HM.out) ?_)
  all_goals first | (show _ = Value.pointer _; rfl) | skip
  rw [HZ0.out]
  generalize ((w.alloc _).alloc _).alloc _ = W0 at HS ⊢
  refine (rmodel_may M HM.out _).mono ?_
  rw [HMM.out]
  rintro e w1 ⟨rfl, hb⟩
  have HS1 := Lib.hid (HS.out.below hb)
  obtain ⟨x0, x1, x2⟩ := HS1.out.hx.cells3
  clear hb HS
  go_wp2_with fail
  refine (rctx_may x y z _).mono ?_
  rw [HX.out]
  rintro e w2 ⟨rfl, hb⟩
  have HS2 := Lib.hid (HS1.out.below hb)
  clear hb x0 x1 x2 HS1
  obtain ⟨x0, x1, x2⟩ := HS2.out.hx.cells3
  go_wp2_with (first | (go_at_call 48; refine (bit_may _ _).mono ?_; rw [TB.out]; rintro e w3 ⟨rfl, rfl⟩) | (with_reducible refine wpList_load_mid rfl 48 (.tmp 3) rfl w.heap.size 0 ?_ (ints M) _ HS2.out.hm.range Tryd.underlying48 rfl (info_L HM.out) ?_))
  all_goals first | (show _ = Value.pointer _; rfl) | skip
  refine (rmodel_inputs x y z M _ HM.out HG.out hx hy hz).mono ?_
  rw [HABC.out]
  rintro e w3 ⟨rfl, hb⟩
  have HS3 := Lib.hid (HS2.out.below hb)
  clear hb x0 x1 x2 HS2
  have m0 := HS3.out.hm.cell (o := 192) (by omega)
  have m1 := HS3.out.hm.cell (o := 193) (by omega)
  have m2 := HS3.out.hm.cell (o := 194) (by omega)
  rw [Ha.out] at m0
  rw [Hb.out] at m1
  rw [Hc.out] at m2
  have hlt3 := HS3.out.hm.lt
  go_wp2_with fail
  refine (rtrain_ok a b c A B C bit _ HOK.out hb0 hb1).mono ?_
  rw [HTR.out]
  rintro e w4 ⟨rfl, hb⟩
  have HS4 := Lib.hid ((HS3.out.alloc (.cells #[.int .i64 A, .int .i64 B, .int .i64 C] 34)).below hb)
  clear hb HS3 m0 m1 m2
  have m0 := HS4.out.hm.cell (o := 192) (by omega)
  have m1 := HS4.out.hm.cell (o := 193) (by omega)
  have m2 := HS4.out.hm.cell (o := 194) (by omega)
  have f0 := HS4.out.hm.frozen 192
  have f1 := HS4.out.hm.frozen 193
  have f2 := HS4.out.hm.frozen 194
  have HS5 := Lib.hid ((((HS4.out.set 192 U).set 193 V).set 194 X).alloc (.cells #[.int .i64 U, .int .i64 V, .int .i64 X] 34))
  rw [← HLA.out] at HS5
  have hlt := HS4.out.hm.lt
  go_wp2_with fail
  clear m0 m1 m2 f0 f1 f2 HS4
  generalize World.alloc _ _ = W0 at HS5 ⊢
  have HS0 := HS5
  clear HS5
  refine wp_loop_rounds 4 ?_
  rw [rounds_succ]
  obtain ⟨x0, x1, x2⟩ := HS0.out.hx.cells3
  have cm := HS0.out.hm.cell (o := x) (by omega)
  have fm := HS0.out.hm.frozen (x)
  obtain ⟨q0, hq0⟩ : ∃ q, M.getD (x) 0 = q := ⟨_, rfl⟩
  rw [lA_get (by omega), hq0] at cm
  have HQ0 := Lib.hid hq0
  have HC0 := Lib.hid (show cMay q0 = true by rw [← hq0]; exact HG.out (x) (by omega))
  clear hq0
  go_wp2_with fail
  go_quiet ((go_at_call 55; exact Calls.quiet_of_same ((rnext_ok q0 bit _ HC0.out hb0 hb1).mono fun _ _ h => ⟨h.1, h.2.symm⟩)))
  go_wp2_with fail
  go_region
  generalize hWW : World.setCell _ ⟨w.heap.size, x, none⟩ _ = W1
  have HS1 := Lib.hid (show LRs w W1 _ x y z by rw [← hWW]; exact (HS0.out.drewN _).set (x) (cUp q0 bit))
  clear x0 x1 x2 cm fm hWW HS0
  go_wp2_with fail
  rw [rounds_succ]
  obtain ⟨x0, x1, x2⟩ := HS1.out.hx.cells3
  have cm := HS1.out.hm.cell (o := 64 + y) (by omega)
  have fm := HS1.out.hm.frozen (64 + y)
  obtain ⟨q1, hq1⟩ : ∃ q, M.getD (64 + y) 0 = q := ⟨_, rfl⟩
  rw [getD_set_ne (by omega), lA_get (by omega), hq1] at cm
  have HQ1 := Lib.hid hq1
  have HC1 := Lib.hid (show cMay q1 = true by rw [← hq1]; exact HG.out (64 + y) (by omega))
  clear hq1
  go_wp2_with fail
  go_quiet ((go_at_call 55; exact Calls.quiet_of_same ((rnext_ok q1 bit _ HC1.out hb0 hb1).mono fun _ _ h => ⟨h.1, h.2.symm⟩)))
  go_wp2_with fail
  go_region
  generalize hWW : World.setCell _ ⟨w.heap.size, 64 + y, none⟩ _ = W2
  have HS2 := Lib.hid (show LRs w W2 _ x y z by rw [← hWW]; exact (HS1.out.drewN _).set (64 + y) (cUp q1 bit))
  clear x0 x1 x2 cm fm hWW HS1
  go_wp2_with fail
  rw [rounds_succ]
  obtain ⟨x0, x1, x2⟩ := HS2.out.hx.cells3
  have cm := HS2.out.hm.cell (o := 128 + z) (by omega)
  have fm := HS2.out.hm.frozen (128 + z)
  obtain ⟨q2, hq2⟩ : ∃ q, M.getD (128 + z) 0 = q := ⟨_, rfl⟩
  rw [getD_set_ne (by omega), getD_set_ne (by omega), lA_get (by omega), hq2] at cm
  have HQ2 := Lib.hid hq2
  have HC2 := Lib.hid (show cMay q2 = true by rw [← hq2]; exact HG.out (128 + z) (by omega))
  clear hq2
  go_wp2_with fail
  go_quiet ((go_at_call 55; exact Calls.quiet_of_same ((rnext_ok q2 bit _ HC2.out hb0 hb1).mono fun _ _ h => ⟨h.1, h.2.symm⟩)))
  go_wp2_with fail
  go_region
  generalize hWW : World.setCell _ ⟨w.heap.size, 128 + z, none⟩ _ = W3
  have HS3 := Lib.hid (show LRs w W3 _ x y z by rw [← hWW]; exact (HS2.out.drewN _).set (128 + z) (cUp q2 bit))
  clear x0 x1 x2 cm fm hWW HS2
  go_wp2_with fail
  have HF : Hid (LRs w W3 (lM M x y z bit) x y z) := by
    unfold lM
    rw [HQ0.out, HQ1.out, HQ2.out]
    exact HS3.out
  clear HS3
  have HLF := Lib.hid (show (lM M x y z bit).length = 195 by rw [lM_length]; exact HM.out)
  have HTH := Lib.hid (HF.out.ho.there HLF.out)
  rw [rounds_succ]
  go_wp2_with (first
    | (with_reducible refine wpList_load_mid rfl 48 (.tmp 3) rfl w.heap.size 0 ?_ (ints (lM M x y z bit)) _ HF.out.hm.range Tryd.underlying48 rfl (info_L HLF.out) ?_)
    | (with_reducible refine wpList_store_mid rfl 48 (.tmp 6) (.tmp 66) rfl (w.heap.size + 1 + 1) 0 (ints (lM M x y z bit)).toArray ?_ ?_ HTH.out (info_M HLF.out) (all_oneCell_toArray (ints_one _)) ?_))
  all_goals first | (show _ = Value.pointer _; rfl) | (show _ = Value.agg _; rfl) | skip
  have hrs := World.rangeAt_setCells_same W3 (w.heap.size + 1 + 1) 0 (ints (lM M x y z bit)) HTH.out
  refine bodyPost_ret (results_cellt (P := Tryd.prog) Tryd.results34 _ _ (w.heap.size + 1 + 1) (ints (lM M x y z bit)) _ ?_ hrs Tryd.underlying48 rfl (info_L HLF.out)) ?_ ⟨rfl, below_setCells (by omega) _ _ _ HF.out.hb⟩
  all_goals first | rfl | go_simp
theorem rmodel_learn (M : List Int) (hM : M.length = 195) (x y z bit : Int) (w : World) :
   Calls Tryd.prog 34 #[.agg (ints M).toArray, v3 x y z, .int .i64 bit] w fun e w' => e = .returned (.tuple #[.agg (ints (lR M x y z bit)).toArray, .int .i64 (if lOk M x y z bit then 0 else 900)]) ∧ Below w.heap.size w w' := by
  unfold lR
  cases h : lOk M x y z bit
  · exact rlearn_no M hM x y z bit w h
  · obtain ⟨hm, ⟨h1, h2, h3⟩, hb0, hb1⟩ := lOk_iff.1 h
    obtain ⟨x, rfl⟩ := Int.eq_ofNat_of_zero_le h1.1
    obtain ⟨y, rfl⟩ := Int.eq_ofNat_of_zero_le h2.1
    obtain ⟨z, rfl⟩ := Int.eq_ofNat_of_zero_le h3.1
    exact rlearn_yes M hM x y z bit w hm (by omega) (by omega) (by omega) hb0 hb1
end Go.Proofs.YtlabpfebdhbgiaaDoor
