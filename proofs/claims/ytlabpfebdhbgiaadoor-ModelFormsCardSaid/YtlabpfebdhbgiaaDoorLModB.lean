/- The statement Models (chapter 9): what it comes to when it is called. -/
import Derived.Test.YtlabpfebdhbgiaaDoorLModA
import Derived.Test.YtlabpfebdhbgiaaDoorWModU
namespace Go.Proofs.YtlabpfebdhbgiaaDoor
open Go.RowKit
set_option linter.unusedVariables false
set_option linter.unusedSimpArgs false

/-- A model and a context in a caller's own blocks. -/
structure MS (w W : World) (M : List Int) (x y z : Int) : Prop where
  hm : MB W w.heap.size M
  hx : C3 W (w.heap.size + 1) x y z
  hb : Below w.heap.size w W
theorem MS.below {w W W1 : World} {M : List Int} {x y z : Int} (h : MS w W M x y z) (hb : Below W.heap.size W W1) : MS w W1 M x y z := ⟨h.hm.below hb, h.hx.below hb, below_next h.hb hb⟩
theorem MS.alloc {w W : World} {M : List Int} {x y z : Int} (h : MS w W M x y z) (o : Obj) : MS w (W.alloc o) M x y z := h.below (below_alloc (Below.refl _ _) o)
theorem MS.drew {w W : World} {M : List Int} {x y z : Int} (h : MS w W M x y z) : MS w W.drew M x y z := ⟨h.hm.drew, h.hx.drew, below_drew h.hb⟩
theorem MS.start (w : World) {M : List Int} (hM : M.length = 195) (x y z : Int) (t : TypeId) : MS w ((w.alloc (.cells (ints M).toArray 48)).alloc (.cells #[.int .i64 x, .int .i64 y, .int .i64 z] t)) M x y z :=
  ⟨(MB.new w hM).alloc _, C3.newAt (by simp), below_alloc (below_alloc (Below.refl _ _) _) _⟩
theorem eql_same (L : List Int) (hL : L.length = 195) (w : World) : (binOp .eql 48 (.agg (ints L).toArray) (.agg (ints L).toArray)).run Tryd.prog w = .ok (.bool true) w := by rw [eql_model L L hL hL w]; simp
set_option maxRecDepth 100000 in
set_option maxHeartbeats 4000000 in
theorem models_walk (M : List Int) (hM : M.length = 195) (x y z bit : Int) (w : World) (ht : Tab w) : Calls Tryd.prog 15 #[.agg (ints M).toArray, v3 x y z, .int .i64 bit] w fun e w' => e = .returned (.bool true) ∧ Below w.heap.size w w' := by
  obtain ⟨D, E, hn⟩ := num2_is (mMay M && xOk x y z) (mdot M x y z) 900
  have HN := Lib.hid hn
  obtain ⟨R, hR⟩ : ∃ R, lR M x y z bit = R := ⟨_, rfl⟩
  obtain ⟨F, hF⟩ : ∃ F : Int, (if lOk M x y z bit then 0 else 900) = F := ⟨_, rfl⟩
  have HRF := Lib.hid (show Value.tuple #[.agg (ints (lR M x y z bit)).toArray, .int .i64 (if lOk M x y z bit then 0 else 900)] = .tuple #[.agg (ints R).toArray, .int .i64 F] by rw [hR, hF])
  have HRL := Lib.hid (show R.length = 195 by rw [← hR]; exact lR_length hM x y z bit)
  have HM := Lib.hid hM
  have HS0 := Lib.hid (MS.start w hM x y z 34)
  clear hn hR hF hM
  unfold v3
  go_enter Tryd.func15, Tryd.ntmps15
  go_wp2_with (with_reducible refine wpList_load_mid rfl 48 (.tmp 3) rfl w.heap.size 0 ?_ (ints M) _ HS0.out.hm.range Tryd.underlying48 rfl HS0.out.hm.info ?_)
  all_goals first | (show _ = Value.pointer _; rfl) | skip
  generalize (w.alloc _).alloc _ = W0 at HS0 ⊢
  refine (model_p M HM.out x y z _ (ht.below HS0.out.hb)).mono ?_
  rw [HN.out]
  rintro e w1 ⟨rfl, hb⟩
  have HS1 := Lib.hid (HS0.out.below hb)
  obtain ⟨x0, x1, x2⟩ := HS1.out.hx.cells3
  clear hb HS0
  go_wp2_with (with_reducible refine wpList_load_mid rfl 48 (.tmp 3) rfl w.heap.size 0 ?_ (ints M) _ HS1.out.hm.range Tryd.underlying48 rfl HS1.out.hm.info ?_)
  all_goals first | (show _ = Value.pointer _; rfl) | skip
  refine (rmodel_p M HM.out x y z _).mono ?_
  rw [HN.out]
  rintro e w2 ⟨rfl, hb⟩
  have HS2 := Lib.hid (HS1.out.below hb)
  clear hb x0 x1 x2 HS1
  obtain ⟨x0, x1, x2⟩ := HS2.out.hx.cells3
  go_wp2_with (with_reducible refine wpList_load_mid rfl 48 (.tmp 3) rfl w.heap.size 0 ?_ (ints M) _ HS2.out.hm.range Tryd.underlying48 rfl HS2.out.hm.info ?_)
  all_goals first | (show _ = Value.pointer _; rfl) | skip
  refine (model_learn M HM.out x y z bit _ (ht.below HS2.out.hb)).mono ?_
  rw [HRF.out]
  rintro e w3 ⟨rfl, hb⟩
  have HS3 := Lib.hid ((HS2.out.below hb).alloc (.cells (ints R).toArray 48))
  have HA3 := Lib.hid (MB.new w3 HRL.out)
  clear hb x0 x1 x2 HS2
  obtain ⟨x0, x1, x2⟩ := HS3.out.hx.cells3
  go_wp2_with (first
    | (with_reducible refine wpList_new_model R HRL.out (.tmp 11) (.tmp 32) rfl rfl rfl rfl ?_ ?_ ?_)
    | (with_reducible refine wpList_load_mid rfl 48 (.tmp 3) rfl w.heap.size 0 ?_ (ints M) _ HS3.out.hm.range Tryd.underlying48 rfl HS3.out.hm.info ?_))
  all_goals first | (show _ = Value.pointer _; rfl) | (show _ = Value.agg _; rfl) | skip
  refine (rmodel_learn M HM.out x y z bit _).mono ?_
  rw [HRF.out]
  rintro e w4 ⟨rfl, hb⟩
  have HS4 := Lib.hid ((HS3.out.below hb).alloc (.cells (ints R).toArray 48))
  have HA4 := Lib.hid ((HA3.out.below hb).alloc (.cells (ints R).toArray 48))
  have HB4 := Lib.hid (MB.new w4 HRL.out)
  clear hb x0 x1 x2 HS3 HA3
  go_wp2_with (with_reducible refine wpList_new_model R HRL.out (.tmp 13) (.tmp 39) rfl rfl rfl rfl ?_ ?_ ?_)
  all_goals first | (show _ = Value.pointer _; rfl) | (show _ = Value.agg _; rfl) | skip
  generalize w4.alloc _ = W4 at HS4 HA4 HB4 ⊢
  have EQR := fun w' => eql_same R HRL.out w'
  have LDM := fun (w' : World) (h : MB w' w.heap.size M) => run_loadM w.heap.size w' M h
  have LDA := fun (w' : World) (h : MB w' w3.heap.size R) => run_loadM w3.heap.size w' R h
  have LDB := fun (w' : World) (h : MB w' w4.heap.size R) => run_loadM w4.heap.size w' R h
  have hm := HS4.out.hm
  have ha := HA4.out
  have hb := HB4.out
  go_region_held3 (fun w' => MB w' w.heap.size M ∧ MB w' w3.heap.size R ∧ MB w' w4.heap.size R) (first | exact ⟨hm.below hbA, ha.below hbA, hb.below hbA⟩ | exact ⟨hm.drew, ha.drew, hb.drew⟩)
    (first | (go_at_call 22; refine (num_any _ _).mono ?_; rintro e w' ⟨rfl, rfl⟩)
           | (go_at_call 35; (with_reducible refine (model_may M HM.out _).mono ?_); rintro e wm ⟨rfl, hbm⟩; have hbA := below_next (below_drew (Below.refl W4.heap.size W4)) hbm)
           | (go_at_call 36; (with_reducible refine (rmodel_may M HM.out _).mono ?_); rintro e wm ⟨rfl, hbm⟩; have hbA := below_next hbA hbm)
           | (go_at_call 37; (with_reducible refine (model_new _).mono ?_); rintro e wm ⟨rfl, hbm⟩; have hbA := below_next hbA hbm)
           | (go_at_call 38; (with_reducible refine (rmodel_new _).mono ?_); rintro e wm ⟨rfl, hbm⟩; have hbA := below_next hbA hbm)
           | (go_at_call 39; (with_reducible refine (awake9 _ (ht.below (below_next HS4.out.hb hbA))).mono ?_); rintro e wm ⟨rfl, hbm⟩; have hbA := below_next hbA hbm))
  all_goals
    have hfin := Lib.hid (below_next HS4.out.hb hbA)
    clear EQR LDM LDA LDB
    go_wp2
    go_ret
    exact ⟨rfl, hfin.out⟩
end Go.Proofs.YtlabpfebdhbgiaaDoor
