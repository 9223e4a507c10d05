/- What every program answers that is one: the statements on the model (chapter 9) ask it first. -/
import Derived.Test.YtlabpfebdhbgiaaDoorWModV
import Derived.Deep.RegionLaw
import Derived.BigRegion
namespace Go.Proofs.YtlabpfebdhbgiaaDoor
open Go.RowKit
set_option linter.unusedVariables false
set_option linter.unusedSimpArgs false

theorem newM_p : num2 (mMay newM && xOk 1 2 3) (mdot newM 1 2 3) 900 = .tuple #[.int .i64 2051, .int .i64 0] := by
  rw [show (mMay newM && xOk 1 2 3) = true by decide +kernel, show mdot newM 1 2 3 = 2051 by decide +kernel]; rfl
theorem newM_p_no : num2 (mMay newM && xOk 64 0 0) (mdot newM 64 0 0) 900 = .tuple #[.int .i64 0, .int .i64 900] := by
  rw [show (mMay newM && xOk 64 0 0) = false by decide +kernel]; rfl
theorem newM_l : lOk newM 1 2 3 1 = true := by decide +kernel
theorem newM_l_no : lOk newM 0 0 0 2 = false := by decide +kernel
def oneM : List Int := lM newM 1 2 3 1
theorem oneM_length : oneM.length = 195 := by unfold oneM; rw [lM_length]; exact newM_length
theorem oneM_a : oneM.getD 1 0 = 34815 := by decide +kernel
theorem oneM_b : oneM.getD 132 0 = 32768 := by decide +kernel
theorem oneM_may : mMay oneM = true := by decide +kernel
def badM : List Int := zM.set 192 (-1048577)
theorem badM_length : badM.length = 195 := by unfold badM; rw [List.length_set]; exact zM_length
theorem badM_may : mMay badM = false := by decide +kernel
theorem learn_one (w : World) (ht : Tab w) : Calls Tryd.prog 33 #[.agg (ints newM).toArray, v3 1 2 3, .int .i64 1] w fun e w' => e = .returned (.tuple #[.agg (ints oneM).toArray, .int .i64 0]) ∧ Below w.heap.size w w' := by
  refine (model_learn newM newM_length 1 2 3 1 w ht).mono fun e w' he => ?_
  unfold lR at he
  rw [newM_l] at he
  exact he
theorem learn_two (w : World) (ht : Tab w) : Calls Tryd.prog 33 #[.agg (ints newM).toArray, v3 0 0 0, .int .i64 2] w fun e w' => e = .returned (.tuple #[.agg (ints zM).toArray, .int .i64 900]) ∧ Below w.heap.size w w' := by
  refine (model_learn newM newM_length 0 0 0 2 w ht).mono fun e w' he => ?_
  unfold lR at he
  rw [newM_l_no] at he
  exact he
theorem step_load_model {ops : Array Oper} {o : Oper} {a : Act} {w : World} {K : Act → World → Prop} {Q : Exit → Act → World → Prop} {E : Prop} (L : List Int) (hL : L.length = 195) (g : Nat) (x : Operand) (ho : o.op = .load 48 x)
    (hw : Region.wanted o (yielded ops a.tmps) = true) (hx : a.eval x = .pointer (some ⟨g, 0, none⟩)) (hr : w.rangeAt g 0 (ints L)) (h : K (a.put o.dst (.agg (ints L).toArray)) w) :
    if Region.wanted o (yielded ops a.tmps) = true then Oper.wp Tryd.prog o a w K Q else E := by
  rw [if_pos hw]
  exact wp_load_mid 48 x ho g 0 hx (ints L) _ hr Tryd.underlying48 rfl (by rw [ints_length, hL]; exact info_model) h
theorem eql_newM (w : World) : (binOp .eql 48 (.agg (ints newM).toArray) (.agg (ints newM).toArray)).run Tryd.prog w = .ok (.bool true) w := by rw [eql_model newM newM newM_length newM_length w]; simp
attribute [go_sem ↓] eql_newM
theorem build_bad (w : World) : (Instr.build 48 #[(1, .agg #[.int .i64 (-1048577), .int .i64 0, .int .i64 0])]).run Tryd.prog w = .ok (.agg (ints badM).toArray) w := run_build w _ _ _ (by kernel_rfl)
attribute [go_sem ↓] build_bad
theorem bad_cells : ((Tryd.zeroCells48.setIfInBounds 192 (.int .i64 (-1048577))).setIfInBounds 193 (.int .i64 0)).setIfInBounds 194 (.int .i64 0) = (ints badM).toArray := by kernel_rfl
theorem run_loadM_new (g : Nat) (w : World) (h : w.rangeAt g 0 (ints newM)) : (loadM (.pointer (some ⟨g, 0, none⟩))).run Tryd.prog w = .ok (.agg (ints newM).toArray) w :=
  run_loadAt_mid w g 0 48 (ints newM) _ h Tryd.underlying48 rfl (by rw [ints_length]; exact info_model)
theorem run_loadM_one (g : Nat) (w : World) (h : w.rangeAt g 0 (ints oneM)) : (loadM (.pointer (some ⟨g, 0, none⟩))).run Tryd.prog w = .ok (.agg (ints oneM).toArray) w :=
  run_loadAt_mid w g 0 48 (ints oneM) _ h Tryd.underlying48 rfl (by rw [ints_length, oneM_length]; exact info_model)
attribute [go_sem] run_loadM_new run_loadM_one
set_option maxRecDepth 100000 in
set_option maxHeartbeats 4000000 in
theorem awake9 (w : World) (ht : Tab w) : Calls Tryd.prog 39 #[] w fun e w' => e = .returned (.bool true) ∧ Below w.heap.size w w' := by
  have hz0 : Tryd.zeroCells48 = (ints zM).toArray := by kernel_rfl
  have HZ0 := Lib.hid hz0
  clear hz0
  go_enter Tryd.func39, Tryd.ntmps39
  go_wp2_with fail
  refine (model_new _).mono ?_
  rintro e w1 ⟨rfl, hb⟩
  have hq := Lib.hid hb
  have HT1 := Lib.hid (there_new w1 newM newM_length)
  have HI := Lib.hid (info_M newM_length)
  have HL : Hid ((Tryd.prog.info? 48).map (·.size) = some (ints newM).length) := HI
  clear hb
  go_wp2_with (first
    | ((with_reducible refine wpList_alloc_model rfl rfl ?_); (refine wpList_store_mid rfl 48 (.tmp 1) (.tmp 10) rfl w1.heap.size 0 (ints newM).toArray rfl rfl HT1.out HI.out (all_oneCell_toArray (ints_one _)) ?_); generalize hXW : World.setCells _ w1.heap.size 0 _ = W2; have HR := Lib.hid (show W2.rangeAt w1.heap.size 0 (ints newM) by rw [← hXW]; exact World.rangeAt_setCells_same _ w1.heap.size 0 (ints newM) (by simpa using HT1.out)); have HB2 := Lib.hid (show Below w.heap.size w W2 by rw [← hXW]; exact below_setCells hq.out.size _ _ _ (below_alloc hq.out _)); have hlt : w1.heap.size < W2.heap.size := World.block_lt_of_cell? _ _ (range_cell HR.out (i := 0) (by rw [newM_length]; omega)); clear hXW)
    | (with_reducible refine wpList_load_mid rfl 48 (.tmp 1) rfl w1.heap.size 0 ?_ (ints newM) _ HR.out Tryd.underlying48 rfl HL.out ?_))
  all_goals first | (show _ = Value.pointer _; rfl) | skip
  refine (model_p newM newM_length 1 2 3 _ (ht.below HB2.out)).mono ?_
  rw [newM_p]
  rintro e w3 ⟨rfl, hb⟩
  have HR3 := Lib.hid (range_below HR.out hb)
  have HB3 := Lib.hid (below_next HB2.out hb)
  have hlt3 : w1.heap.size < w3.heap.size := Nat.lt_of_lt_of_le hlt hb.size
  clear hb HR HB2 hlt
  go_wp2_with (with_reducible refine wpList_load_mid rfl 48 (.tmp 1) rfl w1.heap.size 0 ?_ (ints newM) _ HR3.out Tryd.underlying48 rfl HL.out ?_)
  all_goals first | (show _ = Value.pointer _; rfl) | skip
  refine (learn_one _ (ht.below HB3.out)).mono ?_
  rintro e w4 ⟨rfl, hb⟩
  have HR4 := Lib.hid (range_below HR3.out hb)
  have HB4 := Lib.hid (below_next HB3.out hb)
  have hlt4 : w1.heap.size < w4.heap.size := Nat.lt_of_lt_of_le hlt3 hb.size
  have HT4 := Lib.hid (there_new w4 oneM oneM_length)
  have HI4 := Lib.hid (info_M oneM_length)
  clear hb HR3 HB3 hlt3
  go_wp2_with (first
    | ((with_reducible refine wpList_alloc_model rfl rfl ?_); (refine wpList_store_mid rfl 48 (.tmp 4) (.tmp 21) rfl w4.heap.size 0 (ints oneM).toArray rfl rfl HT4.out HI4.out (all_oneCell_toArray (ints_one _)) ?_); generalize hXW : World.setCells _ w4.heap.size 0 _ = W5; have HO5 := Lib.hid (show W5.rangeAt w4.heap.size 0 (ints oneM) by rw [← hXW]; exact World.rangeAt_setCells_same _ w4.heap.size 0 (ints oneM) (by simpa using HT4.out)); have HB5 := Lib.hid (show Below w.heap.size w W5 by rw [← hXW]; exact below_setCells HB4.out.size _ _ _ (below_alloc HB4.out _)); have HR5 := Lib.hid (show W5.rangeAt w1.heap.size 0 (ints newM) by rw [← hXW]; exact range_blw (range_below HR4.out (below_alloc (Below.refl _ _) _)) (below_setCells (B := w4.heap.size) (Nat.le_refl _) _ _ _ (Below.refl _ _)) hlt4); have hlt5 : w4.heap.size < W5.heap.size := World.block_lt_of_cell? _ _ (range_cell HO5.out (i := 0) (by rw [oneM_length]; omega)); clear hXW)
    | (with_reducible refine wpList_load_mid rfl 48 (.tmp 1) rfl w1.heap.size 0 ?_ (ints newM) _ HR5.out Tryd.underlying48 rfl HL.out ?_))
  all_goals first | (show _ = Value.pointer _; rfl) | skip
  refine (model_p newM newM_length 64 0 0 _ (ht.below HB5.out)).mono ?_
  rw [newM_p_no]
  rintro e w6 ⟨rfl, hb⟩
  have HR6 := Lib.hid (range_below HR5.out hb)
  have HO6 := Lib.hid (range_below HO5.out hb)
  have HB6 := Lib.hid (below_next HB5.out hb)
  have hlt6 : w4.heap.size < w6.heap.size := Nat.lt_of_lt_of_le hlt5 hb.size
  clear hb HR5 HO5 HB5 hlt5
  go_wp2_with (with_reducible refine wpList_load_mid rfl 48 (.tmp 1) rfl w1.heap.size 0 ?_ (ints newM) _ HR6.out Tryd.underlying48 rfl HL.out ?_)
  all_goals first | (show _ = Value.pointer _; rfl) | skip
  refine (learn_two _ (ht.below HB6.out)).mono ?_
  rintro e w7 ⟨rfl, hb⟩
  have HR7 := Lib.hid (range_below HR6.out hb)
  have HO7 := Lib.hid (range_below HO6.out hb)
  have HB7 := Lib.hid (below_next HB6.out hb)
  have hlt7 : w4.heap.size < w7.heap.size := Nat.lt_of_lt_of_le hlt6 hb.size
  have HT7 := Lib.hid (there_new w7 zM zM_length)
  have HI7 := Lib.hid (info_M zM_length)
  clear hb HR6 HO6 HB6 hlt6
  go_wp2_with ((with_reducible refine wpList_alloc_model rfl rfl ?_); (refine wpList_store_mid rfl 48 (.tmp 8) (.tmp 33) rfl w7.heap.size 0 (ints zM).toArray rfl rfl HT7.out HI7.out (all_oneCell_toArray (ints_one _)) ?_); generalize hXW : World.setCells _ w7.heap.size 0 _ = W8; have HB8 := Lib.hid (show Below w.heap.size w W8 by rw [← hXW]; exact below_setCells HB7.out.size _ _ _ (below_alloc HB7.out _)); have HR8 := Lib.hid (show W8.rangeAt w1.heap.size 0 (ints newM) by rw [← hXW]; exact range_blw (range_below HR7.out (below_alloc (Below.refl _ _) _)) (below_setCells (B := w7.heap.size) (Nat.le_refl _) _ _ _ (Below.refl _ _)) (by omega)); have HO8 := Lib.hid (show W8.rangeAt w4.heap.size 0 (ints oneM) by rw [← hXW]; exact range_blw (range_below HO7.out (below_alloc (Below.refl _ _) _)) (below_setCells (B := w7.heap.size) (Nat.le_refl _) _ _ _ (Below.refl _ _)) hlt7); clear hXW)
  have k1 := range_cell HO8.out (i := 1) (by rw [oneM_length]; omega)
  have k2 := range_cell HO8.out (i := 132) (by rw [oneM_length]; omega)
  rw [oneM_a] at k1
  rw [oneM_b] at k2
  have r1 := HR8.out
  have r2 := HO8.out
  go_region_held3 (fun w' => w'.rangeAt w1.heap.size 0 (ints newM) ∧ w'.rangeAt w4.heap.size 0 (ints oneM) ∧ w'.cell? ⟨w4.heap.size, 1, none⟩ = some (.int .i64 34815) ∧ w'.cell? ⟨w4.heap.size, 132, none⟩ = some (.int .i64 32768))
    (first | exact ⟨range_below HR8.out hbA, range_below HO8.out hbA, cell_below hbA k1, cell_below hbA k2⟩ | exact ⟨HR8.out, HO8.out, k1, k2⟩)
    (first | (go_at_call 38; refine (rmodel_new _).mono ?_; rintro e wn ⟨rfl, hbm⟩; have hbA := below_next (below_drew (Below.refl W8.heap.size W8)) hbm)
           | (go_at_call 22; refine (num_any _ _).mono ?_; rintro e w' ⟨rfl, rfl⟩)
           | (go_at_call 35; (with_reducible refine (model_may oneM oneM_length _).mono ?_); rw [oneM_may]; rintro e wm ⟨rfl, hbm⟩; have hbA := below_next hbA hbm)
           | (go_at_call 35; rw [bad_cells]; (with_reducible refine (model_may badM badM_length _).mono ?_); rw [badM_may]; rintro e wm ⟨rfl, hbm⟩; have hbA := below_next hbA hbm))
  all_goals
    have hfin := Lib.hid (below_next HB8.out hbA)
    go_wp2
    go_ret
    exact ⟨rfl, hfin.out⟩
end Go.Proofs.YtlabpfebdhbgiaaDoor
