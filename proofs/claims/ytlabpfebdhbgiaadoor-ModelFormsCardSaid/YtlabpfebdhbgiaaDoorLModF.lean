/- The statement ModelForms (chapter 9): models, contexts, bits that may not be; what it comes to when it is called. -/
import Derived.Test.YtlabpfebdhbgiaaDoorLModE
import Derived.Test.YtlabpfebdhbgiaaDoorLMixB
import Derived.BigRegion
namespace Go.Proofs.YtlabpfebdhbgiaaDoor
open Go.RowKit
set_option linter.unusedVariables false
set_option linter.unusedSimpArgs false

theorem setCells_past : ∀ (vs : List Value) (o : Nat) (w : World) (g : Nat) (ob : Obj), g < w.heap.size → (w.alloc ob).setCells g o vs = (w.setCells g o vs).alloc ob
  | [], _, _, _, _, _ => rfl
  | v :: r, o, w, g, ob, h => by
    rw [World.setCells, World.setCells, World.setCell_alloc_past _ _ _ _ h]
    exact setCells_past r (o + 1) _ g ob (by simpa using h)
theorem wpList_store_new2 {ops : Array Oper} {rest : List Oper} {s : Oper} {a : Act} {w : World} {Q : Exit → Act → World → Prop} (L : List Int) (hL : L.length = 195) (ob : Obj) (x y : Operand) (hsg : s.guard = none) (hs : s.op = .store 48 x y)
    (hx : a.eval x = .pointer (some ⟨w.heap.size, 0, none⟩)) (hy : a.eval y = .agg (ints L).toArray)
    (h : wpList Tryd.prog ops Q rest (a.put s.dst undef) ((w.alloc (.cells (ints L).toArray 48)).alloc ob)) : wpList Tryd.prog ops Q (s :: rest) a ((w.alloc (.cells (ints zM).toArray 48)).alloc ob) := by
  refine wpList_store_mid hsg 48 x y hs w.heap.size 0 (ints L).toArray hx hy (((MB.new w zM_length).alloc ob).there hL) (info_M hL) (all_oneCell_toArray (ints_one _)) ?_
  rw [show (ints L).toArray.toList = ints L from rfl, setCells_past _ _ _ _ _ (by simp), store_new w hL]
  exact h
theorem newM_good : Good newM 192 := mMay_good newM_length newM_may
theorem bad_count {j : Nat} {v : Int} (hj : j < 192) (hv : v < 0 ∨ 65535 < v) : mMay (newM.set j v) = false :=
  mMay_no (by rw [List.length_set]; exact newM_length) hj (by rw [getD_set_eq (by rw [newM_length]; omega)]; exact cMay_no hv)
theorem newM_w : ∀ j, j < 3 → newM.getD (192 + j) 0 = 22000 := by decide +kernel
theorem bad_weight {r : Nat} {v : Int} (hr : r < 3) (hv : 1048576 < v) : mMay (newM.set (192 + r) v) = false := by
  rw [mMay_yes (by rw [List.length_set]; exact newM_length) (fun j hj => by rw [getD_set_ne (by omega)]; exact newM_good j hj)]
  apply in3_no
  rcases (by omega : r = 0 ∨ r = 1 ∨ r = 2) with rfl | rfl | rfl
  · rw [getD_set_eq (by rw [newM_length]; omega)]; omega
  · right; left; rw [getD_set_eq (by rw [newM_length]; omega)]; omega
  · right; right; rw [getD_set_eq (by rw [newM_length]; omega)]; omega
theorem p_not (M : List Int) (hM : M.length = 195) (x y z : Int) (w : World) (ht : Tab w) (h : (mMay M && xOk x y z) = false) :
   Calls Tryd.prog 31 #[.agg (ints M).toArray, v3 x y z] w fun e w' => e = .returned (.tuple #[.int .i64 0, .int .i64 900]) ∧ Below w.heap.size w w' := model_p_no M hM x y z w ht h
/-- A model and a context that a walk made, in blocks side by side. -/
structure FS (w W : World) (g : Nat) (L : List Int) (x y z : Int) : Prop where
  hm : MB W g L
  hx : C3 W (g + 1) x y z
  hb : Below w.heap.size w W
  le : w.heap.size ≤ g
theorem FS.below {w W W1 : World} {g : Nat} {L : List Int} {x y z : Int} (h : FS w W g L x y z) (hb : Below W.heap.size W W1) : FS w W1 g L x y z := ⟨h.hm.below hb, h.hx.below hb, below_next h.hb hb, h.le⟩
theorem FS.alloc {w W : World} {g : Nat} {L : List Int} {x y z : Int} (h : FS w W g L x y z) (o : Obj) : FS w (W.alloc o) g L x y z := h.below (below_alloc (Below.refl _ _) o)
theorem FS.drew {w W : World} {g : Nat} {L : List Int} {x y z : Int} (h : FS w W g L x y z) : FS w W.drew g L x y z := ⟨h.hm.drew, h.hx.drew, below_drew h.hb, h.le⟩
theorem FS.set {w W : World} {g : Nat} {L : List Int} {x y z : Int} (h : FS w W g L x y z) (o : Nat) (v : Int) : FS w (W.setCell ⟨g, o, none⟩ (.int .i64 v)) g (L.set o v) x y z :=
  ⟨h.hm.set o v, h.hx.far (by simp) _, below_set h.le h.hb _, h.le⟩
theorem FS.put0 {w W : World} {g : Nat} {L : List Int} {x y z : Int} (h : FS w W g L x y z) (v : Int) : FS w (W.setCell ⟨g + 1, 0, none⟩ (.int .i64 v)) g L v y z := ⟨h.hm.far (by simp) _, h.hx.put0 v, below_set (by simp; have := h.le; omega) h.hb _, h.le⟩
theorem FS.put1 {w W : World} {g : Nat} {L : List Int} {x y z : Int} (h : FS w W g L x y z) (v : Int) : FS w (W.setCell ⟨g + 1, 1, none⟩ (.int .i64 v)) g L x v z := ⟨h.hm.far (by simp) _, h.hx.put1 v, below_set (by simp; have := h.le; omega) h.hb _, h.le⟩
theorem FS.put2 {w W : World} {g : Nat} {L : List Int} {x y z : Int} (h : FS w W g L x y z) (v : Int) : FS w (W.setCell ⟨g + 1, 2, none⟩ (.int .i64 v)) g L x y v := ⟨h.hm.far (by simp) _, h.hx.put2 v, below_set (by simp; have := h.le; omega) h.hb _, h.le⟩
set_option maxRecDepth 100000 in
set_option maxHeartbeats 4000000 in
theorem modelForms_00 (which x m : Int) (r k : Nat) (w : World) (ht : Tab w) (hr : (IntKind.u64.wrap x).tmod 3 = (r : Int)) (r3 : r < 3) (hk : bits .and .i64 x 63 = (k : Int)) (k6 : k < 64) (hm : bits .and .i64 x 1023 = m) (m0 : 0 ≤ m) (m1 : m < 1024) (hq : bits .and .i64 which 3 = 0) (hs : bits .and .i64 (which / 4) 1 = 0) :
   Calls Tryd.prog 16 #[.int .i64 which, .int .i64 x] w fun e w' => e = .returned (.bool true) ∧ Below w.heap.size w w' := by
  have R3 : (r : Int) < 3 := by omega
  have K6 : (k : Int) < 64 := by omega
  have e1 : (0 : Int) ≤ r := by omega
  have e2 : (0 : Int) ≤ k := by omega
  go_enter Tryd.func16, Tryd.ntmps16
  go_wp2_with fail
  refine (awake9 _ ht).mono ?_
  rintro e w1 ⟨rfl, hb⟩
  have hq1 := Lib.hid hb
  clear hb
  go_wp2_with fail
  refine (rmodel_new _).mono ?_
  rintro e w2 ⟨rfl, hb⟩
  have hq2 := Lib.hid (below_next hq1.out hb)
  have HS0 := Lib.hid (show FS w ((w2.alloc (.cells (ints newM).toArray 48)).alloc (.cells #[.int .i64 1, .int .i64 2, .int .i64 3] 34)) w2.heap.size newM 1 2 3 from ⟨(MB.new w2 newM_length).alloc _, C3.newAt (by simp), below_alloc (below_alloc hq2.out _) _, hq2.out.size⟩)
  clear hb
  have cm := HS0.out.hm.cell (o := r * 64 + k) (by omega)
  have fm := HS0.out.hm.frozen (r * 64 + k)
  obtain ⟨c0, c1, c2, d0, d1, d2, dlt⟩ := HS0.out.hx.all
  have hlt := HS0.out.hm.lt
  go_upto_region 5 with (first | (with_reducible refine wpList_alloc_model rfl rfl ?_) | (with_reducible refine wpList_store_new2 newM newM_length _ (.tmp 6) (.tmp 19) rfl rfl ?_ ?_ ?_))
  all_goals first | (show _ = Value.pointer _; rfl) | (show _ = Value.agg _; rfl) | skip
  generalize (w2.alloc _).alloc _ = W0 at HS0 cm fm c0 c1 c2 d0 d1 d2 dlt hlt ⊢
  go_wp2_with fail
  go_region
  generalize hWW : World.drew _ = W1
  obtain ⟨v, HS1, hv⟩ : ∃ v : Int, Hid (FS w W1 w2.heap.size (newM.set (r * 64 + k) v) 1 2 3) ∧ (v < 0 ∨ 65535 < v) := ⟨_, (by rw [← hWW]; refine Lib.hid ?_; repeat (first | (with_reducible exact HS0.out) | (with_reducible apply FS.alloc) | (with_reducible apply FS.drew) | (with_reducible apply FS.set))), by omega⟩
  clear hWW cm fm c0 c1 c2 d0 d1 d2 dlt hlt HS0
  have HML := Lib.hid (show (newM.set (r * 64 + k) v).length = 195 by rw [List.length_set]; exact newM_length)
  have HMAY := Lib.hid (bad_count (j := r * 64 + k) (v := v) (by omega) hv)
  obtain ⟨x0, x1, x2⟩ := HS1.out.hx.cells3
  go_wp2_with (with_reducible refine wpList_load_mid rfl 48 (.tmp 6) rfl w2.heap.size 0 ?_ (ints (newM.set (r * 64 + k) v)) _ HS1.out.hm.range Tryd.underlying48 rfl HS1.out.hm.info ?_)
  all_goals first | (show _ = Value.pointer _; rfl) | skip
  refine (p_not (newM.set (r * 64 + k) v) HML.out 1 2 3 _ (ht.below HS1.out.hb) (by rw [HMAY.out]; rfl)).mono ?_
  rintro e w3 ⟨rfl, hb⟩
  have HS2 := Lib.hid (HS1.out.below hb)
  clear hb x0 x1 x2 HS1
  obtain ⟨x0, x1, x2⟩ := HS2.out.hx.cells3
  go_wp2_with (with_reducible refine wpList_load_mid rfl 48 (.tmp 6) rfl w2.heap.size 0 ?_ (ints (newM.set (r * 64 + k) v)) _ HS2.out.hm.range Tryd.underlying48 rfl HS2.out.hm.info ?_)
  all_goals first | (show _ = Value.pointer _; rfl) | skip
  refine (learn_no (newM.set (r * 64 + k) v) HML.out _ _ _ _ _ (by unfold lOk; rw [HMAY.out]; rfl)).mono ?_
  rintro e w4 ⟨rfl, hb⟩
  have HS3 := Lib.hid ((HS2.out.below hb).alloc (.cells (ints zM).toArray 48))
  have HA3 := Lib.hid (MB.new w4 zM_length)
  clear hb x0 x1 x2 HS2
  go_wp2_with (first
    | (with_reducible refine wpList_new_model zM zM_length (.tmp 12) (.tmp 92) rfl rfl rfl rfl ?_ ?_ ?_)
    | (with_reducible refine wpList_load_mid rfl 48 (.tmp 6) rfl w2.heap.size 0 ?_ (ints (newM.set (r * 64 + k) v)) _ HS3.out.hm.range Tryd.underlying48 rfl HS3.out.hm.info ?_))
  all_goals first | (show _ = Value.pointer _; rfl) | (show _ = Value.agg _; rfl) | skip
  refine (model_may (newM.set (r * 64 + k) v) HML.out _).mono ?_
  rw [HMAY.out]
  rintro e w5 ⟨rfl, hb⟩
  have HS4 := Lib.hid (HS3.out.below hb)
  have HA4 := HA3.out.below hb
  clear hb HS3
  have EZ := fun w' => eql_zero w'
  have LDM := run_loadM w4.heap.size w5 zM HA4
  go_wp2_with (go_at_call 22; refine (num_any _ _).mono ?_; rintro e w' ⟨rfl, rfl⟩)
  go_ret
  exact ⟨rfl, HS4.out.hb⟩
set_option maxRecDepth 100000 in
set_option maxHeartbeats 4000000 in
theorem modelForms_01 (which x m : Int) (r k : Nat) (w : World) (ht : Tab w) (hr : (IntKind.u64.wrap x).tmod 3 = (r : Int)) (r3 : r < 3) (hk : bits .and .i64 x 63 = (k : Int)) (k6 : k < 64) (hm : bits .and .i64 x 1023 = m) (m0 : 0 ≤ m) (m1 : m < 1024) (hq : bits .and .i64 which 3 = 0) (hs : bits .and .i64 (which / 4) 1 = 1) :
   Calls Tryd.prog 16 #[.int .i64 which, .int .i64 x] w fun e w' => e = .returned (.bool true) ∧ Below w.heap.size w w' := by
  have R3 : (r : Int) < 3 := by omega
  have K6 : (k : Int) < 64 := by omega
  have e1 : (0 : Int) ≤ r := by omega
  have e2 : (0 : Int) ≤ k := by omega
  go_enter Tryd.func16, Tryd.ntmps16
  go_wp2_with fail
  refine (awake9 _ ht).mono ?_
  rintro e w1 ⟨rfl, hb⟩
  have hq1 := Lib.hid hb
  clear hb
  go_wp2_with fail
  refine (rmodel_new _).mono ?_
  rintro e w2 ⟨rfl, hb⟩
  have hq2 := Lib.hid (below_next hq1.out hb)
  have HS0 := Lib.hid (show FS w ((w2.alloc (.cells (ints newM).toArray 48)).alloc (.cells #[.int .i64 1, .int .i64 2, .int .i64 3] 34)) w2.heap.size newM 1 2 3 from ⟨(MB.new w2 newM_length).alloc _, C3.newAt (by simp), below_alloc (below_alloc hq2.out _) _, hq2.out.size⟩)
  clear hb
  have cm := HS0.out.hm.cell (o := r * 64 + k) (by omega)
  have fm := HS0.out.hm.frozen (r * 64 + k)
  obtain ⟨c0, c1, c2, d0, d1, d2, dlt⟩ := HS0.out.hx.all
  have hlt := HS0.out.hm.lt
  go_upto_region 5 with (first | (with_reducible refine wpList_alloc_model rfl rfl ?_) | (with_reducible refine wpList_store_new2 newM newM_length _ (.tmp 6) (.tmp 19) rfl rfl ?_ ?_ ?_))
  all_goals first | (show _ = Value.pointer _; rfl) | (show _ = Value.agg _; rfl) | skip
  generalize (w2.alloc _).alloc _ = W0 at HS0 cm fm c0 c1 c2 d0 d1 d2 dlt hlt ⊢
  go_wp2_with fail
  go_region
  generalize hWW : World.drew _ = W1
  obtain ⟨v, HS1, hv⟩ : ∃ v : Int, Hid (FS w W1 w2.heap.size (newM.set (r * 64 + k) v) 1 2 3) ∧ (v < 0 ∨ 65535 < v) := ⟨_, (by rw [← hWW]; refine Lib.hid ?_; repeat (first | (with_reducible exact HS0.out) | (with_reducible apply FS.alloc) | (with_reducible apply FS.drew) | (with_reducible apply FS.set))), by omega⟩
  clear hWW cm fm c0 c1 c2 d0 d1 d2 dlt hlt HS0
  have HML := Lib.hid (show (newM.set (r * 64 + k) v).length = 195 by rw [List.length_set]; exact newM_length)
  have HMAY := Lib.hid (bad_count (j := r * 64 + k) (v := v) (by omega) hv)
  obtain ⟨x0, x1, x2⟩ := HS1.out.hx.cells3
  go_wp2_with (with_reducible refine wpList_load_mid rfl 48 (.tmp 6) rfl w2.heap.size 0 ?_ (ints (newM.set (r * 64 + k) v)) _ HS1.out.hm.range Tryd.underlying48 rfl HS1.out.hm.info ?_)
  all_goals first | (show _ = Value.pointer _; rfl) | skip
  refine (p_not (newM.set (r * 64 + k) v) HML.out 1 2 3 _ (ht.below HS1.out.hb) (by rw [HMAY.out]; rfl)).mono ?_
  rintro e w3 ⟨rfl, hb⟩
  have HS2 := Lib.hid (HS1.out.below hb)
  clear hb x0 x1 x2 HS1
  obtain ⟨x0, x1, x2⟩ := HS2.out.hx.cells3
  go_wp2_with (with_reducible refine wpList_load_mid rfl 48 (.tmp 6) rfl w2.heap.size 0 ?_ (ints (newM.set (r * 64 + k) v)) _ HS2.out.hm.range Tryd.underlying48 rfl HS2.out.hm.info ?_)
  all_goals first | (show _ = Value.pointer _; rfl) | skip
  refine (learn_no (newM.set (r * 64 + k) v) HML.out _ _ _ _ _ (by unfold lOk; rw [HMAY.out]; rfl)).mono ?_
  rintro e w4 ⟨rfl, hb⟩
  have HS3 := Lib.hid ((HS2.out.below hb).alloc (.cells (ints zM).toArray 48))
  have HA3 := Lib.hid (MB.new w4 zM_length)
  clear hb x0 x1 x2 HS2
  go_wp2_with (first
    | (with_reducible refine wpList_new_model zM zM_length (.tmp 12) (.tmp 92) rfl rfl rfl rfl ?_ ?_ ?_)
    | (with_reducible refine wpList_load_mid rfl 48 (.tmp 6) rfl w2.heap.size 0 ?_ (ints (newM.set (r * 64 + k) v)) _ HS3.out.hm.range Tryd.underlying48 rfl HS3.out.hm.info ?_))
  all_goals first | (show _ = Value.pointer _; rfl) | (show _ = Value.agg _; rfl) | skip
  refine (model_may (newM.set (r * 64 + k) v) HML.out _).mono ?_
  rw [HMAY.out]
  rintro e w5 ⟨rfl, hb⟩
  have HS4 := Lib.hid (HS3.out.below hb)
  have HA4 := HA3.out.below hb
  clear hb HS3
  have EZ := fun w' => eql_zero w'
  have LDM := run_loadM w4.heap.size w5 zM HA4
  go_wp2_with (go_at_call 22; refine (num_any _ _).mono ?_; rintro e w' ⟨rfl, rfl⟩)
  go_ret
  exact ⟨rfl, HS4.out.hb⟩
set_option maxRecDepth 100000 in
set_option maxHeartbeats 4000000 in
theorem modelForms_1 (which x m : Int) (r k : Nat) (w : World) (ht : Tab w) (hr : (IntKind.u64.wrap x).tmod 3 = (r : Int)) (r3 : r < 3) (hk : bits .and .i64 x 63 = (k : Int)) (k6 : k < 64) (hm : bits .and .i64 x 1023 = m) (m0 : 0 ≤ m) (m1 : m < 1024) (hq : bits .and .i64 which 3 = 1) :
   Calls Tryd.prog 16 #[.int .i64 which, .int .i64 x] w fun e w' => e = .returned (.bool true) ∧ Below w.heap.size w w' := by
  have R3 : (r : Int) < 3 := by omega
  have K6 : (k : Int) < 64 := by omega
  have e1 : (0 : Int) ≤ r := by omega
  have e2 : (0 : Int) ≤ k := by omega
  go_enter Tryd.func16, Tryd.ntmps16
  go_wp2_with fail
  refine (awake9 _ ht).mono ?_
  rintro e w1 ⟨rfl, hb⟩
  have hq1 := Lib.hid hb
  clear hb
  go_wp2_with fail
  refine (rmodel_new _).mono ?_
  rintro e w2 ⟨rfl, hb⟩
  have hq2 := Lib.hid (below_next hq1.out hb)
  have HS0 := Lib.hid (show FS w ((w2.alloc (.cells (ints newM).toArray 48)).alloc (.cells #[.int .i64 1, .int .i64 2, .int .i64 3] 34)) w2.heap.size newM 1 2 3 from ⟨(MB.new w2 newM_length).alloc _, C3.newAt (by simp), below_alloc (below_alloc hq2.out _) _, hq2.out.size⟩)
  clear hb
  have cm := HS0.out.hm.cell (o := 192 + r) (by omega)
  have fm := HS0.out.hm.frozen (192 + r)
  obtain ⟨c0, c1, c2, d0, d1, d2, dlt⟩ := HS0.out.hx.all
  have hlt := HS0.out.hm.lt
  go_upto_region 5 with (first | (with_reducible refine wpList_alloc_model rfl rfl ?_) | (with_reducible refine wpList_store_new2 newM newM_length _ (.tmp 6) (.tmp 19) rfl rfl ?_ ?_ ?_))
  all_goals first | (show _ = Value.pointer _; rfl) | (show _ = Value.agg _; rfl) | skip
  generalize (w2.alloc _).alloc _ = W0 at HS0 cm fm c0 c1 c2 d0 d1 d2 dlt hlt ⊢
  go_upto_region 13 with fail
  generalize hWW : World.setCell _ ⟨w2.heap.size, 192 + r, none⟩ _ = W1
  obtain ⟨v, HS1, hv⟩ : ∃ v : Int, Hid (FS w W1 w2.heap.size (newM.set (192 + r) v) 1 2 3) ∧ 1048576 < v := ⟨_, (by rw [← hWW]; refine Lib.hid ?_; repeat (first | (with_reducible exact HS0.out) | (with_reducible apply FS.alloc) | (with_reducible apply FS.drew) | (with_reducible apply FS.set))), by omega⟩
  clear hWW cm fm c0 c1 c2 d0 d1 d2 dlt hlt HS0
  have HML := Lib.hid (show (newM.set (192 + r) v).length = 195 by rw [List.length_set]; exact newM_length)
  have HMAY := Lib.hid (bad_weight (r := r) (v := v) r3 hv)
  obtain ⟨x0, x1, x2⟩ := HS1.out.hx.cells3
  go_wp2_with (with_reducible refine wpList_load_mid rfl 48 (.tmp 6) rfl w2.heap.size 0 ?_ (ints (newM.set (192 + r) v)) _ HS1.out.hm.range Tryd.underlying48 rfl HS1.out.hm.info ?_)
  all_goals first | (show _ = Value.pointer _; rfl) | skip
  refine (p_not (newM.set (192 + r) v) HML.out 1 2 3 _ (ht.below HS1.out.hb) (by rw [HMAY.out]; rfl)).mono ?_
  rintro e w3 ⟨rfl, hb⟩
  have HS2 := Lib.hid (HS1.out.below hb)
  clear hb x0 x1 x2 HS1
  obtain ⟨x0, x1, x2⟩ := HS2.out.hx.cells3
  go_wp2_with (with_reducible refine wpList_load_mid rfl 48 (.tmp 6) rfl w2.heap.size 0 ?_ (ints (newM.set (192 + r) v)) _ HS2.out.hm.range Tryd.underlying48 rfl HS2.out.hm.info ?_)
  all_goals first | (show _ = Value.pointer _; rfl) | skip
  refine (learn_no (newM.set (192 + r) v) HML.out _ _ _ _ _ (by unfold lOk; rw [HMAY.out]; rfl)).mono ?_
  rintro e w4 ⟨rfl, hb⟩
  have HS3 := Lib.hid ((HS2.out.below hb).alloc (.cells (ints zM).toArray 48))
  have HA3 := Lib.hid (MB.new w4 zM_length)
  clear hb x0 x1 x2 HS2
  go_wp2_with (first
    | (with_reducible refine wpList_new_model zM zM_length (.tmp 12) (.tmp 92) rfl rfl rfl rfl ?_ ?_ ?_)
    | (with_reducible refine wpList_load_mid rfl 48 (.tmp 6) rfl w2.heap.size 0 ?_ (ints (newM.set (192 + r) v)) _ HS3.out.hm.range Tryd.underlying48 rfl HS3.out.hm.info ?_))
  all_goals first | (show _ = Value.pointer _; rfl) | (show _ = Value.agg _; rfl) | skip
  refine (model_may (newM.set (192 + r) v) HML.out _).mono ?_
  rw [HMAY.out]
  rintro e w5 ⟨rfl, hb⟩
  have HS4 := Lib.hid (HS3.out.below hb)
  have HA4 := HA3.out.below hb
  clear hb HS3
  have EZ := fun w' => eql_zero w'
  have LDM := run_loadM w4.heap.size w5 zM HA4
  go_wp2_with (go_at_call 22; refine (num_any _ _).mono ?_; rintro e w' ⟨rfl, rfl⟩)
  go_ret
  exact ⟨rfl, HS4.out.hb⟩
set_option maxRecDepth 100000 in
set_option maxHeartbeats 4000000 in
theorem modelForms_200 (which x m : Int) (k : Nat) (w : World) (ht : Tab w) (hr : (IntKind.u64.wrap x).tmod 3 = 0) (hk : bits .and .i64 x 63 = (k : Int)) (k6 : k < 64) (hm : bits .and .i64 x 1023 = m) (m0 : 0 ≤ m) (m1 : m < 1024) (hq : bits .and .i64 which 3 = 2) (hs : bits .and .i64 (which / 4) 1 = 0) :
   Calls Tryd.prog 16 #[.int .i64 which, .int .i64 x] w fun e w' => e = .returned (.bool true) ∧ Below w.heap.size w w' := by
  go_enter Tryd.func16, Tryd.ntmps16
  go_wp2_with fail
  refine (awake9 _ ht).mono ?_
  rintro e w1 ⟨rfl, hb⟩
  have hq1 := Lib.hid hb
  clear hb
  go_wp2_with fail
  refine (rmodel_new _).mono ?_
  rintro e w2 ⟨rfl, hb⟩
  have hq2 := Lib.hid (below_next hq1.out hb)
  have HS0 := Lib.hid (show FS w ((w2.alloc (.cells (ints newM).toArray 48)).alloc (.cells #[.int .i64 1, .int .i64 2, .int .i64 3] 34)) w2.heap.size newM 1 2 3 from ⟨(MB.new w2 newM_length).alloc _, C3.newAt (by simp), below_alloc (below_alloc hq2.out _) _, hq2.out.size⟩)
  clear hb
  have cm := HS0.out.hm.cell (o := 192) (by omega)
  have fm := HS0.out.hm.frozen (192)
  obtain ⟨c0, c1, c2, d0, d1, d2, dlt⟩ := HS0.out.hx.all
  have hlt := HS0.out.hm.lt
  go_upto_region 5 with (first | (with_reducible refine wpList_alloc_model rfl rfl ?_) | (with_reducible refine wpList_store_new2 newM newM_length _ (.tmp 6) (.tmp 19) rfl rfl ?_ ?_ ?_))
  all_goals first | (show _ = Value.pointer _; rfl) | (show _ = Value.agg _; rfl) | skip
  generalize (w2.alloc _).alloc _ = W0 at HS0 cm fm c0 c1 c2 d0 d1 d2 dlt hlt ⊢
  go_upto_region 16 with fail
  generalize hWW : World.alloc _ _ = W1
  obtain ⟨v, HS1, hv⟩ : ∃ v : Int, Hid (FS w W1 w2.heap.size newM v 2 3) ∧ (v < 0 ∨ 63 < v) := ⟨_, (by rw [← hWW]; refine Lib.hid ?_; repeat (first | (with_reducible exact HS0.out) | (with_reducible apply FS.alloc) | (with_reducible apply FS.drew) | (with_reducible refine FS.put0 (x := 1) ?_ _))), by omega⟩
  clear hWW cm fm c0 c1 c2 d0 d1 d2 dlt hlt HS0
  have HX := Lib.hid (show xOk v 2 3 = false from xOk_no (by omega))
  have HML := Lib.hid newM_length
  have HMAY := Lib.hid newM_may
  obtain ⟨x0, x1, x2⟩ := HS1.out.hx.cells3
  go_wp2_with (with_reducible refine wpList_load_mid rfl 48 (.tmp 6) rfl w2.heap.size 0 ?_ (ints (newM)) _ HS1.out.hm.range Tryd.underlying48 rfl HS1.out.hm.info ?_)
  all_goals first | (show _ = Value.pointer _; rfl) | skip
  refine (p_not newM newM_length v 2 3 _ (ht.below HS1.out.hb) (by rw [HX.out, Bool.and_false])).mono ?_
  rintro e w3 ⟨rfl, hb⟩
  have HS2 := Lib.hid (HS1.out.below hb)
  clear hb x0 x1 x2 HS1
  obtain ⟨x0, x1, x2⟩ := HS2.out.hx.cells3
  go_wp2_with (with_reducible refine wpList_load_mid rfl 48 (.tmp 6) rfl w2.heap.size 0 ?_ (ints (newM)) _ HS2.out.hm.range Tryd.underlying48 rfl HS2.out.hm.info ?_)
  all_goals first | (show _ = Value.pointer _; rfl) | skip
  refine (learn_no (newM) HML.out _ _ _ _ _ (by unfold lOk; rw [HX.out, Bool.and_false]; rfl)).mono ?_
  rintro e w4 ⟨rfl, hb⟩
  have HS3 := Lib.hid ((HS2.out.below hb).alloc (.cells (ints zM).toArray 48))
  have HA3 := Lib.hid (MB.new w4 zM_length)
  clear hb x0 x1 x2 HS2
  go_wp2_with (first
    | (with_reducible refine wpList_new_model zM zM_length (.tmp 12) (.tmp 92) rfl rfl rfl rfl ?_ ?_ ?_)
    | (with_reducible refine wpList_load_mid rfl 48 (.tmp 6) rfl w2.heap.size 0 ?_ (ints (newM)) _ HS3.out.hm.range Tryd.underlying48 rfl HS3.out.hm.info ?_))
  all_goals first | (show _ = Value.pointer _; rfl) | (show _ = Value.agg _; rfl) | skip
  refine (model_may (newM) HML.out _).mono ?_
  rw [HMAY.out]
  rintro e w5 ⟨rfl, hb⟩
  have HS4 := Lib.hid (HS3.out.below hb)
  have HA4 := HA3.out.below hb
  clear hb HS3
  have EZ := fun w' => eql_zero w'
  have LDM := run_loadM w4.heap.size w5 zM HA4
  go_wp2_with (go_at_call 22; refine (num_any _ _).mono ?_; rintro e w' ⟨rfl, rfl⟩)
  go_ret
  exact ⟨rfl, HS4.out.hb⟩
set_option maxRecDepth 100000 in
set_option maxHeartbeats 4000000 in
theorem modelForms_201 (which x m : Int) (k : Nat) (w : World) (ht : Tab w) (hr : (IntKind.u64.wrap x).tmod 3 = 0) (hk : bits .and .i64 x 63 = (k : Int)) (k6 : k < 64) (hm : bits .and .i64 x 1023 = m) (m0 : 0 ≤ m) (m1 : m < 1024) (hq : bits .and .i64 which 3 = 2) (hs : bits .and .i64 (which / 4) 1 = 1) :
   Calls Tryd.prog 16 #[.int .i64 which, .int .i64 x] w fun e w' => e = .returned (.bool true) ∧ Below w.heap.size w w' := by
  go_enter Tryd.func16, Tryd.ntmps16
  go_wp2_with fail
  refine (awake9 _ ht).mono ?_
  rintro e w1 ⟨rfl, hb⟩
  have hq1 := Lib.hid hb
  clear hb
  go_wp2_with fail
  refine (rmodel_new _).mono ?_
  rintro e w2 ⟨rfl, hb⟩
  have hq2 := Lib.hid (below_next hq1.out hb)
  have HS0 := Lib.hid (show FS w ((w2.alloc (.cells (ints newM).toArray 48)).alloc (.cells #[.int .i64 1, .int .i64 2, .int .i64 3] 34)) w2.heap.size newM 1 2 3 from ⟨(MB.new w2 newM_length).alloc _, C3.newAt (by simp), below_alloc (below_alloc hq2.out _) _, hq2.out.size⟩)
  clear hb
  have cm := HS0.out.hm.cell (o := 192) (by omega)
  have fm := HS0.out.hm.frozen (192)
  obtain ⟨c0, c1, c2, d0, d1, d2, dlt⟩ := HS0.out.hx.all
  have hlt := HS0.out.hm.lt
  go_upto_region 5 with (first | (with_reducible refine wpList_alloc_model rfl rfl ?_) | (with_reducible refine wpList_store_new2 newM newM_length _ (.tmp 6) (.tmp 19) rfl rfl ?_ ?_ ?_))
  all_goals first | (show _ = Value.pointer _; rfl) | (show _ = Value.agg _; rfl) | skip
  generalize (w2.alloc _).alloc _ = W0 at HS0 cm fm c0 c1 c2 d0 d1 d2 dlt hlt ⊢
  go_upto_region 16 with fail
  generalize hWW : World.alloc _ _ = W1
  obtain ⟨v, HS1, hv⟩ : ∃ v : Int, Hid (FS w W1 w2.heap.size newM v 2 3) ∧ (v < 0 ∨ 63 < v) := ⟨_, (by rw [← hWW]; refine Lib.hid ?_; repeat (first | (with_reducible exact HS0.out) | (with_reducible apply FS.alloc) | (with_reducible apply FS.drew) | (with_reducible refine FS.put0 (x := 1) ?_ _))), by omega⟩
  clear hWW cm fm c0 c1 c2 d0 d1 d2 dlt hlt HS0
  have HX := Lib.hid (show xOk v 2 3 = false from xOk_no (by omega))
  have HML := Lib.hid newM_length
  have HMAY := Lib.hid newM_may
  obtain ⟨x0, x1, x2⟩ := HS1.out.hx.cells3
  go_wp2_with (with_reducible refine wpList_load_mid rfl 48 (.tmp 6) rfl w2.heap.size 0 ?_ (ints (newM)) _ HS1.out.hm.range Tryd.underlying48 rfl HS1.out.hm.info ?_)
  all_goals first | (show _ = Value.pointer _; rfl) | skip
  refine (p_not newM newM_length v 2 3 _ (ht.below HS1.out.hb) (by rw [HX.out, Bool.and_false])).mono ?_
  rintro e w3 ⟨rfl, hb⟩
  have HS2 := Lib.hid (HS1.out.below hb)
  clear hb x0 x1 x2 HS1
  obtain ⟨x0, x1, x2⟩ := HS2.out.hx.cells3
  go_wp2_with (with_reducible refine wpList_load_mid rfl 48 (.tmp 6) rfl w2.heap.size 0 ?_ (ints (newM)) _ HS2.out.hm.range Tryd.underlying48 rfl HS2.out.hm.info ?_)
  all_goals first | (show _ = Value.pointer _; rfl) | skip
  refine (learn_no (newM) HML.out _ _ _ _ _ (by unfold lOk; rw [HX.out, Bool.and_false]; rfl)).mono ?_
  rintro e w4 ⟨rfl, hb⟩
  have HS3 := Lib.hid ((HS2.out.below hb).alloc (.cells (ints zM).toArray 48))
  have HA3 := Lib.hid (MB.new w4 zM_length)
  clear hb x0 x1 x2 HS2
  go_wp2_with (first
    | (with_reducible refine wpList_new_model zM zM_length (.tmp 12) (.tmp 92) rfl rfl rfl rfl ?_ ?_ ?_)
    | (with_reducible refine wpList_load_mid rfl 48 (.tmp 6) rfl w2.heap.size 0 ?_ (ints (newM)) _ HS3.out.hm.range Tryd.underlying48 rfl HS3.out.hm.info ?_))
  all_goals first | (show _ = Value.pointer _; rfl) | (show _ = Value.agg _; rfl) | skip
  refine (model_may (newM) HML.out _).mono ?_
  rw [HMAY.out]
  rintro e w5 ⟨rfl, hb⟩
  have HS4 := Lib.hid (HS3.out.below hb)
  have HA4 := HA3.out.below hb
  clear hb HS3
  have EZ := fun w' => eql_zero w'
  have LDM := run_loadM w4.heap.size w5 zM HA4
  go_wp2_with (go_at_call 22; refine (num_any _ _).mono ?_; rintro e w' ⟨rfl, rfl⟩)
  go_ret
  exact ⟨rfl, HS4.out.hb⟩
set_option maxRecDepth 100000 in
set_option maxHeartbeats 4000000 in
theorem modelForms_210 (which x m : Int) (k : Nat) (w : World) (ht : Tab w) (hr : (IntKind.u64.wrap x).tmod 3 = 1) (hk : bits .and .i64 x 63 = (k : Int)) (k6 : k < 64) (hm : bits .and .i64 x 1023 = m) (m0 : 0 ≤ m) (m1 : m < 1024) (hq : bits .and .i64 which 3 = 2) (hs : bits .and .i64 (which / 4) 1 = 0) :
   Calls Tryd.prog 16 #[.int .i64 which, .int .i64 x] w fun e w' => e = .returned (.bool true) ∧ Below w.heap.size w w' := by
  go_enter Tryd.func16, Tryd.ntmps16
  go_wp2_with fail
  refine (awake9 _ ht).mono ?_
  rintro e w1 ⟨rfl, hb⟩
  have hq1 := Lib.hid hb
  clear hb
  go_wp2_with fail
  refine (rmodel_new _).mono ?_
  rintro e w2 ⟨rfl, hb⟩
  have hq2 := Lib.hid (below_next hq1.out hb)
  have HS0 := Lib.hid (show FS w ((w2.alloc (.cells (ints newM).toArray 48)).alloc (.cells #[.int .i64 1, .int .i64 2, .int .i64 3] 34)) w2.heap.size newM 1 2 3 from ⟨(MB.new w2 newM_length).alloc _, C3.newAt (by simp), below_alloc (below_alloc hq2.out _) _, hq2.out.size⟩)
  clear hb
  have cm := HS0.out.hm.cell (o := 192) (by omega)
  have fm := HS0.out.hm.frozen (192)
  obtain ⟨c0, c1, c2, d0, d1, d2, dlt⟩ := HS0.out.hx.all
  have hlt := HS0.out.hm.lt
  go_upto_region 5 with (first | (with_reducible refine wpList_alloc_model rfl rfl ?_) | (with_reducible refine wpList_store_new2 newM newM_length _ (.tmp 6) (.tmp 19) rfl rfl ?_ ?_ ?_))
  all_goals first | (show _ = Value.pointer _; rfl) | (show _ = Value.agg _; rfl) | skip
  generalize (w2.alloc _).alloc _ = W0 at HS0 cm fm c0 c1 c2 d0 d1 d2 dlt hlt ⊢
  go_upto_region 16 with fail
  generalize hWW : World.alloc _ _ = W1
  obtain ⟨v, HS1, hv⟩ : ∃ v : Int, Hid (FS w W1 w2.heap.size newM 1 v 3) ∧ (v < 0 ∨ 63 < v) := ⟨_, (by rw [← hWW]; refine Lib.hid ?_; repeat (first | (with_reducible exact HS0.out) | (with_reducible apply FS.alloc) | (with_reducible apply FS.drew) | (with_reducible refine FS.put1 (y := 2) ?_ _))), by omega⟩
  clear hWW cm fm c0 c1 c2 d0 d1 d2 dlt hlt HS0
  have HX := Lib.hid (show xOk 1 v 3 = false from xOk_no (by omega))
  have HML := Lib.hid newM_length
  have HMAY := Lib.hid newM_may
  obtain ⟨x0, x1, x2⟩ := HS1.out.hx.cells3
  go_wp2_with (with_reducible refine wpList_load_mid rfl 48 (.tmp 6) rfl w2.heap.size 0 ?_ (ints (newM)) _ HS1.out.hm.range Tryd.underlying48 rfl HS1.out.hm.info ?_)
  all_goals first | (show _ = Value.pointer _; rfl) | skip
  refine (p_not newM newM_length 1 v 3 _ (ht.below HS1.out.hb) (by rw [HX.out, Bool.and_false])).mono ?_
  rintro e w3 ⟨rfl, hb⟩
  have HS2 := Lib.hid (HS1.out.below hb)
  clear hb x0 x1 x2 HS1
  obtain ⟨x0, x1, x2⟩ := HS2.out.hx.cells3
  go_wp2_with (with_reducible refine wpList_load_mid rfl 48 (.tmp 6) rfl w2.heap.size 0 ?_ (ints (newM)) _ HS2.out.hm.range Tryd.underlying48 rfl HS2.out.hm.info ?_)
  all_goals first | (show _ = Value.pointer _; rfl) | skip
  refine (learn_no (newM) HML.out _ _ _ _ _ (by unfold lOk; rw [HX.out, Bool.and_false]; rfl)).mono ?_
  rintro e w4 ⟨rfl, hb⟩
  have HS3 := Lib.hid ((HS2.out.below hb).alloc (.cells (ints zM).toArray 48))
  have HA3 := Lib.hid (MB.new w4 zM_length)
  clear hb x0 x1 x2 HS2
  go_wp2_with (first
    | (with_reducible refine wpList_new_model zM zM_length (.tmp 12) (.tmp 92) rfl rfl rfl rfl ?_ ?_ ?_)
    | (with_reducible refine wpList_load_mid rfl 48 (.tmp 6) rfl w2.heap.size 0 ?_ (ints (newM)) _ HS3.out.hm.range Tryd.underlying48 rfl HS3.out.hm.info ?_))
  all_goals first | (show _ = Value.pointer _; rfl) | (show _ = Value.agg _; rfl) | skip
  refine (model_may (newM) HML.out _).mono ?_
  rw [HMAY.out]
  rintro e w5 ⟨rfl, hb⟩
  have HS4 := Lib.hid (HS3.out.below hb)
  have HA4 := HA3.out.below hb
  clear hb HS3
  have EZ := fun w' => eql_zero w'
  have LDM := run_loadM w4.heap.size w5 zM HA4
  go_wp2_with (go_at_call 22; refine (num_any _ _).mono ?_; rintro e w' ⟨rfl, rfl⟩)
  go_ret
  exact ⟨rfl, HS4.out.hb⟩
set_option maxRecDepth 100000 in
set_option maxHeartbeats 4000000 in
theorem modelForms_211 (which x m : Int) (k : Nat) (w : World) (ht : Tab w) (hr : (IntKind.u64.wrap x).tmod 3 = 1) (hk : bits .and .i64 x 63 = (k : Int)) (k6 : k < 64) (hm : bits .and .i64 x 1023 = m) (m0 : 0 ≤ m) (m1 : m < 1024) (hq : bits .and .i64 which 3 = 2) (hs : bits .and .i64 (which / 4) 1 = 1) :
   Calls Tryd.prog 16 #[.int .i64 which, .int .i64 x] w fun e w' => e = .returned (.bool true) ∧ Below w.heap.size w w' := by
  go_enter Tryd.func16, Tryd.ntmps16
  go_wp2_with fail
  refine (awake9 _ ht).mono ?_
  rintro e w1 ⟨rfl, hb⟩
  have hq1 := Lib.hid hb
  clear hb
  go_wp2_with fail
  refine (rmodel_new _).mono ?_
  rintro e w2 ⟨rfl, hb⟩
  have hq2 := Lib.hid (below_next hq1.out hb)
  have HS0 := Lib.hid (show FS w ((w2.alloc (.cells (ints newM).toArray 48)).alloc (.cells #[.int .i64 1, .int .i64 2, .int .i64 3] 34)) w2.heap.size newM 1 2 3 from ⟨(MB.new w2 newM_length).alloc _, C3.newAt (by simp), below_alloc (below_alloc hq2.out _) _, hq2.out.size⟩)
  clear hb
  have cm := HS0.out.hm.cell (o := 192) (by omega)
  have fm := HS0.out.hm.frozen (192)
  obtain ⟨c0, c1, c2, d0, d1, d2, dlt⟩ := HS0.out.hx.all
  have hlt := HS0.out.hm.lt
  go_upto_region 5 with (first | (with_reducible refine wpList_alloc_model rfl rfl ?_) | (with_reducible refine wpList_store_new2 newM newM_length _ (.tmp 6) (.tmp 19) rfl rfl ?_ ?_ ?_))
  all_goals first | (show _ = Value.pointer _; rfl) | (show _ = Value.agg _; rfl) | skip
  generalize (w2.alloc _).alloc _ = W0 at HS0 cm fm c0 c1 c2 d0 d1 d2 dlt hlt ⊢
  go_upto_region 16 with fail
  generalize hWW : World.alloc _ _ = W1
  obtain ⟨v, HS1, hv⟩ : ∃ v : Int, Hid (FS w W1 w2.heap.size newM 1 v 3) ∧ (v < 0 ∨ 63 < v) := ⟨_, (by rw [← hWW]; refine Lib.hid ?_; repeat (first | (with_reducible exact HS0.out) | (with_reducible apply FS.alloc) | (with_reducible apply FS.drew) | (with_reducible refine FS.put1 (y := 2) ?_ _))), by omega⟩
  clear hWW cm fm c0 c1 c2 d0 d1 d2 dlt hlt HS0
  have HX := Lib.hid (show xOk 1 v 3 = false from xOk_no (by omega))
  have HML := Lib.hid newM_length
  have HMAY := Lib.hid newM_may
  obtain ⟨x0, x1, x2⟩ := HS1.out.hx.cells3
  go_wp2_with (with_reducible refine wpList_load_mid rfl 48 (.tmp 6) rfl w2.heap.size 0 ?_ (ints (newM)) _ HS1.out.hm.range Tryd.underlying48 rfl HS1.out.hm.info ?_)
  all_goals first | (show _ = Value.pointer _; rfl) | skip
  refine (p_not newM newM_length 1 v 3 _ (ht.below HS1.out.hb) (by rw [HX.out, Bool.and_false])).mono ?_
  rintro e w3 ⟨rfl, hb⟩
  have HS2 := Lib.hid (HS1.out.below hb)
  clear hb x0 x1 x2 HS1
  obtain ⟨x0, x1, x2⟩ := HS2.out.hx.cells3
  go_wp2_with (with_reducible refine wpList_load_mid rfl 48 (.tmp 6) rfl w2.heap.size 0 ?_ (ints (newM)) _ HS2.out.hm.range Tryd.underlying48 rfl HS2.out.hm.info ?_)
  all_goals first | (show _ = Value.pointer _; rfl) | skip
  refine (learn_no (newM) HML.out _ _ _ _ _ (by unfold lOk; rw [HX.out, Bool.and_false]; rfl)).mono ?_
  rintro e w4 ⟨rfl, hb⟩
  have HS3 := Lib.hid ((HS2.out.below hb).alloc (.cells (ints zM).toArray 48))
  have HA3 := Lib.hid (MB.new w4 zM_length)
  clear hb x0 x1 x2 HS2
  go_wp2_with (first
    | (with_reducible refine wpList_new_model zM zM_length (.tmp 12) (.tmp 92) rfl rfl rfl rfl ?_ ?_ ?_)
    | (with_reducible refine wpList_load_mid rfl 48 (.tmp 6) rfl w2.heap.size 0 ?_ (ints (newM)) _ HS3.out.hm.range Tryd.underlying48 rfl HS3.out.hm.info ?_))
  all_goals first | (show _ = Value.pointer _; rfl) | (show _ = Value.agg _; rfl) | skip
  refine (model_may (newM) HML.out _).mono ?_
  rw [HMAY.out]
  rintro e w5 ⟨rfl, hb⟩
  have HS4 := Lib.hid (HS3.out.below hb)
  have HA4 := HA3.out.below hb
  clear hb HS3
  have EZ := fun w' => eql_zero w'
  have LDM := run_loadM w4.heap.size w5 zM HA4
  go_wp2_with (go_at_call 22; refine (num_any _ _).mono ?_; rintro e w' ⟨rfl, rfl⟩)
  go_ret
  exact ⟨rfl, HS4.out.hb⟩
set_option maxRecDepth 100000 in
set_option maxHeartbeats 4000000 in
theorem modelForms_220 (which x m : Int) (k : Nat) (w : World) (ht : Tab w) (hr : (IntKind.u64.wrap x).tmod 3 = 2) (hk : bits .and .i64 x 63 = (k : Int)) (k6 : k < 64) (hm : bits .and .i64 x 1023 = m) (m0 : 0 ≤ m) (m1 : m < 1024) (hq : bits .and .i64 which 3 = 2) (hs : bits .and .i64 (which / 4) 1 = 0) :
   Calls Tryd.prog 16 #[.int .i64 which, .int .i64 x] w fun e w' => e = .returned (.bool true) ∧ Below w.heap.size w w' := by
  go_enter Tryd.func16, Tryd.ntmps16
  go_wp2_with fail
  refine (awake9 _ ht).mono ?_
  rintro e w1 ⟨rfl, hb⟩
  have hq1 := Lib.hid hb
  clear hb
  go_wp2_with fail
  refine (rmodel_new _).mono ?_
  rintro e w2 ⟨rfl, hb⟩
  have hq2 := Lib.hid (below_next hq1.out hb)
  have HS0 := Lib.hid (show FS w ((w2.alloc (.cells (ints newM).toArray 48)).alloc (.cells #[.int .i64 1, .int .i64 2, .int .i64 3] 34)) w2.heap.size newM 1 2 3 from ⟨(MB.new w2 newM_length).alloc _, C3.newAt (by simp), below_alloc (below_alloc hq2.out _) _, hq2.out.size⟩)
  clear hb
  have cm := HS0.out.hm.cell (o := 192) (by omega)
  have fm := HS0.out.hm.frozen (192)
  obtain ⟨c0, c1, c2, d0, d1, d2, dlt⟩ := HS0.out.hx.all
  have hlt := HS0.out.hm.lt
  go_upto_region 5 with (first | (with_reducible refine wpList_alloc_model rfl rfl ?_) | (with_reducible refine wpList_store_new2 newM newM_length _ (.tmp 6) (.tmp 19) rfl rfl ?_ ?_ ?_))
  all_goals first | (show _ = Value.pointer _; rfl) | (show _ = Value.agg _; rfl) | skip
  generalize (w2.alloc _).alloc _ = W0 at HS0 cm fm c0 c1 c2 d0 d1 d2 dlt hlt ⊢
  go_upto_region 16 with fail
  generalize hWW : World.alloc _ _ = W1
  obtain ⟨v, HS1, hv⟩ : ∃ v : Int, Hid (FS w W1 w2.heap.size newM 1 2 v) ∧ (v < 0 ∨ 63 < v) := ⟨_, (by rw [← hWW]; refine Lib.hid ?_; repeat (first | (with_reducible exact HS0.out) | (with_reducible apply FS.alloc) | (with_reducible apply FS.drew) | (with_reducible refine FS.put2 (z := 3) ?_ _))), by omega⟩
  clear hWW cm fm c0 c1 c2 d0 d1 d2 dlt hlt HS0
  have HX := Lib.hid (show xOk 1 2 v = false from xOk_no (by omega))
  have HML := Lib.hid newM_length
  have HMAY := Lib.hid newM_may
  obtain ⟨x0, x1, x2⟩ := HS1.out.hx.cells3
  go_wp2_with (with_reducible refine wpList_load_mid rfl 48 (.tmp 6) rfl w2.heap.size 0 ?_ (ints (newM)) _ HS1.out.hm.range Tryd.underlying48 rfl HS1.out.hm.info ?_)
  all_goals first | (show _ = Value.pointer _; rfl) | skip
  refine (p_not newM newM_length 1 2 v _ (ht.below HS1.out.hb) (by rw [HX.out, Bool.and_false])).mono ?_
  rintro e w3 ⟨rfl, hb⟩
  have HS2 := Lib.hid (HS1.out.below hb)
  clear hb x0 x1 x2 HS1
  obtain ⟨x0, x1, x2⟩ := HS2.out.hx.cells3
  go_wp2_with (with_reducible refine wpList_load_mid rfl 48 (.tmp 6) rfl w2.heap.size 0 ?_ (ints (newM)) _ HS2.out.hm.range Tryd.underlying48 rfl HS2.out.hm.info ?_)
  all_goals first | (show _ = Value.pointer _; rfl) | skip
  refine (learn_no (newM) HML.out _ _ _ _ _ (by unfold lOk; rw [HX.out, Bool.and_false]; rfl)).mono ?_
  rintro e w4 ⟨rfl, hb⟩
  have HS3 := Lib.hid ((HS2.out.below hb).alloc (.cells (ints zM).toArray 48))
  have HA3 := Lib.hid (MB.new w4 zM_length)
  clear hb x0 x1 x2 HS2
  go_wp2_with (first
    | (with_reducible refine wpList_new_model zM zM_length (.tmp 12) (.tmp 92) rfl rfl rfl rfl ?_ ?_ ?_)
    | (with_reducible refine wpList_load_mid rfl 48 (.tmp 6) rfl w2.heap.size 0 ?_ (ints (newM)) _ HS3.out.hm.range Tryd.underlying48 rfl HS3.out.hm.info ?_))
  all_goals first | (show _ = Value.pointer _; rfl) | (show _ = Value.agg _; rfl) | skip
  refine (model_may (newM) HML.out _).mono ?_
  rw [HMAY.out]
  rintro e w5 ⟨rfl, hb⟩
  have HS4 := Lib.hid (HS3.out.below hb)
  have HA4 := HA3.out.below hb
  clear hb HS3
  have EZ := fun w' => eql_zero w'
  have LDM := run_loadM w4.heap.size w5 zM HA4
  go_wp2_with (go_at_call 22; refine (num_any _ _).mono ?_; rintro e w' ⟨rfl, rfl⟩)
  go_ret
  exact ⟨rfl, HS4.out.hb⟩
set_option maxRecDepth 100000 in
set_option maxHeartbeats 4000000 in
theorem modelForms_221 (which x m : Int) (k : Nat) (w : World) (ht : Tab w) (hr : (IntKind.u64.wrap x).tmod 3 = 2) (hk : bits .and .i64 x 63 = (k : Int)) (k6 : k < 64) (hm : bits .and .i64 x 1023 = m) (m0 : 0 ≤ m) (m1 : m < 1024) (hq : bits .and .i64 which 3 = 2) (hs : bits .and .i64 (which / 4) 1 = 1) :
   Calls Tryd.prog 16 #[.int .i64 which, .int .i64 x] w fun e w' => e = .returned (.bool true) ∧ Below w.heap.size w w' := by
  go_enter Tryd.func16, Tryd.ntmps16
  go_wp2_with fail
  refine (awake9 _ ht).mono ?_
  rintro e w1 ⟨rfl, hb⟩
  have hq1 := Lib.hid hb
  clear hb
  go_wp2_with fail
  refine (rmodel_new _).mono ?_
  rintro e w2 ⟨rfl, hb⟩
  have hq2 := Lib.hid (below_next hq1.out hb)
  have HS0 := Lib.hid (show FS w ((w2.alloc (.cells (ints newM).toArray 48)).alloc (.cells #[.int .i64 1, .int .i64 2, .int .i64 3] 34)) w2.heap.size newM 1 2 3 from ⟨(MB.new w2 newM_length).alloc _, C3.newAt (by simp), below_alloc (below_alloc hq2.out _) _, hq2.out.size⟩)
  clear hb
  have cm := HS0.out.hm.cell (o := 192) (by omega)
  have fm := HS0.out.hm.frozen (192)
  obtain ⟨c0, c1, c2, d0, d1, d2, dlt⟩ := HS0.out.hx.all
  have hlt := HS0.out.hm.lt
  go_upto_region 5 with (first | (with_reducible refine wpList_alloc_model rfl rfl ?_) | (with_reducible refine wpList_store_new2 newM newM_length _ (.tmp 6) (.tmp 19) rfl rfl ?_ ?_ ?_))
  all_goals first | (show _ = Value.pointer _; rfl) | (show _ = Value.agg _; rfl) | skip
  generalize (w2.alloc _).alloc _ = W0 at HS0 cm fm c0 c1 c2 d0 d1 d2 dlt hlt ⊢
  go_upto_region 16 with fail
  generalize hWW : World.alloc _ _ = W1
  obtain ⟨v, HS1, hv⟩ : ∃ v : Int, Hid (FS w W1 w2.heap.size newM 1 2 v) ∧ (v < 0 ∨ 63 < v) := ⟨_, (by rw [← hWW]; refine Lib.hid ?_; repeat (first | (with_reducible exact HS0.out) | (with_reducible apply FS.alloc) | (with_reducible apply FS.drew) | (with_reducible refine FS.put2 (z := 3) ?_ _))), by omega⟩
  clear hWW cm fm c0 c1 c2 d0 d1 d2 dlt hlt HS0
  have HX := Lib.hid (show xOk 1 2 v = false from xOk_no (by omega))
  have HML := Lib.hid newM_length
  have HMAY := Lib.hid newM_may
  obtain ⟨x0, x1, x2⟩ := HS1.out.hx.cells3
  go_wp2_with (with_reducible refine wpList_load_mid rfl 48 (.tmp 6) rfl w2.heap.size 0 ?_ (ints (newM)) _ HS1.out.hm.range Tryd.underlying48 rfl HS1.out.hm.info ?_)
  all_goals first | (show _ = Value.pointer _; rfl) | skip
  refine (p_not newM newM_length 1 2 v _ (ht.below HS1.out.hb) (by rw [HX.out, Bool.and_false])).mono ?_
  rintro e w3 ⟨rfl, hb⟩
  have HS2 := Lib.hid (HS1.out.below hb)
  clear hb x0 x1 x2 HS1
  obtain ⟨x0, x1, x2⟩ := HS2.out.hx.cells3
  go_wp2_with (with_reducible refine wpList_load_mid rfl 48 (.tmp 6) rfl w2.heap.size 0 ?_ (ints (newM)) _ HS2.out.hm.range Tryd.underlying48 rfl HS2.out.hm.info ?_)
  all_goals first | (show _ = Value.pointer _; rfl) | skip
  refine (learn_no (newM) HML.out _ _ _ _ _ (by unfold lOk; rw [HX.out, Bool.and_false]; rfl)).mono ?_
  rintro e w4 ⟨rfl, hb⟩
  have HS3 := Lib.hid ((HS2.out.below hb).alloc (.cells (ints zM).toArray 48))
  have HA3 := Lib.hid (MB.new w4 zM_length)
  clear hb x0 x1 x2 HS2
  go_wp2_with (first
    | (with_reducible refine wpList_new_model zM zM_length (.tmp 12) (.tmp 92) rfl rfl rfl rfl ?_ ?_ ?_)
    | (with_reducible refine wpList_load_mid rfl 48 (.tmp 6) rfl w2.heap.size 0 ?_ (ints (newM)) _ HS3.out.hm.range Tryd.underlying48 rfl HS3.out.hm.info ?_))
  all_goals first | (show _ = Value.pointer _; rfl) | (show _ = Value.agg _; rfl) | skip
  refine (model_may (newM) HML.out _).mono ?_
  rw [HMAY.out]
  rintro e w5 ⟨rfl, hb⟩
  have HS4 := Lib.hid (HS3.out.below hb)
  have HA4 := HA3.out.below hb
  clear hb HS3
  have EZ := fun w' => eql_zero w'
  have LDM := run_loadM w4.heap.size w5 zM HA4
  go_wp2_with (go_at_call 22; refine (num_any _ _).mono ?_; rintro e w' ⟨rfl, rfl⟩)
  go_ret
  exact ⟨rfl, HS4.out.hb⟩
set_option maxRecDepth 100000 in
set_option maxHeartbeats 4000000 in
theorem modelForms_30 (which x m : Int) (r k : Nat) (w : World) (ht : Tab w) (hr : (IntKind.u64.wrap x).tmod 3 = (r : Int)) (r3 : r < 3) (hk : bits .and .i64 x 63 = (k : Int)) (k6 : k < 64) (hm : bits .and .i64 x 1023 = m) (m0 : 0 ≤ m) (m1 : m < 1024) (hq : bits .and .i64 which 3 = 3) (hs : bits .and .i64 (which / 4) 1 = 0) :
   Calls Tryd.prog 16 #[.int .i64 which, .int .i64 x] w fun e w' => e = .returned (.bool true) ∧ Below w.heap.size w w' := by
  go_enter Tryd.func16, Tryd.ntmps16
  go_wp2_with fail
  refine (awake9 _ ht).mono ?_
  rintro e w1 ⟨rfl, hb⟩
  have hq1 := Lib.hid hb
  clear hb
  go_wp2_with fail
  refine (rmodel_new _).mono ?_
  rintro e w2 ⟨rfl, hb⟩
  have hq2 := Lib.hid (below_next hq1.out hb)
  have HS0 := Lib.hid (show FS w ((w2.alloc (.cells (ints newM).toArray 48)).alloc (.cells #[.int .i64 1, .int .i64 2, .int .i64 3] 34)) w2.heap.size newM 1 2 3 from ⟨(MB.new w2 newM_length).alloc _, C3.newAt (by simp), below_alloc (below_alloc hq2.out _) _, hq2.out.size⟩)
  clear hb
  have cm := HS0.out.hm.cell (o := 192) (by omega)
  have fm := HS0.out.hm.frozen (192)
  obtain ⟨c0, c1, c2, d0, d1, d2, dlt⟩ := HS0.out.hx.all
  have hlt := HS0.out.hm.lt
  go_upto_region 5 with (first | (with_reducible refine wpList_alloc_model rfl rfl ?_) | (with_reducible refine wpList_store_new2 newM newM_length _ (.tmp 6) (.tmp 19) rfl rfl ?_ ?_ ?_))
  all_goals first | (show _ = Value.pointer _; rfl) | (show _ = Value.agg _; rfl) | skip
  generalize (w2.alloc _).alloc _ = W0 at HS0 cm fm c0 c1 c2 d0 d1 d2 dlt hlt ⊢
  go_upto_region 16 with fail
  generalize hWW : World.alloc W0 _ = W1
  have HS1 := Lib.hid (show FS w W1 w2.heap.size newM 1 2 3 by rw [← hWW]; exact HS0.out.alloc _)
  clear hWW cm fm c0 c1 c2 d0 d1 d2 dlt hlt HS0
  have HML := Lib.hid newM_length
  have HMAY := Lib.hid newM_may
  obtain ⟨x0, x1, x2⟩ := HS1.out.hx.cells3
  go_wp2_with (with_reducible refine wpList_load_mid rfl 48 (.tmp 6) rfl w2.heap.size 0 ?_ (ints (newM)) _ HS1.out.hm.range Tryd.underlying48 rfl HS1.out.hm.info ?_)
  all_goals first | (show _ = Value.pointer _; rfl) | skip
  refine (model_p newM newM_length 1 2 3 _ (ht.below HS1.out.hb)).mono ?_
  rw [newM_p]
  rintro e w3 ⟨rfl, hb⟩
  have HS2 := Lib.hid (HS1.out.below hb)
  clear hb x0 x1 x2 HS1
  obtain ⟨x0, x1, x2⟩ := HS2.out.hx.cells3
  go_wp2_with (with_reducible refine wpList_load_mid rfl 48 (.tmp 6) rfl w2.heap.size 0 ?_ (ints (newM)) _ HS2.out.hm.range Tryd.underlying48 rfl HS2.out.hm.info ?_)
  all_goals first | (show _ = Value.pointer _; rfl) | skip
  refine (learn_no (newM) HML.out _ _ _ _ _ (by unfold lOk; rw [Bool.and_eq_false_iff]; right; rw [Bool.and_eq_false_iff, decide_eq_false_iff_not, decide_eq_false_iff_not]; omega)).mono ?_
  rintro e w4 ⟨rfl, hb⟩
  have HS3 := Lib.hid ((HS2.out.below hb).alloc (.cells (ints zM).toArray 48))
  have HA3 := Lib.hid (MB.new w4 zM_length)
  clear hb x0 x1 x2 HS2
  go_wp2_with (first
    | (with_reducible refine wpList_new_model zM zM_length (.tmp 12) (.tmp 92) rfl rfl rfl rfl ?_ ?_ ?_)
    | (with_reducible refine wpList_load_mid rfl 48 (.tmp 6) rfl w2.heap.size 0 ?_ (ints (newM)) _ HS3.out.hm.range Tryd.underlying48 rfl HS3.out.hm.info ?_))
  all_goals first | (show _ = Value.pointer _; rfl) | (show _ = Value.agg _; rfl) | skip
  refine (model_may (newM) HML.out _).mono ?_
  rw [HMAY.out]
  rintro e w5 ⟨rfl, hb⟩
  have HS4 := Lib.hid (HS3.out.below hb)
  have HA4 := HA3.out.below hb
  clear hb HS3
  have EZ := fun w' => eql_zero w'
  have LDM := run_loadM w4.heap.size w5 zM HA4
  go_wp2_with (go_at_call 22; refine (num_any _ _).mono ?_; rintro e w' ⟨rfl, rfl⟩)
  go_ret
  exact ⟨rfl, HS4.out.hb⟩
set_option maxRecDepth 100000 in
set_option maxHeartbeats 4000000 in
theorem modelForms_31 (which x m : Int) (r k : Nat) (w : World) (ht : Tab w) (hr : (IntKind.u64.wrap x).tmod 3 = (r : Int)) (r3 : r < 3) (hk : bits .and .i64 x 63 = (k : Int)) (k6 : k < 64) (hm : bits .and .i64 x 1023 = m) (m0 : 0 ≤ m) (m1 : m < 1024) (hq : bits .and .i64 which 3 = 3) (hs : bits .and .i64 (which / 4) 1 = 1) :
   Calls Tryd.prog 16 #[.int .i64 which, .int .i64 x] w fun e w' => e = .returned (.bool true) ∧ Below w.heap.size w w' := by
  go_enter Tryd.func16, Tryd.ntmps16
  go_wp2_with fail
  refine (awake9 _ ht).mono ?_
  rintro e w1 ⟨rfl, hb⟩
  have hq1 := Lib.hid hb
  clear hb
  go_wp2_with fail
  refine (rmodel_new _).mono ?_
  rintro e w2 ⟨rfl, hb⟩
  have hq2 := Lib.hid (below_next hq1.out hb)
  have HS0 := Lib.hid (show FS w ((w2.alloc (.cells (ints newM).toArray 48)).alloc (.cells #[.int .i64 1, .int .i64 2, .int .i64 3] 34)) w2.heap.size newM 1 2 3 from ⟨(MB.new w2 newM_length).alloc _, C3.newAt (by simp), below_alloc (below_alloc hq2.out _) _, hq2.out.size⟩)
  clear hb
  have cm := HS0.out.hm.cell (o := 192) (by omega)
  have fm := HS0.out.hm.frozen (192)
  obtain ⟨c0, c1, c2, d0, d1, d2, dlt⟩ := HS0.out.hx.all
  have hlt := HS0.out.hm.lt
  go_upto_region 5 with (first | (with_reducible refine wpList_alloc_model rfl rfl ?_) | (with_reducible refine wpList_store_new2 newM newM_length _ (.tmp 6) (.tmp 19) rfl rfl ?_ ?_ ?_))
  all_goals first | (show _ = Value.pointer _; rfl) | (show _ = Value.agg _; rfl) | skip
  generalize (w2.alloc _).alloc _ = W0 at HS0 cm fm c0 c1 c2 d0 d1 d2 dlt hlt ⊢
  go_upto_region 16 with fail
  generalize hWW : World.alloc W0 _ = W1
  have HS1 := Lib.hid (show FS w W1 w2.heap.size newM 1 2 3 by rw [← hWW]; exact HS0.out.alloc _)
  clear hWW cm fm c0 c1 c2 d0 d1 d2 dlt hlt HS0
  have HML := Lib.hid newM_length
  have HMAY := Lib.hid newM_may
  obtain ⟨x0, x1, x2⟩ := HS1.out.hx.cells3
  go_wp2_with (with_reducible refine wpList_load_mid rfl 48 (.tmp 6) rfl w2.heap.size 0 ?_ (ints (newM)) _ HS1.out.hm.range Tryd.underlying48 rfl HS1.out.hm.info ?_)
  all_goals first | (show _ = Value.pointer _; rfl) | skip
  refine (model_p newM newM_length 1 2 3 _ (ht.below HS1.out.hb)).mono ?_
  rw [newM_p]
  rintro e w3 ⟨rfl, hb⟩
  have HS2 := Lib.hid (HS1.out.below hb)
  clear hb x0 x1 x2 HS1
  obtain ⟨x0, x1, x2⟩ := HS2.out.hx.cells3
  go_wp2_with (with_reducible refine wpList_load_mid rfl 48 (.tmp 6) rfl w2.heap.size 0 ?_ (ints (newM)) _ HS2.out.hm.range Tryd.underlying48 rfl HS2.out.hm.info ?_)
  all_goals first | (show _ = Value.pointer _; rfl) | skip
  refine (learn_no (newM) HML.out _ _ _ _ _ (by unfold lOk; rw [Bool.and_eq_false_iff]; right; rw [Bool.and_eq_false_iff, decide_eq_false_iff_not, decide_eq_false_iff_not]; omega)).mono ?_
  rintro e w4 ⟨rfl, hb⟩
  have HS3 := Lib.hid ((HS2.out.below hb).alloc (.cells (ints zM).toArray 48))
  have HA3 := Lib.hid (MB.new w4 zM_length)
  clear hb x0 x1 x2 HS2
  go_wp2_with (first
    | (with_reducible refine wpList_new_model zM zM_length (.tmp 12) (.tmp 92) rfl rfl rfl rfl ?_ ?_ ?_)
    | (with_reducible refine wpList_load_mid rfl 48 (.tmp 6) rfl w2.heap.size 0 ?_ (ints (newM)) _ HS3.out.hm.range Tryd.underlying48 rfl HS3.out.hm.info ?_))
  all_goals first | (show _ = Value.pointer _; rfl) | (show _ = Value.agg _; rfl) | skip
  refine (model_may (newM) HML.out _).mono ?_
  rw [HMAY.out]
  rintro e w5 ⟨rfl, hb⟩
  have HS4 := Lib.hid (HS3.out.below hb)
  have HA4 := HA3.out.below hb
  clear hb HS3
  have EZ := fun w' => eql_zero w'
  have LDM := run_loadM w4.heap.size w5 zM HA4
  go_wp2_with (go_at_call 22; refine (num_any _ _).mono ?_; rintro e w' ⟨rfl, rfl⟩)
  go_ret
  exact ⟨rfl, HS4.out.hb⟩
theorem modelForms_walk (which x : Int) (w : World) (ht : Tab w) : Calls Tryd.prog 16 #[.int .i64 which, .int .i64 x] w fun e w' => e = .returned (.bool true) ∧ Below w.heap.size w w' := by
  obtain ⟨r, hr, r0, r1⟩ := umod x 3 (by decide) (by decide)
  obtain ⟨r, rfl⟩ := Int.eq_ofNat_of_zero_le r0
  obtain ⟨m, hm⟩ : ∃ m, bits .and .i64 x 1023 = m := ⟨_, rfl⟩
  have hm0 : 0 ≤ m ∧ m < 1024 := by rw [← hm, i64_mask 10 1023 (by decide) (by decide)]; omega
  obtain ⟨m0, m1⟩ := hm0
  obtain ⟨k, k6, hk⟩ := and63 x
  obtain ⟨s, hs⟩ : ∃ m, bits .and .i64 (which / 4) 1 = m := ⟨_, rfl⟩
  have hs0 : s = 0 ∨ s = 1 := by rw [← hs, i64_mask 1 1 (by decide) (by decide)]; omega
  obtain ⟨q, hq⟩ : ∃ m, bits .and .i64 which 3 = m := ⟨_, rfl⟩
  have hq0 : q = 0 ∨ q = 1 ∨ q = 2 ∨ q = 3 := by rw [← hq, i64_mask 2 3 (by decide) (by decide)]; omega
  have r3 : r < 3 := by omega
  rcases hq0 with rfl | rfl | rfl | rfl
  · rcases hs0 with rfl | rfl
    · exact modelForms_00 which x m r k w ht hr r3 hk k6 hm m0 m1 hq hs
    · exact modelForms_01 which x m r k w ht hr r3 hk k6 hm m0 m1 hq hs
  · exact modelForms_1 which x m r k w ht hr r3 hk k6 hm m0 m1 hq
  · rcases (by omega : r = 0 ∨ r = 1 ∨ r = 2) with rfl | rfl | rfl <;> rcases hs0 with rfl | rfl
    · exact modelForms_200 which x m k w ht hr hk k6 hm m0 m1 hq hs
    · exact modelForms_201 which x m k w ht hr hk k6 hm m0 m1 hq hs
    · exact modelForms_210 which x m k w ht hr hk k6 hm m0 m1 hq hs
    · exact modelForms_211 which x m k w ht hr hk k6 hm m0 m1 hq hs
    · exact modelForms_220 which x m k w ht hr hk k6 hm m0 m1 hq hs
    · exact modelForms_221 which x m k w ht hr hk k6 hm m0 m1 hq hs
  · rcases hs0 with rfl | rfl
    · exact modelForms_30 which x m r k w ht hr r3 hk k6 hm m0 m1 hq hs
    · exact modelForms_31 which x m r k w ht hr r3 hk k6 hm m0 m1 hq hs
end Go.Proofs.YtlabpfebdhbgiaaDoor
