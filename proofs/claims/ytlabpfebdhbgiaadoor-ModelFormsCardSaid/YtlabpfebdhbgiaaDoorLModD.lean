/- The statements ModelLearns and ModelEven (chapter 9): what they come to when they are called. -/
import Derived.Test.YtlabpfebdhbgiaaDoorLModC
namespace Go.Proofs.YtlabpfebdhbgiaaDoor
open Go.RowKit
set_option linter.unusedVariables false
set_option linter.unusedSimpArgs false

theorem and63 (x : Int) : ∃ n : Nat, n < 64 ∧ bits BinOp.and IntKind.i64 x 63 = (n : Int) := by
  refine ⟨(x % 64).toNat, by omega, ?_⟩
  rw [i64_mask 6 63 (by omega) (by decide)]
  show x % 64 = _
  omega
theorem and1 (n : Nat) : bits BinOp.and IntKind.i64 (n : Int) 1 = evenBit n := by
  rw [i64_mask 1 1 (by omega) (by decide)]
  rfl
theorem oneBit_bit (n : Nat) : 0 ≤ oneBit n ∧ oneBit n ≤ 1 := by unfold oneBit; omega
theorem zeroBit_bit (n : Nat) : 0 ≤ zeroBit n ∧ zeroBit n ≤ 1 := by unfold zeroBit; omega
theorem evenBit_bit (n : Nat) : 0 ≤ evenBit n ∧ evenBit n ≤ 1 := by unfold evenBit; omega
theorem learn_it (f : Nat → Int) (hf : ∀ n, 0 ≤ f n ∧ f n ≤ 1) {x y z : Nat} (hx : x < 64) (hy : y < 64) (hz : z < 64) (n : Nat) (w : World) (ht : Tab w) :
   Calls Tryd.prog 33 #[.agg (ints (itM f x y z n)).toArray, v3 x y z, .int .i64 (f n)] w fun e w' => e = .returned (.tuple #[.agg (ints (itM f x y z (n + 1))).toArray, .int .i64 0]) ∧ Below w.heap.size w w' :=
  learn_yes _ (itM_length f x y z n) x y z (f n) w ht (itM_may f hf hx hy hz n) hx hy hz (hf n).1 (hf n).2
theorem p_it (f : Nat → Int) (hf : ∀ n, 0 ≤ f n ∧ f n ≤ 1) {x y z : Nat} (hx : x < 64) (hy : y < 64) (hz : z < 64) (n : Nat) (w : World) (ht : Tab w) :
   Calls Tryd.prog 31 #[.agg (ints (itM f x y z n)).toArray, v3 x y z] w fun e w' => e = .returned (.tuple #[.int .i64 (dot6 (it6 f n)), .int .i64 0]) ∧ Below w.heap.size w w' := by
  rw [← itM_dot f hx hy hz n]
  exact model_p_yes _ (itM_length f x y z n) x y z w ht (itM_may f hf hx hy hz n) hx hy hz
/-- A model under way in its block, the context in another. -/
structure IS (w W : World) (c g : Nat) (L : List Int) (x y z : Int) : Prop where
  hm : MB W g L
  hx : C3 W c x y z
  hb : Below w.heap.size w W
  ne : g ≠ c
  le : w.heap.size ≤ g
theorem IS.below {w W W1 : World} {c g : Nat} {L : List Int} {x y z : Int} (h : IS w W c g L x y z) (hb : Below W.heap.size W W1) : IS w W1 c g L x y z := ⟨h.hm.below hb, h.hx.below hb, below_next h.hb hb, h.ne, h.le⟩
theorem IS.alloc {w W : World} {c g : Nat} {L : List Int} {x y z : Int} (h : IS w W c g L x y z) (o : Obj) : IS w (W.alloc o) c g L x y z := h.below (below_alloc (Below.refl _ _) o)
theorem C3.beside {W : World} {b k : Nat} {x y z : Int} (h : C3 W b x y z) (hk : k ≠ b) (vs : List Value) : C3 (W.setCells k 0 vs) b x y z := by
  have e : (W.setCells k 0 vs).heap[b]? = W.heap[b]? := setCells_far _ _ _ _ _ hk
  have ec : ∀ o, (W.setCells k 0 vs).cell? ⟨b, o, none⟩ = W.cell? ⟨b, o, none⟩ := by intro o; unfold World.cell?; rw [e]
  have ef : ∀ o, (W.setCells k 0 vs).frozen? ⟨b, o, none⟩ = W.frozen? ⟨b, o, none⟩ := by intro o; unfold World.frozen?; rw [e]
  exact ⟨(ec 0).trans h.e0, (ec 1).trans h.e1, (ec 2).trans h.e2, (ef 0).trans h.f0, (ef 1).trans h.f1, (ef 2).trans h.f2⟩
theorem IS.over {w W : World} {c g : Nat} {L R : List Int} {x y z : Int} (h : IS w W c g L x y z) (hR : R.length = 195) : IS w (W.setCells g 0 (ints R)) c g R x y z := ⟨h.hm.over hR, h.hx.beside h.ne _, below_over h.hb h.le _, h.ne, h.le⟩

set_option maxRecDepth 100000 in
set_option maxHeartbeats 4000000 in
theorem modelLearns_one (x y z : Int)  (w : World) (ht : Tab w) : Calls Tryd.prog 18 #[v3 x y z, .bool true] w fun e w' => e = .returned (.bool true) ∧ Below w.heap.size w w' := by
  obtain ⟨X, hX, eX⟩ := and63 x
  obtain ⟨Y, hY, eY⟩ := and63 y
  obtain ⟨Z, hZ, eZ⟩ := and63 z

  have HF := Lib.hid (show ∀ n, 0 ≤ oneBit n ∧ oneBit n ≤ 1 from oneBit_bit)
  unfold v3
  go_enter Tryd.func18, Tryd.ntmps18
  go_wp2_with fail
  refine (awake9 _ (Tab.below (w := w) ht (by repeat (first | (with_reducible exact Below.refl _ _) | (with_reducible exact Hid.out (by with_reducible assumption)) | (with_reducible apply below_drewN) | (with_reducible apply below_drew) | (with_reducible apply below_alloc) | (refine below_set ?_ ?_ _; (focus (first | (simp; done) | (simp; omega)))))))).mono ?_
  rintro e w1 ⟨rfl, hb⟩
  have hq1 := Lib.hid (below_next (w := w) (by repeat (first | (with_reducible exact Below.refl _ _) | (with_reducible exact Hid.out (by with_reducible assumption)) | (with_reducible apply below_drewN) | (with_reducible apply below_drew) | (with_reducible apply below_alloc) | (refine below_set ?_ ?_ _; (focus (first | (simp; done) | (simp; omega)))))) hb)
  obtain ⟨ea, eb, ec, fa, fb, fc, la⟩ := own3 hb (b := w.heap.size) (x := .int .i64 (x)) (y := .int .i64 (y)) (z := .int .i64 (z)) (by go_simp) (by go_simp) (by go_simp) (by go_simp) (by go_simp) (by go_simp)
  clear hb
  go_wp2_with fail
  refine (model_new _).mono ?_
  rintro e w2 ⟨rfl, hb⟩
  have hq2 := Lib.hid (below_next (w := w) (below_alloc hq1.out _) hb)
  have HC2 := Lib.hid ((C3.new w1 X Y Z 34).below hb)
  have hs := hb.size
  simp only [World.size_alloc] at hs
  have HNL : Hid ((itM (oneBit) X Y Z 0).length = 195) := itM_length _ _ _ _ _
  have HS0 : Hid (IS w (w2.alloc (.cells (ints (itM (oneBit) X Y Z 0)).toArray 48)) w1.heap.size w2.heap.size (itM (oneBit) X Y Z 0) X Y Z) :=
    ⟨MB.new w2 HNL.out, HC2.out.alloc _, below_alloc hq2.out _, by omega, hq2.out.size⟩
  have hle := Lib.hid hq1.out.size
  rw [show newM = itM (oneBit) X Y Z 0 from rfl]
  clear hb ea eb ec fa fb fc la eX eY eZ HC2 hq2 hs
  go_wp2_with (with_reducible refine wpList_new_model (itM (oneBit) X Y Z 0) HNL.out (.tmp 6) (.tmp 25) rfl rfl rfl rfl ?_ ?_ ?_)
  all_goals first | (show _ = Value.pointer _; rfl) | (show _ = Value.agg _; rfl) | skip
  generalize w2.alloc _ = W0 at HS0 ⊢
  go_loopw [8] (fun v wr => ∃ i : Nat, v = .int .i64 i ∧ i ≤ 60 ∧ Hid (IS w wr w1.heap.size w2.heap.size (itM (oneBit) X Y Z i) X Y Z)) (fun v _ => (60 - intOf v).toNat)
  case atStart => exact ⟨0, rfl, by omega, HS0⟩
  case round =>
    obtain ⟨i, rfl, hi, HS⟩ := hrel
    obtain ⟨x0, x1, x2⟩ := HS.out.hx.cells3
    by_cases hlt : i < 60
    · have HL : Hid ((itM (oneBit) X Y Z (i + 1)).length = 195) := itM_length _ _ _ _ _

      go_wp2_with (with_reducible refine wpList_load_mid rfl 48 (.tmp 6) rfl w2.heap.size 0 ?_ (ints (itM (oneBit) X Y Z i)) _ HS.out.hm.range Tryd.underlying48 rfl HS.out.hm.info ?_)
      all_goals first | (show _ = Value.pointer _; rfl) | skip
      refine (learn_it (oneBit) HF.out hX hY hZ i _ (ht.below HS.out.hb)).mono ?_
      rintro e w3 ⟨rfl, hb⟩
      have HS3 := Lib.hid ((HS.out.below hb).alloc (.cells (ints (itM (oneBit) X Y Z (i + 1))).toArray 48))
      have HA3 := Lib.hid (MB.new w3 HL.out)
      have HS4 := Lib.hid (HS3.out.over HL.out)
      have HTH := Lib.hid (HS3.out.hm.there HL.out)
      clear hb x0 x1 x2 HS
      go_wp2_with (first
        | (go_at_call 22; refine (num_any _ _).mono ?_; rintro e w' ⟨rfl, rfl⟩)
        | (with_reducible refine wpList_new_model (itM (oneBit) X Y Z (i + 1)) HL.out (.tmp 9) (.tmp 36) rfl rfl rfl rfl ?_ ?_ ?_)
        | (with_reducible refine wpList_load_mid rfl 48 (.tmp 9) rfl w3.heap.size 0 ?_ (ints (itM (oneBit) X Y Z (i + 1))) _ HA3.out.range Tryd.underlying48 rfl HA3.out.info ?_)
        | (with_reducible refine wpList_store_mid rfl 48 (.tmp 6) (.tmp 41) rfl w2.heap.size 0 (ints (itM (oneBit) X Y Z (i + 1))).toArray ?_ ?_ HTH.out (info_M HL.out) (all_oneCell_toArray (ints_one _)) ?_))
      all_goals first | (show _ = Value.pointer _; rfl) | (show _ = Value.agg _; rfl) | skip
      go_roundw
      case rel => exact ⟨i + 1, by go_num, by omega, HS4⟩
      case measure => simp [intOf]; omega
    · obtain rfl : i = 60 := by omega
      have HP := Lib.hid learns_one
      go_wp2_with (with_reducible refine wpList_load_mid rfl 48 (.tmp 6) rfl w2.heap.size 0 ?_ (ints (itM (oneBit) X Y Z (60))) _ HS.out.hm.range Tryd.underlying48 rfl HS.out.hm.info ?_)
      all_goals first | (show _ = Value.pointer _; rfl) | skip
      refine (p_it (oneBit) HF.out hX hY hZ (60) _ (ht.below HS.out.hb)).mono ?_
      rintro e w4 ⟨rfl, hb⟩
      have HS5 := Lib.hid (HS.out.below hb)
      clear hb x0 x1 x2 HS
      generalize hD : dot6 (it6 oneBit 60) = D at HP ⊢
      clear hD
      have d1 : decide (3500 < D) = true := by have := HP.out; simpa using this
      go_wp2_with (go_at_call 22; refine (num_any _ _).mono ?_; rintro e w' ⟨rfl, rfl⟩)
      go_ret
      exact ⟨rfl, HS5.out.hb⟩

set_option maxRecDepth 100000 in
set_option maxHeartbeats 4000000 in
theorem modelLearns_zero (x y z : Int)  (w : World) (ht : Tab w) : Calls Tryd.prog 18 #[v3 x y z, .bool false] w fun e w' => e = .returned (.bool true) ∧ Below w.heap.size w w' := by
  obtain ⟨X, hX, eX⟩ := and63 x
  obtain ⟨Y, hY, eY⟩ := and63 y
  obtain ⟨Z, hZ, eZ⟩ := and63 z

  have HF := Lib.hid (show ∀ n, 0 ≤ zeroBit n ∧ zeroBit n ≤ 1 from zeroBit_bit)
  unfold v3
  go_enter Tryd.func18, Tryd.ntmps18
  go_wp2_with fail
  refine (awake9 _ (Tab.below (w := w) ht (by repeat (first | (with_reducible exact Below.refl _ _) | (with_reducible exact Hid.out (by with_reducible assumption)) | (with_reducible apply below_drewN) | (with_reducible apply below_drew) | (with_reducible apply below_alloc) | (refine below_set ?_ ?_ _; (focus (first | (simp; done) | (simp; omega)))))))).mono ?_
  rintro e w1 ⟨rfl, hb⟩
  have hq1 := Lib.hid (below_next (w := w) (by repeat (first | (with_reducible exact Below.refl _ _) | (with_reducible exact Hid.out (by with_reducible assumption)) | (with_reducible apply below_drewN) | (with_reducible apply below_drew) | (with_reducible apply below_alloc) | (refine below_set ?_ ?_ _; (focus (first | (simp; done) | (simp; omega)))))) hb)
  obtain ⟨ea, eb, ec, fa, fb, fc, la⟩ := own3 hb (b := w.heap.size) (x := .int .i64 (x)) (y := .int .i64 (y)) (z := .int .i64 (z)) (by go_simp) (by go_simp) (by go_simp) (by go_simp) (by go_simp) (by go_simp)
  clear hb
  go_wp2_with fail
  refine (model_new _).mono ?_
  rintro e w2 ⟨rfl, hb⟩
  have hq2 := Lib.hid (below_next (w := w) (below_alloc hq1.out _) hb)
  have HC2 := Lib.hid ((C3.new w1 X Y Z 34).below hb)
  have hs := hb.size
  simp only [World.size_alloc] at hs
  have HNL : Hid ((itM (zeroBit) X Y Z 0).length = 195) := itM_length _ _ _ _ _
  have HS0 : Hid (IS w (w2.alloc (.cells (ints (itM (zeroBit) X Y Z 0)).toArray 48)) w1.heap.size w2.heap.size (itM (zeroBit) X Y Z 0) X Y Z) :=
    ⟨MB.new w2 HNL.out, HC2.out.alloc _, below_alloc hq2.out _, by omega, hq2.out.size⟩
  have hle := Lib.hid hq1.out.size
  rw [show newM = itM (zeroBit) X Y Z 0 from rfl]
  clear hb ea eb ec fa fb fc la eX eY eZ HC2 hq2 hs
  go_wp2_with (with_reducible refine wpList_new_model (itM (zeroBit) X Y Z 0) HNL.out (.tmp 6) (.tmp 25) rfl rfl rfl rfl ?_ ?_ ?_)
  all_goals first | (show _ = Value.pointer _; rfl) | (show _ = Value.agg _; rfl) | skip
  generalize w2.alloc _ = W0 at HS0 ⊢
  go_loopw [8] (fun v wr => ∃ i : Nat, v = .int .i64 i ∧ i ≤ 60 ∧ Hid (IS w wr w1.heap.size w2.heap.size (itM (zeroBit) X Y Z i) X Y Z)) (fun v _ => (60 - intOf v).toNat)
  case atStart => exact ⟨0, rfl, by omega, HS0⟩
  case round =>
    obtain ⟨i, rfl, hi, HS⟩ := hrel
    obtain ⟨x0, x1, x2⟩ := HS.out.hx.cells3
    by_cases hlt : i < 60
    · have HL : Hid ((itM (zeroBit) X Y Z (i + 1)).length = 195) := itM_length _ _ _ _ _

      go_wp2_with (with_reducible refine wpList_load_mid rfl 48 (.tmp 6) rfl w2.heap.size 0 ?_ (ints (itM (zeroBit) X Y Z i)) _ HS.out.hm.range Tryd.underlying48 rfl HS.out.hm.info ?_)
      all_goals first | (show _ = Value.pointer _; rfl) | skip
      refine (learn_it (zeroBit) HF.out hX hY hZ i _ (ht.below HS.out.hb)).mono ?_
      rintro e w3 ⟨rfl, hb⟩
      have HS3 := Lib.hid ((HS.out.below hb).alloc (.cells (ints (itM (zeroBit) X Y Z (i + 1))).toArray 48))
      have HA3 := Lib.hid (MB.new w3 HL.out)
      have HS4 := Lib.hid (HS3.out.over HL.out)
      have HTH := Lib.hid (HS3.out.hm.there HL.out)
      clear hb x0 x1 x2 HS
      go_wp2_with (first
        | (go_at_call 22; refine (num_any _ _).mono ?_; rintro e w' ⟨rfl, rfl⟩)
        | (with_reducible refine wpList_new_model (itM (zeroBit) X Y Z (i + 1)) HL.out (.tmp 9) (.tmp 36) rfl rfl rfl rfl ?_ ?_ ?_)
        | (with_reducible refine wpList_load_mid rfl 48 (.tmp 9) rfl w3.heap.size 0 ?_ (ints (itM (zeroBit) X Y Z (i + 1))) _ HA3.out.range Tryd.underlying48 rfl HA3.out.info ?_)
        | (with_reducible refine wpList_store_mid rfl 48 (.tmp 6) (.tmp 41) rfl w2.heap.size 0 (ints (itM (zeroBit) X Y Z (i + 1))).toArray ?_ ?_ HTH.out (info_M HL.out) (all_oneCell_toArray (ints_one _)) ?_))
      all_goals first | (show _ = Value.pointer _; rfl) | (show _ = Value.agg _; rfl) | skip
      go_roundw
      case rel => exact ⟨i + 1, by go_num, by omega, HS4⟩
      case measure => simp [intOf]; omega
    · obtain rfl : i = 60 := by omega
      have HP := Lib.hid learns_zero
      go_wp2_with (with_reducible refine wpList_load_mid rfl 48 (.tmp 6) rfl w2.heap.size 0 ?_ (ints (itM (zeroBit) X Y Z (60))) _ HS.out.hm.range Tryd.underlying48 rfl HS.out.hm.info ?_)
      all_goals first | (show _ = Value.pointer _; rfl) | skip
      refine (p_it (zeroBit) HF.out hX hY hZ (60) _ (ht.below HS.out.hb)).mono ?_
      rintro e w4 ⟨rfl, hb⟩
      have HS5 := Lib.hid (HS.out.below hb)
      clear hb x0 x1 x2 HS
      generalize hD : dot6 (it6 zeroBit 60) = D at HP ⊢
      clear hD
      have d1 : decide (D < 600) = true := by have := HP.out; simpa using this
      go_wp2_with (go_at_call 22; refine (num_any _ _).mono ?_; rintro e w' ⟨rfl, rfl⟩)
      go_ret
      exact ⟨rfl, HS5.out.hb⟩

theorem modelLearns_walk (x y z : Int) (one : Bool) (w : World) (ht : Tab w) : Calls Tryd.prog 18 #[v3 x y z, .bool one] w fun e w' => e = .returned (.bool true) ∧ Below w.heap.size w w' := by
  cases one
  · exact modelLearns_zero x y z w ht
  · exact modelLearns_one x y z w ht
theorem zM_low : ∀ j, j < 192 → zM.getD j 0 = 0 := by decide +kernel
theorem neq_zero {L : List Int} (hL : L.length = 195) {X : Nat} (h : L.getD X 0 ≠ 0) (hX : X < 64) (w : World) : (binOp .neq 48 (.agg (ints L).toArray) (.agg Tryd.zeroCells48)).run Tryd.prog w = .ok (.bool true) w := by
  have hz : Tryd.zeroCells48 = (ints zM).toArray := by kernel_rfl
  have he := eql_model L zM hL zM_length w
  rw [run_eql_struct] at he
  rw [hz, run_neq_struct]
  have hne : (L == zM) = false := by
    rw [beq_eq_false_iff_ne]
    intro e
    rw [e, zM_low X (by omega)] at h
    exact h rfl
  rw [hne] at he
  cases hr : (Op.equalIn 10000 48 (.agg (ints L).toArray) (.agg (ints zM).toArray)).run Tryd.prog w with
  | ok b w' =>
    rw [hr] at he
    simp only [Result.andThen_ok, Result.ok.injEq, Value.bool.injEq] at he
    rw [he.1, he.2]; rfl
  | _ => rw [hr] at he; simp [Result.andThen] at he

set_option maxRecDepth 100000 in
set_option maxHeartbeats 4000000 in
theorem modelEven_walk (x y z : Int) (many : Int) (w : World) (ht : Tab w) : Calls Tryd.prog 19 #[v3 x y z, .int .i64 many] w fun e w' => e = .returned (.bool true) ∧ Below w.heap.size w w' := by
  obtain ⟨X, hX, eX⟩ := and63 x
  obtain ⟨Y, hY, eY⟩ := and63 y
  obtain ⟨Z, hZ, eZ⟩ := and63 z
  obtain ⟨K, hK, eK⟩ := and63 many
  have HK := Lib.hid eK
  clear eK
  have HF := Lib.hid (show ∀ n, 0 ≤ evenBit n ∧ evenBit n ≤ 1 from evenBit_bit)
  unfold v3
  go_enter Tryd.func19, Tryd.ntmps19
  go_wp2_with fail
  refine (awake9 _ (Tab.below (w := w) ht (by repeat (first | (with_reducible exact Below.refl _ _) | (with_reducible exact Hid.out (by with_reducible assumption)) | (with_reducible apply below_drewN) | (with_reducible apply below_drew) | (with_reducible apply below_alloc) | (refine below_set ?_ ?_ _; (focus (first | (simp; done) | (simp; omega)))))))).mono ?_
  rintro e w1 ⟨rfl, hb⟩
  have hq1 := Lib.hid (below_next (w := w) (by repeat (first | (with_reducible exact Below.refl _ _) | (with_reducible exact Hid.out (by with_reducible assumption)) | (with_reducible apply below_drewN) | (with_reducible apply below_drew) | (with_reducible apply below_alloc) | (refine below_set ?_ ?_ _; (focus (first | (simp; done) | (simp; omega)))))) hb)
  obtain ⟨ea, eb, ec, fa, fb, fc, la⟩ := own3 hb (b := w.heap.size) (x := .int .i64 (x)) (y := .int .i64 (y)) (z := .int .i64 (z)) (by go_simp) (by go_simp) (by go_simp) (by go_simp) (by go_simp) (by go_simp)
  clear hb
  go_wp2_with fail
  refine (model_new _).mono ?_
  rintro e w2 ⟨rfl, hb⟩
  have hq2 := Lib.hid (below_next (w := w) (below_alloc hq1.out _) hb)
  have HC2 := Lib.hid ((C3.new w1 X Y Z 34).below hb)
  have hs := hb.size
  simp only [World.size_alloc] at hs
  have HNL : Hid ((itM (evenBit) X Y Z 0).length = 195) := itM_length _ _ _ _ _
  have HS0 : Hid (IS w (w2.alloc (.cells (ints (itM (evenBit) X Y Z 0)).toArray 48)) w1.heap.size w2.heap.size (itM (evenBit) X Y Z 0) X Y Z) :=
    ⟨MB.new w2 HNL.out, HC2.out.alloc _, below_alloc hq2.out _, by omega, hq2.out.size⟩
  have hle := Lib.hid hq1.out.size
  rw [show newM = itM (evenBit) X Y Z 0 from rfl]
  clear hb ea eb ec fa fb fc la eX eY eZ HC2 hq2 hs
  go_wp2_with (with_reducible refine wpList_new_model (itM (evenBit) X Y Z 0) HNL.out (.tmp 6) (.tmp 24) rfl rfl rfl rfl ?_ ?_ ?_)
  all_goals first | (show _ = Value.pointer _; rfl) | (show _ = Value.agg _; rfl) | skip
  generalize w2.alloc _ = W0 at HS0 ⊢
  go_loopw [7] (fun v wr => ∃ i : Nat, v = .int .i64 i ∧ i ≤ (2 * K) ∧ Hid (IS w wr w1.heap.size w2.heap.size (itM (evenBit) X Y Z i) X Y Z)) (fun v _ => ((2 * K) - intOf v).toNat)
  case atStart => exact ⟨0, rfl, by omega, HS0⟩
  case round =>
    obtain ⟨i, rfl, hi, HS⟩ := hrel
    obtain ⟨x0, x1, x2⟩ := HS.out.hx.cells3
    by_cases hlt : i < (2 * K)
    · have HL : Hid ((itM (evenBit) X Y Z (i + 1)).length = 195) := itM_length _ _ _ _ _
      have eK := HK.out
      have e1 := and1 i
      have b1 := evenBit_bit i
      go_wp2_with (with_reducible refine wpList_load_mid rfl 48 (.tmp 6) rfl w2.heap.size 0 ?_ (ints (itM (evenBit) X Y Z i)) _ HS.out.hm.range Tryd.underlying48 rfl HS.out.hm.info ?_)
      all_goals first | (show _ = Value.pointer _; rfl) | skip
      refine (learn_it (evenBit) HF.out hX hY hZ i _ (ht.below HS.out.hb)).mono ?_
      rintro e w3 ⟨rfl, hb⟩
      have HS3 := Lib.hid ((HS.out.below hb).alloc (.cells (ints (itM (evenBit) X Y Z (i + 1))).toArray 48))
      have HA3 := Lib.hid (MB.new w3 HL.out)
      have HS4 := Lib.hid (HS3.out.over HL.out)
      have HTH := Lib.hid (HS3.out.hm.there HL.out)
      clear hb x0 x1 x2 HS
      go_wp2_with (first
        | (go_at_call 22; refine (num_any _ _).mono ?_; rintro e w' ⟨rfl, rfl⟩)
        | (with_reducible refine wpList_new_model (itM (evenBit) X Y Z (i + 1)) HL.out (.tmp 8) (.tmp 38) rfl rfl rfl rfl ?_ ?_ ?_)
        | (with_reducible refine wpList_load_mid rfl 48 (.tmp 8) rfl w3.heap.size 0 ?_ (ints (itM (evenBit) X Y Z (i + 1))) _ HA3.out.range Tryd.underlying48 rfl HA3.out.info ?_)
        | (with_reducible refine wpList_store_mid rfl 48 (.tmp 6) (.tmp 43) rfl w2.heap.size 0 (ints (itM (evenBit) X Y Z (i + 1))).toArray ?_ ?_ HTH.out (info_M HL.out) (all_oneCell_toArray (ints_one _)) ?_))
      all_goals first | (show _ = Value.pointer _; rfl) | (show _ = Value.agg _; rfl) | skip
      go_roundw
      case rel => exact ⟨i + 1, by go_num, by omega, HS4⟩
      case measure => simp [intOf]; omega
    · obtain rfl : i = (2 * K) := by omega
      have eK := HK.out
      have HP := Lib.hid (even_all K hK)
      have HPX := Lib.hid (show (itM (evenBit) X Y Z (2 * K)).getD X 0 = (it6 evenBit (2 * K)).1 by rw [← itM_six evenBit hX hY hZ]; rfl)
      go_wp2_with (with_reducible refine wpList_load_mid rfl 48 (.tmp 6) rfl w2.heap.size 0 ?_ (ints (itM (evenBit) X Y Z ((2 * K)))) _ HS.out.hm.range Tryd.underlying48 rfl HS.out.hm.info ?_)
      all_goals first | (show _ = Value.pointer _; rfl) | skip
      refine (p_it (evenBit) HF.out hX hY hZ ((2 * K)) _ (ht.below HS.out.hb)).mono ?_
      rintro e w4 ⟨rfl, hb⟩
      have HS5 := Lib.hid (HS.out.below hb)
      clear hb x0 x1 x2 HS
      have NE := fun w' => neq_zero (itM_length evenBit X Y Z (2 * K)) (by rw [HPX.out]; exact HP.out.2.2) (show X < 64 from hX) w'
      generalize hD : dot6 (it6 evenBit (2 * K)) = D at HP ⊢
      clear hD
      have d1 : decide (1024 < D) = true := by have := HP.out.1; simpa using this
      have d2 : decide (D < 3072) = true := by have := HP.out.2.1; simpa using this
      have LDM := run_loadM w2.heap.size w4 (itM (evenBit) X Y Z (2 * K)) HS5.out.hm
      go_wp2_with (go_at_call 22; refine (num_any _ _).mono ?_; rintro e w' ⟨rfl, rfl⟩)
      clear NE LDM
      go_ret
      exact ⟨rfl, HS5.out.hb⟩
end Go.Proofs.YtlabpfebdhbgiaaDoor
