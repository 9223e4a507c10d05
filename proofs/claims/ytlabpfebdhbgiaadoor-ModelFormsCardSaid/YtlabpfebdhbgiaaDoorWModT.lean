/- A model's chance, and a model that learns, in the document's own answer (chapter 9). -/
import Derived.Test.YtlabpfebdhbgiaaDoorWModS
import Derived.BigRegion
namespace Go.Proofs.YtlabpfebdhbgiaaDoor
open Go.RowKit
set_option linter.unusedVariables false
set_option linter.unusedSimpArgs false

theorem rdot_ok (a b c x y z : Int) (w : World) (h : mixOk a b c x y z = true) :
   Calls Tryd.prog 27 #[v3 a b c, v3 x y z] w fun e w' => e = .returned (.tuple #[.int .i64 (dot a b c x y z), .int .i64 0]) ∧ Below w.heap.size w w' := by
  refine (rdot_any a b c x y z w).mono fun e w' he => ?_
  rw [h] at he; exact he
set_option maxHeartbeats 2000000 in
theorem rmodel_p_no (M : List Int) (hM : M.length = 195) (x y z : Int) (w : World) (h : (mMay M && xOk x y z) = false) :
   Calls Tryd.prog 32 #[.agg (ints M).toArray, v3 x y z] w fun e w' => e = .returned (.tuple #[.int .i64 0, .int .i64 900]) ∧ Below w.heap.size w w' := by
  have HM := Lib.hid hM
  have HB := Lib.hid (MB.new w hM)
  clear hM
  unfold v3
  go_enter Tryd.func32, Tryd.ntmps32
  cases hm : mMay M
  · have HMM := Lib.hid hm
    clear hm h
    go_wp2_with (with_reducible refine wpList_load_mid rfl 48 (.tmp 2) rfl (w.heap.size) 0 ?_ (ints (M)) _ (MB.range (g := w.heap.size) (L := M) (by repeat (first | (with_reducible exact HB.out) | (with_reducible apply MB.alloc) | (with_reducible apply MB.drew) | (with_reducible apply MB.drewN)))) Tryd.underlying48 rfl (MB.info HB.out) ?_)
    all_goals first | (show _ = Value.pointer _; rfl) | skip
    refine (rmodel_may M HM.out _).mono ?_
    rw [HMM.out]
    rintro e w1 ⟨rfl, hb⟩
    have hq := Lib.hid (below_next (w := w) (by repeat (first | (with_reducible exact Below.refl _ _) | (with_reducible exact Hid.out (by with_reducible assumption)) | (with_reducible apply below_drewN) | (with_reducible apply below_drew) | (with_reducible apply below_alloc) | (refine below_set ?_ ?_ _; (focus (first | (simp; done) | (simp; omega)))))) hb)
    clear hb
    go_wp2
    go_ret2
    exact ⟨rfl, hq.out⟩
  · have hx : xOk x y z = false := by simpa [hm] using h
    have HMM := Lib.hid hm
    have HX := Lib.hid hx
    clear hm h hx
    go_wp2_with (with_reducible refine wpList_load_mid rfl 48 (.tmp 2) rfl (w.heap.size) 0 ?_ (ints (M)) _ (MB.range (g := w.heap.size) (L := M) (by repeat (first | (with_reducible exact HB.out) | (with_reducible apply MB.alloc) | (with_reducible apply MB.drew) | (with_reducible apply MB.drewN)))) Tryd.underlying48 rfl (MB.info HB.out) ?_)
    all_goals first | (show _ = Value.pointer _; rfl) | skip
    refine (rmodel_may M HM.out _).mono ?_
    rw [HMM.out]
    rintro e w1 ⟨rfl, hb⟩
    have hq := Lib.hid (below_next (w := w) (by repeat (first | (with_reducible exact Below.refl _ _) | (with_reducible exact Hid.out (by with_reducible assumption)) | (with_reducible apply below_drewN) | (with_reducible apply below_drew) | (with_reducible apply below_alloc) | (refine below_set ?_ ?_ _; (focus (first | (simp; done) | (simp; omega)))))) hb)
    obtain ⟨ep, eq, er, fp, fq, fr, lp⟩ := own3 hb (b := w.heap.size + 1) (x := .int .i64 (x)) (y := .int .i64 (y)) (z := .int .i64 (z)) (by go_simp) (by go_simp) (by go_simp) (by go_simp) (by go_simp) (by go_simp)
    clear hb
    go_wp2_with fail
    refine (rctx_may x y z _).mono ?_
    rw [HX.out]
    rintro e w2 ⟨rfl, hb⟩
    have hq2 := Lib.hid (below_next hq.out hb)
    clear hb
    go_wp2
    go_ret2
    exact ⟨rfl, hq2.out⟩
set_option maxHeartbeats 2000000 in
theorem rmodel_p_yes (M : List Int) (hM : M.length = 195) (x y z : Nat) (w : World) (hm : mMay M = true) (hx : x < 64) (hy : y < 64) (hz : z < 64) :
   Calls Tryd.prog 32 #[.agg (ints M).toArray, v3 x y z] w fun e w' => e = .returned (.tuple #[.int .i64 (dot (M.getD 192 0) (M.getD 193 0) (M.getD 194 0) (mi M x) (mi M (64 + y)) (mi M (128 + z))), .int .i64 0]) ∧ Below w.heap.size w w' := by
  have HM := Lib.hid hM
  have HB := Lib.hid (MB.new w hM)
  have HX := Lib.hid (show xOk x y z = true from xOk_iff.2 (by omega))
  have HMM := Lib.hid hm
  have HMX := Lib.hid (model_mix hM hm x (64 + y) (128 + z))
  have HG := Lib.hid (mMay_good hM hm)
  obtain ⟨A, hA⟩ : ∃ A, mi M x = A := ⟨_, rfl⟩
  obtain ⟨B, hB⟩ : ∃ A, mi M (64 + y) = A := ⟨_, rfl⟩
  obtain ⟨C, hC⟩ : ∃ A, mi M (128 + z) = A := ⟨_, rfl⟩
  obtain ⟨a, ha⟩ : ∃ A, M.getD 192 0 = A := ⟨_, rfl⟩
  obtain ⟨b, hb'⟩ : ∃ A, M.getD 193 0 = A := ⟨_, rfl⟩
  obtain ⟨c, hc⟩ : ∃ A, M.getD 194 0 = A := ⟨_, rfl⟩
  rw [hA, hB, hC, ha, hb', hc] at HMX ⊢
  have HABC := Lib.hid (show v3 (mi M x) (mi M (64 + y)) (mi M (128 + z)) = v3 A B C by rw [hA, hB, hC])
  have Ha := Lib.hid ha
  have Hb := Lib.hid hb'
  have Hc := Lib.hid hc
  clear hM hm hA hB hC ha hb' hc
  unfold v3
  go_enter Tryd.func32, Tryd.ntmps32
  go_wp2_with (with_reducible refine wpList_load_mid rfl 48 (.tmp 2) rfl (w.heap.size) 0 ?_ (ints (M)) _ (MB.range (g := w.heap.size) (L := M) (by repeat (first | (with_reducible exact HB.out) | (with_reducible apply MB.alloc) | (with_reducible apply MB.drew) | (with_reducible apply MB.drewN)))) Tryd.underlying48 rfl (MB.info HB.out) ?_)
  all_goals first | (show _ = Value.pointer _; rfl) | skip
  refine (rmodel_may M HM.out _).mono ?_
  rw [HMM.out]
  rintro e w1 ⟨rfl, hb⟩
  have hq1 := Lib.hid (below_next (w := w) (by repeat (first | (with_reducible exact Below.refl _ _) | (with_reducible exact Hid.out (by with_reducible assumption)) | (with_reducible apply below_drewN) | (with_reducible apply below_drew) | (with_reducible apply below_alloc) | (refine below_set ?_ ?_ _; (focus (first | (simp; done) | (simp; omega)))))) hb)
  have HB1 := Lib.hid ((HB.out.alloc (.cells #[.int .i64 (x : Int), .int .i64 (y : Int), .int .i64 (z : Int)] 34)).below hb)
  obtain ⟨ep, eq, er, fp, fq, fr, lp⟩ := own3 hb (b := w.heap.size + 1) (x := .int .i64 (x)) (y := .int .i64 (y)) (z := .int .i64 (z)) (by go_simp) (by go_simp) (by go_simp) (by go_simp) (by go_simp) (by go_simp)
  clear hb
  go_wp2_with fail
  refine (rctx_may x y z _).mono ?_
  rw [HX.out]
  rintro e w2 ⟨rfl, hb⟩
  have hq := Lib.hid (below_next hq1.out hb)
  have HB2 := HB1.out.below hb
  have ep2 := cell_below hb ep
  have eq2 := cell_below hb eq
  have er2 := cell_below hb er
  have m0 := HB2.cell (o := 192) (by omega)
  have m1 := HB2.cell (o := 193) (by omega)
  have m2 := HB2.cell (o := 194) (by omega)
  rw [Ha.out] at m0
  rw [Hb.out] at m1
  rw [Hc.out] at m2
  clear hb ep eq er fp fq fr lp HB1 hq1
  go_wp2_with fail
  have LD := fun (w' : World) (h : MB w' w.heap.size M) => run_loadM w.heap.size w' M h
  go_region_held3 (fun w' => MB w' w.heap.size M ∧ w'.cell? ⟨w.heap.size, 192, none⟩ = some (.int .i64 a) ∧ w'.cell? ⟨w.heap.size, 193, none⟩ = some (.int .i64 b) ∧ w'.cell? ⟨w.heap.size, 194, none⟩ = some (.int .i64 c) ∧ w'.cell? ⟨w.heap.size + 1, 0, none⟩ = some (.int .i64 x) ∧ w'.cell? ⟨w.heap.size + 1, 1, none⟩ = some (.int .i64 y) ∧ w'.cell? ⟨w.heap.size + 1, 2, none⟩ = some (.int .i64 z))
    (first | exact ⟨HB2.drew, m0, m1, m2, ep2, eq2, er2⟩ | exact ⟨HB2.drew.below hb8, cell_below hb8 m0, cell_below hb8 m1, cell_below hb8 m2, cell_below hb8 ep2, cell_below hb8 eq2, cell_below hb8 er2⟩ | exact ⟨(HB2.drew.below hb8).below hb9, cell_below hb9 (cell_below hb8 m0), cell_below hb9 (cell_below hb8 m1), cell_below hb9 (cell_below hb8 m2), cell_below hb9 (cell_below hb8 ep2), cell_below hb9 (cell_below hb8 eq2), cell_below hb9 (cell_below hb8 er2)⟩)
    (first | (go_at_call 52; refine (rmodel_inputs x y z M _ HM.out HG.out hx hy hz).mono ?_; rw [HABC.out]; rintro e w8 ⟨rfl, hb8⟩)
           | (go_at_call 27; refine (rdot_ok a b c A B C _ HMX.out).mono ?_; rintro e w9 ⟨rfl, hb9⟩))
  have hfin := Lib.hid (below_next (below_next (below_drew hq.out) hb8) hb9)
  clear LD
  go_wp2
  go_ret2
  exact ⟨rfl, hfin.out⟩
theorem rmodel_p (M : List Int) (hM : M.length = 195) (x y z : Int) (w : World) :
   Calls Tryd.prog 32 #[.agg (ints M).toArray, v3 x y z] w fun e w' => e = .returned (num2 (mMay M && xOk x y z) (mdot M x y z) 900) ∧ Below w.heap.size w w' := by
  cases h : (mMay M && xOk x y z)
  · exact rmodel_p_no M hM x y z w h
  · rw [Bool.and_eq_true] at h
    obtain ⟨hm, hx⟩ := h
    obtain ⟨h1, h2, h3⟩ := xOk_iff.1 hx
    obtain ⟨x, rfl⟩ := Int.eq_ofNat_of_zero_le h1.1
    obtain ⟨y, rfl⟩ := Int.eq_ofNat_of_zero_le h2.1
    obtain ⟨z, rfl⟩ := Int.eq_ofNat_of_zero_le h3.1
    exact rmodel_p_yes M hM x y z w hm (by omega) (by omega) (by omega)
end Go.Proofs.YtlabpfebdhbgiaaDoor
