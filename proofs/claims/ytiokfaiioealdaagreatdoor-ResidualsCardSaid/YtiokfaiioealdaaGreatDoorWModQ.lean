/- A model's chance (chapter 9), in the program. -/
import Derived.Test.YtiokfaiioealdaaGreatDoorWModP
import Derived.Deep.RegionHeld3
namespace Go.Proofs.YtiokfaiioealdaaGreatDoor
open Go.RowKit Go.Proofs.YtiokfaiioealdaaGreatDoor.L
set_option linter.unusedVariables false
set_option linter.unusedSimpArgs false

def mdot (M : List Int) (x y z : Int) : Int := dot (M.getD 192 0) (M.getD 193 0) (M.getD 194 0) (mi M x.toNat) (mi M (64 + y.toNat)) (mi M (128 + z.toNat))
theorem model_mix {M : List Int} (hM : M.length = 195) (h : mMay M = true) (a b c : Nat) : mixOk (M.getD 192 0) (M.getD 193 0) (M.getD 194 0) (mi M a) (mi M b) (mi M c) = true := by
  have h1 : in3 1048576 (M.getD 192 0) (M.getD 193 0) (M.getD 194 0) = true := by rw [← mMay_yes hM (mMay_good hM h)]; exact h
  have h2 := mi_range M a; have h3 := mi_range M b; have h4 := mi_range M c
  exact mixOk_iff.2 ⟨in3_iff.1 h1, by omega⟩
theorem dot_ok (a b c x y z : Int) (w : World) (ht : Tab w) (h : mixOk a b c x y z = true) :
   Calls Tryz.prog 187 #[v3 a b c, v3 x y z] w fun e w' => e = .returned (.tuple #[.int .i64 (dot a b c x y z), .int .i64 0]) ∧ Below w.heap.size w w' := by
  refine (dot_any a b c x y z w ht).mono fun e w' he => ?_
  rw [h] at he; exact he
set_option maxHeartbeats 2000000 in
theorem model_p_no (M : List Int) (hM : M.length = 195) (x y z : Int) (w : World) (ht : Tab w) (h : (mMay M && xOk x y z) = false) :
   Calls Tryz.prog 159 #[.agg (ints M).toArray, v3 x y z] w fun e w' => e = .returned (.tuple #[.int .i64 0, .int .i64 900]) ∧ Below w.heap.size w w' := by
  have HM := Lib.hid hM
  have hsz : (Tryz.prog.info? 63).map (·.size) = some (ints M).length := by rw [ints_length, hM]; exact info_model
  have HSZ := Lib.hid hsz
  clear hM hsz
  unfold v3
  go_enter Tryz.func159, Tryz.ntmps159
  cases hm : mMay M
  · have HMM := Lib.hid hm
    clear hm h
    go_wp2_with (with_reducible refine wpList_load_mid rfl 63 (.tmp 2) rfl w.heap.size 0 ?_ (ints M) _ (range_blw (range_new w M 63) (below_alloc (Below.refl _ _) _) (by simp)) Tryz.underlying63 rfl HSZ.out ?_)
    all_goals first | (show _ = Value.pointer _; rfl) | skip
    refine (model_may M HM.out _).mono ?_
    rw [HMM.out]
    rintro e w1 ⟨rfl, hb⟩
    have hq := Lib.hid (below_next (w := w) (by repeat (first | (with_reducible exact Below.refl _ _) | (with_reducible exact Hid.out (by with_reducible assumption)) | (with_reducible apply below_drewN) | (with_reducible apply below_drew) | (with_reducible apply below_alloc) | (refine below_set ?_ ?_ _; (focus (first | (simp; done) | (simp; omega)))))) hb)
    clear hb
    go_wp2
    go_ret2
    exact ⟨rfl, hq.out⟩
  · have hx : xOk x y z = false := by simpa [hm] using h
    have HMM := Lib.hid hm
    have HX := Lib.hid hx
    clear hm h hx
    go_wp2_with (with_reducible refine wpList_load_mid rfl 63 (.tmp 2) rfl w.heap.size 0 ?_ (ints M) _ (range_blw (range_new w M 63) (below_alloc (Below.refl _ _) _) (by simp)) Tryz.underlying63 rfl HSZ.out ?_)
    all_goals first | (show _ = Value.pointer _; rfl) | skip
    refine (model_may M HM.out _).mono ?_
    rw [HMM.out]
    rintro e w1 ⟨rfl, hb⟩
    have hq := Lib.hid (below_next (w := w) (by repeat (first | (with_reducible exact Below.refl _ _) | (with_reducible exact Hid.out (by with_reducible assumption)) | (with_reducible apply below_drewN) | (with_reducible apply below_drew) | (with_reducible apply below_alloc) | (refine below_set ?_ ?_ _; (focus (first | (simp; done) | (simp; omega)))))) hb)
    obtain ⟨ep, eq, er, fp, fq, fr, lp⟩ := own3 hb (b := w.heap.size + 1) (x := .int .i64 (x)) (y := .int .i64 (y)) (z := .int .i64 (z)) (by go_simp) (by go_simp) (by go_simp) (by go_simp) (by go_simp) (by go_simp)
    clear hb
    go_wp2_with (go_at_call 186; refine (there_any _ 0 x y z _ ep eq er).mono ?_; rw [HX.out]; rintro e w2 ⟨rfl, rfl⟩)
    go_ret2
    exact ⟨rfl, hq.out⟩
set_option maxHeartbeats 2000000 in
theorem model_p_yes (M : List Int) (hM : M.length = 195) (x y z : Nat) (w : World) (ht : Tab w) (hm : mMay M = true) (hx : x < 64) (hy : y < 64) (hz : z < 64) :
   Calls Tryz.prog 159 #[.agg (ints M).toArray, v3 x y z] w fun e w' => e = .returned (.tuple #[.int .i64 (dot (M.getD 192 0) (M.getD 193 0) (M.getD 194 0) (mi M x) (mi M (64 + y)) (mi M (128 + z))), .int .i64 0]) ∧ Below w.heap.size w w' := by
  have HM := Lib.hid hM
  have hsz : (Tryz.prog.info? 63).map (·.size) = some (ints M).length := by rw [ints_length, hM]; exact info_model
  have HSZ := Lib.hid hsz
  have HX := Lib.hid (show xOk x y z = true from xOk_iff.2 (by omega))
  have HMM := Lib.hid hm
  have HMX := Lib.hid (model_mix hM hm x (64 + y) (128 + z))
  have HG := Lib.hid (mMay_good hM hm)
  obtain ⟨A, hA⟩ : ∃ A, mi M x = A := ⟨_, rfl⟩
  obtain ⟨B, hB⟩ : ∃ A, mi M (64 + y) = A := ⟨_, rfl⟩
  obtain ⟨C, hC⟩ : ∃ A, mi M (128 + z) = A := ⟨_, rfl⟩
  obtain ⟨a, ha⟩ : ∃ A, M.getD 192 0 = A := ⟨_, rfl⟩
  obtain ⟨b, hb'⟩ : ∃ A, M.getD 193 0 = A := ⟨_, rfl⟩
  obtain ⟨c, hc⟩ : ∃ A, M.getD 194 0 = A := ⟨_, rfl⟩
  rw [hA, hB, hC, ha, hb', hc] at HMX ⊢
  have HABC := Lib.hid (show v3 (mi M x) (mi M (64 + y)) (mi M (128 + z)) = v3 A B C by rw [hA, hB, hC])
  have Ha := Lib.hid ha
  have Hb := Lib.hid hb'
  have Hc := Lib.hid hc
  clear hM hsz hm hA hB hC ha hb' hc
  unfold v3
  go_enter Tryz.func159, Tryz.ntmps159
  go_wp2_with (with_reducible refine wpList_load_mid rfl 63 (.tmp 2) rfl w.heap.size 0 ?_ (ints M) _ (range_blw (range_new w M 63) (below_alloc (Below.refl _ _) _) (by simp)) Tryz.underlying63 rfl HSZ.out ?_)
  all_goals first | (show _ = Value.pointer _; rfl) | skip
  refine (model_may M HM.out _).mono ?_
  rw [HMM.out]
  rintro e w1 ⟨rfl, hb⟩
  have hq := Lib.hid (below_next (w := w) (by repeat (first | (with_reducible exact Below.refl _ _) | (with_reducible exact Hid.out (by with_reducible assumption)) | (with_reducible apply below_drewN) | (with_reducible apply below_drew) | (with_reducible apply below_alloc) | (refine below_set ?_ ?_ _; (focus (first | (simp; done) | (simp; omega)))))) hb)
  have HR1 := Lib.hid (range_below (range_below (range_new w M 63) (below_alloc (Below.refl _ _) (.cells #[.int .i64 (x : Int), .int .i64 (y : Int), .int .i64 (z : Int)] 61))) hb)
  obtain ⟨ep, eq, er, fp, fq, fr, lp⟩ := own3 hb (b := w.heap.size + 1) (x := .int .i64 (x)) (y := .int .i64 (y)) (z := .int .i64 (z)) (by go_simp) (by go_simp) (by go_simp) (by go_simp) (by go_simp) (by go_simp)
  have m0 := range_cell HR1.out (i := 192) (by rw [HM.out]; omega)
  have m1 := range_cell HR1.out (i := 193) (by rw [HM.out]; omega)
  have m2 := range_cell HR1.out (i := 194) (by rw [HM.out]; omega)
  rw [Ha.out] at m0
  rw [Hb.out] at m1
  rw [Hc.out] at m2
  have htw := ht.below hq.out
  clear hb
  go_wp2_with (go_at_call 186; refine (there_any _ 0 x y z _ ep eq er).mono ?_; rw [HX.out]; rintro e w2 ⟨rfl, rfl⟩)
  go_region_held3 (fun w' => w'.cell? ⟨w.heap.size, 192, none⟩ = some (.int .i64 a) ∧ w'.cell? ⟨w.heap.size, 193, none⟩ = some (.int .i64 b) ∧ w'.cell? ⟨w.heap.size, 194, none⟩ = some (.int .i64 c) ∧ w'.cell? ⟨w.heap.size + 1, 0, none⟩ = some (.int .i64 x) ∧ w'.cell? ⟨w.heap.size + 1, 1, none⟩ = some (.int .i64 y) ∧ w'.cell? ⟨w.heap.size + 1, 2, none⟩ = some (.int .i64 z))
    (first | go_keep | (refine ⟨?_, ?_, ?_, ?_, ?_, ?_⟩ <;> (first | go_keep | (refine cell_below hb9 ?_; go_keep) | (refine cell_below hb8 ?_; go_keep))))
    (first | (go_at_call 188; refine (model_inputs w.heap.size x y z M _ (by exact ⟨htw.out⟩) HM.out HG.out (by exact HR1.out) hx hy hz).mono ?_; rw [HABC.out]; rintro e w8 ⟨rfl, hb8⟩)
           | (go_at_call 187; refine (dot_ok a b c A B C _ (by first | exact htw.below hb8 | exact Tab.below (w := w1.drew) ⟨htw.out⟩ hb8) HMX.out).mono ?_; rintro e w9 ⟨rfl, hb9⟩))
  have hfin := Lib.hid (below_next (below_next (below_drew hq.out) hb8) hb9)
  go_wp2
  go_ret2
  exact ⟨rfl, hfin.out⟩
theorem model_p (M : List Int) (hM : M.length = 195) (x y z : Int) (w : World) (ht : Tab w) :
   Calls Tryz.prog 159 #[.agg (ints M).toArray, v3 x y z] w fun e w' => e = .returned (num2 (mMay M && xOk x y z) (mdot M x y z) 900) ∧ Below w.heap.size w w' := by
  cases h : (mMay M && xOk x y z)
  · exact model_p_no M hM x y z w ht h
  · rw [Bool.and_eq_true] at h
    obtain ⟨hm, hx⟩ := h
    obtain ⟨h1, h2, h3⟩ := xOk_iff.1 hx
    obtain ⟨x, rfl⟩ := Int.eq_ofNat_of_zero_le h1.1
    obtain ⟨y, rfl⟩ := Int.eq_ofNat_of_zero_le h2.1
    obtain ⟨z, rfl⟩ := Int.eq_ofNat_of_zero_le h3.1
    exact model_p_yes M hM x y z w ht hm (by omega) (by omega) (by omega)
end Go.Proofs.YtiokfaiioealdaaGreatDoor
