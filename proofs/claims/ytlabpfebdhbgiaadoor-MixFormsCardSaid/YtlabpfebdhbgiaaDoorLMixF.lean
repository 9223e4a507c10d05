/- The statements on the mix of three (chapter 8), more: weights, inputs, bits that may not be. -/
import Derived.Test.YtlabpfebdhbgiaaDoorLMixB
namespace Go.Proofs.YtlabpfebdhbgiaaDoor
open Go.RowKit
set_option linter.unusedVariables false
set_option linter.unusedSimpArgs false

theorem mixNo {a b c x y z : Int} (h : a < -1048576 ∨ 1048576 < a ∨ b < -1048576 ∨ 1048576 < b ∨ c < -1048576 ∨ 1048576 < c ∨ x < -2047 ∨ 2047 < x ∨ y < -2047 ∨ 2047 < y ∨ z < -2047 ∨ 2047 < z) : mixOk a b c x y z = false := by
  cases e : mixOk a b c x y z
  · rfl
  · have := mixOk_iff.1 e; omega
theorem dot_no (a b c x y z : Int) (w : World) (ht : Tab w) (h : mixOk a b c x y z = false) :
   Calls Tryd.prog 26 #[v3 a b c, v3 x y z] w fun e w' => e = .returned (.tuple #[.int .i64 0, .int .i64 800]) ∧ Below w.heap.size w w' := by
  refine (dot_any a b c x y z w ht).mono fun e w' he => ?_
  rw [h, num2_no] at he; exact he
theorem train_not (a b c x y z bit : Int) (w : World) (ht : Tab w) (h : mixOk a b c x y z = false ∨ bit < 0 ∨ 1 < bit) :
   Calls Tryd.prog 28 #[v3 a b c, v3 x y z, .int .i64 bit] w fun e w' => e = .returned (.tuple #[.agg #[.int .i64 0, .int .i64 0, .int .i64 0], .int .i64 800]) ∧ Below w.heap.size w w' := by
  refine (train_any a b c x y z bit w ht).mono fun e w' he => ?_
  rw [show trOk a b c x y z bit = false by rcases h with h | h | h <;> simp [trOk, h] <;> omega, tr3_no] at he; exact he
set_option maxHeartbeats 2000000 in
theorem mixForms_100 (which x m : Int) (w : World) (ht : Tab w) (hr : (IntKind.u64.wrap which).tmod 3 = 0) (hm : bits .and .i64 x 1023 = m) (m0 : 0 ≤ m) (m1 : m < 1024) (h4 : (bits .and .i64 which 4 == 4) = true) (hs : bits .and .i64 (which / 8) 1 = 0) :
   Calls Tryd.prog 10 #[.int .i64 which, .int .i64 x] w fun e w' => e = .returned (.bool true) ∧ Below w.heap.size w w' := by
  go_enter Tryd.func10, Tryd.ntmps10
  go_wp2_with (first | (go_at_call 22; refine (num_any _ _).mono ?_; rintro e w1 ⟨rfl, rfl⟩))
  refine (awake8 _ (Tab.below (w := w) ht (by repeat (first | (with_reducible exact Below.refl _ _) | (with_reducible exact Hid.out (by with_reducible assumption)) | (with_reducible apply below_drewN) | (with_reducible apply below_drew) | (with_reducible apply below_alloc) | (refine below_set ?_ ?_ _; (focus (first | (simp; done) | (simp; omega)))))))).mono ?_
  rintro e w1 ⟨rfl, hb⟩
  have hq1 := Lib.hid (below_next (w := w) (by repeat (first | (with_reducible exact Below.refl _ _) | (with_reducible exact Hid.out (by with_reducible assumption)) | (with_reducible apply below_drewN) | (with_reducible apply below_drew) | (with_reducible apply below_alloc) | (refine below_set ?_ ?_ _; (focus (first | (simp; done) | (simp; omega)))))) hb)
  clear hb
  go_wp2_with (first | (go_at_call 22; refine (num_any _ _).mono ?_; rintro e w1 ⟨rfl, rfl⟩))
  refine (dot_no _ _ _ _ _ _ _ (Tab.below (w := w) ht (by repeat (first | (with_reducible exact Below.refl _ _) | (with_reducible exact Hid.out (by with_reducible assumption)) | (with_reducible apply below_drewN) | (with_reducible apply below_drew) | (with_reducible apply below_alloc) | (refine below_set ?_ ?_ _; (focus (first | (simp; done) | (simp; omega))))))) (mixNo (by omega))).mono ?_
  rintro e w2 ⟨rfl, hb⟩
  have hq2 := Lib.hid (below_next (w := w) (by repeat (first | (with_reducible exact Below.refl _ _) | (with_reducible exact Hid.out (by with_reducible assumption)) | (with_reducible apply below_drewN) | (with_reducible apply below_drew) | (with_reducible apply below_alloc) | (refine below_set ?_ ?_ _; (focus (first | (simp; done) | (simp; omega)))))) hb)
  obtain ⟨ea_2, eb_2, ec_2, fa_2, fb_2, fc_2, la_2⟩ := own3 hb (b := w1.heap.size) (x := .int .i64 (-1048576 - (1 + m))) (y := .int .i64 (2)) (z := .int .i64 (3)) (by go_simp) (by go_simp) (by go_simp) (by go_simp) (by go_simp) (by go_simp)
  obtain ⟨ex_2, ey_2, ez_2, fx_2, fy_2, fz_2, lx_2⟩ := own3 hb (b := w1.heap.size + 1) (x := .int .i64 (4)) (y := .int .i64 (5)) (z := .int .i64 (6)) (by go_simp) (by go_simp) (by go_simp) (by go_simp) (by go_simp) (by go_simp)
  clear hq1 hb
  go_wp2_with (first | (go_at_call 22; refine (num_any _ _).mono ?_; rintro e w1 ⟨rfl, rfl⟩))
  refine (train_not _ _ _ _ _ _ _ _ (Tab.below (w := w) ht (by repeat (first | (with_reducible exact Below.refl _ _) | (with_reducible exact Hid.out (by with_reducible assumption)) | (with_reducible apply below_drewN) | (with_reducible apply below_drew) | (with_reducible apply below_alloc) | (refine below_set ?_ ?_ _; (focus (first | (simp; done) | (simp; omega))))))) (.inl (mixNo (by omega)))).mono ?_
  rintro e w3 ⟨rfl, hb⟩
  have hq3 := Lib.hid (below_next (w := w) (by repeat (first | (with_reducible exact Below.refl _ _) | (with_reducible exact Hid.out (by with_reducible assumption)) | (with_reducible apply below_drewN) | (with_reducible apply below_drew) | (with_reducible apply below_alloc) | (refine below_set ?_ ?_ _; (focus (first | (simp; done) | (simp; omega)))))) hb)
  clear hq2 ea_2 eb_2 ec_2 fa_2 fb_2 fc_2 ex_2 ey_2 ez_2 fx_2 fy_2 fz_2 la_2 lx_2 hb
  go_wp2_with (first | (go_at_call 22; refine (num_any _ _).mono ?_; rintro e w1 ⟨rfl, rfl⟩))
  refine (train_not _ _ _ _ _ _ _ _ (Tab.below (w := w) ht (by repeat (first | (with_reducible exact Below.refl _ _) | (with_reducible exact Hid.out (by with_reducible assumption)) | (with_reducible apply below_drewN) | (with_reducible apply below_drew) | (with_reducible apply below_alloc) | (refine below_set ?_ ?_ _; (focus (first | (simp; done) | (simp; omega))))))) (.inr (by omega))).mono ?_
  rintro e w4 ⟨rfl, hb⟩
  have hq4 := Lib.hid (below_next (w := w) (by repeat (first | (with_reducible exact Below.refl _ _) | (with_reducible exact Hid.out (by with_reducible assumption)) | (with_reducible apply below_drewN) | (with_reducible apply below_drew) | (with_reducible apply below_alloc) | (refine below_set ?_ ?_ _; (focus (first | (simp; done) | (simp; omega)))))) hb)
  obtain ⟨ep_4, eq_4, er_4, fp_4, fq_4, fr_4, lp_4⟩ := own3 hb (b := w3.heap.size) (x := .int .i64 (0)) (y := .int .i64 (0)) (z := .int .i64 (0)) (by go_simp) (by go_simp) (by go_simp) (by go_simp) (by go_simp) (by go_simp)
  clear hq3 hb
  go_wp2_with (first | (go_at_call 22; refine (num_any _ _).mono ?_; rintro e w1 ⟨rfl, rfl⟩))
  go_ret
  exact ⟨rfl, (by repeat (first | (with_reducible exact Below.refl _ _) | (with_reducible exact Hid.out (by with_reducible assumption)) | (with_reducible apply below_drewN) | (with_reducible apply below_drew) | (with_reducible apply below_alloc) | (refine below_set ?_ ?_ _; (focus (first | (simp; done) | (simp; omega))))))⟩
set_option maxHeartbeats 2000000 in
theorem mixForms_101 (which x m : Int) (w : World) (ht : Tab w) (hr : (IntKind.u64.wrap which).tmod 3 = 0) (hm : bits .and .i64 x 1023 = m) (m0 : 0 ≤ m) (m1 : m < 1024) (h4 : (bits .and .i64 which 4 == 4) = true) (hs : bits .and .i64 (which / 8) 1 = 1) :
   Calls Tryd.prog 10 #[.int .i64 which, .int .i64 x] w fun e w' => e = .returned (.bool true) ∧ Below w.heap.size w w' := by
  go_enter Tryd.func10, Tryd.ntmps10
  go_wp2_with (first | (go_at_call 22; refine (num_any _ _).mono ?_; rintro e w1 ⟨rfl, rfl⟩))
  refine (awake8 _ (Tab.below (w := w) ht (by repeat (first | (with_reducible exact Below.refl _ _) | (with_reducible exact Hid.out (by with_reducible assumption)) | (with_reducible apply below_drewN) | (with_reducible apply below_drew) | (with_reducible apply below_alloc) | (refine below_set ?_ ?_ _; (focus (first | (simp; done) | (simp; omega)))))))).mono ?_
  rintro e w1 ⟨rfl, hb⟩
  have hq1 := Lib.hid (below_next (w := w) (by repeat (first | (with_reducible exact Below.refl _ _) | (with_reducible exact Hid.out (by with_reducible assumption)) | (with_reducible apply below_drewN) | (with_reducible apply below_drew) | (with_reducible apply below_alloc) | (refine below_set ?_ ?_ _; (focus (first | (simp; done) | (simp; omega)))))) hb)
  clear hb
  go_wp2_with (first | (go_at_call 22; refine (num_any _ _).mono ?_; rintro e w1 ⟨rfl, rfl⟩))
  refine (dot_no _ _ _ _ _ _ _ (Tab.below (w := w) ht (by repeat (first | (with_reducible exact Below.refl _ _) | (with_reducible exact Hid.out (by with_reducible assumption)) | (with_reducible apply below_drewN) | (with_reducible apply below_drew) | (with_reducible apply below_alloc) | (refine below_set ?_ ?_ _; (focus (first | (simp; done) | (simp; omega))))))) (mixNo (by omega))).mono ?_
  rintro e w2 ⟨rfl, hb⟩
  have hq2 := Lib.hid (below_next (w := w) (by repeat (first | (with_reducible exact Below.refl _ _) | (with_reducible exact Hid.out (by with_reducible assumption)) | (with_reducible apply below_drewN) | (with_reducible apply below_drew) | (with_reducible apply below_alloc) | (refine below_set ?_ ?_ _; (focus (first | (simp; done) | (simp; omega)))))) hb)
  obtain ⟨ea_2, eb_2, ec_2, fa_2, fb_2, fc_2, la_2⟩ := own3 hb (b := w1.heap.size) (x := .int .i64 (1048576 + (1 + m))) (y := .int .i64 (2)) (z := .int .i64 (3)) (by go_simp) (by go_simp) (by go_simp) (by go_simp) (by go_simp) (by go_simp)
  obtain ⟨ex_2, ey_2, ez_2, fx_2, fy_2, fz_2, lx_2⟩ := own3 hb (b := w1.heap.size + 1) (x := .int .i64 (4)) (y := .int .i64 (5)) (z := .int .i64 (6)) (by go_simp) (by go_simp) (by go_simp) (by go_simp) (by go_simp) (by go_simp)
  clear hq1 hb
  go_wp2_with (first | (go_at_call 22; refine (num_any _ _).mono ?_; rintro e w1 ⟨rfl, rfl⟩))
  refine (train_not _ _ _ _ _ _ _ _ (Tab.below (w := w) ht (by repeat (first | (with_reducible exact Below.refl _ _) | (with_reducible exact Hid.out (by with_reducible assumption)) | (with_reducible apply below_drewN) | (with_reducible apply below_drew) | (with_reducible apply below_alloc) | (refine below_set ?_ ?_ _; (focus (first | (simp; done) | (simp; omega))))))) (.inl (mixNo (by omega)))).mono ?_
  rintro e w3 ⟨rfl, hb⟩
  have hq3 := Lib.hid (below_next (w := w) (by repeat (first | (with_reducible exact Below.refl _ _) | (with_reducible exact Hid.out (by with_reducible assumption)) | (with_reducible apply below_drewN) | (with_reducible apply below_drew) | (with_reducible apply below_alloc) | (refine below_set ?_ ?_ _; (focus (first | (simp; done) | (simp; omega)))))) hb)
  clear hq2 ea_2 eb_2 ec_2 fa_2 fb_2 fc_2 ex_2 ey_2 ez_2 fx_2 fy_2 fz_2 la_2 lx_2 hb
  go_wp2_with (first | (go_at_call 22; refine (num_any _ _).mono ?_; rintro e w1 ⟨rfl, rfl⟩))
  refine (train_not _ _ _ _ _ _ _ _ (Tab.below (w := w) ht (by repeat (first | (with_reducible exact Below.refl _ _) | (with_reducible exact Hid.out (by with_reducible assumption)) | (with_reducible apply below_drewN) | (with_reducible apply below_drew) | (with_reducible apply below_alloc) | (refine below_set ?_ ?_ _; (focus (first | (simp; done) | (simp; omega))))))) (.inr (by omega))).mono ?_
  rintro e w4 ⟨rfl, hb⟩
  have hq4 := Lib.hid (below_next (w := w) (by repeat (first | (with_reducible exact Below.refl _ _) | (with_reducible exact Hid.out (by with_reducible assumption)) | (with_reducible apply below_drewN) | (with_reducible apply below_drew) | (with_reducible apply below_alloc) | (refine below_set ?_ ?_ _; (focus (first | (simp; done) | (simp; omega)))))) hb)
  obtain ⟨ep_4, eq_4, er_4, fp_4, fq_4, fr_4, lp_4⟩ := own3 hb (b := w3.heap.size) (x := .int .i64 (0)) (y := .int .i64 (0)) (z := .int .i64 (0)) (by go_simp) (by go_simp) (by go_simp) (by go_simp) (by go_simp) (by go_simp)
  clear hq3 hb
  go_wp2_with (first | (go_at_call 22; refine (num_any _ _).mono ?_; rintro e w1 ⟨rfl, rfl⟩))
  go_ret
  exact ⟨rfl, (by repeat (first | (with_reducible exact Below.refl _ _) | (with_reducible exact Hid.out (by with_reducible assumption)) | (with_reducible apply below_drewN) | (with_reducible apply below_drew) | (with_reducible apply below_alloc) | (refine below_set ?_ ?_ _; (focus (first | (simp; done) | (simp; omega))))))⟩
set_option maxHeartbeats 2000000 in
theorem mixForms_110 (which x m : Int) (w : World) (ht : Tab w) (hr : (IntKind.u64.wrap which).tmod 3 = 1) (hm : bits .and .i64 x 1023 = m) (m0 : 0 ≤ m) (m1 : m < 1024) (h4 : (bits .and .i64 which 4 == 4) = true) (hs : bits .and .i64 (which / 8) 1 = 0) :
   Calls Tryd.prog 10 #[.int .i64 which, .int .i64 x] w fun e w' => e = .returned (.bool true) ∧ Below w.heap.size w w' := by
  go_enter Tryd.func10, Tryd.ntmps10
  go_wp2_with (first | (go_at_call 22; refine (num_any _ _).mono ?_; rintro e w1 ⟨rfl, rfl⟩))
  refine (awake8 _ (Tab.below (w := w) ht (by repeat (first | (with_reducible exact Below.refl _ _) | (with_reducible exact Hid.out (by with_reducible assumption)) | (with_reducible apply below_drewN) | (with_reducible apply below_drew) | (with_reducible apply below_alloc) | (refine below_set ?_ ?_ _; (focus (first | (simp; done) | (simp; omega)))))))).mono ?_
  rintro e w1 ⟨rfl, hb⟩
  have hq1 := Lib.hid (below_next (w := w) (by repeat (first | (with_reducible exact Below.refl _ _) | (with_reducible exact Hid.out (by with_reducible assumption)) | (with_reducible apply below_drewN) | (with_reducible apply below_drew) | (with_reducible apply below_alloc) | (refine below_set ?_ ?_ _; (focus (first | (simp; done) | (simp; omega)))))) hb)
  clear hb
  go_wp2_with (first | (go_at_call 22; refine (num_any _ _).mono ?_; rintro e w1 ⟨rfl, rfl⟩))
  refine (dot_no _ _ _ _ _ _ _ (Tab.below (w := w) ht (by repeat (first | (with_reducible exact Below.refl _ _) | (with_reducible exact Hid.out (by with_reducible assumption)) | (with_reducible apply below_drewN) | (with_reducible apply below_drew) | (with_reducible apply below_alloc) | (refine below_set ?_ ?_ _; (focus (first | (simp; done) | (simp; omega))))))) (mixNo (by omega))).mono ?_
  rintro e w2 ⟨rfl, hb⟩
  have hq2 := Lib.hid (below_next (w := w) (by repeat (first | (with_reducible exact Below.refl _ _) | (with_reducible exact Hid.out (by with_reducible assumption)) | (with_reducible apply below_drewN) | (with_reducible apply below_drew) | (with_reducible apply below_alloc) | (refine below_set ?_ ?_ _; (focus (first | (simp; done) | (simp; omega)))))) hb)
  obtain ⟨ea_2, eb_2, ec_2, fa_2, fb_2, fc_2, la_2⟩ := own3 hb (b := w1.heap.size) (x := .int .i64 (1)) (y := .int .i64 (-1048576 - (1 + m))) (z := .int .i64 (3)) (by go_simp) (by go_simp) (by go_simp) (by go_simp) (by go_simp) (by go_simp)
  obtain ⟨ex_2, ey_2, ez_2, fx_2, fy_2, fz_2, lx_2⟩ := own3 hb (b := w1.heap.size + 1) (x := .int .i64 (4)) (y := .int .i64 (5)) (z := .int .i64 (6)) (by go_simp) (by go_simp) (by go_simp) (by go_simp) (by go_simp) (by go_simp)
  clear hq1 hb
  go_wp2_with (first | (go_at_call 22; refine (num_any _ _).mono ?_; rintro e w1 ⟨rfl, rfl⟩))
  refine (train_not _ _ _ _ _ _ _ _ (Tab.below (w := w) ht (by repeat (first | (with_reducible exact Below.refl _ _) | (with_reducible exact Hid.out (by with_reducible assumption)) | (with_reducible apply below_drewN) | (with_reducible apply below_drew) | (with_reducible apply below_alloc) | (refine below_set ?_ ?_ _; (focus (first | (simp; done) | (simp; omega))))))) (.inl (mixNo (by omega)))).mono ?_
  rintro e w3 ⟨rfl, hb⟩
  have hq3 := Lib.hid (below_next (w := w) (by repeat (first | (with_reducible exact Below.refl _ _) | (with_reducible exact Hid.out (by with_reducible assumption)) | (with_reducible apply below_drewN) | (with_reducible apply below_drew) | (with_reducible apply below_alloc) | (refine below_set ?_ ?_ _; (focus (first | (simp; done) | (simp; omega)))))) hb)
  clear hq2 ea_2 eb_2 ec_2 fa_2 fb_2 fc_2 ex_2 ey_2 ez_2 fx_2 fy_2 fz_2 la_2 lx_2 hb
  go_wp2_with (first | (go_at_call 22; refine (num_any _ _).mono ?_; rintro e w1 ⟨rfl, rfl⟩))
  refine (train_not _ _ _ _ _ _ _ _ (Tab.below (w := w) ht (by repeat (first | (with_reducible exact Below.refl _ _) | (with_reducible exact Hid.out (by with_reducible assumption)) | (with_reducible apply below_drewN) | (with_reducible apply below_drew) | (with_reducible apply below_alloc) | (refine below_set ?_ ?_ _; (focus (first | (simp; done) | (simp; omega))))))) (.inr (by omega))).mono ?_
  rintro e w4 ⟨rfl, hb⟩
  have hq4 := Lib.hid (below_next (w := w) (by repeat (first | (with_reducible exact Below.refl _ _) | (with_reducible exact Hid.out (by with_reducible assumption)) | (with_reducible apply below_drewN) | (with_reducible apply below_drew) | (with_reducible apply below_alloc) | (refine below_set ?_ ?_ _; (focus (first | (simp; done) | (simp; omega)))))) hb)
  obtain ⟨ep_4, eq_4, er_4, fp_4, fq_4, fr_4, lp_4⟩ := own3 hb (b := w3.heap.size) (x := .int .i64 (0)) (y := .int .i64 (0)) (z := .int .i64 (0)) (by go_simp) (by go_simp) (by go_simp) (by go_simp) (by go_simp) (by go_simp)
  clear hq3 hb
  go_wp2_with (first | (go_at_call 22; refine (num_any _ _).mono ?_; rintro e w1 ⟨rfl, rfl⟩))
  go_ret
  exact ⟨rfl, (by repeat (first | (with_reducible exact Below.refl _ _) | (with_reducible exact Hid.out (by with_reducible assumption)) | (with_reducible apply below_drewN) | (with_reducible apply below_drew) | (with_reducible apply below_alloc) | (refine below_set ?_ ?_ _; (focus (first | (simp; done) | (simp; omega))))))⟩
set_option maxHeartbeats 2000000 in
theorem mixForms_111 (which x m : Int) (w : World) (ht : Tab w) (hr : (IntKind.u64.wrap which).tmod 3 = 1) (hm : bits .and .i64 x 1023 = m) (m0 : 0 ≤ m) (m1 : m < 1024) (h4 : (bits .and .i64 which 4 == 4) = true) (hs : bits .and .i64 (which / 8) 1 = 1) :
   Calls Tryd.prog 10 #[.int .i64 which, .int .i64 x] w fun e w' => e = .returned (.bool true) ∧ Below w.heap.size w w' := by
  go_enter Tryd.func10, Tryd.ntmps10
  go_wp2_with (first | (go_at_call 22; refine (num_any _ _).mono ?_; rintro e w1 ⟨rfl, rfl⟩))
  refine (awake8 _ (Tab.below (w := w) ht (by repeat (first | (with_reducible exact Below.refl _ _) | (with_reducible exact Hid.out (by with_reducible assumption)) | (with_reducible apply below_drewN) | (with_reducible apply below_drew) | (with_reducible apply below_alloc) | (refine below_set ?_ ?_ _; (focus (first | (simp; done) | (simp; omega)))))))).mono ?_
  rintro e w1 ⟨rfl, hb⟩
  have hq1 := Lib.hid (below_next (w := w) (by repeat (first | (with_reducible exact Below.refl _ _) | (with_reducible exact Hid.out (by with_reducible assumption)) | (with_reducible apply below_drewN) | (with_reducible apply below_drew) | (with_reducible apply below_alloc) | (refine below_set ?_ ?_ _; (focus (first | (simp; done) | (simp; omega)))))) hb)
  clear hb
  go_wp2_with (first | (go_at_call 22; refine (num_any _ _).mono ?_; rintro e w1 ⟨rfl, rfl⟩))
  refine (dot_no _ _ _ _ _ _ _ (Tab.below (w := w) ht (by repeat (first | (with_reducible exact Below.refl _ _) | (with_reducible exact Hid.out (by with_reducible assumption)) | (with_reducible apply below_drewN) | (with_reducible apply below_drew) | (with_reducible apply below_alloc) | (refine below_set ?_ ?_ _; (focus (first | (simp; done) | (simp; omega))))))) (mixNo (by omega))).mono ?_
  rintro e w2 ⟨rfl, hb⟩
  have hq2 := Lib.hid (below_next (w := w) (by repeat (first | (with_reducible exact Below.refl _ _) | (with_reducible exact Hid.out (by with_reducible assumption)) | (with_reducible apply below_drewN) | (with_reducible apply below_drew) | (with_reducible apply below_alloc) | (refine below_set ?_ ?_ _; (focus (first | (simp; done) | (simp; omega)))))) hb)
  obtain ⟨ea_2, eb_2, ec_2, fa_2, fb_2, fc_2, la_2⟩ := own3 hb (b := w1.heap.size) (x := .int .i64 (1)) (y := .int .i64 (1048576 + (1 + m))) (z := .int .i64 (3)) (by go_simp) (by go_simp) (by go_simp) (by go_simp) (by go_simp) (by go_simp)
  obtain ⟨ex_2, ey_2, ez_2, fx_2, fy_2, fz_2, lx_2⟩ := own3 hb (b := w1.heap.size + 1) (x := .int .i64 (4)) (y := .int .i64 (5)) (z := .int .i64 (6)) (by go_simp) (by go_simp) (by go_simp) (by go_simp) (by go_simp) (by go_simp)
  clear hq1 hb
  go_wp2_with (first | (go_at_call 22; refine (num_any _ _).mono ?_; rintro e w1 ⟨rfl, rfl⟩))
  refine (train_not _ _ _ _ _ _ _ _ (Tab.below (w := w) ht (by repeat (first | (with_reducible exact Below.refl _ _) | (with_reducible exact Hid.out (by with_reducible assumption)) | (with_reducible apply below_drewN) | (with_reducible apply below_drew) | (with_reducible apply below_alloc) | (refine below_set ?_ ?_ _; (focus (first | (simp; done) | (simp; omega))))))) (.inl (mixNo (by omega)))).mono ?_
  rintro e w3 ⟨rfl, hb⟩
  have hq3 := Lib.hid (below_next (w := w) (by repeat (first | (with_reducible exact Below.refl _ _) | (with_reducible exact Hid.out (by with_reducible assumption)) | (with_reducible apply below_drewN) | (with_reducible apply below_drew) | (with_reducible apply below_alloc) | (refine below_set ?_ ?_ _; (focus (first | (simp; done) | (simp; omega)))))) hb)
  clear hq2 ea_2 eb_2 ec_2 fa_2 fb_2 fc_2 ex_2 ey_2 ez_2 fx_2 fy_2 fz_2 la_2 lx_2 hb
  go_wp2_with (first | (go_at_call 22; refine (num_any _ _).mono ?_; rintro e w1 ⟨rfl, rfl⟩))
  refine (train_not _ _ _ _ _ _ _ _ (Tab.below (w := w) ht (by repeat (first | (with_reducible exact Below.refl _ _) | (with_reducible exact Hid.out (by with_reducible assumption)) | (with_reducible apply below_drewN) | (with_reducible apply below_drew) | (with_reducible apply below_alloc) | (refine below_set ?_ ?_ _; (focus (first | (simp; done) | (simp; omega))))))) (.inr (by omega))).mono ?_
  rintro e w4 ⟨rfl, hb⟩
  have hq4 := Lib.hid (below_next (w := w) (by repeat (first | (with_reducible exact Below.refl _ _) | (with_reducible exact Hid.out (by with_reducible assumption)) | (with_reducible apply below_drewN) | (with_reducible apply below_drew) | (with_reducible apply below_alloc) | (refine below_set ?_ ?_ _; (focus (first | (simp; done) | (simp; omega)))))) hb)
  obtain ⟨ep_4, eq_4, er_4, fp_4, fq_4, fr_4, lp_4⟩ := own3 hb (b := w3.heap.size) (x := .int .i64 (0)) (y := .int .i64 (0)) (z := .int .i64 (0)) (by go_simp) (by go_simp) (by go_simp) (by go_simp) (by go_simp) (by go_simp)
  clear hq3 hb
  go_wp2_with (first | (go_at_call 22; refine (num_any _ _).mono ?_; rintro e w1 ⟨rfl, rfl⟩))
  go_ret
  exact ⟨rfl, (by repeat (first | (with_reducible exact Below.refl _ _) | (with_reducible exact Hid.out (by with_reducible assumption)) | (with_reducible apply below_drewN) | (with_reducible apply below_drew) | (with_reducible apply below_alloc) | (refine below_set ?_ ?_ _; (focus (first | (simp; done) | (simp; omega))))))⟩
set_option maxHeartbeats 2000000 in
theorem mixForms_120 (which x m : Int) (w : World) (ht : Tab w) (hr : (IntKind.u64.wrap which).tmod 3 = 2) (hm : bits .and .i64 x 1023 = m) (m0 : 0 ≤ m) (m1 : m < 1024) (h4 : (bits .and .i64 which 4 == 4) = true) (hs : bits .and .i64 (which / 8) 1 = 0) :
   Calls Tryd.prog 10 #[.int .i64 which, .int .i64 x] w fun e w' => e = .returned (.bool true) ∧ Below w.heap.size w w' := by
  go_enter Tryd.func10, Tryd.ntmps10
  go_wp2_with (first | (go_at_call 22; refine (num_any _ _).mono ?_; rintro e w1 ⟨rfl, rfl⟩))
  refine (awake8 _ (Tab.below (w := w) ht (by repeat (first | (with_reducible exact Below.refl _ _) | (with_reducible exact Hid.out (by with_reducible assumption)) | (with_reducible apply below_drewN) | (with_reducible apply below_drew) | (with_reducible apply below_alloc) | (refine below_set ?_ ?_ _; (focus (first | (simp; done) | (simp; omega)))))))).mono ?_
  rintro e w1 ⟨rfl, hb⟩
  have hq1 := Lib.hid (below_next (w := w) (by repeat (first | (with_reducible exact Below.refl _ _) | (with_reducible exact Hid.out (by with_reducible assumption)) | (with_reducible apply below_drewN) | (with_reducible apply below_drew) | (with_reducible apply below_alloc) | (refine below_set ?_ ?_ _; (focus (first | (simp; done) | (simp; omega)))))) hb)
  clear hb
  go_wp2_with (first | (go_at_call 22; refine (num_any _ _).mono ?_; rintro e w1 ⟨rfl, rfl⟩))
  refine (dot_no _ _ _ _ _ _ _ (Tab.below (w := w) ht (by repeat (first | (with_reducible exact Below.refl _ _) | (with_reducible exact Hid.out (by with_reducible assumption)) | (with_reducible apply below_drewN) | (with_reducible apply below_drew) | (with_reducible apply below_alloc) | (refine below_set ?_ ?_ _; (focus (first | (simp; done) | (simp; omega))))))) (mixNo (by omega))).mono ?_
  rintro e w2 ⟨rfl, hb⟩
  have hq2 := Lib.hid (below_next (w := w) (by repeat (first | (with_reducible exact Below.refl _ _) | (with_reducible exact Hid.out (by with_reducible assumption)) | (with_reducible apply below_drewN) | (with_reducible apply below_drew) | (with_reducible apply below_alloc) | (refine below_set ?_ ?_ _; (focus (first | (simp; done) | (simp; omega)))))) hb)
  obtain ⟨ea_2, eb_2, ec_2, fa_2, fb_2, fc_2, la_2⟩ := own3 hb (b := w1.heap.size) (x := .int .i64 (1)) (y := .int .i64 (2)) (z := .int .i64 (-1048576 - (1 + m))) (by go_simp) (by go_simp) (by go_simp) (by go_simp) (by go_simp) (by go_simp)
  obtain ⟨ex_2, ey_2, ez_2, fx_2, fy_2, fz_2, lx_2⟩ := own3 hb (b := w1.heap.size + 1) (x := .int .i64 (4)) (y := .int .i64 (5)) (z := .int .i64 (6)) (by go_simp) (by go_simp) (by go_simp) (by go_simp) (by go_simp) (by go_simp)
  clear hq1 hb
  go_wp2_with (first | (go_at_call 22; refine (num_any _ _).mono ?_; rintro e w1 ⟨rfl, rfl⟩))
  refine (train_not _ _ _ _ _ _ _ _ (Tab.below (w := w) ht (by repeat (first | (with_reducible exact Below.refl _ _) | (with_reducible exact Hid.out (by with_reducible assumption)) | (with_reducible apply below_drewN) | (with_reducible apply below_drew) | (with_reducible apply below_alloc) | (refine below_set ?_ ?_ _; (focus (first | (simp; done) | (simp; omega))))))) (.inl (mixNo (by omega)))).mono ?_
  rintro e w3 ⟨rfl, hb⟩
  have hq3 := Lib.hid (below_next (w := w) (by repeat (first | (with_reducible exact Below.refl _ _) | (with_reducible exact Hid.out (by with_reducible assumption)) | (with_reducible apply below_drewN) | (with_reducible apply below_drew) | (with_reducible apply below_alloc) | (refine below_set ?_ ?_ _; (focus (first | (simp; done) | (simp; omega)))))) hb)
  clear hq2 ea_2 eb_2 ec_2 fa_2 fb_2 fc_2 ex_2 ey_2 ez_2 fx_2 fy_2 fz_2 la_2 lx_2 hb
  go_wp2_with (first | (go_at_call 22; refine (num_any _ _).mono ?_; rintro e w1 ⟨rfl, rfl⟩))
  refine (train_not _ _ _ _ _ _ _ _ (Tab.below (w := w) ht (by repeat (first | (with_reducible exact Below.refl _ _) | (with_reducible exact Hid.out (by with_reducible assumption)) | (with_reducible apply below_drewN) | (with_reducible apply below_drew) | (with_reducible apply below_alloc) | (refine below_set ?_ ?_ _; (focus (first | (simp; done) | (simp; omega))))))) (.inr (by omega))).mono ?_
  rintro e w4 ⟨rfl, hb⟩
  have hq4 := Lib.hid (below_next (w := w) (by repeat (first | (with_reducible exact Below.refl _ _) | (with_reducible exact Hid.out (by with_reducible assumption)) | (with_reducible apply below_drewN) | (with_reducible apply below_drew) | (with_reducible apply below_alloc) | (refine below_set ?_ ?_ _; (focus (first | (simp; done) | (simp; omega)))))) hb)
  obtain ⟨ep_4, eq_4, er_4, fp_4, fq_4, fr_4, lp_4⟩ := own3 hb (b := w3.heap.size) (x := .int .i64 (0)) (y := .int .i64 (0)) (z := .int .i64 (0)) (by go_simp) (by go_simp) (by go_simp) (by go_simp) (by go_simp) (by go_simp)
  clear hq3 hb
  go_wp2_with (first | (go_at_call 22; refine (num_any _ _).mono ?_; rintro e w1 ⟨rfl, rfl⟩))
  go_ret
  exact ⟨rfl, (by repeat (first | (with_reducible exact Below.refl _ _) | (with_reducible exact Hid.out (by with_reducible assumption)) | (with_reducible apply below_drewN) | (with_reducible apply below_drew) | (with_reducible apply below_alloc) | (refine below_set ?_ ?_ _; (focus (first | (simp; done) | (simp; omega))))))⟩
set_option maxHeartbeats 2000000 in
theorem mixForms_121 (which x m : Int) (w : World) (ht : Tab w) (hr : (IntKind.u64.wrap which).tmod 3 = 2) (hm : bits .and .i64 x 1023 = m) (m0 : 0 ≤ m) (m1 : m < 1024) (h4 : (bits .and .i64 which 4 == 4) = true) (hs : bits .and .i64 (which / 8) 1 = 1) :
   Calls Tryd.prog 10 #[.int .i64 which, .int .i64 x] w fun e w' => e = .returned (.bool true) ∧ Below w.heap.size w w' := by
  go_enter Tryd.func10, Tryd.ntmps10
  go_wp2_with (first | (go_at_call 22; refine (num_any _ _).mono ?_; rintro e w1 ⟨rfl, rfl⟩))
  refine (awake8 _ (Tab.below (w := w) ht (by repeat (first | (with_reducible exact Below.refl _ _) | (with_reducible exact Hid.out (by with_reducible assumption)) | (with_reducible apply below_drewN) | (with_reducible apply below_drew) | (with_reducible apply below_alloc) | (refine below_set ?_ ?_ _; (focus (first | (simp; done) | (simp; omega)))))))).mono ?_
  rintro e w1 ⟨rfl, hb⟩
  have hq1 := Lib.hid (below_next (w := w) (by repeat (first | (with_reducible exact Below.refl _ _) | (with_reducible exact Hid.out (by with_reducible assumption)) | (with_reducible apply below_drewN) | (with_reducible apply below_drew) | (with_reducible apply below_alloc) | (refine below_set ?_ ?_ _; (focus (first | (simp; done) | (simp; omega)))))) hb)
  clear hb
  go_wp2_with (first | (go_at_call 22; refine (num_any _ _).mono ?_; rintro e w1 ⟨rfl, rfl⟩))
  refine (dot_no _ _ _ _ _ _ _ (Tab.below (w := w) ht (by repeat (first | (with_reducible exact Below.refl _ _) | (with_reducible exact Hid.out (by with_reducible assumption)) | (with_reducible apply below_drewN) | (with_reducible apply below_drew) | (with_reducible apply below_alloc) | (refine below_set ?_ ?_ _; (focus (first | (simp; done) | (simp; omega))))))) (mixNo (by omega))).mono ?_
  rintro e w2 ⟨rfl, hb⟩
  have hq2 := Lib.hid (below_next (w := w) (by repeat (first | (with_reducible exact Below.refl _ _) | (with_reducible exact Hid.out (by with_reducible assumption)) | (with_reducible apply below_drewN) | (with_reducible apply below_drew) | (with_reducible apply below_alloc) | (refine below_set ?_ ?_ _; (focus (first | (simp; done) | (simp; omega)))))) hb)
  obtain ⟨ea_2, eb_2, ec_2, fa_2, fb_2, fc_2, la_2⟩ := own3 hb (b := w1.heap.size) (x := .int .i64 (1)) (y := .int .i64 (2)) (z := .int .i64 (1048576 + (1 + m))) (by go_simp) (by go_simp) (by go_simp) (by go_simp) (by go_simp) (by go_simp)
  obtain ⟨ex_2, ey_2, ez_2, fx_2, fy_2, fz_2, lx_2⟩ := own3 hb (b := w1.heap.size + 1) (x := .int .i64 (4)) (y := .int .i64 (5)) (z := .int .i64 (6)) (by go_simp) (by go_simp) (by go_simp) (by go_simp) (by go_simp) (by go_simp)
  clear hq1 hb
  go_wp2_with (first | (go_at_call 22; refine (num_any _ _).mono ?_; rintro e w1 ⟨rfl, rfl⟩))
  refine (train_not _ _ _ _ _ _ _ _ (Tab.below (w := w) ht (by repeat (first | (with_reducible exact Below.refl _ _) | (with_reducible exact Hid.out (by with_reducible assumption)) | (with_reducible apply below_drewN) | (with_reducible apply below_drew) | (with_reducible apply below_alloc) | (refine below_set ?_ ?_ _; (focus (first | (simp; done) | (simp; omega))))))) (.inl (mixNo (by omega)))).mono ?_
  rintro e w3 ⟨rfl, hb⟩
  have hq3 := Lib.hid (below_next (w := w) (by repeat (first | (with_reducible exact Below.refl _ _) | (with_reducible exact Hid.out (by with_reducible assumption)) | (with_reducible apply below_drewN) | (with_reducible apply below_drew) | (with_reducible apply below_alloc) | (refine below_set ?_ ?_ _; (focus (first | (simp; done) | (simp; omega)))))) hb)
  clear hq2 ea_2 eb_2 ec_2 fa_2 fb_2 fc_2 ex_2 ey_2 ez_2 fx_2 fy_2 fz_2 la_2 lx_2 hb
  go_wp2_with (first | (go_at_call 22; refine (num_any _ _).mono ?_; rintro e w1 ⟨rfl, rfl⟩))
  refine (train_not _ _ _ _ _ _ _ _ (Tab.below (w := w) ht (by repeat (first | (with_reducible exact Below.refl _ _) | (with_reducible exact Hid.out (by with_reducible assumption)) | (with_reducible apply below_drewN) | (with_reducible apply below_drew) | (with_reducible apply below_alloc) | (refine below_set ?_ ?_ _; (focus (first | (simp; done) | (simp; omega))))))) (.inr (by omega))).mono ?_
  rintro e w4 ⟨rfl, hb⟩
  have hq4 := Lib.hid (below_next (w := w) (by repeat (first | (with_reducible exact Below.refl _ _) | (with_reducible exact Hid.out (by with_reducible assumption)) | (with_reducible apply below_drewN) | (with_reducible apply below_drew) | (with_reducible apply below_alloc) | (refine below_set ?_ ?_ _; (focus (first | (simp; done) | (simp; omega)))))) hb)
  obtain ⟨ep_4, eq_4, er_4, fp_4, fq_4, fr_4, lp_4⟩ := own3 hb (b := w3.heap.size) (x := .int .i64 (0)) (y := .int .i64 (0)) (z := .int .i64 (0)) (by go_simp) (by go_simp) (by go_simp) (by go_simp) (by go_simp) (by go_simp)
  clear hq3 hb
  go_wp2_with (first | (go_at_call 22; refine (num_any _ _).mono ?_; rintro e w1 ⟨rfl, rfl⟩))
  go_ret
  exact ⟨rfl, (by repeat (first | (with_reducible exact Below.refl _ _) | (with_reducible exact Hid.out (by with_reducible assumption)) | (with_reducible apply below_drewN) | (with_reducible apply below_drew) | (with_reducible apply below_alloc) | (refine below_set ?_ ?_ _; (focus (first | (simp; done) | (simp; omega))))))⟩
set_option maxHeartbeats 2000000 in
theorem mixForms_000 (which x m : Int) (w : World) (ht : Tab w) (hr : (IntKind.u64.wrap which).tmod 3 = 0) (hm : bits .and .i64 x 1023 = m) (m0 : 0 ≤ m) (m1 : m < 1024) (h4 : (bits .and .i64 which 4 == 4) = false) (hs : bits .and .i64 (which / 8) 1 = 0) :
   Calls Tryd.prog 10 #[.int .i64 which, .int .i64 x] w fun e w' => e = .returned (.bool true) ∧ Below w.heap.size w w' := by
  go_enter Tryd.func10, Tryd.ntmps10
  go_wp2_with (first | (go_at_call 22; refine (num_any _ _).mono ?_; rintro e w1 ⟨rfl, rfl⟩))
  refine (awake8 _ (Tab.below (w := w) ht (by repeat (first | (with_reducible exact Below.refl _ _) | (with_reducible exact Hid.out (by with_reducible assumption)) | (with_reducible apply below_drewN) | (with_reducible apply below_drew) | (with_reducible apply below_alloc) | (refine below_set ?_ ?_ _; (focus (first | (simp; done) | (simp; omega)))))))).mono ?_
  rintro e w1 ⟨rfl, hb⟩
  have hq1 := Lib.hid (below_next (w := w) (by repeat (first | (with_reducible exact Below.refl _ _) | (with_reducible exact Hid.out (by with_reducible assumption)) | (with_reducible apply below_drewN) | (with_reducible apply below_drew) | (with_reducible apply below_alloc) | (refine below_set ?_ ?_ _; (focus (first | (simp; done) | (simp; omega)))))) hb)
  clear hb
  go_wp2_with (first | (go_at_call 22; refine (num_any _ _).mono ?_; rintro e w1 ⟨rfl, rfl⟩))
  refine (dot_no _ _ _ _ _ _ _ (Tab.below (w := w) ht (by repeat (first | (with_reducible exact Below.refl _ _) | (with_reducible exact Hid.out (by with_reducible assumption)) | (with_reducible apply below_drewN) | (with_reducible apply below_drew) | (with_reducible apply below_alloc) | (refine below_set ?_ ?_ _; (focus (first | (simp; done) | (simp; omega))))))) (mixNo (by omega))).mono ?_
  rintro e w2 ⟨rfl, hb⟩
  have hq2 := Lib.hid (below_next (w := w) (by repeat (first | (with_reducible exact Below.refl _ _) | (with_reducible exact Hid.out (by with_reducible assumption)) | (with_reducible apply below_drewN) | (with_reducible apply below_drew) | (with_reducible apply below_alloc) | (refine below_set ?_ ?_ _; (focus (first | (simp; done) | (simp; omega)))))) hb)
  obtain ⟨ea_2, eb_2, ec_2, fa_2, fb_2, fc_2, la_2⟩ := own3 hb (b := w1.heap.size) (x := .int .i64 (1)) (y := .int .i64 (2)) (z := .int .i64 (3)) (by go_simp) (by go_simp) (by go_simp) (by go_simp) (by go_simp) (by go_simp)
  obtain ⟨ex_2, ey_2, ez_2, fx_2, fy_2, fz_2, lx_2⟩ := own3 hb (b := w1.heap.size + 1) (x := .int .i64 (-2047 - (1 + m))) (y := .int .i64 (5)) (z := .int .i64 (6)) (by go_simp) (by go_simp) (by go_simp) (by go_simp) (by go_simp) (by go_simp)
  clear hq1 hb
  go_wp2_with (first | (go_at_call 22; refine (num_any _ _).mono ?_; rintro e w1 ⟨rfl, rfl⟩))
  refine (train_not _ _ _ _ _ _ _ _ (Tab.below (w := w) ht (by repeat (first | (with_reducible exact Below.refl _ _) | (with_reducible exact Hid.out (by with_reducible assumption)) | (with_reducible apply below_drewN) | (with_reducible apply below_drew) | (with_reducible apply below_alloc) | (refine below_set ?_ ?_ _; (focus (first | (simp; done) | (simp; omega))))))) (.inl (mixNo (by omega)))).mono ?_
  rintro e w3 ⟨rfl, hb⟩
  have hq3 := Lib.hid (below_next (w := w) (by repeat (first | (with_reducible exact Below.refl _ _) | (with_reducible exact Hid.out (by with_reducible assumption)) | (with_reducible apply below_drewN) | (with_reducible apply below_drew) | (with_reducible apply below_alloc) | (refine below_set ?_ ?_ _; (focus (first | (simp; done) | (simp; omega)))))) hb)
  clear hq2 ea_2 eb_2 ec_2 fa_2 fb_2 fc_2 ex_2 ey_2 ez_2 fx_2 fy_2 fz_2 la_2 lx_2 hb
  go_wp2_with (first | (go_at_call 22; refine (num_any _ _).mono ?_; rintro e w1 ⟨rfl, rfl⟩))
  refine (train_not _ _ _ _ _ _ _ _ (Tab.below (w := w) ht (by repeat (first | (with_reducible exact Below.refl _ _) | (with_reducible exact Hid.out (by with_reducible assumption)) | (with_reducible apply below_drewN) | (with_reducible apply below_drew) | (with_reducible apply below_alloc) | (refine below_set ?_ ?_ _; (focus (first | (simp; done) | (simp; omega))))))) (.inr (by omega))).mono ?_
  rintro e w4 ⟨rfl, hb⟩
  have hq4 := Lib.hid (below_next (w := w) (by repeat (first | (with_reducible exact Below.refl _ _) | (with_reducible exact Hid.out (by with_reducible assumption)) | (with_reducible apply below_drewN) | (with_reducible apply below_drew) | (with_reducible apply below_alloc) | (refine below_set ?_ ?_ _; (focus (first | (simp; done) | (simp; omega)))))) hb)
  obtain ⟨ep_4, eq_4, er_4, fp_4, fq_4, fr_4, lp_4⟩ := own3 hb (b := w3.heap.size) (x := .int .i64 (0)) (y := .int .i64 (0)) (z := .int .i64 (0)) (by go_simp) (by go_simp) (by go_simp) (by go_simp) (by go_simp) (by go_simp)
  clear hq3 hb
  go_wp2_with (first | (go_at_call 22; refine (num_any _ _).mono ?_; rintro e w1 ⟨rfl, rfl⟩))
  go_ret
  exact ⟨rfl, (by repeat (first | (with_reducible exact Below.refl _ _) | (with_reducible exact Hid.out (by with_reducible assumption)) | (with_reducible apply below_drewN) | (with_reducible apply below_drew) | (with_reducible apply below_alloc) | (refine below_set ?_ ?_ _; (focus (first | (simp; done) | (simp; omega))))))⟩
set_option maxHeartbeats 2000000 in
theorem mixForms_001 (which x m : Int) (w : World) (ht : Tab w) (hr : (IntKind.u64.wrap which).tmod 3 = 0) (hm : bits .and .i64 x 1023 = m) (m0 : 0 ≤ m) (m1 : m < 1024) (h4 : (bits .and .i64 which 4 == 4) = false) (hs : bits .and .i64 (which / 8) 1 = 1) :
   Calls Tryd.prog 10 #[.int .i64 which, .int .i64 x] w fun e w' => e = .returned (.bool true) ∧ Below w.heap.size w w' := by
  go_enter Tryd.func10, Tryd.ntmps10
  go_wp2_with (first | (go_at_call 22; refine (num_any _ _).mono ?_; rintro e w1 ⟨rfl, rfl⟩))
  refine (awake8 _ (Tab.below (w := w) ht (by repeat (first | (with_reducible exact Below.refl _ _) | (with_reducible exact Hid.out (by with_reducible assumption)) | (with_reducible apply below_drewN) | (with_reducible apply below_drew) | (with_reducible apply below_alloc) | (refine below_set ?_ ?_ _; (focus (first | (simp; done) | (simp; omega)))))))).mono ?_
  rintro e w1 ⟨rfl, hb⟩
  have hq1 := Lib.hid (below_next (w := w) (by repeat (first | (with_reducible exact Below.refl _ _) | (with_reducible exact Hid.out (by with_reducible assumption)) | (with_reducible apply below_drewN) | (with_reducible apply below_drew) | (with_reducible apply below_alloc) | (refine below_set ?_ ?_ _; (focus (first | (simp; done) | (simp; omega)))))) hb)
  clear hb
  go_wp2_with (first | (go_at_call 22; refine (num_any _ _).mono ?_; rintro e w1 ⟨rfl, rfl⟩))
  refine (dot_no _ _ _ _ _ _ _ (Tab.below (w := w) ht (by repeat (first | (with_reducible exact Below.refl _ _) | (with_reducible exact Hid.out (by with_reducible assumption)) | (with_reducible apply below_drewN) | (with_reducible apply below_drew) | (with_reducible apply below_alloc) | (refine below_set ?_ ?_ _; (focus (first | (simp; done) | (simp; omega))))))) (mixNo (by omega))).mono ?_
  rintro e w2 ⟨rfl, hb⟩
  have hq2 := Lib.hid (below_next (w := w) (by repeat (first | (with_reducible exact Below.refl _ _) | (with_reducible exact Hid.out (by with_reducible assumption)) | (with_reducible apply below_drewN) | (with_reducible apply below_drew) | (with_reducible apply below_alloc) | (refine below_set ?_ ?_ _; (focus (first | (simp; done) | (simp; omega)))))) hb)
  obtain ⟨ea_2, eb_2, ec_2, fa_2, fb_2, fc_2, la_2⟩ := own3 hb (b := w1.heap.size) (x := .int .i64 (1)) (y := .int .i64 (2)) (z := .int .i64 (3)) (by go_simp) (by go_simp) (by go_simp) (by go_simp) (by go_simp) (by go_simp)
  obtain ⟨ex_2, ey_2, ez_2, fx_2, fy_2, fz_2, lx_2⟩ := own3 hb (b := w1.heap.size + 1) (x := .int .i64 (2047 + (1 + m))) (y := .int .i64 (5)) (z := .int .i64 (6)) (by go_simp) (by go_simp) (by go_simp) (by go_simp) (by go_simp) (by go_simp)
  clear hq1 hb
  go_wp2_with (first | (go_at_call 22; refine (num_any _ _).mono ?_; rintro e w1 ⟨rfl, rfl⟩))
  refine (train_not _ _ _ _ _ _ _ _ (Tab.below (w := w) ht (by repeat (first | (with_reducible exact Below.refl _ _) | (with_reducible exact Hid.out (by with_reducible assumption)) | (with_reducible apply below_drewN) | (with_reducible apply below_drew) | (with_reducible apply below_alloc) | (refine below_set ?_ ?_ _; (focus (first | (simp; done) | (simp; omega))))))) (.inl (mixNo (by omega)))).mono ?_
  rintro e w3 ⟨rfl, hb⟩
  have hq3 := Lib.hid (below_next (w := w) (by repeat (first | (with_reducible exact Below.refl _ _) | (with_reducible exact Hid.out (by with_reducible assumption)) | (with_reducible apply below_drewN) | (with_reducible apply below_drew) | (with_reducible apply below_alloc) | (refine below_set ?_ ?_ _; (focus (first | (simp; done) | (simp; omega)))))) hb)
  clear hq2 ea_2 eb_2 ec_2 fa_2 fb_2 fc_2 ex_2 ey_2 ez_2 fx_2 fy_2 fz_2 la_2 lx_2 hb
  go_wp2_with (first | (go_at_call 22; refine (num_any _ _).mono ?_; rintro e w1 ⟨rfl, rfl⟩))
  refine (train_not _ _ _ _ _ _ _ _ (Tab.below (w := w) ht (by repeat (first | (with_reducible exact Below.refl _ _) | (with_reducible exact Hid.out (by with_reducible assumption)) | (with_reducible apply below_drewN) | (with_reducible apply below_drew) | (with_reducible apply below_alloc) | (refine below_set ?_ ?_ _; (focus (first | (simp; done) | (simp; omega))))))) (.inr (by omega))).mono ?_
  rintro e w4 ⟨rfl, hb⟩
  have hq4 := Lib.hid (below_next (w := w) (by repeat (first | (with_reducible exact Below.refl _ _) | (with_reducible exact Hid.out (by with_reducible assumption)) | (with_reducible apply below_drewN) | (with_reducible apply below_drew) | (with_reducible apply below_alloc) | (refine below_set ?_ ?_ _; (focus (first | (simp; done) | (simp; omega)))))) hb)
  obtain ⟨ep_4, eq_4, er_4, fp_4, fq_4, fr_4, lp_4⟩ := own3 hb (b := w3.heap.size) (x := .int .i64 (0)) (y := .int .i64 (0)) (z := .int .i64 (0)) (by go_simp) (by go_simp) (by go_simp) (by go_simp) (by go_simp) (by go_simp)
  clear hq3 hb
  go_wp2_with (first | (go_at_call 22; refine (num_any _ _).mono ?_; rintro e w1 ⟨rfl, rfl⟩))
  go_ret
  exact ⟨rfl, (by repeat (first | (with_reducible exact Below.refl _ _) | (with_reducible exact Hid.out (by with_reducible assumption)) | (with_reducible apply below_drewN) | (with_reducible apply below_drew) | (with_reducible apply below_alloc) | (refine below_set ?_ ?_ _; (focus (first | (simp; done) | (simp; omega))))))⟩
set_option maxHeartbeats 2000000 in
theorem mixForms_010 (which x m : Int) (w : World) (ht : Tab w) (hr : (IntKind.u64.wrap which).tmod 3 = 1) (hm : bits .and .i64 x 1023 = m) (m0 : 0 ≤ m) (m1 : m < 1024) (h4 : (bits .and .i64 which 4 == 4) = false) (hs : bits .and .i64 (which / 8) 1 = 0) :
   Calls Tryd.prog 10 #[.int .i64 which, .int .i64 x] w fun e w' => e = .returned (.bool true) ∧ Below w.heap.size w w' := by
  go_enter Tryd.func10, Tryd.ntmps10
  go_wp2_with (first | (go_at_call 22; refine (num_any _ _).mono ?_; rintro e w1 ⟨rfl, rfl⟩))
  refine (awake8 _ (Tab.below (w := w) ht (by repeat (first | (with_reducible exact Below.refl _ _) | (with_reducible exact Hid.out (by with_reducible assumption)) | (with_reducible apply below_drewN) | (with_reducible apply below_drew) | (with_reducible apply below_alloc) | (refine below_set ?_ ?_ _; (focus (first | (simp; done) | (simp; omega)))))))).mono ?_
  rintro e w1 ⟨rfl, hb⟩
  have hq1 := Lib.hid (below_next (w := w) (by repeat (first | (with_reducible exact Below.refl _ _) | (with_reducible exact Hid.out (by with_reducible assumption)) | (with_reducible apply below_drewN) | (with_reducible apply below_drew) | (with_reducible apply below_alloc) | (refine below_set ?_ ?_ _; (focus (first | (simp; done) | (simp; omega)))))) hb)
  clear hb
  go_wp2_with (first | (go_at_call 22; refine (num_any _ _).mono ?_; rintro e w1 ⟨rfl, rfl⟩))
  refine (dot_no _ _ _ _ _ _ _ (Tab.below (w := w) ht (by repeat (first | (with_reducible exact Below.refl _ _) | (with_reducible exact Hid.out (by with_reducible assumption)) | (with_reducible apply below_drewN) | (with_reducible apply below_drew) | (with_reducible apply below_alloc) | (refine below_set ?_ ?_ _; (focus (first | (simp; done) | (simp; omega))))))) (mixNo (by omega))).mono ?_
  rintro e w2 ⟨rfl, hb⟩
  have hq2 := Lib.hid (below_next (w := w) (by repeat (first | (with_reducible exact Below.refl _ _) | (with_reducible exact Hid.out (by with_reducible assumption)) | (with_reducible apply below_drewN) | (with_reducible apply below_drew) | (with_reducible apply below_alloc) | (refine below_set ?_ ?_ _; (focus (first | (simp; done) | (simp; omega)))))) hb)
  obtain ⟨ea_2, eb_2, ec_2, fa_2, fb_2, fc_2, la_2⟩ := own3 hb (b := w1.heap.size) (x := .int .i64 (1)) (y := .int .i64 (2)) (z := .int .i64 (3)) (by go_simp) (by go_simp) (by go_simp) (by go_simp) (by go_simp) (by go_simp)
  obtain ⟨ex_2, ey_2, ez_2, fx_2, fy_2, fz_2, lx_2⟩ := own3 hb (b := w1.heap.size + 1) (x := .int .i64 (4)) (y := .int .i64 (-2047 - (1 + m))) (z := .int .i64 (6)) (by go_simp) (by go_simp) (by go_simp) (by go_simp) (by go_simp) (by go_simp)
  clear hq1 hb
  go_wp2_with (first | (go_at_call 22; refine (num_any _ _).mono ?_; rintro e w1 ⟨rfl, rfl⟩))
  refine (train_not _ _ _ _ _ _ _ _ (Tab.below (w := w) ht (by repeat (first | (with_reducible exact Below.refl _ _) | (with_reducible exact Hid.out (by with_reducible assumption)) | (with_reducible apply below_drewN) | (with_reducible apply below_drew) | (with_reducible apply below_alloc) | (refine below_set ?_ ?_ _; (focus (first | (simp; done) | (simp; omega))))))) (.inl (mixNo (by omega)))).mono ?_
  rintro e w3 ⟨rfl, hb⟩
  have hq3 := Lib.hid (below_next (w := w) (by repeat (first | (with_reducible exact Below.refl _ _) | (with_reducible exact Hid.out (by with_reducible assumption)) | (with_reducible apply below_drewN) | (with_reducible apply below_drew) | (with_reducible apply below_alloc) | (refine below_set ?_ ?_ _; (focus (first | (simp; done) | (simp; omega)))))) hb)
  clear hq2 ea_2 eb_2 ec_2 fa_2 fb_2 fc_2 ex_2 ey_2 ez_2 fx_2 fy_2 fz_2 la_2 lx_2 hb
  go_wp2_with (first | (go_at_call 22; refine (num_any _ _).mono ?_; rintro e w1 ⟨rfl, rfl⟩))
  refine (train_not _ _ _ _ _ _ _ _ (Tab.below (w := w) ht (by repeat (first | (with_reducible exact Below.refl _ _) | (with_reducible exact Hid.out (by with_reducible assumption)) | (with_reducible apply below_drewN) | (with_reducible apply below_drew) | (with_reducible apply below_alloc) | (refine below_set ?_ ?_ _; (focus (first | (simp; done) | (simp; omega))))))) (.inr (by omega))).mono ?_
  rintro e w4 ⟨rfl, hb⟩
  have hq4 := Lib.hid (below_next (w := w) (by repeat (first | (with_reducible exact Below.refl _ _) | (with_reducible exact Hid.out (by with_reducible assumption)) | (with_reducible apply below_drewN) | (with_reducible apply below_drew) | (with_reducible apply below_alloc) | (refine below_set ?_ ?_ _; (focus (first | (simp; done) | (simp; omega)))))) hb)
  obtain ⟨ep_4, eq_4, er_4, fp_4, fq_4, fr_4, lp_4⟩ := own3 hb (b := w3.heap.size) (x := .int .i64 (0)) (y := .int .i64 (0)) (z := .int .i64 (0)) (by go_simp) (by go_simp) (by go_simp) (by go_simp) (by go_simp) (by go_simp)
  clear hq3 hb
  go_wp2_with (first | (go_at_call 22; refine (num_any _ _).mono ?_; rintro e w1 ⟨rfl, rfl⟩))
  go_ret
  exact ⟨rfl, (by repeat (first | (with_reducible exact Below.refl _ _) | (with_reducible exact Hid.out (by with_reducible assumption)) | (with_reducible apply below_drewN) | (with_reducible apply below_drew) | (with_reducible apply below_alloc) | (refine below_set ?_ ?_ _; (focus (first | (simp; done) | (simp; omega))))))⟩
set_option maxHeartbeats 2000000 in
theorem mixForms_011 (which x m : Int) (w : World) (ht : Tab w) (hr : (IntKind.u64.wrap which).tmod 3 = 1) (hm : bits .and .i64 x 1023 = m) (m0 : 0 ≤ m) (m1 : m < 1024) (h4 : (bits .and .i64 which 4 == 4) = false) (hs : bits .and .i64 (which / 8) 1 = 1) :
   Calls Tryd.prog 10 #[.int .i64 which, .int .i64 x] w fun e w' => e = .returned (.bool true) ∧ Below w.heap.size w w' := by
  go_enter Tryd.func10, Tryd.ntmps10
  go_wp2_with (first | (go_at_call 22; refine (num_any _ _).mono ?_; rintro e w1 ⟨rfl, rfl⟩))
  refine (awake8 _ (Tab.below (w := w) ht (by repeat (first | (with_reducible exact Below.refl _ _) | (with_reducible exact Hid.out (by with_reducible assumption)) | (with_reducible apply below_drewN) | (with_reducible apply below_drew) | (with_reducible apply below_alloc) | (refine below_set ?_ ?_ _; (focus (first | (simp; done) | (simp; omega)))))))).mono ?_
  rintro e w1 ⟨rfl, hb⟩
  have hq1 := Lib.hid (below_next (w := w) (by repeat (first | (with_reducible exact Below.refl _ _) | (with_reducible exact Hid.out (by with_reducible assumption)) | (with_reducible apply below_drewN) | (with_reducible apply below_drew) | (with_reducible apply below_alloc) | (refine below_set ?_ ?_ _; (focus (first | (simp; done) | (simp; omega)))))) hb)
  clear hb
  go_wp2_with (first | (go_at_call 22; refine (num_any _ _).mono ?_; rintro e w1 ⟨rfl, rfl⟩))
  refine (dot_no _ _ _ _ _ _ _ (Tab.below (w := w) ht (by repeat (first | (with_reducible exact Below.refl _ _) | (with_reducible exact Hid.out (by with_reducible assumption)) | (with_reducible apply below_drewN) | (with_reducible apply below_drew) | (with_reducible apply below_alloc) | (refine below_set ?_ ?_ _; (focus (first | (simp; done) | (simp; omega))))))) (mixNo (by omega))).mono ?_
  rintro e w2 ⟨rfl, hb⟩
  have hq2 := Lib.hid (below_next (w := w) (by repeat (first | (with_reducible exact Below.refl _ _) | (with_reducible exact Hid.out (by with_reducible assumption)) | (with_reducible apply below_drewN) | (with_reducible apply below_drew) | (with_reducible apply below_alloc) | (refine below_set ?_ ?_ _; (focus (first | (simp; done) | (simp; omega)))))) hb)
  obtain ⟨ea_2, eb_2, ec_2, fa_2, fb_2, fc_2, la_2⟩ := own3 hb (b := w1.heap.size) (x := .int .i64 (1)) (y := .int .i64 (2)) (z := .int .i64 (3)) (by go_simp) (by go_simp) (by go_simp) (by go_simp) (by go_simp) (by go_simp)
  obtain ⟨ex_2, ey_2, ez_2, fx_2, fy_2, fz_2, lx_2⟩ := own3 hb (b := w1.heap.size + 1) (x := .int .i64 (4)) (y := .int .i64 (2047 + (1 + m))) (z := .int .i64 (6)) (by go_simp) (by go_simp) (by go_simp) (by go_simp) (by go_simp) (by go_simp)
  clear hq1 hb
  go_wp2_with (first | (go_at_call 22; refine (num_any _ _).mono ?_; rintro e w1 ⟨rfl, rfl⟩))
  refine (train_not _ _ _ _ _ _ _ _ (Tab.below (w := w) ht (by repeat (first | (with_reducible exact Below.refl _ _) | (with_reducible exact Hid.out (by with_reducible assumption)) | (with_reducible apply below_drewN) | (with_reducible apply below_drew) | (with_reducible apply below_alloc) | (refine below_set ?_ ?_ _; (focus (first | (simp; done) | (simp; omega))))))) (.inl (mixNo (by omega)))).mono ?_
  rintro e w3 ⟨rfl, hb⟩
  have hq3 := Lib.hid (below_next (w := w) (by repeat (first | (with_reducible exact Below.refl _ _) | (with_reducible exact Hid.out (by with_reducible assumption)) | (with_reducible apply below_drewN) | (with_reducible apply below_drew) | (with_reducible apply below_alloc) | (refine below_set ?_ ?_ _; (focus (first | (simp; done) | (simp; omega)))))) hb)
  clear hq2 ea_2 eb_2 ec_2 fa_2 fb_2 fc_2 ex_2 ey_2 ez_2 fx_2 fy_2 fz_2 la_2 lx_2 hb
  go_wp2_with (first | (go_at_call 22; refine (num_any _ _).mono ?_; rintro e w1 ⟨rfl, rfl⟩))
  refine (train_not _ _ _ _ _ _ _ _ (Tab.below (w := w) ht (by repeat (first | (with_reducible exact Below.refl _ _) | (with_reducible exact Hid.out (by with_reducible assumption)) | (with_reducible apply below_drewN) | (with_reducible apply below_drew) | (with_reducible apply below_alloc) | (refine below_set ?_ ?_ _; (focus (first | (simp; done) | (simp; omega))))))) (.inr (by omega))).mono ?_
  rintro e w4 ⟨rfl, hb⟩
  have hq4 := Lib.hid (below_next (w := w) (by repeat (first | (with_reducible exact Below.refl _ _) | (with_reducible exact Hid.out (by with_reducible assumption)) | (with_reducible apply below_drewN) | (with_reducible apply below_drew) | (with_reducible apply below_alloc) | (refine below_set ?_ ?_ _; (focus (first | (simp; done) | (simp; omega)))))) hb)
  obtain ⟨ep_4, eq_4, er_4, fp_4, fq_4, fr_4, lp_4⟩ := own3 hb (b := w3.heap.size) (x := .int .i64 (0)) (y := .int .i64 (0)) (z := .int .i64 (0)) (by go_simp) (by go_simp) (by go_simp) (by go_simp) (by go_simp) (by go_simp)
  clear hq3 hb
  go_wp2_with (first | (go_at_call 22; refine (num_any _ _).mono ?_; rintro e w1 ⟨rfl, rfl⟩))
  go_ret
  exact ⟨rfl, (by repeat (first | (with_reducible exact Below.refl _ _) | (with_reducible exact Hid.out (by with_reducible assumption)) | (with_reducible apply below_drewN) | (with_reducible apply below_drew) | (with_reducible apply below_alloc) | (refine below_set ?_ ?_ _; (focus (first | (simp; done) | (simp; omega))))))⟩
set_option maxHeartbeats 2000000 in
theorem mixForms_020 (which x m : Int) (w : World) (ht : Tab w) (hr : (IntKind.u64.wrap which).tmod 3 = 2) (hm : bits .and .i64 x 1023 = m) (m0 : 0 ≤ m) (m1 : m < 1024) (h4 : (bits .and .i64 which 4 == 4) = false) (hs : bits .and .i64 (which / 8) 1 = 0) :
   Calls Tryd.prog 10 #[.int .i64 which, .int .i64 x] w fun e w' => e = .returned (.bool true) ∧ Below w.heap.size w w' := by
  go_enter Tryd.func10, Tryd.ntmps10
  go_wp2_with (first | (go_at_call 22; refine (num_any _ _).mono ?_; rintro e w1 ⟨rfl, rfl⟩))
  refine (awake8 _ (Tab.below (w := w) ht (by repeat (first | (with_reducible exact Below.refl _ _) | (with_reducible exact Hid.out (by with_reducible assumption)) | (with_reducible apply below_drewN) | (with_reducible apply below_drew) | (with_reducible apply below_alloc) | (refine below_set ?_ ?_ _; (focus (first | (simp; done) | (simp; omega)))))))).mono ?_
  rintro e w1 ⟨rfl, hb⟩
  have hq1 := Lib.hid (below_next (w := w) (by repeat (first | (with_reducible exact Below.refl _ _) | (with_reducible exact Hid.out (by with_reducible assumption)) | (with_reducible apply below_drewN) | (with_reducible apply below_drew) | (with_reducible apply below_alloc) | (refine below_set ?_ ?_ _; (focus (first | (simp; done) | (simp; omega)))))) hb)
  clear hb
  go_wp2_with (first | (go_at_call 22; refine (num_any _ _).mono ?_; rintro e w1 ⟨rfl, rfl⟩))
  refine (dot_no _ _ _ _ _ _ _ (Tab.below (w := w) ht (by repeat (first | (with_reducible exact Below.refl _ _) | (with_reducible exact Hid.out (by with_reducible assumption)) | (with_reducible apply below_drewN) | (with_reducible apply below_drew) | (with_reducible apply below_alloc) | (refine below_set ?_ ?_ _; (focus (first | (simp; done) | (simp; omega))))))) (mixNo (by omega))).mono ?_
  rintro e w2 ⟨rfl, hb⟩
  have hq2 := Lib.hid (below_next (w := w) (by repeat (first | (with_reducible exact Below.refl _ _) | (with_reducible exact Hid.out (by with_reducible assumption)) | (with_reducible apply below_drewN) | (with_reducible apply below_drew) | (with_reducible apply below_alloc) | (refine below_set ?_ ?_ _; (focus (first | (simp; done) | (simp; omega)))))) hb)
  obtain ⟨ea_2, eb_2, ec_2, fa_2, fb_2, fc_2, la_2⟩ := own3 hb (b := w1.heap.size) (x := .int .i64 (1)) (y := .int .i64 (2)) (z := .int .i64 (3)) (by go_simp) (by go_simp) (by go_simp) (by go_simp) (by go_simp) (by go_simp)
  obtain ⟨ex_2, ey_2, ez_2, fx_2, fy_2, fz_2, lx_2⟩ := own3 hb (b := w1.heap.size + 1) (x := .int .i64 (4)) (y := .int .i64 (5)) (z := .int .i64 (-2047 - (1 + m))) (by go_simp) (by go_simp) (by go_simp) (by go_simp) (by go_simp) (by go_simp)
  clear hq1 hb
  go_wp2_with (first | (go_at_call 22; refine (num_any _ _).mono ?_; rintro e w1 ⟨rfl, rfl⟩))
  refine (train_not _ _ _ _ _ _ _ _ (Tab.below (w := w) ht (by repeat (first | (with_reducible exact Below.refl _ _) | (with_reducible exact Hid.out (by with_reducible assumption)) | (with_reducible apply below_drewN) | (with_reducible apply below_drew) | (with_reducible apply below_alloc) | (refine below_set ?_ ?_ _; (focus (first | (simp; done) | (simp; omega))))))) (.inl (mixNo (by omega)))).mono ?_
  rintro e w3 ⟨rfl, hb⟩
  have hq3 := Lib.hid (below_next (w := w) (by repeat (first | (with_reducible exact Below.refl _ _) | (with_reducible exact Hid.out (by with_reducible assumption)) | (with_reducible apply below_drewN) | (with_reducible apply below_drew) | (with_reducible apply below_alloc) | (refine below_set ?_ ?_ _; (focus (first | (simp; done) | (simp; omega)))))) hb)
  clear hq2 ea_2 eb_2 ec_2 fa_2 fb_2 fc_2 ex_2 ey_2 ez_2 fx_2 fy_2 fz_2 la_2 lx_2 hb
  go_wp2_with (first | (go_at_call 22; refine (num_any _ _).mono ?_; rintro e w1 ⟨rfl, rfl⟩))
  refine (train_not _ _ _ _ _ _ _ _ (Tab.below (w := w) ht (by repeat (first | (with_reducible exact Below.refl _ _) | (with_reducible exact Hid.out (by with_reducible assumption)) | (with_reducible apply below_drewN) | (with_reducible apply below_drew) | (with_reducible apply below_alloc) | (refine below_set ?_ ?_ _; (focus (first | (simp; done) | (simp; omega))))))) (.inr (by omega))).mono ?_
  rintro e w4 ⟨rfl, hb⟩
  have hq4 := Lib.hid (below_next (w := w) (by repeat (first | (with_reducible exact Below.refl _ _) | (with_reducible exact Hid.out (by with_reducible assumption)) | (with_reducible apply below_drewN) | (with_reducible apply below_drew) | (with_reducible apply below_alloc) | (refine below_set ?_ ?_ _; (focus (first | (simp; done) | (simp; omega)))))) hb)
  obtain ⟨ep_4, eq_4, er_4, fp_4, fq_4, fr_4, lp_4⟩ := own3 hb (b := w3.heap.size) (x := .int .i64 (0)) (y := .int .i64 (0)) (z := .int .i64 (0)) (by go_simp) (by go_simp) (by go_simp) (by go_simp) (by go_simp) (by go_simp)
  clear hq3 hb
  go_wp2_with (first | (go_at_call 22; refine (num_any _ _).mono ?_; rintro e w1 ⟨rfl, rfl⟩))
  go_ret
  exact ⟨rfl, (by repeat (first | (with_reducible exact Below.refl _ _) | (with_reducible exact Hid.out (by with_reducible assumption)) | (with_reducible apply below_drewN) | (with_reducible apply below_drew) | (with_reducible apply below_alloc) | (refine below_set ?_ ?_ _; (focus (first | (simp; done) | (simp; omega))))))⟩
set_option maxHeartbeats 2000000 in
theorem mixForms_021 (which x m : Int) (w : World) (ht : Tab w) (hr : (IntKind.u64.wrap which).tmod 3 = 2) (hm : bits .and .i64 x 1023 = m) (m0 : 0 ≤ m) (m1 : m < 1024) (h4 : (bits .and .i64 which 4 == 4) = false) (hs : bits .and .i64 (which / 8) 1 = 1) :
   Calls Tryd.prog 10 #[.int .i64 which, .int .i64 x] w fun e w' => e = .returned (.bool true) ∧ Below w.heap.size w w' := by
  go_enter Tryd.func10, Tryd.ntmps10
  go_wp2_with (first | (go_at_call 22; refine (num_any _ _).mono ?_; rintro e w1 ⟨rfl, rfl⟩))
  refine (awake8 _ (Tab.below (w := w) ht (by repeat (first | (with_reducible exact Below.refl _ _) | (with_reducible exact Hid.out (by with_reducible assumption)) | (with_reducible apply below_drewN) | (with_reducible apply below_drew) | (with_reducible apply below_alloc) | (refine below_set ?_ ?_ _; (focus (first | (simp; done) | (simp; omega)))))))).mono ?_
  rintro e w1 ⟨rfl, hb⟩
  have hq1 := Lib.hid (below_next (w := w) (by repeat (first | (with_reducible exact Below.refl _ _) | (with_reducible exact Hid.out (by with_reducible assumption)) | (with_reducible apply below_drewN) | (with_reducible apply below_drew) | (with_reducible apply below_alloc) | (refine below_set ?_ ?_ _; (focus (first | (simp; done) | (simp; omega)))))) hb)
  clear hb
  go_wp2_with (first | (go_at_call 22; refine (num_any _ _).mono ?_; rintro e w1 ⟨rfl, rfl⟩))
  refine (dot_no _ _ _ _ _ _ _ (Tab.below (w := w) ht (by repeat (first | (with_reducible exact Below.refl _ _) | (with_reducible exact Hid.out (by with_reducible assumption)) | (with_reducible apply below_drewN) | (with_reducible apply below_drew) | (with_reducible apply below_alloc) | (refine below_set ?_ ?_ _; (focus (first | (simp; done) | (simp; omega))))))) (mixNo (by omega))).mono ?_
  rintro e w2 ⟨rfl, hb⟩
  have hq2 := Lib.hid (below_next (w := w) (by repeat (first | (with_reducible exact Below.refl _ _) | (with_reducible exact Hid.out (by with_reducible assumption)) | (with_reducible apply below_drewN) | (with_reducible apply below_drew) | (with_reducible apply below_alloc) | (refine below_set ?_ ?_ _; (focus (first | (simp; done) | (simp; omega)))))) hb)
  obtain ⟨ea_2, eb_2, ec_2, fa_2, fb_2, fc_2, la_2⟩ := own3 hb (b := w1.heap.size) (x := .int .i64 (1)) (y := .int .i64 (2)) (z := .int .i64 (3)) (by go_simp) (by go_simp) (by go_simp) (by go_simp) (by go_simp) (by go_simp)
  obtain ⟨ex_2, ey_2, ez_2, fx_2, fy_2, fz_2, lx_2⟩ := own3 hb (b := w1.heap.size + 1) (x := .int .i64 (4)) (y := .int .i64 (5)) (z := .int .i64 (2047 + (1 + m))) (by go_simp) (by go_simp) (by go_simp) (by go_simp) (by go_simp) (by go_simp)
  clear hq1 hb
  go_wp2_with (first | (go_at_call 22; refine (num_any _ _).mono ?_; rintro e w1 ⟨rfl, rfl⟩))
  refine (train_not _ _ _ _ _ _ _ _ (Tab.below (w := w) ht (by repeat (first | (with_reducible exact Below.refl _ _) | (with_reducible exact Hid.out (by with_reducible assumption)) | (with_reducible apply below_drewN) | (with_reducible apply below_drew) | (with_reducible apply below_alloc) | (refine below_set ?_ ?_ _; (focus (first | (simp; done) | (simp; omega))))))) (.inl (mixNo (by omega)))).mono ?_
  rintro e w3 ⟨rfl, hb⟩
  have hq3 := Lib.hid (below_next (w := w) (by repeat (first | (with_reducible exact Below.refl _ _) | (with_reducible exact Hid.out (by with_reducible assumption)) | (with_reducible apply below_drewN) | (with_reducible apply below_drew) | (with_reducible apply below_alloc) | (refine below_set ?_ ?_ _; (focus (first | (simp; done) | (simp; omega)))))) hb)
  clear hq2 ea_2 eb_2 ec_2 fa_2 fb_2 fc_2 ex_2 ey_2 ez_2 fx_2 fy_2 fz_2 la_2 lx_2 hb
  go_wp2_with (first | (go_at_call 22; refine (num_any _ _).mono ?_; rintro e w1 ⟨rfl, rfl⟩))
  refine (train_not _ _ _ _ _ _ _ _ (Tab.below (w := w) ht (by repeat (first | (with_reducible exact Below.refl _ _) | (with_reducible exact Hid.out (by with_reducible assumption)) | (with_reducible apply below_drewN) | (with_reducible apply below_drew) | (with_reducible apply below_alloc) | (refine below_set ?_ ?_ _; (focus (first | (simp; done) | (simp; omega))))))) (.inr (by omega))).mono ?_
  rintro e w4 ⟨rfl, hb⟩
  have hq4 := Lib.hid (below_next (w := w) (by repeat (first | (with_reducible exact Below.refl _ _) | (with_reducible exact Hid.out (by with_reducible assumption)) | (with_reducible apply below_drewN) | (with_reducible apply below_drew) | (with_reducible apply below_alloc) | (refine below_set ?_ ?_ _; (focus (first | (simp; done) | (simp; omega)))))) hb)
  obtain ⟨ep_4, eq_4, er_4, fp_4, fq_4, fr_4, lp_4⟩ := own3 hb (b := w3.heap.size) (x := .int .i64 (0)) (y := .int .i64 (0)) (z := .int .i64 (0)) (by go_simp) (by go_simp) (by go_simp) (by go_simp) (by go_simp) (by go_simp)
  clear hq3 hb
  go_wp2_with (first | (go_at_call 22; refine (num_any _ _).mono ?_; rintro e w1 ⟨rfl, rfl⟩))
  go_ret
  exact ⟨rfl, (by repeat (first | (with_reducible exact Below.refl _ _) | (with_reducible exact Hid.out (by with_reducible assumption)) | (with_reducible apply below_drewN) | (with_reducible apply below_drew) | (with_reducible apply below_alloc) | (refine below_set ?_ ?_ _; (focus (first | (simp; done) | (simp; omega))))))⟩
theorem mixForms_walk (which x : Int) (w : World) (ht : Tab w) : Calls Tryd.prog 10 #[.int .i64 which, .int .i64 x] w fun e w' => e = .returned (.bool true) ∧ Below w.heap.size w w' := by
  obtain ⟨r, hr, r0, r1⟩ := umod which 3 (by decide) (by decide)
  obtain ⟨m, hm⟩ : ∃ m, bits .and .i64 x 1023 = m := ⟨_, rfl⟩
  have hm0 : 0 ≤ m ∧ m < 1024 := by rw [← hm, i64_mask 10 1023 (by decide) (by decide)]; omega
  obtain ⟨m0, m1⟩ := hm0
  have hr3 : r = 0 ∨ r = 1 ∨ r = 2 := by omega
  obtain ⟨s, hs⟩ : ∃ m, bits .and .i64 (which / 8) 1 = m := ⟨_, rfl⟩
  have hs0 : s = 0 ∨ s = 1 := by rw [← hs, i64_mask 1 1 (by decide) (by decide)]; omega
  cases h4 : (bits .and .i64 which 4 == 4) <;> rcases hr3 with rfl | rfl | rfl <;> rcases hs0 with rfl | rfl
  · exact mixForms_000 which x m w ht hr hm m0 m1 h4 hs
  · exact mixForms_001 which x m w ht hr hm m0 m1 h4 hs
  · exact mixForms_010 which x m w ht hr hm m0 m1 h4 hs
  · exact mixForms_011 which x m w ht hr hm m0 m1 h4 hs
  · exact mixForms_020 which x m w ht hr hm m0 m1 h4 hs
  · exact mixForms_021 which x m w ht hr hm m0 m1 h4 hs
  · exact mixForms_100 which x m w ht hr hm m0 m1 h4 hs
  · exact mixForms_101 which x m w ht hr hm m0 m1 h4 hs
  · exact mixForms_110 which x m w ht hr hm m0 m1 h4 hs
  · exact mixForms_111 which x m w ht hr hm m0 m1 h4 hs
  · exact mixForms_120 which x m w ht hr hm m0 m1 h4 hs
  · exact mixForms_121 which x m w ht hr hm m0 m1 h4 hs
end Go.Proofs.YtlabpfebdhbgiaaDoor
