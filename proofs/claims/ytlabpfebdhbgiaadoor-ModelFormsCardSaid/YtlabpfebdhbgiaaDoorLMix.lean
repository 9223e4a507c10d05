/- The statements on the mix of three (chapter 8): what each comes to when it is called. -/
import Derived.Test.YtlabpfebdhbgiaaDoorWMixR
import Derived.Test.YtlabpfebdhbgiaaDoorLStr
import Derived.Test.YtlabpfebdhbgiaaDoorLibEq
import Derived.Test.YtlabpfebdhbgiaaDoorProg
namespace Go.Proofs.YtlabpfebdhbgiaaDoor
open Go.RowKit
set_option linter.unusedVariables false
set_option linter.unusedSimpArgs false

theorem size_int (w : World) : (sizeOf 3).run Tryd.prog w = .ok 1 w := by kernel_rfl
theorem eql3 (a b c x y z : Int) (w : World) : (binOp .eql 34 (.agg #[.int .i64 a, .int .i64 b, .int .i64 c]) (.agg #[.int .i64 x, .int .i64 y, .int .i64 z])).run Tryd.prog w = .ok (.bool ([a, b, c] == [x, y, z])) w :=
  run_eql_ints w 34 3 3 Tryd.underlying34 Tryd.underlying3 size_int [a, b, c] [x, y, z] rfl rfl
attribute [go_sem ↓] eql3
theorem num2_is (ok : Bool) (v e : Int) : ∃ a b, num2 ok v e = .tuple #[.int .i64 a, .int .i64 b] := ⟨_, _, rfl⟩
theorem tr3_is (ok : Bool) (a b c : Int) : ∃ x y z e, tr3 ok a b c = .tuple #[.agg #[.int .i64 x, .int .i64 y, .int .i64 z], .int .i64 e] := ⟨_, _, _, _, rfl⟩
theorem aw8_dot : num2 (mixOk 65536 0 0 500 (-3) 9) (dot 65536 0 0 500 (-3) 9) 800 = .tuple #[.int .i64 3583, .int .i64 0] := by
  rw [show mixOk 65536 0 0 500 (-3) 9 = true by decide +kernel, show dot 65536 0 0 500 (-3) 9 = 3583 by decide +kernel]; rfl
theorem aw8_train : tr3 (trOk 65536 0 0 500 (-3) 9 1) (tw 65536 500 (4096 * 1 - dot 65536 0 0 500 (-3) 9)) (tw 0 (-3) (4096 * 1 - dot 65536 0 0 500 (-3) 9)) (tw 0 9 (4096 * 1 - dot 65536 0 0 500 (-3) 9)) = .tuple #[.agg #[.int .i64 65786, .int .i64 (-2), .int .i64 5], .int .i64 0] := by
  rw [show trOk 65536 0 0 500 (-3) 9 1 = true by decide +kernel, show tw 65536 500 (4096 * 1 - dot 65536 0 0 500 (-3) 9) = 65786 by decide +kernel, show tw 0 (-3) (4096 * 1 - dot 65536 0 0 500 (-3) 9) = -2 by decide +kernel, show tw 0 9 (4096 * 1 - dot 65536 0 0 500 (-3) 9) = 5 by decide +kernel]; rfl
theorem aw8_bad : mixOk 1048577 0 0 500 (-3) 9 = false := by decide +kernel
theorem aw8_two : trOk 65536 0 0 500 (-3) 9 2 = false := by decide +kernel
theorem num2_no (v e : Int) : num2 false v e = .tuple #[.int .i64 0, .int .i64 e] := rfl
theorem tr3_no (a b c : Int) : tr3 false a b c = .tuple #[.agg #[.int .i64 0, .int .i64 0, .int .i64 0], .int .i64 800] := rfl
theorem sq_500 : sq 500 = 3583 := by decide +kernel
theorem awake8 (w : World) (ht : Tab w) : Calls Tryd.prog 30 #[] w fun e w' => e = .returned (.bool true) ∧ Below w.heap.size w w' := by
  go_enter Tryd.func30, Tryd.ntmps30
  go_wp2_with (first | (go_at_call 22; refine (num_any _ _).mono ?_; rintro e w1 ⟨rfl, rfl⟩))
  refine (dot_any 65536 0 0 500 (-3) 9 _ (Tab.below (w := w) ht (by repeat (first | (with_reducible exact Below.refl _ _) | (with_reducible exact Hid.out (by with_reducible assumption)) | (with_reducible apply below_drewN) | (with_reducible apply below_drew) | (with_reducible apply below_alloc) | (refine below_set ?_ ?_ _; (focus (first | (simp; done) | (simp; omega)))))))).mono ?_
  rw [aw8_dot]
  rintro e w1 ⟨rfl, hb⟩
  have hq1 := Lib.hid (below_next (w := w) (by repeat (first | (with_reducible exact Below.refl _ _) | (with_reducible exact Hid.out (by with_reducible assumption)) | (with_reducible apply below_drewN) | (with_reducible apply below_drew) | (with_reducible apply below_alloc) | (refine below_set ?_ ?_ _; (focus (first | (simp; done) | (simp; omega)))))) hb)
  obtain ⟨ea_1, eb_1, ec_1, fa_1, fb_1, fc_1, la_1⟩ := own3 hb (b := w.heap.size) (x := .int .i64 (65536)) (y := .int .i64 (0)) (z := .int .i64 (0)) (by go_simp) (by go_simp) (by go_simp) (by go_simp) (by go_simp) (by go_simp)
  obtain ⟨ex_1, ey_1, ez_1, fx_1, fy_1, fz_1, lx_1⟩ := own3 hb (b := w.heap.size + 1) (x := .int .i64 (500)) (y := .int .i64 (-3)) (z := .int .i64 (9)) (by go_simp) (by go_simp) (by go_simp) (by go_simp) (by go_simp) (by go_simp)
  clear hb
  go_wp2_with (first | (go_at_call 22; refine (num_any _ _).mono ?_; rintro e w1 ⟨rfl, rfl⟩))
  refine (train_any 65536 0 0 500 (-3) 9 1 _ (Tab.below (w := w) ht (by repeat (first | (with_reducible exact Below.refl _ _) | (with_reducible exact Hid.out (by with_reducible assumption)) | (with_reducible apply below_drewN) | (with_reducible apply below_drew) | (with_reducible apply below_alloc) | (refine below_set ?_ ?_ _; (focus (first | (simp; done) | (simp; omega)))))))).mono ?_
  rw [aw8_train]
  rintro e w2 ⟨rfl, hb⟩
  have hq2 := Lib.hid (below_next (w := w) (by repeat (first | (with_reducible exact Below.refl _ _) | (with_reducible exact Hid.out (by with_reducible assumption)) | (with_reducible apply below_drewN) | (with_reducible apply below_drew) | (with_reducible apply below_alloc) | (refine below_set ?_ ?_ _; (focus (first | (simp; done) | (simp; omega)))))) hb)
  obtain ⟨ea_2, eb_2, ec_2, fa_2, fb_2, fc_2, la_2⟩ := own3 hb (b := w.heap.size) (x := .int .i64 (65536)) (y := .int .i64 (0)) (z := .int .i64 (0)) (by go_simp) (by go_simp) (by go_simp) (by go_simp) (by go_simp) (by go_simp)
  obtain ⟨ex_2, ey_2, ez_2, fx_2, fy_2, fz_2, lx_2⟩ := own3 hb (b := w.heap.size + 1) (x := .int .i64 (500)) (y := .int .i64 (-3)) (z := .int .i64 (9)) (by go_simp) (by go_simp) (by go_simp) (by go_simp) (by go_simp) (by go_simp)
  clear hq1 ea_1 eb_1 ec_1 fa_1 fb_1 fc_1 ex_1 ey_1 ez_1 fx_1 fy_1 fz_1 la_1 lx_1 hb
  go_wp2_with (first | (go_at_call 22; refine (num_any _ _).mono ?_; rintro e w1 ⟨rfl, rfl⟩))
  refine (dot_any 1048577 0 0 500 (-3) 9 _ (Tab.below (w := w) ht (by repeat (first | (with_reducible exact Below.refl _ _) | (with_reducible exact Hid.out (by with_reducible assumption)) | (with_reducible apply below_drewN) | (with_reducible apply below_drew) | (with_reducible apply below_alloc) | (refine below_set ?_ ?_ _; (focus (first | (simp; done) | (simp; omega)))))))).mono ?_
  rw [aw8_bad, num2_no]
  rintro e w3 ⟨rfl, hb⟩
  have hq3 := Lib.hid (below_next (w := w) (by repeat (first | (with_reducible exact Below.refl _ _) | (with_reducible exact Hid.out (by with_reducible assumption)) | (with_reducible apply below_drewN) | (with_reducible apply below_drew) | (with_reducible apply below_alloc) | (refine below_set ?_ ?_ _; (focus (first | (simp; done) | (simp; omega)))))) hb)
  obtain ⟨ea_3, eb_3, ec_3, fa_3, fb_3, fc_3, la_3⟩ := own3 hb (b := w.heap.size) (x := .int .i64 (65536)) (y := .int .i64 (0)) (z := .int .i64 (0)) (by go_simp) (by go_simp) (by go_simp) (by go_simp) (by go_simp) (by go_simp)
  obtain ⟨ex_3, ey_3, ez_3, fx_3, fy_3, fz_3, lx_3⟩ := own3 hb (b := w.heap.size + 1) (x := .int .i64 (500)) (y := .int .i64 (-3)) (z := .int .i64 (9)) (by go_simp) (by go_simp) (by go_simp) (by go_simp) (by go_simp) (by go_simp)
  obtain ⟨ep_3, eq_3, er_3, fp_3, fq_3, fr_3, lp_3⟩ := own3 hb (b := w2.heap.size) (x := .int .i64 (65786)) (y := .int .i64 (-2)) (z := .int .i64 (5)) (by go_simp) (by go_simp) (by go_simp) (by go_simp) (by go_simp) (by go_simp)
  clear hq2 ea_2 eb_2 ec_2 fa_2 fb_2 fc_2 ex_2 ey_2 ez_2 fx_2 fy_2 fz_2 la_2 lx_2 hb
  go_wp2_with (first | (go_at_call 22; refine (num_any _ _).mono ?_; rintro e w1 ⟨rfl, rfl⟩))
  refine (train_any 65536 0 0 500 (-3) 9 2 _ (Tab.below (w := w) ht (by repeat (first | (with_reducible exact Below.refl _ _) | (with_reducible exact Hid.out (by with_reducible assumption)) | (with_reducible apply below_drewN) | (with_reducible apply below_drew) | (with_reducible apply below_alloc) | (refine below_set ?_ ?_ _; (focus (first | (simp; done) | (simp; omega)))))))).mono ?_
  rw [aw8_two, tr3_no]
  rintro e w4 ⟨rfl, hb⟩
  have hq4 := Lib.hid (below_next (w := w) (by repeat (first | (with_reducible exact Below.refl _ _) | (with_reducible exact Hid.out (by with_reducible assumption)) | (with_reducible apply below_drewN) | (with_reducible apply below_drew) | (with_reducible apply below_alloc) | (refine below_set ?_ ?_ _; (focus (first | (simp; done) | (simp; omega)))))) hb)
  obtain ⟨ea_4, eb_4, ec_4, fa_4, fb_4, fc_4, la_4⟩ := own3 hb (b := w.heap.size) (x := .int .i64 (65536)) (y := .int .i64 (0)) (z := .int .i64 (0)) (by go_simp) (by go_simp) (by go_simp) (by go_simp) (by go_simp) (by go_simp)
  obtain ⟨ep_4, eq_4, er_4, fp_4, fq_4, fr_4, lp_4⟩ := own3 hb (b := w2.heap.size) (x := .int .i64 (65786)) (y := .int .i64 (-2)) (z := .int .i64 (5)) (by go_simp) (by go_simp) (by go_simp) (by go_simp) (by go_simp) (by go_simp)
  clear hq3 ea_3 eb_3 ec_3 fa_3 fb_3 fc_3 ex_3 ey_3 ez_3 fx_3 fy_3 fz_3 ep_3 eq_3 er_3 fp_3 fq_3 fr_3 la_3 lx_3 lp_3 hb
  go_wp2_with (first | (go_at_call 22; refine (num_any _ _).mono ?_; rintro e w1 ⟨rfl, rfl⟩))
  refine (rsquash_any 500 _).mono ?_
  rw [sq_500]
  rintro e w5 ⟨rfl, hb⟩
  have hq5 := Lib.hid (below_next (w := w) (by repeat (first | (with_reducible exact Below.refl _ _) | (with_reducible exact Hid.out (by with_reducible assumption)) | (with_reducible apply below_drewN) | (with_reducible apply below_drew) | (with_reducible apply below_alloc) | (refine below_set ?_ ?_ _; (focus (first | (simp; done) | (simp; omega)))))) hb)
  obtain ⟨ea_5, eb_5, ec_5, fa_5, fb_5, fc_5, la_5⟩ := own3 hb (b := w.heap.size) (x := .int .i64 (65536)) (y := .int .i64 (0)) (z := .int .i64 (0)) (by go_simp) (by go_simp) (by go_simp) (by go_simp) (by go_simp) (by go_simp)
  obtain ⟨ep_5, eq_5, er_5, fp_5, fq_5, fr_5, lp_5⟩ := own3 hb (b := w2.heap.size) (x := .int .i64 (65786)) (y := .int .i64 (-2)) (z := .int .i64 (5)) (by go_simp) (by go_simp) (by go_simp) (by go_simp) (by go_simp) (by go_simp)
  clear hq4 ea_4 eb_4 ec_4 fa_4 fb_4 fc_4 ep_4 eq_4 er_4 fp_4 fq_4 fr_4 la_4 lp_4 hb
  go_wp2_with (first | (go_at_call 22; refine (num_any _ _).mono ?_; rintro e w1 ⟨rfl, rfl⟩))
  go_ret
  exact ⟨rfl, (by repeat (first | (with_reducible exact Below.refl _ _) | (with_reducible exact Hid.out (by with_reducible assumption)) | (with_reducible apply below_drewN) | (with_reducible apply below_drew) | (with_reducible apply below_alloc) | (refine below_set ?_ ?_ _; (focus (first | (simp; done) | (simp; omega))))))⟩
theorem mixes_walk (a b c x y z bit : Int) (w : World) (ht : Tab w) : Calls Tryd.prog 9 #[v3 a b c, v3 x y z, .int .i64 bit] w fun e w' => e = .returned (.bool true) ∧ Below w.heap.size w w' := by
  obtain ⟨D, E, hn⟩ := num2_is (mixOk a b c x y z) (dot a b c x y z) 800
  obtain ⟨T, U, V, F, hr⟩ := tr3_is (trOk a b c x y z bit) (tw a x (4096 * bit - dot a b c x y z)) (tw b y (4096 * bit - dot a b c x y z)) (tw c z (4096 * bit - dot a b c x y z))
  have HN := Lib.hid hn
  have HR := Lib.hid hr
  clear hn hr
  unfold v3
  go_enter Tryd.func9, Tryd.ntmps9
  go_wp2_with (first | (go_at_call 22; refine (num_any _ _).mono ?_; rintro e w1 ⟨rfl, rfl⟩))
  refine (dot_any a b c x y z _ (Tab.below (w := w) ht (by repeat (first | (with_reducible exact Below.refl _ _) | (with_reducible exact Hid.out (by with_reducible assumption)) | (with_reducible apply below_drewN) | (with_reducible apply below_drew) | (with_reducible apply below_alloc) | (refine below_set ?_ ?_ _; (focus (first | (simp; done) | (simp; omega)))))))).mono ?_
  rw [HN.out]
  rintro e w1 ⟨rfl, hb⟩
  have hq1 := Lib.hid (below_next (w := w) (by repeat (first | (with_reducible exact Below.refl _ _) | (with_reducible exact Hid.out (by with_reducible assumption)) | (with_reducible apply below_drewN) | (with_reducible apply below_drew) | (with_reducible apply below_alloc) | (refine below_set ?_ ?_ _; (focus (first | (simp; done) | (simp; omega)))))) hb)
  obtain ⟨ea_1, eb_1, ec_1, fa_1, fb_1, fc_1, la_1⟩ := own3 hb (b := w.heap.size) (x := .int .i64 (a)) (y := .int .i64 (b)) (z := .int .i64 (c)) (by go_simp) (by go_simp) (by go_simp) (by go_simp) (by go_simp) (by go_simp)
  obtain ⟨ex_1, ey_1, ez_1, fx_1, fy_1, fz_1, lx_1⟩ := own3 hb (b := w.heap.size + 1) (x := .int .i64 (x)) (y := .int .i64 (y)) (z := .int .i64 (z)) (by go_simp) (by go_simp) (by go_simp) (by go_simp) (by go_simp) (by go_simp)
  clear hb
  go_wp2_with (first | (go_at_call 22; refine (num_any _ _).mono ?_; rintro e w1 ⟨rfl, rfl⟩))
  refine (rdot_any a b c x y z _).mono ?_
  rw [HN.out]
  rintro e w2 ⟨rfl, hb⟩
  have hq2 := Lib.hid (below_next (w := w) (by repeat (first | (with_reducible exact Below.refl _ _) | (with_reducible exact Hid.out (by with_reducible assumption)) | (with_reducible apply below_drewN) | (with_reducible apply below_drew) | (with_reducible apply below_alloc) | (refine below_set ?_ ?_ _; (focus (first | (simp; done) | (simp; omega)))))) hb)
  obtain ⟨ea_2, eb_2, ec_2, fa_2, fb_2, fc_2, la_2⟩ := own3 hb (b := w.heap.size) (x := .int .i64 (a)) (y := .int .i64 (b)) (z := .int .i64 (c)) (by go_simp) (by go_simp) (by go_simp) (by go_simp) (by go_simp) (by go_simp)
  obtain ⟨ex_2, ey_2, ez_2, fx_2, fy_2, fz_2, lx_2⟩ := own3 hb (b := w.heap.size + 1) (x := .int .i64 (x)) (y := .int .i64 (y)) (z := .int .i64 (z)) (by go_simp) (by go_simp) (by go_simp) (by go_simp) (by go_simp) (by go_simp)
  clear hq1 ea_1 eb_1 ec_1 fa_1 fb_1 fc_1 ex_1 ey_1 ez_1 fx_1 fy_1 fz_1 la_1 lx_1 hb
  go_wp2_with (first | (go_at_call 22; refine (num_any _ _).mono ?_; rintro e w1 ⟨rfl, rfl⟩))
  refine (train_any a b c x y z bit _ (Tab.below (w := w) ht (by repeat (first | (with_reducible exact Below.refl _ _) | (with_reducible exact Hid.out (by with_reducible assumption)) | (with_reducible apply below_drewN) | (with_reducible apply below_drew) | (with_reducible apply below_alloc) | (refine below_set ?_ ?_ _; (focus (first | (simp; done) | (simp; omega)))))))).mono ?_
  rw [HR.out]
  rintro e w3 ⟨rfl, hb⟩
  have hq3 := Lib.hid (below_next (w := w) (by repeat (first | (with_reducible exact Below.refl _ _) | (with_reducible exact Hid.out (by with_reducible assumption)) | (with_reducible apply below_drewN) | (with_reducible apply below_drew) | (with_reducible apply below_alloc) | (refine below_set ?_ ?_ _; (focus (first | (simp; done) | (simp; omega)))))) hb)
  obtain ⟨ea_3, eb_3, ec_3, fa_3, fb_3, fc_3, la_3⟩ := own3 hb (b := w.heap.size) (x := .int .i64 (a)) (y := .int .i64 (b)) (z := .int .i64 (c)) (by go_simp) (by go_simp) (by go_simp) (by go_simp) (by go_simp) (by go_simp)
  obtain ⟨ex_3, ey_3, ez_3, fx_3, fy_3, fz_3, lx_3⟩ := own3 hb (b := w.heap.size + 1) (x := .int .i64 (x)) (y := .int .i64 (y)) (z := .int .i64 (z)) (by go_simp) (by go_simp) (by go_simp) (by go_simp) (by go_simp) (by go_simp)
  clear hq2 ea_2 eb_2 ec_2 fa_2 fb_2 fc_2 ex_2 ey_2 ez_2 fx_2 fy_2 fz_2 la_2 lx_2 hb
  go_wp2_with (first | (go_at_call 22; refine (num_any _ _).mono ?_; rintro e w1 ⟨rfl, rfl⟩))
  refine (rtrain_any a b c x y z bit _).mono ?_
  rw [HR.out]
  rintro e w4 ⟨rfl, hb⟩
  have hq4 := Lib.hid (below_next (w := w) (by repeat (first | (with_reducible exact Below.refl _ _) | (with_reducible exact Hid.out (by with_reducible assumption)) | (with_reducible apply below_drewN) | (with_reducible apply below_drew) | (with_reducible apply below_alloc) | (refine below_set ?_ ?_ _; (focus (first | (simp; done) | (simp; omega)))))) hb)
  obtain ⟨ep_4, eq_4, er_4, fp_4, fq_4, fr_4, lp_4⟩ := own3 hb (b := w3.heap.size) (x := .int .i64 (T)) (y := .int .i64 (U)) (z := .int .i64 (V)) (by go_simp) (by go_simp) (by go_simp) (by go_simp) (by go_simp) (by go_simp)
  clear hq3 ea_3 eb_3 ec_3 fa_3 fb_3 fc_3 ex_3 ey_3 ez_3 fx_3 fy_3 fz_3 la_3 lx_3 hb
  go_wp2_with (first | (go_at_call 22; refine (num_any _ _).mono ?_; rintro e w1 ⟨rfl, rfl⟩))
  refine (awake8 _ (Tab.below (w := w) ht (by repeat (first | (with_reducible exact Below.refl _ _) | (with_reducible exact Hid.out (by with_reducible assumption)) | (with_reducible apply below_drewN) | (with_reducible apply below_drew) | (with_reducible apply below_alloc) | (refine below_set ?_ ?_ _; (focus (first | (simp; done) | (simp; omega)))))))).mono ?_
  rintro e w5 ⟨rfl, hb⟩
  have hq5 := Lib.hid (below_next (w := w) (by repeat (first | (with_reducible exact Below.refl _ _) | (with_reducible exact Hid.out (by with_reducible assumption)) | (with_reducible apply below_drewN) | (with_reducible apply below_drew) | (with_reducible apply below_alloc) | (refine below_set ?_ ?_ _; (focus (first | (simp; done) | (simp; omega)))))) hb)
  clear hq4 ep_4 eq_4 er_4 fp_4 fq_4 fr_4 lp_4 hb
  go_wp2
  go_ret
  exact ⟨rfl, (by repeat (first | (with_reducible exact Below.refl _ _) | (with_reducible exact Hid.out (by with_reducible assumption)) | (with_reducible apply below_drewN) | (with_reducible apply below_drew) | (with_reducible apply below_alloc) | (refine below_set ?_ ?_ _; (focus (first | (simp; done) | (simp; omega))))))⟩
end Go.Proofs.YtlabpfebdhbgiaaDoor
