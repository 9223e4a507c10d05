/- The statements on the mix of three (chapter 8), more: trained it is nearer; in another row it is the same. -/
import Derived.Test.YtlabpfebdhbgiaaDoorLMix
import Derived.Test.YtlabpfebdhbgiaaDoorNumB
namespace Go.Proofs.YtlabpfebdhbgiaaDoor
open Go.RowKit
set_option linter.unusedVariables false
set_option linter.unusedSimpArgs false

theorem num2_yes (v e : Int) : num2 true v e = .tuple #[.int .i64 v, .int .i64 0] := rfl
theorem tr3_yes (a b c : Int) : tr3 true a b c = .tuple #[.agg #[.int .i64 a, .int .i64 b, .int .i64 c], .int .i64 0] := rfl
theorem trOk_no {a b c x y z bit : Int} (h : mixOk a b c x y z = false) : trOk a b c x y z bit = false := by simp [trOk, h]
theorem trOk_one {a b c x y z : Int} (h : mixOk a b c x y z = true) : trOk a b c x y z 1 = true := by simp [trOk, h]
theorem trOk_none {a b c x y z : Int} (h : mixOk a b c x y z = true) : trOk a b c x y z 0 = true := by simp [trOk, h]
theorem mixNearer_no (a b c x y z : Int) (w : World) (ht : Tab w) (h : mixOk a b c x y z = false) : Calls Tryd.prog 14 #[v3 a b c, v3 x y z] w fun e w' => e = .returned (.bool true) ∧ Below w.heap.size w w' := by
  have H := Lib.hid h
  clear h
  unfold v3
  go_enter Tryd.func14, Tryd.ntmps14
  go_wp2_with (first | (go_at_call 22; refine (num_any _ _).mono ?_; rintro e w1 ⟨rfl, rfl⟩))
  refine (awake8 _ (Tab.below (w := w) ht (by repeat (first | (with_reducible exact Below.refl _ _) | (with_reducible exact Hid.out (by with_reducible assumption)) | (with_reducible apply below_drewN) | (with_reducible apply below_drew) | (with_reducible apply below_alloc) | (refine below_set ?_ ?_ _; (focus (first | (simp; done) | (simp; omega)))))))).mono ?_
  rintro e w1 ⟨rfl, hb⟩
  have hq1 := Lib.hid (below_next (w := w) (by repeat (first | (with_reducible exact Below.refl _ _) | (with_reducible exact Hid.out (by with_reducible assumption)) | (with_reducible apply below_drewN) | (with_reducible apply below_drew) | (with_reducible apply below_alloc) | (refine below_set ?_ ?_ _; (focus (first | (simp; done) | (simp; omega)))))) hb)
  obtain ⟨ea_1, eb_1, ec_1, fa_1, fb_1, fc_1, la_1⟩ := own3 hb (b := w.heap.size) (x := .int .i64 (a)) (y := .int .i64 (b)) (z := .int .i64 (c)) (by go_simp) (by go_simp) (by go_simp) (by go_simp) (by go_simp) (by go_simp)
  obtain ⟨ex_1, ey_1, ez_1, fx_1, fy_1, fz_1, lx_1⟩ := own3 hb (b := w.heap.size + 1) (x := .int .i64 (x)) (y := .int .i64 (y)) (z := .int .i64 (z)) (by go_simp) (by go_simp) (by go_simp) (by go_simp) (by go_simp) (by go_simp)
  clear hb
  go_wp2_with (first | (go_at_call 22; refine (num_any _ _).mono ?_; rintro e w1 ⟨rfl, rfl⟩))
  refine (dot_any a b c x y z _ (Tab.below (w := w) ht (by repeat (first | (with_reducible exact Below.refl _ _) | (with_reducible exact Hid.out (by with_reducible assumption)) | (with_reducible apply below_drewN) | (with_reducible apply below_drew) | (with_reducible apply below_alloc) | (refine below_set ?_ ?_ _; (focus (first | (simp; done) | (simp; omega)))))))).mono ?_
  rw [H.out, num2_no]
  rintro e w2 ⟨rfl, hb⟩
  have hq2 := Lib.hid (below_next (w := w) (by repeat (first | (with_reducible exact Below.refl _ _) | (with_reducible exact Hid.out (by with_reducible assumption)) | (with_reducible apply below_drewN) | (with_reducible apply below_drew) | (with_reducible apply below_alloc) | (refine below_set ?_ ?_ _; (focus (first | (simp; done) | (simp; omega)))))) hb)
  obtain ⟨ea_2, eb_2, ec_2, fa_2, fb_2, fc_2, la_2⟩ := own3 hb (b := w.heap.size) (x := .int .i64 (a)) (y := .int .i64 (b)) (z := .int .i64 (c)) (by go_simp) (by go_simp) (by go_simp) (by go_simp) (by go_simp) (by go_simp)
  obtain ⟨ex_2, ey_2, ez_2, fx_2, fy_2, fz_2, lx_2⟩ := own3 hb (b := w.heap.size + 1) (x := .int .i64 (x)) (y := .int .i64 (y)) (z := .int .i64 (z)) (by go_simp) (by go_simp) (by go_simp) (by go_simp) (by go_simp) (by go_simp)
  clear hq1 ea_1 eb_1 ec_1 fa_1 fb_1 fc_1 ex_1 ey_1 ez_1 fx_1 fy_1 fz_1 la_1 lx_1 hb
  go_wp2_with (first | (go_at_call 22; refine (num_any _ _).mono ?_; rintro e w1 ⟨rfl, rfl⟩))
  refine (train_any a b c x y z 1 _ (Tab.below (w := w) ht (by repeat (first | (with_reducible exact Below.refl _ _) | (with_reducible exact Hid.out (by with_reducible assumption)) | (with_reducible apply below_drewN) | (with_reducible apply below_drew) | (with_reducible apply below_alloc) | (refine below_set ?_ ?_ _; (focus (first | (simp; done) | (simp; omega)))))))).mono ?_
  rw [trOk_no H.out, tr3_no]
  rintro e w3 ⟨rfl, hb⟩
  have hq3 := Lib.hid (below_next (w := w) (by repeat (first | (with_reducible exact Below.refl _ _) | (with_reducible exact Hid.out (by with_reducible assumption)) | (with_reducible apply below_drewN) | (with_reducible apply below_drew) | (with_reducible apply below_alloc) | (refine below_set ?_ ?_ _; (focus (first | (simp; done) | (simp; omega)))))) hb)
  obtain ⟨ea_3, eb_3, ec_3, fa_3, fb_3, fc_3, la_3⟩ := own3 hb (b := w.heap.size) (x := .int .i64 (a)) (y := .int .i64 (b)) (z := .int .i64 (c)) (by go_simp) (by go_simp) (by go_simp) (by go_simp) (by go_simp) (by go_simp)
  obtain ⟨ex_3, ey_3, ez_3, fx_3, fy_3, fz_3, lx_3⟩ := own3 hb (b := w.heap.size + 1) (x := .int .i64 (x)) (y := .int .i64 (y)) (z := .int .i64 (z)) (by go_simp) (by go_simp) (by go_simp) (by go_simp) (by go_simp) (by go_simp)
  clear hq2 ea_2 eb_2 ec_2 fa_2 fb_2 fc_2 ex_2 ey_2 ez_2 fx_2 fy_2 fz_2 la_2 lx_2 hb
  go_wp2_with (first | (go_at_call 22; refine (num_any _ _).mono ?_; rintro e w1 ⟨rfl, rfl⟩))
  refine (train_any a b c x y z 0 _ (Tab.below (w := w) ht (by repeat (first | (with_reducible exact Below.refl _ _) | (with_reducible exact Hid.out (by with_reducible assumption)) | (with_reducible apply below_drewN) | (with_reducible apply below_drew) | (with_reducible apply below_alloc) | (refine below_set ?_ ?_ _; (focus (first | (simp; done) | (simp; omega)))))))).mono ?_
  rw [trOk_no H.out, tr3_no]
  rintro e w4 ⟨rfl, hb⟩
  have hq4 := Lib.hid (below_next (w := w) (by repeat (first | (with_reducible exact Below.refl _ _) | (with_reducible exact Hid.out (by with_reducible assumption)) | (with_reducible apply below_drewN) | (with_reducible apply below_drew) | (with_reducible apply below_alloc) | (refine below_set ?_ ?_ _; (focus (first | (simp; done) | (simp; omega)))))) hb)
  obtain ⟨ea_4, eb_4, ec_4, fa_4, fb_4, fc_4, la_4⟩ := own3 hb (b := w.heap.size) (x := .int .i64 (a)) (y := .int .i64 (b)) (z := .int .i64 (c)) (by go_simp) (by go_simp) (by go_simp) (by go_simp) (by go_simp) (by go_simp)
  clear hq3 ea_3 eb_3 ec_3 fa_3 fb_3 fc_3 ex_3 ey_3 ez_3 fx_3 fy_3 fz_3 la_3 lx_3 hb
  go_wp2_with (first | (go_at_call 22; refine (num_any _ _).mono ?_; rintro e w1 ⟨rfl, rfl⟩))
  go_ret
  exact ⟨rfl, (by repeat (first | (with_reducible exact Below.refl _ _) | (with_reducible exact Hid.out (by with_reducible assumption)) | (with_reducible apply below_drewN) | (with_reducible apply below_drew) | (with_reducible apply below_alloc) | (refine below_set ?_ ?_ _; (focus (first | (simp; done) | (simp; omega))))))⟩
theorem mixNearer_yes (a b c x y z : Int) (w : World) (ht : Tab w) (h : mixOk a b c x y z = true) : Calls Tryd.prog 14 #[v3 a b c, v3 x y z] w fun e w' => e = .returned (.bool true) ∧ Below w.heap.size w w' := by
  obtain ⟨n1, n2⟩ := nearer h
  have o1 := trained_ok (o := 4096 * 1 - dot a b c x y z) h
  have o2 := trained_ok (o := 4096 * 0 - dot a b c x y z) h
  have H := Lib.hid h
  clear h
  obtain ⟨A, hA⟩ : ∃ A, tw a x (4096 * 1 - dot a b c x y z) = A := ⟨_, rfl⟩
  obtain ⟨B, hB⟩ : ∃ A, tw b y (4096 * 1 - dot a b c x y z) = A := ⟨_, rfl⟩
  obtain ⟨C, hC⟩ : ∃ A, tw c z (4096 * 1 - dot a b c x y z) = A := ⟨_, rfl⟩
  obtain ⟨D, hD⟩ : ∃ A, tw a x (4096 * 0 - dot a b c x y z) = A := ⟨_, rfl⟩
  obtain ⟨E, hE⟩ : ∃ A, tw b y (4096 * 0 - dot a b c x y z) = A := ⟨_, rfl⟩
  obtain ⟨F, hF⟩ : ∃ A, tw c z (4096 * 0 - dot a b c x y z) = A := ⟨_, rfl⟩
  rw [hA, hB, hC] at n1 o1
  rw [hD, hE, hF] at n2 o2
  have K1 := Lib.hid (show tr3 (trOk a b c x y z 1) (tw a x (4096 * 1 - dot a b c x y z)) (tw b y (4096 * 1 - dot a b c x y z)) (tw c z (4096 * 1 - dot a b c x y z)) = .tuple #[.agg #[.int .i64 A, .int .i64 B, .int .i64 C], .int .i64 0] by rw [trOk_one H.out, hA, hB, hC]; rfl)
  have K0 := Lib.hid (show tr3 (trOk a b c x y z 0) (tw a x (4096 * 0 - dot a b c x y z)) (tw b y (4096 * 0 - dot a b c x y z)) (tw c z (4096 * 0 - dot a b c x y z)) = .tuple #[.agg #[.int .i64 D, .int .i64 E, .int .i64 F], .int .i64 0] by rw [trOk_none H.out, hD, hE, hF]; rfl)
  clear hA hB hC hD hE hF
  have O1 := Lib.hid o1
  have O2 := Lib.hid o2
  clear o1 o2
  unfold v3
  go_enter Tryd.func14, Tryd.ntmps14
  go_wp2_with (first | (go_at_call 22; refine (num_any _ _).mono ?_; rintro e w1 ⟨rfl, rfl⟩))
  refine (awake8 _ (Tab.below (w := w) ht (by repeat (first | (with_reducible exact Below.refl _ _) | (with_reducible exact Hid.out (by with_reducible assumption)) | (with_reducible apply below_drewN) | (with_reducible apply below_drew) | (with_reducible apply below_alloc) | (refine below_set ?_ ?_ _; (focus (first | (simp; done) | (simp; omega)))))))).mono ?_
  rintro e w1 ⟨rfl, hb⟩
  have hq1 := Lib.hid (below_next (w := w) (by repeat (first | (with_reducible exact Below.refl _ _) | (with_reducible exact Hid.out (by with_reducible assumption)) | (with_reducible apply below_drewN) | (with_reducible apply below_drew) | (with_reducible apply below_alloc) | (refine below_set ?_ ?_ _; (focus (first | (simp; done) | (simp; omega)))))) hb)
  obtain ⟨ea_1, eb_1, ec_1, fa_1, fb_1, fc_1, la_1⟩ := own3 hb (b := w.heap.size) (x := .int .i64 (a)) (y := .int .i64 (b)) (z := .int .i64 (c)) (by go_simp) (by go_simp) (by go_simp) (by go_simp) (by go_simp) (by go_simp)
  obtain ⟨ex_1, ey_1, ez_1, fx_1, fy_1, fz_1, lx_1⟩ := own3 hb (b := w.heap.size + 1) (x := .int .i64 (x)) (y := .int .i64 (y)) (z := .int .i64 (z)) (by go_simp) (by go_simp) (by go_simp) (by go_simp) (by go_simp) (by go_simp)
  clear hb
  go_wp2_with (first | (go_at_call 22; refine (num_any _ _).mono ?_; rintro e w1 ⟨rfl, rfl⟩))
  refine (dot_any a b c x y z _ (Tab.below (w := w) ht (by repeat (first | (with_reducible exact Below.refl _ _) | (with_reducible exact Hid.out (by with_reducible assumption)) | (with_reducible apply below_drewN) | (with_reducible apply below_drew) | (with_reducible apply below_alloc) | (refine below_set ?_ ?_ _; (focus (first | (simp; done) | (simp; omega)))))))).mono ?_
  rw [H.out, num2_yes]
  rintro e w2 ⟨rfl, hb⟩
  have hq2 := Lib.hid (below_next (w := w) (by repeat (first | (with_reducible exact Below.refl _ _) | (with_reducible exact Hid.out (by with_reducible assumption)) | (with_reducible apply below_drewN) | (with_reducible apply below_drew) | (with_reducible apply below_alloc) | (refine below_set ?_ ?_ _; (focus (first | (simp; done) | (simp; omega)))))) hb)
  obtain ⟨ea_2, eb_2, ec_2, fa_2, fb_2, fc_2, la_2⟩ := own3 hb (b := w.heap.size) (x := .int .i64 (a)) (y := .int .i64 (b)) (z := .int .i64 (c)) (by go_simp) (by go_simp) (by go_simp) (by go_simp) (by go_simp) (by go_simp)
  obtain ⟨ex_2, ey_2, ez_2, fx_2, fy_2, fz_2, lx_2⟩ := own3 hb (b := w.heap.size + 1) (x := .int .i64 (x)) (y := .int .i64 (y)) (z := .int .i64 (z)) (by go_simp) (by go_simp) (by go_simp) (by go_simp) (by go_simp) (by go_simp)
  clear hq1 ea_1 eb_1 ec_1 fa_1 fb_1 fc_1 ex_1 ey_1 ez_1 fx_1 fy_1 fz_1 la_1 lx_1 hb
  go_wp2_with (first | (go_at_call 22; refine (num_any _ _).mono ?_; rintro e w1 ⟨rfl, rfl⟩))
  refine (train_any a b c x y z 1 _ (Tab.below (w := w) ht (by repeat (first | (with_reducible exact Below.refl _ _) | (with_reducible exact Hid.out (by with_reducible assumption)) | (with_reducible apply below_drewN) | (with_reducible apply below_drew) | (with_reducible apply below_alloc) | (refine below_set ?_ ?_ _; (focus (first | (simp; done) | (simp; omega)))))))).mono ?_
  rw [K1.out]
  rintro e w3 ⟨rfl, hb⟩
  have hq3 := Lib.hid (below_next (w := w) (by repeat (first | (with_reducible exact Below.refl _ _) | (with_reducible exact Hid.out (by with_reducible assumption)) | (with_reducible apply below_drewN) | (with_reducible apply below_drew) | (with_reducible apply below_alloc) | (refine below_set ?_ ?_ _; (focus (first | (simp; done) | (simp; omega)))))) hb)
  obtain ⟨ea_3, eb_3, ec_3, fa_3, fb_3, fc_3, la_3⟩ := own3 hb (b := w.heap.size) (x := .int .i64 (a)) (y := .int .i64 (b)) (z := .int .i64 (c)) (by go_simp) (by go_simp) (by go_simp) (by go_simp) (by go_simp) (by go_simp)
  obtain ⟨ex_3, ey_3, ez_3, fx_3, fy_3, fz_3, lx_3⟩ := own3 hb (b := w.heap.size + 1) (x := .int .i64 (x)) (y := .int .i64 (y)) (z := .int .i64 (z)) (by go_simp) (by go_simp) (by go_simp) (by go_simp) (by go_simp) (by go_simp)
  clear hq2 ea_2 eb_2 ec_2 fa_2 fb_2 fc_2 ex_2 ey_2 ez_2 fx_2 fy_2 fz_2 la_2 lx_2 hb
  go_wp2_with (first | (go_at_call 22; refine (num_any _ _).mono ?_; rintro e w1 ⟨rfl, rfl⟩))
  refine (train_any a b c x y z 0 _ (Tab.below (w := w) ht (by repeat (first | (with_reducible exact Below.refl _ _) | (with_reducible exact Hid.out (by with_reducible assumption)) | (with_reducible apply below_drewN) | (with_reducible apply below_drew) | (with_reducible apply below_alloc) | (refine below_set ?_ ?_ _; (focus (first | (simp; done) | (simp; omega)))))))).mono ?_
  rw [K0.out]
  rintro e w4 ⟨rfl, hb⟩
  have hq4 := Lib.hid (below_next (w := w) (by repeat (first | (with_reducible exact Below.refl _ _) | (with_reducible exact Hid.out (by with_reducible assumption)) | (with_reducible apply below_drewN) | (with_reducible apply below_drew) | (with_reducible apply below_alloc) | (refine below_set ?_ ?_ _; (focus (first | (simp; done) | (simp; omega)))))) hb)
  obtain ⟨ex_4, ey_4, ez_4, fx_4, fy_4, fz_4, lx_4⟩ := own3 hb (b := w.heap.size + 1) (x := .int .i64 (x)) (y := .int .i64 (y)) (z := .int .i64 (z)) (by go_simp) (by go_simp) (by go_simp) (by go_simp) (by go_simp) (by go_simp)
  obtain ⟨ep_4, eq_4, er_4, fp_4, fq_4, fr_4, lp_4⟩ := own3 hb (b := w3.heap.size) (x := .int .i64 (A)) (y := .int .i64 (B)) (z := .int .i64 (C)) (by go_simp) (by go_simp) (by go_simp) (by go_simp) (by go_simp) (by go_simp)
  clear hq3 ea_3 eb_3 ec_3 fa_3 fb_3 fc_3 ex_3 ey_3 ez_3 fx_3 fy_3 fz_3 la_3 lx_3 hb
  go_wp2_with (first | (go_at_call 22; refine (num_any _ _).mono ?_; rintro e w1 ⟨rfl, rfl⟩))
  refine (dot_any A B C x y z _ (Tab.below (w := w) ht (by repeat (first | (with_reducible exact Below.refl _ _) | (with_reducible exact Hid.out (by with_reducible assumption)) | (with_reducible apply below_drewN) | (with_reducible apply below_drew) | (with_reducible apply below_alloc) | (refine below_set ?_ ?_ _; (focus (first | (simp; done) | (simp; omega)))))))).mono ?_
  rw [O1.out, num2_yes]
  rintro e w5 ⟨rfl, hb⟩
  have hq5 := Lib.hid (below_next (w := w) (by repeat (first | (with_reducible exact Below.refl _ _) | (with_reducible exact Hid.out (by with_reducible assumption)) | (with_reducible apply below_drewN) | (with_reducible apply below_drew) | (with_reducible apply below_alloc) | (refine below_set ?_ ?_ _; (focus (first | (simp; done) | (simp; omega)))))) hb)
  obtain ⟨ex_5, ey_5, ez_5, fx_5, fy_5, fz_5, lx_5⟩ := own3 hb (b := w.heap.size + 1) (x := .int .i64 (x)) (y := .int .i64 (y)) (z := .int .i64 (z)) (by go_simp) (by go_simp) (by go_simp) (by go_simp) (by go_simp) (by go_simp)
  obtain ⟨es_5, et_5, eu_5, fs_5, ft_5, fu_5, ls_5⟩ := own3 hb (b := w4.heap.size) (x := .int .i64 (D)) (y := .int .i64 (E)) (z := .int .i64 (F)) (by go_simp) (by go_simp) (by go_simp) (by go_simp) (by go_simp) (by go_simp)
  clear hq4 ex_4 ey_4 ez_4 fx_4 fy_4 fz_4 ep_4 eq_4 er_4 fp_4 fq_4 fr_4 lx_4 lp_4 hb
  go_wp2_with (first | (go_at_call 22; refine (num_any _ _).mono ?_; rintro e w1 ⟨rfl, rfl⟩))
  refine (dot_any D E F x y z _ (Tab.below (w := w) ht (by repeat (first | (with_reducible exact Below.refl _ _) | (with_reducible exact Hid.out (by with_reducible assumption)) | (with_reducible apply below_drewN) | (with_reducible apply below_drew) | (with_reducible apply below_alloc) | (refine below_set ?_ ?_ _; (focus (first | (simp; done) | (simp; omega)))))))).mono ?_
  rw [O2.out, num2_yes]
  rintro e w6 ⟨rfl, hb⟩
  have hq6 := Lib.hid (below_next (w := w) (by repeat (first | (with_reducible exact Below.refl _ _) | (with_reducible exact Hid.out (by with_reducible assumption)) | (with_reducible apply below_drewN) | (with_reducible apply below_drew) | (with_reducible apply below_alloc) | (refine below_set ?_ ?_ _; (focus (first | (simp; done) | (simp; omega)))))) hb)
  obtain ⟨ex_6, ey_6, ez_6, fx_6, fy_6, fz_6, lx_6⟩ := own3 hb (b := w.heap.size + 1) (x := .int .i64 (x)) (y := .int .i64 (y)) (z := .int .i64 (z)) (by go_simp) (by go_simp) (by go_simp) (by go_simp) (by go_simp) (by go_simp)
  clear hq5 ex_5 ey_5 ez_5 fx_5 fy_5 fz_5 es_5 et_5 eu_5 fs_5 ft_5 fu_5 lx_5 ls_5 hb
  go_wp2_with (first | (go_at_call 22; refine (num_any _ _).mono ?_; rintro e w1 ⟨rfl, rfl⟩))
  go_ret
  exact ⟨ret_bool (by first | rfl | (simp; omega)), (by repeat (first | (with_reducible exact Below.refl _ _) | (with_reducible exact Hid.out (by with_reducible assumption)) | (with_reducible apply below_drewN) | (with_reducible apply below_drew) | (with_reducible apply below_alloc) | (refine below_set ?_ ?_ _; (focus (first | (simp; done) | (simp; omega))))))⟩
theorem mixNearer_walk (a b c x y z : Int) (w : World) (ht : Tab w) : Calls Tryd.prog 14 #[v3 a b c, v3 x y z] w fun e w' => e = .returned (.bool true) ∧ Below w.heap.size w w' := by
  cases h : mixOk a b c x y z
  · exact mixNearer_no a b c x y z w ht h
  · exact mixNearer_yes a b c x y z w ht h
end Go.Proofs.YtlabpfebdhbgiaaDoor
