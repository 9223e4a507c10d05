/- The statements on the mix of three (chapter 8), more: in another row it is the same chance, and learns the same. -/
import Derived.Test.YtlabpfebdhbgiaaDoorLMix
import Derived.Test.YtlabpfebdhbgiaaDoorNumB
import Derived.Deep.RegionHeld3
namespace Go.Proofs.YtlabpfebdhbgiaaDoor
open Go.RowKit
set_option linter.unusedVariables false
set_option linter.unusedSimpArgs false

theorem num2_as (ok : Bool) (v : Int) : ∃ D, num2 ok v 800 = .tuple #[.int .i64 D, .int .i64 (if ok then 0 else 800)] := ⟨_, rfl⟩
set_option maxHeartbeats 4000000 in
theorem mixRow_walk (a b c x y z : Int) (one : Bool) (w : World) (ht : Tab w) : Calls Tryd.prog 13 #[v3 a b c, v3 x y z, .bool one] w fun e w' => e = .returned (.bool true) ∧ Below w.heap.size w w' := by
  obtain ⟨bit, hbit⟩ : ∃ bit : Int, (one = true → bit = 1) ∧ (one = false → bit = 0) := by
    cases one
    · exact ⟨0, by simp⟩
    · exact ⟨1, by simp⟩
  have hbb : 0 ≤ bit ∧ bit ≤ 1 := by cases one <;> simp_all
  have htr : trOk a b c x y z bit = mixOk a b c x y z := by simp [trOk, hbb.1, hbb.2]
  obtain ⟨K, hK⟩ : ∃ K : Int, (if mixOk a b c x y z then 0 else 800) = K := ⟨_, rfl⟩
  obtain ⟨D, hd⟩ := num2_as (mixOk a b c x y z) (dot a b c x y z)
  rw [hK] at hd
  have hd2 : num2 (mixOk c a b z x y) (dot c a b z x y) 800 = .tuple #[.int .i64 D, .int .i64 K] := by rw [mixOk_turn, dot_turn]; exact hd
  obtain ⟨T, hT⟩ : ∃ T, (if mixOk a b c x y z then tw a x (4096 * bit - dot a b c x y z) else 0) = T := ⟨_, rfl⟩
  obtain ⟨U, hU⟩ : ∃ T, (if mixOk a b c x y z then tw b y (4096 * bit - dot a b c x y z) else 0) = T := ⟨_, rfl⟩
  obtain ⟨V, hV⟩ : ∃ T, (if mixOk a b c x y z then tw c z (4096 * bit - dot a b c x y z) else 0) = T := ⟨_, rfl⟩
  have hr : tr3 (trOk a b c x y z bit) (tw a x (4096 * bit - dot a b c x y z)) (tw b y (4096 * bit - dot a b c x y z)) (tw c z (4096 * bit - dot a b c x y z)) = .tuple #[.agg #[.int .i64 T, .int .i64 U, .int .i64 V], .int .i64 K] := by
    rw [htr, ← hT, ← hU, ← hV, ← hK]; rfl
  have hr2 : tr3 (trOk c a b z x y bit) (tw c z (4096 * bit - dot c a b z x y)) (tw a x (4096 * bit - dot c a b z x y)) (tw b y (4096 * bit - dot c a b z x y)) = .tuple #[.agg #[.int .i64 V, .int .i64 T, .int .i64 U], .int .i64 K] := by
    rw [trOk_turn, dot_turn, htr, ← hT, ← hU, ← hV, ← hK]; rfl
  have HD := Lib.hid hd
  have HD2 := Lib.hid hd2
  have HR := Lib.hid hr
  have HR2 := Lib.hid hr2
  clear hd hd2 hr hr2 hT hU hV hK htr hbb
  unfold v3
  cases one
  · obtain rfl := hbit.2 rfl
    clear hbit
    go_enter Tryd.func13, Tryd.ntmps13
    go_wp2_with (first | (go_at_call 22; refine (num_any _ _).mono ?_; rintro e w1 ⟨rfl, rfl⟩))
    refine (awake8 _ (Tab.below (w := w) ht (by repeat (first | (with_reducible exact Below.refl _ _) | (with_reducible exact Hid.out (by with_reducible assumption)) | (with_reducible apply below_drewN) | (with_reducible apply below_drew) | (with_reducible apply below_alloc) | (refine below_set ?_ ?_ _; (focus (first | (simp; done) | (simp; omega)))))))).mono ?_
    rintro e w1 ⟨rfl, hb⟩
    have hq1 := Lib.hid (below_next (w := w) (by repeat (first | (with_reducible exact Below.refl _ _) | (with_reducible exact Hid.out (by with_reducible assumption)) | (with_reducible apply below_drewN) | (with_reducible apply below_drew) | (with_reducible apply below_alloc) | (refine below_set ?_ ?_ _; (focus (first | (simp; done) | (simp; omega)))))) hb)
    obtain ⟨ea_1, eb_1, ec_1, fa_1, fb_1, fc_1, la_1⟩ := own3 hb (b := w.heap.size) (x := .int .i64 (a)) (y := .int .i64 (b)) (z := .int .i64 (c)) (by go_simp) (by go_simp) (by go_simp) (by go_simp) (by go_simp) (by go_simp)
    obtain ⟨ex_1, ey_1, ez_1, fx_1, fy_1, fz_1, lx_1⟩ := own3 hb (b := w.heap.size + 1) (x := .int .i64 (x)) (y := .int .i64 (y)) (z := .int .i64 (z)) (by go_simp) (by go_simp) (by go_simp) (by go_simp) (by go_simp) (by go_simp)
    clear hb
    go_wp2
    have ne0 : (w.heap.size = w1.heap.size) = False := by simp; omega
    have ne1 : (w.heap.size + 1 = w1.heap.size) = False := by simp; omega
    have ne2 : (w.heap.size = w1.heap.size + 1) = False := by simp; omega
    have ne3 : (w.heap.size + 1 = w1.heap.size + 1) = False := by simp; omega
    go_region_held3 (fun w' => w'.cell? ⟨w.heap.size, 0, none⟩ = some (.int .i64 a) ∧ w'.cell? ⟨w.heap.size, 1, none⟩ = some (.int .i64 b) ∧ w'.cell? ⟨w.heap.size, 2, none⟩ = some (.int .i64 c) ∧ w'.cell? ⟨w.heap.size + 1, 0, none⟩ = some (.int .i64 x) ∧ w'.cell? ⟨w.heap.size + 1, 1, none⟩ = some (.int .i64 y) ∧ w'.cell? ⟨w.heap.size + 1, 2, none⟩ = some (.int .i64 z)) (go_keep) (first | fail)
    all_goals clear ne0 ne1 ne2 ne3
    · rename_i hS
      clear hS
      go_wp2_with (first | (go_at_call 22; refine (num_any _ _).mono ?_; rintro e w1 ⟨rfl, rfl⟩))
      refine (dot_any a b c x y z _ (Tab.below (w := w) ht (by repeat (first | (with_reducible exact Below.refl _ _) | (with_reducible exact Hid.out (by with_reducible assumption)) | (with_reducible apply below_drewN) | (with_reducible apply below_drew) | (with_reducible apply below_alloc) | (refine below_set ?_ ?_ _; (focus (first | (simp; done) | (simp; omega)))))))).mono ?_
      rw [HD.out]
      rintro e w2 ⟨rfl, hb⟩
      have hq2 := Lib.hid (below_next (w := w) (by repeat (first | (with_reducible exact Below.refl _ _) | (with_reducible exact Hid.out (by with_reducible assumption)) | (with_reducible apply below_drewN) | (with_reducible apply below_drew) | (with_reducible apply below_alloc) | (refine below_set ?_ ?_ _; (focus (first | (simp; done) | (simp; omega)))))) hb)
      obtain ⟨ea_2, eb_2, ec_2, fa_2, fb_2, fc_2, la_2⟩ := own3 hb (b := w.heap.size) (x := .int .i64 (a)) (y := .int .i64 (b)) (z := .int .i64 (c)) (by go_simp) (by go_simp) (by go_simp) (by go_simp) (by go_simp) (by go_simp)
      obtain ⟨ex_2, ey_2, ez_2, fx_2, fy_2, fz_2, lx_2⟩ := own3 hb (b := w.heap.size + 1) (x := .int .i64 (x)) (y := .int .i64 (y)) (z := .int .i64 (z)) (by go_simp) (by go_simp) (by go_simp) (by go_simp) (by go_simp) (by go_simp)
      obtain ⟨ep_2, eq_2, er_2, fp_2, fq_2, fr_2, lp_2⟩ := own3 hb (b := w1.heap.size) (x := .int .i64 (c)) (y := .int .i64 (a)) (z := .int .i64 (b)) (by go_simp) (by go_simp) (by go_simp) (by go_simp) (by go_simp) (by go_simp)
      obtain ⟨es_2, et_2, eu_2, fs_2, ft_2, fu_2, ls_2⟩ := own3 hb (b := w1.heap.size + 1) (x := .int .i64 (z)) (y := .int .i64 (x)) (z := .int .i64 (y)) (by go_simp) (by go_simp) (by go_simp) (by go_simp) (by go_simp) (by go_simp)
      clear hq1 ea_1 eb_1 ec_1 fa_1 fb_1 fc_1 ex_1 ey_1 ez_1 fx_1 fy_1 fz_1 la_1 lx_1 hb
      go_wp2_with (first | (go_at_call 22; refine (num_any _ _).mono ?_; rintro e w1 ⟨rfl, rfl⟩))
      refine (dot_any c a b z x y _ (Tab.below (w := w) ht (by repeat (first | (with_reducible exact Below.refl _ _) | (with_reducible exact Hid.out (by with_reducible assumption)) | (with_reducible apply below_drewN) | (with_reducible apply below_drew) | (with_reducible apply below_alloc) | (refine below_set ?_ ?_ _; (focus (first | (simp; done) | (simp; omega)))))))).mono ?_
      rw [HD2.out]
      rintro e w3 ⟨rfl, hb⟩
      have hq3 := Lib.hid (below_next (w := w) (by repeat (first | (with_reducible exact Below.refl _ _) | (with_reducible exact Hid.out (by with_reducible assumption)) | (with_reducible apply below_drewN) | (with_reducible apply below_drew) | (with_reducible apply below_alloc) | (refine below_set ?_ ?_ _; (focus (first | (simp; done) | (simp; omega)))))) hb)
      obtain ⟨ea_3, eb_3, ec_3, fa_3, fb_3, fc_3, la_3⟩ := own3 hb (b := w.heap.size) (x := .int .i64 (a)) (y := .int .i64 (b)) (z := .int .i64 (c)) (by go_simp) (by go_simp) (by go_simp) (by go_simp) (by go_simp) (by go_simp)
      obtain ⟨ex_3, ey_3, ez_3, fx_3, fy_3, fz_3, lx_3⟩ := own3 hb (b := w.heap.size + 1) (x := .int .i64 (x)) (y := .int .i64 (y)) (z := .int .i64 (z)) (by go_simp) (by go_simp) (by go_simp) (by go_simp) (by go_simp) (by go_simp)
      obtain ⟨ep_3, eq_3, er_3, fp_3, fq_3, fr_3, lp_3⟩ := own3 hb (b := w1.heap.size) (x := .int .i64 (c)) (y := .int .i64 (a)) (z := .int .i64 (b)) (by go_simp) (by go_simp) (by go_simp) (by go_simp) (by go_simp) (by go_simp)
      obtain ⟨es_3, et_3, eu_3, fs_3, ft_3, fu_3, ls_3⟩ := own3 hb (b := w1.heap.size + 1) (x := .int .i64 (z)) (y := .int .i64 (x)) (z := .int .i64 (y)) (by go_simp) (by go_simp) (by go_simp) (by go_simp) (by go_simp) (by go_simp)
      clear hq2 ea_2 eb_2 ec_2 fa_2 fb_2 fc_2 ex_2 ey_2 ez_2 fx_2 fy_2 fz_2 ep_2 eq_2 er_2 fp_2 fq_2 fr_2 es_2 et_2 eu_2 fs_2 ft_2 fu_2 la_2 lx_2 lp_2 ls_2 hb
      go_wp2_with (first | (go_at_call 22; refine (num_any _ _).mono ?_; rintro e w1 ⟨rfl, rfl⟩))
      refine (train_any a b c x y z _ _ (Tab.below (w := w) ht (by repeat (first | (with_reducible exact Below.refl _ _) | (with_reducible exact Hid.out (by with_reducible assumption)) | (with_reducible apply below_drewN) | (with_reducible apply below_drew) | (with_reducible apply below_alloc) | (refine below_set ?_ ?_ _; (focus (first | (simp; done) | (simp; omega)))))))).mono ?_
      rw [HR.out]
      rintro e w4 ⟨rfl, hb⟩
      have hq4 := Lib.hid (below_next (w := w) (by repeat (first | (with_reducible exact Below.refl _ _) | (with_reducible exact Hid.out (by with_reducible assumption)) | (with_reducible apply below_drewN) | (with_reducible apply below_drew) | (with_reducible apply below_alloc) | (refine below_set ?_ ?_ _; (focus (first | (simp; done) | (simp; omega)))))) hb)
      obtain ⟨ep_4, eq_4, er_4, fp_4, fq_4, fr_4, lp_4⟩ := own3 hb (b := w1.heap.size) (x := .int .i64 (c)) (y := .int .i64 (a)) (z := .int .i64 (b)) (by go_simp) (by go_simp) (by go_simp) (by go_simp) (by go_simp) (by go_simp)
      obtain ⟨es_4, et_4, eu_4, fs_4, ft_4, fu_4, ls_4⟩ := own3 hb (b := w1.heap.size + 1) (x := .int .i64 (z)) (y := .int .i64 (x)) (z := .int .i64 (y)) (by go_simp) (by go_simp) (by go_simp) (by go_simp) (by go_simp) (by go_simp)
      clear hq3 ea_3 eb_3 ec_3 fa_3 fb_3 fc_3 ex_3 ey_3 ez_3 fx_3 fy_3 fz_3 ep_3 eq_3 er_3 fp_3 fq_3 fr_3 es_3 et_3 eu_3 fs_3 ft_3 fu_3 la_3 lx_3 lp_3 ls_3 hb
      go_wp2_with (first | (go_at_call 22; refine (num_any _ _).mono ?_; rintro e w1 ⟨rfl, rfl⟩))
      refine (train_any c a b z x y _ _ (Tab.below (w := w) ht (by repeat (first | (with_reducible exact Below.refl _ _) | (with_reducible exact Hid.out (by with_reducible assumption)) | (with_reducible apply below_drewN) | (with_reducible apply below_drew) | (with_reducible apply below_alloc) | (refine below_set ?_ ?_ _; (focus (first | (simp; done) | (simp; omega)))))))).mono ?_
      rw [HR2.out]
      rintro e w5 ⟨rfl, hb⟩
      have hq5 := Lib.hid (below_next (w := w) (by repeat (first | (with_reducible exact Below.refl _ _) | (with_reducible exact Hid.out (by with_reducible assumption)) | (with_reducible apply below_drewN) | (with_reducible apply below_drew) | (with_reducible apply below_alloc) | (refine below_set ?_ ?_ _; (focus (first | (simp; done) | (simp; omega)))))) hb)
      obtain ⟨ei_5, ej_5, ek_5, fi_5, fj_5, fk_5, li_5⟩ := own3 hb (b := w4.heap.size) (x := .int .i64 (T)) (y := .int .i64 (U)) (z := .int .i64 (V)) (by go_simp) (by go_simp) (by go_simp) (by go_simp) (by go_simp) (by go_simp)
      clear hq4 ep_4 eq_4 er_4 fp_4 fq_4 fr_4 es_4 et_4 eu_4 fs_4 ft_4 fu_4 lp_4 ls_4 hb
      go_wp2_with (first | (go_at_call 22; refine (num_any _ _).mono ?_; rintro e w1 ⟨rfl, rfl⟩))
      go_ret
      exact ⟨rfl, (by repeat (first | (with_reducible exact Below.refl _ _) | (with_reducible exact Hid.out (by with_reducible assumption)) | (with_reducible apply below_drewN) | (with_reducible apply below_drew) | (with_reducible apply below_alloc) | (refine below_set ?_ ?_ _; (focus (first | (simp; done) | (simp; omega))))))⟩
    · rename_i hS
      clear hS
      go_wp2_with (first | (go_at_call 22; refine (num_any _ _).mono ?_; rintro e w1 ⟨rfl, rfl⟩))
      refine (dot_any a b c x y z _ (Tab.below (w := w) ht (by repeat (first | (with_reducible exact Below.refl _ _) | (with_reducible exact Hid.out (by with_reducible assumption)) | (with_reducible apply below_drewN) | (with_reducible apply below_drew) | (with_reducible apply below_alloc) | (refine below_set ?_ ?_ _; (focus (first | (simp; done) | (simp; omega)))))))).mono ?_
      rw [HD.out]
      rintro e w6 ⟨rfl, hb⟩
      have hq6 := Lib.hid (below_next (w := w) (by repeat (first | (with_reducible exact Below.refl _ _) | (with_reducible exact Hid.out (by with_reducible assumption)) | (with_reducible apply below_drewN) | (with_reducible apply below_drew) | (with_reducible apply below_alloc) | (refine below_set ?_ ?_ _; (focus (first | (simp; done) | (simp; omega)))))) hb)
      obtain ⟨ea_6, eb_6, ec_6, fa_6, fb_6, fc_6, la_6⟩ := own3 hb (b := w.heap.size) (x := .int .i64 (a)) (y := .int .i64 (b)) (z := .int .i64 (c)) (by go_simp) (by go_simp) (by go_simp) (by go_simp) (by go_simp) (by go_simp)
      obtain ⟨ex_6, ey_6, ez_6, fx_6, fy_6, fz_6, lx_6⟩ := own3 hb (b := w.heap.size + 1) (x := .int .i64 (x)) (y := .int .i64 (y)) (z := .int .i64 (z)) (by go_simp) (by go_simp) (by go_simp) (by go_simp) (by go_simp) (by go_simp)
      obtain ⟨ep_6, eq_6, er_6, fp_6, fq_6, fr_6, lp_6⟩ := own3 hb (b := w1.heap.size + 1) (x := .int .i64 (c)) (y := .int .i64 (a)) (z := .int .i64 (b)) (by go_simp) (by go_simp) (by go_simp) (by go_simp) (by go_simp) (by go_simp)
      obtain ⟨es_6, et_6, eu_6, fs_6, ft_6, fu_6, ls_6⟩ := own3 hb (b := w1.heap.size) (x := .int .i64 (z)) (y := .int .i64 (x)) (z := .int .i64 (y)) (by go_simp) (by go_simp) (by go_simp) (by go_simp) (by go_simp) (by go_simp)
      clear hq1 ea_1 eb_1 ec_1 fa_1 fb_1 fc_1 ex_1 ey_1 ez_1 fx_1 fy_1 fz_1 la_1 lx_1 hb
      go_wp2_with (first | (go_at_call 22; refine (num_any _ _).mono ?_; rintro e w1 ⟨rfl, rfl⟩))
      refine (dot_any c a b z x y _ (Tab.below (w := w) ht (by repeat (first | (with_reducible exact Below.refl _ _) | (with_reducible exact Hid.out (by with_reducible assumption)) | (with_reducible apply below_drewN) | (with_reducible apply below_drew) | (with_reducible apply below_alloc) | (refine below_set ?_ ?_ _; (focus (first | (simp; done) | (simp; omega)))))))).mono ?_
      rw [HD2.out]
      rintro e w7 ⟨rfl, hb⟩
      have hq7 := Lib.hid (below_next (w := w) (by repeat (first | (with_reducible exact Below.refl _ _) | (with_reducible exact Hid.out (by with_reducible assumption)) | (with_reducible apply below_drewN) | (with_reducible apply below_drew) | (with_reducible apply below_alloc) | (refine below_set ?_ ?_ _; (focus (first | (simp; done) | (simp; omega)))))) hb)
      obtain ⟨ea_7, eb_7, ec_7, fa_7, fb_7, fc_7, la_7⟩ := own3 hb (b := w.heap.size) (x := .int .i64 (a)) (y := .int .i64 (b)) (z := .int .i64 (c)) (by go_simp) (by go_simp) (by go_simp) (by go_simp) (by go_simp) (by go_simp)
      obtain ⟨ex_7, ey_7, ez_7, fx_7, fy_7, fz_7, lx_7⟩ := own3 hb (b := w.heap.size + 1) (x := .int .i64 (x)) (y := .int .i64 (y)) (z := .int .i64 (z)) (by go_simp) (by go_simp) (by go_simp) (by go_simp) (by go_simp) (by go_simp)
      obtain ⟨ep_7, eq_7, er_7, fp_7, fq_7, fr_7, lp_7⟩ := own3 hb (b := w1.heap.size + 1) (x := .int .i64 (c)) (y := .int .i64 (a)) (z := .int .i64 (b)) (by go_simp) (by go_simp) (by go_simp) (by go_simp) (by go_simp) (by go_simp)
      obtain ⟨es_7, et_7, eu_7, fs_7, ft_7, fu_7, ls_7⟩ := own3 hb (b := w1.heap.size) (x := .int .i64 (z)) (y := .int .i64 (x)) (z := .int .i64 (y)) (by go_simp) (by go_simp) (by go_simp) (by go_simp) (by go_simp) (by go_simp)
      clear hq6 ea_6 eb_6 ec_6 fa_6 fb_6 fc_6 ex_6 ey_6 ez_6 fx_6 fy_6 fz_6 ep_6 eq_6 er_6 fp_6 fq_6 fr_6 es_6 et_6 eu_6 fs_6 ft_6 fu_6 la_6 lx_6 lp_6 ls_6 hb
      go_wp2_with (first | (go_at_call 22; refine (num_any _ _).mono ?_; rintro e w1 ⟨rfl, rfl⟩))
      refine (train_any a b c x y z _ _ (Tab.below (w := w) ht (by repeat (first | (with_reducible exact Below.refl _ _) | (with_reducible exact Hid.out (by with_reducible assumption)) | (with_reducible apply below_drewN) | (with_reducible apply below_drew) | (with_reducible apply below_alloc) | (refine below_set ?_ ?_ _; (focus (first | (simp; done) | (simp; omega)))))))).mono ?_
      rw [HR.out]
      rintro e w8 ⟨rfl, hb⟩
      have hq8 := Lib.hid (below_next (w := w) (by repeat (first | (with_reducible exact Below.refl _ _) | (with_reducible exact Hid.out (by with_reducible assumption)) | (with_reducible apply below_drewN) | (with_reducible apply below_drew) | (with_reducible apply below_alloc) | (refine below_set ?_ ?_ _; (focus (first | (simp; done) | (simp; omega)))))) hb)
      obtain ⟨ep_8, eq_8, er_8, fp_8, fq_8, fr_8, lp_8⟩ := own3 hb (b := w1.heap.size + 1) (x := .int .i64 (c)) (y := .int .i64 (a)) (z := .int .i64 (b)) (by go_simp) (by go_simp) (by go_simp) (by go_simp) (by go_simp) (by go_simp)
      obtain ⟨es_8, et_8, eu_8, fs_8, ft_8, fu_8, ls_8⟩ := own3 hb (b := w1.heap.size) (x := .int .i64 (z)) (y := .int .i64 (x)) (z := .int .i64 (y)) (by go_simp) (by go_simp) (by go_simp) (by go_simp) (by go_simp) (by go_simp)
      clear hq7 ea_7 eb_7 ec_7 fa_7 fb_7 fc_7 ex_7 ey_7 ez_7 fx_7 fy_7 fz_7 ep_7 eq_7 er_7 fp_7 fq_7 fr_7 es_7 et_7 eu_7 fs_7 ft_7 fu_7 la_7 lx_7 lp_7 ls_7 hb
      go_wp2_with (first | (go_at_call 22; refine (num_any _ _).mono ?_; rintro e w1 ⟨rfl, rfl⟩))
      refine (train_any c a b z x y _ _ (Tab.below (w := w) ht (by repeat (first | (with_reducible exact Below.refl _ _) | (with_reducible exact Hid.out (by with_reducible assumption)) | (with_reducible apply below_drewN) | (with_reducible apply below_drew) | (with_reducible apply below_alloc) | (refine below_set ?_ ?_ _; (focus (first | (simp; done) | (simp; omega)))))))).mono ?_
      rw [HR2.out]
      rintro e w9 ⟨rfl, hb⟩
      have hq9 := Lib.hid (below_next (w := w) (by repeat (first | (with_reducible exact Below.refl _ _) | (with_reducible exact Hid.out (by with_reducible assumption)) | (with_reducible apply below_drewN) | (with_reducible apply below_drew) | (with_reducible apply below_alloc) | (refine below_set ?_ ?_ _; (focus (first | (simp; done) | (simp; omega)))))) hb)
      obtain ⟨ei_9, ej_9, ek_9, fi_9, fj_9, fk_9, li_9⟩ := own3 hb (b := w8.heap.size) (x := .int .i64 (T)) (y := .int .i64 (U)) (z := .int .i64 (V)) (by go_simp) (by go_simp) (by go_simp) (by go_simp) (by go_simp) (by go_simp)
      clear hq8 ep_8 eq_8 er_8 fp_8 fq_8 fr_8 es_8 et_8 eu_8 fs_8 ft_8 fu_8 lp_8 ls_8 hb
      go_wp2_with (first | (go_at_call 22; refine (num_any _ _).mono ?_; rintro e w1 ⟨rfl, rfl⟩))
      go_ret
      exact ⟨rfl, (by repeat (first | (with_reducible exact Below.refl _ _) | (with_reducible exact Hid.out (by with_reducible assumption)) | (with_reducible apply below_drewN) | (with_reducible apply below_drew) | (with_reducible apply below_alloc) | (refine below_set ?_ ?_ _; (focus (first | (simp; done) | (simp; omega))))))⟩
  · obtain rfl := hbit.1 rfl
    clear hbit
    go_enter Tryd.func13, Tryd.ntmps13
    go_wp2_with (first | (go_at_call 22; refine (num_any _ _).mono ?_; rintro e w1 ⟨rfl, rfl⟩))
    refine (awake8 _ (Tab.below (w := w) ht (by repeat (first | (with_reducible exact Below.refl _ _) | (with_reducible exact Hid.out (by with_reducible assumption)) | (with_reducible apply below_drewN) | (with_reducible apply below_drew) | (with_reducible apply below_alloc) | (refine below_set ?_ ?_ _; (focus (first | (simp; done) | (simp; omega)))))))).mono ?_
    rintro e w10 ⟨rfl, hb⟩
    have hq10 := Lib.hid (below_next (w := w) (by repeat (first | (with_reducible exact Below.refl _ _) | (with_reducible exact Hid.out (by with_reducible assumption)) | (with_reducible apply below_drewN) | (with_reducible apply below_drew) | (with_reducible apply below_alloc) | (refine below_set ?_ ?_ _; (focus (first | (simp; done) | (simp; omega)))))) hb)
    obtain ⟨ea_10, eb_10, ec_10, fa_10, fb_10, fc_10, la_10⟩ := own3 hb (b := w.heap.size) (x := .int .i64 (a)) (y := .int .i64 (b)) (z := .int .i64 (c)) (by go_simp) (by go_simp) (by go_simp) (by go_simp) (by go_simp) (by go_simp)
    obtain ⟨ex_10, ey_10, ez_10, fx_10, fy_10, fz_10, lx_10⟩ := own3 hb (b := w.heap.size + 1) (x := .int .i64 (x)) (y := .int .i64 (y)) (z := .int .i64 (z)) (by go_simp) (by go_simp) (by go_simp) (by go_simp) (by go_simp) (by go_simp)
    clear hb
    go_wp2
    have ne0 : (w.heap.size = w10.heap.size) = False := by simp; omega
    have ne1 : (w.heap.size + 1 = w10.heap.size) = False := by simp; omega
    have ne2 : (w.heap.size = w10.heap.size + 1) = False := by simp; omega
    have ne3 : (w.heap.size + 1 = w10.heap.size + 1) = False := by simp; omega
    go_region_held3 (fun w' => w'.cell? ⟨w.heap.size, 0, none⟩ = some (.int .i64 a) ∧ w'.cell? ⟨w.heap.size, 1, none⟩ = some (.int .i64 b) ∧ w'.cell? ⟨w.heap.size, 2, none⟩ = some (.int .i64 c) ∧ w'.cell? ⟨w.heap.size + 1, 0, none⟩ = some (.int .i64 x) ∧ w'.cell? ⟨w.heap.size + 1, 1, none⟩ = some (.int .i64 y) ∧ w'.cell? ⟨w.heap.size + 1, 2, none⟩ = some (.int .i64 z)) (go_keep) (first | fail)
    all_goals clear ne0 ne1 ne2 ne3
    · rename_i hS
      clear hS
      go_wp2_with (first | (go_at_call 22; refine (num_any _ _).mono ?_; rintro e w1 ⟨rfl, rfl⟩))
      refine (dot_any a b c x y z _ (Tab.below (w := w) ht (by repeat (first | (with_reducible exact Below.refl _ _) | (with_reducible exact Hid.out (by with_reducible assumption)) | (with_reducible apply below_drewN) | (with_reducible apply below_drew) | (with_reducible apply below_alloc) | (refine below_set ?_ ?_ _; (focus (first | (simp; done) | (simp; omega)))))))).mono ?_
      rw [HD.out]
      rintro e w11 ⟨rfl, hb⟩
      have hq11 := Lib.hid (below_next (w := w) (by repeat (first | (with_reducible exact Below.refl _ _) | (with_reducible exact Hid.out (by with_reducible assumption)) | (with_reducible apply below_drewN) | (with_reducible apply below_drew) | (with_reducible apply below_alloc) | (refine below_set ?_ ?_ _; (focus (first | (simp; done) | (simp; omega)))))) hb)
      obtain ⟨ea_11, eb_11, ec_11, fa_11, fb_11, fc_11, la_11⟩ := own3 hb (b := w.heap.size) (x := .int .i64 (a)) (y := .int .i64 (b)) (z := .int .i64 (c)) (by go_simp) (by go_simp) (by go_simp) (by go_simp) (by go_simp) (by go_simp)
      obtain ⟨ex_11, ey_11, ez_11, fx_11, fy_11, fz_11, lx_11⟩ := own3 hb (b := w.heap.size + 1) (x := .int .i64 (x)) (y := .int .i64 (y)) (z := .int .i64 (z)) (by go_simp) (by go_simp) (by go_simp) (by go_simp) (by go_simp) (by go_simp)
      obtain ⟨ep_11, eq_11, er_11, fp_11, fq_11, fr_11, lp_11⟩ := own3 hb (b := w10.heap.size) (x := .int .i64 (c)) (y := .int .i64 (a)) (z := .int .i64 (b)) (by go_simp) (by go_simp) (by go_simp) (by go_simp) (by go_simp) (by go_simp)
      obtain ⟨es_11, et_11, eu_11, fs_11, ft_11, fu_11, ls_11⟩ := own3 hb (b := w10.heap.size + 1) (x := .int .i64 (z)) (y := .int .i64 (x)) (z := .int .i64 (y)) (by go_simp) (by go_simp) (by go_simp) (by go_simp) (by go_simp) (by go_simp)
      clear hq10 ea_10 eb_10 ec_10 fa_10 fb_10 fc_10 ex_10 ey_10 ez_10 fx_10 fy_10 fz_10 la_10 lx_10 hb
      go_wp2_with (first | (go_at_call 22; refine (num_any _ _).mono ?_; rintro e w1 ⟨rfl, rfl⟩))
      refine (dot_any c a b z x y _ (Tab.below (w := w) ht (by repeat (first | (with_reducible exact Below.refl _ _) | (with_reducible exact Hid.out (by with_reducible assumption)) | (with_reducible apply below_drewN) | (with_reducible apply below_drew) | (with_reducible apply below_alloc) | (refine below_set ?_ ?_ _; (focus (first | (simp; done) | (simp; omega)))))))).mono ?_
      rw [HD2.out]
      rintro e w12 ⟨rfl, hb⟩
      have hq12 := Lib.hid (below_next (w := w) (by repeat (first | (with_reducible exact Below.refl _ _) | (with_reducible exact Hid.out (by with_reducible assumption)) | (with_reducible apply below_drewN) | (with_reducible apply below_drew) | (with_reducible apply below_alloc) | (refine below_set ?_ ?_ _; (focus (first | (simp; done) | (simp; omega)))))) hb)
      obtain ⟨ea_12, eb_12, ec_12, fa_12, fb_12, fc_12, la_12⟩ := own3 hb (b := w.heap.size) (x := .int .i64 (a)) (y := .int .i64 (b)) (z := .int .i64 (c)) (by go_simp) (by go_simp) (by go_simp) (by go_simp) (by go_simp) (by go_simp)
      obtain ⟨ex_12, ey_12, ez_12, fx_12, fy_12, fz_12, lx_12⟩ := own3 hb (b := w.heap.size + 1) (x := .int .i64 (x)) (y := .int .i64 (y)) (z := .int .i64 (z)) (by go_simp) (by go_simp) (by go_simp) (by go_simp) (by go_simp) (by go_simp)
      obtain ⟨ep_12, eq_12, er_12, fp_12, fq_12, fr_12, lp_12⟩ := own3 hb (b := w10.heap.size) (x := .int .i64 (c)) (y := .int .i64 (a)) (z := .int .i64 (b)) (by go_simp) (by go_simp) (by go_simp) (by go_simp) (by go_simp) (by go_simp)
      obtain ⟨es_12, et_12, eu_12, fs_12, ft_12, fu_12, ls_12⟩ := own3 hb (b := w10.heap.size + 1) (x := .int .i64 (z)) (y := .int .i64 (x)) (z := .int .i64 (y)) (by go_simp) (by go_simp) (by go_simp) (by go_simp) (by go_simp) (by go_simp)
      clear hq11 ea_11 eb_11 ec_11 fa_11 fb_11 fc_11 ex_11 ey_11 ez_11 fx_11 fy_11 fz_11 ep_11 eq_11 er_11 fp_11 fq_11 fr_11 es_11 et_11 eu_11 fs_11 ft_11 fu_11 la_11 lx_11 lp_11 ls_11 hb
      go_wp2_with (first | (go_at_call 22; refine (num_any _ _).mono ?_; rintro e w1 ⟨rfl, rfl⟩))
      refine (train_any a b c x y z _ _ (Tab.below (w := w) ht (by repeat (first | (with_reducible exact Below.refl _ _) | (with_reducible exact Hid.out (by with_reducible assumption)) | (with_reducible apply below_drewN) | (with_reducible apply below_drew) | (with_reducible apply below_alloc) | (refine below_set ?_ ?_ _; (focus (first | (simp; done) | (simp; omega)))))))).mono ?_
      rw [HR.out]
      rintro e w13 ⟨rfl, hb⟩
      have hq13 := Lib.hid (below_next (w := w) (by repeat (first | (with_reducible exact Below.refl _ _) | (with_reducible exact Hid.out (by with_reducible assumption)) | (with_reducible apply below_drewN) | (with_reducible apply below_drew) | (with_reducible apply below_alloc) | (refine below_set ?_ ?_ _; (focus (first | (simp; done) | (simp; omega)))))) hb)
      obtain ⟨ep_13, eq_13, er_13, fp_13, fq_13, fr_13, lp_13⟩ := own3 hb (b := w10.heap.size) (x := .int .i64 (c)) (y := .int .i64 (a)) (z := .int .i64 (b)) (by go_simp) (by go_simp) (by go_simp) (by go_simp) (by go_simp) (by go_simp)
      obtain ⟨es_13, et_13, eu_13, fs_13, ft_13, fu_13, ls_13⟩ := own3 hb (b := w10.heap.size + 1) (x := .int .i64 (z)) (y := .int .i64 (x)) (z := .int .i64 (y)) (by go_simp) (by go_simp) (by go_simp) (by go_simp) (by go_simp) (by go_simp)
      clear hq12 ea_12 eb_12 ec_12 fa_12 fb_12 fc_12 ex_12 ey_12 ez_12 fx_12 fy_12 fz_12 ep_12 eq_12 er_12 fp_12 fq_12 fr_12 es_12 et_12 eu_12 fs_12 ft_12 fu_12 la_12 lx_12 lp_12 ls_12 hb
      go_wp2_with (first | (go_at_call 22; refine (num_any _ _).mono ?_; rintro e w1 ⟨rfl, rfl⟩))
      refine (train_any c a b z x y _ _ (Tab.below (w := w) ht (by repeat (first | (with_reducible exact Below.refl _ _) | (with_reducible exact Hid.out (by with_reducible assumption)) | (with_reducible apply below_drewN) | (with_reducible apply below_drew) | (with_reducible apply below_alloc) | (refine below_set ?_ ?_ _; (focus (first | (simp; done) | (simp; omega)))))))).mono ?_
      rw [HR2.out]
      rintro e w14 ⟨rfl, hb⟩
      have hq14 := Lib.hid (below_next (w := w) (by repeat (first | (with_reducible exact Below.refl _ _) | (with_reducible exact Hid.out (by with_reducible assumption)) | (with_reducible apply below_drewN) | (with_reducible apply below_drew) | (with_reducible apply below_alloc) | (refine below_set ?_ ?_ _; (focus (first | (simp; done) | (simp; omega)))))) hb)
      obtain ⟨ei_14, ej_14, ek_14, fi_14, fj_14, fk_14, li_14⟩ := own3 hb (b := w13.heap.size) (x := .int .i64 (T)) (y := .int .i64 (U)) (z := .int .i64 (V)) (by go_simp) (by go_simp) (by go_simp) (by go_simp) (by go_simp) (by go_simp)
      clear hq13 ep_13 eq_13 er_13 fp_13 fq_13 fr_13 es_13 et_13 eu_13 fs_13 ft_13 fu_13 lp_13 ls_13 hb
      go_wp2_with (first | (go_at_call 22; refine (num_any _ _).mono ?_; rintro e w1 ⟨rfl, rfl⟩))
      go_ret
      exact ⟨rfl, (by repeat (first | (with_reducible exact Below.refl _ _) | (with_reducible exact Hid.out (by with_reducible assumption)) | (with_reducible apply below_drewN) | (with_reducible apply below_drew) | (with_reducible apply below_alloc) | (refine below_set ?_ ?_ _; (focus (first | (simp; done) | (simp; omega))))))⟩
    · rename_i hS
      clear hS
      go_wp2_with (first | (go_at_call 22; refine (num_any _ _).mono ?_; rintro e w1 ⟨rfl, rfl⟩))
      refine (dot_any a b c x y z _ (Tab.below (w := w) ht (by repeat (first | (with_reducible exact Below.refl _ _) | (with_reducible exact Hid.out (by with_reducible assumption)) | (with_reducible apply below_drewN) | (with_reducible apply below_drew) | (with_reducible apply below_alloc) | (refine below_set ?_ ?_ _; (focus (first | (simp; done) | (simp; omega)))))))).mono ?_
      rw [HD.out]
      rintro e w15 ⟨rfl, hb⟩
      have hq15 := Lib.hid (below_next (w := w) (by repeat (first | (with_reducible exact Below.refl _ _) | (with_reducible exact Hid.out (by with_reducible assumption)) | (with_reducible apply below_drewN) | (with_reducible apply below_drew) | (with_reducible apply below_alloc) | (refine below_set ?_ ?_ _; (focus (first | (simp; done) | (simp; omega)))))) hb)
      obtain ⟨ea_15, eb_15, ec_15, fa_15, fb_15, fc_15, la_15⟩ := own3 hb (b := w.heap.size) (x := .int .i64 (a)) (y := .int .i64 (b)) (z := .int .i64 (c)) (by go_simp) (by go_simp) (by go_simp) (by go_simp) (by go_simp) (by go_simp)
      obtain ⟨ex_15, ey_15, ez_15, fx_15, fy_15, fz_15, lx_15⟩ := own3 hb (b := w.heap.size + 1) (x := .int .i64 (x)) (y := .int .i64 (y)) (z := .int .i64 (z)) (by go_simp) (by go_simp) (by go_simp) (by go_simp) (by go_simp) (by go_simp)
      obtain ⟨ep_15, eq_15, er_15, fp_15, fq_15, fr_15, lp_15⟩ := own3 hb (b := w10.heap.size + 1) (x := .int .i64 (c)) (y := .int .i64 (a)) (z := .int .i64 (b)) (by go_simp) (by go_simp) (by go_simp) (by go_simp) (by go_simp) (by go_simp)
      obtain ⟨es_15, et_15, eu_15, fs_15, ft_15, fu_15, ls_15⟩ := own3 hb (b := w10.heap.size) (x := .int .i64 (z)) (y := .int .i64 (x)) (z := .int .i64 (y)) (by go_simp) (by go_simp) (by go_simp) (by go_simp) (by go_simp) (by go_simp)
      clear hq10 ea_10 eb_10 ec_10 fa_10 fb_10 fc_10 ex_10 ey_10 ez_10 fx_10 fy_10 fz_10 la_10 lx_10 hb
      go_wp2_with (first | (go_at_call 22; refine (num_any _ _).mono ?_; rintro e w1 ⟨rfl, rfl⟩))
      refine (dot_any c a b z x y _ (Tab.below (w := w) ht (by repeat (first | (with_reducible exact Below.refl _ _) | (with_reducible exact Hid.out (by with_reducible assumption)) | (with_reducible apply below_drewN) | (with_reducible apply below_drew) | (with_reducible apply below_alloc) | (refine below_set ?_ ?_ _; (focus (first | (simp; done) | (simp; omega)))))))).mono ?_
      rw [HD2.out]
      rintro e w16 ⟨rfl, hb⟩
      have hq16 := Lib.hid (below_next (w := w) (by repeat (first | (with_reducible exact Below.refl _ _) | (with_reducible exact Hid.out (by with_reducible assumption)) | (with_reducible apply below_drewN) | (with_reducible apply below_drew) | (with_reducible apply below_alloc) | (refine below_set ?_ ?_ _; (focus (first | (simp; done) | (simp; omega)))))) hb)
      obtain ⟨ea_16, eb_16, ec_16, fa_16, fb_16, fc_16, la_16⟩ := own3 hb (b := w.heap.size) (x := .int .i64 (a)) (y := .int .i64 (b)) (z := .int .i64 (c)) (by go_simp) (by go_simp) (by go_simp) (by go_simp) (by go_simp) (by go_simp)
      obtain ⟨ex_16, ey_16, ez_16, fx_16, fy_16, fz_16, lx_16⟩ := own3 hb (b := w.heap.size + 1) (x := .int .i64 (x)) (y := .int .i64 (y)) (z := .int .i64 (z)) (by go_simp) (by go_simp) (by go_simp) (by go_simp) (by go_simp) (by go_simp)
      obtain ⟨ep_16, eq_16, er_16, fp_16, fq_16, fr_16, lp_16⟩ := own3 hb (b := w10.heap.size + 1) (x := .int .i64 (c)) (y := .int .i64 (a)) (z := .int .i64 (b)) (by go_simp) (by go_simp) (by go_simp) (by go_simp) (by go_simp) (by go_simp)
      obtain ⟨es_16, et_16, eu_16, fs_16, ft_16, fu_16, ls_16⟩ := own3 hb (b := w10.heap.size) (x := .int .i64 (z)) (y := .int .i64 (x)) (z := .int .i64 (y)) (by go_simp) (by go_simp) (by go_simp) (by go_simp) (by go_simp) (by go_simp)
      clear hq15 ea_15 eb_15 ec_15 fa_15 fb_15 fc_15 ex_15 ey_15 ez_15 fx_15 fy_15 fz_15 ep_15 eq_15 er_15 fp_15 fq_15 fr_15 es_15 et_15 eu_15 fs_15 ft_15 fu_15 la_15 lx_15 lp_15 ls_15 hb
      go_wp2_with (first | (go_at_call 22; refine (num_any _ _).mono ?_; rintro e w1 ⟨rfl, rfl⟩))
      refine (train_any a b c x y z _ _ (Tab.below (w := w) ht (by repeat (first | (with_reducible exact Below.refl _ _) | (with_reducible exact Hid.out (by with_reducible assumption)) | (with_reducible apply below_drewN) | (with_reducible apply below_drew) | (with_reducible apply below_alloc) | (refine below_set ?_ ?_ _; (focus (first | (simp; done) | (simp; omega)))))))).mono ?_
      rw [HR.out]
      rintro e w17 ⟨rfl, hb⟩
      have hq17 := Lib.hid (below_next (w := w) (by repeat (first | (with_reducible exact Below.refl _ _) | (with_reducible exact Hid.out (by with_reducible assumption)) | (with_reducible apply below_drewN) | (with_reducible apply below_drew) | (with_reducible apply below_alloc) | (refine below_set ?_ ?_ _; (focus (first | (simp; done) | (simp; omega)))))) hb)
      obtain ⟨ep_17, eq_17, er_17, fp_17, fq_17, fr_17, lp_17⟩ := own3 hb (b := w10.heap.size + 1) (x := .int .i64 (c)) (y := .int .i64 (a)) (z := .int .i64 (b)) (by go_simp) (by go_simp) (by go_simp) (by go_simp) (by go_simp) (by go_simp)
      obtain ⟨es_17, et_17, eu_17, fs_17, ft_17, fu_17, ls_17⟩ := own3 hb (b := w10.heap.size) (x := .int .i64 (z)) (y := .int .i64 (x)) (z := .int .i64 (y)) (by go_simp) (by go_simp) (by go_simp) (by go_simp) (by go_simp) (by go_simp)
      clear hq16 ea_16 eb_16 ec_16 fa_16 fb_16 fc_16 ex_16 ey_16 ez_16 fx_16 fy_16 fz_16 ep_16 eq_16 er_16 fp_16 fq_16 fr_16 es_16 et_16 eu_16 fs_16 ft_16 fu_16 la_16 lx_16 lp_16 ls_16 hb
      go_wp2_with (first | (go_at_call 22; refine (num_any _ _).mono ?_; rintro e w1 ⟨rfl, rfl⟩))
      refine (train_any c a b z x y _ _ (Tab.below (w := w) ht (by repeat (first | (with_reducible exact Below.refl _ _) | (with_reducible exact Hid.out (by with_reducible assumption)) | (with_reducible apply below_drewN) | (with_reducible apply below_drew) | (with_reducible apply below_alloc) | (refine below_set ?_ ?_ _; (focus (first | (simp; done) | (simp; omega)))))))).mono ?_
      rw [HR2.out]
      rintro e w18 ⟨rfl, hb⟩
      have hq18 := Lib.hid (below_next (w := w) (by repeat (first | (with_reducible exact Below.refl _ _) | (with_reducible exact Hid.out (by with_reducible assumption)) | (with_reducible apply below_drewN) | (with_reducible apply below_drew) | (with_reducible apply below_alloc) | (refine below_set ?_ ?_ _; (focus (first | (simp; done) | (simp; omega)))))) hb)
      obtain ⟨ei_18, ej_18, ek_18, fi_18, fj_18, fk_18, li_18⟩ := own3 hb (b := w17.heap.size) (x := .int .i64 (T)) (y := .int .i64 (U)) (z := .int .i64 (V)) (by go_simp) (by go_simp) (by go_simp) (by go_simp) (by go_simp) (by go_simp)
      clear hq17 ep_17 eq_17 er_17 fp_17 fq_17 fr_17 es_17 et_17 eu_17 fs_17 ft_17 fu_17 lp_17 ls_17 hb
      go_wp2_with (first | (go_at_call 22; refine (num_any _ _).mono ?_; rintro e w1 ⟨rfl, rfl⟩))
      go_ret
      exact ⟨rfl, (by repeat (first | (with_reducible exact Below.refl _ _) | (with_reducible exact Hid.out (by with_reducible assumption)) | (with_reducible apply below_drewN) | (with_reducible apply below_drew) | (with_reducible apply below_alloc) | (refine below_set ?_ ?_ _; (focus (first | (simp; done) | (simp; omega))))))⟩
end Go.Proofs.YtlabpfebdhbgiaaDoor
