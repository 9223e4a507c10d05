/- The statements on the mix of three (chapter 8), more: a weight more of an input above 0 is no lesser chance. -/
import Derived.Test.YtlabpfebdhbgiaaDoorLMixB
namespace Go.Proofs.YtlabpfebdhbgiaaDoor
open Go.RowKit
set_option linter.unusedVariables false
set_option linter.unusedSimpArgs false

theorem mixMore_sum {a b c x y z a' b' c' k : Int} (h : mixOk a b c x y z = true) (h' : mixOk a' b' c' x y z = true) (d : Int) (hd : 0 ≤ d) (e : dsum a' b' c' x y z = dsum a b c x y z + d * k) :
    (k = 0 ∧ dot a b c x y z = dot a' b' c' x y z) ∨ (0 < k ∧ dot a b c x y z ≤ dot a' b' c' x y z) ∨ (k < 0 ∧ dot a' b' c' x y z ≤ dot a b c x y z) := by
  rcases (by omega : k = 0 ∨ 0 < k ∨ k < 0) with hk | hk | hk
  · subst hk
    have : dsum a' b' c' x y z = dsum a b c x y z := by rw [e]; simp
    exact .inl ⟨rfl, by unfold dot; rw [this]⟩
  · have : 0 ≤ d * k := Int.mul_nonneg hd (by omega)
    exact .inr (.inl ⟨hk, dot_mono (by omega)⟩)
  · have : d * k ≤ 0 := Int.mul_nonpos_of_nonneg_of_nonpos hd (by omega)
    exact .inr (.inr ⟨hk, dot_mono (by omega)⟩)
theorem more0 {a b c x y z A : Int} (h : mixOk a b c x y z = true) (h1 : a ≤ A) (h2 : A ≤ 1048576) : mixOk A b c x y z = true ∧ ((x = 0 ∧ dot a b c x y z = dot A b c x y z) ∨ (0 < x ∧ dot a b c x y z ≤ dot A b c x y z) ∨ (x < 0 ∧ dot A b c x y z ≤ dot a b c x y z)) := by
  have ho : mixOk A b c x y z = true := by obtain ⟨p, q⟩ := mixOk_iff.1 h; exact mixOk_iff.2 ⟨by omega, q⟩
  refine ⟨ho, mixMore_sum h ho (A - a) (by omega) ?_⟩
  unfold dsum
  rw [Int.sub_mul]
  omega
theorem more1 {a b c x y z A : Int} (h : mixOk a b c x y z = true) (h1 : b ≤ A) (h2 : A ≤ 1048576) : mixOk a A c x y z = true ∧ ((y = 0 ∧ dot a b c x y z = dot a A c x y z) ∨ (0 < y ∧ dot a b c x y z ≤ dot a A c x y z) ∨ (y < 0 ∧ dot a A c x y z ≤ dot a b c x y z)) := by
  have ho : mixOk a A c x y z = true := by obtain ⟨p, q⟩ := mixOk_iff.1 h; exact mixOk_iff.2 ⟨by omega, q⟩
  refine ⟨ho, mixMore_sum h ho (A - b) (by omega) ?_⟩
  unfold dsum
  rw [Int.sub_mul]
  omega
theorem more2 {a b c x y z A : Int} (h : mixOk a b c x y z = true) (h1 : c ≤ A) (h2 : A ≤ 1048576) : mixOk a b A x y z = true ∧ ((z = 0 ∧ dot a b c x y z = dot a b A x y z) ∨ (0 < z ∧ dot a b c x y z ≤ dot a b A x y z) ∨ (z < 0 ∧ dot a b A x y z ≤ dot a b c x y z)) := by
  have ho : mixOk a b A x y z = true := by obtain ⟨p, q⟩ := mixOk_iff.1 h; exact mixOk_iff.2 ⟨by omega, q⟩
  refine ⟨ho, mixMore_sum h ho (A - c) (by omega) ?_⟩
  unfold dsum
  rw [Int.sub_mul]
  omega
set_option maxHeartbeats 1000000 in
theorem mixMore_no (a b c x y z at_ by_ : Int) (w : World) (ht : Tab w) (h : mixOk a b c x y z = false) : Calls Tryd.prog 12 #[v3 a b c, v3 x y z, .int .i64 at_, .int .i64 by_] w fun e w' => e = .returned (.bool true) ∧ Below w.heap.size w w' := by
  have H := Lib.hid h
  clear h
  obtain ⟨r, hr, r0, r1⟩ := umod at_ 3 (by decide) (by decide)
  obtain ⟨m, hm⟩ : ∃ m, bits .and .i64 by_ 65535 = m := ⟨_, rfl⟩
  have hr3 : r = 0 ∨ r = 1 ∨ r = 2 := by omega
  clear r0 r1
  unfold v3
  rcases hr3 with rfl | rfl | rfl
  all_goals
    go_enter Tryd.func12, Tryd.ntmps12
    go_wp2_with (first | (go_at_call 22; refine (num_any _ _).mono ?_; rintro e w1 ⟨rfl, rfl⟩))
    refine (awake8 _ (Tab.below (w := w) ht (by repeat (first | (with_reducible exact Below.refl _ _) | (with_reducible exact Hid.out (by with_reducible assumption)) | (with_reducible apply below_drewN) | (with_reducible apply below_drew) | (with_reducible apply below_alloc) | (refine below_set ?_ ?_ _; (focus (first | (simp; done) | (simp; omega)))))))).mono ?_
    rintro e w1 ⟨rfl, hb⟩
    have hq1 := Lib.hid (below_next (w := w) (by repeat (first | (with_reducible exact Below.refl _ _) | (with_reducible exact Hid.out (by with_reducible assumption)) | (with_reducible apply below_drewN) | (with_reducible apply below_drew) | (with_reducible apply below_alloc) | (refine below_set ?_ ?_ _; (focus (first | (simp; done) | (simp; omega)))))) hb)
    obtain ⟨ea_1, eb_1, ec_1, fa_1, fb_1, fc_1, la_1⟩ := own3 hb (b := w.heap.size) (x := .int .i64 (a)) (y := .int .i64 (b)) (z := .int .i64 (c)) (by go_simp) (by go_simp) (by go_simp) (by go_simp) (by go_simp) (by go_simp)
    obtain ⟨ex_1, ey_1, ez_1, fx_1, fy_1, fz_1, lx_1⟩ := own3 hb (b := w.heap.size + 1) (x := .int .i64 (x)) (y := .int .i64 (y)) (z := .int .i64 (z)) (by go_simp) (by go_simp) (by go_simp) (by go_simp) (by go_simp) (by go_simp)
    clear hb
    go_wp2_with (first | (go_at_call 22; refine (num_any _ _).mono ?_; rintro e w1 ⟨rfl, rfl⟩))
    refine (dot_any a b c x y z _ (Tab.below (w := w) ht (by repeat (first | (with_reducible exact Below.refl _ _) | (with_reducible exact Hid.out (by with_reducible assumption)) | (with_reducible apply below_drewN) | (with_reducible apply below_drew) | (with_reducible apply below_alloc) | (refine below_set ?_ ?_ _; (focus (first | (simp; done) | (simp; omega)))))))).mono ?_
    rw [H.out, num2_no]
    rintro e w2 ⟨rfl, hb⟩
    have hq2 := Lib.hid (below_next (w := w) (by repeat (first | (with_reducible exact Below.refl _ _) | (with_reducible exact Hid.out (by with_reducible assumption)) | (with_reducible apply below_drewN) | (with_reducible apply below_drew) | (with_reducible apply below_alloc) | (refine below_set ?_ ?_ _; (focus (first | (simp; done) | (simp; omega)))))) hb)
    obtain ⟨ea_2, eb_2, ec_2, fa_2, fb_2, fc_2, la_2⟩ := own3 hb (b := w.heap.size) (x := .int .i64 (a)) (y := .int .i64 (b)) (z := .int .i64 (c)) (by go_simp) (by go_simp) (by go_simp) (by go_simp) (by go_simp) (by go_simp)
    obtain ⟨ex_2, ey_2, ez_2, fx_2, fy_2, fz_2, lx_2⟩ := own3 hb (b := w.heap.size + 1) (x := .int .i64 (x)) (y := .int .i64 (y)) (z := .int .i64 (z)) (by go_simp) (by go_simp) (by go_simp) (by go_simp) (by go_simp) (by go_simp)
    clear hq1 ea_1 eb_1 ec_1 fa_1 fb_1 fc_1 ex_1 ey_1 ez_1 fx_1 fy_1 fz_1 la_1 lx_1 hb
    go_wp2_with fail
    all_goals
      go_wp2_with (first | (go_at_call 22; refine (num_any _ _).mono ?_; rintro e w1 ⟨rfl, rfl⟩))
      refine (dot_any _ _ _ _ _ _ _ (Tab.below (w := w) ht (by repeat (first | (with_reducible exact Below.refl _ _) | (with_reducible exact Hid.out (by with_reducible assumption)) | (with_reducible apply below_drewN) | (with_reducible apply below_drew) | (with_reducible apply below_alloc) | (refine below_set ?_ ?_ _; (focus (first | (simp; done) | (simp; omega)))))))).mono ?_
      rintro e w3 ⟨rfl, hb⟩
      have hq3 := Lib.hid (below_next (w := w) (by repeat (first | (with_reducible exact Below.refl _ _) | (with_reducible exact Hid.out (by with_reducible assumption)) | (with_reducible apply below_drewN) | (with_reducible apply below_drew) | (with_reducible apply below_alloc) | (refine below_set ?_ ?_ _; (focus (first | (simp; done) | (simp; omega)))))) hb)
      obtain ⟨ex_3, ey_3, ez_3, fx_3, fy_3, fz_3, lx_3⟩ := own3 hb (b := w.heap.size + 1) (x := .int .i64 (x)) (y := .int .i64 (y)) (z := .int .i64 (z)) (by go_simp) (by go_simp) (by go_simp) (by go_simp) (by go_simp) (by go_simp)
      clear hq2 ea_2 eb_2 ec_2 fa_2 fb_2 fc_2 ex_2 ey_2 ez_2 fx_2 fy_2 fz_2 la_2 lx_2 hb
      go_wp2_with (first | (go_at_call 22; refine (num_any _ _).mono ?_; rintro e w1 ⟨rfl, rfl⟩))
      all_goals (go_ret; exact ⟨rfl, (by repeat (first | (with_reducible exact Below.refl _ _) | (with_reducible exact Hid.out (by with_reducible assumption)) | (with_reducible apply below_drewN) | (with_reducible apply below_drew) | (with_reducible apply below_alloc) | (refine below_set ?_ ?_ _; (focus (first | (simp; done) | (simp; omega))))))⟩)
set_option maxHeartbeats 2000000 in
theorem mixMore_yes0 (a b c x y z at_ by_ : Int) (w : World) (ht : Tab w) (h : mixOk a b c x y z = true) (hr : (IntKind.u64.wrap at_).tmod 3 = 0) : Calls Tryd.prog 12 #[v3 a b c, v3 x y z, .int .i64 at_, .int .i64 by_] w fun e w' => e = .returned (.bool true) ∧ Below w.heap.size w w' := by
  obtain ⟨⟨a0, a1, b0, b1, c0, c1⟩, -⟩ := mixOk_iff.1 h
  have H := Lib.hid h
  clear h
  obtain ⟨m, hm⟩ : ∃ m, bits .and .i64 by_ 65535 = m := ⟨_, rfl⟩
  have hm0 : 0 ≤ m ∧ m < 65536 := by rw [← hm, i64_mask 16 65535 (by decide) (by decide)]; omega
  obtain ⟨m0, m1⟩ := hm0
  unfold v3
  go_enter Tryd.func12, Tryd.ntmps12
  go_wp2_with (first | (go_at_call 22; refine (num_any _ _).mono ?_; rintro e w1 ⟨rfl, rfl⟩))
  refine (awake8 _ (Tab.below (w := w) ht (by repeat (first | (with_reducible exact Below.refl _ _) | (with_reducible exact Hid.out (by with_reducible assumption)) | (with_reducible apply below_drewN) | (with_reducible apply below_drew) | (with_reducible apply below_alloc) | (refine below_set ?_ ?_ _; (focus (first | (simp; done) | (simp; omega)))))))).mono ?_
  rintro e w1 ⟨rfl, hb⟩
  have hq1 := Lib.hid (below_next (w := w) (by repeat (first | (with_reducible exact Below.refl _ _) | (with_reducible exact Hid.out (by with_reducible assumption)) | (with_reducible apply below_drewN) | (with_reducible apply below_drew) | (with_reducible apply below_alloc) | (refine below_set ?_ ?_ _; (focus (first | (simp; done) | (simp; omega)))))) hb)
  obtain ⟨ea_1, eb_1, ec_1, fa_1, fb_1, fc_1, la_1⟩ := own3 hb (b := w.heap.size) (x := .int .i64 (a)) (y := .int .i64 (b)) (z := .int .i64 (c)) (by go_simp) (by go_simp) (by go_simp) (by go_simp) (by go_simp) (by go_simp)
  obtain ⟨ex_1, ey_1, ez_1, fx_1, fy_1, fz_1, lx_1⟩ := own3 hb (b := w.heap.size + 1) (x := .int .i64 (x)) (y := .int .i64 (y)) (z := .int .i64 (z)) (by go_simp) (by go_simp) (by go_simp) (by go_simp) (by go_simp) (by go_simp)
  clear hb
  go_wp2_with (first | (go_at_call 22; refine (num_any _ _).mono ?_; rintro e w1 ⟨rfl, rfl⟩))
  refine (dot_any a b c x y z _ (Tab.below (w := w) ht (by repeat (first | (with_reducible exact Below.refl _ _) | (with_reducible exact Hid.out (by with_reducible assumption)) | (with_reducible apply below_drewN) | (with_reducible apply below_drew) | (with_reducible apply below_alloc) | (refine below_set ?_ ?_ _; (focus (first | (simp; done) | (simp; omega)))))))).mono ?_
  rw [H.out, num2_yes]
  rintro e w2 ⟨rfl, hb⟩
  have hq2 := Lib.hid (below_next (w := w) (by repeat (first | (with_reducible exact Below.refl _ _) | (with_reducible exact Hid.out (by with_reducible assumption)) | (with_reducible apply below_drewN) | (with_reducible apply below_drew) | (with_reducible apply below_alloc) | (refine below_set ?_ ?_ _; (focus (first | (simp; done) | (simp; omega)))))) hb)
  obtain ⟨ea_2, eb_2, ec_2, fa_2, fb_2, fc_2, la_2⟩ := own3 hb (b := w.heap.size) (x := .int .i64 (a)) (y := .int .i64 (b)) (z := .int .i64 (c)) (by go_simp) (by go_simp) (by go_simp) (by go_simp) (by go_simp) (by go_simp)
  obtain ⟨ex_2, ey_2, ez_2, fx_2, fy_2, fz_2, lx_2⟩ := own3 hb (b := w.heap.size + 1) (x := .int .i64 (x)) (y := .int .i64 (y)) (z := .int .i64 (z)) (by go_simp) (by go_simp) (by go_simp) (by go_simp) (by go_simp) (by go_simp)
  clear hq1 ea_1 eb_1 ec_1 fa_1 fb_1 fc_1 ex_1 ey_1 ez_1 fx_1 fy_1 fz_1 la_1 lx_1 hb
  go_wp2_with fail
  all_goals
    go_wp2_with (first | (go_at_call 22; refine (num_any _ _).mono ?_; rintro e w1 ⟨rfl, rfl⟩))
    refine (dot_any _ _ _ _ _ _ _ (Tab.below (w := w) ht (by repeat (first | (with_reducible exact Below.refl _ _) | (with_reducible exact Hid.out (by with_reducible assumption)) | (with_reducible apply below_drewN) | (with_reducible apply below_drew) | (with_reducible apply below_alloc) | (refine below_set ?_ ?_ _; (focus (first | (simp; done) | (simp; omega)))))))).mono ?_
    first | (obtain ⟨o, s⟩ := more0 (A := 1048576) H.out (by omega) (by omega); rw [o, num2_yes]; have S := Lib.hid s; clear s o; generalize dot 1048576 b c x y z = Q at S ⊢) | (obtain ⟨o, s⟩ := more0 (A := (a + m)) H.out (by omega) (by omega); rw [o, num2_yes]; have S := Lib.hid s; clear s o; generalize dot (a + m) b c x y z = Q at S ⊢)
    rintro e w3 ⟨rfl, hb⟩
    have hq3 := Lib.hid (below_next (w := w) (by repeat (first | (with_reducible exact Below.refl _ _) | (with_reducible exact Hid.out (by with_reducible assumption)) | (with_reducible apply below_drewN) | (with_reducible apply below_drew) | (with_reducible apply below_alloc) | (refine below_set ?_ ?_ _; (focus (first | (simp; done) | (simp; omega)))))) hb)
    obtain ⟨ex_3, ey_3, ez_3, fx_3, fy_3, fz_3, lx_3⟩ := own3 hb (b := w.heap.size + 1) (x := .int .i64 (x)) (y := .int .i64 (y)) (z := .int .i64 (z)) (by go_simp) (by go_simp) (by go_simp) (by go_simp) (by go_simp) (by go_simp)
    clear hq2 ea_2 eb_2 ec_2 fa_2 fb_2 fc_2 ex_2 ey_2 ez_2 fx_2 fy_2 fz_2 la_2 lx_2 hb
    generalize dot a b c x y z = D at S ⊢
    rcases S.out with ⟨g1, g2⟩ | ⟨g1, g2⟩ | ⟨g1, g2⟩
    · have t1 : (x == 0) = true := by simp; omega
      have t2 : (D == Q) = true := by simp; omega
      clear g1 g2 S
      go_wp2_with (first | (go_at_call 22; refine (num_any _ _).mono ?_; rintro e w1 ⟨rfl, rfl⟩))
      go_ret
      exact ⟨rfl, (by repeat (first | (with_reducible exact Below.refl _ _) | (with_reducible exact Hid.out (by with_reducible assumption)) | (with_reducible apply below_drewN) | (with_reducible apply below_drew) | (with_reducible apply below_alloc) | (refine below_set ?_ ?_ _; (focus (first | (simp; done) | (simp; omega))))))⟩
    · have t1 : (x == 0) = false := by simp; omega
      have t2 : decide (0 < x) = true := by simp; omega
      have t3 : decide (D ≤ Q) = true := by simp; omega
      clear g1 g2 S
      go_wp2_with (first | (go_at_call 22; refine (num_any _ _).mono ?_; rintro e w1 ⟨rfl, rfl⟩))
      go_ret
      exact ⟨rfl, (by repeat (first | (with_reducible exact Below.refl _ _) | (with_reducible exact Hid.out (by with_reducible assumption)) | (with_reducible apply below_drewN) | (with_reducible apply below_drew) | (with_reducible apply below_alloc) | (refine below_set ?_ ?_ _; (focus (first | (simp; done) | (simp; omega))))))⟩
    · have t1 : (x == 0) = false := by simp; omega
      have t2 : decide (0 < x) = false := by simp; omega
      have t3 : decide (x < 0) = true := by simp; omega
      have t4 : decide (Q ≤ D) = true := by simp; omega
      clear g1 g2 S
      go_wp2_with (first | (go_at_call 22; refine (num_any _ _).mono ?_; rintro e w1 ⟨rfl, rfl⟩))
      go_ret
      exact ⟨rfl, (by repeat (first | (with_reducible exact Below.refl _ _) | (with_reducible exact Hid.out (by with_reducible assumption)) | (with_reducible apply below_drewN) | (with_reducible apply below_drew) | (with_reducible apply below_alloc) | (refine below_set ?_ ?_ _; (focus (first | (simp; done) | (simp; omega))))))⟩
set_option maxHeartbeats 2000000 in
theorem mixMore_yes1 (a b c x y z at_ by_ : Int) (w : World) (ht : Tab w) (h : mixOk a b c x y z = true) (hr : (IntKind.u64.wrap at_).tmod 3 = 1) : Calls Tryd.prog 12 #[v3 a b c, v3 x y z, .int .i64 at_, .int .i64 by_] w fun e w' => e = .returned (.bool true) ∧ Below w.heap.size w w' := by
  obtain ⟨⟨a0, a1, b0, b1, c0, c1⟩, -⟩ := mixOk_iff.1 h
  have H := Lib.hid h
  clear h
  obtain ⟨m, hm⟩ : ∃ m, bits .and .i64 by_ 65535 = m := ⟨_, rfl⟩
  have hm0 : 0 ≤ m ∧ m < 65536 := by rw [← hm, i64_mask 16 65535 (by decide) (by decide)]; omega
  obtain ⟨m0, m1⟩ := hm0
  unfold v3
  go_enter Tryd.func12, Tryd.ntmps12
  go_wp2_with (first | (go_at_call 22; refine (num_any _ _).mono ?_; rintro e w1 ⟨rfl, rfl⟩))
  refine (awake8 _ (Tab.below (w := w) ht (by repeat (first | (with_reducible exact Below.refl _ _) | (with_reducible exact Hid.out (by with_reducible assumption)) | (with_reducible apply below_drewN) | (with_reducible apply below_drew) | (with_reducible apply below_alloc) | (refine below_set ?_ ?_ _; (focus (first | (simp; done) | (simp; omega)))))))).mono ?_
  rintro e w1 ⟨rfl, hb⟩
  have hq1 := Lib.hid (below_next (w := w) (by repeat (first | (with_reducible exact Below.refl _ _) | (with_reducible exact Hid.out (by with_reducible assumption)) | (with_reducible apply below_drewN) | (with_reducible apply below_drew) | (with_reducible apply below_alloc) | (refine below_set ?_ ?_ _; (focus (first | (simp; done) | (simp; omega)))))) hb)
  obtain ⟨ea_1, eb_1, ec_1, fa_1, fb_1, fc_1, la_1⟩ := own3 hb (b := w.heap.size) (x := .int .i64 (a)) (y := .int .i64 (b)) (z := .int .i64 (c)) (by go_simp) (by go_simp) (by go_simp) (by go_simp) (by go_simp) (by go_simp)
  obtain ⟨ex_1, ey_1, ez_1, fx_1, fy_1, fz_1, lx_1⟩ := own3 hb (b := w.heap.size + 1) (x := .int .i64 (x)) (y := .int .i64 (y)) (z := .int .i64 (z)) (by go_simp) (by go_simp) (by go_simp) (by go_simp) (by go_simp) (by go_simp)
  clear hb
  go_wp2_with (first | (go_at_call 22; refine (num_any _ _).mono ?_; rintro e w1 ⟨rfl, rfl⟩))
  refine (dot_any a b c x y z _ (Tab.below (w := w) ht (by repeat (first | (with_reducible exact Below.refl _ _) | (with_reducible exact Hid.out (by with_reducible assumption)) | (with_reducible apply below_drewN) | (with_reducible apply below_drew) | (with_reducible apply below_alloc) | (refine below_set ?_ ?_ _; (focus (first | (simp; done) | (simp; omega)))))))).mono ?_
  rw [H.out, num2_yes]
  rintro e w2 ⟨rfl, hb⟩
  have hq2 := Lib.hid (below_next (w := w) (by repeat (first | (with_reducible exact Below.refl _ _) | (with_reducible exact Hid.out (by with_reducible assumption)) | (with_reducible apply below_drewN) | (with_reducible apply below_drew) | (with_reducible apply below_alloc) | (refine below_set ?_ ?_ _; (focus (first | (simp; done) | (simp; omega)))))) hb)
  obtain ⟨ea_2, eb_2, ec_2, fa_2, fb_2, fc_2, la_2⟩ := own3 hb (b := w.heap.size) (x := .int .i64 (a)) (y := .int .i64 (b)) (z := .int .i64 (c)) (by go_simp) (by go_simp) (by go_simp) (by go_simp) (by go_simp) (by go_simp)
  obtain ⟨ex_2, ey_2, ez_2, fx_2, fy_2, fz_2, lx_2⟩ := own3 hb (b := w.heap.size + 1) (x := .int .i64 (x)) (y := .int .i64 (y)) (z := .int .i64 (z)) (by go_simp) (by go_simp) (by go_simp) (by go_simp) (by go_simp) (by go_simp)
  clear hq1 ea_1 eb_1 ec_1 fa_1 fb_1 fc_1 ex_1 ey_1 ez_1 fx_1 fy_1 fz_1 la_1 lx_1 hb
  go_wp2_with fail
  all_goals
    go_wp2_with (first | (go_at_call 22; refine (num_any _ _).mono ?_; rintro e w1 ⟨rfl, rfl⟩))
    refine (dot_any _ _ _ _ _ _ _ (Tab.below (w := w) ht (by repeat (first | (with_reducible exact Below.refl _ _) | (with_reducible exact Hid.out (by with_reducible assumption)) | (with_reducible apply below_drewN) | (with_reducible apply below_drew) | (with_reducible apply below_alloc) | (refine below_set ?_ ?_ _; (focus (first | (simp; done) | (simp; omega)))))))).mono ?_
    first | (obtain ⟨o, s⟩ := more1 (A := 1048576) H.out (by omega) (by omega); rw [o, num2_yes]; have S := Lib.hid s; clear s o; generalize dot a 1048576 c x y z = Q at S ⊢) | (obtain ⟨o, s⟩ := more1 (A := (b + m)) H.out (by omega) (by omega); rw [o, num2_yes]; have S := Lib.hid s; clear s o; generalize dot a (b + m) c x y z = Q at S ⊢)
    rintro e w3 ⟨rfl, hb⟩
    have hq3 := Lib.hid (below_next (w := w) (by repeat (first | (with_reducible exact Below.refl _ _) | (with_reducible exact Hid.out (by with_reducible assumption)) | (with_reducible apply below_drewN) | (with_reducible apply below_drew) | (with_reducible apply below_alloc) | (refine below_set ?_ ?_ _; (focus (first | (simp; done) | (simp; omega)))))) hb)
    obtain ⟨ex_3, ey_3, ez_3, fx_3, fy_3, fz_3, lx_3⟩ := own3 hb (b := w.heap.size + 1) (x := .int .i64 (x)) (y := .int .i64 (y)) (z := .int .i64 (z)) (by go_simp) (by go_simp) (by go_simp) (by go_simp) (by go_simp) (by go_simp)
    clear hq2 ea_2 eb_2 ec_2 fa_2 fb_2 fc_2 ex_2 ey_2 ez_2 fx_2 fy_2 fz_2 la_2 lx_2 hb
    generalize dot a b c x y z = D at S ⊢
    rcases S.out with ⟨g1, g2⟩ | ⟨g1, g2⟩ | ⟨g1, g2⟩
    · have t1 : (y == 0) = true := by simp; omega
      have t2 : (D == Q) = true := by simp; omega
      clear g1 g2 S
      go_wp2_with (first | (go_at_call 22; refine (num_any _ _).mono ?_; rintro e w1 ⟨rfl, rfl⟩))
      go_ret
      exact ⟨rfl, (by repeat (first | (with_reducible exact Below.refl _ _) | (with_reducible exact Hid.out (by with_reducible assumption)) | (with_reducible apply below_drewN) | (with_reducible apply below_drew) | (with_reducible apply below_alloc) | (refine below_set ?_ ?_ _; (focus (first | (simp; done) | (simp; omega))))))⟩
    · have t1 : (y == 0) = false := by simp; omega
      have t2 : decide (0 < y) = true := by simp; omega
      have t3 : decide (D ≤ Q) = true := by simp; omega
      clear g1 g2 S
      go_wp2_with (first | (go_at_call 22; refine (num_any _ _).mono ?_; rintro e w1 ⟨rfl, rfl⟩))
      go_ret
      exact ⟨rfl, (by repeat (first | (with_reducible exact Below.refl _ _) | (with_reducible exact Hid.out (by with_reducible assumption)) | (with_reducible apply below_drewN) | (with_reducible apply below_drew) | (with_reducible apply below_alloc) | (refine below_set ?_ ?_ _; (focus (first | (simp; done) | (simp; omega))))))⟩
    · have t1 : (y == 0) = false := by simp; omega
      have t2 : decide (0 < y) = false := by simp; omega
      have t3 : decide (y < 0) = true := by simp; omega
      have t4 : decide (Q ≤ D) = true := by simp; omega
      clear g1 g2 S
      go_wp2_with (first | (go_at_call 22; refine (num_any _ _).mono ?_; rintro e w1 ⟨rfl, rfl⟩))
      go_ret
      exact ⟨rfl, (by repeat (first | (with_reducible exact Below.refl _ _) | (with_reducible exact Hid.out (by with_reducible assumption)) | (with_reducible apply below_drewN) | (with_reducible apply below_drew) | (with_reducible apply below_alloc) | (refine below_set ?_ ?_ _; (focus (first | (simp; done) | (simp; omega))))))⟩
set_option maxHeartbeats 2000000 in
theorem mixMore_yes2 (a b c x y z at_ by_ : Int) (w : World) (ht : Tab w) (h : mixOk a b c x y z = true) (hr : (IntKind.u64.wrap at_).tmod 3 = 2) : Calls Tryd.prog 12 #[v3 a b c, v3 x y z, .int .i64 at_, .int .i64 by_] w fun e w' => e = .returned (.bool true) ∧ Below w.heap.size w w' := by
  obtain ⟨⟨a0, a1, b0, b1, c0, c1⟩, -⟩ := mixOk_iff.1 h
  have H := Lib.hid h
  clear h
  obtain ⟨m, hm⟩ : ∃ m, bits .and .i64 by_ 65535 = m := ⟨_, rfl⟩
  have hm0 : 0 ≤ m ∧ m < 65536 := by rw [← hm, i64_mask 16 65535 (by decide) (by decide)]; omega
  obtain ⟨m0, m1⟩ := hm0
  unfold v3
  go_enter Tryd.func12, Tryd.ntmps12
  go_wp2_with (first | (go_at_call 22; refine (num_any _ _).mono ?_; rintro e w1 ⟨rfl, rfl⟩))
  refine (awake8 _ (Tab.below (w := w) ht (by repeat (first | (with_reducible exact Below.refl _ _) | (with_reducible exact Hid.out (by with_reducible assumption)) | (with_reducible apply below_drewN) | (with_reducible apply below_drew) | (with_reducible apply below_alloc) | (refine below_set ?_ ?_ _; (focus (first | (simp; done) | (simp; omega)))))))).mono ?_
  rintro e w1 ⟨rfl, hb⟩
  have hq1 := Lib.hid (below_next (w := w) (by repeat (first | (with_reducible exact Below.refl _ _) | (with_reducible exact Hid.out (by with_reducible assumption)) | (with_reducible apply below_drewN) | (with_reducible apply below_drew) | (with_reducible apply below_alloc) | (refine below_set ?_ ?_ _; (focus (first | (simp; done) | (simp; omega)))))) hb)
  obtain ⟨ea_1, eb_1, ec_1, fa_1, fb_1, fc_1, la_1⟩ := own3 hb (b := w.heap.size) (x := .int .i64 (a)) (y := .int .i64 (b)) (z := .int .i64 (c)) (by go_simp) (by go_simp) (by go_simp) (by go_simp) (by go_simp) (by go_simp)
  obtain ⟨ex_1, ey_1, ez_1, fx_1, fy_1, fz_1, lx_1⟩ := own3 hb (b := w.heap.size + 1) (x := .int .i64 (x)) (y := .int .i64 (y)) (z := .int .i64 (z)) (by go_simp) (by go_simp) (by go_simp) (by go_simp) (by go_simp) (by go_simp)
  clear hb
  go_wp2_with (first | (go_at_call 22; refine (num_any _ _).mono ?_; rintro e w1 ⟨rfl, rfl⟩))
  refine (dot_any a b c x y z _ (Tab.below (w := w) ht (by repeat (first | (with_reducible exact Below.refl _ _) | (with_reducible exact Hid.out (by with_reducible assumption)) | (with_reducible apply below_drewN) | (with_reducible apply below_drew) | (with_reducible apply below_alloc) | (refine below_set ?_ ?_ _; (focus (first | (simp; done) | (simp; omega)))))))).mono ?_
  rw [H.out, num2_yes]
  rintro e w2 ⟨rfl, hb⟩
  have hq2 := Lib.hid (below_next (w := w) (by repeat (first | (with_reducible exact Below.refl _ _) | (with_reducible exact Hid.out (by with_reducible assumption)) | (with_reducible apply below_drewN) | (with_reducible apply below_drew) | (with_reducible apply below_alloc) | (refine below_set ?_ ?_ _; (focus (first | (simp; done) | (simp; omega)))))) hb)
  obtain ⟨ea_2, eb_2, ec_2, fa_2, fb_2, fc_2, la_2⟩ := own3 hb (b := w.heap.size) (x := .int .i64 (a)) (y := .int .i64 (b)) (z := .int .i64 (c)) (by go_simp) (by go_simp) (by go_simp) (by go_simp) (by go_simp) (by go_simp)
  obtain ⟨ex_2, ey_2, ez_2, fx_2, fy_2, fz_2, lx_2⟩ := own3 hb (b := w.heap.size + 1) (x := .int .i64 (x)) (y := .int .i64 (y)) (z := .int .i64 (z)) (by go_simp) (by go_simp) (by go_simp) (by go_simp) (by go_simp) (by go_simp)
  clear hq1 ea_1 eb_1 ec_1 fa_1 fb_1 fc_1 ex_1 ey_1 ez_1 fx_1 fy_1 fz_1 la_1 lx_1 hb
  go_wp2_with fail
  all_goals
    go_wp2_with (first | (go_at_call 22; refine (num_any _ _).mono ?_; rintro e w1 ⟨rfl, rfl⟩))
    refine (dot_any _ _ _ _ _ _ _ (Tab.below (w := w) ht (by repeat (first | (with_reducible exact Below.refl _ _) | (with_reducible exact Hid.out (by with_reducible assumption)) | (with_reducible apply below_drewN) | (with_reducible apply below_drew) | (with_reducible apply below_alloc) | (refine below_set ?_ ?_ _; (focus (first | (simp; done) | (simp; omega)))))))).mono ?_
    first | (obtain ⟨o, s⟩ := more2 (A := 1048576) H.out (by omega) (by omega); rw [o, num2_yes]; have S := Lib.hid s; clear s o; generalize dot a b 1048576 x y z = Q at S ⊢) | (obtain ⟨o, s⟩ := more2 (A := (c + m)) H.out (by omega) (by omega); rw [o, num2_yes]; have S := Lib.hid s; clear s o; generalize dot a b (c + m) x y z = Q at S ⊢)
    rintro e w3 ⟨rfl, hb⟩
    have hq3 := Lib.hid (below_next (w := w) (by repeat (first | (with_reducible exact Below.refl _ _) | (with_reducible exact Hid.out (by with_reducible assumption)) | (with_reducible apply below_drewN) | (with_reducible apply below_drew) | (with_reducible apply below_alloc) | (refine below_set ?_ ?_ _; (focus (first | (simp; done) | (simp; omega)))))) hb)
    obtain ⟨ex_3, ey_3, ez_3, fx_3, fy_3, fz_3, lx_3⟩ := own3 hb (b := w.heap.size + 1) (x := .int .i64 (x)) (y := .int .i64 (y)) (z := .int .i64 (z)) (by go_simp) (by go_simp) (by go_simp) (by go_simp) (by go_simp) (by go_simp)
    clear hq2 ea_2 eb_2 ec_2 fa_2 fb_2 fc_2 ex_2 ey_2 ez_2 fx_2 fy_2 fz_2 la_2 lx_2 hb
    generalize dot a b c x y z = D at S ⊢
    rcases S.out with ⟨g1, g2⟩ | ⟨g1, g2⟩ | ⟨g1, g2⟩
    · have t1 : (z == 0) = true := by simp; omega
      have t2 : (D == Q) = true := by simp; omega
      clear g1 g2 S
      go_wp2_with (first | (go_at_call 22; refine (num_any _ _).mono ?_; rintro e w1 ⟨rfl, rfl⟩))
      go_ret
      exact ⟨rfl, (by repeat (first | (with_reducible exact Below.refl _ _) | (with_reducible exact Hid.out (by with_reducible assumption)) | (with_reducible apply below_drewN) | (with_reducible apply below_drew) | (with_reducible apply below_alloc) | (refine below_set ?_ ?_ _; (focus (first | (simp; done) | (simp; omega))))))⟩
    · have t1 : (z == 0) = false := by simp; omega
      have t2 : decide (0 < z) = true := by simp; omega
      have t3 : decide (D ≤ Q) = true := by simp; omega
      clear g1 g2 S
      go_wp2_with (first | (go_at_call 22; refine (num_any _ _).mono ?_; rintro e w1 ⟨rfl, rfl⟩))
      go_ret
      exact ⟨rfl, (by repeat (first | (with_reducible exact Below.refl _ _) | (with_reducible exact Hid.out (by with_reducible assumption)) | (with_reducible apply below_drewN) | (with_reducible apply below_drew) | (with_reducible apply below_alloc) | (refine below_set ?_ ?_ _; (focus (first | (simp; done) | (simp; omega))))))⟩
    · have t1 : (z == 0) = false := by simp; omega
      have t2 : decide (0 < z) = false := by simp; omega
      have t3 : decide (z < 0) = true := by simp; omega
      have t4 : decide (Q ≤ D) = true := by simp; omega
      clear g1 g2 S
      go_wp2_with (first | (go_at_call 22; refine (num_any _ _).mono ?_; rintro e w1 ⟨rfl, rfl⟩))
      go_ret
      exact ⟨rfl, (by repeat (first | (with_reducible exact Below.refl _ _) | (with_reducible exact Hid.out (by with_reducible assumption)) | (with_reducible apply below_drewN) | (with_reducible apply below_drew) | (with_reducible apply below_alloc) | (refine below_set ?_ ?_ _; (focus (first | (simp; done) | (simp; omega))))))⟩
theorem mixMore_walk (a b c x y z at_ by_ : Int) (w : World) (ht : Tab w) : Calls Tryd.prog 12 #[v3 a b c, v3 x y z, .int .i64 at_, .int .i64 by_] w fun e w' => e = .returned (.bool true) ∧ Below w.heap.size w w' := by
  cases h : mixOk a b c x y z
  · exact mixMore_no a b c x y z at_ by_ w ht h
  · obtain ⟨r, hr, r0, r1⟩ := umod at_ 3 (by decide) (by decide)
    have hr3 : r = 0 ∨ r = 1 ∨ r = 2 := by omega
    rcases hr3 with rfl | rfl | rfl
    · exact mixMore_yes0 a b c x y z at_ by_ w ht h hr
    · exact mixMore_yes1 a b c x y z at_ by_ w ht h hr
    · exact mixMore_yes2 a b c x y z at_ by_ w ht h hr
end Go.Proofs.YtlabpfebdhbgiaaDoor
