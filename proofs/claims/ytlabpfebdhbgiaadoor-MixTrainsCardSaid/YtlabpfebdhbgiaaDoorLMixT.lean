/- A weight goes its input's way (chapter 8): what the statement comes to when it is called. -/
import Derived.Test.YtlabpfebdhbgiaaDoorLMix
namespace Go.Proofs.YtlabpfebdhbgiaaDoor
open Go.RowKit
set_option linter.unusedVariables false
set_option linter.unusedSimpArgs false

theorem mixTrains_no (a b c x y z : Int) (w : World) (ht : Tab w) (h : mixOk a b c x y z = false) : Calls Tryd.prog 11 #[v3 a b c, v3 x y z] w fun e w' => e = .returned (.bool true) ∧ Below w.heap.size w w' := by
  have h1 : trOk a b c x y z 1 = false := by simp [trOk, h]
  have h0 : trOk a b c x y z 0 = false := by simp [trOk, h]
  unfold v3
  go_enter Tryd.func11, Tryd.ntmps11
  go_wp2_with (first | (go_at_call 22; refine (num_any _ _).mono ?_; rintro e w1 ⟨rfl, rfl⟩))
  refine (awake8 _ (Tab.below (w := w) ht (by repeat (first | (with_reducible exact Below.refl _ _) | (with_reducible exact Hid.out (by with_reducible assumption)) | (with_reducible apply below_drewN) | (with_reducible apply below_drew) | (with_reducible apply below_alloc) | (refine below_set ?_ ?_ _; (focus (first | (simp; done) | (simp; omega)))))))).mono ?_
  rintro e w1 ⟨rfl, hb⟩
  have hq1 := Lib.hid (below_next (w := w) (by repeat (first | (with_reducible exact Below.refl _ _) | (with_reducible exact Hid.out (by with_reducible assumption)) | (with_reducible apply below_drewN) | (with_reducible apply below_drew) | (with_reducible apply below_alloc) | (refine below_set ?_ ?_ _; (focus (first | (simp; done) | (simp; omega)))))) hb)
  obtain ⟨ea_1, eb_1, ec_1, fa_1, fb_1, fc_1, la_1⟩ := own3 hb (b := w.heap.size) (x := .int .i64 (a)) (y := .int .i64 (b)) (z := .int .i64 (c)) (by go_simp) (by go_simp) (by go_simp) (by go_simp) (by go_simp) (by go_simp)
  obtain ⟨ex_1, ey_1, ez_1, fx_1, fy_1, fz_1, lx_1⟩ := own3 hb (b := w.heap.size + 1) (x := .int .i64 (x)) (y := .int .i64 (y)) (z := .int .i64 (z)) (by go_simp) (by go_simp) (by go_simp) (by go_simp) (by go_simp) (by go_simp)
  clear hb
  go_wp2_with (first | (go_at_call 22; refine (num_any _ _).mono ?_; rintro e w1 ⟨rfl, rfl⟩))
  refine (train_any a b c x y z 1 _ (Tab.below (w := w) ht (by repeat (first | (with_reducible exact Below.refl _ _) | (with_reducible exact Hid.out (by with_reducible assumption)) | (with_reducible apply below_drewN) | (with_reducible apply below_drew) | (with_reducible apply below_alloc) | (refine below_set ?_ ?_ _; (focus (first | (simp; done) | (simp; omega)))))))).mono ?_
  rw [h1, tr3_no]
  rintro e w2 ⟨rfl, hb⟩
  have hq2 := Lib.hid (below_next (w := w) (by repeat (first | (with_reducible exact Below.refl _ _) | (with_reducible exact Hid.out (by with_reducible assumption)) | (with_reducible apply below_drewN) | (with_reducible apply below_drew) | (with_reducible apply below_alloc) | (refine below_set ?_ ?_ _; (focus (first | (simp; done) | (simp; omega)))))) hb)
  obtain ⟨ea_2, eb_2, ec_2, fa_2, fb_2, fc_2, la_2⟩ := own3 hb (b := w.heap.size) (x := .int .i64 (a)) (y := .int .i64 (b)) (z := .int .i64 (c)) (by go_simp) (by go_simp) (by go_simp) (by go_simp) (by go_simp) (by go_simp)
  obtain ⟨ex_2, ey_2, ez_2, fx_2, fy_2, fz_2, lx_2⟩ := own3 hb (b := w.heap.size + 1) (x := .int .i64 (x)) (y := .int .i64 (y)) (z := .int .i64 (z)) (by go_simp) (by go_simp) (by go_simp) (by go_simp) (by go_simp) (by go_simp)
  clear hq1 ea_1 eb_1 ec_1 fa_1 fb_1 fc_1 ex_1 ey_1 ez_1 fx_1 fy_1 fz_1 la_1 lx_1 hb
  go_wp2_with (first | (go_at_call 22; refine (num_any _ _).mono ?_; rintro e w1 ⟨rfl, rfl⟩))
  refine (train_any a b c x y z 0 _ (Tab.below (w := w) ht (by repeat (first | (with_reducible exact Below.refl _ _) | (with_reducible exact Hid.out (by with_reducible assumption)) | (with_reducible apply below_drewN) | (with_reducible apply below_drew) | (with_reducible apply below_alloc) | (refine below_set ?_ ?_ _; (focus (first | (simp; done) | (simp; omega)))))))).mono ?_
  rw [h0, tr3_no]
  rintro e w3 ⟨rfl, hb⟩
  have hq3 := Lib.hid (below_next (w := w) (by repeat (first | (with_reducible exact Below.refl _ _) | (with_reducible exact Hid.out (by with_reducible assumption)) | (with_reducible apply below_drewN) | (with_reducible apply below_drew) | (with_reducible apply below_alloc) | (refine below_set ?_ ?_ _; (focus (first | (simp; done) | (simp; omega)))))) hb)
  obtain ⟨ep_3, eq_3, er_3, fp_3, fq_3, fr_3, lp_3⟩ := own3 hb (b := w2.heap.size) (x := .int .i64 (0)) (y := .int .i64 (0)) (z := .int .i64 (0)) (by go_simp) (by go_simp) (by go_simp) (by go_simp) (by go_simp) (by go_simp)
  clear hq2 ea_2 eb_2 ec_2 fa_2 fb_2 fc_2 ex_2 ey_2 ez_2 fx_2 fy_2 fz_2 la_2 lx_2 hb
  go_wp2_with (first | (go_at_call 22; refine (num_any _ _).mono ?_; rintro e w1 ⟨rfl, rfl⟩))
  go_ret
  exact ⟨rfl, (by repeat (first | (with_reducible exact Below.refl _ _) | (with_reducible exact Hid.out (by with_reducible assumption)) | (with_reducible apply below_drewN) | (with_reducible apply below_drew) | (with_reducible apply below_alloc) | (refine below_set ?_ ?_ _; (focus (first | (simp; done) | (simp; omega))))))⟩
set_option maxRecDepth 100000 in
set_option maxHeartbeats 4000000 in
theorem mixTrains_yes (a b c x y z : Int) (w : World) (ht : Tab w) (h : mixOk a b c x y z = true) : Calls Tryd.prog 11 #[v3 a b c, v3 x y z] w fun e w' => e = .returned (.bool true) ∧ Below w.heap.size w w' := by
  obtain ⟨⟨a0, a1, b0, b1, c0, c1⟩, x0, x1, y0, y1, z0, z1⟩ := mixOk_iff.1 h
  have h1 : trOk a b c x y z 1 = true := by simp [trOk, h]
  have h0 : trOk a b c x y z 0 = true := by simp [trOk, h]
  have hd := dot_range a b c x y z
  have s0 := tw_way (w := a) (x := x) hd ⟨a0, a1⟩
  have s1 := tw_way (w := b) (x := y) hd ⟨b0, b1⟩
  have s2 := tw_way (w := c) (x := z) hd ⟨c0, c1⟩
  obtain ⟨A, hA, A0, A1⟩ : ∃ A, tw a x (4096 * 1 - dot a b c x y z) = A ∧ -1048576 ≤ A ∧ A ≤ 1048576 := ⟨_, rfl, tw_range _ _ _⟩
  obtain ⟨B, hB, B0, B1⟩ : ∃ A, tw b y (4096 * 1 - dot a b c x y z) = A ∧ -1048576 ≤ A ∧ A ≤ 1048576 := ⟨_, rfl, tw_range _ _ _⟩
  obtain ⟨C, hC, C0, C1⟩ : ∃ A, tw c z (4096 * 1 - dot a b c x y z) = A ∧ -1048576 ≤ A ∧ A ≤ 1048576 := ⟨_, rfl, tw_range _ _ _⟩
  obtain ⟨D, hD, D0, D1⟩ : ∃ A, tw a x (4096 * 0 - dot a b c x y z) = A ∧ -1048576 ≤ A ∧ A ≤ 1048576 := ⟨_, rfl, tw_range _ _ _⟩
  obtain ⟨E, hE, E0, E1⟩ : ∃ A, tw b y (4096 * 0 - dot a b c x y z) = A ∧ -1048576 ≤ A ∧ A ≤ 1048576 := ⟨_, rfl, tw_range _ _ _⟩
  obtain ⟨F, hF, F0, F1⟩ : ∃ A, tw c z (4096 * 0 - dot a b c x y z) = A ∧ -1048576 ≤ A ∧ A ≤ 1048576 := ⟨_, rfl, tw_range _ _ _⟩
  rw [hA, hD] at s0
  rw [hB, hE] at s1
  rw [hC, hF] at s2
  have k1 : tr3 (trOk a b c x y z 1) (tw a x (4096 * 1 - dot a b c x y z)) (tw b y (4096 * 1 - dot a b c x y z)) (tw c z (4096 * 1 - dot a b c x y z)) = .tuple #[.agg #[.int .i64 A, .int .i64 B, .int .i64 C], .int .i64 0] := by rw [h1, hA, hB, hC]; rfl
  have k0 : tr3 (trOk a b c x y z 0) (tw a x (4096 * 0 - dot a b c x y z)) (tw b y (4096 * 0 - dot a b c x y z)) (tw c z (4096 * 0 - dot a b c x y z)) = .tuple #[.agg #[.int .i64 D, .int .i64 E, .int .i64 F], .int .i64 0] := by rw [h0, hD, hE, hF]; rfl
  have K1 := Lib.hid k1
  have K0 := Lib.hid k0
  clear k1 k0 hA hB hC hD hE hF h h1 h0
  have S0 : Hid ((0 < x ∧ a ≤ A ∧ D ≤ a) ∨ (x < 0 ∧ A ≤ a ∧ a ≤ D) ∨ (x = 0 ∧ A = a ∧ D = a)) := by show _ ∨ _; omega
  have S1 : Hid ((0 < y ∧ b ≤ B ∧ E ≤ b) ∨ (y < 0 ∧ B ≤ b ∧ b ≤ E) ∨ (y = 0 ∧ B = b ∧ E = b)) := by show _ ∨ _; omega
  have S2 : Hid ((0 < z ∧ c ≤ C ∧ F ≤ c) ∨ (z < 0 ∧ C ≤ c ∧ c ≤ F) ∨ (z = 0 ∧ C = c ∧ F = c)) := by show _ ∨ _; omega
  clear s0 s1 s2 hd
  have R0 := Lib.hid (And.intro A0 (And.intro A1 (And.intro D0 D1)))
  have R1 := Lib.hid (And.intro B0 (And.intro B1 (And.intro E0 E1)))
  have R2 := Lib.hid (And.intro C0 (And.intro C1 (And.intro F0 F1)))
  clear a0 a1 b0 b1 c0 c1 x0 x1 y0 y1 z0 z1 A0 A1 B0 B1 C0 C1 D0 D1 E0 E1 F0 F1
  unfold v3
  go_enter Tryd.func11, Tryd.ntmps11
  go_wp2_with (first | (go_at_call 22; refine (num_any _ _).mono ?_; rintro e w1 ⟨rfl, rfl⟩))
  refine (awake8 _ (Tab.below (w := w) ht (by repeat (first | (with_reducible exact Below.refl _ _) | (with_reducible exact Hid.out (by with_reducible assumption)) | (with_reducible apply below_drewN) | (with_reducible apply below_drew) | (with_reducible apply below_alloc) | (refine below_set ?_ ?_ _; (focus (first | (simp; done) | (simp; omega)))))))).mono ?_
  rintro e w1 ⟨rfl, hb⟩
  have hq1 := Lib.hid (below_next (w := w) (by repeat (first | (with_reducible exact Below.refl _ _) | (with_reducible exact Hid.out (by with_reducible assumption)) | (with_reducible apply below_drewN) | (with_reducible apply below_drew) | (with_reducible apply below_alloc) | (refine below_set ?_ ?_ _; (focus (first | (simp; done) | (simp; omega)))))) hb)
  obtain ⟨ea_1, eb_1, ec_1, fa_1, fb_1, fc_1, la_1⟩ := own3 hb (b := w.heap.size) (x := .int .i64 (a)) (y := .int .i64 (b)) (z := .int .i64 (c)) (by go_simp) (by go_simp) (by go_simp) (by go_simp) (by go_simp) (by go_simp)
  obtain ⟨ex_1, ey_1, ez_1, fx_1, fy_1, fz_1, lx_1⟩ := own3 hb (b := w.heap.size + 1) (x := .int .i64 (x)) (y := .int .i64 (y)) (z := .int .i64 (z)) (by go_simp) (by go_simp) (by go_simp) (by go_simp) (by go_simp) (by go_simp)
  clear hb
  go_wp2_with (first | (go_at_call 22; refine (num_any _ _).mono ?_; rintro e w1 ⟨rfl, rfl⟩))
  refine (train_any a b c x y z 1 _ (Tab.below (w := w) ht (by repeat (first | (with_reducible exact Below.refl _ _) | (with_reducible exact Hid.out (by with_reducible assumption)) | (with_reducible apply below_drewN) | (with_reducible apply below_drew) | (with_reducible apply below_alloc) | (refine below_set ?_ ?_ _; (focus (first | (simp; done) | (simp; omega)))))))).mono ?_
  rw [K1.out]
  rintro e w2 ⟨rfl, hb⟩
  have hq2 := Lib.hid (below_next (w := w) (by repeat (first | (with_reducible exact Below.refl _ _) | (with_reducible exact Hid.out (by with_reducible assumption)) | (with_reducible apply below_drewN) | (with_reducible apply below_drew) | (with_reducible apply below_alloc) | (refine below_set ?_ ?_ _; (focus (first | (simp; done) | (simp; omega)))))) hb)
  obtain ⟨ea_2, eb_2, ec_2, fa_2, fb_2, fc_2, la_2⟩ := own3 hb (b := w.heap.size) (x := .int .i64 (a)) (y := .int .i64 (b)) (z := .int .i64 (c)) (by go_simp) (by go_simp) (by go_simp) (by go_simp) (by go_simp) (by go_simp)
  obtain ⟨ex_2, ey_2, ez_2, fx_2, fy_2, fz_2, lx_2⟩ := own3 hb (b := w.heap.size + 1) (x := .int .i64 (x)) (y := .int .i64 (y)) (z := .int .i64 (z)) (by go_simp) (by go_simp) (by go_simp) (by go_simp) (by go_simp) (by go_simp)
  clear hq1 ea_1 eb_1 ec_1 fa_1 fb_1 fc_1 ex_1 ey_1 ez_1 fx_1 fy_1 fz_1 la_1 lx_1 hb
  go_wp2_with (first | (go_at_call 22; refine (num_any _ _).mono ?_; rintro e w1 ⟨rfl, rfl⟩))
  refine (train_any a b c x y z 0 _ (Tab.below (w := w) ht (by repeat (first | (with_reducible exact Below.refl _ _) | (with_reducible exact Hid.out (by with_reducible assumption)) | (with_reducible apply below_drewN) | (with_reducible apply below_drew) | (with_reducible apply below_alloc) | (refine below_set ?_ ?_ _; (focus (first | (simp; done) | (simp; omega)))))))).mono ?_
  rw [K0.out]
  rintro e w3 ⟨rfl, hb⟩
  have hq3 := Lib.hid (below_next (w := w) (by repeat (first | (with_reducible exact Below.refl _ _) | (with_reducible exact Hid.out (by with_reducible assumption)) | (with_reducible apply below_drewN) | (with_reducible apply below_drew) | (with_reducible apply below_alloc) | (refine below_set ?_ ?_ _; (focus (first | (simp; done) | (simp; omega)))))) hb)
  obtain ⟨ea_3, eb_3, ec_3, fa_3, fb_3, fc_3, la_3⟩ := own3 hb (b := w.heap.size) (x := .int .i64 (a)) (y := .int .i64 (b)) (z := .int .i64 (c)) (by go_simp) (by go_simp) (by go_simp) (by go_simp) (by go_simp) (by go_simp)
  obtain ⟨ex_3, ey_3, ez_3, fx_3, fy_3, fz_3, lx_3⟩ := own3 hb (b := w.heap.size + 1) (x := .int .i64 (x)) (y := .int .i64 (y)) (z := .int .i64 (z)) (by go_simp) (by go_simp) (by go_simp) (by go_simp) (by go_simp) (by go_simp)
  obtain ⟨ep_3, eq_3, er_3, fp_3, fq_3, fr_3, lp_3⟩ := own3 hb (b := w2.heap.size) (x := .int .i64 (A)) (y := .int .i64 (B)) (z := .int .i64 (C)) (by go_simp) (by go_simp) (by go_simp) (by go_simp) (by go_simp) (by go_simp)
  clear hq2 ea_2 eb_2 ec_2 fa_2 fb_2 fc_2 ex_2 ey_2 ez_2 fx_2 fy_2 fz_2 la_2 lx_2 hb
  go_wp2_with (first | (go_at_call 22; refine (num_any _ _).mono ?_; rintro e w1 ⟨rfl, rfl⟩))
  obtain ⟨wx, hwx⟩ : ∃ wx, w3.alloc (.cells #[.int .i64 D, .int .i64 E, .int .i64 F] 34) = wx := ⟨_, rfl⟩
  have hb : Below (w3.alloc (.cells #[.int .i64 D, .int .i64 E, .int .i64 F] 34)).heap.size (w3.alloc (.cells #[.int .i64 D, .int .i64 E, .int .i64 F] 34)) wx := by rw [hwx]; exact Below.refl _ _
  have HWX := Lib.hid hwx
  clear hwx
  obtain ⟨ea, eb, ec, fa, fb, fc, la⟩ := own3 hb (b := w.heap.size) (x := .int .i64 (a)) (y := .int .i64 (b)) (z := .int .i64 (c)) (by go_simp) (by go_simp) (by go_simp) (by go_simp) (by go_simp) (by go_simp)
  obtain ⟨ex, ey, ez, fx, fy, fz, lx⟩ := own3 hb (b := w.heap.size + 1) (x := .int .i64 (x)) (y := .int .i64 (y)) (z := .int .i64 (z)) (by go_simp) (by go_simp) (by go_simp) (by go_simp) (by go_simp) (by go_simp)
  obtain ⟨ep, eq, er, fp, fq, fr, lp⟩ := own3 hb (b := w2.heap.size) (x := .int .i64 (A)) (y := .int .i64 (B)) (z := .int .i64 (C)) (by go_simp) (by go_simp) (by go_simp) (by go_simp) (by go_simp) (by go_simp)
  obtain ⟨es, et, eu, fs, ft, fu, ls⟩ := own3 hb (b := w3.heap.size) (x := .int .i64 (D)) (y := .int .i64 (E)) (z := .int .i64 (F)) (by go_simp) (by go_simp) (by go_simp) (by go_simp) (by go_simp) (by go_simp)
  have HX := Lib.hid (below_next (w := w) (by repeat (first | (with_reducible exact Below.refl _ _) | (with_reducible exact Hid.out (by with_reducible assumption)) | (with_reducible apply below_drewN) | (with_reducible apply below_drew) | (with_reducible apply below_alloc) | (refine below_set ?_ ?_ _; (focus (first | (simp; done) | (simp; omega)))))) hb)
  rw [HWX.out]
  clear hb HWX hq3 K1 K0 ht
  have HF : Hid (∀ i : Nat, i < 3 → ∃ X V P M : Int, wx.cell? ⟨w.heap.size + 1, i, none⟩ = some (.int .i64 X) ∧ wx.cell? ⟨w.heap.size, i, none⟩ = some (.int .i64 V) ∧ wx.cell? ⟨w2.heap.size, i, none⟩ = some (.int .i64 P) ∧ wx.cell? ⟨w3.heap.size, i, none⟩ = some (.int .i64 M) ∧
      ((0 < X ∧ V ≤ P ∧ M ≤ V) ∨ (X < 0 ∧ P ≤ V ∧ V ≤ M) ∨ (X = 0 ∧ P = V ∧ M = V)) ∧ (-1048576 ≤ P ∧ P ≤ 1048576 ∧ -1048576 ≤ M ∧ M ≤ 1048576)) := by
    intro i hi
    have hi' : i = 0 ∨ i = 1 ∨ i = 2 := by omega
    rcases hi' with rfl | rfl | rfl
    · exact ⟨x, a, A, D, ex, ea, ep, es, S0.out, R0.out⟩
    · exact ⟨y, b, B, E, ey, eb, eq, et, S1.out, R1.out⟩
    · exact ⟨z, c, C, F, ez, ec, er, eu, S2.out, R2.out⟩
  clear ea eb ec ex ey ez ep eq er es et eu fa fb fc fx fy fz fp fq fr fs ft fu la lx lp ls S0 S1 S2 R0 R1 R2
  go_loopw [9] (fun v wr => ∃ i : Nat, v = .int .i64 i ∧ i ≤ 3 ∧ ∃ n, wr = wx.drewN n) (fun v _ => (3 - intOf v).toNat)
  case atStart => exact ⟨0, rfl, by omega, 0, rfl⟩
  case round =>
    obtain ⟨i, rfl, hi, n, rfl⟩ := hrel
    by_cases hlt : i < 3
    · obtain ⟨X, V, P, M, cX, cV, cP, cM, hS, r1, r2, r3, r4⟩ := HF.out i hlt
      have hi3 : (i : Int) < 3 := by omega
      have hi0 : (0 : Int) ≤ i := by omega
      have u1 : decide (P < -1048576) = false := by simp; omega
      have u2 : decide (1048576 < P) = false := by simp; omega
      have u3 : decide (M < -1048576) = false := by simp; omega
      have u4 : decide (1048576 < M) = false := by simp; omega
      clear r1 r2 r3 r4 hi
      rcases hS with ⟨g1, g2, g3⟩ | ⟨g1, g2, g3⟩ | ⟨g1, g2, g3⟩
      · have t1 : decide (0 < X) = true := by simp; omega
        have t2 : decide (P < V) = false := by simp; omega
        have t3 : decide (V < M) = false := by simp; omega
        have t4 : decide (X < 0) = false := by simp; omega
        have t5 : (X == 0) = false := by simp; omega
        clear g1 g2 g3 HF
        go_wp2
        simp only [List.append_eq, List.cons_append, List.nil_append]
        go_quiet (fail)
        go_wp2
        go_roundw
        case rel => exact ⟨i + 1, by go_num, by omega, _, rfl⟩
        case measure => simp [intOf]; omega
      · have t1 : decide (0 < X) = false := by simp; omega
        have t2 : decide (V < P) = false := by simp; omega
        have t3 : decide (M < V) = false := by simp; omega
        have t4 : decide (X < 0) = true := by simp; omega
        have t5 : (X == 0) = false := by simp; omega
        clear g1 g2 g3 HF
        go_wp2
        simp only [List.append_eq, List.cons_append, List.nil_append]
        go_quiet (fail)
        go_wp2
        go_roundw
        case rel => exact ⟨i + 1, by go_num, by omega, _, rfl⟩
        case measure => simp [intOf]; omega
      · have t1 : decide (0 < X) = false := by simp; omega
        have t4 : decide (X < 0) = false := by simp; omega
        have t5 : (X == 0) = true := by simp; omega
        have t6 : (P == V) = true := by simp; omega
        have t7 : (M == V) = true := by simp; omega
        have t8 : (P != V) = false := by simp; omega
        have t9 : (M != V) = false := by simp; omega
        clear g1 g2 g3 HF
        go_wp2
        simp only [List.append_eq, List.cons_append, List.nil_append]
        go_quiet (fail)
        go_wp2
        go_roundw
        case rel => exact ⟨i + 1, by go_num, by omega, _, rfl⟩
        case measure => simp [intOf]; omega
    · have : i = 3 := by omega
      subst this
      go_wp2
      go_ret
      exact ⟨rfl, below_drewN HX.out _⟩
theorem mixTrains_walk (a b c x y z : Int) (w : World) (ht : Tab w) : Calls Tryd.prog 11 #[v3 a b c, v3 x y z] w fun e w' => e = .returned (.bool true) ∧ Below w.heap.size w w' := by
  cases h : mixOk a b c x y z
  · exact mixTrains_no a b c x y z w ht h
  · exact mixTrains_yes a b c x y z w ht h
end Go.Proofs.YtlabpfebdhbgiaaDoor
