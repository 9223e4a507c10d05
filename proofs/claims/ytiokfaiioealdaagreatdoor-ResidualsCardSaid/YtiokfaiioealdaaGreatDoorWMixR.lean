/- What the mix of three comes to in the document's own answer. -/
import Derived.Test.YtiokfaiioealdaaGreatDoorWMix
namespace Go.Proofs.YtiokfaiioealdaaGreatDoor
open Go.RowKit Go.Proofs.YtiokfaiioealdaaGreatDoor.L
set_option linter.unusedVariables false
set_option linter.unusedSimpArgs false

/-! ### The document's own -/
theorem three_may (m x y z : Int) (w : World) (hm : 0 ≤ m) (hm2 : m ≤ 16777216) :
   Calls Tryz.prog 126 #[v3 x y z, .int .i64 m] w fun e w' => e = .returned (.bool (in3 m x y z)) ∧ Below w.heap.size w w' := by
  unfold v3
  rw [show in3 m x y z = ((decide (-m ≤ x) && decide (x ≤ m)) && ((decide (-m ≤ y) && decide (y ≤ m)) && (decide (-m ≤ z) && decide (z ≤ m)))) by simp [in3, Bool.and_assoc]]
  cases p1 : (decide (-m ≤ x) && decide (x ≤ m))
  · go_enter Tryz.func126, Tryz.ntmps126
    go_wp2
    refine wp_loop_rounds 4 ?_
    rw [rounds_succ]
    go_wp2_with ((go_at_call 78; refine (up_to _ _ _ _).mono ?_; rintro e w1 ⟨rfl, rfl⟩))
    go_ret
    exact ⟨rfl, (by repeat (first | (with_reducible exact Below.refl _ _) | (with_reducible exact Hid.out (by with_reducible assumption)) | (with_reducible apply below_drewN) | (with_reducible apply below_drew) | (with_reducible apply below_alloc) | (refine below_set ?_ ?_ _; (focus (first | (simp; done) | (simp; omega))))))⟩
  · cases p2 : (decide (-m ≤ y) && decide (y ≤ m))
    · go_enter Tryz.func126, Tryz.ntmps126
      go_wp2
      refine wp_loop_rounds 4 ?_
      rw [rounds_succ]
      go_wp2_with ((go_at_call 78; refine (up_to _ _ _ _).mono ?_; rintro e w1 ⟨rfl, rfl⟩))
      rw [rounds_succ]
      go_wp2_with ((go_at_call 78; refine (up_to _ _ _ _).mono ?_; rintro e w1 ⟨rfl, rfl⟩))
      go_ret
      exact ⟨rfl, (by repeat (first | (with_reducible exact Below.refl _ _) | (with_reducible exact Hid.out (by with_reducible assumption)) | (with_reducible apply below_drewN) | (with_reducible apply below_drew) | (with_reducible apply below_alloc) | (refine below_set ?_ ?_ _; (focus (first | (simp; done) | (simp; omega))))))⟩
    · cases p3 : (decide (-m ≤ z) && decide (z ≤ m))
      · go_enter Tryz.func126, Tryz.ntmps126
        go_wp2
        refine wp_loop_rounds 4 ?_
        rw [rounds_succ]
        go_wp2_with ((go_at_call 78; refine (up_to _ _ _ _).mono ?_; rintro e w1 ⟨rfl, rfl⟩))
        rw [rounds_succ]
        go_wp2_with ((go_at_call 78; refine (up_to _ _ _ _).mono ?_; rintro e w1 ⟨rfl, rfl⟩))
        rw [rounds_succ]
        go_wp2_with ((go_at_call 78; refine (up_to _ _ _ _).mono ?_; rintro e w1 ⟨rfl, rfl⟩))
        go_ret
        exact ⟨rfl, (by repeat (first | (with_reducible exact Below.refl _ _) | (with_reducible exact Hid.out (by with_reducible assumption)) | (with_reducible apply below_drewN) | (with_reducible apply below_drew) | (with_reducible apply below_alloc) | (refine below_set ?_ ?_ _; (focus (first | (simp; done) | (simp; omega))))))⟩
      · go_enter Tryz.func126, Tryz.ntmps126
        go_wp2
        refine wp_loop_rounds 4 ?_
        rw [rounds_succ]
        go_wp2_with ((go_at_call 78; refine (up_to _ _ _ _).mono ?_; rintro e w1 ⟨rfl, rfl⟩))
        rw [rounds_succ]
        go_wp2_with ((go_at_call 78; refine (up_to _ _ _ _).mono ?_; rintro e w1 ⟨rfl, rfl⟩))
        rw [rounds_succ]
        go_wp2_with ((go_at_call 78; refine (up_to _ _ _ _).mono ?_; rintro e w1 ⟨rfl, rfl⟩))
        rw [rounds_succ]
        go_wp2_with ((go_at_call 78; refine (up_to _ _ _ _).mono ?_; rintro e w1 ⟨rfl, rfl⟩))
        go_ret
        exact ⟨rfl, (by repeat (first | (with_reducible exact Below.refl _ _) | (with_reducible exact Hid.out (by with_reducible assumption)) | (with_reducible apply below_drewN) | (with_reducible apply below_drew) | (with_reducible apply below_alloc) | (refine below_set ?_ ?_ _; (focus (first | (simp; done) | (simp; omega))))))⟩
theorem rdot_any (a b c x y z : Int) (w : World) :
   Calls Tryz.prog 82 #[v3 a b c, v3 x y z] w fun e w' => e = .returned (num2 (mixOk a b c x y z) (dot a b c x y z) 800) ∧ Below w.heap.size w w' := by
  cases h1 : in3 1048576 a b c
  · rw [show mixOk a b c x y z = false by simp [mixOk, h1]]
    unfold v3
    go_enter Tryz.func82, Tryz.ntmps82
    go_wp2_with ((go_at_call 126; refine (three_may _ _ _ _ _ (by decide) (by decide)).mono ?_; rintro e w1 ⟨rfl, hb⟩; have hq := Lib.hid (below_next (w := w) (by repeat (first | (with_reducible exact Below.refl _ _) | (with_reducible exact Hid.out (by with_reducible assumption)) | (with_reducible apply below_drewN) | (with_reducible apply below_drew) | (with_reducible apply below_alloc) | (refine below_set ?_ ?_ _; (focus (first | (simp; done) | (simp; omega)))))) hb); have hz := hb.size; obtain ⟨hc, hf⟩ := bcell hb; clear hb))
    go_ret2
    exact ⟨rfl, (by repeat (first | (with_reducible exact Below.refl _ _) | (with_reducible exact Hid.out (by with_reducible assumption)) | (with_reducible apply below_drewN) | (with_reducible apply below_drew) | (with_reducible apply below_alloc) | (refine below_set ?_ ?_ _; (focus (first | (simp; done) | (simp; omega))))))⟩
  · cases h2 : in3 2047 x y z
    · rw [show mixOk a b c x y z = false by simp [mixOk, h2]]
      unfold v3
      go_enter Tryz.func82, Tryz.ntmps82
      go_wp2_with ((go_at_call 126; refine (three_may _ _ _ _ _ (by decide) (by decide)).mono ?_; rintro e w1 ⟨rfl, hb⟩; have hq := Lib.hid (below_next (w := w) (by repeat (first | (with_reducible exact Below.refl _ _) | (with_reducible exact Hid.out (by with_reducible assumption)) | (with_reducible apply below_drewN) | (with_reducible apply below_drew) | (with_reducible apply below_alloc) | (refine below_set ?_ ?_ _; (focus (first | (simp; done) | (simp; omega)))))) hb); have hz := hb.size; obtain ⟨hc, hf⟩ := bcell hb; clear hb))
      go_ret2
      exact ⟨rfl, (by repeat (first | (with_reducible exact Below.refl _ _) | (with_reducible exact Hid.out (by with_reducible assumption)) | (with_reducible apply below_drewN) | (with_reducible apply below_drew) | (with_reducible apply below_alloc) | (refine below_set ?_ ?_ _; (focus (first | (simp; done) | (simp; omega))))))⟩
    · rw [show mixOk a b c x y z = true by simp [mixOk, h1, h2]]
      obtain ⟨a0, a1, b0, b1, c0, c1⟩ := in3_iff.1 h1
      obtain ⟨x0, x1, y0, y1, z0, z1⟩ := in3_iff.1 h2
      obtain ⟨p0, p1⟩ := mul_abs ⟨a0, a1⟩ ⟨x0, x1⟩
      obtain ⟨q0, q1⟩ := mul_abs ⟨b0, b1⟩ ⟨y0, y1⟩
      obtain ⟨r0, r1⟩ := mul_abs ⟨c0, c1⟩ ⟨z0, z1⟩
      unfold v3
      go_enter Tryz.func82, Tryz.ntmps82
      go_wp2_with ((go_at_call 126; refine (three_may _ _ _ _ _ (by decide) (by decide)).mono ?_; rintro e w1 ⟨rfl, hb⟩; have hq := Lib.hid (below_next (w := w) (by repeat (first | (with_reducible exact Below.refl _ _) | (with_reducible exact Hid.out (by with_reducible assumption)) | (with_reducible apply below_drewN) | (with_reducible apply below_drew) | (with_reducible apply below_alloc) | (refine below_set ?_ ?_ _; (focus (first | (simp; done) | (simp; omega)))))) hb); obtain ⟨ea, eb, ec, fa, fb, fc, la⟩ := own3 hb (b := w.heap.size) (x := .int .i64 (a)) (y := .int .i64 (b)) (z := .int .i64 (c)) (by go_simp) (by go_simp) (by go_simp) (by go_simp) (by go_simp) (by go_simp); obtain ⟨ex, ey, ez, fx, fy, fz, lx⟩ := own3 hb (b := w.heap.size + 1) (x := .int .i64 (x)) (y := .int .i64 (y)) (z := .int .i64 (z)) (by go_simp) (by go_simp) (by go_simp) (by go_simp) (by go_simp) (by go_simp); have hz := hb.size; clear hb))
      have W1 : IntKind.i64.wrap (a * x) = a * x := IntWalk.i64_in _ (by omega)
      have W2 : IntKind.i64.wrap (b * y) = b * y := IntWalk.i64_in _ (by omega)
      have W3 : IntKind.i64.wrap (c * z) = c * z := IntWalk.i64_in _ (by omega)
      have W4 : IntKind.i64.wrap (a * x + b * y) = a * x + b * y := IntWalk.i64_in _ (by omega)
      have W5 : IntKind.i64.wrap (a * x + b * y + c * z) = a * x + b * y + c * z := IntWalk.i64_in _ (by omega)
      refine wp_loop_rounds 4 ?_
      rw [rounds_succ]
      go_wp2
      go_quiet (fail)
      go_wp2
      rw [rounds_succ]
      go_wp2
      go_quiet (fail)
      go_wp2
      rw [rounds_succ]
      go_wp2
      go_quiet (fail)
      go_wp2
      rw [rounds_succ]
      go_wp2_with (first | (go_at_call 128; refine (rsquash_any _ _).mono ?_; rintro e w1 ⟨rfl, hb⟩; have hq := Lib.hid (below_next (w := w) (by repeat (first | (with_reducible exact Below.refl _ _) | (with_reducible exact Hid.out (by with_reducible assumption)) | (with_reducible apply below_drewN) | (with_reducible apply below_drew) | (with_reducible apply below_alloc) | (refine below_set ?_ ?_ _; (focus (first | (simp; done) | (simp; omega)))))) hb); clear hb) | (go_at_call 127; refine (rwithin _ _ _ _ (by decide)).mono ?_; rintro e w1 ⟨rfl, rfl⟩))
      go_ret2
      exact ⟨rfl, (by repeat (first | (with_reducible exact Below.refl _ _) | (with_reducible exact Hid.out (by with_reducible assumption)) | (with_reducible apply below_drewN) | (with_reducible apply below_drew) | (with_reducible apply below_alloc) | (refine below_set ?_ ?_ _; (focus (first | (simp; done) | (simp; omega))))))⟩
set_option maxHeartbeats 2000000 in
theorem rtrain_yes (a b c x y z bit : Int) (w : World) (hok : mixOk a b c x y z = true) (hb0 : 0 ≤ bit) (hb1 : bit ≤ 1) :
   Calls Tryz.prog 87 #[v3 a b c, v3 x y z, .int .i64 bit] w fun e w' => e = .returned (tr3 true (tw a x (4096 * bit - dot a b c x y z)) (tw b y (4096 * bit - dot a b c x y z)) (tw c z (4096 * bit - dot a b c x y z))) ∧ Below w.heap.size w w' := by
  unfold v3
  obtain ⟨d, hd⟩ : ∃ d, dot a b c x y z = d := ⟨_, rfl⟩
  have hdr := dot_range a b c x y z
  rw [hd] at hdr ⊢
  obtain ⟨d0, d1⟩ := hdr
  have HD := Lib.hid hd
  obtain ⟨⟨a0, a1, b0, b1, c0, c1⟩, x0, x1, y0, y1, z0, z1⟩ := mixOk_iff.1 hok
  obtain ⟨p0, p1⟩ := mul_abs ⟨x0, x1⟩ (x := 4096 * bit - d) (n := 4096) (by omega)
  obtain ⟨q0, q1⟩ := mul_abs ⟨y0, y1⟩ (x := 4096 * bit - d) (n := 4096) (by omega)
  obtain ⟨r0, r1⟩ := mul_abs ⟨z0, z1⟩ (x := 4096 * bit - d) (n := 4096) (by omega)
  have tb : (decide (0 ≤ bit) && decide (bit ≤ 1)) = true := by simp; omega
  go_enter Tryz.func87, Tryz.ntmps87
  go_wp2_with fail
  refine (rdot_any a b c x y z _).mono ?_
  rw [hok, hd]
  rintro e w1 ⟨rfl, hb⟩
  have hq := Lib.hid (below_next (w := w) (by repeat (first | (with_reducible exact Below.refl _ _) | (with_reducible exact Hid.out (by with_reducible assumption)) | (with_reducible apply below_drewN) | (with_reducible apply below_drew) | (with_reducible apply below_alloc) | (refine below_set ?_ ?_ _; (focus (first | (simp; done) | (simp; omega)))))) hb)
  obtain ⟨ea, eb, ec, fa, fb, fc, la⟩ := own3 hb (b := w.heap.size) (x := .int .i64 (a)) (y := .int .i64 (b)) (z := .int .i64 (c)) (by go_simp) (by go_simp) (by go_simp) (by go_simp) (by go_simp) (by go_simp)
  obtain ⟨ex, ey, ez, fx, fy, fz, lx⟩ := own3 hb (b := w.heap.size + 1) (x := .int .i64 (x)) (y := .int .i64 (y)) (z := .int .i64 (z)) (by go_simp) (by go_simp) (by go_simp) (by go_simp) (by go_simp) (by go_simp)
  obtain ⟨er, es, et, fr, fs, ft, lr⟩ := own3 hb (b := w.heap.size + 1 + 1) (x := .int .i64 (0)) (y := .int .i64 (0)) (z := .int .i64 (0)) (by go_simp) (by go_simp) (by go_simp) (by go_simp) (by go_simp) (by go_simp)
  have hz := hb.size
  simp only [World.size_alloc] at hz
  clear hb hd
  go_wp2_with ((go_at_call 79; refine (bit_may _ _).mono ?_; rintro e w1 ⟨rfl, rfl⟩))
  have C1 : C3 w1 w.heap.size a b c := ⟨ea, eb, ec, fa, fb, fc⟩
  have C2 : C3 w1 (w.heap.size + 1) x y z := ⟨ex, ey, ez, fx, fy, fz⟩
  have C4 : C3 w1 (w.heap.size + 1 + 1) 0 0 0 := ⟨er, es, et, fr, fs, ft⟩
  clear ea eb ec fa fb fc ex ey ez fx fy fz er es et fr fs ft
  go_loopw [11] (fun v wr => ∃ i : Nat, v = .int .i64 i ∧ i ≤ 3 ∧ C3 wr w.heap.size (if 0 < i then tw a x (4096 * bit - d) else a) (if 1 < i then tw b y (4096 * bit - d) else b) (if 2 < i then tw c z (4096 * bit - d) else c) ∧ C3 wr (w.heap.size + 1) x y z ∧ C3 wr (w.heap.size + 1 + 1) 0 0 0 ∧ Hid (Below w.heap.size w wr)) (fun v _ => (3 - intOf v).toNat)
  case atStart => exact ⟨0, rfl, by omega, C1, C2, C4, hq⟩
  case round =>
    clear C1 C2 C4
    obtain ⟨i, rfl, hi, D1, D2, D3, hq2⟩ := hrel
    have hi' : i = 0 ∨ i = 1 ∨ i = 2 ∨ i = 3 := by omega
    clear hi
    rcases hi' with rfl | rfl | rfl | rfl
    · simp (decide := true) only [if_true, if_false] at D1
      obtain ⟨ea, eb, ec, fa, fb, fc⟩ := D1
      obtain ⟨ex, ey, ez, fx, fy, fz⟩ := D2
      obtain ⟨er, es, et, fr, fs, ft⟩ := D3
      go_wp2
      go_region_with (go_at_call 127; refine (rwithin _ _ _ _ (by decide)).mono ?_; rintro e w' ⟨rfl, rfl⟩)
      all_goals
        go_wp2
        go_roundw
        case rel =>
          refine ⟨1, by go_num, by omega, ⟨?_, ?_, ?_, ?_, ?_, ?_⟩, ⟨?_, ?_, ?_, ?_, ?_, ?_⟩, ⟨?_, ?_, ?_, ?_, ?_, ?_⟩, ?_⟩
          all_goals first | (simp [tw, go_sem, ea, eb, ec, fa, fb, fc, ex, ey, ez, fx, fy, fz, er, es, et, fr, fs, ft]; done) | exact Lib.hid (by repeat (first | (with_reducible exact Below.refl _ _) | (with_reducible exact Hid.out (by with_reducible assumption)) | (with_reducible apply below_drewN) | (with_reducible apply below_drew) | (with_reducible apply below_alloc) | (refine below_set ?_ ?_ _; (focus (first | (simp; done) | (simp; omega))))))
        case measure => simp [intOf]
    · simp (decide := true) only [if_true, if_false] at D1
      obtain ⟨ea, eb, ec, fa, fb, fc⟩ := D1
      obtain ⟨ex, ey, ez, fx, fy, fz⟩ := D2
      obtain ⟨er, es, et, fr, fs, ft⟩ := D3
      go_wp2
      go_region_with (go_at_call 127; refine (rwithin _ _ _ _ (by decide)).mono ?_; rintro e w' ⟨rfl, rfl⟩)
      all_goals
        go_wp2
        go_roundw
        case rel =>
          refine ⟨2, by go_num, by omega, ⟨?_, ?_, ?_, ?_, ?_, ?_⟩, ⟨?_, ?_, ?_, ?_, ?_, ?_⟩, ⟨?_, ?_, ?_, ?_, ?_, ?_⟩, ?_⟩
          all_goals first | (simp [tw, go_sem, ea, eb, ec, fa, fb, fc, ex, ey, ez, fx, fy, fz, er, es, et, fr, fs, ft]; done) | exact Lib.hid (by repeat (first | (with_reducible exact Below.refl _ _) | (with_reducible exact Hid.out (by with_reducible assumption)) | (with_reducible apply below_drewN) | (with_reducible apply below_drew) | (with_reducible apply below_alloc) | (refine below_set ?_ ?_ _; (focus (first | (simp; done) | (simp; omega))))))
        case measure => simp [intOf]
    · simp (decide := true) only [if_true, if_false] at D1
      obtain ⟨ea, eb, ec, fa, fb, fc⟩ := D1
      obtain ⟨ex, ey, ez, fx, fy, fz⟩ := D2
      obtain ⟨er, es, et, fr, fs, ft⟩ := D3
      go_wp2
      go_region_with (go_at_call 127; refine (rwithin _ _ _ _ (by decide)).mono ?_; rintro e w' ⟨rfl, rfl⟩)
      all_goals
        go_wp2
        go_roundw
        case rel =>
          refine ⟨3, by go_num, by omega, ⟨?_, ?_, ?_, ?_, ?_, ?_⟩, ⟨?_, ?_, ?_, ?_, ?_, ?_⟩, ⟨?_, ?_, ?_, ?_, ?_, ?_⟩, ?_⟩
          all_goals first | (simp [tw, go_sem, ea, eb, ec, fa, fb, fc, ex, ey, ez, fx, fy, fz, er, es, et, fr, fs, ft]; done) | exact Lib.hid (by repeat (first | (with_reducible exact Below.refl _ _) | (with_reducible exact Hid.out (by with_reducible assumption)) | (with_reducible apply below_drewN) | (with_reducible apply below_drew) | (with_reducible apply below_alloc) | (refine below_set ?_ ?_ _; (focus (first | (simp; done) | (simp; omega))))))
        case measure => simp [intOf]
    · simp (decide := true) only [if_true] at D1
      obtain ⟨ea, eb, ec, fa, fb, fc⟩ := D1
      obtain ⟨ex, ey, ez, fx, fy, fz⟩ := D2
      obtain ⟨er, es, et, fr, fs, ft⟩ := D3
      go_wp2
      refine bodyPost_ret (v := tr3 true (tw a x (4096 * bit - d)) (tw b y (4096 * bit - d)) (tw c z (4096 * bit - d))) ?_ rfl ⟨rfl, (by repeat (first | (with_reducible exact Below.refl _ _) | (with_reducible exact Hid.out (by with_reducible assumption)) | (with_reducible apply below_drewN) | (with_reducible apply below_drew) | (with_reducible apply below_alloc) | (refine below_set ?_ ?_ _; (focus (first | (simp; done) | (simp; omega))))))⟩
      simp [results, Tryz.results87, go_sem, ea, eb, ec, er, es, et]
theorem rtrain_no (a b c x y z bit : Int) (w : World) (hno : trOk a b c x y z bit = false) :
   Calls Tryz.prog 87 #[v3 a b c, v3 x y z, .int .i64 bit] w fun e w' => e = .returned (tr3 false 0 0 0) ∧ Below w.heap.size w w' := by
  unfold v3
  obtain ⟨d, hd⟩ : ∃ d, dot a b c x y z = d := ⟨_, rfl⟩
  cases hok : mixOk a b c x y z
  · go_enter Tryz.func87, Tryz.ntmps87
    go_wp2_with fail
    refine (rdot_any a b c x y z _).mono ?_
    rw [hok, hd]
    rintro e w1 ⟨rfl, hb⟩
    have hq := Lib.hid (below_next (w := w) (by repeat (first | (with_reducible exact Below.refl _ _) | (with_reducible exact Hid.out (by with_reducible assumption)) | (with_reducible apply below_drewN) | (with_reducible apply below_drew) | (with_reducible apply below_alloc) | (refine below_set ?_ ?_ _; (focus (first | (simp; done) | (simp; omega)))))) hb)
    have hz := hb.size
    obtain ⟨hc, hf⟩ := bcell hb
    clear hb hd
    simp only [World.size_alloc] at hz hc hf
    have er : w1.cell? ⟨w.heap.size + 1 + 1, 0, none⟩ = some (.int .i64 0) := by rw [hc _ _ (by omega)]; go_simp
    have es : w1.cell? ⟨w.heap.size + 1 + 1, 1, none⟩ = some (.int .i64 0) := by rw [hc _ _ (by omega)]; go_simp
    have et : w1.cell? ⟨w.heap.size + 1 + 1, 2, none⟩ = some (.int .i64 0) := by rw [hc _ _ (by omega)]; go_simp
    have fr : w1.frozen? ⟨w.heap.size + 1 + 1, 0, none⟩ = false := by rw [hf _ _ (by omega)]; go_simp
    have fs : w1.frozen? ⟨w.heap.size + 1 + 1, 1, none⟩ = false := by rw [hf _ _ (by omega)]; go_simp
    have ft : w1.frozen? ⟨w.heap.size + 1 + 1, 2, none⟩ = false := by rw [hf _ _ (by omega)]; go_simp
    clear hc hf
    go_wp2
    refine bodyPost_ret (v := tr3 false 0 0 0) ?_ rfl ⟨rfl, (by repeat (first | (with_reducible exact Below.refl _ _) | (with_reducible exact Hid.out (by with_reducible assumption)) | (with_reducible apply below_drewN) | (with_reducible apply below_drew) | (with_reducible apply below_alloc) | (refine below_set ?_ ?_ _; (focus (first | (simp; done) | (simp; omega))))))⟩
    simp [results, Tryz.results87, go_sem, er, es, et]
  · have hbit : bit < 0 ∨ 1 < bit := by
      have h : (decide (0 ≤ bit) && decide (bit ≤ 1)) = false := by simpa [trOk, hok] using hno
      simp only [Bool.and_eq_false_iff, decide_eq_false_iff_not] at h; omega
    clear hno
    have tb : (decide (0 ≤ bit) && decide (bit ≤ 1)) = false := by rw [Bool.and_eq_false_iff]; simp only [decide_eq_false_iff_not]; omega
    all_goals
      go_enter Tryz.func87, Tryz.ntmps87
      go_wp2_with fail
      refine (rdot_any a b c x y z _).mono ?_
      rw [hok, hd]
      rintro e w1 ⟨rfl, hb⟩
      have hq := Lib.hid (below_next (w := w) (by repeat (first | (with_reducible exact Below.refl _ _) | (with_reducible exact Hid.out (by with_reducible assumption)) | (with_reducible apply below_drewN) | (with_reducible apply below_drew) | (with_reducible apply below_alloc) | (refine below_set ?_ ?_ _; (focus (first | (simp; done) | (simp; omega)))))) hb)
      have hz := hb.size
      obtain ⟨hc, hf⟩ := bcell hb
      clear hb hd
      simp only [World.size_alloc] at hz hc hf
      have er : w1.cell? ⟨w.heap.size + 1 + 1, 0, none⟩ = some (.int .i64 0) := by rw [hc _ _ (by omega)]; go_simp
      have es : w1.cell? ⟨w.heap.size + 1 + 1, 1, none⟩ = some (.int .i64 0) := by rw [hc _ _ (by omega)]; go_simp
      have et : w1.cell? ⟨w.heap.size + 1 + 1, 2, none⟩ = some (.int .i64 0) := by rw [hc _ _ (by omega)]; go_simp
      have fr : w1.frozen? ⟨w.heap.size + 1 + 1, 0, none⟩ = false := by rw [hf _ _ (by omega)]; go_simp
      have fs : w1.frozen? ⟨w.heap.size + 1 + 1, 1, none⟩ = false := by rw [hf _ _ (by omega)]; go_simp
      have ft : w1.frozen? ⟨w.heap.size + 1 + 1, 2, none⟩ = false := by rw [hf _ _ (by omega)]; go_simp
      clear hc hf
      go_wp2_with ((go_at_call 79; refine (bit_may _ _).mono ?_; rintro e w1 ⟨rfl, rfl⟩))
      refine bodyPost_ret (v := tr3 false 0 0 0) ?_ rfl ⟨rfl, (by repeat (first | (with_reducible exact Below.refl _ _) | (with_reducible exact Hid.out (by with_reducible assumption)) | (with_reducible apply below_drewN) | (with_reducible apply below_drew) | (with_reducible apply below_alloc) | (refine below_set ?_ ?_ _; (focus (first | (simp; done) | (simp; omega))))))⟩
      simp [results, Tryz.results87, go_sem, er, es, et]
theorem rtrain_any (a b c x y z bit : Int) (w : World) :
   Calls Tryz.prog 87 #[v3 a b c, v3 x y z, .int .i64 bit] w fun e w' => e = .returned (tr3 (trOk a b c x y z bit) (tw a x (4096 * bit - dot a b c x y z)) (tw b y (4096 * bit - dot a b c x y z)) (tw c z (4096 * bit - dot a b c x y z))) ∧ Below w.heap.size w w' := by
  cases h : trOk a b c x y z bit
  · exact rtrain_no a b c x y z bit w h
  · have h' : mixOk a b c x y z = true ∧ 0 ≤ bit ∧ bit ≤ 1 := by simpa [trOk] using h
    exact rtrain_yes a b c x y z bit w h'.1 h'.2.1 h'.2.2
end Go.Proofs.YtiokfaiioealdaaGreatDoor
