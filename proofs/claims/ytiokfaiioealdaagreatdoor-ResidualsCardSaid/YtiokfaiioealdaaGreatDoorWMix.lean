/- What the mix of three comes to, the program's and the document's own. -/
import Derived.Test.YtiokfaiioealdaaGreatDoorWNum
namespace Go.Proofs.YtiokfaiioealdaaGreatDoor
open Go.RowKit Go.Proofs.YtiokfaiioealdaaGreatDoor.L
set_option linter.unusedVariables false
set_option linter.unusedSimpArgs false

theorem bound_any (x lo hi : Int) (w : World) : Calls Tryz.prog 206 #[.int .i64 x, .int .i64 lo, .int .i64 hi] w fun e w' => e = .returned (.int .i64 (bound x lo hi)) ∧ w = w' := by
  go_enter Tryz.func206, Tryz.ntmps206
  go_wp2
  all_goals (go_ret; exact ⟨ret_int (by unfold bound; (repeat' split) <;> omega), rfl⟩)
theorem weights_any (b o : Nat) (a0 a1 a2 : Int) (w : World) (h0 : w.cell? ⟨b, o, none⟩ = some (.int .i64 a0)) (h1 : w.cell? ⟨b, o+1, none⟩ = some (.int .i64 a1)) (h2 : w.cell? ⟨b, o+2, none⟩ = some (.int .i64 a2)) :
   Calls Tryz.prog 204 #[.pointer (some ⟨b, o, none⟩)] w fun e w' => e = .returned (.bool (in3 1048576 a0 a1 a2)) ∧ w = w' := by
  go_enter Tryz.func204, Tryz.ntmps204
  go_wp2
  go_rounds 4
  all_goals (go_ret; exact ⟨ret_bool (by symm; first | exact in3_no (by omega) | exact in3_yes (by omega)), rfl⟩)
theorem inputs_any (b o : Nat) (a0 a1 a2 : Int) (w : World) (h0 : w.cell? ⟨b, o, none⟩ = some (.int .i64 a0)) (h1 : w.cell? ⟨b, o+1, none⟩ = some (.int .i64 a1)) (h2 : w.cell? ⟨b, o+2, none⟩ = some (.int .i64 a2)) :
   Calls Tryz.prog 205 #[.pointer (some ⟨b, o, none⟩)] w fun e w' => e = .returned (.bool (in3 2047 a0 a1 a2)) ∧ w = w' := by
  go_enter Tryz.func205, Tryz.ntmps205
  go_wp2
  go_rounds 4
  all_goals (go_ret; exact ⟨ret_bool (by symm; first | exact in3_no (by omega) | exact in3_yes (by omega)), rfl⟩)
def v3 (a b c : Int) : Value := .agg #[.int .i64 a, .int .i64 b, .int .i64 c]
attribute [go_sem] v3
theorem idx3_0 (x y z : Int) (w : World) : (Instr.index 61 (.agg #[.int .i64 x, .int .i64 y, .int .i64 z]) (.int .i64 0)).run Tryz.prog w = .ok (.int .i64 x) w := by kernel_rfl
theorem idx3_1 (x y z : Int) (w : World) : (Instr.index 61 (.agg #[.int .i64 x, .int .i64 y, .int .i64 z]) (.int .i64 1)).run Tryz.prog w = .ok (.int .i64 y) w := by kernel_rfl
theorem idx3_2 (x y z : Int) (w : World) : (Instr.index 61 (.agg #[.int .i64 x, .int .i64 y, .int .i64 z]) (.int .i64 2)).run Tryz.prog w = .ok (.int .i64 z) w := by kernel_rfl
attribute [go_sem] idx3_0 idx3_1 idx3_2
theorem mul_abs {a x m n : Int} (h : -m ≤ a ∧ a ≤ m) (k : -n ≤ x ∧ x ≤ n) : -(m * n) ≤ a * x ∧ a * x ≤ m * n := by
  have h1 : a.natAbs ≤ m.natAbs := by omega
  have h2 : x.natAbs ≤ n.natAbs := by omega
  have h3 : (a * x).natAbs ≤ (m * n).natAbs := by rw [Int.natAbs_mul, Int.natAbs_mul]; exact Nat.mul_le_mul h1 h2
  have h4 : 0 ≤ m * n := Int.mul_nonneg (by omega) (by omega)
  omega
theorem dot_any (a b c x y z : Int) (w : World) (ht : Tab w) :
   Calls Tryz.prog 187 #[v3 a b c, v3 x y z] w fun e w' => e = .returned (num2 (mixOk a b c x y z) (dot a b c x y z) 800) ∧ Below w.heap.size w w' := by
  unfold v3
  cases h1 : in3 1048576 a b c
  · rw [show mixOk a b c x y z = false by simp [mixOk, h1]]
    go_enter Tryz.func187, Tryz.ntmps187
    go_wp2_with ((go_at_call 204; refine (weights_any _ 0 a b c _ (by simp) (by simp) (by simp)).mono ?_; rintro e w1 ⟨rfl, rfl⟩))
    go_ret2
    exact ⟨rfl, (by repeat (first | (with_reducible exact Below.refl _ _) | (with_reducible exact Hid.out (by with_reducible assumption)) | (with_reducible apply below_drewN) | (with_reducible apply below_drew) | (with_reducible apply below_alloc) | (refine below_set ?_ ?_ _; (focus (first | (simp; done) | (simp; omega))))))⟩
  · cases h2 : in3 2047 x y z
    · rw [show mixOk a b c x y z = false by simp [mixOk, h2]]
      go_enter Tryz.func187, Tryz.ntmps187
      go_wp2_with (first | (go_at_call 204; refine (weights_any _ 0 a b c _ (by simp) (by simp) (by simp)).mono ?_; rintro e w1 ⟨rfl, rfl⟩) | (go_at_call 205; refine (inputs_any _ 0 x y z _ (by simp) (by simp) (by simp)).mono ?_; rintro e w1 ⟨rfl, rfl⟩))
      go_ret2
      exact ⟨rfl, (by repeat (first | (with_reducible exact Below.refl _ _) | (with_reducible exact Hid.out (by with_reducible assumption)) | (with_reducible apply below_drewN) | (with_reducible apply below_drew) | (with_reducible apply below_alloc) | (refine below_set ?_ ?_ _; (focus (first | (simp; done) | (simp; omega))))))⟩
    · rw [show mixOk a b c x y z = true by simp [mixOk, h1, h2]]
      obtain ⟨a0, a1, b0, b1, c0, c1⟩ := in3_iff.1 h1
      obtain ⟨x0, x1, y0, y1, z0, z1⟩ := in3_iff.1 h2
      obtain ⟨p0, p1⟩ := mul_abs ⟨a0, a1⟩ ⟨x0, x1⟩
      obtain ⟨q0, q1⟩ := mul_abs ⟨b0, b1⟩ ⟨y0, y1⟩
      obtain ⟨r0, r1⟩ := mul_abs ⟨c0, c1⟩ ⟨z0, z1⟩
      go_enter Tryz.func187, Tryz.ntmps187
      go_wp2_with (first | (go_at_call 204; refine (weights_any _ 0 a b c _ (by simp) (by simp) (by simp)).mono ?_; rintro e w1 ⟨rfl, rfl⟩) | (go_at_call 205; refine (inputs_any _ 0 x y z _ (by simp) (by simp) (by simp)).mono ?_; rintro e w1 ⟨rfl, rfl⟩))
      refine wp_loop_rounds 4 ?_
      repeat any_goals (rw [rounds_succ]; go_wp2_with (first | (go_at_call 207; refine (squash_any _ _ (Tab.below (w := w) ht (by repeat (first | (with_reducible exact Below.refl _ _) | (with_reducible exact Hid.out (by with_reducible assumption)) | (with_reducible apply below_drewN) | (with_reducible apply below_drew) | (with_reducible apply below_alloc) | (refine below_set ?_ ?_ _; (focus (first | (simp; done) | (simp; omega)))))))).mono ?_; rintro e w1 ⟨rfl, nd, rfl⟩) | (go_at_call 206; refine (bound_any _ _ _ _).mono ?_; rintro e w1 ⟨rfl, rfl⟩)))
      go_ret2
      exact ⟨rfl, (by repeat (first | (with_reducible exact Below.refl _ _) | (with_reducible exact Hid.out (by with_reducible assumption)) | (with_reducible apply below_drewN) | (with_reducible apply below_drew) | (with_reducible apply below_alloc) | (refine below_set ?_ ?_ _; (focus (first | (simp; done) | (simp; omega))))))⟩
/-- Three whole numbers in a block of the call's own. -/
structure C3 (w : World) (b : Nat) (x y z : Int) : Prop where
  e0 : w.cell? ⟨b, 0, none⟩ = some (.int .i64 x)
  e1 : w.cell? ⟨b, 1, none⟩ = some (.int .i64 y)
  e2 : w.cell? ⟨b, 2, none⟩ = some (.int .i64 z)
  f0 : w.frozen? ⟨b, 0, none⟩ = false
  f1 : w.frozen? ⟨b, 1, none⟩ = false
  f2 : w.frozen? ⟨b, 2, none⟩ = false
def tr3 (ok : Bool) (a b c : Int) : Value := .tuple #[v3 (if ok then a else 0) (if ok then b else 0) (if ok then c else 0), .int .i64 (if ok then 0 else 800)]
attribute [go_sem] tr3
set_option maxHeartbeats 1000000 in
theorem train_yes (a b c x y z bit : Int) (w : World) (ht : Tab w) (hok : mixOk a b c x y z = true) (hb0 : 0 ≤ bit) (hb1 : bit ≤ 1) :
   Calls Tryz.prog 189 #[v3 a b c, v3 x y z, .int .i64 bit] w fun e w' => e = .returned (tr3 true (tw a x (4096 * bit - dot a b c x y z)) (tw b y (4096 * bit - dot a b c x y z)) (tw c z (4096 * bit - dot a b c x y z))) ∧ Below w.heap.size w w' := by
  unfold v3
  obtain ⟨d, hd⟩ : ∃ d, dot a b c x y z = d := ⟨_, rfl⟩
  have hdr := dot_range a b c x y z
  rw [hd] at hdr ⊢
  obtain ⟨d0, d1⟩ := hdr
  have HD := Lib.hid hd
  obtain ⟨⟨a0, a1, b0, b1, c0, c1⟩, x0, x1, y0, y1, z0, z1⟩ := mixOk_iff.1 hok
  obtain ⟨p0, p1⟩ := mul_abs ⟨x0, x1⟩ (x := 4096 * bit - d) (n := 4096) (by omega)
  obtain ⟨q0, q1⟩ := mul_abs ⟨y0, y1⟩ (x := 4096 * bit - d) (n := 4096) (by omega)
  obtain ⟨r0, r1⟩ := mul_abs ⟨z0, z1⟩ (x := 4096 * bit - d) (n := 4096) (by omega)
  have t1 : decide (bit < 0) = false := by simp; omega
  have t2 : decide (1 < bit) = false := by simp; omega
  go_enter Tryz.func189, Tryz.ntmps189
  go_wp2_with fail
  refine (dot_any a b c x y z _ (Tab.below (w := w) ht (by repeat (first | (with_reducible exact Below.refl _ _) | (with_reducible exact Hid.out (by with_reducible assumption)) | (with_reducible apply below_drewN) | (with_reducible apply below_drew) | (with_reducible apply below_alloc) | (refine below_set ?_ ?_ _; (focus (first | (simp; done) | (simp; omega)))))))).mono ?_
  rw [hok, hd]
  rintro e w1 ⟨rfl, hb⟩
  have hq := Lib.hid (below_next (w := w) (by repeat (first | (with_reducible exact Below.refl _ _) | (with_reducible exact Hid.out (by with_reducible assumption)) | (with_reducible apply below_drewN) | (with_reducible apply below_drew) | (with_reducible apply below_alloc) | (refine below_set ?_ ?_ _; (focus (first | (simp; done) | (simp; omega)))))) hb)
  have hz := hb.size
  obtain ⟨hc, hf⟩ := bcell hb
  clear hb hd
  simp only [World.size_alloc] at hz hc hf
  have ea : w1.cell? ⟨w.heap.size, 0, none⟩ = some (.int .i64 a) := by rw [hc _ _ (by omega)]; go_simp
  have eb : w1.cell? ⟨w.heap.size, 1, none⟩ = some (.int .i64 b) := by rw [hc _ _ (by omega)]; go_simp
  have ec : w1.cell? ⟨w.heap.size, 2, none⟩ = some (.int .i64 c) := by rw [hc _ _ (by omega)]; go_simp
  have ex : w1.cell? ⟨w.heap.size + 1, 0, none⟩ = some (.int .i64 x) := by rw [hc _ _ (by omega)]; go_simp
  have ey : w1.cell? ⟨w.heap.size + 1, 1, none⟩ = some (.int .i64 y) := by rw [hc _ _ (by omega)]; go_simp
  have ez : w1.cell? ⟨w.heap.size + 1, 2, none⟩ = some (.int .i64 z) := by rw [hc _ _ (by omega)]; go_simp
  have er : w1.cell? ⟨w.heap.size + 1 + 1, 0, none⟩ = some (.int .i64 0) := by rw [hc _ _ (by omega)]; go_simp
  have es : w1.cell? ⟨w.heap.size + 1 + 1, 1, none⟩ = some (.int .i64 0) := by rw [hc _ _ (by omega)]; go_simp
  have et : w1.cell? ⟨w.heap.size + 1 + 1, 2, none⟩ = some (.int .i64 0) := by rw [hc _ _ (by omega)]; go_simp
  have fa : w1.frozen? ⟨w.heap.size, 0, none⟩ = false := by rw [hf _ _ (by omega)]; go_simp
  have fb : w1.frozen? ⟨w.heap.size, 1, none⟩ = false := by rw [hf _ _ (by omega)]; go_simp
  have fc : w1.frozen? ⟨w.heap.size, 2, none⟩ = false := by rw [hf _ _ (by omega)]; go_simp
  have fr : w1.frozen? ⟨w.heap.size + 1 + 1, 0, none⟩ = false := by rw [hf _ _ (by omega)]; go_simp
  have fs : w1.frozen? ⟨w.heap.size + 1 + 1, 1, none⟩ = false := by rw [hf _ _ (by omega)]; go_simp
  have ft : w1.frozen? ⟨w.heap.size + 1 + 1, 2, none⟩ = false := by rw [hf _ _ (by omega)]; go_simp
  clear hc hf
  go_wp2
  refine wp_loop_rounds 4 ?_
  rw [rounds_succ]
  go_wp2_with ((go_at_call 206; refine (bound_any _ _ _ _).mono ?_; rintro e w1 ⟨rfl, rfl⟩))
  rw [rounds_succ]
  go_wp2_with ((go_at_call 206; refine (bound_any _ _ _ _).mono ?_; rintro e w1 ⟨rfl, rfl⟩))
  rw [rounds_succ]
  go_wp2_with ((go_at_call 206; refine (bound_any _ _ _ _).mono ?_; rintro e w1 ⟨rfl, rfl⟩))
  rw [rounds_succ]
  go_wp2_with ((go_at_call 206; refine (bound_any _ _ _ _).mono ?_; rintro e w1 ⟨rfl, rfl⟩))
  refine bodyPost_ret (v := tr3 true (tw a x (4096 * bit - d)) (tw b y (4096 * bit - d)) (tw c z (4096 * bit - d))) ?_ rfl ⟨rfl, (by repeat (first | (with_reducible exact Below.refl _ _) | (with_reducible exact Hid.out (by with_reducible assumption)) | (with_reducible apply below_drewN) | (with_reducible apply below_drew) | (with_reducible apply below_alloc) | (refine below_set ?_ ?_ _; (focus (first | (simp; done) | (simp; omega))))))⟩
  simp [results, Tryz.results189, go_sem, tw, ea, eb, ec, ex, ey, ez, er, es, et]
theorem train_no (a b c x y z bit : Int) (w : World) (ht : Tab w) (hno : trOk a b c x y z bit = false) :
   Calls Tryz.prog 189 #[v3 a b c, v3 x y z, .int .i64 bit] w fun e w' => e = .returned (tr3 false 0 0 0) ∧ Below w.heap.size w w' := by
  unfold v3
  obtain ⟨d, hd⟩ : ∃ d, dot a b c x y z = d := ⟨_, rfl⟩
  cases hok : mixOk a b c x y z
  · go_enter Tryz.func189, Tryz.ntmps189
    go_wp2_with fail
    refine (dot_any a b c x y z _ (Tab.below (w := w) ht (by repeat (first | (with_reducible exact Below.refl _ _) | (with_reducible exact Hid.out (by with_reducible assumption)) | (with_reducible apply below_drewN) | (with_reducible apply below_drew) | (with_reducible apply below_alloc) | (refine below_set ?_ ?_ _; (focus (first | (simp; done) | (simp; omega)))))))).mono ?_
    rw [hok, hd]
    rintro e w1 ⟨rfl, hb⟩
    have hq := Lib.hid (below_next (w := w) (by repeat (first | (with_reducible exact Below.refl _ _) | (with_reducible exact Hid.out (by with_reducible assumption)) | (with_reducible apply below_drewN) | (with_reducible apply below_drew) | (with_reducible apply below_alloc) | (refine below_set ?_ ?_ _; (focus (first | (simp; done) | (simp; omega)))))) hb)
    have hz := hb.size
    obtain ⟨hc, hf⟩ := bcell hb
    clear hb hd
    simp only [World.size_alloc] at hz hc hf
    have er : w1.cell? ⟨w.heap.size + 1 + 1, 0, none⟩ = some (.int .i64 0) := by rw [hc _ _ (by omega)]; go_simp
    have es : w1.cell? ⟨w.heap.size + 1 + 1, 1, none⟩ = some (.int .i64 0) := by rw [hc _ _ (by omega)]; go_simp
    have et : w1.cell? ⟨w.heap.size + 1 + 1, 2, none⟩ = some (.int .i64 0) := by rw [hc _ _ (by omega)]; go_simp
    have fr : w1.frozen? ⟨w.heap.size + 1 + 1, 0, none⟩ = false := by rw [hf _ _ (by omega)]; go_simp
    have fs : w1.frozen? ⟨w.heap.size + 1 + 1, 1, none⟩ = false := by rw [hf _ _ (by omega)]; go_simp
    have ft : w1.frozen? ⟨w.heap.size + 1 + 1, 2, none⟩ = false := by rw [hf _ _ (by omega)]; go_simp
    clear hc hf
    go_wp2
    refine bodyPost_ret (v := tr3 false 0 0 0) ?_ rfl ⟨rfl, (by repeat (first | (with_reducible exact Below.refl _ _) | (with_reducible exact Hid.out (by with_reducible assumption)) | (with_reducible apply below_drewN) | (with_reducible apply below_drew) | (with_reducible apply below_alloc) | (refine below_set ?_ ?_ _; (focus (first | (simp; done) | (simp; omega))))))⟩
    simp [results, Tryz.results189, go_sem, er, es, et]
  · have hbit : bit < 0 ∨ 1 < bit := by
      have h : (decide (0 ≤ bit) && decide (bit ≤ 1)) = false := by simpa [trOk, hok] using hno
      simp only [Bool.and_eq_false_iff, decide_eq_false_iff_not] at h; omega
    clear hno
    by_cases h0 : bit < 0
    all_goals
      go_enter Tryz.func189, Tryz.ntmps189
      go_wp2_with fail
      refine (dot_any a b c x y z _ (Tab.below (w := w) ht (by repeat (first | (with_reducible exact Below.refl _ _) | (with_reducible exact Hid.out (by with_reducible assumption)) | (with_reducible apply below_drewN) | (with_reducible apply below_drew) | (with_reducible apply below_alloc) | (refine below_set ?_ ?_ _; (focus (first | (simp; done) | (simp; omega)))))))).mono ?_
      rw [hok, hd]
      rintro e w1 ⟨rfl, hb⟩
      have hq := Lib.hid (below_next (w := w) (by repeat (first | (with_reducible exact Below.refl _ _) | (with_reducible exact Hid.out (by with_reducible assumption)) | (with_reducible apply below_drewN) | (with_reducible apply below_drew) | (with_reducible apply below_alloc) | (refine below_set ?_ ?_ _; (focus (first | (simp; done) | (simp; omega)))))) hb)
      have hz := hb.size
      obtain ⟨hc, hf⟩ := bcell hb
      clear hb hd
      simp only [World.size_alloc] at hz hc hf
      have er : w1.cell? ⟨w.heap.size + 1 + 1, 0, none⟩ = some (.int .i64 0) := by rw [hc _ _ (by omega)]; go_simp
      have es : w1.cell? ⟨w.heap.size + 1 + 1, 1, none⟩ = some (.int .i64 0) := by rw [hc _ _ (by omega)]; go_simp
      have et : w1.cell? ⟨w.heap.size + 1 + 1, 2, none⟩ = some (.int .i64 0) := by rw [hc _ _ (by omega)]; go_simp
      have fr : w1.frozen? ⟨w.heap.size + 1 + 1, 0, none⟩ = false := by rw [hf _ _ (by omega)]; go_simp
      have fs : w1.frozen? ⟨w.heap.size + 1 + 1, 1, none⟩ = false := by rw [hf _ _ (by omega)]; go_simp
      have ft : w1.frozen? ⟨w.heap.size + 1 + 1, 2, none⟩ = false := by rw [hf _ _ (by omega)]; go_simp
      clear hc hf
      go_wp2
      refine bodyPost_ret (v := tr3 false 0 0 0) ?_ rfl ⟨rfl, (by repeat (first | (with_reducible exact Below.refl _ _) | (with_reducible exact Hid.out (by with_reducible assumption)) | (with_reducible apply below_drewN) | (with_reducible apply below_drew) | (with_reducible apply below_alloc) | (refine below_set ?_ ?_ _; (focus (first | (simp; done) | (simp; omega))))))⟩
      simp [results, Tryz.results189, go_sem, er, es, et]
theorem train_any (a b c x y z bit : Int) (w : World) (ht : Tab w) :
   Calls Tryz.prog 189 #[v3 a b c, v3 x y z, .int .i64 bit] w fun e w' => e = .returned (tr3 (trOk a b c x y z bit) (tw a x (4096 * bit - dot a b c x y z)) (tw b y (4096 * bit - dot a b c x y z)) (tw c z (4096 * bit - dot a b c x y z))) ∧ Below w.heap.size w w' := by
  cases h : trOk a b c x y z bit
  · exact train_no a b c x y z bit w ht h
  · have h' : mixOk a b c x y z = true ∧ 0 ≤ bit ∧ bit ≤ 1 := by simpa [trOk] using h
    exact train_yes a b c x y z bit w ht h'.1 h'.2.1 h'.2.2

end Go.Proofs.YtiokfaiioealdaaGreatDoor
