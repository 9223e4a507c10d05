/- More on the mix of three: what is greater stays greater; a row turned round; what training brings. Plain numbers. -/
import Derived.Test.YtlabpfebdhbgiaaDoorNum
namespace Go.Proofs.YtlabpfebdhbgiaaDoor

theorem bound_mono {x y lo hi : Int} (h : x ≤ y) (hl : lo ≤ hi) : bound x lo hi ≤ bound y lo hi := by unfold bound; (repeat' split) <;> omega
theorem dot_mono {a b c x y z a' b' c' x' y' z' : Int} (h : dsum a b c x y z ≤ dsum a' b' c' x' y' z') : dot a b c x y z ≤ dot a' b' c' x' y' z' :=
  bound_mono (sq_mono (Int.ediv_le_ediv (by omega) h)) (by omega)
theorem dot_turn (a b c x y z : Int) : dot c a b z x y = dot a b c x y z := by
  unfold dot
  rw [show dsum c a b z x y = dsum a b c x y z by unfold dsum; omega]
theorem in3_turn (m a b c : Int) : in3 m c a b = in3 m a b c := by
  rw [Bool.eq_iff_iff, in3_iff, in3_iff]; omega
theorem mixOk_turn (a b c x y z : Int) : mixOk c a b z x y = mixOk a b c x y z := by unfold mixOk; rw [in3_turn, in3_turn 2047 x y z]
theorem trOk_turn (a b c x y z bit : Int) : trOk c a b z x y bit = trOk a b c x y z bit := by unfold trOk; rw [mixOk_turn]
theorem tw_mul {w x p : Int} (hp : 1 ≤ p ∧ p ≤ 4095) (hw : -1048576 ≤ w ∧ w ≤ 1048576) : w * x ≤ tw w x (4096 * 1 - p) * x ∧ tw w x (4096 * 0 - p) * x ≤ w * x := by
  obtain ⟨h1, h2, h3⟩ := tw_way (w := w) (x := x) hp hw
  rcases (by omega : 0 < x ∨ x < 0 ∨ x = 0) with h | h | h
  · obtain ⟨a, b⟩ := h1 h
    exact ⟨Int.mul_le_mul_of_nonneg_right a (by omega), Int.mul_le_mul_of_nonneg_right b (by omega)⟩
  · obtain ⟨a, b⟩ := h2 h
    exact ⟨Int.mul_le_mul_of_nonpos_right a (by omega), Int.mul_le_mul_of_nonpos_right b (by omega)⟩
  · subst h; simp
/-- Trained by a bit its chance is no lesser. -/
theorem nearer {a b c x y z : Int} (h : mixOk a b c x y z = true) :
    dot a b c x y z ≤ dot (tw a x (4096 * 1 - dot a b c x y z)) (tw b y (4096 * 1 - dot a b c x y z)) (tw c z (4096 * 1 - dot a b c x y z)) x y z ∧
    dot (tw a x (4096 * 0 - dot a b c x y z)) (tw b y (4096 * 0 - dot a b c x y z)) (tw c z (4096 * 0 - dot a b c x y z)) x y z ≤ dot a b c x y z := by
  obtain ⟨⟨a0, a1, b0, b1, c0, c1⟩, -⟩ := mixOk_iff.1 h
  have hd := dot_range a b c x y z
  obtain ⟨p1, q1⟩ := tw_mul (w := a) (x := x) hd ⟨a0, a1⟩
  obtain ⟨p2, q2⟩ := tw_mul (w := b) (x := y) hd ⟨b0, b1⟩
  obtain ⟨p3, q3⟩ := tw_mul (w := c) (x := z) hd ⟨c0, c1⟩
  exact ⟨dot_mono (by unfold dsum; omega), dot_mono (by unfold dsum; omega)⟩
theorem trained_ok {a b c x y z o : Int} (h : mixOk a b c x y z = true) : mixOk (tw a x o) (tw b y o) (tw c z o) x y z = true := by
  obtain ⟨-, hx⟩ := mixOk_iff.1 h
  have h1 := tw_range a x o; have h2 := tw_range b y o; have h3 := tw_range c z o
  exact mixOk_iff.2 ⟨by omega, hx⟩
end Go.Proofs.YtlabpfebdhbgiaaDoor
