/- A bit 1 never lowers a counter, a bit 0 never raises it, and two hundred of one sort bring it near its end; for every input of the machine's whole numbers. -/
import Derived.Test.YtlabpfebdhbgiaaPCountLearnsx1
import Derived.Laws.Bits128
namespace Go.Proofs.Ytlabpfebdhbgiaa.Pure
open Go.RowKit Go.Proofs.Ytlabpfebdhbgiaa.PCountLearns Go.Proofs.YtlabpfebdhbgiaaW.PrintWords Go.Proofs.YtlabpfebdhbgiaaW.PrintLast

theorem aw : descantlaw7_awake.f 3 = some true := by decide +kernel

theorem may (a : Int) : count_May.f a = some (decide (0 ≤ a) && decide (a ≤ 65535)) := by
  unfold count_May.f
  by_cases h : a ≥ 0
  · rw [if_pos h]; simp; omega
  · rw [if_neg h]; simp; omega

theorem may_yes (a : Int) (h0 : 0 ≤ a) (h1 : a ≤ 65535) : count_May.f a = some true := by
  rw [may]; simp [h0, h1]

theorem may_no (a : Int) (h : a < 0 ∨ 65535 < a) : count_May.f a = some false := by
  rw [may]; congr 1; rw [Bool.and_eq_false_iff]; simp only [decide_eq_false_iff_not]; omega

theorem w64 {x : Int} (h0 : -9223372036854775808 ≤ x) (h1 : x ≤ 9223372036854775807) : wrap64 x = x := by unfold wrap64; omega

theorem up (k : Nat) (x : Int) (h0 : 0 ≤ x) (h1 : x ≤ 65535) : count_Next.f (k + 1) x 1 = some (x + (65535 - x) / 16, 0) := by
  unfold count_Next.f
  rw [may_yes x h0 h1]
  simp [count_Next.j0]
  rw [w64 (x := 65535 - x) (by omega) (by omega), Int.tdiv_eq_ediv_of_nonneg (by omega), w64 (x := (65535 - x) / 16) (by omega) (by omega), w64 (by omega) (by omega)]

theorem down (k : Nat) (x : Int) (h0 : 0 ≤ x) (h1 : x ≤ 65535) : count_Next.f (k + 1) x 0 = some (x - x / 16, 0) := by
  unfold count_Next.f
  rw [may_yes x h0 h1]
  simp [count_Next.j0]
  rw [Int.tdiv_eq_ediv_of_nonneg (by omega), w64 (x := x / 16) (by omega) (by omega), w64 (by omega) (by omega)]

theorem p_yes (x : Int) (h0 : 0 ≤ x) (h1 : x ≤ 65535) : count_P.f x = some (mn (mx (x / 16) 1) 4095, 0) := by
  unfold count_P.f
  rw [may_yes x h0 h1]
  simp
  rw [Int.tdiv_eq_ediv_of_nonneg (by omega), w64 (x := x / 16) (by omega) (by omega)]

theorem p_no (x : Int) (h : x < 0 ∨ 65535 < x) : count_P.f x = some (0, 700) := by
  unfold count_P.f
  rw [may_no x h]
  simp

theorem next_no (k : Nat) (x b : Int) (h : (x < 0 ∨ 65535 < x) ∨ b < 0 ∨ 1 < b) : count_Next.f (k + 1) x b = some (0, 700) := by
  unfold count_Next.f
  rw [may]
  cases e : (decide (0 ≤ x) && decide (x ≤ 65535))
  · simp [count_Next.j0]
  · have e' : 0 ≤ x ∧ x ≤ 65535 := by simpa using e
    by_cases h0 : b < 0
    · simp [h0, count_Next.j0]
    · have h1 : 1 < b := by omega
      simp [h0, h1, count_Next.j0]

theorem and65535 (n : Int) : Go.bits .and .i64 n 65535 = n % 65536 := by
  have h127 : (BitVec.ofInt 64 65535).toNat = 2 ^ 16 - 1 := by decide
  have key : (BitVec.ofInt 64 n &&& BitVec.ofInt 64 65535).toNat = (n % ((2 ^ 64 : Nat) : Int)).toNat % 2 ^ 16 := by
    rw [BitVec.toNat_and, BitVec.toNat_ofInt, h127, Nat.and_two_pow_sub_one_eq_mod]
  show IntKind.i64.wrap ((BitVec.ofInt 64 n &&& BitVec.ofInt 64 65535).toNat : Nat) = n % 65536
  rw [key, IntKind.wrap_i64]
  omega


/-- What is left, less a sixteenth. -/
def g (y : Int) : Int := y - y / 16
def gs : Nat → Int → Int
  | 0, y => y
  | n + 1, y => gs n (g y)
theorem g_mono {y z : Int} (h : y ≤ z) : g y ≤ g z := by unfold g; omega
theorem gs_mono (n : Nat) : ∀ {y z : Int}, y ≤ z → gs n y ≤ gs n z := by
  induction n with
  | zero => intro y z h; exact h
  | succ n ih => intro y z h; exact ih (g_mono h)
theorem gs_end : gs 200 65535 < 35 := by decide +kernel

theorem rise (d : Nat) : ∀ (k : Nat) (x i : Int), 0 ≤ x → x ≤ 65535 → 0 ≤ i → i + d = 200 → d + 3 ≤ k → gs d (65535 - x) < 35 → descantlaw7_CountLearns.l0 k true x 1 i = some true := by
  induction d with
  | zero =>
    intro k x i h0 h1 hi hd hk hg
    obtain ⟨k, rfl⟩ : ∃ m, k = m + 1 := ⟨k - 1, by omega⟩
    have hg' : 65535 - x < 35 := hg
    simp only [descantlaw7_CountLearns.l0]
    rw [if_neg (by omega), if_pos trivial, if_pos (by omega)]
  | succ d ih =>
    intro k x i h0 h1 hi hd hk hg
    obtain ⟨k, rfl⟩ : ∃ m, k = m + 1 := ⟨k - 1, by omega⟩
    have hu : count_Next.f k x 1 = some (x + (65535 - x) / 16, 0) := by
      obtain ⟨j, rfl⟩ : ∃ j, k = j + 1 := ⟨k - 1, by omega⟩
      exact up j x h0 h1
    have hg' : gs d (65535 - (x + (65535 - x) / 16)) < 35 := by
      have e : 65535 - (x + (65535 - x) / 16) = g (65535 - x) := by unfold g; omega
      rw [e]; exact hg
    simp only [descantlaw7_CountLearns.l0]
    rw [if_pos (by omega), hu]
    simp only [Option.bind_some, if_true, descantlaw0_Num.f]
    rw [if_neg (by omega), if_neg (by omega), if_neg (by omega), w64 (x := i + 1) (by omega) (by omega)]
    exact ih k (x + (65535 - x) / 16) (i + 1) (by omega) (by omega) (by omega) (by omega) (by omega) hg'

theorem fall (d : Nat) : ∀ (k : Nat) (x i : Int), 0 ≤ x → x ≤ 65535 → 0 ≤ i → i + d = 200 → d + 3 ≤ k → gs d x < 35 → descantlaw7_CountLearns.l0 k false x 0 i = some true := by
  induction d with
  | zero =>
    intro k x i h0 h1 hi hd hk hg
    obtain ⟨k, rfl⟩ : ∃ m, k = m + 1 := ⟨k - 1, by omega⟩
    have hg' : x < 35 := hg
    simp only [descantlaw7_CountLearns.l0]
    rw [if_neg (by omega), if_neg (by decide)]
    simp [hg']
  | succ d ih =>
    intro k x i h0 h1 hi hd hk hg
    obtain ⟨k, rfl⟩ : ∃ m, k = m + 1 := ⟨k - 1, by omega⟩
    have hu : count_Next.f k x 0 = some (x - x / 16, 0) := by
      obtain ⟨j, rfl⟩ : ∃ j, k = j + 1 := ⟨k - 1, by omega⟩
      exact down j x h0 h1
    have hg' : gs d (x - x / 16) < 35 := hg
    simp only [descantlaw7_CountLearns.l0]
    rw [if_pos (by omega), hu]
    simp only [Option.bind_some, if_true, descantlaw0_Num.f]
    rw [if_neg (by decide), if_neg (by omega), if_neg (by omega), if_neg (by omega), w64 (x := i + 1) (by omega) (by omega)]
    exact ih k (x - x / 16) (i + 1) (by omega) (by omega) (by omega) (by omega) (by omega) hg'

theorem CountLearns : descantlaw7_CountLearns.Pure := by
  intro a b _
  refine ⟨300, ?_⟩
  unfold descantlaw7_CountLearns.f
  rw [show descantlaw7_awake.f 300 = some true by decide +kernel, and65535]
  have hb0 : 0 ≤ a % 65536 := by omega
  have hb1 : a % 65536 ≤ 65535 := by omega
  generalize a % 65536 = d at *
  simp only [Option.bind_some, if_true]
  cases b with
  | true =>
    simp only [if_true, descantlaw7_CountLearns.j0]
    exact rise 200 299 d 0 hb0 hb1 (by omega) (by omega) (by omega) (Int.lt_of_le_of_lt (gs_mono 200 (by omega)) gs_end)
  | false =>
    rw [if_neg (by decide)]
    simp only [descantlaw7_CountLearns.j0]
    exact fall 200 299 d 0 hb0 hb1 (by omega) (by omega) (by omega) (Int.lt_of_le_of_lt (gs_mono 200 (by omega)) gs_end)

end Go.Proofs.Ytlabpfebdhbgiaa.Pure
