/- A counter goes by at most a sixteenth of what is left, for every list of bits. -/
import Derived.Test.YtlabpfebdhbgiaaPCountStepsx2
import Derived.Laws.Bits128
namespace Go.Proofs.Ytlabpfebdhbgiaa.Pure
open Go.RowKit Go.Proofs.Ytlabpfebdhbgiaa.PCountSteps Go.Proofs.YtlabpfebdhbgiaaW.PrintWords Go.Proofs.YtlabpfebdhbgiaaW.PrintLast

theorem aw : descantlaw7_awake.f 3 = some true := by decide +kernel

theorem may (a : Int) : count_May.f a = some (decide (0 ≤ a) && decide (a ≤ 65535)) := by
  unfold count_May.f
  by_cases h : a ≥ 0
  · rw [if_pos h]; simp; omega
  · rw [if_neg h]; simp; omega

theorem may_yes (a : Int) (h0 : 0 ≤ a) (h1 : a ≤ 65535) : count_May.f a = some true := by
  rw [may]; simp [h0, h1]

theorem may_no (a : Int) (h : a < 0 ∨ 65535 < a) : count_May.f a = some false := by
  rw [may]; congr 1; rw [Bool.and_eq_false_iff]; simp only [decide_eq_false_iff_not]; omega

theorem w64 {x : Int} (h0 : -9223372036854775808 ≤ x) (h1 : x ≤ 9223372036854775807) : wrap64 x = x := by unfold wrap64; omega

theorem up (k : Nat) (x : Int) (h0 : 0 ≤ x) (h1 : x ≤ 65535) : count_Next.f (k + 1) x 1 = some (x + (65535 - x) / 16, 0) := by
  unfold count_Next.f
  rw [may_yes x h0 h1]
  simp [count_Next.j0]
  rw [w64 (x := 65535 - x) (by omega) (by omega), Int.tdiv_eq_ediv_of_nonneg (by omega), w64 (x := (65535 - x) / 16) (by omega) (by omega), w64 (by omega) (by omega)]

theorem down (k : Nat) (x : Int) (h0 : 0 ≤ x) (h1 : x ≤ 65535) : count_Next.f (k + 1) x 0 = some (x - x / 16, 0) := by
  unfold count_Next.f
  rw [may_yes x h0 h1]
  simp [count_Next.j0]
  rw [Int.tdiv_eq_ediv_of_nonneg (by omega), w64 (x := x / 16) (by omega) (by omega), w64 (by omega) (by omega)]

theorem p_yes (x : Int) (h0 : 0 ≤ x) (h1 : x ≤ 65535) : count_P.f x = some (mn (mx (x / 16) 1) 4095, 0) := by
  unfold count_P.f
  rw [may_yes x h0 h1]
  simp
  rw [Int.tdiv_eq_ediv_of_nonneg (by omega), w64 (x := x / 16) (by omega) (by omega)]

theorem p_no (x : Int) (h : x < 0 ∨ 65535 < x) : count_P.f x = some (0, 700) := by
  unfold count_P.f
  rw [may_no x h]
  simp

theorem next_no (k : Nat) (x b : Int) (h : (x < 0 ∨ 65535 < x) ∨ b < 0 ∨ 1 < b) : count_Next.f (k + 1) x b = some (0, 700) := by
  unfold count_Next.f
  rw [may]
  cases e : (decide (0 ≤ x) && decide (x ≤ 65535))
  · simp [count_Next.j0]
  · have e' : 0 ≤ x ∧ x ≤ 65535 := by simpa using e
    by_cases h0 : b < 0
    · simp [h0, count_Next.j0]
    · have h1 : 1 < b := by omega
      simp [h0, h1, count_Next.j0]

theorem and1 (n : Int) : Go.bits .and .i64 n 1 = n % 2 := by
  have h127 : (BitVec.ofInt 64 1).toNat = 2 ^ 1 - 1 := by decide
  have key : (BitVec.ofInt 64 n &&& BitVec.ofInt 64 1).toNat = (n % ((2 ^ 64 : Nat) : Int)).toNat % 2 ^ 1 := by
    rw [BitVec.toNat_and, BitVec.toNat_ofInt, h127, Nat.and_two_pow_sub_one_eq_mod]
  show IntKind.i64.wrap ((BitVec.ofInt 64 n &&& BitVec.ofInt 64 1).toNat : Nat) = n % 2
  rw [key, IntKind.wrap_i64]
  omega


theorem steps (xs : List Int) (hn : xs.length ≤ 140737488351232) (d : Nat) : ∀ (k : Nat) (x i : Int), 0 ≤ x → x ≤ 65535 → 0 ≤ i → i ≤ xs.length → (xs.length : Int) - i = d → 2 * d + 6 ≤ k → descantlaw7_CountSteps.l0 k xs x i = some true := by
  induction d with
  | zero =>
    intro k x i h0 h1 hi hl hd hk
    obtain ⟨k, rfl⟩ : ∃ m, k = m + 1 + 1 := ⟨k - 2, by omega⟩
    simp only [descantlaw7_CountSteps.l0]
    rw [if_neg (by omega)]
    simp only [descantlaw7_CountSteps.j1]
    rw [if_neg (by decide), p_yes x h0 h1]
    simp only [Option.bind_some, descantlaw0_Num.f, if_true]
    have h1 : mn (mx (x / 16) 1) 4095 ≥ 1 := by unfold mn mx; repeat' split
                                                all_goals omega
    have h2 : mn (mx (x / 16) 1) 4095 ≤ 4095 := by unfold mn mx; repeat' split
                                                   all_goals omega
    rw [if_pos h1, decide_eq_true h2]
  | succ d ih =>
    intro k x i h0 h1 hi hl hd hk
    obtain ⟨k, rfl⟩ : ∃ m, k = m + 1 + 1 + 1 := ⟨k - 3, by omega⟩
    simp only [descantlaw7_CountSteps.l0]
    rw [if_pos (by omega)]
    by_cases h60 : i < 60
    · rw [decide_eq_true h60]
      have hup := ih (k + 1) (x + (65535 - x) / 16) (i + 1) (by omega) (by omega) (by omega) (by omega) (by omega) (by omega)
      have hdn := ih (k + 1) (x - x / 16) (i + 1) (by omega) (by omega) (by omega) (by omega) (by omega) (by omega)
      unfold descantlaw7_CountSteps.j1
      rw [if_pos rfl, if_pos hi, if_pos (by omega), and1, w64 (x := i + 1) (by omega) (by omega)]
      have e : rd xs i % 2 = 0 ∨ rd xs i % 2 = 1 := by omega
      generalize rd xs i % 2 = q at *
      rcases e with e | e
      · subst e
        rw [down k x h0 h1]
        simp only [Option.bind_some, descantlaw0_Num.f, if_true]
        rw [if_neg (by decide), w64 (x := x - (x - x / 16)) (by omega) (by omega), w64 (x := 16 * (x - (x - x / 16))) (by omega) (by omega), if_neg (by omega), if_neg (by omega), if_neg (by omega)]
        exact hdn
      · subst e
        rw [up k x h0 h1]
        simp only [Option.bind_some, descantlaw0_Num.f, if_true]
        rw [w64 (x := x + (65535 - x) / 16 - x) (by omega) (by omega), w64 (x := 16 * (x + (65535 - x) / 16 - x)) (by omega) (by omega), w64 (x := 65535 - x) (by omega) (by omega), if_neg (by omega), if_neg (by decide), if_neg (by omega), if_neg (by omega)]
        exact hup
    · rw [decide_eq_false h60]
      simp only [descantlaw7_CountSteps.j1]
      rw [if_neg (by decide), p_yes x h0 h1]
      simp only [Option.bind_some, descantlaw0_Num.f, if_true]
      have h1 : mn (mx (x / 16) 1) 4095 ≥ 1 := by unfold mn mx; repeat' split
                                                  all_goals omega
      have h2 : mn (mx (x / 16) 1) 4095 ≤ 4095 := by unfold mn mx; repeat' split
                                                     all_goals omega
      rw [if_pos h1, decide_eq_true h2]

theorem CountSteps : descantlaw7_CountSteps.Pure := by
  intro l _ hn _
  refine ⟨2 * l.length + 10, ?_⟩
  unfold descantlaw7_CountSteps.f
  have ha : descantlaw7_awake.f (2 * l.length + 10) = some true := by
    have h : ∀ n, descantlaw7_awake.f (3 + n) = some true := by
      intro n
      induction n with
      | zero => exact aw
      | succ n ih => exact descantlaw7_awake.mono (3 + n) _ ih
    have := h (2 * l.length + 7)
    rwa [show 3 + (2 * l.length + 7) = 2 * l.length + 10 by omega] at this
  rw [ha]
  simp only [Option.bind_some, if_true, count_New.f]
  exact steps l (by omega) l.length _ 32768 0 (by omega) (by omega) (by omega) (by omega) (by omega) (by omega)

end Go.Proofs.Ytlabpfebdhbgiaa.Pure
