/- What a bit 1 does to a counter from below a bit 0 does from above, for every input of the machine's whole numbers. -/
import Derived.Test.YtlabpfebdhbgiaaPCountMirrorx1
import Derived.Laws.Bits128
namespace Go.Proofs.Ytlabpfebdhbgiaa.Pure
open Go.RowKit Go.Proofs.Ytlabpfebdhbgiaa.PCountMirror Go.Proofs.YtlabpfebdhbgiaaW.PrintWords Go.Proofs.YtlabpfebdhbgiaaW.PrintLast

theorem aw : descantlaw7_awake.f 3 = some true := by decide +kernel

theorem may (a : Int) : count_May.f a = some (decide (0 ≤ a) && decide (a ≤ 65535)) := by
  unfold count_May.f
  by_cases h : a ≥ 0
  · rw [if_pos h]; simp; omega
  · rw [if_neg h]; simp; omega

theorem may_yes (a : Int) (h0 : 0 ≤ a) (h1 : a ≤ 65535) : count_May.f a = some true := by
  rw [may]; simp [h0, h1]

theorem may_no (a : Int) (h : a < 0 ∨ 65535 < a) : count_May.f a = some false := by
  rw [may]; congr 1; rw [Bool.and_eq_false_iff]; simp only [decide_eq_false_iff_not]; omega

theorem w64 {x : Int} (h0 : -9223372036854775808 ≤ x) (h1 : x ≤ 9223372036854775807) : wrap64 x = x := by unfold wrap64; omega

theorem up (k : Nat) (x : Int) (h0 : 0 ≤ x) (h1 : x ≤ 65535) : count_Next.f (k + 1) x 1 = some (x + (65535 - x) / 16, 0) := by
  unfold count_Next.f
  rw [may_yes x h0 h1]
  simp [count_Next.j0]
  rw [w64 (x := 65535 - x) (by omega) (by omega), Int.tdiv_eq_ediv_of_nonneg (by omega), w64 (x := (65535 - x) / 16) (by omega) (by omega), w64 (by omega) (by omega)]

theorem down (k : Nat) (x : Int) (h0 : 0 ≤ x) (h1 : x ≤ 65535) : count_Next.f (k + 1) x 0 = some (x - x / 16, 0) := by
  unfold count_Next.f
  rw [may_yes x h0 h1]
  simp [count_Next.j0]
  rw [Int.tdiv_eq_ediv_of_nonneg (by omega), w64 (x := x / 16) (by omega) (by omega), w64 (by omega) (by omega)]

theorem p_yes (x : Int) (h0 : 0 ≤ x) (h1 : x ≤ 65535) : count_P.f x = some (mn (mx (x / 16) 1) 4095, 0) := by
  unfold count_P.f
  rw [may_yes x h0 h1]
  simp
  rw [Int.tdiv_eq_ediv_of_nonneg (by omega), w64 (x := x / 16) (by omega) (by omega)]

theorem p_no (x : Int) (h : x < 0 ∨ 65535 < x) : count_P.f x = some (0, 700) := by
  unfold count_P.f
  rw [may_no x h]
  simp

theorem next_no (k : Nat) (x b : Int) (h : (x < 0 ∨ 65535 < x) ∨ b < 0 ∨ 1 < b) : count_Next.f (k + 1) x b = some (0, 700) := by
  unfold count_Next.f
  rw [may]
  cases e : (decide (0 ≤ x) && decide (x ≤ 65535))
  · simp [count_Next.j0]
  · have e' : 0 ≤ x ∧ x ≤ 65535 := by simpa using e
    by_cases h0 : b < 0
    · simp [h0, count_Next.j0]
    · have h1 : 1 < b := by omega
      simp [h0, h1, count_Next.j0]

theorem and65535 (n : Int) : Go.bits .and .i64 n 65535 = n % 65536 := by
  have h127 : (BitVec.ofInt 64 65535).toNat = 2 ^ 16 - 1 := by decide
  have key : (BitVec.ofInt 64 n &&& BitVec.ofInt 64 65535).toNat = (n % ((2 ^ 64 : Nat) : Int)).toNat % 2 ^ 16 := by
    rw [BitVec.toNat_and, BitVec.toNat_ofInt, h127, Nat.and_two_pow_sub_one_eq_mod]
  show IntKind.i64.wrap ((BitVec.ofInt 64 n &&& BitVec.ofInt 64 65535).toNat : Nat) = n % 65536
  rw [key, IntKind.wrap_i64]
  omega


theorem CountMirror : descantlaw7_CountMirror.Pure := by
  intro a _
  refine ⟨3, ?_⟩
  unfold descantlaw7_CountMirror.f
  rw [aw, and65535]
  have hb0 : 0 ≤ a % 65536 := by omega
  have hb1 : a % 65536 ≤ 65535 := by omega
  generalize a % 65536 = d at *
  rw [w64 (x := 65535 - d) (by omega) (by omega), up 2 d (by omega) (by omega), down 2 (65535 - d) (by omega) (by omega), p_yes d (by omega) (by omega)]
  simp only [Option.bind_some, if_true, descantlaw0_Num.f]
  rw [w64 (x := 65535 - (65535 - d - (65535 - d) / 16)) (by omega) (by omega), if_pos (by omega)]
  rw [Int.tdiv_eq_ediv_of_nonneg (by omega), w64 (x := d / 16) (by omega) (by omega)]
  have hm : mn (mx (d / 16) 1) 4095 = d / 16 ∨ d < 16 ∧ mn (mx (d / 16) 1) 4095 = 1 := by unfold mn mx; repeat' split
                                                                                          all_goals omega
  have h1 : mn (mx (d / 16) 1) 4095 ≥ 1 := by unfold mn mx; repeat' split
                                              all_goals omega
  have h2 : mn (mx (d / 16) 1) 4095 ≤ 4095 := by unfold mn mx; repeat' split
                                                 all_goals omega
  rw [if_pos h1, if_pos h2]
  by_cases e : mn (mx (d / 16) 1) 4095 = d / 16
  · rw [if_pos e]
  · rw [if_neg e]
    have : d < 16 := by omega
    simp [this]

end Go.Proofs.Ytlabpfebdhbgiaa.Pure
