/- The counter of the program answers as the document's answer does, for any counter and bit; for every input of the machine's whole numbers. -/
import Derived.Test.YtlabpfebdhbgiaaPCountsx1
namespace Go.Proofs.Ytlabpfebdhbgiaa.Pure
open Go.RowKit Go.Proofs.Ytlabpfebdhbgiaa.PCounts Go.Proofs.YtlabpfebdhbgiaaW.PrintWords Go.Proofs.YtlabpfebdhbgiaaW.PrintLast

theorem counts_awake : descantlaw7_awake.f 3 = some true := by decide +kernel

theorem counts_may (a : Int) : count_May.f a = some (decide (0 ≤ a) && decide (a ≤ 65535)) := by
  unfold count_May.f
  by_cases h : a ≥ 0
  · rw [if_pos h]; simp; omega
  · rw [if_neg h]; simp; omega

theorem counts_rmay (a : Int) : descantref1_CountMay.f a = some (decide (0 ≤ a) && decide (a ≤ 65535)) := by
  unfold descantref1_CountMay.f descantref1_upTo.f
  by_cases h : a ≥ 0
  · rw [if_pos h]; simp; omega
  · rw [if_neg h]; simp; omega

theorem counts_next (a b : Int) : count_Next.f 3 a b = descantref1_NextCount.f 3 a b := by
  unfold count_Next.f descantref1_NextCount.f
  rw [counts_may, counts_rmay]
  unfold descantref1_bitMay.f
  by_cases h : (decide (0 ≤ a) && decide (a ≤ 65535)) = true
  · rw [h]
    by_cases h0 : b < 0
    · have e0 : ¬ b = 0 := by omega
      have e1 : ¬ b = 1 := by omega
      simp [h0, e0, e1, count_Next.j0, descantref1_NextCount.j0]
    · by_cases h1 : b > 1
      · have e0 : ¬ b = 0 := by omega
        have e1 : ¬ b = 1 := by omega
        simp [h0, h1, e0, e1, count_Next.j0, descantref1_NextCount.j0]
      · have e : b = 0 ∨ b = 1 := by omega
        rcases e with rfl | rfl <;> simp [count_Next.j0, descantref1_NextCount.j0]
  · simp only [Bool.not_eq_true] at h
    rw [h]
    simp [count_Next.j0, descantref1_NextCount.j0]

theorem counts_p (a : Int) : count_P.f a = descantref1_CountP.f a := by
  unfold count_P.f descantref1_CountP.f
  rw [counts_may, counts_rmay]
  by_cases h : (decide (0 ≤ a) && decide (a ≤ 65535)) = true
  · rw [h]
    have h2 : 0 ≤ a ∧ a ≤ 65535 := by simpa using h
    have e : wrap64 (Int.tdiv a 16) = a / 16 := by
      rw [Int.tdiv_eq_ediv_of_nonneg h2.1]; unfold wrap64; omega
    simp only [Option.bind_some, if_true, descantref1_within.f, e]
    congr 1
    unfold mx mn
    congr 1
    repeat' split
    all_goals omega
  · simp only [Bool.not_eq_true] at h
    rw [h]
    simp

theorem counts_next_some (a b : Int) : ∃ r, count_Next.f 3 a b = some r := by
  unfold count_Next.f
  rw [counts_may]
  simp only [Option.bind_some, count_Next.j0]
  repeat' split
  all_goals exact ⟨_, rfl⟩

theorem counts_p_some (a : Int) : ∃ r, count_P.f a = some r := by
  unfold count_P.f
  rw [counts_may]
  simp only [Option.bind_some]
  repeat' split
  all_goals exact ⟨_, rfl⟩

theorem Counts : descantlaw7_Counts.Pure := by
  intro a b _ _
  refine ⟨3, ?_⟩
  unfold descantlaw7_Counts.f
  rw [← counts_next, ← counts_p]
  obtain ⟨r, hr⟩ := counts_next_some a b
  obtain ⟨q, hq⟩ := counts_p_some a
  rw [hr, hq]
  simp [descantlaw0_Num.f, counts_awake]

end Go.Proofs.Ytlabpfebdhbgiaa.Pure
