/- GammaForms: numbers, bits that are none; for every two numbers that choose them. -/
import Derived.Test.YtlabpfebdhbgiaaPGx
namespace Go.Proofs.Ytlabpfebdhbgiaa.Pure
open Go.RowKit Go.Proofs.Ytlabpfebdhbgiaa.PG Go.Proofs.YtlabpfebdhbgiaaW.PrintWords Go.Proofs.YtlabpfebdhbgiaaW.PrintLast Go.Proofs.Ytlabpfebdhbgiaa.L

theorem gf_bads : ∀ j : Nat, j < 11 → gamma_Number.f (([[], [1], [1, 1], [0, 0], [1, 0], [1, 0, 2], [1, 0, 0, 0], [2], [-1], [1, 2, 0], (List.replicate 26 1 ++ List.replicate 26 0) ++ [0]] : List (List Int)).getD j []) = some (0, 1100) := by decide +kernel
theorem gf_rem (x : Int) : ∃ j : Nat, j < 11 ∧ wrap64 (Int.tmod (IntKind.u64.wrap x) 11) = (j : Int) := by
  have hu : 0 ≤ IntKind.u64.wrap x := by rw [IntKind.wrap_u64]; omega
  obtain ⟨v, hv⟩ := Int.eq_ofNat_of_zero_le hu
  rw [hv]
  refine ⟨v % 11, Nat.mod_lt _ (by decide), ?_⟩
  have e : Int.tmod (v : Int) 11 = ((v % 11 : Nat) : Int) := by simp [Int.tmod]
  rw [e]
  have := Nat.mod_lt v (show 0 < 11 by decide)
  exact w64 (by omega)
theorem gf_end (a0 : Int) (k : Nat) : descantlaw11_GammaForms.l0 (k + 1) a0 1100 (List.replicate 26 1 ++ List.replicate 26 0) 26 = some true := by
  obtain ⟨j, hj, e⟩ := gf_rem a0
  simp only [descantlaw11_GammaForms.l0]
  rw [if_neg (by omega), if_pos (by simp)]
  simp only [Option.bind_some]
  rw [e, if_pos (by omega), if_pos (by simp; omega)]
  have hb := gf_bads j hj
  rw [show rd_L1 ([[], [1], [1, 1], [0, 0], [1, 0], [1, 0, 2], [1, 0, 0, 0], [2], [-1], [1, 2, 0], (List.replicate 26 1 ++ List.replicate 26 0) ++ [0]] : List (List Int)) (j : Int) = ([[], [1], [1, 1], [0, 0], [1, 0], [1, 0, 2], [1, 0, 0, 0], [2], [-1], [1, 2, 0], (List.replicate 26 1 ++ List.replicate 26 0) ++ [0]] : List (List Int)).getD j [] from by simp [rd_L1], hb]
  simp [descantlaw0_Num.f]
theorem gf_l0 (a0 : Int) : ∀ (d i k : Nat), i + d = 26 → d < k → descantlaw11_GammaForms.l0 k a0 1100 (List.replicate i 1 ++ List.replicate (52 - i) 0) (i : Int) = some true := by
  intro d
  induction d with
  | zero =>
    intro i k hi hk
    obtain ⟨k, rfl⟩ : ∃ m, k = m + 1 := ⟨k - 1, by omega⟩
    obtain rfl : i = 26 := by omega
    exact gf_end a0 k
  | succ d ih =>
    intro i k hi hk
    obtain ⟨k, rfl⟩ : ∃ m, k = m + 1 := ⟨k - 1, by omega⟩
    simp only [descantlaw11_GammaForms.l0]
    rw [if_pos (by omega), if_pos (by omega), if_pos (by simp; omega), w64 (by omega), show (i : Int) + 1 = ((i + 1 : Nat) : Int) by omega]
    have e : (List.replicate i (1 : Int) ++ List.replicate (52 - i) 0).set (i : Int).toNat 1 = List.replicate (i + 1) 1 ++ List.replicate (52 - (i + 1)) 0 := by
      rw [Int.toNat_natCast, List.set_append_right _ _ (by simp), List.length_replicate, Nat.sub_self, show 52 - i = (52 - (i + 1)) + 1 by omega, List.replicate_succ (n := 52 - (i + 1)), List.set_cons_zero, List.replicate_succ', List.append_assoc]
      rfl
    rw [e]
    exact ih (i + 1) k (by omega) (by omega)
theorem GammaForms : descantlaw11_GammaForms.Pure := by
  intro a0 a1 h0 h1
  refine ⟨100, ?_⟩
  have hm := i64_mask 10 1023 (by decide) (by decide) a1
  have hb := and_one a0
  unfold descantlaw11_GammaForms.f
  rw [awake_f' 100 (by decide)]
  simp only [Option.bind_some, if_true]
  rw [hm, hb]
  obtain ⟨m, hmm⟩ : ∃ m, a1 % ((2 ^ 10 : Nat) : Int) = m := ⟨_, rfl⟩
  have m0 : 0 ≤ m ∧ m < 1024 := by omega
  rw [hmm, w64 (x := 1 + m) (by omega), w64 (x := -(1 + m)) (by omega), w64 (x := 33554432 + (1 + m)) (by omega)]
  have key : ∀ b : Int, b = 0 ∨ b = 1 → ((if 0 ≤ b then (if b < ((([-(1 + m), 33554432 + (1 + m)] : List Int)).length : Int) then ((gamma_Bits.f 100 (rd [-(1 + m), 33554432 + (1 + m)] b)).bind fun bt180 => (if 52 ≤ 35184372088832 then (descantlaw11_GammaForms.l0 100 a0 bt180.2 (List.replicate 52 0) 0) else none)) else none) else none) : Option Bool) = some true := by
    intro b hb
    rw [if_pos (by omega), if_pos (by simp; omega)]
    have hn : gamma_Bits.f 100 (rd [-(1 + m), 33554432 + (1 + m)] b) = some ([], 1100) := by
      rcases hb with rfl | rfl
      · exact bits_no _ (.inl (by simp [rd]; omega)) 100 (by decide)
      · exact bits_no _ (.inr (by simp [rd]; omega)) 100 (by decide)
    rw [hn]
    simp only [Option.bind_some]
    rw [if_pos (by decide)]
    exact gf_l0 a0 26 0 100 (by decide) (by decide)
  exact key (a0 % 2) (by omega)
end Go.Proofs.Ytlabpfebdhbgiaa.Pure
