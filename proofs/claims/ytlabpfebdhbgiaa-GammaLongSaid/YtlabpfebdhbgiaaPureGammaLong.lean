/- GammaLong: a number has twice as many bits and one as it has behind its highest; for every number. -/
import Derived.Test.YtlabpfebdhbgiaaPGx
namespace Go.Proofs.Ytlabpfebdhbgiaa.Pure
open Go.RowKit Go.Proofs.Ytlabpfebdhbgiaa.PG Go.Proofs.YtlabpfebdhbgiaaW.PrintWords Go.Proofs.YtlabpfebdhbgiaaW.PrintLast Go.Proofs.YtlabpfebdhbgiaaW.PrintMore
set_option linter.unusedVariables false
theorem rd_of {l : List Int} {i : Nat} {b : Int} (h : l[i]? = some b) : rd l (i : Int) = b := by
  unfold rd
  rw [Int.toNat_natCast, List.getD_eq_getElem?_getD, h]; rfl
theorem shr_nat (v i : Nat) (h : i ≤ 64) : shr .i64 (v : Int) (i : Int) = ((v / 2 ^ i : Nat) : Int) := by
  unfold shr
  rw [Int.toNat_natCast, Nat.min_eq_left (by show i ≤ 64; omega)]
  simp
theorem long_l1 (u : Nat) (hu : u ≤ 33554432) : ∀ (d i k : Nat), i + d = Nat.log2 (u + 1) → d < k → descantlaw11_GammaLong.l1 k (u : Int) (gBits u) (Nat.log2 (u + 1) : Int) (i : Int) = some true := by
  have hn : Nat.log2 (u + 1) ≤ 25 := log2_le (by omega)
  have hl := gBits_length u
  intro d
  induction d with
  | zero =>
    intro i k hi hk
    obtain ⟨k, rfl⟩ : ∃ m, k = m + 1 := ⟨k - 1, by omega⟩
    simp only [descantlaw11_GammaLong.l1]
    rw [if_neg (by omega), if_pos (by omega), if_pos (by rw [hl]; omega), rd_of (gBits_at_zero u)]; rfl
  | succ d ih =>
    intro i k hi hk
    obtain ⟨k, rfl⟩ : ∃ m, k = m + 1 := ⟨k - 1, by omega⟩
    simp only [descantlaw11_GammaLong.l1]
    rw [if_pos (by omega), if_pos (by omega), if_pos (by rw [hl]; omega), if_pos (rd_of (gBits_at_one u i (by omega)))]
    rw [w64 (x := (Nat.log2 (u + 1) : Int) + 1) (by omega), w64 (x := (Nat.log2 (u + 1) : Int) + 1 + i) (by omega), w64 (x := (Nat.log2 (u + 1) : Int) - 1) (by omega), w64 (x := (Nat.log2 (u + 1) : Int) - 1 - i) (by omega), w64 (x := (u : Int) + 1) (by omega), w64 (x := (i : Int) + 1) (by omega)]
    rw [if_pos (by omega), if_pos (by rw [hl]; omega), if_pos (by omega)]
    have e := rd_of (gBits_at_low u i (by omega))
    rw [show (Nat.log2 (u + 1) : Int) + 1 + i = ((Nat.log2 (u + 1) + 1 + i : Nat) : Int) by omega, e, show (u : Int) + 1 = ((u + 1 : Nat) : Int) by omega, show (Nat.log2 (u + 1) : Int) - 1 - i = ((Nat.log2 (u + 1) - 1 - i : Nat) : Int) by omega, shr_nat _ _ (by omega), and_one, if_pos (by omega)]
    exact ih (i + 1) k (by omega) (by omega)
theorem long_l0 (u : Nat) (hu : u ≤ 33554432) : ∀ (d i k : Nat), i + d = Nat.log2 (u + 1) → d + 100 < k → descantlaw11_GammaLong.l0 k (u : Int) (gBits u) 0 (i : Int) = some true := by
  have hn : Nat.log2 (u + 1) ≤ 25 := log2_le (by omega)
  obtain ⟨b0, b1⟩ := log2_bd (u + 1) (by omega)
  have hl := gBits_length u
  intro d
  induction d with
  | zero =>
    intro i k hi hk
    obtain ⟨k, rfl⟩ : ∃ m, k = m + 1 := ⟨k - 1, by omega⟩
    simp only [descantlaw11_GammaLong.l0]
    have e : shr .i64 ((wrap64 ((u : Int) + 1)) / 2) (i : Int) = 0 := by
      rw [w64 (by omega), show ((u : Int) + 1) / 2 = (((u + 1) / 2 : Nat) : Int) by omega, shr_nat _ _ (by omega), Nat.div_div_eq_div_mul, Nat.div_eq_of_lt (by have e2 : 2 * 2 ^ i = 2 ^ (Nat.log2 (u + 1) + 1) := by { rw [show Nat.log2 (u + 1) = i by omega, Nat.pow_succ, Nat.mul_comm] }; omega)]
      rfl
    rw [if_pos (by omega), e, if_neg (by omega)]
    simp only [descantlaw0_Num.f, Option.bind_some, if_pos]
    obtain ⟨k, rfl⟩ : ∃ m, k = m + 1 := ⟨k - 1, by omega⟩
    simp only [descantlaw11_GammaLong.j1]
    rw [w64 (x := 2 * (i : Int)) (by omega), w64 (by omega), hl, if_neg (by simp; omega)]
    rw [show (i : Int) = (Nat.log2 (u + 1) : Int) by omega]
    exact long_l1 u hu (Nat.log2 (u + 1)) 0 k (by omega) (by omega)
  | succ d ih =>
    intro i k hi hk
    obtain ⟨k, rfl⟩ : ∃ m, k = m + 1 := ⟨k - 1, by omega⟩
    simp only [descantlaw11_GammaLong.l0]
    have hp : 2 ^ (i + 1) ≤ 2 ^ Nat.log2 (u + 1) := Nat.pow_le_pow_right (by decide) (by omega)
    have e : shr .i64 ((wrap64 ((u : Int) + 1)) / 2) (i : Int) > 0 := by
      rw [w64 (by omega), show ((u : Int) + 1) / 2 = (((u + 1) / 2 : Nat) : Int) by omega, shr_nat _ _ (by omega), Nat.div_div_eq_div_mul]
      have : 0 < (u + 1) / (2 * 2 ^ i) := Nat.div_pos (by rw [Nat.mul_comm, ← Nat.pow_succ]; omega) (by have := Nat.two_pow_pos i; omega)
      omega
    rw [if_pos (by omega), if_pos e, w64 (by omega), show (i : Int) + 1 = ((i + 1 : Nat) : Int) by omega]
    exact ih (i + 1) k (by omega) (by omega)
theorem long_f (k : Nat) (hk : 150 < k) (a0 : Int) : descantlaw11_GammaLong.f k a0 = some true := by
  unfold descantlaw11_GammaLong.f
  rw [awake_f k (by omega)]
  have hnn : 0 ≤ IntKind.u64.wrap a0 := by rw [IntKind.wrap_u64]; omega
  obtain ⟨u, hu⟩ : ∃ u : Nat, Int.tmod (IntKind.u64.wrap a0) 33554433 = u := ⟨_, (Int.toNat_of_nonneg (Int.tmod_nonneg _ hnn)).symm⟩
  have hlt : (u : Int) < 33554433 := by rw [← hu]; exact Int.tmod_lt_of_pos _ (by decide)
  have h25 : Nat.log2 (u + 1) ≤ 25 := log2_le (by omega)
  rw [Option.bind_some, if_pos rfl, hu, w64 (by omega), bits_f u (by omega) k (by omega), Option.bind_some]
  exact long_l0 u (by omega) (Nat.log2 (u + 1)) 0 k (by omega) (by omega)
theorem GammaLong : descantlaw11_GammaLong.Pure := fun a0 _ => ⟨200, long_f 200 (by omega) a0⟩
end Go.Proofs.Ytlabpfebdhbgiaa.Pure
