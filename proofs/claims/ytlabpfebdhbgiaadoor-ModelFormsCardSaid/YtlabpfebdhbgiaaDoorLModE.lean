/- The statement ModelOwn (chapter 9): what it comes to when it is called. -/
import Derived.Test.YtlabpfebdhbgiaaDoorLModD
namespace Go.Proofs.YtlabpfebdhbgiaaDoor
open Go.RowKit
set_option linter.unusedVariables false
set_option linter.unusedSimpArgs false

theorem eql_zero (w : World) : (binOp .eql 48 (.agg (ints zM).toArray) (.agg Tryd.zeroCells48)).run Tryd.prog w = .ok (.bool true) w := by
  have hz : Tryd.zeroCells48 = (ints zM).toArray := by kernel_rfl
  rw [hz]; exact eql_same zM zM_length w
set_option maxRecDepth 100000 in
set_option maxHeartbeats 4000000 in
theorem modelOwn_no (M : List Int) (hM : M.length = 195) (x y z bit : Int) (w : World) (ht : Tab w) (h : lOk M x y z bit = false) : Calls Tryd.prog 17 #[.agg (ints M).toArray, v3 x y z, .int .i64 bit] w fun e w' => e = .returned (.bool true) ∧ Below w.heap.size w w' := by
  have HM := Lib.hid hM
  have H := Lib.hid h
  have HS0 := Lib.hid (MS.start w hM x y z 34)
  clear hM h
  unfold v3
  go_enter Tryd.func17, Tryd.ntmps17
  go_wp2_with fail
  generalize (w.alloc _).alloc _ = W0 at HS0 ⊢
  refine (awake9 _ (ht.below HS0.out.hb)).mono ?_
  rintro e w1 ⟨rfl, hb⟩
  have HS1 := Lib.hid (HS0.out.below hb)
  clear hb HS0
  obtain ⟨x0, x1, x2⟩ := HS1.out.hx.cells3
  go_wp2_with (with_reducible refine wpList_load_mid rfl 48 (.tmp 3) rfl w.heap.size 0 ?_ (ints M) _ HS1.out.hm.range Tryd.underlying48 rfl HS1.out.hm.info ?_)
  all_goals first | (show _ = Value.pointer _; rfl) | skip
  refine (learn_no M HM.out x y z bit _ H.out).mono ?_
  rintro e w2 ⟨rfl, hb⟩
  have HS2 := Lib.hid ((HS1.out.below hb).alloc (.cells (ints zM).toArray 48))
  have HA2 := Lib.hid (MB.new w2 zM_length)
  clear hb x0 x1 x2 HS1
  have EZ := fun w' => eql_zero w'
  go_wp2_with (first
    | (go_at_call 22; refine (num_any _ _).mono ?_; rintro e w' ⟨rfl, rfl⟩)
    | (with_reducible refine wpList_new_model zM zM_length (.tmp 7) (.tmp 20) rfl rfl rfl rfl ?_ ?_ ?_)
    | (with_reducible refine wpList_load_mid rfl 48 (.tmp 7) rfl w2.heap.size 0 ?_ (ints zM) _ HA2.out.range Tryd.underlying48 rfl HA2.out.info ?_))
  all_goals first | (show _ = Value.pointer _; rfl) | (show _ = Value.agg _; rfl) | skip
  go_ret
  exact ⟨rfl, HS2.out.hb⟩
theorem own_at {M : List Int} (hM : M.length = 195) {x y z : Nat} (hx : x < 64) (hy : y < 64) (hz : z < 64) {bit : Int} (hg : Good M 192) (hb0 : 0 ≤ bit) (hb1 : bit ≤ 1) (i k c : Nat) (hi : i < 3) (hk : k < 64) (hc : (i = 0 ∧ c = x) ∨ (i = 1 ∧ c = y) ∨ (i = 2 ∧ c = z)) :
    (k ≠ c ∧ (lM M x y z bit).getD (i * 64 + k) 0 = M.getD (i * 64 + k) 0) ∨ (k = c ∧ bit = 1 ∧ M.getD (i * 64 + k) 0 ≤ (lM M x y z bit).getD (i * 64 + k) 0) ∨ (k = c ∧ bit = 0 ∧ (lM M x y z bit).getD (i * 64 + k) 0 ≤ M.getD (i * 64 + k) 0) := by
  by_cases e : k = c
  · subst e
    obtain ⟨g0, g1, g2, -, -, -⟩ := lM_get (bit := bit) hM hx hy hz
    have key : (lM M x y z bit).getD (i * 64 + k) 0 = cUp (M.getD (i * 64 + k) 0) bit := by
      rcases hc with ⟨rfl, rfl⟩ | ⟨rfl, rfl⟩ | ⟨rfl, rfl⟩
      · simpa using g0
      · simpa using g1
      · simpa using g2
    rw [key]
    obtain ⟨a, b⟩ := cMay_iff.1 (hg (i * 64 + k) (by omega))
    rcases (by omega : bit = 0 ∨ bit = 1) with rfl | rfl
    · right; right; refine ⟨rfl, rfl, ?_⟩; unfold cUp; omega
    · right; left; refine ⟨rfl, rfl, ?_⟩; unfold cUp; rw [if_pos rfl]; omega
  · left
    refine ⟨e, lM_get_ne ?_ ?_ ?_ (by omega)⟩ <;> omega
set_option maxRecDepth 100000 in
set_option maxHeartbeats 4000000 in
theorem modelOwn_yes (M : List Int) (hM : M.length = 195) (x y z : Nat) (bit : Int) (w : World) (ht : Tab w) (hm : mMay M = true) (hx : x < 64) (hy : y < 64) (hz : z < 64) (hb0 : 0 ≤ bit) (hb1 : bit ≤ 1) : Calls Tryd.prog 17 #[.agg (ints M).toArray, v3 x y z, .int .i64 bit] w fun e w' => e = .returned (.bool true) ∧ Below w.heap.size w w' := by
  have HM := Lib.hid hM
  have HMM := Lib.hid hm
  have HK := Lib.hid (fun i k c hi hk hc => own_at hM hx hy hz (mMay_good hM hm) hb0 hb1 i k c hi hk hc)
  have HAM := Lib.hid (lM_may (bit := bit) hM hx hy hz hb0 hb1 hm)
  have HAL := Lib.hid (show (lM M x y z bit).length = 195 by rw [lM_length]; exact hM)
  have HS0 := Lib.hid (MS.start w hM x y z 34)
  clear hM hm
  obtain ⟨R, hR⟩ : ∃ R, lM M x y z bit = R := ⟨_, rfl⟩
  have HLR : Hid (∀ w : World, Tab w → Calls Tryd.prog 33 #[.agg (ints M).toArray, v3 x y z, .int .i64 bit] w fun e w' => e = .returned (.tuple #[.agg (ints R).toArray, .int .i64 0]) ∧ Below w.heap.size w w') := by
    intro w ht
    rw [← hR]
    exact learn_yes M HM.out x y z bit w ht HMM.out hx hy hz hb0 hb1
  rw [hR] at HK HAM HAL
  clear hR
  unfold v3
  go_enter Tryd.func17, Tryd.ntmps17
  go_wp2_with fail
  generalize (w.alloc _).alloc _ = W0 at HS0 ⊢
  refine (awake9 _ (ht.below HS0.out.hb)).mono ?_
  rintro e w1 ⟨rfl, hb⟩
  have HS1 := Lib.hid (HS0.out.below hb)
  clear hb HS0
  obtain ⟨x0, x1, x2⟩ := HS1.out.hx.cells3
  go_wp2_with (with_reducible refine wpList_load_mid rfl 48 (.tmp 3) rfl w.heap.size 0 ?_ (ints M) _ HS1.out.hm.range Tryd.underlying48 rfl HS1.out.hm.info ?_)
  all_goals first | (show _ = Value.pointer _; rfl) | skip
  refine (HLR.out _ (ht.below HS1.out.hb)).mono ?_
  rintro e w2 ⟨rfl, hb⟩
  have HS2 := Lib.hid ((HS1.out.below hb).alloc (.cells (ints R).toArray 48))
  have HA2 := Lib.hid (MB.new w2 HAL.out)
  clear hb x0 x1 x2 HS1
  go_wp2_with (first
    | (go_at_call 22; refine (num_any _ _).mono ?_; rintro e w' ⟨rfl, rfl⟩)
    | (with_reducible refine wpList_new_model R HAL.out (.tmp 7) (.tmp 20) rfl rfl rfl rfl ?_ ?_ ?_))
  all_goals first | (show _ = Value.pointer _; rfl) | (show _ = Value.agg _; rfl) | skip
  generalize w2.alloc _ = W2 at HS2 HA2 ⊢
  have HF : Hid (∀ i k : Nat, i < 3 → k < 64 → ∃ c : Nat, W2.cell? ⟨w.heap.size + 1, i, none⟩ = some (.int .i64 c) ∧
      ((k ≠ c ∧ R.getD (i * 64 + k) 0 = M.getD (i * 64 + k) 0) ∨ (k = c ∧ bit = 1 ∧ M.getD (i * 64 + k) 0 ≤ R.getD (i * 64 + k) 0) ∨ (k = c ∧ bit = 0 ∧ R.getD (i * 64 + k) 0 ≤ M.getD (i * 64 + k) 0))) := by
    intro i k hi hk
    rcases (by omega : i = 0 ∨ i = 1 ∨ i = 2) with rfl | rfl | rfl
    · exact ⟨x, HS2.out.hx.e0, HK.out 0 k x hi hk (by omega)⟩
    · exact ⟨y, HS2.out.hx.e1, HK.out 1 k y hi hk (by omega)⟩
    · exact ⟨z, HS2.out.hx.e2, HK.out 2 k z hi hk (by omega)⟩
  go_loopw [9] (fun v wr => ∃ i : Nat, v = .int .i64 i ∧ i ≤ 3 ∧ ∃ n, wr = W2.drewN n) (fun v _ => (3 - intOf v).toNat)
  case atStart => exact ⟨0, rfl, by omega, 0, rfl⟩
  case round =>
    obtain ⟨i, rfl, hi, n, rfl⟩ := hrel
    by_cases hlt : i < 3
    · have d0 : decide ((i : Int) < 3) = true := by simp; omega
      go_wp2_with fail
      go_loopw [10] (fun v wr => ∃ k : Nat, v = .int .i64 k ∧ k ≤ 64 ∧ ∃ n, wr = W2.drewN n) (fun v _ => (64 - intOf v).toNat)
      case atStart => exact ⟨0, rfl, by omega, _, rfl⟩
      case round =>
        obtain ⟨k, rfl, hk, n, rfl⟩ := hrel
        by_cases hlt2 : k < 64
        · obtain ⟨c, hc, hcase⟩ := HF.out i k hlt hlt2
          have cm := HS2.out.hm.cell (o := i * 64 + k) (by omega)
          have ca := HA2.out.cell (o := i * 64 + k) (by omega)
          have bi : (i : Int) < 3 := by omega
          have bk : (k : Int) < 64 := by omega
          have bi0 : (0 : Int) ≤ i := by omega
          have bk0 : (0 : Int) ≤ k := by omega
          obtain ⟨P, hP⟩ : ∃ P, M.getD (i * 64 + k) 0 = P := ⟨_, rfl⟩
          obtain ⟨Q, hQ⟩ : ∃ P, R.getD (i * 64 + k) 0 = P := ⟨_, rfl⟩
          rw [hP] at cm hcase
          rw [hQ] at ca hcase
          clear hP hQ
          rcases hcase with ⟨h1, h2⟩ | ⟨h1, h2, h3⟩ | ⟨h1, h2, h3⟩
          · subst h2
            have t1 : ((k : Int) != (c : Int)) = true := by simp; omega
            have t2 : ((k : Int) == (c : Int)) = false := by simp; omega
            clear h1
            go_wp2_with fail
            go_quiet (fail)
            go_wp2_with fail
            go_roundw
            case rel => exact ⟨_ + 1, by go_num, by omega, _, rfl⟩
            case measure => simp [intOf]; omega
          · obtain rfl : c = k := h1.symm
            have t1 : decide (Q < P) = false := by simp; omega
            have t2 : (bit == 1) = true := by simp [h2]
            have t3 : (bit == 0) = false := by simp [h2]
            clear h2
            go_wp2_with fail
            go_quiet (fail)
            go_wp2_with fail
            go_roundw
            case rel => exact ⟨_ + 1, by go_num, by omega, _, rfl⟩
            case measure => simp [intOf]; omega
          · obtain rfl : c = k := h1.symm
            have t1 : decide (P < Q) = false := by simp; omega
            have t2 : (bit == 1) = false := by simp [h2]
            have t3 : (bit == 0) = true := by simp [h2]
            clear h2
            go_wp2_with fail
            go_quiet (fail)
            go_wp2_with fail
            go_roundw
            case rel => exact ⟨_ + 1, by go_num, by omega, _, rfl⟩
            case measure => simp [intOf]; omega
        · obtain rfl : k = 64 := by omega
          go_wp2_with fail
          go_roundw
          case rel => exact ⟨i + 1, by go_num, by omega, _, rfl⟩
          case measure => simp [intOf]; omega
    · obtain rfl : i = 3 := by omega
      go_wp2_with (with_reducible refine wpList_load_mid rfl 48 (.tmp 7) rfl w2.heap.size 0 ?_ (ints R) _ (HA2.out.drewN _).range Tryd.underlying48 rfl HA2.out.info ?_)
      all_goals first | (show _ = Value.pointer _; rfl) | skip
      refine (model_may R HAL.out _).mono ?_
      rw [HAM.out]
      rintro e w3 ⟨rfl, hb⟩
      have hfin := Lib.hid (below_next (below_drewN HS2.out.hb n) hb)
      clear hb
      go_wp2
      go_ret
      exact ⟨rfl, hfin.out⟩
theorem modelOwn_walk (M : List Int) (hM : M.length = 195) (x y z bit : Int) (w : World) (ht : Tab w) : Calls Tryd.prog 17 #[.agg (ints M).toArray, v3 x y z, .int .i64 bit] w fun e w' => e = .returned (.bool true) ∧ Below w.heap.size w w' := by
  cases h : lOk M x y z bit
  · exact modelOwn_no M hM x y z bit w ht h
  · obtain ⟨hm, ⟨h1, h2, h3⟩, hb0, hb1⟩ := lOk_iff.1 h
    obtain ⟨x, rfl⟩ := Int.eq_ofNat_of_zero_le h1.1
    obtain ⟨y, rfl⟩ := Int.eq_ofNat_of_zero_le h2.1
    obtain ⟨z, rfl⟩ := Int.eq_ofNat_of_zero_le h3.1
    exact modelOwn_yes M hM x y z bit w ht hm (by omega) (by omega) (by omega) hb0 hb1
end Go.Proofs.YtlabpfebdhbgiaaDoor
