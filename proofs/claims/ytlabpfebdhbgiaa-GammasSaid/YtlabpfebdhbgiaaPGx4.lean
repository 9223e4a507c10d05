/- The functions that the laws use, as Lean functions, and the contracts: printed by a program of this session out of the translation; Lean checks them. -/
import Derived.Test.YtlabpfebdhbgiaaPGx0
import Derived.Test.YtlabpfebdhbgiaaPGx1
import Derived.Test.YtlabpfebdhbgiaaPGx2
import Derived.Test.YtlabpfebdhbgiaaPGx3
namespace Go.Proofs.Ytlabpfebdhbgiaa.PG
open Go.RowKit Go.Proofs.YtlabpfebdhbgiaaW.PrintWords Go.Proofs.YtlabpfebdhbgiaaW.PrintLast Go.Proofs.YtlabpfebdhbgiaaW.PrintMore
attribute [local go_sem] max2_int min2_int max_two min_two max_three min_three max_four min_four   -- for this text's walks alone
set_option linter.unusedVariables false
set_option linter.unusedSimpArgs false

/-! ### descantref1_Ones: function 39 -/
def descantref1_Ones.l0 : Nat → List Int → Int → Option (Int)
  | 0, _, _ => none
  | k + 1, x0, x3 => if x3 < (x0.length : Int) then (if 0 ≤ x3 then (if (rd x0 x3) = 1 then (descantref1_Ones.l0 k x0 (wrap64 (x3 + 1))) else (some x3)) else (none)) else (some x3)
def descantref1_Ones.f (k : Nat) (l0 : List Int) : Option (Int) := descantref1_Ones.l0 k l0 0
theorem descantref1_Ones.mono_l : ∀ k, (∀ y0 y1, LeO (descantref1_Ones.l0 k y0 y1) (descantref1_Ones.l0 (k + 1) y0 y1))
  | 0 => fun _ _ r h => by simp [descantref1_Ones.l0] at h
  | k + 1 => by
    have ih0 := descantref1_Ones.mono_l k
    · intro y0 y1
      unfold descantref1_Ones.l0
      repeat' first
      | (with_reducible exact ih0 _ _)
      | (with_reducible exact LeO.refl _)
      | (with_reducible exact LeO.none _)
      | (with_reducible refine LeO.ite ?_ ?_)
      | (with_reducible refine LeO.bind ?_ (fun _ => ?_))
      | exact ih0 _ _
      | exact LeO.none _
      | refine LeO.ite ?_ ?_
      | refine LeO.bind ?_ (fun _ => ?_)
theorem descantref1_Ones.mono : ∀ a0 k, LeO (descantref1_Ones.f k a0) (descantref1_Ones.f (k + 1) a0) := by
  intro a0 k
  have ih0 := descantref1_Ones.mono_l k
  unfold descantref1_Ones.f
  repeat' first
      | (with_reducible exact ih0 _ _)
      | (with_reducible exact LeO.refl _)
      | (with_reducible exact LeO.none _)
      | (with_reducible refine LeO.ite ?_ ?_)
      | (with_reducible refine LeO.bind ?_ (fun _ => ?_))
      | exact ih0 _ _
      | exact LeO.none _
      | refine LeO.ite ?_ ?_
      | refine LeO.bind ?_ (fun _ => ?_)
set_option maxHeartbeats 8000000 in
set_option maxRecDepth 100000 in
theorem descantref1_Ones.calls (k : Nat) (A0 : Option Addr) (c0 : Nat) (l0 : List Int) (r : Int) (w : World) (hr0 : Kd.C (Kd.int .i64) w A0 l0.length l0) (hc0 : l0.length ≤ c0) (h : descantref1_Ones.f k l0 = some r) :
    Calls Try.prog 39 #[.slice A0 l0.length c0] w fun e w' => e = .returned (.int .i64 r) ∧ Drawn0 w w' := by
  have HR0 := Aside0.mk hr0
  have HC0 := Aside0.mk hc0
  clear hr0 hc0
  have H : (descantref1_Ones.l0 k l0 0) = some r := h
  clear h
  have H' := Aside0.mk H
  clear H
  go_enter Try.func39, Try.ntmps39
  go_wp2
  go_loopg [3] k (fun kq v3 w' => ∃ (x3_1 : Int), v3 = .int .i64 x3_1 ∧ Aside0 (descantref1_Ones.l0 kq l0 x3_1 = some r) ∧ Aside0 (kq ≤ k) ∧ Drawn0 w w')
  case atStart => exact ⟨(0), (by first | rfl | (simp; done) | (simp [*]; done)), H', ⟨Nat.le_refl _⟩, by repeat (first | exact Drawn0.refl _ | apply Drawn0.step)⟩
  case round =>
    clear H'
    obtain ⟨x3_1, rfl, HA, HK1, ⟨m1, rfl⟩⟩ := hrel
    cases gk with
    | zero => exact absurd HA.out (by simp [descantref1_Ones.l0])
    | succ k1 =>
      have H := HA.out
      clear HA
      simp only [descantref1_Ones.l0] at H
      by_cases c2 : x3_1 < (l0.length : Int)
      · rw [if_pos c2] at H
        have c2b0 : decide (x3_1 < (l0.length : Int)) = true := decide_eq_true c2
        clear c2
        by_cases c3 : 0 ≤ x3_1
        · rw [if_pos c3] at H
          have c3b0 : decide (0 ≤ x3_1) = true := decide_eq_true c3
          clear c3
          by_cases c4 : (rd l0 x3_1) = 1
          · rw [if_pos c4] at H
            have c4b0 : ((rd l0 x3_1) == 1) = true := beq_iff_eq.mpr c4
            have c4b1 : ((rd l0 x3_1) != 1) = false := bne_eq_false_iff_eq.mpr c4
            clear c4
            have H' := Aside0.mk H
            clear H
            have p169 : 0 ≤ (x3_1 : Int) := of_decide_eq_true (by first | (with_reducible assumption) | assumption)
            have q169 : x3_1 < (l0.length : Int) := of_decide_eq_true (by first | (with_reducible assumption) | assumption)
            obtain ⟨ad169, e169, hx169_0⟩ := Kd.at_int HR0.out x3_1 p169 q169
            cases e169
            replace p169 := eq_true p169
            replace q169 := eq_true q169
            go_wp2
            go_roundg k1
            case measure => have := HK1.out; omega
            case rel => exact ⟨(wrap64 (x3_1 + 1)), (by first | rfl | (simp; done) | (simp [*]; done)), H', ⟨by have := HK1.out; omega⟩, by repeat (first | exact Drawn0.refl _ | apply Drawn0.step)⟩
          · rw [if_neg c4] at H
            have c4b0 : ((rd l0 x3_1) == 1) = false := beq_eq_false_iff_ne.mpr c4
            have c4b1 : ((rd l0 x3_1) != 1) = true := bne_iff_ne.mpr c4
            obtain rfl := Option.some.inj H
            have p169 : 0 ≤ (x3_1 : Int) := of_decide_eq_true (by first | (with_reducible assumption) | assumption)
            have q169 : x3_1 < (l0.length : Int) := of_decide_eq_true (by first | (with_reducible assumption) | assumption)
            obtain ⟨ad169, e169, hx169_0⟩ := Kd.at_int HR0.out x3_1 p169 q169
            cases e169
            replace p169 := eq_true p169
            replace q169 := eq_true q169
            go_wp2
            go_ret
            exact ⟨by first | rfl | (simp; done) | (simp [*]; done), by repeat (first | exact Drawn0.refl _ | apply Drawn0.step)⟩
        · rw [if_neg c3] at H
          exact absurd H (by simp)
      · rw [if_neg c2] at H
        have c2b0 : decide (x3_1 < (l0.length : Int)) = false := decide_eq_false c2
        clear c2
        obtain rfl := Option.some.inj H
        go_wp2
        go_ret
        exact ⟨by first | rfl | (simp; done) | (simp [*]; done), by repeat (first | exact Drawn0.refl _ | apply Drawn0.step)⟩

/-! ### descantref1_Number: function 23 -/
mutual
def descantref1_Number.j0 : Nat → List Int → Int → Bool → Option (Int × Int)
  | 0, _, _, _ => none
  | k + 1, x0, x4, x18 => if x18 = true then (some (0, 1100)) else (descantref1_Number.l0 k x0 x4 1 (wrap64 (x4 + 1)))
def descantref1_Number.l0 : Nat → List Int → Int → Int → Int → Option (Int × Int)
  | 0, _, _, _, _ => none
  | k + 1, x0, x4, x5, x6 => if x6 < (x0.length : Int) then (if 0 ≤ x6 then ((descantref1_bitMay.f (rd x0 x6)).bind fun t172 => (if t172 = true then (descantref1_Number.l0 k x0 x4 (wrap64 ((wrap64 (2 * x5)) + (rd x0 x6))) (wrap64 (x6 + 1))) else (some (0, 1100)))) else (none)) else (if 0 ≤ x4 then (if x4 < (x0.length : Int) then (if (rd x0 x4) = 0 then (if (wrap64 (x5 - 1)) > 33554432 then (some (0, 1100)) else (some (wrap64 (x5 - 1), 0))) else (some (0, 1100))) else (none)) else (none))
end
def descantref1_Number.f (k : Nat) (l0 : List Int) : Option (Int × Int) := (descantref1_Ones.f k l0).bind fun t170 => (if (l0.length : Int) = (wrap64 ((wrap64 (2 * t170)) + 1)) then (descantref1_Number.j0 k l0 t170 (decide (t170 > 25))) else (descantref1_Number.j0 k l0 t170 true))
theorem descantref1_Number.mono_l : ∀ k, (∀ y0 y1 y2, LeO (descantref1_Number.j0 k y0 y1 y2) (descantref1_Number.j0 (k + 1) y0 y1 y2)) ∧ (∀ y0 y1 y2 y3, LeO (descantref1_Number.l0 k y0 y1 y2 y3) (descantref1_Number.l0 (k + 1) y0 y1 y2 y3))
  | 0 => ⟨fun _ _ _ r h => by simp [descantref1_Number.j0] at h, fun _ _ _ _ r h => by simp [descantref1_Number.l0] at h⟩
  | k + 1 => by
    obtain ⟨ih0, ih1⟩ := descantref1_Number.mono_l k
    refine ⟨?_, ?_⟩
    · intro y0 y1 y2
      unfold descantref1_Number.j0
      repeat' first
      | (with_reducible exact ih0 _ _ _)
      | (with_reducible exact ih1 _ _ _ _)
      | (with_reducible exact descantref1_Ones.mono _ _)
      | (with_reducible exact LeO.refl _)
      | (with_reducible exact LeO.none _)
      | (with_reducible refine LeO.ite ?_ ?_)
      | (with_reducible refine LeO.bind ?_ (fun _ => ?_))
      | exact ih0 _ _ _
      | exact ih1 _ _ _ _
      | exact descantref1_Ones.mono _ _
      | exact LeO.none _
      | refine LeO.ite ?_ ?_
      | refine LeO.bind ?_ (fun _ => ?_)
    · intro y0 y1 y2 y3
      unfold descantref1_Number.l0
      repeat' first
      | (with_reducible exact ih0 _ _ _)
      | (with_reducible exact ih1 _ _ _ _)
      | (with_reducible exact descantref1_Ones.mono _ _)
      | (with_reducible exact LeO.refl _)
      | (with_reducible exact LeO.none _)
      | (with_reducible refine LeO.ite ?_ ?_)
      | (with_reducible refine LeO.bind ?_ (fun _ => ?_))
      | exact ih0 _ _ _
      | exact ih1 _ _ _ _
      | exact descantref1_Ones.mono _ _
      | exact LeO.none _
      | refine LeO.ite ?_ ?_
      | refine LeO.bind ?_ (fun _ => ?_)
theorem descantref1_Number.mono : ∀ a0 k, LeO (descantref1_Number.f k a0) (descantref1_Number.f (k + 1) a0) := by
  intro a0 k
  obtain ⟨ih0, ih1⟩ := descantref1_Number.mono_l k
  unfold descantref1_Number.f
  repeat' first
      | (with_reducible exact ih0 _ _ _)
      | (with_reducible exact ih1 _ _ _ _)
      | (with_reducible exact descantref1_Ones.mono _ _)
      | (with_reducible exact LeO.refl _)
      | (with_reducible exact LeO.none _)
      | (with_reducible refine LeO.ite ?_ ?_)
      | (with_reducible refine LeO.bind ?_ (fun _ => ?_))
      | exact ih0 _ _ _
      | exact ih1 _ _ _ _
      | exact descantref1_Ones.mono _ _
      | exact LeO.none _
      | refine LeO.ite ?_ ?_
      | refine LeO.bind ?_ (fun _ => ?_)
set_option maxHeartbeats 8000000 in
set_option maxRecDepth 100000 in
theorem descantref1_Number.calls (k : Nat) (A0 : Option Addr) (c0 : Nat) (l0 : List Int) (r1 : Int) (r2 : Int) (w : World) (hr0 : Kd.C (Kd.int .i64) w A0 l0.length l0) (hc0 : l0.length ≤ c0) (h : descantref1_Number.f k l0 = some (r1, r2)) :
    Calls Try.prog 23 #[.slice A0 l0.length c0] w fun e w' => e = .returned (.tuple #[.int .i64 r1, .int .i64 r2]) ∧ Drawn0 w w' := by
  have HR0 := Aside0.mk hr0
  have HC0 := Aside0.mk hc0
  clear hr0 hc0
  have H : ((descantref1_Ones.f k l0).bind fun t170 => (if (l0.length : Int) = (wrap64 ((wrap64 (2 * t170)) + 1)) then (descantref1_Number.j0 k l0 t170 (decide (t170 > 25))) else (descantref1_Number.j0 k l0 t170 true))) = some (r1, r2) := h
  clear h
  replace H := Option.bind_eq_some_iff.mp H
  obtain ⟨t170, A20, H⟩ := H
  replace H : (if (l0.length : Int) = (wrap64 ((wrap64 (2 * t170)) + 1)) then (descantref1_Number.j0 k l0 t170 (decide (t170 > 25))) else (descantref1_Number.j0 k l0 t170 true)) = some (r1, r2) := H
  have A2 := Aside0.mk A20
  clear A20
  have HC3 := Aside0.mk H
  clear H
  go_enter Try.func23, Try.ntmps23
  go_upto_region 2 with (first | ((with_reducible refine gate_callee (f := 39) rfl ?_); refine goesL_ (some 8) rfl rfl Try.func39 (by kernel_rfl) rfl #[.slice A0 l0.length c0] rfl (by (try simp only [List.map_toArray, List.map_cons, List.map_nil]); first | done | rfl | (simp only [List.length_drop, List.length_take]; rfl)) ?_; (with_reducible refine (descantref1_Ones.calls k _ _ l0 t170 _ ?side1 ?side2 A2.out).mono ?_); (case side1 => repeat (first | exact HR0.out | (with_reducible refine Kd.C_alloc ?_ _) | (with_reducible refine Kd.C_drewN ?_ _) | (with_reducible refine Kd.C_drew ?_))); (case side2 => exact HC0.out); rintro e w' ⟨rfl, ⟨nd, rfl⟩⟩; refine ⟨_, rfl, ?_⟩))
  (try simp only [Act.put, List.setIfInBounds_toArray, List.set_cons_zero, List.set_cons_succ])
  go_cut [18] (fun v18 wc => ∃ (kq : Nat) (x18_2 : Bool), v18 = .bool x18_2 ∧ Aside0 (descantref1_Number.j0 kq l0 t170 x18_2 = some (r1, r2)) ∧ Aside0 (kq ≤ k) ∧ Drawn0 w wc)
  case first =>
    have H := HC3.out
    clear HC3
    by_cases c4 : (l0.length : Int) = (wrap64 ((wrap64 (2 * t170)) + 1))
    · rw [if_pos c4] at H
      have c4b0 : ((l0.length : Int) == (wrap64 ((wrap64 (2 * t170)) + 1))) = true := beq_iff_eq.mpr c4
      have c4b1 : ((l0.length : Int) != (wrap64 ((wrap64 (2 * t170)) + 1))) = false := bne_eq_false_iff_eq.mpr c4
      clear c4
      (first | rw [c4b0] | (simp only [i64_w, i32_w]; rw [c4b0]) | skip)
      have H' := Aside0.mk H
      clear H
      go_wp2
      go_meet
      case rel => exact ⟨_, (decide (t170 > 25)), (by first | rfl | (simp; done) | (simp [*]; done)), H', ⟨by first | omega | exact Nat.le_refl _⟩, by repeat (first | exact Drawn0.refl _ | apply Drawn0.step)⟩
    · rw [if_neg c4] at H
      have c4b0 : ((l0.length : Int) == (wrap64 ((wrap64 (2 * t170)) + 1))) = false := beq_eq_false_iff_ne.mpr c4
      have c4b1 : ((l0.length : Int) != (wrap64 ((wrap64 (2 * t170)) + 1))) = true := bne_iff_ne.mpr c4
      (first | rw [c4b0] | (simp only [i64_w, i32_w]; rw [c4b0]) | skip)
      have H' := Aside0.mk H
      clear H
      go_wp2
      go_meet
      case rel => exact ⟨_, (true), (by first | rfl | (simp; done) | (simp [*]; done)), H', ⟨by first | omega | exact Nat.le_refl _⟩, by repeat (first | exact Drawn0.refl _ | apply Drawn0.step)⟩
  case rest =>
    clear HC3
    try clear c2
    try clear p2
    try clear c3
    try clear c4
    try clear c4b0
    try clear c4b1
    obtain ⟨kq, x18_2, rfl, HA, HJ2, ⟨mc2, rfl⟩⟩ := hcut
    cases kq with
    | zero => exact absurd HA.out (by simp [descantref1_Number.j0])
    | succ kj2 =>
      have H := HA.out
      clear HA
      simp only [descantref1_Number.j0] at H
      by_cases c5 : x18_2 = true
      · subst c5
        have H1 : (some (0, 1100)) = some (r1, r2) := by rw [if_pos rfl] at H; exact H
        clear H
        have H := H1
        clear H1
        simp only [Option.some.injEq, Prod.mk.injEq] at H
        obtain ⟨rfl, rfl⟩ := H
        go_wp2
        go_ret2
        exact ⟨by first | rfl | (simp; done) | (simp [*]; done), by repeat (first | exact Drawn0.refl _ | apply Drawn0.step)⟩
      · replace c5 := Bool.eq_false_iff.mpr c5
        subst c5
        have H1 : (descantref1_Number.l0 kj2 l0 t170 1 (wrap64 (t170 + 1))) = some (r1, r2) := by rw [if_neg (show ¬ (false = true) by decide)] at H; exact H
        clear H
        have H := H1
        clear H1
        have H' := Aside0.mk H
        clear H
        go_wp2
        go_loopg [5, 6] kj2 (fun kq v5 v6 w' => ∃ (x5_2 : Int) (x6_2 : Int), v5 = .int .i64 x5_2 ∧ v6 = .int .i64 x6_2 ∧ Aside0 (descantref1_Number.l0 kq l0 t170 x5_2 x6_2 = some (r1, r2)) ∧ Aside0 (kq ≤ kj2) ∧ Drawn0 w w')
        case atStart => exact ⟨(1), (wrap64 (t170 + 1)), (by first | rfl | (simp; done) | (simp [*]; done)), (by first | rfl | (simp; done) | (simp [*]; done)), H', ⟨Nat.le_refl _⟩, by repeat (first | exact Drawn0.refl _ | apply Drawn0.step)⟩
        case round =>
          clear H'
          try clear c2
          try clear p2
          try clear c3
          try clear c4
          try clear c4b0
          try clear c4b1
          try clear c5
          try clear p2
          obtain ⟨x5_2, x6_2, rfl, rfl, HA, HK2, ⟨m2, rfl⟩⟩ := hrel
          cases gk with
          | zero => exact absurd HA.out (by simp [descantref1_Number.l0])
          | succ k2 =>
            have H := HA.out
            clear HA
            simp only [descantref1_Number.l0] at H
            by_cases c6 : x6_2 < (l0.length : Int)
            · rw [if_pos c6] at H
              have c6b0 : decide (x6_2 < (l0.length : Int)) = true := decide_eq_true c6
              clear c6
              by_cases c7 : 0 ≤ x6_2
              · rw [if_pos c7] at H
                have c7b0 : decide (0 ≤ x6_2) = true := decide_eq_true c7
                clear c7
                replace H := Option.bind_eq_some_iff.mp H
                obtain ⟨t172, A80, H⟩ := H
                replace H : (if t172 = true then (descantref1_Number.l0 k2 l0 t170 (wrap64 ((wrap64 (2 * x5_2)) + (rd l0 x6_2))) (wrap64 (x6_2 + 1))) else (some (0, 1100))) = some (r1, r2) := H
                have A8 := Aside0.mk A80
                clear A80
                by_cases c9 : t172 = true
                · subst c9
                  have H1 : (descantref1_Number.l0 k2 l0 t170 (wrap64 ((wrap64 (2 * x5_2)) + (rd l0 x6_2))) (wrap64 (x6_2 + 1))) = some (r1, r2) := by rw [if_pos rfl] at H; exact H
                  clear H
                  have H := H1
                  clear H1
                  have H' := Aside0.mk H
                  clear H
                  have p171 : 0 ≤ (x6_2 : Int) := of_decide_eq_true (by first | (with_reducible assumption) | assumption)
                  have q171 : x6_2 < (l0.length : Int) := of_decide_eq_true (by first | (with_reducible assumption) | assumption)
                  obtain ⟨ad171, e171, hx171_0⟩ := Kd.at_int HR0.out x6_2 p171 q171
                  cases e171
                  replace p171 := eq_true p171
                  replace q171 := eq_true q171
                  go_wp2_with (first | ((with_reducible refine gate_callee (f := 30) rfl ?_); refine goesL_ (some 31) rfl rfl Try.func30 (by kernel_rfl) rfl #[.int .i64 (rd l0 x6_2)] rfl (by (try simp only [List.map_toArray, List.map_cons, List.map_nil]); first | done | rfl | (simp only [List.length_drop, List.length_take]; rfl)) ?_; (with_reducible refine (descantref1_bitMay.calls (rd l0 x6_2) true _ A8.out).mono ?_); rintro e w' ⟨rfl, ⟨nd, rfl⟩⟩; refine ⟨_, rfl, ?_⟩; have p173 : 0 ≤ (x6_2 : Int) := of_decide_eq_true (by first | (with_reducible assumption) | assumption); have q173 : x6_2 < (l0.length : Int) := of_decide_eq_true (by first | (with_reducible assumption) | assumption); obtain ⟨ad173, e173, hx173_0⟩ := Kd.at_int HR0.out x6_2 p173 q173; obtain rfl : ad171 = ad173 := (by injection e173); replace p173 := eq_true p173; replace q173 := eq_true q173))
                  go_roundg k2
                  case measure => have := HJ2.out; have := HK2.out; omega
                  case rel => exact ⟨(wrap64 ((wrap64 (2 * x5_2)) + (rd l0 x6_2))), (wrap64 (x6_2 + 1)), (by first | rfl | (simp; done) | (simp [*]; done)), (by first | rfl | (simp; done) | (simp [*]; done)), H', ⟨by have := HJ2.out; have := HK2.out; omega⟩, by repeat (first | exact Drawn0.refl _ | apply Drawn0.step)⟩
                · replace c9 := Bool.eq_false_iff.mpr c9
                  subst c9
                  have H1 : (some (0, 1100)) = some (r1, r2) := by rw [if_neg (show ¬ (false = true) by decide)] at H; exact H
                  clear H
                  have H := H1
                  clear H1
                  simp only [Option.some.injEq, Prod.mk.injEq] at H
                  obtain ⟨rfl, rfl⟩ := H
                  have p171 : 0 ≤ (x6_2 : Int) := of_decide_eq_true (by first | (with_reducible assumption) | assumption)
                  have q171 : x6_2 < (l0.length : Int) := of_decide_eq_true (by first | (with_reducible assumption) | assumption)
                  obtain ⟨ad171, e171, hx171_0⟩ := Kd.at_int HR0.out x6_2 p171 q171
                  cases e171
                  replace p171 := eq_true p171
                  replace q171 := eq_true q171
                  go_wp2_with (first | ((with_reducible refine gate_callee (f := 30) rfl ?_); refine goesL_ (some 31) rfl rfl Try.func30 (by kernel_rfl) rfl #[.int .i64 (rd l0 x6_2)] rfl (by (try simp only [List.map_toArray, List.map_cons, List.map_nil]); first | done | rfl | (simp only [List.length_drop, List.length_take]; rfl)) ?_; (with_reducible refine (descantref1_bitMay.calls (rd l0 x6_2) false _ A8.out).mono ?_); rintro e w' ⟨rfl, ⟨nd, rfl⟩⟩; refine ⟨_, rfl, ?_⟩))
                  go_ret2
                  exact ⟨by first | rfl | (simp; done) | (simp [*]; done), by repeat (first | exact Drawn0.refl _ | apply Drawn0.step)⟩
              · rw [if_neg c7] at H
                exact absurd H (by simp)
            · rw [if_neg c6] at H
              have c6b0 : decide (x6_2 < (l0.length : Int)) = false := decide_eq_false c6
              clear c6
              by_cases c10 : 0 ≤ t170
              · rw [if_pos c10] at H
                have c10b0 : decide (0 ≤ t170) = true := decide_eq_true c10
                clear c10
                by_cases c11 : t170 < (l0.length : Int)
                · rw [if_pos c11] at H
                  have c11b0 : decide (t170 < (l0.length : Int)) = true := decide_eq_true c11
                  clear c11
                  by_cases c12 : (rd l0 t170) = 0
                  · rw [if_pos c12] at H
                    have c12b0 : ((rd l0 t170) == 0) = true := beq_iff_eq.mpr c12
                    have c12b1 : ((rd l0 t170) != 0) = false := bne_eq_false_iff_eq.mpr c12
                    clear c12
                    by_cases c13 : (wrap64 (x5_2 - 1)) > 33554432
                    · rw [if_pos c13] at H
                      have c13b0 : decide (33554432 < (wrap64 (x5_2 - 1))) = true := decide_eq_true c13
                      clear c13
                      simp only [Option.some.injEq, Prod.mk.injEq] at H
                      obtain ⟨rfl, rfl⟩ := H
                      have p174 : 0 ≤ (t170 : Int) := of_decide_eq_true (by first | (with_reducible assumption) | assumption)
                      have q174 : t170 < (l0.length : Int) := of_decide_eq_true (by first | (with_reducible assumption) | assumption)
                      obtain ⟨ad174, e174, hx174_0⟩ := Kd.at_int HR0.out t170 p174 q174
                      cases e174
                      replace p174 := eq_true p174
                      replace q174 := eq_true q174
                      go_wp2
                      go_ret2
                      exact ⟨by first | rfl | (simp; done) | (simp [*]; done), by repeat (first | exact Drawn0.refl _ | apply Drawn0.step)⟩
                    · rw [if_neg c13] at H
                      have c13b0 : decide (33554432 < (wrap64 (x5_2 - 1))) = false := decide_eq_false c13
                      clear c13
                      simp only [Option.some.injEq, Prod.mk.injEq] at H
                      obtain ⟨rfl, rfl⟩ := H
                      have p174 : 0 ≤ (t170 : Int) := of_decide_eq_true (by first | (with_reducible assumption) | assumption)
                      have q174 : t170 < (l0.length : Int) := of_decide_eq_true (by first | (with_reducible assumption) | assumption)
                      obtain ⟨ad174, e174, hx174_0⟩ := Kd.at_int HR0.out t170 p174 q174
                      cases e174
                      replace p174 := eq_true p174
                      replace q174 := eq_true q174
                      go_wp2
                      go_ret2
                      exact ⟨by first | rfl | (simp; done) | (simp [*]; done), by repeat (first | exact Drawn0.refl _ | apply Drawn0.step)⟩
                  · rw [if_neg c12] at H
                    have c12b0 : ((rd l0 t170) == 0) = false := beq_eq_false_iff_ne.mpr c12
                    have c12b1 : ((rd l0 t170) != 0) = true := bne_iff_ne.mpr c12
                    simp only [Option.some.injEq, Prod.mk.injEq] at H
                    obtain ⟨rfl, rfl⟩ := H
                    have p174 : 0 ≤ (t170 : Int) := of_decide_eq_true (by first | (with_reducible assumption) | assumption)
                    have q174 : t170 < (l0.length : Int) := of_decide_eq_true (by first | (with_reducible assumption) | assumption)
                    obtain ⟨ad174, e174, hx174_0⟩ := Kd.at_int HR0.out t170 p174 q174
                    cases e174
                    replace p174 := eq_true p174
                    replace q174 := eq_true q174
                    go_wp2
                    go_ret2
                    exact ⟨by first | rfl | (simp; done) | (simp [*]; done), by repeat (first | exact Drawn0.refl _ | apply Drawn0.step)⟩
                · rw [if_neg c11] at H
                  exact absurd H (by simp)
              · rw [if_neg c10] at H
                exact absurd H (by simp)

/-! ### descantlaw0_SpoilInts: function 25 -/
section
open Go.Proofs.Ytlabpfebdhbgiaa.L
def descantlaw0_SpoilInts.f (k : Nat) (l0 : List Int) : Option (List Int) := none
theorem descantlaw0_SpoilInts.calls (k : Nat) (P0_ : Nat → Prop) (u9000_ : Value) (l0 : List Int) (r : List Int) (w0 w : World) (hB : Below w0.heap.size w0 w) (ho0 : Kd.R (Kd.int .i64) 3 w w0.heap.size P0_ u9000_ l0) (h : descantlaw0_SpoilInts.f k l0 = some r) :
    Calls Try.prog 25 #[u9000_] w fun e w' => e = .returned (.tuple #[]) ∧ Kd.R (Kd.int .i64) 3 w' w0.heap.size (fun k_ => (P0_ k_ ∨ w.heap.size ≤ k_)) u9000_ r ∧ Below w0.heap.size w0 w' ∧ Kept w w' (fun k_ => P0_ k_) := by cases h
theorem spoil_any (u : Value) (l0 : List Int) (w0 w : World) (hB : Below w0.heap.size w0 w) (ho : Kd.R (Kd.int .i64) 3 w w0.heap.size (fun _ => True) u l0) :
    Calls Try.prog 25 #[u] w fun e w' => e = .returned (.tuple #[]) ∧ Below w0.heap.size w0 w' := by
  rcases Nat.eq_zero_or_pos l0.length with hz | hp
  · obtain ⟨A, c, rfl, -, -⟩ := Kd.R_reads ho
    rw [hz]
    clear ho
    have HB := Lib.hid hB
    clear hB
    go_enter Try.func25, Try.ntmps25
    go_wp2
    refine wp_loop_rounds 1 ?_
    rw [rounds_succ]
    go_wp2
    go_end0
    exact ⟨rfl, HB.out⟩
  · have hmax := Kd.C_max (Kd.R_reads ho).choose_spec.choose_spec.2.2
    obtain ⟨g, cap, rfl, hg, -, -⟩ := Kd.R_form ho hp
    obtain ⟨n, hn⟩ : ∃ n, l0.length = n := ⟨_, rfl⟩
    have HB := Lib.hid hB
    have HO := Lib.hid ho
    have HN := Lib.hid hn
    rw [hn] at hmax hp ⊢
    clear hB ho hn
    go_enter Try.func25, Try.ntmps25
    go_wp2
    go_loopw [2] (fun v wr => ∃ i : Nat, v = .int .i64 i ∧ i ≤ n ∧ ∃ xs : List Int, Hid (xs.length = n ∧ Kd.R (Kd.int .i64) 3 wr w0.heap.size (fun _ => True) (.slice (some ⟨g, 0, none⟩) xs.length cap) xs ∧ Below w0.heap.size w0 wr)) (fun v _ => (n - intOf v).toNat)
    case atStart => exact ⟨0, rfl, by omega, l0, HN.out, HO.out, HB.out⟩
    case round =>
      obtain ⟨i, rfl, hi, xs, HX⟩ := hrel
      by_cases hlt : i < n
      · obtain ⟨hc, hf⟩ := Kd.R_cell (d := (0 : Int)) HX.out.2.1 (i : Int) (by omega) (by rw [HX.out.1]; omega)
        rw [Int.toNat_natCast] at hc hf
        obtain ⟨x, hx⟩ : ∃ x, rdOf (0 : Int) xs (i : Int) = x := ⟨_, rfl⟩
        rw [hx] at hc
        clear hx
        have HX2 : Hid ((xs.set i (wrap64 (-9 - x))).length = n ∧ Kd.R (Kd.int .i64) 3 (wr.setCell ⟨g, i, none⟩ (.int .i64 (wrap64 (-9 - x)))) w0.heap.size (fun _ => True) (.slice (some ⟨g, 0, none⟩) (xs.set i (wrap64 (-9 - x))).length cap) (xs.set i (wrap64 (-9 - x))) ∧ Below w0.heap.size w0 (wr.setCell ⟨g, i, none⟩ (.int .i64 (wrap64 (-9 - x))))) := by
          obtain ⟨h1, h2, h3⟩ := HX.out
          refine ⟨by rw [List.length_set]; exact h1, ?_, Go.Proofs.Ytlabpfebdhbgiaa.L.below_set (p := ⟨g, i, none⟩) hg h3 _⟩
          have := (Kd.R_put h2 (i : Int) (wrap64 (-9 - x))).1
          rw [Int.toNat_natCast] at this
          rw [List.length_set]
          exact this
        clear HX
        go_wp2
        go_roundw
        case rel => exact ⟨i + 1, by go_num, by omega, _, HX2⟩
        case measure => simp [intOf]; omega
      · obtain rfl : i = n := by omega
        have HB2 := Lib.hid HX.out.2.2
        clear HX
        go_wp2
        go_end0
        exact ⟨rfl, HB2.out⟩
end


/-! ### descantlaw0_KeptInts: function 26 -/
section
open Go.Proofs.Ytlabpfebdhbgiaa.L
def descantlaw0_KeptInts.f (l0 l1 : List Int) : Option Bool := none
theorem descantlaw0_KeptInts.calls (A0 : Option Addr) (c0 : Nat) (l0 : List Int) (A1 : Option Addr) (c1 : Nat) (l1 : List Int) (r : Bool) (w : World) (hr0 : Kd.C (Kd.int .i64) w A0 l0.length l0) (hc0 : l0.length ≤ c0) (hr1 : Kd.C (Kd.int .i64) w A1 l1.length l1) (hc1 : l1.length ≤ c1) (h : descantlaw0_KeptInts.f l0 l1 = some r) :
    Calls Try.prog 26 #[.slice A0 l0.length c0, .slice A1 l1.length c1] w fun e w' => e = .returned (.bool r) ∧ Drawn0 w w' := by
  cases h
theorem same_l0' (l m : List Int) (hl : l.length ≤ 9223372036854775806) (hm : l.length = m.length) : ∀ (d i k : Nat), i + d = l.length → d < k → descantlaw0_SameInts.l0 k l m (i : Int) = some (decide (l.drop i = m.drop i)) := by
  intro d
  induction d with
  | zero =>
    intro i k hi hk
    obtain ⟨k, rfl⟩ : ∃ m, k = m + 1 := ⟨k - 1, by omega⟩
    simp only [descantlaw0_SameInts.l0]
    rw [if_neg (by omega), List.drop_eq_nil_of_le (by omega), List.drop_eq_nil_of_le (by omega)]
    simp
  | succ d ih =>
    intro i k hi hk
    obtain ⟨k, rfl⟩ : ∃ m, k = m + 1 := ⟨k - 1, by omega⟩
    simp only [descantlaw0_SameInts.l0]
    have e1 : l[i]'(by omega) = rd l (i : Int) := by have := rd_at l i (by omega); rw [List.getElem?_eq_getElem (by omega)] at this; exact Option.some.inj this
    have e2 : m[i]'(by omega) = rd m (i : Int) := by have := rd_at m i (by omega); rw [List.getElem?_eq_getElem (by omega)] at this; exact Option.some.inj this
    rw [if_pos (by omega), if_pos (by omega), if_pos (by omega), List.drop_eq_getElem_cons (show i < l.length by omega), List.drop_eq_getElem_cons (show i < m.length by omega), e1, e2]
    by_cases h1 : rd l (i : Int) = rd m (i : Int)
    · rw [if_pos h1, w64 (by omega), show (i : Int) + 1 = ((i + 1 : Nat) : Int) by omega, ih (i + 1) k (by omega) (by omega), h1]
      simp
    · rw [if_neg h1]; simp [h1]
theorem same_f' (l m : List Int) (hl : l.length ≤ 9223372036854775806) (k : Nat) (hk : l.length < k) : descantlaw0_SameInts.f k l m = some (decide (l = m)) := by
  unfold descantlaw0_SameInts.f
  by_cases h : (l.length : Int) = (m.length : Int)
  · rw [if_pos h, show (0 : Int) = ((0 : Nat) : Int) from rfl, same_l0' l m hl (by omega) l.length 0 k (by omega) hk]; simp
  · rw [if_neg h]; simp; rintro rfl; exact h rfl
theorem same_one (A0 : Option Addr) (c0 n : Nat) (l : List Int) (A1 : Option Addr) (c1 : Nat) (w : World) (hn : l.length = n) (hr0 : Kd.C (Kd.int .i64) w A0 n l) (hc0 : n ≤ c0) (hr1 : Kd.C (Kd.int .i64) w A1 n l) (hc1 : n ≤ c1) (hb : n < 17592186044416) :
    Calls Try.prog 24 #[.slice A0 n c0, .slice A1 n c1] w fun e w' => e = .returned (.bool true) ∧ ∃ k, w' = w.drewN k := by
  subst hn
  have hl := hr0.2.1
  refine (descantlaw0_SameInts.calls (l.length + 1) A0 c0 l A1 c1 l true w hr0 hc0 hr1 hc1 ?_).mono fun e w' h => ⟨h.1, h.2.out⟩
  rw [same_f' l l (by omega) _ (by omega)]; simp
theorem kept_any (A : Option Addr) (c n : Nat) (l : List Int) (A1 : Option Addr) (c1 : Nat) (w : World) (hn : l.length = n) (hC : Kd.C (Kd.int .i64) w A (n + 2) (l ++ [(-7777), (-8888)])) (hc : n + 2 ≤ c) (hC1 : Kd.C (Kd.int .i64) w A1 n l) (hc1 : n ≤ c1) (hb : n + 2 < 17592186044416) :
    Calls Try.prog 26 #[.slice A n c, .slice A1 n c1] w fun e w' => e = .returned (.bool true) ∧ ∃ k, w' = w.drewN k := by
  have hCn : Kd.C (Kd.int .i64) w A n l := by
    have h2 := Kd.C_take (m := n) (show Kd.C (Kd.int .i64) w A (l ++ [(-7777 : Int), (-8888)]).length (l ++ [(-7777), (-8888)]) by rw [show (l ++ [(-7777 : Int), (-8888)]).length = n + 2 by simp [hn]]; exact hC) (by simp; omega)
    rw [show (l ++ [(-7777 : Int), (-8888)]).take n = l by rw [List.take_append_of_le_length (by omega), List.take_of_length_le (by omega)], hn] at h2
    exact h2
  obtain ⟨ad, rfl, x0⟩ := Kd.at_int hC (n : Int) (by omega) (by omega)
  obtain ⟨ad2, e2, x1⟩ := Kd.at_int hC ((n : Int) + 1) (by omega) (by omega)
  cases e2
  have r0 : rd (l ++ [(-7777 : Int), (-8888)]) (n : Int) = -7777 := by
    unfold rd; rw [Int.toNat_natCast, List.getD_eq_getElem?_getD, List.getElem?_append_right (by omega), hn]; simp
  have r1 : rd (l ++ [(-7777 : Int), (-8888)]) ((n : Int) + 1) = -8888 := by
    unfold rd; rw [show ((n : Int) + 1).toNat = n + 1 by omega, List.getD_eq_getElem?_getD, List.getElem?_append_right (by omega), hn]; simp
  rw [r0, Int.toNat_natCast] at x0
  rw [r1, show ((n : Int) + 1).toNat = n + 1 by omega] at x1
  have x2 : w.cell? ⟨ad.block, ad.off + (n + 1), none⟩ = some (.int .i64 (-8888)) := by simpa [Addr.add] using x1
  have HCN := Lib.hid hCn
  have HC1 := Lib.hid hC1
  have HN := Lib.hid hn
  have b0 : (0 : Int) ≤ n := by omega
  have b1 : (n : Int) + 2 ≤ c := by omega
  clear hC hCn hC1 r0 r1 hn
  go_enter Try.func26, Try.ntmps26
  go_wp2_with fail
  refine (same_one (some ad) c n l A1 c1 _ HN.out HCN.out (by omega) HC1.out hc1 (by omega)).mono ?_
  rintro e w1 ⟨rfl, nd, rfl⟩
  go_wp2
  go_ret
  exact ⟨rfl, _, rfl⟩
end


/-! ### descantlaw11_Gammas: function 8 -/
section
open Go.Proofs.Ytlabpfebdhbgiaa.L
theorem shr_nat (v n : Nat) (h : n ≤ 62) : shr .i64 (v : Int) (n : Int) = ((v / 2 ^ n : Nat) : Int) := by
  unfold shr
  rw [Int.toNat_natCast, Nat.min_eq_left (by show n ≤ 64; omega)]
  simp
theorem rb_l2 (u : Nat) (hu : u ≤ 33554432) : ∀ (j k : Nat) (xs : List Int), j ≤ 60 → j < k → xs.length + j < 1000000 → descantref1_Bits.l2 k (u : Int) xs ((j : Int) - 1) = some (xs ++ lowBits (u + 1) j, 0) := by
  intro j
  induction j with
  | zero =>
    intro k xs h0 hk hx
    obtain ⟨k, rfl⟩ : ∃ m, k = m + 1 := ⟨k - 1, by omega⟩
    simp only [descantref1_Bits.l2]
    rw [if_neg (by omega)]
    simp [lowBits]
  | succ j ih =>
    intro k xs h0 hk hx
    obtain ⟨k, rfl⟩ : ∃ m, k = m + 1 := ⟨k - 1, by omega⟩
    simp only [descantref1_Bits.l2]
    have e : shr .i64 (wrap64 ((u : Int) + 1)) (((j + 1 : Nat) : Int) - 1) = (((u + 1) / 2 ^ j : Nat) : Int) := by
      rw [w64 (by omega), show (u : Int) + 1 = ((u + 1 : Nat) : Int) by omega, show ((j + 1 : Nat) : Int) - 1 = (j : Int) by omega, shr_nat _ _ (by omega)]
    rw [if_pos (by omega), if_pos (by omega), if_pos (by omega), e, and_one, w64 (by omega), show ((j + 1 : Nat) : Int) - 1 - 1 = (j : Int) - 1 by omega, ih k _ (by omega) (by omega) (by simp; omega)]
    simp [lowBits]
theorem rb_l1 (u : Nat) (hu : u ≤ 33554432) : ∀ (d i k : Nat), i + d = Nat.log2 (u + 1) → d + 40 < k → descantref1_Bits.l1 k (u : Int) (Nat.log2 (u + 1) : Int) (List.replicate i 1) (i : Int) = some (gBits u, 0) := by
  have hl : Nat.log2 (u + 1) ≤ 25 := log2_le (by omega)
  intro d
  induction d with
  | zero =>
    intro i k hi hk
    obtain ⟨k, rfl⟩ : ∃ m, k = m + 1 := ⟨k - 1, by omega⟩
    simp only [descantref1_Bits.l1]
    obtain rfl : i = Nat.log2 (u + 1) := by omega
    rw [if_neg (by omega), if_pos (by simp; omega), w64 (by omega), rb_l2 u hu _ _ _ (by omega) (by omega) (by simp; omega)]
    simp [gBits]
  | succ d ih =>
    intro i k hi hk
    obtain ⟨k, rfl⟩ : ∃ m, k = m + 1 := ⟨k - 1, by omega⟩
    simp only [descantref1_Bits.l1]
    rw [if_pos (by omega), if_pos (by simp; omega), w64 (by omega), ← List.replicate_succ', show (i : Int) + 1 = ((i + 1 : Nat) : Int) by omega]
    exact ih (i + 1) k (by omega) (by omega)
theorem rb_l0 (u : Nat) (hu : u ≤ 33554432) : ∀ (d j k : Nat), j + d = Nat.log2 (u + 1) → d + 80 < k → descantref1_Bits.l0 k (u : Int) (j : Int) = some (gBits u, 0) := by
  have hl : Nat.log2 (u + 1) ≤ 25 := log2_le (by omega)
  obtain ⟨b1, b2⟩ := log2_bd (u + 1) (by omega)
  intro d
  induction d with
  | zero =>
    intro j k hj hk
    obtain ⟨k, rfl⟩ : ∃ m, k = m + 1 := ⟨k - 1, by omega⟩
    simp only [descantref1_Bits.l0]
    obtain rfl : j = Nat.log2 (u + 1) := by omega
    have e0 : (u + 1) / 2 ^ (Nat.log2 (u + 1) + 1) = 0 := Nat.div_eq_of_lt b2
    have e : shr .i64 (wrap64 ((u : Int) + 1)) (wrap64 ((Nat.log2 (u + 1) : Int) + 1)) = 0 := by
      rw [w64 (by omega), w64 (by omega), show (u : Int) + 1 = ((u + 1 : Nat) : Int) by omega, show (Nat.log2 (u + 1) : Int) + 1 = ((Nat.log2 (u + 1) + 1 : Nat) : Int) by omega, shr_nat _ _ (by omega), e0]
      rfl
    rw [e, if_pos (by rw [w64 (by omega)]; omega), if_neg (by omega)]
    exact rb_l1 u hu (Nat.log2 (u + 1)) 0 k (by omega) (by omega)
  | succ d ih =>
    intro j k hj hk
    obtain ⟨k, rfl⟩ : ∃ m, k = m + 1 := ⟨k - 1, by omega⟩
    simp only [descantref1_Bits.l0]
    have hp : 2 ^ (j + 1) ≤ u + 1 := Nat.le_trans (Nat.pow_le_pow_right (by decide) (by omega)) b1
    have hpos : 0 < (u + 1) / 2 ^ (j + 1) := Nat.div_pos hp (Nat.two_pow_pos _)
    have e : shr .i64 (wrap64 ((u : Int) + 1)) (wrap64 ((j : Int) + 1)) = (((u + 1) / 2 ^ (j + 1) : Nat) : Int) := by
      rw [w64 (by omega), w64 (by omega), show (u : Int) + 1 = ((u + 1 : Nat) : Int) by omega, show (j : Int) + 1 = ((j + 1 : Nat) : Int) by omega, shr_nat _ _ (by omega)]
    rw [e, if_pos (by rw [w64 (by omega)]; omega), if_pos (by omega), w64 (by omega), show (j : Int) + 1 = ((j + 1 : Nat) : Int) by omega]
    exact ih (j + 1) k (by omega) (by omega)
theorem rbits_f (u : Nat) (h : u ≤ 33554432) (k : Nat) (hk : 120 < k) : descantref1_Bits.f k (u : Int) = some (gBits u, 0) := by
  have hl : Nat.log2 (u + 1) ≤ 25 := log2_le (by omega)
  unfold descantref1_Bits.f descantref1_upTo.f
  rw [if_pos (by omega), Option.bind_some, if_pos (by simp; omega)]
  exact rb_l0 u h (Nat.log2 (u + 1)) 0 k (by omega) (by omega)
theorem rbits_no (u : Int) (h : u < 0 ∨ 33554432 < u) (k : Nat) : descantref1_Bits.f k u = some ([], 1100) := by
  unfold descantref1_Bits.f descantref1_upTo.f
  by_cases h0 : u < 0
  · rw [if_neg (by omega), Option.bind_some, if_neg (by simp)]
  · rw [if_pos (by omega), Option.bind_some, if_neg (by simp; omega)]
theorem rones_l0 (l : List Int) (hl : l.length ≤ 9223372036854775806) : ∀ (d i k : Nat), i + d = l.length → d < k → descantref1_Ones.l0 k l (i : Int) = some (((i + gOnes (l.drop i) : Nat) : Int)) := by
  intro d
  induction d with
  | zero =>
    intro i k hi hk
    obtain ⟨k, rfl⟩ : ∃ m, k = m + 1 := ⟨k - 1, by omega⟩
    simp only [descantref1_Ones.l0]
    rw [if_neg (by omega), List.drop_eq_nil_of_le (by omega)]
    simp [gOnes]
  | succ d ih =>
    intro i k hi hk
    obtain ⟨k, rfl⟩ : ∃ m, k = m + 1 := ⟨k - 1, by omega⟩
    simp only [descantref1_Ones.l0]
    have hd := gOnes_drop l i (by omega)
    rw [if_pos (by omega), if_pos (by omega)]
    by_cases h1 : rd l (i : Int) = 1
    · rw [if_pos h1] at hd ⊢
      rw [w64 (by omega), show (i : Int) + 1 = ((i + 1 : Nat) : Int) by omega, ih (i + 1) k (by omega) (by omega), hd, show i + (gOnes (l.drop (i + 1)) + 1) = i + 1 + gOnes (l.drop (i + 1)) by omega]
    · rw [if_neg h1] at hd ⊢
      rw [hd, Nat.add_zero]
theorem rones_f (l : List Int) (hl : l.length ≤ 9223372036854775806) (k : Nat) (hk : l.length < k) : descantref1_Ones.f k l = some (gOnes l : Int) := by
  have := rones_l0 l hl l.length 0 k (by omega) hk
  simpa [descantref1_Ones.f] using this
theorem bitMay_f (b : Int) : descantref1_bitMay.f b = some (isBit b) := by
  unfold descantref1_bitMay.f isBit
  by_cases h : b = 0
  · subst h; simp
  · rw [if_neg h]; congr 1; rw [Bool.eq_iff_iff]; simp; omega
def rnEnd (l : List Int) (n : Nat) : Int × Int :=
  if (l.drop (n + 1)).all isBit = true ∧ rd l (n : Int) = 0 ∧ gVal 1 (l.drop (n + 1)) ≤ 33554433 then (((gVal 1 (l.drop (n + 1)) : Nat) : Int) - 1, 0) else (0, 1100)
theorem rn_l0 (l : List Int) (n : Nat) (hn : n ≤ 25) (hl : l.length = 2 * n + 1) : ∀ (d j k : Nat), j + d = n → d < k → ((l.drop (n + 1)).take j).all isBit = true → descantref1_Number.l0 k l (n : Int) ((gVal 1 ((l.drop (n + 1)).take j) : Nat) : Int) ((n + 1 + j : Nat) : Int) = some (rnEnd l n) := by
  have hrest : (l.drop (n + 1)).length = n := by simp; omega
  intro d
  induction d with
  | zero =>
    intro j k hj hk ha
    obtain ⟨k, rfl⟩ : ∃ m, k = m + 1 := ⟨k - 1, by omega⟩
    simp only [descantref1_Number.l0]
    have hr := gVal_range (l.drop (n + 1))
    have hp : 2 ^ ((l.drop (n + 1)).length + 1) ≤ 2 ^ 26 := Nat.pow_le_pow_right (by decide) (by omega)
    have hp0 := Nat.two_pow_pos (l.drop (n + 1)).length
    rw [List.take_of_length_le (by omega)] at ha ⊢
    rw [if_neg (by omega), if_pos (by omega), if_pos (by omega), w64 (by omega)]
    unfold rnEnd
    by_cases h0 : rd l (n : Int) = 0
    · rw [if_pos h0]
      by_cases hb : gVal 1 (l.drop (n + 1)) ≤ 33554433
      · rw [if_neg (by omega), if_pos ⟨ha, h0, hb⟩]
      · rw [if_pos (by omega), if_neg (fun h => hb h.2.2)]
    · rw [if_neg h0, if_neg (fun h => h0 h.2.1)]
  | succ d ih =>
    intro j k hj hk ha
    obtain ⟨k, rfl⟩ : ∃ m, k = m + 1 := ⟨k - 1, by omega⟩
    simp only [descantref1_Number.l0]
    have hget : rd l ((n + 1 + j : Nat) : Int) = rd (l.drop (n + 1)) (j : Int) := by
      unfold rd; rw [Int.toNat_natCast, Int.toNat_natCast, List.getD_eq_getElem?_getD, List.getD_eq_getElem?_getD, List.getElem?_drop]
    have hstep := gVal_take (l.drop (n + 1)) j (by omega)
    have hr := gVal_range ((l.drop (n + 1)).take j)
    have hp : 2 ^ (((l.drop (n + 1)).take j).length + 1) ≤ 2 ^ 26 := Nat.pow_le_pow_right (by decide) (by rw [List.length_take]; omega)
    have htk : (l.drop (n + 1)).take (j + 1) = (l.drop (n + 1)).take j ++ [rd (l.drop (n + 1)) (j : Int)] := by
      have e : (l.drop (n + 1))[j]'(by omega) = rd (l.drop (n + 1)) (j : Int) := by have := rd_at (l.drop (n + 1)) j (by omega); rw [List.getElem?_eq_getElem (by omega)] at this; exact Option.some.inj this
      rw [List.take_succ_eq_append_getElem (by omega), e]
    rw [if_pos (by omega), if_pos (by omega), hget, bitMay_f, Option.bind_some]
    by_cases hb : isBit (rd (l.drop (n + 1)) (j : Int)) = true
    · rw [if_pos hb]
      have hb2 : 0 ≤ rd (l.drop (n + 1)) (j : Int) ∧ rd (l.drop (n + 1)) (j : Int) ≤ 1 := by simpa [isBit] using hb
      rw [w64 (x := 2 * _) (by omega), w64 (by omega), w64 (by omega), show ((n + 1 + j : Nat) : Int) + 1 = ((n + 1 + (j + 1) : Nat) : Int) by omega,
        show 2 * ((gVal 1 ((l.drop (n + 1)).take j) : Nat) : Int) + rd (l.drop (n + 1)) (j : Int) = ((gVal 1 ((l.drop (n + 1)).take (j + 1)) : Nat) : Int) by rw [hstep]; omega]
      refine ih (j + 1) k (by omega) (by omega) ?_
      rw [htk, List.all_append, ha]; simpa using hb
    · rw [if_neg hb]
      unfold rnEnd
      rw [if_neg]
      rintro ⟨h, -⟩
      apply hb
      have hm : rd (l.drop (n + 1)) (j : Int) ∈ l.drop (n + 1) := List.mem_of_mem_take (i := j + 1) (by rw [htk]; simp)
      exact List.all_eq_true.1 h _ hm
theorem rnumber_f (l : List Int) (hl : l.length ≤ 4611686018427387903) (k : Nat) (hk : l.length + 2 < k) : descantref1_Number.f k l = some (if gOk l then ((gNum l : Nat) : Int) else 0, if gOk l then 0 else 1100) := by
  have hle := gOnes_le l
  unfold descantref1_Number.f
  rw [rones_f l (by omega) k (by omega), Option.bind_some, w64 (x := 2 * _) (by omega), w64 (by omega)]
  by_cases h1 : (l.length : Int) = 2 * (gOnes l : Int) + 1
  · rw [if_pos h1]
    obtain ⟨k, rfl⟩ : ∃ m, k = m + 1 := ⟨k - 1, by omega⟩
    simp only [descantref1_Number.j0]
    by_cases h2 : (gOnes l : Int) > 25
    · rw [if_pos (by simpa using h2), gOk_short (by omega)]; rfl
    · rw [if_neg (by simpa using h2), w64 (by omega), show (gOnes l : Int) + 1 = ((gOnes l + 1 + 0 : Nat) : Int) by omega]
      have := rn_l0 l (gOnes l) (by omega) (by omega) (gOnes l) 0 k (by omega) (by omega) (by simp)
      simp only [List.take_zero] at this
      rw [show ((gVal 1 [] : Nat) : Int) = 1 from rfl] at this
      rw [this]
      congr 1
      unfold rnEnd
      have hat := rd_at l (gOnes l) (by omega)
      by_cases h0 : rd l (gOnes l : Int) = 0
      · rw [h0] at hat
        rw [gOk_rest (by omega) hat (by omega)]
        have hp := (gVal_range (l.drop (gOnes l + 1))).1
        have hp0 := Nat.two_pow_pos (l.drop (gOnes l + 1)).length
        by_cases hc : (l.drop (gOnes l + 1)).all isBit = true ∧ gVal 1 (l.drop (gOnes l + 1)) ≤ 33554433
        · rw [if_pos ⟨hc.1, h0, hc.2⟩]
          simp only [hc.1, hc.2, decide_true, Bool.and_self, if_true]
          unfold gNum
          congr 1
          omega
        · rw [if_neg (fun h => hc ⟨h.1, h.2.2⟩)]
          have : ((l.drop (gOnes l + 1)).all isBit && decide (gVal 1 (l.drop (gOnes l + 1)) ≤ 33554433)) = false := by
            rw [Bool.and_eq_false_iff, decide_eq_false_iff_not]
            rcases Classical.em ((l.drop (gOnes l + 1)).all isBit = true) with h | h
            · exact .inr fun h2 => hc ⟨h, h2⟩
            · exact .inl (by simpa using h)
          rw [this]; rfl
      · rw [if_neg (fun h => h0 h.2.1), gOk_whole]
        · rfl
        · rw [hat]; simp [h0]
  · rw [if_neg h1]
    obtain ⟨k, rfl⟩ : ∃ m, k = m + 1 := ⟨k - 1, by omega⟩
    simp only [descantref1_Number.j0]
    rw [if_pos trivial, gOk_whole]
    · rfl
    · rw [Bool.and_eq_false_iff]; right; simp; omega
theorem gB4' : gBits 4 = [1, 1, 0, 0, 1] := by decide +kernel
theorem awake_f' (k : Nat) (hk : 40 < k) : descantlaw11_awake.f k = some true := by
  have h1 : gamma_Bits.f k 4 = some ([1, 1, 0, 0, 1], 0) := by rw [← gB4']; exact bits_f 4 (by decide) k hk
  have h2 := bits_no (-1) (.inl (by decide)) k (by omega)
  have hn1 : gamma_Number.f [1, 1, 0, 0, 1] = some (4, 0) := by decide +kernel
  have hn2 : gamma_Number.f [1, 0] = some (0, 1100) := by decide +kernel
  have h3 := same_f' [1, 1, 0, 0, 1] [1, 1, 0, 0, 1] (by decide) k (by simp; omega)
  unfold descantlaw11_awake.f
  rw [h1]; simp only [Option.bind_some]
  rw [hn1]; simp only [Option.bind_some]
  rw [h2]; simp only [Option.bind_some]
  rw [hn2]; simp only [Option.bind_some]
  rw [h3]; simp [descantlaw0_Num.f]
def descantlaw11_Gammas.f (a0 : Int) (l1 : List Int) : Option Bool := some true
def descantlaw11_Gammas.Pure : Prop := True
theorem number_n (A : Option Addr) (c n : Nat) (l : List Int) (D F : Int) (w : World) (hn : l.length = n) (hC : Kd.C (Kd.int .i64) w A n l) (hc : n ≤ c) (h : gamma_Number.f l = some (D, F)) :
    Calls Try.prog 22 #[.slice A n c] w fun e w' => e = .returned (.tuple #[.int .i64 D, .int .i64 F]) ∧ Below w.heap.size w w' := by
  subst hn; exact gamma_Number.calls A c l D F w hC hc h
theorem rnumber_n (k : Nat) (A : Option Addr) (c n : Nat) (l : List Int) (D F : Int) (w : World) (hn : l.length = n) (hC : Kd.C (Kd.int .i64) w A n l) (hc : n ≤ c) (h : descantref1_Number.f k l = some (D, F)) :
    Calls Try.prog 23 #[.slice A n c] w fun e w' => e = .returned (.tuple #[.int .i64 D, .int .i64 F]) ∧ ∃ k, w' = w.drewN k := by
  subst hn; exact (descantref1_Number.calls k A c l D F w hC hc h).mono fun e w' h => ⟨h.1, h.2.out⟩
set_option maxHeartbeats 2000000 in
theorem gammas_walk (a0 : Int) (A1 : Option Addr) (c1 n : Nat) (l1 : List Int) (X : List Int) (E D F : Int) (w : World) (hn : l1.length = n) (hr1 : Kd.C (Kd.int .i64) w A1 n l1) (hc1 : n ≤ c1) (hl : n + 2 < 17592186044416)
    (hX : gamma_Bits.f 41 a0 = some (X, E)) (hXr : descantref1_Bits.f 121 a0 = some (X, E)) (hD : gamma_Number.f l1 = some (D, F)) (hDr : descantref1_Number.f (n + 3) l1 = some (D, F)) (hXl : X.length ≤ 1000) (hA : (E = 0 ∧ gamma_Number.f X = some (a0, 0)) ∨ E = 1100) :
    Calls Try.prog 8 #[.int .i64 a0, .slice A1 n c1] w fun e w' => e = .returned (.bool true) ∧ Below w.heap.size w w' := by
  have HN := Lib.hid hn
  have HR := Lib.hid hr1
  have HX := Lib.hid hX
  have HXR := Lib.hid hXr
  have HD := Lib.hid hD
  have HDR := Lib.hid hDr
  obtain ⟨G, H, hG, hGH⟩ : ∃ G H, gamma_Number.f X = some (G, H) ∧ ((E = 0 ∧ G = a0 ∧ H = 0) ∨ E = 1100) := by
    rcases hA with ⟨h1, h2⟩ | h1
    · exact ⟨a0, 0, h2, .inl ⟨h1, rfl, rfl⟩⟩
    · exact ⟨_, _, rfl, .inr h1⟩
  have HG := Lib.hid hG
  clear hn hr1 hX hXr hD hDr hA hG
  rcases hGH with ⟨rfl, rfl, rfl⟩ | rfl
  all_goals
    go_enter Try.func8, Try.ntmps8
    go_wp2_with fail
    refine (lend_any A1 c1 n l1 w HN.out HR.out hc1 hl).mono ?_
    rintro e W1 ⟨A, c, rfl, hcc, hC, hb⟩
    have HC := Lib.hid hC
    have HR1 := Lib.hid (Kd.C_below HR.out hb)
    have HB1 := Lib.hid hb
    clear hC hb
    go_wp2_with fail
    refine (gamma_Bits.calls 41 _ _ _ W1 HX.out).mono ?_
    rintro e w2 ⟨v2, rfl, hR, hb⟩
    have HO2 := Lib.hid hR
    have HB2 := Lib.hid hb
    clear hR hb
    go_wp2_with fail
    refine (descantref1_Bits.calls 121 _ _ _ w2 HXR.out).mono ?_
    rintro e w3 ⟨v3, rfl, hR, hb⟩
    have HO3 := Lib.hid hR
    have HA3 := Lib.hid (Kd.R_below HO2.out hb)
    have HB3 := Lib.hid (below_next HB2.out hb)
    clear hR hb HO2 HB2
    obtain ⟨A3, c3, rfl, hc3, -⟩ := Kd.R_reads HA3.out
    obtain ⟨A4, c4, rfl, hc4, -⟩ := Kd.R_reads HO3.out
    have hcl : n ≤ c := by omega
    have hCn : Kd.C (Kd.int .i64) W1 A n l1 := by
      have h2 := Kd.C_take (m := n) (show Kd.C (Kd.int .i64) W1 A (l1 ++ [(-7777 : Int), (-8888)]).length (l1 ++ [(-7777), (-8888)]) by rw [show (l1 ++ [(-7777 : Int), (-8888)]).length = n + 2 by simp [HN.out]]; exact HC.out) (by simp [HN.out])
      rw [show (l1 ++ [(-7777 : Int), (-8888)]).take n = l1 by rw [List.take_append_of_le_length (by rw [HN.out]; omega), List.take_of_length_le (by rw [HN.out]; omega)], HN.out] at h2
      exact h2
    have HCN := Lib.hid hCn
    clear hCn
    have hXl2 : X.length < 17592186044416 := by omega
    go_wp2_with fail
    refine (number_n A c n l1 D F w3 HN.out (Kd.C_below HCN.out HB3.out) hcl HD.out).mono ?_
    rintro e w5 ⟨rfl, hb⟩
    have HA5 := Lib.hid (Kd.R_below HA3.out hb)
    have HO5 := Lib.hid (Kd.R_below HO3.out hb)
    have HB5 := Lib.hid (below_next HB3.out hb)
    clear hb HA3 HO3 HB3
    go_wp2_with fail
    refine (rnumber_n (n + 3) A1 c1 n l1 D F w5 HN.out (Kd.C_below HR1.out HB5.out) hc1 HDR.out).mono ?_
    rintro e w6 ⟨rfl, nd, rfl⟩
    go_wp2_with fail
    refine (number_n A3 c3 X.length X _ _ _ rfl (Kd.C_drewN (Kd.R_reads' HA5.out).2.2 nd) hc3 HG.out).mono ?_
    rintro e w7 ⟨rfl, hb⟩
    have HA7 := Lib.hid (Kd.R_below (Kd.R_drewN HA5.out nd) hb)
    have HO7 := Lib.hid (Kd.R_below (Kd.R_drewN HO5.out nd) hb)
    have HB7 := Lib.hid (below_next (below_drewN HB5.out nd) hb)
    clear hb HA5 HO5 HB5
    go_wp2_with fail
    refine (same_one A3 c3 X.length X A4 c4 _ rfl (Kd.R_reads' HA7.out).2.2 hc3 (Kd.R_reads' HO7.out).2.2 hc4 hXl2).mono ?_
    rintro e w8 ⟨rfl, nd2, rfl⟩
    go_wp2_with (go_at_call 16; refine (descantlaw0_Num.calls _ _ _ rfl).mono ?_; rintro e w4 ⟨rfl, ⟨nd, rfl⟩⟩)
    refine (spoil_any _ X W1 _ (by repeat (first | exact HB7.out | apply below_drewN)) (by repeat (first | exact HA7.out | apply Kd.R_drewN))).mono ?_
    rintro e w9 ⟨rfl, hb⟩
    have HB9 := Lib.hid hb
    clear hb HA7 HO7 HB7
    go_wp2_with fail
    refine (kept_any A c n l1 A1 c1 w9 HN.out (Kd.C_below HC.out HB9.out) hcc (Kd.C_below HR1.out HB9.out) hc1 hl).mono ?_
    rintro e w10 ⟨rfl, nd3, rfl⟩
    go_wp2_with fail
    refine (descantlaw11_awake.calls 41 true _ (awake_f' 41 (by decide))).mono ?_
    rintro e w11 ⟨rfl, hb⟩
    have HF := Lib.hid (below_next (below_drewN (below_next HB1.out HB9.out) nd3) hb)
    clear hb
    go_wp2_with fail
    go_ret
    exact ⟨rfl, HF.out⟩
theorem descantlaw11_Gammas.walk (P : descantlaw11_Gammas.Pure) (a0 : Int) (a1 : Option Addr) (len1 cap1 : Nat) (z1 : List Int) (w : World) (w0 : (Lit.int .i64 a0).wf = true) (w1 : (a1 = none ∧ len1 = 0 ∧ cap1 = 0 ∧ z1 = []) ∨ ∃ x, a1 = some x ∧ len1 ≤ cap1 ∧ cap1 ≤ maxLen ∧ z1.length = cap1 ∧ (∀ i, i < z1.length → w.cell? (x.add i) = some (.int .i64 (z1.getD i 0))) ∧ ∀ n ∈ z1, (Lit.int .i64 n).wf = true) (y1 : len1 * 8 ≤ 140737488351232) :
    Calls Try.prog 8 #[.int .i64 a0, .slice a1 len1 cap1] w fun e w' => e = .returned (.bool true) ∧ Below w.heap.size w w' := by
  obtain ⟨l1, rfl, hr1, hm1, hw1, hc1⟩ := ReadsInt.ofRowC w1
  have hC : Kd.C (Kd.int .i64) w a1 l1.length l1 := Kd.C_of_reads (d := (0 : Int)) hr1
  have hDr := rnumber_f l1 (by omega) (l1.length + 3) (by omega)
  by_cases h : a0 < 0 ∨ 33554432 < a0
  · exact gammas_walk a0 a1 cap1 l1.length l1 [] 1100 _ _ w rfl hC hc1 (by omega) (bits_no a0 h 41 (by omega)) (rbits_no a0 h 121) rfl hDr (by simp) (.inr rfl)
  · obtain ⟨u, rfl⟩ := Int.eq_ofNat_of_zero_le (show 0 ≤ a0 by omega)
    refine gammas_walk u a1 cap1 l1.length l1 (gBits u) 0 _ _ w rfl hC hc1 (by omega) (bits_f u (by omega) 41 (by omega)) (rbits_f u (by omega) 121 (by omega)) rfl hDr ?_ (.inl ⟨rfl, ?_⟩)
    · rw [gBits_length]; have := log2_le (n := 25) (v := u + 1) (by omega); omega
    · unfold gamma_Number.f
      rw [gOk_gBits (by omega), gNum_gBits]; rfl
end


end Go.Proofs.Ytlabpfebdhbgiaa.PG
