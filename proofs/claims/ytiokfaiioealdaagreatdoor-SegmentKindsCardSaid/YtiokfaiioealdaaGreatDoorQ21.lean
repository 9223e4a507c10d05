/- The texts behind the row, joined: WShift. -/
import Derived.Test.YtiokfaiioealdaaGreatDoorQ20
namespace Go.Proofs.YtiokfaiioealdaaGreatDoor
open Go.RowKit Go.Proofs.YtiokfaiioealdaaGreatDoorW.PrintWords Go.Proofs.YtiokfaiioealdaaGreatDoorW.PrintLast Go.Proofs.YtiokfaiioealdaaGreatDoorW.PrintMore Go.Proofs.YtiokfaiioealdaaGreatDoor.L
set_option linter.unusedVariables false
set_option linter.unusedSimpArgs false
/-- The bits package's table is as its initialiser laid it. -/
structure Tab6 (w : World) : Prop where mk :: (out : ∀ j, j < 64 → w.cell? ⟨2, j, none⟩ = some (.int .u8 (deB.getD j 0)))
theorem Tab6.drewN {w : World} (h : Tab6 w) (n : Nat) : Tab6 (w.drewN n) := ⟨h.out⟩
theorem Tab6.below {w w1 : World} (h : Tab6 w) (hb : Below w.heap.size w w1) : Tab6 w1 := ⟨fun j hj => cell_below hb (h.out j hj)⟩
set_option maxHeartbeats 8000000 in
set_option maxRecDepth 100000 in
theorem tz64 (U k m : Nat) (hU : U = 2 ^ k * (2 * m + 1)) (hl : U < 2 ^ 64) (w : World) (ht : Tab6 w) : Calls Tryz.prog 195 #[.int .u64 U] w fun e w' => e = .returned (.int .i64 k) ∧ ∃ n, w' = w.drewN n := by
  obtain ⟨hk, hand⟩ := tz_at hU hl
  have h0 : (U : Int) ≠ 0 := by
    have : 0 < U := by rw [hU]; exact Nat.mul_pos (Nat.two_pow_pos k) (by omega)
    omega
  have hz : ((U : Int) = 0) = False := eq_false h0
  have hz2 : ((U : Int) == 0) = false := beq_eq_false_iff_ne.2 h0
  have hw : ∀ n : Int, IntKind.u64.wrap n = n % 18446744073709551616 := fun n => by simp [IntKind.wrap, IntKind.bits, IntKind.signed]
  have hU0 : 0 < U := by omega
  have r1 : bits .and .u64 (U : Int) (IntKind.u64.wrap (-(U : Int))) = ((2 ^ k : Nat) : Int) := by
    show IntKind.u64.wrap ((BitVec.ofInt 64 (U : Int) &&& BitVec.ofInt 64 (IntKind.u64.wrap (-(U : Int)))).toNat : Int) = _
    have e1 : (BitVec.ofInt 64 (U : Int)).toNat = U := by rw [BitVec.toNat_ofInt]; omega
    have e2 : (BitVec.ofInt 64 (IntKind.u64.wrap (-(U : Int)))).toNat = 2 ^ 64 - U := by rw [hw, BitVec.toNat_ofInt]; omega
    rw [BitVec.toNat_and, e1, e2, hand, hw]
    have : 2 ^ k < 2 ^ 64 := Nat.pow_lt_pow_right (by decide) hk
    omega
  obtain ⟨I, hI⟩ : ∃ I, ((2 ^ k * 285870213051353865) % 18446744073709551616) / 288230376151711744 = I := ⟨_, rfl⟩
  have hdb := deB_at k hk
  rw [hI] at hdb
  have r2 : IntKind.u64.wrap (((2 ^ k : Nat) : Int) * 285870213051353865) / 288230376151711744 = (I : Int) := by rw [hw, ← hI]; generalize 2 ^ k = p; omega
  have hI6 : I < 64 := by omega
  have hcell := ht.out I hI6
  rw [hdb] at hcell
  obtain ⟨P, hP⟩ : ∃ P : Int, ((2 ^ k : Nat) : Int) = P := ⟨_, rfl⟩
  rw [hP] at r1 r2
  obtain ⟨Q, hQ⟩ : ∃ Q, IntKind.u64.wrap (P * 285870213051353865) = Q := ⟨_, rfl⟩
  rw [hQ] at r2
  have p3 := eq_true (show (0 : Int) ≤ (I : Int) by omega)
  have q3 := eq_true (show (I : Int) < 64 by omega)
  replace hP := Lib.hid hP
  replace hI := Lib.hid hI
  clear hdb ht hand hl hw
  replace hU := Lib.hid hU
  have hkb : IntKind.i64.wrap (k : Int) = (k : Int) := by rw [IntKind.wrap_i64]; omega
  go_enter Tryz.func195, Tryz.ntmps195
  go_wp2_with (fail)
  go_ret
  exact ⟨rfl, 0, rfl⟩
theorem tz_uint (U k m : Nat) (hU : U = 2 ^ k * (2 * m + 1)) (hl : U < 2 ^ 64) (w : World) (ht : Tab6 w) : Calls Tryz.prog 172 #[.int .u64 U] w fun e w' => e = .returned (.int .i64 k) ∧ ∃ n, w' = w.drewN n := by
  have h := fun W (h : Tab6 W) => tz64 U k m hU hl W h
  have hw : IntKind.u64.wrap (U : Int) = (U : Int) := by simp [IntKind.wrap, IntKind.bits, IntKind.signed]; omega
  have ht0 := Lib.hid ht
  replace h := Lib.hid h
  replace hU := Lib.hid hU
  clear ht hl
  go_enter Tryz.func172, Tryz.ntmps172
  go_wp2_with (fail)
  refine (h.out _ ht0.out).mono ?_
  rintro e w1 ⟨rfl, n, rfl⟩
  go_wp2_with (fail)
  go_ret
  exact ⟨rfl, n, rfl⟩
set_option maxHeartbeats 8000000 in
set_option maxRecDepth 100000 in
theorem shift_may (xs : List Int) (A : Option Addr) (cap : Nat) (n : Int) (w : World) (hC : Kd.C (Kd.int .i64) w A xs.length xs) (hc : xs.length ≤ cap) (hl : xs.length ≤ 8192) :
    Calls Tryz.prog 143 #[.slice A xs.length cap, .int .i64 n] w fun e w' => e = .returned (.bool (mayS n xs)) ∧ ∃ k, w' = w.drewN k := by
  have hcf := fun W (h : Kd.C (Kd.int .i64) W A xs.length xs) => contains_func 173 oddB (.inr (.inl ⟨rfl, rfl⟩)) xs A cap W h hc (by omega)
  rw [any_odd] at hcf
  obtain ⟨b, hb⟩ : ∃ b, xs.all smpOk = b := ⟨_, rfl⟩
  obtain ⟨R, hR⟩ : ∃ R, mayS n xs = R := ⟨_, rfl⟩
  rw [hb] at hcf
  rw [hR]
  rw [mayS, hb] at hR
  replace hb := Lib.hid hb
  replace hcf := Lib.hid hcf
  have hC0 := Lib.hid hC
  clear hC
  by_cases c1 : 0 ≤ n
  · have c1d : decide (0 ≤ n) = true := decide_eq_true c1
    rw [c1d, Bool.true_and] at hR
    by_cases c2 : n ≤ 15
    · have c2d : decide (n ≤ 15) = true := decide_eq_true c2
      rw [c2d, Bool.true_and] at hR
      replace hR := Lib.hid hR
      go_enter Tryz.func143, Tryz.ntmps143
      go_wp2_with (fail)
      refine (hcf.out _ hC0.out).mono ?_
      rintro e w3 ⟨rfl, m3, rfl⟩
      go_wp2_with (fail)
      go_ret
      exact ⟨by rw [← hR.out]; cases b <;> rfl, _, rfl⟩
    · have c2d : decide (n ≤ 15) = false := decide_eq_false c2
      rw [c2d, Bool.false_and] at hR
      replace hR := Lib.hid hR
      go_enter Tryz.func143, Tryz.ntmps143
      go_wp2_with (fail)
      go_ret
      exact ⟨by rw [← hR.out]; rfl, 0, rfl⟩
  · have c1d : decide (0 ≤ n) = false := decide_eq_false c1
    rw [c1d, Bool.false_and] at hR
    replace hR := Lib.hid hR
    go_enter Tryz.func143, Tryz.ntmps143
    go_wp2_with (fail)
    go_ret
    exact ⟨by rw [← hR.out]; rfl, 0, rfl⟩
set_option maxHeartbeats 8000000 in
set_option maxRecDepth 100000 in
theorem shift_wasted (xs : List Int) (A : Option Addr) (cap : Nat) (w : World) (hC : Kd.C (Kd.int .i64) w A xs.length xs) (hc : xs.length ≤ cap) (hl : xs.length ≤ 8192) (hx : xs.all smpOk = true) (hn : xs.any nonB = true) (ht : Tab6 w) :
    Calls Tryz.prog 142 #[.slice A xs.length cap] w fun e w' => e = .returned (.tuple #[.int .i64 (wst 15 xs : Nat), .int .i64 0]) ∧ ∃ k, w' = w.drewN k := by
  have hm := fun W (h : Kd.C (Kd.int .i64) W A xs.length xs) => shift_may xs A cap 0 W h hc hl
  rw [mayS_iff.2 ⟨Int.le_refl 0, by decide, hx⟩] at hm
  have hpos := orF_pos hn hx
  have hlt := orF_lt xs 0 (by decide)
  obtain ⟨k, m, hU⟩ := odd_part _ hpos
  have hw15 := wst_min hU 15 (by decide)
  have htz := fun W (h : Tab6 W) => tz_uint _ k m hU hlt W h
  have hC0 := Lib.hid hC
  have ht0 := Lib.hid ht
  replace hm := Lib.hid hm
  replace hU := Lib.hid hU
  replace htz := Lib.hid htz
  replace hx := Lib.hid hx
  replace hn := Lib.hid hn
  rw [hw15]
  replace hw15 := Lib.hid hw15
  clear hC ht
  go_enter Tryz.func142, Tryz.ntmps142
  go_wp2_with (fail)
  refine (hm.out _ hC0.out).mono ?_
  rintro e w1 ⟨rfl, m1, rfl⟩
  clear hm
  go_wp2_with (fail)
  go_loopg [4, 12] xs.length (fun kq v4 v12 W => ∃ (i j : Nat), v4 = .int .i64 (wrap64 (orF 0 (xs.take i) : Nat)) ∧ v12 = .int .i64 (i : Int) ∧ i + kq = xs.length ∧ W = w.drewN j)
  case atStart => exact ⟨0, m1, congrArg (Value.int .i64) (show (0 : Int) = wrap64 ((orF 0 [] : Nat) : Int) from (IntWalk.wrap64_in 0 (by decide)).symm), rfl, by omega, rfl⟩
  case round =>
    obtain ⟨i, j, rfl, rfl, hi, rfl⟩ := hrel
    have hCW := Kd.C_drewN hC0.out j
    by_cases c1 : i < xs.length
    · have c1d : decide ((i : Int) < (xs.length : Int)) = true := decide_eq_true (by omega)
      obtain ⟨ad, ead, hx⟩ := Kd.at_int hCW (i : Int) (by omega) (by omega)
      cases ead
      rw [Int.toNat_natCast] at hx
      have p3 := eq_true (show (0 : Int) ≤ (i : Int) by omega)
      have q3 := eq_true (show (i : Int) < (xs.length : Int) by omega)
      have hstep : bits .or .i64 (wrap64 (orF 0 (xs.take i) : Nat)) (rd xs (i : Int)) = wrap64 (orF 0 (xs.take (i + 1)) : Nat) := by
        rw [or_step _ (orF_lt _ _ (by decide)), List.take_succ_eq_append_getElem c1, orF_snoc, rd_get c1]
      generalize rd xs (i : Int) = x at hx hstep
      obtain ⟨a, ha⟩ : ∃ a, wrap64 (orF 0 (xs.take i) : Nat) = a := ⟨_, rfl⟩
      obtain ⟨a2, ha2⟩ : ∃ a, wrap64 (orF 0 (xs.take (i + 1)) : Nat) = a := ⟨_, rfl⟩
      rw [ha, ha2] at hstep
      rw [ha]
      replace ha := Lib.hid ha
      replace ha2 := Lib.hid ha2
      clear hCW
      go_wp2_with (fail)
      obtain ⟨j2, rfl⟩ : ∃ j, gk = j + 1 := ⟨gk - 1, by omega⟩
      go_roundg j2
      case measure => omega
      case rel => exact ⟨i + 1, j, by rw [ha2.out], by simp, by omega, rfl⟩
    · have c1d : decide ((i : Int) < (xs.length : Int)) = false := decide_eq_false (by omega)
      rw [List.take_of_length_le (by omega)]
      obtain ⟨U, hU2⟩ : ∃ U, orF 0 xs = U := ⟨_, rfl⟩
      rw [hU2] at htz hpos hlt ⊢
      have z1 : (wrap64 (U : Int) == 0) = false := beq_eq_false_iff_ne.2 (by rw [wrap64]; omega)
      have z2 : (wrap64 (U : Int) = 0) = False := eq_false (by rw [wrap64]; omega)
      have z3 : IntKind.u64.wrap (wrap64 (U : Int)) = (U : Int) := by
        rw [wrap64]
        simp [IntKind.wrap, IntKind.bits, IntKind.signed]
        omega
      obtain ⟨a, ha⟩ : ∃ a, wrap64 (U : Int) = a := ⟨_, rfl⟩
      rw [ha] at z1 z2 z3 ⊢
      replace ha := Lib.hid ha
      replace hU2 := Lib.hid hU2
      clear hCW hpos hlt
      go_wp2_with (fail)
      refine (htz.out _ (ht0.out.drewN j)).mono ?_
      rintro e w3 ⟨rfl, m3, rfl⟩
      go_wp2_with (fail)
      go_ret2
      exact ⟨by simp; omega, _, rfl⟩
/-- What a function answers that gives a row. -/
def rowR (n : Int) (w w' : World) (e : Ending) : Option (List Int) → Prop
  | some ys => ∃ v, e = .returned (.tuple #[v, .int .i64 0]) ∧ Kd.R (Kd.int .i64) 3 w' w.heap.size (fun _ => True) v ys ∧ Below w.heap.size w w'
  | none => e = .returned (.tuple #[.slice none 0 0, .int .i64 n]) ∧ Below w.heap.size w w'
set_option maxHeartbeats 8000000 in
set_option maxRecDepth 100000 in
theorem shift_up (xs : List Int) (A : Option Addr) (cap : Nat) (n : Int) (w : World) (hC : Kd.C (Kd.int .i64) w A xs.length xs) (hc : xs.length ≤ cap) (hl : xs.length ≤ 8192) :
    Calls Tryz.prog 154 #[.slice A xs.length cap, .int .i64 n] w fun e w' => rowR 1800 w w' e (upS n xs) := by
  obtain ⟨T0, hT0⟩ : ∃ T0, upS n xs = T0 := ⟨_, rfl⟩
  rw [hT0]
  have hC0 := Lib.hid hC
  have hm := fun W (h : Kd.C (Kd.int .i64) W A xs.length xs) => shift_may xs A cap n W h hc hl
  cases hmt : mayS n xs with
  | false =>
    rw [hmt] at hm
    rw [upS, hmt, Bool.false_and, if_neg (by decide)] at hT0
    replace hm := Lib.hid hm
    clear hmt hC
    replace hT0 := Lib.hid hT0
    go_enter Tryz.func154, Tryz.ntmps154
    go_wp2_with (fail)
    refine (hm.out _ hC0.out).mono ?_
    rintro e w1 ⟨rfl, m1, rfl⟩
    go_wp2_with (fail)
    go_ret2
    rw [← hT0.out]
    exact ⟨rfl, L.below_drewN (Below.refl _ _) _⟩
  | true =>
    rw [hmt] at hm
    obtain ⟨hn0, hn15, hax⟩ := mayS_iff.1 hmt
    obtain ⟨N, rfl⟩ : ∃ N : Nat, n = N := ⟨n.toNat, by omega⟩
    rw [upS, hmt, Bool.true_and, Int.toNat_natCast] at hT0
    obtain ⟨Y, hY⟩ : ∃ Y, ups N xs = Y := ⟨_, rfl⟩
    rw [hY] at hT0
    have hYl : Y.length = xs.length := by rw [← hY, ups, List.length_map]
    obtain ⟨L0, hL0⟩ : ∃ l, xs.length = l := ⟨_, rfl⟩
    have hcl := fun W (h : Kd.C (Kd.int .i64) W A xs.length xs) => clone_any xs A cap W h (by omega)
    replace hm := Lib.hid hm
    clear hC
    replace hT0 := Lib.hid hT0
    replace hmt := Lib.hid hmt
    have hN0 := eq_true hn0
    rw [hL0] at hcl hm hC0 hc hl hYl ⊢
    replace hcl := Lib.hid hcl
    go_enter Tryz.func154, Tryz.ntmps154
    go_wp2_with (fail)
    refine (hm.out _ hC0.out).mono ?_
    rintro e w1 ⟨rfl, m1, rfl⟩
    clear hm
    go_wp2_with (fail)
    refine (hcl.out _ (Kd.C_drewN hC0.out m1)).mono ?_
    rintro e w3 ⟨v9, rfl, hR9, hb9⟩
    clear hcl
    obtain ⟨A9, c9, e9⟩ := Kd.R_slice hR9
    subst e9
    have hc9 := (Kd.R_reads' hR9).2.1
    have hR90 : Kd.R (Kd.int .i64) 3 w3 w.heap.size (fun _ => True) (.slice A9 xs.length c9) (Y.take 0 ++ xs.drop 0) := hR9
    have hb90 : Below w.heap.size w w3 := below_trans (L.below_drewN (Below.refl w.heap.size w) m1) hb9
    clear hR9 hb9
    rw [hL0] at hR90 hc9 ⊢
    go_wp2_with (fail)
    go_loopg [16] L0 (fun kq v16 W => ∃ (j : Nat), v16 = .int .i64 (j : Int) ∧ j + kq = L0 ∧ Kd.R (Kd.int .i64) 3 W w.heap.size (fun _ => True) (.slice A9 L0 c9) (Y.take j ++ xs.drop j) ∧ Below w.heap.size w W)
    case atStart => exact ⟨0, by simp, by omega, hR90, hb90⟩
    case round =>
      clear hR90 hb90
      obtain ⟨j, rfl, hj, hR, hb⟩ := hrel
      have hL : (Y.take j ++ xs.drop j).length = L0 := by rw [List.length_append, List.length_take, List.length_drop]; omega
      by_cases d1 : j < L0
      · have d1d : decide ((j : Int) < (L0 : Int)) = true := decide_eq_true (by omega)
        obtain ⟨g9, c9', e9, hg9, -, -⟩ := Kd.R_form hR (by omega)
        rw [hL] at e9
        cases e9
        obtain ⟨ad9, ead, hx9⟩ := Kd.at_int (Kd.R_reads' hR).2.2 (j : Int) (by omega) (by omega)
        cases ead
        obtain ⟨_, -, -, -, hfr⟩ := Kd.R_elem hR 0 (j : Int) (by omega) (by omega)
        have hfr9 := hfr 0
        rw [Int.toNat_natCast] at hx9 hfr9
        have p5 := eq_true (show (0 : Int) ≤ (j : Int) by omega)
        have q5 := eq_true (show (j : Int) < (L0 : Int) by omega)
        have e9 : rd (Y.take j ++ xs.drop j) (j : Int) = xs.getD j 0 := rd_next (by omega)
        rw [e9] at hx9
        obtain ⟨a, ha⟩ : ∃ a, xs.getD j 0 = a := ⟨_, rfl⟩
        rw [ha] at hx9
        rw [add_at, Nat.zero_add] at hx9
        rw [show (Kd.int .i64).sz = 1 from rfl, Nat.mul_one, Nat.add_zero] at hfr9
        have hsa := all_getD hax (j := j) (by omega)
        rw [ha] at hsa
        have b1 := ins_iff.1 hsa
        have hup := up_range (n := N) (by omega) (x := a) (by omega) (by omega)
        have hv1 : wrap64 (a * 2 ^ N) = a * 2 ^ N := IntWalk.wrap64_in _ (by omega)
        have hYj : Y.getD j 0 = a * 2 ^ N := by
          rw [← hY, ups, ← ha, List.getD_eq_getElem?_getD, List.getD_eq_getElem?_getD, List.getElem?_map, List.getElem?_eq_getElem (show j < xs.length by omega)]
          rfl
        have hset := set_next (by omega : Y.length = xs.length) (by omega) hYj
        replace ha := Lib.hid ha
        replace hset := Lib.hid hset
        replace hYj := Lib.hid hYj
        have hv10 := Lib.hid hv1
        clear e9 hfr
        go_wp2_with (fail)
        have hR5 := Kd.R_putn hR (j : Int) (a * 2 ^ N)
        rw [Int.toNat_natCast, hset.out] at hR5
        have hb5 := hb.setCell (p := ⟨g9, j, none⟩) hg9 (.int .i64 (a * 2 ^ N))
        obtain ⟨gi, rfl⟩ : ∃ i, gk = i + 1 := ⟨gk - 1, by omega⟩
        go_roundg gi
        case measure => omega
        case rel => exact ⟨j + 1, by simp, by omega, hR5, hb5⟩
      · have d1d : decide ((j : Int) < (L0 : Int)) = false := decide_eq_false (by omega)
        rw [List.take_of_length_le (by omega), List.drop_of_length_le (by omega), List.append_nil] at hR
        obtain ⟨-, hc9, hC9⟩ := Kd.R_reads' hR
        have hm2 := shift_may Y A9 c9 (N : Int) wr hC9 (by omega) (by omega)
        rw [hYl] at hm2
        have hT1 := hT0.out
        clear hT0
        cases hmo : mayS (N : Int) Y with
        | false =>
          rw [hmo] at hm2
          rw [hmo, if_neg (by decide)] at hT1
          replace hT1 := Lib.hid hT1
          clear hmo
          replace hm2 := Lib.hid hm2
          replace hYl := Lib.hid hYl
          go_wp2_with (fail)
          refine hm2.out.mono ?_
          rintro e w5 ⟨rfl, m5, rfl⟩
          go_wp2_with (fail)
          go_ret2
          rw [← hT1.out]
          exact ⟨rfl, L.below_drewN hb _⟩
        | true =>
          rw [hmo] at hm2
          rw [hmo, if_pos (by decide)] at hT1
          replace hT1 := Lib.hid hT1
          clear hmo
          replace hm2 := Lib.hid hm2
          replace hYl := Lib.hid hYl
          go_wp2_with (fail)
          refine hm2.out.mono ?_
          rintro e w5 ⟨rfl, m5, rfl⟩
          go_wp2_with (fail)
          go_ret2
          rw [← hT1.out]
          exact ⟨_, rfl, Kd.R_drewN hR _, L.below_drewN hb _⟩
set_option maxHeartbeats 8000000 in
set_option maxRecDepth 100000 in
theorem shift_down (xs : List Int) (A : Option Addr) (cap : Nat) (N : Nat) (w : World) (hC : Kd.C (Kd.int .i64) w A xs.length xs) (hc : xs.length ≤ cap) (hl : xs.length ≤ 8192) (hmt : mayS (N : Int) xs = true) (hd : ∀ x ∈ xs, x % 2 ^ N = 0) :
    Calls Tryz.prog 103 #[.slice A xs.length cap, .int .i64 (N : Int)] w fun e w' => rowR 1800 w w' e (some (dwn N xs)) := by
  have hC0 := Lib.hid hC
  have hm := fun W (h : Kd.C (Kd.int .i64) W A xs.length xs) => shift_may xs A cap (N : Int) W h hc hl
  rw [hmt] at hm
  obtain ⟨hn0, hn15, hax⟩ := mayS_iff.1 hmt
  obtain ⟨Y, hY⟩ : ∃ Y, dwn N xs = Y := ⟨_, rfl⟩
  rw [hY]
  have hYl : Y.length = xs.length := by rw [← hY, dwn, List.length_map]
  obtain ⟨L0, hL0⟩ : ∃ l, xs.length = l := ⟨_, rfl⟩
  have hcl := fun W (h : Kd.C (Kd.int .i64) W A xs.length xs) => clone_any xs A cap W h (by omega)
  replace hm := Lib.hid hm
  clear hC hmt
  replace hd := Lib.hid hd
  have hN0 := eq_true hn0
  rw [hL0] at hcl hm hC0 hc hl hYl ⊢
  replace hcl := Lib.hid hcl
  go_enter Tryz.func103, Tryz.ntmps103
  go_wp2_with (fail)
  refine (hm.out _ hC0.out).mono ?_
  rintro e w1 ⟨rfl, m1, rfl⟩
  clear hm
  go_wp2_with (fail)
  refine (hcl.out _ (Kd.C_drewN hC0.out m1)).mono ?_
  rintro e w3 ⟨v9, rfl, hR9, hb9⟩
  clear hcl
  obtain ⟨A9, c9, e9⟩ := Kd.R_slice hR9
  subst e9
  have hc9 := (Kd.R_reads' hR9).2.1
  have hR90 : Kd.R (Kd.int .i64) 3 w3 w.heap.size (fun _ => True) (.slice A9 xs.length c9) (Y.take 0 ++ xs.drop 0) := hR9
  have hb90 : Below w.heap.size w w3 := below_trans (L.below_drewN (Below.refl w.heap.size w) m1) hb9
  clear hR9 hb9
  rw [hL0] at hR90 hc9 ⊢
  go_wp2_with (fail)
  go_loopg [17] L0 (fun kq v17 W => ∃ (j : Nat), v17 = .int .i64 (j : Int) ∧ j + kq = L0 ∧ Kd.R (Kd.int .i64) 3 W w.heap.size (fun _ => True) (.slice A9 L0 c9) (Y.take j ++ xs.drop j) ∧ Below w.heap.size w W)
  case atStart => exact ⟨0, by simp, by omega, hR90, hb90⟩
  case round =>
    clear hR90 hb90
    obtain ⟨j, rfl, hj, hR, hb⟩ := hrel
    have hL : (Y.take j ++ xs.drop j).length = L0 := by rw [List.length_append, List.length_take, List.length_drop]; omega
    by_cases d1 : j < L0
    · have d1d : decide ((j : Int) < (L0 : Int)) = true := decide_eq_true (by omega)
      obtain ⟨g9, c9', e9, hg9, -, -⟩ := Kd.R_form hR (by omega)
      rw [hL] at e9
      cases e9
      obtain ⟨ad9, ead, hx9⟩ := Kd.at_int (Kd.R_reads' hR).2.2 (j : Int) (by omega) (by omega)
      cases ead
      obtain ⟨_, -, -, -, hfr⟩ := Kd.R_elem hR 0 (j : Int) (by omega) (by omega)
      have hfr9 := hfr 0
      rw [Int.toNat_natCast] at hx9 hfr9
      have p5 := eq_true (show (0 : Int) ≤ (j : Int) by omega)
      have q5 := eq_true (show (j : Int) < (L0 : Int) by omega)
      have e9 : rd (Y.take j ++ xs.drop j) (j : Int) = xs.getD j 0 := rd_next (by omega)
      rw [e9] at hx9
      obtain ⟨a, ha⟩ : ∃ a, xs.getD j 0 = a := ⟨_, rfl⟩
      rw [ha] at hx9
      rw [add_at, Nat.zero_add] at hx9
      rw [show (Kd.int .i64).sz = 1 from rfl, Nat.mul_one, Nat.add_zero] at hfr9
      have hsa := all_getD hax (j := j) (by omega)
      rw [ha] at hsa
      have b1 := ins_iff.1 hsa
      have hda := hd.out a (by rw [← ha, List.getD_eq_getElem?_getD, List.getElem?_eq_getElem (show j < xs.length by omega)]; exact List.getElem_mem _)
      have hdv : a / 2 ^ N * 2 ^ N = a := Int.ediv_mul_cancel (Int.dvd_of_emod_eq_zero hda)
      obtain ⟨q, hq⟩ : ∃ q, a / 2 ^ N = q := ⟨_, rfl⟩
      have hv1 : wrap64 (q * 2 ^ N) = a := by rw [← hq, hdv]; exact IntWalk.wrap64_in _ (by omega)
      have hv2 : (a != a) = false := bne_self_eq_false' _
      have hYj : Y.getD j 0 = q := by
        rw [← hY, dwn, ← hq, ← ha, List.getD_eq_getElem?_getD, List.getD_eq_getElem?_getD, List.getElem?_map, List.getElem?_eq_getElem (show j < xs.length by omega)]
        rfl
      have hset := set_next (by omega : Y.length = xs.length) (by omega) hYj
      replace ha := Lib.hid ha
      replace hset := Lib.hid hset
      replace hYj := Lib.hid hYj
      clear e9 hfr hda hdv
      go_wp2_with (fail)
      have hR5 := Kd.R_putn hR (j : Int) q
      rw [Int.toNat_natCast, hset.out] at hR5
      have hb5 := hb.setCell (p := ⟨g9, j, none⟩) hg9 (.int .i64 q)
      obtain ⟨gi, rfl⟩ : ∃ i, gk = i + 1 := ⟨gk - 1, by omega⟩
      go_roundg gi
      case measure => omega
      case rel => exact ⟨j + 1, by simp, by omega, hR5, hb5⟩
    · have d1d : decide ((j : Int) < (L0 : Int)) = false := decide_eq_false (by omega)
      rw [List.take_of_length_le (by omega), List.drop_of_length_le (by omega), List.append_nil] at hR
      replace hYl := Lib.hid hYl
      go_wp2_with (fail)
      go_ret2
      exact ⟨_, rfl, hR, hb⟩
end Go.Proofs.YtiokfaiioealdaaGreatDoor
