/- The document's PutResiduals and GetResiduals. -/
import Derived.Test.YtiokfaiioealdaaGreatDoorMRA
import Derived.Test.YtiokfaiioealdaaGreatDoorMRS
import Derived.Test.YtiokfaiioealdaaGreatDoorMRB
import Derived.Test.YtiokfaiioealdaaGreatDoorMRC
/- The document's leaves (fold, bits, coder), in plain numbers; its small functions. -/
namespace Go.Proofs.YtiokfaiioealdaaGreatDoor.PG
open Go.RowKit Go.Proofs.YtiokfaiioealdaaGreatDoor.L Go.Proofs.YtiokfaiioealdaaGreatDoorW.PrintWords Go.Proofs.YtiokfaiioealdaaGreatDoor.L
set_option linter.unusedVariables false
set_option linter.unusedSimpArgs false
theorem shr_nat (v n : Nat) (h : n ≤ 62) : shr .i64 (v : Int) (n : Int) = ((v / 2 ^ n : Nat) : Int) := by
  unfold shr
  rw [Int.toNat_natCast, Nat.min_eq_left (by show n ≤ 64; omega)]
  simp
theorem rb_l2 (u : Nat) (hu : u ≤ 33554432) : ∀ (j k : Nat) (xs : List Int), j ≤ 60 → j < k → xs.length + j < 1000000 → descantref1_Bits.l2 k (u : Int) xs ((j : Int) - 1) = some (xs ++ lowBits (u + 1) j, 0) := by
  intro j
  induction j with
  | zero =>
    intro k xs h0 hk hx
    obtain ⟨k, rfl⟩ : ∃ m, k = m + 1 := ⟨k - 1, by omega⟩
    simp only [descantref1_Bits.l2]
    rw [if_neg (by omega)]
    simp [lowBits]
  | succ j ih =>
    intro k xs h0 hk hx
    obtain ⟨k, rfl⟩ : ∃ m, k = m + 1 := ⟨k - 1, by omega⟩
    simp only [descantref1_Bits.l2]
    have e : shr .i64 (wrap64 ((u : Int) + 1)) (((j + 1 : Nat) : Int) - 1) = (((u + 1) / 2 ^ j : Nat) : Int) := by
      rw [w64 (by omega), show (u : Int) + 1 = ((u + 1 : Nat) : Int) by omega, show ((j + 1 : Nat) : Int) - 1 = (j : Int) by omega, shr_nat _ _ (by omega)]
    rw [if_pos (by omega), if_pos (by omega), if_pos (by omega), e, and_one, w64 (by omega), show ((j + 1 : Nat) : Int) - 1 - 1 = (j : Int) - 1 by omega, ih k _ (by omega) (by omega) (by simp; omega)]
    simp [lowBits]
theorem rb_l1 (u : Nat) (hu : u ≤ 33554432) : ∀ (d i k : Nat), i + d = Nat.log2 (u + 1) → d + 40 < k → descantref1_Bits.l1 k (u : Int) (Nat.log2 (u + 1) : Int) (List.replicate i 1) (i : Int) = some (gBits u, 0) := by
  have hl : Nat.log2 (u + 1) ≤ 25 := log2_le (by omega)
  intro d
  induction d with
  | zero =>
    intro i k hi hk
    obtain ⟨k, rfl⟩ : ∃ m, k = m + 1 := ⟨k - 1, by omega⟩
    simp only [descantref1_Bits.l1]
    obtain rfl : i = Nat.log2 (u + 1) := by omega
    rw [if_neg (by omega), if_pos (by simp; omega), w64 (by omega), rb_l2 u hu _ _ _ (by omega) (by omega) (by simp; omega)]
    simp [gBits]
  | succ d ih =>
    intro i k hi hk
    obtain ⟨k, rfl⟩ : ∃ m, k = m + 1 := ⟨k - 1, by omega⟩
    simp only [descantref1_Bits.l1]
    rw [if_pos (by omega), if_pos (by simp; omega), w64 (by omega), ← List.replicate_succ', show (i : Int) + 1 = ((i + 1 : Nat) : Int) by omega]
    exact ih (i + 1) k (by omega) (by omega)
theorem rb_l0 (u : Nat) (hu : u ≤ 33554432) : ∀ (d j k : Nat), j + d = Nat.log2 (u + 1) → d + 80 < k → descantref1_Bits.l0 k (u : Int) (j : Int) = some (gBits u, 0) := by
  have hl : Nat.log2 (u + 1) ≤ 25 := log2_le (by omega)
  obtain ⟨b1, b2⟩ := log2_bd (u + 1) (by omega)
  intro d
  induction d with
  | zero =>
    intro j k hj hk
    obtain ⟨k, rfl⟩ : ∃ m, k = m + 1 := ⟨k - 1, by omega⟩
    simp only [descantref1_Bits.l0]
    obtain rfl : j = Nat.log2 (u + 1) := by omega
    have e0 : (u + 1) / 2 ^ (Nat.log2 (u + 1) + 1) = 0 := Nat.div_eq_of_lt b2
    have e : shr .i64 (wrap64 ((u : Int) + 1)) (wrap64 ((Nat.log2 (u + 1) : Int) + 1)) = 0 := by
      rw [w64 (by omega), w64 (by omega), show (u : Int) + 1 = ((u + 1 : Nat) : Int) by omega, show (Nat.log2 (u + 1) : Int) + 1 = ((Nat.log2 (u + 1) + 1 : Nat) : Int) by omega, shr_nat _ _ (by omega), e0]
      rfl
    rw [e, if_pos (by rw [w64 (by omega)]; omega), if_neg (by omega)]
    exact rb_l1 u hu (Nat.log2 (u + 1)) 0 k (by omega) (by omega)
  | succ d ih =>
    intro j k hj hk
    obtain ⟨k, rfl⟩ : ∃ m, k = m + 1 := ⟨k - 1, by omega⟩
    simp only [descantref1_Bits.l0]
    have hp : 2 ^ (j + 1) ≤ u + 1 := Nat.le_trans (Nat.pow_le_pow_right (by decide) (by omega)) b1
    have hpos : 0 < (u + 1) / 2 ^ (j + 1) := Nat.div_pos hp (Nat.two_pow_pos _)
    have e : shr .i64 (wrap64 ((u : Int) + 1)) (wrap64 ((j : Int) + 1)) = (((u + 1) / 2 ^ (j + 1) : Nat) : Int) := by
      rw [w64 (by omega), w64 (by omega), show (u : Int) + 1 = ((u + 1 : Nat) : Int) by omega, show (j : Int) + 1 = ((j + 1 : Nat) : Int) by omega, shr_nat _ _ (by omega)]
    rw [e, if_pos (by rw [w64 (by omega)]; omega), if_pos (by omega), w64 (by omega), show (j : Int) + 1 = ((j + 1 : Nat) : Int) by omega]
    exact ih (j + 1) k (by omega) (by omega)
theorem rbits_f (u : Nat) (h : u ≤ 33554432) (k : Nat) (hk : 120 < k) : descantref1_Bits.f k (u : Int) = some (gBits u, 0) := by
  have hl : Nat.log2 (u + 1) ≤ 25 := log2_le (by omega)
  unfold descantref1_Bits.f descantref1_upTo.f
  rw [if_pos (by omega), Option.bind_some, if_pos (by simp; omega)]
  exact rb_l0 u h (Nat.log2 (u + 1)) 0 k (by omega) (by omega)
theorem rones_l0 (l : List Int) (hl : l.length ≤ 9223372036854775806) : ∀ (d i k : Nat), i + d = l.length → d < k → descantref1_Ones.l0 k l (i : Int) = some (((i + gOnes (l.drop i) : Nat) : Int)) := by
  intro d
  induction d with
  | zero =>
    intro i k hi hk
    obtain ⟨k, rfl⟩ : ∃ m, k = m + 1 := ⟨k - 1, by omega⟩
    simp only [descantref1_Ones.l0]
    rw [if_neg (by omega), List.drop_eq_nil_of_le (by omega)]
    simp [gOnes]
  | succ d ih =>
    intro i k hi hk
    obtain ⟨k, rfl⟩ : ∃ m, k = m + 1 := ⟨k - 1, by omega⟩
    simp only [descantref1_Ones.l0]
    have hd := gOnes_drop l i (by omega)
    rw [if_pos (by omega), if_pos (by omega)]
    by_cases h1 : rd l (i : Int) = 1
    · rw [if_pos h1] at hd ⊢
      rw [w64 (by omega), show (i : Int) + 1 = ((i + 1 : Nat) : Int) by omega, ih (i + 1) k (by omega) (by omega), hd, show i + (gOnes (l.drop (i + 1)) + 1) = i + 1 + gOnes (l.drop (i + 1)) by omega]
    · rw [if_neg h1] at hd ⊢
      rw [hd, Nat.add_zero]
theorem rones_f (l : List Int) (hl : l.length ≤ 9223372036854775806) (k : Nat) (hk : l.length < k) : descantref1_Ones.f k l = some (gOnes l : Int) := by
  have := rones_l0 l hl l.length 0 k (by omega) hk
  simpa [descantref1_Ones.f] using this
theorem rfold_f (x : Int) : descantref1_Fold.f x = if numOk x = true then some (((fld x : Nat) : Int), 0) else some (0, 1000) := by
  unfold descantref1_Fold.f descantref1_upTo.f numOk fld
  by_cases h1 : -16777216 ≤ x
  · rw [if_pos h1]
    by_cases h2 : x ≤ 16777216
    · rw [decide_eq_true h2, decide_eq_true ⟨h1, h2⟩, Option.bind_some, if_pos rfl, if_pos rfl]
      by_cases h3 : x < 0
      · rw [if_pos h3, if_pos h3, IntWalk.wrap64_in (-2 * x) (by omega), IntWalk.wrap64_in _ (by omega)]
        refine congrArg (fun t => some (t, (0 : Int))) ?_; omega
      · rw [if_neg h3, if_neg h3, IntWalk.wrap64_in _ (by omega)]
        refine congrArg (fun t => some (t, (0 : Int))) ?_; omega
    · rw [decide_eq_false h2, decide_eq_false (by omega), Option.bind_some, if_neg (by decide), if_neg (by decide)]
  · rw [if_neg h1, decide_eq_false (by omega), Option.bind_some, if_neg (by decide), if_neg (by decide)]
theorem low1_f (x : Int) : descantref1_Low.f 5 x 1 = some ⟨[by8 x].toArray⟩ := by
  simp [descantref1_Low.f, descantref1_Low.l0, wrap64]
  simp [strOfNums, by8, shr]
theorem rmay_f {l h : Int} {o : List UInt8} (he : Ends l h) (ho : o.length ≤ 65536) : descantref1_CoderMay.f l h ⟨o.toArray⟩ = some true := by
  obtain ⟨a, b, c⟩ := he
  unfold descantref1_CoderMay.f descantref1_between.f descantref1_word.f descantref1_upTo.f
  rw [if_pos a, decide_eq_true (show l ≤ 4294967295 by omega)]
  simp only [Option.bind_some, if_true]
  rw [if_pos (show h ≥ 0 by omega), decide_eq_true b]
  simp only [Option.bind_some, if_true]
  rw [decide_eq_true (show h / 16777216 > l / 16777216 from c)]
  simp only [Option.bind_some, if_true]
  rw [size_mk, decide_eq_true (by omega)]
theorem rend_f {E : Enc} (he : E.ok) (ho : E.out.length ≤ 65536) : descantref1_EndCoder.f 5 E.l E.h ⟨E.out.toArray⟩ = some (⟨(encE E).toArray⟩, 0) := by
  unfold descantref1_EndCoder.f
  rw [rmay_f he ho]
  simp only [Option.bind_some, if_true, low1_f]
  have hj : ∀ (a b : List UInt8), (⟨a.toArray⟩ : ByteArray) ++ ⟨b.toArray⟩ = ⟨(a ++ b).toArray⟩ := fun a b => ByteArray.ext (by simp)
  simp only [hj, size_mk, List.length_append, List.length_singleton]
  rw [if_pos (by omega), if_pos (by omega), if_pos (by omega), if_pos (by omega)]
  simp [encE]
end Go.Proofs.YtiokfaiioealdaaGreatDoor.PG
namespace Go.Proofs.YtiokfaiioealdaaGreatDoor
open Go.RowKit Go.Proofs.YtiokfaiioealdaaGreatDoorW.PrintWords Go.Proofs.YtiokfaiioealdaaGreatDoorW.PrintLast
set_option linter.unusedVariables false
set_option linter.unusedSimpArgs false
theorem upTo_any (x a b : Int) (w : World) : Calls Tryz.prog 78 #[.int .i64 x, .int .i64 a, .int .i64 b] w fun e w' => e = .returned (.bool (decide (a ≤ x) && decide (x ≤ b))) ∧ ∃ m, w' = w.drewN m := by
  refine (PG.descantref1_upTo.calls x a b (decide (a ≤ x) && decide (x ≤ b)) w ?_).mono fun e w' h => ⟨h.1, h.2.out⟩
  unfold PG.descantref1_upTo.f
  by_cases h : x ≥ a
  · rw [if_pos h, decide_eq_true h, Bool.true_and]
  · rw [if_neg h, decide_eq_false h, Bool.false_and]
set_option maxHeartbeats 4000000 in
theorem rchance_any (p : Int) (w : World) (h : 1 ≤ p ∧ p ≤ 4095) : Calls Tryz.prog 85 #[.int .i64 p] w fun e w' => e = .returned (.bool true) ∧ ∃ m, w' = w.drewN m := by
  have hu := upTo_any p 1 4095 w
  rw [decide_eq_true h.1, decide_eq_true h.2] at hu
  go_enter Tryz.func85, Tryz.ntmps85
  go_wp2_with (fail)
  refine hu.mono ?_
  rintro e w1 ⟨rfl, m, rfl⟩
  go_wp2_with (fail)
  go_ret
  exact ⟨rfl, m, rfl⟩
set_option maxHeartbeats 4000000 in
theorem rbit_may (b : Int) (w : World) (h : b = 0 ∨ b = 1) : Calls Tryz.prog 79 #[.int .i64 b] w fun e w' => e = .returned (.bool true) ∧ ∃ m, w' = w.drewN m := by
  rcases h with rfl | rfl
  all_goals
    go_enter Tryz.func79, Tryz.ntmps79
    go_wp2_with (fail)
    go_ret
    exact ⟨rfl, 0, rfl⟩
set_option maxHeartbeats 4000000 in
theorem rmid_any (l h p : Int) (w : World) (h0 : 0 ≤ l) (hl : l < h) (h1 : h ≤ 4294967295) (p1 : 1 ≤ p) (p2 : p ≤ 4095) : Calls Tryz.prog 86 #[.int .i64 l, .int .i64 h, .int .i64 p] w fun e w' => e = .returned (.int .i64 (mid l h p)) ∧ ∃ m, w' = w.drewN m := by
  have hm := PG.mid_bits h0 hl h1 p1 p2
  rw [IntWalk.wrap64_in (h - l) (by omega), Int.tdiv_eq_ediv_of_nonneg (show 0 ≤ h - l by omega), Int.tmod_eq_emod_of_nonneg (show 0 ≤ h - l by omega), IntWalk.wrap64_in ((h - l) / 4096) (by omega)] at hm
  rw [← hm]
  go_enter Tryz.func86, Tryz.ntmps86
  go_wp2_with (fail)
  go_ret
  refine ⟨?_, 0, rfl⟩
  first | rfl | simp
theorem isZ_ltr {l : List Int} (h01 : ∀ b ∈ l, b = 0 ∨ b = 1) : isZ l = decide (gOnes l < l.length) := by
  unfold isZ
  induction l with
  | nil => simp [gOnes]
  | cons a r ih =>
    have hr := ih fun b hb => h01 b (List.mem_cons_of_mem _ hb)
    simp only [gOnes, List.length_cons]
    rcases h01 a (List.mem_cons_self ..) with rfl | rfl
    · simp
    · simpa using hr
end Go.Proofs.YtiokfaiioealdaaGreatDoor
/- descantref1.Context: what it gives. -/
namespace Go.Proofs.YtiokfaiioealdaaGreatDoor
open Go.RowKit Go.Proofs.YtiokfaiioealdaaGreatDoorW.PrintWords Go.Proofs.YtiokfaiioealdaaGreatDoorW.PrintLast Go.Proofs.YtiokfaiioealdaaGreatDoorW.PrintMore Go.Proofs.YtiokfaiioealdaaGreatDoor.L
set_option linter.unusedVariables false
set_option linter.unusedSimpArgs false
set_option maxHeartbeats 8000000 in
set_option maxRecDepth 100000 in
theorem rctx_any (before : Int) (A : Option Addr) (c : Nat) (l : List Int) (w : World) (hr : Kd.C (Kd.int .i64) w A l.length l) (hc : l.length ≤ c) (hb : 0 ≤ before ∧ before ≤ 63) (hl : l.length ≤ 63) (h01 : ∀ b ∈ l, b = 0 ∨ b = 1) :
    Calls Tryz.prog 42 #[.int .i64 before, .slice A l.length c] w fun e w' => e = .returned (.tuple #[v3 (cx0 l) (cx1 before l) (cx2 l), .int .i64 0]) ∧ Below w.heap.size w w' := by
  have hones := PG.rones_f l (by omega) (l.length + 1) (by omega)
  have hn := gOnes_le l
  have hup := upTo_any before 0 63 (w.alloc (.cells #[.int .i64 0, .int .i64 0, .int .i64 0] 61))
  rw [decide_eq_true hb.1, decide_eq_true hb.2] at hup
  have d3 : decide (63 < (l.length : Int)) = false := decide_eq_false (by omega)
  have hlast : (l.length = 0 ∧ l.getLast? = none) ∨ (0 < l.length ∧ ∃ X, l.getLast? = some X ∧ rd l ((l.length : Int) - 1) = X) := by
    rcases Nat.eq_zero_or_pos l.length with h | h
    · left
      have := List.length_eq_zero_iff.1 h
      subst this; exact ⟨rfl, rfl⟩
    · exact .inr ⟨h, _, last_rd l h, rfl⟩
  unfold cx0 cx1 cx2
  have hiz := isZ_ltr h01
  obtain ⟨n, hnn⟩ : ∃ n : Nat, gOnes l = n := ⟨_, rfl⟩
  rw [hnn] at hones hn hiz ⊢
  have HO := Lib.hid hones
  clear hones hnn
  have w0 : IntKind.i64.wrap (2 * min before 31) = 2 * min before 31 := IntWalk.i64_in _ (by omega)
  have w1 : IntKind.i64.wrap (min (n : Int) 31 + 32) = min (n : Int) 31 + 32 := IntWalk.i64_in _ (by omega)
  have w2 : IntKind.i64.wrap (2 * min before 31 + 1) = 2 * min before 31 + 1 := IntWalk.i64_in _ (by omega)
  have w3 : IntKind.i64.wrap (min (l.length : Int) 31 + 32) = min (l.length : Int) 31 + 32 := IntWalk.i64_in _ (by omega)
  have hB := L.below_alloc (Below.refl w.heap.size w) (.cells #[.int .i64 0, .int .i64 0, .int .i64 0] 61)
  have hZ := L.BC.new w [.int .i64 0, .int .i64 0, .int .i64 0] 61
  have hC := Kd.C_alloc hr (.cells #[.int .i64 0, .int .i64 0, .int .i64 0] 61)
  have hr0 := Lib.hid hr
  have h010 := Lib.hid h01
  clear hr h01
  unfold v3
  obtain ⟨c0, hc0⟩ : ∃ c0, min (n : Int) 31 + (if isZ l = true then 32 else 0) = c0 := ⟨_, rfl⟩
  obtain ⟨c1', hc1⟩ : ∃ c1, 2 * min before 31 + (if isZ l = true then 1 else 0) = c1 := ⟨_, rfl⟩
  obtain ⟨c2, hc2⟩ : ∃ c2, min (l.length : Int) 31 + (if l.getLast? = some 1 then 32 else 0) = c2 := ⟨_, rfl⟩
  rw [hc0, hc1, hc2]
  obtain ⟨Z, hZd⟩ : ∃ Z, isZ l = Z := ⟨_, rfl⟩
  rw [hZd] at hiz hc0 hc1
  replace hc0 := Lib.hid hc0
  replace hc1 := Lib.hid hc1
  replace hc2 := Lib.hid hc2
  replace hiz := Lib.hid hiz
  clear hZd
  go_enter Tryz.func42, Tryz.ntmps42
  go_wp2_with (fail)
  refine hup.mono ?_
  rintro e w4 ⟨rfl, m4, rfl⟩
  replace hB := L.below_drewN hB m4
  replace hZ := L.BC.drewN hZ m4
  clear hup hC
  generalize (w.alloc (.cells #[.int .i64 0, .int .i64 0, .int .i64 0] 61)).drewN m4 = w5 at hB hZ ⊢
  go_wp2_with (fail)
  go_loopg [6] l.length (fun kq v6 W => ∃ (i : Nat), v6 = .int .i64 (i : Int) ∧ i + kq = l.length ∧ L.BC W w.heap.size 61 [.int .i64 0, .int .i64 0, .int .i64 0] ∧ Below w.heap.size w W)
  case atStart => exact ⟨0, by simp, by omega, hZ, hB⟩
  case round =>
    clear hZ hB
    obtain ⟨i, rfl, hi, hZ, hB⟩ := hrel
    have hC := Kd.C_below hr0.out hB
    by_cases c1 : i < l.length
    · have c1d : decide ((i : Int) < (l.length : Int)) = true := decide_eq_true (by omega)
      obtain ⟨ad, ead, hx⟩ := Kd.at_int hC (i : Int) (by omega) (by omega)
      cases ead
      rw [Int.toNat_natCast] at hx
      have p3 := eq_true (show (0 : Int) ≤ (i : Int) by omega)
      have q3 := eq_true (show (i : Int) < (l.length : Int) by omega)
      have hb01 := h010.out _ (List.getElem_mem c1)
      rw [← rd_get c1] at hb01
      generalize rd l (i : Int) = b at *
      have hmay := fun w1 => rbit_may b w1 hb01
      clear hb01
      go_wp2_with (fail)
      refine (hmay _).mono ?_
      rintro e w6 ⟨rfl, m6, rfl⟩
      replace hB := L.below_drewN hB m6
      replace hZ := L.BC.drewN hZ m6
      clear hx hC hmay
      generalize wr.drewN m6 = w7 at hB hZ ⊢
      go_wp2_with (fail)
      obtain ⟨k, rfl⟩ : ∃ k, gk = k + 1 := ⟨gk - 1, by omega⟩
      go_roundg k
      case measure => omega
      case rel => exact ⟨i + 1, by simp, by omega, hZ, hB⟩
    · have c1d : decide ((i : Int) < (l.length : Int)) = false := decide_eq_false (by omega)
      go_wp2_with (fail)
      refine (PG.descantref1_Ones.calls _ A c l _ _ hC hc HO.out).mono ?_
      rintro e w6 ⟨rfl, ⟨⟨m6, rfl⟩⟩⟩
      replace hB := L.below_drewN hB m6
      replace hZ := L.BC.drewN hZ m6
      replace hC := Kd.C_drewN hC m6
      generalize wr.drewN m6 = w7 at hB hZ hC ⊢
      have hmin1 : min (31 : Int) (n : Int) = min (n : Int) 31 := Int.min_comm _ _
      have hmin2 : min (31 : Int) before = min before 31 := Int.min_comm _ _
      have hmin3 : min (31 : Int) (l.length : Int) = min (l.length : Int) 31 := Int.min_comm _ _
      have hNw := L.BC.new w7 [.int .i64 0, .int .i64 0, .int .i64 0] 61
      have n0 := L.BC.at_ hNw (o := 0) rfl; have n1 := L.BC.at_ hNw (o := 1) rfl; have n2 := L.BC.at_ hNw (o := 2) rfl
      have f0 := L.BC.frozen hNw 0; have f1 := L.BC.frozen hNw 1; have f2 := L.BC.frozen hNw 2
      have dZ : decide ((n : Int) < (l.length : Int)) = Z := by rw [hiz.out]; exact decide_eq_decide.2 (by omega)
      have dZn : (n < l.length) = (Z = true) := by rw [hiz.out]; exact (decide_eq_true_eq).symm
      have hlt : w.heap.size < w7.heap.size := hZ.lt
      have e1 : (w7.heap.size = w.heap.size) = False := eq_false (by omega)
      have e2 : (w.heap.size = w7.heap.size) = False := eq_false (by omega)
      have z0 : ∀ o, (w7.alloc o).cell? ⟨w.heap.size, 0, none⟩ = some (.int .i64 0) := fun o => L.BC.at_ (L.BC.alloc hZ o) rfl
      have z1 : ∀ o, (w7.alloc o).cell? ⟨w.heap.size, 1, none⟩ = some (.int .i64 0) := fun o => L.BC.at_ (L.BC.alloc hZ o) rfl
      have z2 : ∀ o, (w7.alloc o).cell? ⟨w.heap.size, 2, none⟩ = some (.int .i64 0) := fun o => L.BC.at_ (L.BC.alloc hZ o) rfl
      have g0 : ∀ o, (w7.alloc o).frozen? ⟨w.heap.size, 0, none⟩ = false := fun o => L.BC.frozen (L.BC.alloc hZ o) 0
      have g1 : ∀ o, (w7.alloc o).frozen? ⟨w.heap.size, 1, none⟩ = false := fun o => L.BC.frozen (L.BC.alloc hZ o) 1
      have g2 : ∀ o, (w7.alloc o).frozen? ⟨w.heap.size, 2, none⟩ = false := fun o => L.BC.frozen (L.BC.alloc hZ o) 2
      have z1' : ∀ v o, ((w7.setCell ⟨w.heap.size, 0, none⟩ v).alloc o).cell? ⟨w.heap.size, 1, none⟩ = some (.int .i64 0) := fun v o => L.BC.at_ (L.BC.alloc (L.BC.set hZ 0 v) o) rfl
      have g1' : ∀ v o, ((w7.setCell ⟨w.heap.size, 0, none⟩ v).alloc o).frozen? ⟨w.heap.size, 1, none⟩ = false := fun v o => L.BC.frozen (L.BC.alloc (L.BC.set hZ 0 v) o) 1
      have z2' : ∀ v v2 o, (((w7.setCell ⟨w.heap.size, 0, none⟩ v).setCell ⟨w.heap.size, 1, none⟩ v2).alloc o).cell? ⟨w.heap.size, 2, none⟩ = some (.int .i64 0) := fun v v2 o => L.BC.at_ (L.BC.alloc (L.BC.set (L.BC.set hZ 0 v) 1 v2) o) rfl
      have g2' : ∀ v v2 o, (((w7.setCell ⟨w.heap.size, 0, none⟩ v).setCell ⟨w.heap.size, 1, none⟩ v2).alloc o).frozen? ⟨w.heap.size, 2, none⟩ = false := fun v v2 o => L.BC.frozen (L.BC.alloc (L.BC.set (L.BC.set hZ 0 v) 1 v2) o) 2
      rcases hlast with ⟨h0, hg⟩ | ⟨h0, X, hg, hX⟩
      · replace hc2 := hc2.out
        rw [hg] at hc2
        replace hc2 := Lib.hid hc2
        have dl : decide (0 < (l.length : Int)) = false := decide_eq_false (by omega)
        have dl2 : (0 < l.length) = False := eq_false (by omega)
        replace h0 := Lib.hid h0
        cases Z
        all_goals
          go_wp2_with (fail)
          exact bodyPost_ret (L.bc_resultst (P := Tryz.prog) Tryz.results42 _ _ w.heap.size _ _ rfl (L.BC.range (L.BC.alloc (L.BC.set (L.BC.set (L.BC.set hZ 0 _) 1 _) 2 _) _)) Tryz.underlying61 rfl info3c) rfl ⟨by rw [← hc0.out, ← hc1.out, ← hc2.out]; simp, L.below_alloc (((hB.setCell (p := ⟨w.heap.size, 0, none⟩) (Nat.le_refl _) _).setCell (p := ⟨w.heap.size, 1, none⟩) (Nat.le_refl _) _).setCell (p := ⟨w.heap.size, 2, none⟩) (Nat.le_refl _) _) _⟩
      · replace hc2 := hc2.out
        rw [hg] at hc2
        replace hc2 := Lib.hid hc2
        have dl : decide (0 < (l.length : Int)) = true := decide_eq_true (by omega)
        have dl2 : (0 < l.length) = True := eq_true (by omega)
        have wl : IntKind.i64.wrap ((l.length : Int) - 1) = (l.length : Int) - 1 := IntWalk.i64_in _ (by omega)
        obtain ⟨ad, ead, hx⟩ := Kd.at_int hC ((l.length : Int) - 1) (by omega) (by omega)
        cases ead
        rw [hX, show ((l.length : Int) - 1).toNat = l.length - 1 by omega] at hx
        have hx' : ∀ o, (w7.alloc o).cell? (ad.add (l.length - 1)) = some (.int .i64 X) := fun o => L.cell_below (L.below_alloc (Below.refl _ _) o) hx
        have p0 := eq_true (show 0 ≤ (l.length : Int) - 1 by omega)
        have p1 := eq_true (show (l.length : Int) - 1 < (l.length : Int) by omega)
        have p2 := eq_true (show 1 ≤ (l.length : Int) by omega)
        replace h0 := Lib.hid h0
        clear hg hX hx
        by_cases hx1 : X = 1
        · subst hx1
          cases Z
          all_goals
            go_wp2_with (fail)
            exact bodyPost_ret (L.bc_resultst (P := Tryz.prog) Tryz.results42 _ _ w.heap.size _ _ rfl (L.BC.range (L.BC.alloc (L.BC.set (L.BC.set (L.BC.set hZ 0 _) 1 _) 2 _) _)) Tryz.underlying61 rfl info3c) rfl ⟨by rw [← hc0.out, ← hc1.out, ← hc2.out]; simp, L.below_alloc (((hB.setCell (p := ⟨w.heap.size, 0, none⟩) (Nat.le_refl _) _).setCell (p := ⟨w.heap.size, 1, none⟩) (Nat.le_refl _) _).setCell (p := ⟨w.heap.size, 2, none⟩) (Nat.le_refl _) _) _⟩
        · have hxb : (X == 1) = false := by simpa using hx1
          have hx3 : ((some X : Option Int) = some 1) = False := eq_false (by simpa using hx1)
          replace hx1 := Lib.hid hx1
          cases Z
          all_goals
            go_wp2_with (fail)
            exact bodyPost_ret (L.bc_resultst (P := Tryz.prog) Tryz.results42 _ _ w.heap.size _ _ rfl (L.BC.range (L.BC.alloc (L.BC.set (L.BC.set (L.BC.set hZ 0 _) 1 _) 2 _) _)) Tryz.underlying61 rfl info3c) rfl ⟨by rw [← hc0.out, ← hc1.out, ← hc2.out]; simp [hx1.out], L.below_alloc (((hB.setCell (p := ⟨w.heap.size, 0, none⟩) (Nat.le_refl _) _).setCell (p := ⟨w.heap.size, 1, none⟩) (Nat.le_refl _) _).setCell (p := ⟨w.heap.size, 2, none⟩) (Nat.le_refl _) _) _⟩
end Go.Proofs.YtiokfaiioealdaaGreatDoor
/- descantref1.CodeBit, where its coder may be: what it gives. -/
namespace Go.Proofs.YtiokfaiioealdaaGreatDoor
open Go.RowKit Go.Proofs.YtiokfaiioealdaaGreatDoorW.PrintWords Go.Proofs.YtiokfaiioealdaaGreatDoorW.PrintLast Go.Proofs.YtiokfaiioealdaaGreatDoorW.PrintMore Go.Proofs.YtiokfaiioealdaaGreatDoor.L
set_option linter.unusedVariables false
set_option linter.unusedSimpArgs false
theorem and_up {x : Int} (h0 : 0 ≤ x) (h1 : x ≤ 4294967295) : Go.bits .and .i64 (x * 256) 4294967295 = up x 0 := by
  rw [PG.and_most (by omega) (by omega)]; unfold up; omega
theorem or_up {x : Int} (h0 : 0 ≤ x) (h1 : x ≤ 4294967295) : Go.bits .or .i64 (up x 0) 255 = up x 255 := by
  have := PG.or_byte (V := x % 16777216) (x := 255) (by omega) (by omega) (by decide) (by decide)
  rw [show up x 0 = x % 16777216 * 256 by unfold up; omega, this]
  unfold up; omega
theorem cat_mk (a b : List UInt8) : (⟨a.toArray⟩ : ByteArray) ++ ⟨b.toArray⟩ = ⟨(a ++ b).toArray⟩ := by apply ByteArray.ext; simp
set_option maxHeartbeats 8000000 in
set_option maxRecDepth 100000 in
theorem rcode_bit (E : Enc) (b p : Int) (w : World) (he : E.ok) (hb : b = 0 ∨ b = 1) (p1 : 1 ≤ p) (p2 : p ≤ 4095) (ho : E.out.length + 4 ≤ 65536) :
    Calls Tryz.prog 44 #[.agg #[.int .i64 E.l, .int .i64 E.h, .string ⟨E.out.toArray⟩], .int .i64 b, .int .i64 p] w fun e w' => e = .returned (.tuple #[.agg #[.int .i64 (encB E b p).l, .int .i64 (encB E b p).h, .string ⟨(encB E b p).out.toArray⟩], .int .i64 0]) ∧ Below w.heap.size w w' := by
  obtain ⟨l, h, o⟩ := E
  simp only [] at ho ⊢
  have hm := mid_in (enc_lt he) p1 p2
  have hmay := Lib.hid (PG.rmay_f (o := o) he (by omega))
  obtain ⟨a, c, d⟩ := he
  simp only [] at a c d hm hmay
  have hbm := fun W => rbit_may b W hb
  have hch := fun W => rchance_any p W ⟨p1, p2⟩
  have hmid := fun W => rmid_any l h p W a (show l < h by omega) c p1 p2
  obtain ⟨R, hR⟩ : ∃ R, encR ⟨l, h, o⟩ b p = R := ⟨_, rfl⟩
  unfold encB
  rw [hR]
  have hRd : R = if b = 1 then norm 4 l (mid l h p) else norm 4 (mid l h p + 1) h := by rw [← hR]; rfl
  clear hR
  generalize mid l h p = md at *
  have wm : IntKind.i64.wrap (md + 1) = md + 1 := IntWalk.i64_in _ (by omega)
  have hst : ∃ l1 h1, R = norm 4 l1 h1 ∧ 0 ≤ l1 ∧ l1 ≤ h1 ∧ h1 ≤ 4294967295 ∧ (b = 1 → l1 = l ∧ h1 = md) ∧ (b = 0 → l1 = md + 1 ∧ h1 = h) := by
    rcases hb with rfl | rfl
    · exact ⟨md + 1, h, by rw [hRd, if_neg (by decide)], by omega, by omega, by omega, fun h => absurd h (by decide), fun _ => ⟨rfl, rfl⟩⟩
    · exact ⟨l, md, by rw [hRd, if_pos rfl], by omega, by omega, by omega, fun _ => ⟨rfl, rfl⟩, fun h => absurd h (by decide)⟩
  obtain ⟨l1, h1, hR1, q1, q2, q3, qb1, qb0⟩ := hst
  clear hRd
  have hE4 := norm4 q1 q2 q3
  replace hbm := Lib.hid hbm
  replace hch := Lib.hid hch
  replace hmid := Lib.hid hmid
  go_enter Tryz.func44, Tryz.ntmps44
  go_wp2_with (first | ((with_reducible refine gate_dst (N := 3) rfl ?_); refine box_event ?hg (N := 3) ?hd (cs := #[.int .i64 l, .int .i64 h, .string ⟨o.toArray⟩]) (t := 68) ?hr ?_; (case hd => rfl); (case hg => rfl); (case hr => first | (go_simp; done) | (go_simp; rfl)); intro gx hgx w1 hbox hb1; have hX : L.BC w1 gx 68 [.int .i64 l, .int .i64 h, .string ⟨o.toArray⟩] := ⟨hbox⟩; have hB := hb1; have hlt := L.BC.lt hX; have hX1 := L.BC.alloc hX (.cells #[.int .i64 0, .int .i64 0, .string ⟨#[]⟩] 68); have hZ := L.BC.new w1 [.int .i64 0, .int .i64 0, .string ⟨#[]⟩] 68; have hB1 := L.below_alloc hB (.cells #[.int .i64 0, .int .i64 0, .string ⟨#[]⟩] 68); have hgl : w.heap.size ≤ gx := Nat.le_of_eq hgx.symm; have x0 := L.BC.at_ hX1 (o := 0) rfl; have x1 := L.BC.at_ hX1 (o := 1) rfl; have x2 := L.BC.at_ hX1 (o := 2) rfl; clear hbox hb1 hX hB hgx))
  have hne : w1.heap.size ≠ gx := Nat.ne_of_gt hlt
  have hgz : w.heap.size ≤ w1.heap.size := by have := hlt; omega
  generalize w1.alloc (.cells #[.int .i64 0, .int .i64 0, .string ⟨#[]⟩] 68) = w2 at hX1 hZ hB1 x0 x1 x2 ⊢
  generalize w1.heap.size = gz at *
  refine (PG.descantref1_CoderMay.calls l h ⟨o.toArray⟩ true _ hmay.out).mono ?_
  rintro e w3 ⟨rfl, hbl⟩
  replace hX1 := L.BC.below hX1 hbl
  replace hZ := L.BC.below hZ hbl
  replace hB1 := L.below_next hB1 hbl
  clear hbl x0 x1 x2
  have x0 := L.BC.at_ hX1 (o := 0) rfl; have x1 := L.BC.at_ hX1 (o := 1) rfl; have x2 := L.BC.at_ hX1 (o := 2) rfl
  go_wp2_with (fail)
  refine (hbm.out _).mono ?_
  rintro e w4 ⟨rfl, m4, rfl⟩
  replace hX1 := L.BC.drewN hX1 m4
  replace hZ := L.BC.drewN hZ m4
  replace hB1 := L.below_drewN hB1 m4
  clear x0 x1 x2
  generalize w3.drewN m4 = w5 at hX1 hZ hB1 ⊢
  go_wp2_with (fail)
  refine (hch.out _).mono ?_
  rintro e w4 ⟨rfl, m4, rfl⟩
  replace hX1 := L.BC.drewN hX1 m4
  replace hZ := L.BC.drewN hZ m4
  replace hB1 := L.below_drewN hB1 m4
  generalize w5.drewN m4 = w6 at hX1 hZ hB1 ⊢
  have x0 := L.BC.at_ hX1 (o := 0) rfl; have x1 := L.BC.at_ hX1 (o := 1) rfl; have x2 := L.BC.at_ hX1 (o := 2) rfl
  go_wp2_with (fail)
  refine (hmid.out _).mono ?_
  rintro e w4 ⟨rfl, m6, rfl⟩
  replace hX1 := L.BC.drewN hX1 m6
  replace hZ := L.BC.drewN hZ m6
  replace hB1 := L.below_drewN hB1 m6
  clear x0 x1 x2
  generalize w6.drewN m6 = w7 at hX1 hZ hB1 ⊢
  have x0 := L.BC.at_ hX1 (o := 0) rfl; have f0 := L.BC.frozen hX1 0; have x1 := L.BC.at_ hX1 (o := 1) rfl; have f1 := L.BC.frozen hX1 1
  have hlp : ∀ W : World, L.BC W gx 68 [.int .i64 l1, .int .i64 h1, .string ⟨o.toArray⟩] ∧ L.BC W gz 68 [.int .i64 0, .int .i64 0, .string ⟨#[]⟩] ∧ Below w.heap.size w W → ∃ (n : Nat) (l2 h2 : Int) (o2 : List UInt8), n + 1 = 5 ∧ 0 ≤ l2 ∧ l2 ≤ h2 ∧ h2 ≤ 4294967295 ∧ Ends (norm n l2 h2).1 (norm n l2 h2).2.1 ∧ (norm n l2 h2).1 = R.1 ∧ (norm n l2 h2).2.1 = R.2.1 ∧ o2 ++ (norm n l2 h2).2.2 = o ++ R.2.2 ∧ o2.length + n ≤ 65536 ∧ L.BC W gx 68 [.int .i64 l2, .int .i64 h2, .string ⟨o2.toArray⟩] ∧ L.BC W gz 68 [.int .i64 0, .int .i64 0, .string ⟨#[]⟩] ∧ Below w.heap.size w W := by
    rintro W ⟨k1, k2, k3⟩
    exact ⟨4, l1, h1, o, rfl, q1, q2, q3, hE4, by rw [hR1], by rw [hR1], by rw [hR1], ho, k1, k2, k3⟩
  have hs1 : b = 1 → L.BC (w7.setCell ⟨gx, 1, none⟩ (.int .i64 md)) gx 68 [.int .i64 l1, .int .i64 h1, .string ⟨o.toArray⟩] := by
    intro hb1
    obtain ⟨e1, e2⟩ := qb1 hb1
    rw [e1, e2]; exact L.BC.set hX1 1 (.int .i64 md)
  have hs0 : b = 0 → L.BC (w7.setCell ⟨gx, 0, none⟩ (.int .i64 (md + 1))) gx 68 [.int .i64 l1, .int .i64 h1, .string ⟨o.toArray⟩] := by
    intro hb1
    obtain ⟨e1, e2⟩ := qb0 hb1
    rw [e1, e2]; exact L.BC.set hX1 0 (.int .i64 (md + 1))
  have hz1 := L.BC.far hZ (p := ⟨gx, 1, none⟩) (Ne.symm hne) (.int .i64 md)
  have hz0 := L.BC.far hZ (p := ⟨gx, 0, none⟩) (Ne.symm hne) (.int .i64 (md + 1))
  have hb1 := hB1.setCell (p := ⟨gx, 1, none⟩) hgl (.int .i64 md)
  have hb0 := hB1.setCell (p := ⟨gx, 0, none⟩) hgl (.int .i64 (md + 1))
  have hbb := hb.symm
  clear hmay hch hmid hbm hX1 hZ hB1 a c d hm q1 q2 q3 qb1 qb0 hE4 hR1 p1 p2 hb
  replace hlp := Lib.hid hlp
  replace hs1 := Lib.hid hs1
  replace hs0 := Lib.hid hs0
  rcases hbb with rfl | rfl
  go_wp2_with (fail)
  have hX9 := hs1.out (by trivial)
  have hZ9 := hz1
  have hB9 := hb1
  clear hs1 hs0 hz1 hz0 hb1 hb0 x0 x1 f0 f1
  generalize w7.setCell ⟨gx, 1, none⟩ (.int .i64 md) = w9 at hX9 hZ9 hB9 ⊢
  rotate_left
  go_wp2_with (fail)
  have hX9 := hs0.out (by trivial)
  have hZ9 := hz0
  have hB9 := hb0
  clear hs1 hs0 hz1 hz0 hb1 hb0 x0 x1 f0 f1
  generalize w7.setCell ⟨gx, 0, none⟩ (.int .i64 (md + 1)) = w9 at hX9 hZ9 hB9 ⊢
  rotate_left
  all_goals
    go_loopg [] 5 (fun kq W => ∃ (n : Nat) (l2 h2 : Int) (o2 : List UInt8), n + 1 = kq ∧ 0 ≤ l2 ∧ l2 ≤ h2 ∧ h2 ≤ 4294967295 ∧ Ends (norm n l2 h2).1 (norm n l2 h2).2.1 ∧ (norm n l2 h2).1 = R.1 ∧ (norm n l2 h2).2.1 = R.2.1 ∧ o2 ++ (norm n l2 h2).2.2 = o ++ R.2.2 ∧ o2.length + n ≤ 65536 ∧ L.BC W gx 68 [.int .i64 l2, .int .i64 h2, .string ⟨o2.toArray⟩] ∧ L.BC W gz 68 [.int .i64 0, .int .i64 0, .string ⟨#[]⟩] ∧ Below w.heap.size w W)
    case atStart => exact hlp.out _ ⟨hX9, hZ9, hB9⟩
    case round =>
      clear hX9 hZ9 hB9 hlp
      obtain ⟨n, l2, h2, o2, hn, r1, r2, r3, hE, e1, e2, e3, ho2, hX, hZ, hB⟩ := hrel
      have x0 := L.BC.at_ hX (o := 0) rfl
      have x1 := L.BC.at_ hX (o := 1) rfl
      by_cases c : l2 / 16777216 = h2 / 16777216
      · have ct : (l2 / 16777216 = h2 / 16777216) = True := eq_true c
        have hcb : (l2 / 16777216 == h2 / 16777216) = true := by rw [c]; exact beq_self_eq_true _
        replace c := Lib.hid c
        have x2 := L.BC.at_ hX (o := 2) rfl
        have f2 := L.BC.frozen hX 2
        have hsz : (9223372036854775807 < (⟨o2.toArray⟩ : ByteArray).size + 1) = False := eq_false (by rw [PG.size_mk]; omega)
        have hsz2 : ((⟨o2.toArray⟩ : ByteArray).size + 1 ≤ 9223372036854775807) = True := eq_true (by rw [PG.size_mk]; omega)
        have hsz3 : (9223372036854775807 < o2.length + 1) = False := eq_false (by omega)
        have hlo := PG.low1_f (l2 / 16777216)
        obtain ⟨SN, hSN⟩ : ∃ SN : ByteArray, ⟨[by8 (l2 / 16777216)].toArray⟩ = SN := ⟨_, rfl⟩
        have hSNs : SN.size = 1 := by rw [← hSN]; rfl
        have hcat : (⟨o2.toArray⟩ : ByteArray) ++ SN = ⟨(o2 ++ [by8 (l2 / 16777216)]).toArray⟩ := by rw [← hSN]; exact cat_mk _ _
        rw [hSN] at hlo
        have HLo := Lib.hid hlo
        replace hSN := Lib.hid hSN
        replace hcat := Lib.hid hcat
        clear hlo
        go_wp2_with (fail)
        replace hX := L.BC.drew hX
        replace hZ := L.BC.drew hZ
        replace hB := L.below_drew hB
        clear x0 x1 x2 f2
        refine start_ (n := 9) (S := fun w' => L.BC w' gx 68 [.int .i64 l2, .int .i64 h2, .string ⟨o2.toArray⟩]) (ds := [8]) #[false, false, false, false, false, false, false, false, false] (by kernel_rfl) rfl rfl hX (fun hHeld => ?_)
        generalize wr.drew = wa at hX hZ hB hHeld ⊢
        refine pure_ (i := 0) (N := (some 43)) (v := ?_) (a' := ?_) #[true, false, false, false, false, false, false, false, false] rfl rfl (by kernel_rfl) (fun _ _ _ h => h) (Or.inl ⟨by rfl, ?_⟩) ?_ ?_
        rotate_left
        · intro w'
          go_simp
          with_reducible rfl
        rotate_left
        · simp only [Act.put, List.setIfInBounds_toArray, List.set_cons_zero, List.set_cons_succ, i64_w, i32_w]
          rfl
        refine pure_ (i := 2) (N := (some 45)) (v := ?_) (a' := ?_) #[true, false, true, false, false, false, false, false, false] rfl rfl (by kernel_rfl) (fun _ _ _ h => h) (Or.inl ⟨by rfl, ?_⟩) ?_ ?_
        rotate_left
        · intro w'
          go_simp
          with_reducible rfl
        rotate_left
        · simp only [Act.put, List.setIfInBounds_toArray, List.set_cons_zero, List.set_cons_succ, i64_w, i32_w]
          rfl
        refine take_ (i := 1) (N := (some 44)) (v := ?_) (a' := ?_) #[true, true, true, false, false, false, false, false, false] rfl rfl (by kernel_rfl) (fun _ _ _ h => h) (Or.inl ⟨by rfl, ?_⟩) hHeld ?_ ?_
        rotate_left
        · intro w' hS
          have s2 := L.BC.at_ hS (o := 2) rfl
          go_simp
          with_reducible rfl
        rotate_left
        · simp only [Act.put, List.setIfInBounds_toArray, List.set_cons_zero, List.set_cons_succ, i64_w, i32_w]
          rfl
        refine take_ (i := 3) (N := (some 46)) (v := ?_) (a' := ?_) #[true, true, true, true, false, false, false, false, false] rfl rfl (by kernel_rfl) (fun _ _ _ h => h) (Or.inl ⟨by rfl, ?_⟩) hHeld ?_ ?_
        rotate_left
        · intro w' hS
          have s0 := L.BC.at_ hS (o := 0) rfl
          go_simp
          with_reducible rfl
        rotate_left
        · simp only [Act.put, List.setIfInBounds_toArray, List.set_cons_zero, List.set_cons_succ, i64_w, i32_w]
          rfl
        refine pure_ (i := 4) (N := (some 47)) (v := ?_) (a' := ?_) #[true, true, true, true, true, false, false, false, false] rfl rfl (by kernel_rfl) (fun _ _ _ h => h) (Or.inl ⟨by rfl, ?_⟩) ?_ ?_
        rotate_left
        · intro w'
          go_simp
          with_reducible rfl
        rotate_left
        · simp only [Act.put, List.setIfInBounds_toArray, List.set_cons_zero, List.set_cons_succ, i64_w, i32_w]
          rfl
        refine one_ (i := 5) (N := (some 48)) #[true, true, true, true, true, true, false, false, false] rfl rfl (by kernel_rfl) (by decide) (fun K hK => ?_)
        refine goes_ Tryz.func28 (by kernel_rfl) rfl #[.int .i64 (l2 / 16777216), .int .i64 1] (by rfl) rfl rfl (by (try simp only [List.map_toArray, List.map_cons, List.map_nil]); first | done | rfl) ?_
        refine (PG.descantref1_Low.calls 5 _ 1 _ _ HLo.out).mono ?_
        rintro e we ⟨rfl, hbe⟩
        refine ⟨_, rfl, ?_⟩
        replace hX := L.BC.below hX hbe
        replace hZ := L.BC.below hZ hbe
        replace hB := L.below_next hB hbe
        clear hHeld hbe
        refine hK.out _ _ hX (fun hHeld => ?_)
        clear hK K
        refine norm_ (a' := ?_) ?_ ?_
        rotate_left
        · show Act.put _ (some 48) _ = _
          simp only [Act.put, List.setIfInBounds_toArray, List.set_cons_zero, List.set_cons_succ, i64_w, i32_w]
          rfl
        refine pure_ (i := 6) (N := (some 49)) (v := ?_) (a' := ?_) #[true, true, true, true, true, true, true, false, false] rfl rfl (by kernel_rfl) (fun _ _ _ h => h) (Or.inl ⟨by rfl, ?_⟩) ?_ ?_
        rotate_left
        · intro w'
          go_simp
          with_reducible rfl
        rotate_left
        · simp only [Act.put, List.setIfInBounds_toArray, List.set_cons_zero, List.set_cons_succ, i64_w, i32_w]
          rfl
        refine pure_ (i := 7) (N := (some 50)) (v := ?_) (a' := ?_) #[true, true, true, true, true, true, true, true, false] rfl rfl (by kernel_rfl) (fun _ _ _ h => h) (Or.inl ⟨by rfl, ?_⟩) ?_ ?_
        rotate_left
        · intro w'
          go_simp
          with_reducible rfl
        rotate_left
        · simp only [Act.put, List.setIfInBounds_toArray, List.set_cons_zero, List.set_cons_succ, i64_w, i32_w]
          rfl
        refine last_ (i := 8) (N := none) #[true, true, true, true, true, true, true, true, true] rfl rfl (by kernel_rfl) (by decide) (fun K hK => ?_)
        have x2 := L.BC.at_ hX (o := 2) rfl
        have f2 := L.BC.frozen hX 2
        refine skip_ (w1 := we.setCell ⟨gx, 2, none⟩ (.string ((⟨o2.toArray⟩ : ByteArray) ++ SN))) (by rfl) rfl ?_ ?_
        · go_simp
        have hXc : L.BC (we.setCell ⟨gx, 2, none⟩ (.string ((⟨o2.toArray⟩ : ByteArray) ++ SN))) gx 68 [.int .i64 l2, .int .i64 h2, .string ⟨(o2 ++ [by8 (l2 / 16777216)]).toArray⟩] := by
          have := L.BC.set hX 2 (.string ((⟨o2.toArray⟩ : ByteArray) ++ SN))
          rw [hcat.out] at this ⊢
          exact this
        replace hZ := L.BC.far hZ (p := ⟨gx, 2, none⟩) (Ne.symm hne) (.string ((⟨o2.toArray⟩ : ByteArray) ++ SN))
        replace hB := hB.setCell (p := ⟨gx, 2, none⟩) hgl (.string ((⟨o2.toArray⟩ : ByteArray) ++ SN))
        clear hX x2 f2 hsz hsz2 hsz3 hHeld
        refine hK.out _ _ ?_
        clear hK K
        refine done_ (by kernel_rfl) ?_
        generalize we.setCell ⟨gx, 2, none⟩ (.string ((⟨o2.toArray⟩ : ByteArray) ++ SN)) = wc at hXc hZ hB ⊢
        obtain ⟨ul, hul⟩ : ∃ ul, up l2 0 = ul := ⟨_, rfl⟩
        obtain ⟨uh, huh⟩ : ∃ uh, up h2 255 = uh := ⟨_, rfl⟩
        have iul := PG.up_in (x := l2) (b := 0) r1 (by omega) (by omega) (by omega)
        have iuh := PG.up_in (x := h2) (b := 255) (by omega) r3 (by omega) (by omega)
        have ilh : up l2 0 ≤ up h2 255 := by have := c.out; unfold up; omega
        rw [hul] at iul ilh
        rw [huh] at iuh ilh
        have HL : Go.bits .and .i64 (l2 * 256) 4294967295 = ul := by rw [← hul]; exact and_up r1 (by omega)
        have HH0 : Go.bits .and .i64 (h2 * 256) 4294967295 = up h2 0 := and_up (by omega) r3
        have HH : Go.bits .or .i64 (up h2 0) 255 = uh := by rw [← huh]; exact or_up (by omega) r3
        replace hul := Lib.hid hul
        replace huh := Lib.hid huh
        have x0 := L.BC.at_ hXc (o := 0) rfl
        have f0 := L.BC.frozen hXc 0
        have x1 := L.BC.at_ hXc (o := 1) rfl
        have f1 := L.BC.frozen hXc 1
        go_wp2_with (fail)
        cases n with
        | zero => exact absurd c.out (by have := hE.2.2; simp only [norm] at this; omega)
        | succ n =>
          rw [norm, if_pos c.out, hul.out, huh.out] at hE e1 e2 e3
          obtain ⟨k, rfl⟩ : ∃ k, gk = k + 1 := ⟨n + 1, by omega⟩
          go_roundg k
          case measure => omega
          case rel => exact ⟨n, ul, uh, _, by omega, iul.1, ilh, iuh.2, hE, e1, e2, by rw [List.append_assoc]; exact e3, by rw [List.length_append, List.length_singleton]; omega, L.BC.set (L.BC.set hXc 0 _) 1 _, L.BC.far (L.BC.far hZ (p := ⟨gx, 0, none⟩) (Ne.symm hne) _) (p := ⟨gx, 1, none⟩) (Ne.symm hne) _, (hB.setCell (p := ⟨gx, 0, none⟩) hgl _).setCell (p := ⟨gx, 1, none⟩) hgl _⟩
      · have ct : (l2 / 16777216 = h2 / 16777216) = False := eq_false c
        have hcb : (l2 / 16777216 == h2 / 16777216) = false := beq_eq_false_iff_ne.2 c
        have hnorm : norm n l2 h2 = (l2, h2, []) := by
          cases n with
          | zero => rfl
          | succ n => rw [norm, if_neg c]
        rw [hnorm] at e1 e2 e3
        have x2 := L.BC.at_ hX (o := 2) rfl
        have z0 := L.BC.at_ hZ (o := 0) rfl
        have z1 := L.BC.at_ hZ (o := 1) rfl
        have z2 := L.BC.at_ hZ (o := 2) rfl
        have g0 := L.BC.frozen hZ 0
        have g1 := L.BC.frozen hZ 1
        have g2 := L.BC.frozen hZ 2
        have d5 : decide (65536 < ((⟨o2.toArray⟩ : ByteArray).size : Int)) = false := decide_eq_false (by rw [PG.size_mk]; omega)
        replace c := Lib.hid c
        replace e1 := Lib.hid e1
        replace e2 := Lib.hid e2
        replace e3 := Lib.hid e3
        go_wp2_with (fail)
        have hZ' := L.BC.set (L.BC.set (L.BC.set hZ 0 (.int .i64 l2)) 1 (.int .i64 h2)) 2 (.string ⟨o2.toArray⟩)
        have hB' := ((hB.setCell (p := ⟨gz, 0, none⟩) hgz (.int .i64 l2)).setCell (p := ⟨gz, 1, none⟩) hgz (.int .i64 h2)).setCell (p := ⟨gz, 2, none⟩) hgz (.string ⟨o2.toArray⟩)
        refine bodyPost_ret (L.bc_resultst (P := Tryz.prog) Tryz.results44 _ _ gz [.int .i64 l2, .int .i64 h2, .string ⟨o2.toArray⟩] _ rfl hZ'.range Tryz.underlying68 rfl info37) rfl ⟨?_, hB'⟩
        rw [← e1.out, ← e2.out, ← e3.out, List.append_nil]
        rfl
end Go.Proofs.YtiokfaiioealdaaGreatDoor
/- descantref13.PutResiduals: what it gives. -/
namespace Go.Proofs.YtiokfaiioealdaaGreatDoor
open Go.RowKit Go.Proofs.YtiokfaiioealdaaGreatDoorW.PrintWords Go.Proofs.YtiokfaiioealdaaGreatDoorW.PrintLast Go.Proofs.YtiokfaiioealdaaGreatDoorW.PrintMore Go.Proofs.YtiokfaiioealdaaGreatDoor.L
set_option linter.unusedVariables false
set_option linter.unusedSimpArgs false
theorem rp_chance {S : St} (h : SIn S) (w : World) : Calls Tryz.prog 43 #[.agg (ints S.M).toArray, v3 (cx0 S.bits) (cx1 S.before S.bits) (cx2 S.bits)] w fun e w' => e = .returned (.tuple #[.int .i64 (chance mdot S), .int .i64 0]) ∧ Below w.heap.size w w' := by
  obtain ⟨k1, k2, k3⟩ := cx_in S.before S.bits h.hb.1
  have := rmodel_p S.M h.hM (cx0 S.bits) (cx1 S.before S.bits) (cx2 S.bits) w
  rw [h.hm, xOk_iff.2 ⟨k1, k2, k3⟩] at this
  exact this
theorem rp_learn {S : St} (h : SIn S) {b : Int} (hb : b = 0 ∨ b = 1) (w : World) : Calls Tryz.prog 45 #[.agg (ints S.M).toArray, v3 (cx0 S.bits) (cx1 S.before S.bits) (cx2 S.bits), .int .i64 b] w fun e w' => e = .returned (.tuple #[.agg (ints (lrn lR S b).M).toArray, .int .i64 0]) ∧ Below w.heap.size w w' := by
  obtain ⟨k1, k2, k3⟩ := cx_in S.before S.bits h.hb.1
  have hok : lOk S.M (cx0 S.bits) (cx1 S.before S.bits) (cx2 S.bits) b = true := lOk_iff.2 ⟨h.hm, ⟨k1, k2, k3⟩, by omega, by omega⟩
  have := rmodel_learn S.M h.hM (cx0 S.bits) (cx1 S.before S.bits) (cx2 S.bits) b w
  rw [hok] at this
  exact this
/-- The document's coder and model under way. -/
structure PW (w W : World) (g : Nat) (M : List Int) (E : Enc) : Prop where
  hM : MB W g M
  hK : L.BC W (g + 1) 68 (encC E)
  hB : Below w.heap.size w W
  hg : w.heap.size ≤ g
theorem PW.next {w W W1 : World} {g : Nat} {M : List Int} {E : Enc} (h : PW w W g M E) (hb : Below W.heap.size W W1) : PW w W1 g M E := ⟨h.hM.below hb, L.BC.below h.hK hb, below_next h.hB hb, h.hg⟩
theorem PW.alloc {w W : World} {g : Nat} {M : List Int} {E : Enc} (h : PW w W g M E) (o : Obj) : PW w (W.alloc o) g M E := h.next (L.below_alloc (Below.refl _ _) o)
theorem PW.drew {w W : World} {g : Nat} {M : List Int} {E : Enc} (h : PW w W g M E) : PW w W.drew g M E := h.next (L.below_drew (Below.refl _ _))
theorem PW.drewN {w W : World} {g : Nat} {M : List Int} {E : Enc} (h : PW w W g M E) (m : Nat) : PW w (W.drewN m) g M E := h.next (L.below_drewN (Below.refl _ _) m)
theorem PW.lt {w W : World} {g : Nat} {M : List Int} {E : Enc} (h : PW w W g M E) : g + 1 < W.heap.size := h.hK.lt
theorem PW.model {w W : World} {g : Nat} {M R : List Int} {E : Enc} (h : PW w W g M E) (hR : R.length = 195) : PW w (W.setCells g 0 (ints R)) g R E :=
  ⟨h.hM.over hR, L.BC.beside h.hK (by omega) _, below_over h.hB h.hg _, h.hg⟩
theorem PW.coder {w W : World} {g : Nat} {M : List Int} {E E2 : Enc} (h : PW w W g M E) : PW w (((W.setCell ⟨g + 1, 0, none⟩ (.int .i64 E2.l)).setCell ⟨g + 1, 1, none⟩ (.int .i64 E2.h)).setCell ⟨g + 1, 2, none⟩ (.string ⟨E2.out.toArray⟩)) g M E2 := by
  have hg := h.hg
  refine ⟨((h.hM.far (by simp) _).far (by simp) _).far (by simp) _, L.BC.set (L.BC.set (L.BC.set h.hK 0 _) 1 _) 2 _, ?_, hg⟩
  exact ((h.hB.setCell (p := ⟨g + 1, 0, none⟩) (Nat.le_succ_of_le hg) _).setCell (p := ⟨g + 1, 1, none⟩) (Nat.le_succ_of_le hg) _).setCell (p := ⟨g + 1, 2, none⟩) (Nat.le_succ_of_le hg) _
theorem PW.beside {w W : World} {g k : Nat} {M : List Int} {E : Enc} (h : PW w W g M E) (h1 : k ≠ g) (h2 : k ≠ g + 1) (h3 : w.heap.size ≤ k) (vs : List Value) : PW w (W.setCells k 0 vs) g M E :=
  ⟨h.hM.beside h1 vs, L.BC.beside h.hK h2 vs, below_over h.hB h3 vs, h.hg⟩
theorem PW.blk {w W : World} {g : Nat} {M : List Int} {E : Enc} (h : PW w W g M E) : L.BC W g 63 (ints M) := ⟨h.hM.blk⟩
theorem alloc_model_run {o : Oper} {a : Act} {W : World} (ho : o.op = .alloc 63) : (execOp a.eval o).run Tryz.prog W = .ok (.value (.pointer (some ⟨W.heap.size, 0, none⟩))) (W.alloc (.cells (ints zM).toArray 63 (0, 0))) := by
  have hz0 : Tryz.zeroCells63 = (ints zM).toArray := by kernel_rfl
  rw [← hz0]
  unfold execOp
  simp only [ho]
  simp [go_sem]
set_option maxHeartbeats 8000000 in
set_option maxRecDepth 100000 in
theorem rput13 (rs : List Int) (A : Option Addr) (cap : Nat) (w : World) (hC : Kd.C (Kd.int .i64) w A rs.length rs) (hc : rs.length ≤ cap) :
    Calls Tryz.prog 15 #[.slice A rs.length cap] w fun e w' => e = .returned (.tuple #[.string (if putOk rs = true then ⟨(putS mdot lR newM rs).toArray⟩ else ⟨#[]⟩), .int .i64 (if putOk rs = true then 0 else 1300)]) ∧ Below w.heap.size w w' := by
  obtain ⟨res, hres⟩ : ∃ r, Value.tuple #[.string (if putOk rs = true then ⟨(putS mdot lR newM rs).toArray⟩ else ⟨#[]⟩), .int .i64 (if putOk rs = true then 0 else 1300)] = r := ⟨_, rfl⟩
  rw [hres]
  replace hres := Lib.hid hres
  by_cases hlen : rs.length ≤ 256
  · have d1 : decide (256 < (rs.length : Int)) = false := decide_eq_false (by omega)
    have hC0 := Lib.hid hC
    have hnm := fun w1 => rmodel_new w1
    clear hC
    go_enter Tryz.func15, Tryz.ntmps15
    go_wp2_with (fail)
    refine (hnm _).mono ?_
    rintro e w1 ⟨rfl, hb⟩
    go_wp2_with (fail)
    refine (PG.descantref1_NewCoder.calls 0 4294967295 ⟨#[]⟩ _ rfl).mono ?_
    rintro e w2 ⟨rfl, hb2⟩
    replace hb := below_next hb hb2
    clear hb2 hnm
    have hsz : (w2.alloc (.cells (ints zM).toArray 63)).heap.size = w2.heap.size + 1 := by simp
    have hP : PW w (((w2.alloc (.cells (ints zM).toArray 63)).alloc (.cells (#[.int .i64 0, .int .i64 0, .string ⟨#[]⟩]) 68))) w2.heap.size zM ⟨0, 0, []⟩ := by
      refine ⟨(MB.new w2 zM_length).alloc _, ?_, L.below_alloc (L.below_alloc hb _) _, hb.size⟩
      have := L.BC.new (w2.alloc (.cells (ints zM).toArray 63)) [.int .i64 0, .int .i64 0, .string ⟨#[]⟩] 68
      rwa [hsz] at this
    have hT := Lib.hid (hP.hM.there newM_length)
    have hI := Lib.hid (info_M newM_length)
    clear hb
    go_wp2_with (first | (with_reducible refine wpList_alloc_model rfl rfl ?_) | ((with_reducible refine wpList_store_mid rfl 63 (.tmp 4) (.tmp 26) rfl w2.heap.size 0 (ints newM).toArray ?hx ?hy hT.out hI.out (all_oneCell_toArray (ints_one _)) ?_); (case hx => rfl); (case hy => rfl); have hP2 := PW.model hP newM_length; clear hP hT hI; generalize World.setCells _ w2.heap.size 0 _ = w3 at hP2 ⊢; have x0 := L.BC.at_ hP2.hK (o := 0) rfl; have x1 := L.BC.at_ hP2.hK (o := 1) rfl; have x2 := L.BC.at_ hP2.hK (o := 2) rfl; have f0 := L.BC.frozen hP2.hK 0; have f1 := L.BC.frozen hP2.hK 1; have f2 := L.BC.frozen hP2.hK 2))
    have hP3 : PW w (((w3.setCell ⟨w2.heap.size + 1, 0, none⟩ (.int .i64 0)).setCell ⟨w2.heap.size + 1, 1, none⟩ (.int .i64 4294967295)).setCell ⟨w2.heap.size + 1, 2, none⟩ (.string ⟨#[]⟩)) w2.heap.size newM enc0 := PW.coder (E2 := enc0) hP2
    clear hP2 x0 x1 x2 f0 f1 f2
    generalize ((w3.setCell ⟨w2.heap.size + 1, 0, none⟩ (.int .i64 0)).setCell ⟨w2.heap.size + 1, 1, none⟩ (.int .i64 4294967295)).setCell ⟨w2.heap.size + 1, 2, none⟩ (.string ⟨#[]⟩) = w4 at hP3 ⊢
    clear hsz
    generalize w2.heap.size = g at hP3 ⊢
    generalize (ints newM).toArray = z1
    go_loopg [6, 7] rs.length (fun kq v6 v7 W => ∃ (i : Nat) (S : St) (E : Enc), v6 = .int .i64 S.before ∧ v7 = .int .i64 (i : Int) ∧ i + kq = rs.length ∧ putNums mdot lR (rs.take i) (⟨newM, 0, []⟩, enc0) = (S, E) ∧ (rs.take i).all numOk = true ∧ SIn S ∧ S.bits = [] ∧ E.ok ∧ PW w W g S.M E)
    case atStart => exact ⟨0, ⟨newM, 0, []⟩, enc0, rfl, by simp, by omega, rfl, rfl, ⟨newM_length, (by decide +kernel), by decide, fun b hb => by cases hb⟩, rfl, enc0_ok, hP3⟩
    case round =>
      clear hP3
      obtain ⟨i, S, E, rfl, rfl, hi, hput, hall, hS, hSb, hE, hP⟩ := hrel
      have hCW := Kd.C_below hC0.out hP.hB
      have hEl : E.out.length ≤ 204 * i := by
        have := (putNums_len (P := mdot) (L := lR) (rs.take i) (⟨newM, 0, []⟩, enc0) hall).2
        rw [hput, List.length_take, Nat.min_eq_left (by omega)] at this
        simp only [show enc0.out.length = 0 from rfl] at this
        omega
      obtain ⟨M, before, bits⟩ := S
      simp only [] at hSb hP
      subst hSb
      by_cases c1 : i < rs.length
      · have c1d : decide ((i : Int) < (rs.length : Int)) = true := decide_eq_true (by omega)
        obtain ⟨ad, ead, hx⟩ := Kd.at_int hCW (i : Int) (by omega) (by omega)
        cases ead
        rw [Int.toNat_natCast] at hx
        have p3 := eq_true (show (0 : Int) ≤ (i : Int) by omega)
        have q3 := eq_true (show (i : Int) < (rs.length : Int) by omega)
        have hget := rd_get c1
        have htk := List.take_succ_eq_append_getElem c1
        have hmem : rs[i] ∈ rs := List.getElem_mem c1
        rw [← hget] at htk hmem
        generalize rd rs (i : Int) = x at *
        replace hget := Lib.hid hget
        replace htk := Lib.hid htk
        replace hput := Lib.hid hput
        replace hall := Lib.hid hall
        have hf := PG.rfold_f x
        cases hxo : numOk x with
        | true =>
          rw [hxo, if_pos rfl] at hf
          have HF := Lib.hid hf
          have hfl := fld_le hxo
          have hgb := PG.rbits_f (fld x) hfl 130 (by omega)
          have hlen2 := gBits_len hfl
          have h01 := bits_01 (fld x)
          obtain ⟨bs, hbs⟩ : ∃ bs, gBits (fld x) = bs := ⟨_, rfl⟩
          rw [hbs] at hgb hlen2 h01
          have HG := Lib.hid hgb
          replace hxo := Lib.hid hxo
          replace hbs := Lib.hid hbs
          replace h01 := Lib.hid h01
          clear hf hgb hfl
          go_wp2_with (fail)
          refine (PG.descantref1_Fold.calls x _ 0 _ HF.out).mono ?_
          rintro e w5 ⟨rfl, hd⟩
          replace hP := hP.next hd.below
          clear hd hCW hx
          go_wp2_with (fail)
          refine (PG.descantref1_Bits.calls 130 _ bs 0 _ HG.out).mono ?_
          rintro e w6 ⟨v0, rfl, hR, hb⟩
          replace hP := hP.next hb
          obtain ⟨A2, cap2, ev⟩ := Kd.R_slice hR
          subst ev
          clear hb
          generalize w5.heap.size = base at hR
          obtain ⟨gko, rfl⟩ : ∃ j, gk = j + 1 := ⟨gk - 1, by omega⟩
          go_wp2_with (fail)
          go_loopg [12] bs.length (fun kq v12 W => ∃ (k : Nat) (S2 : St) (E2 : Enc), v12 = .int .i64 (k : Int) ∧ k + kq = bs.length ∧ putBits mdot lR (bs.take k) (⟨M, before, []⟩, E) = (S2, E2) ∧ SIn S2 ∧ S2.bits = bs.take k ∧ S2.before = before ∧ E2.ok ∧ E2.out.length ≤ E.out.length + 4 * k ∧ PW w W g S2.M E2 ∧ Kd.R (Kd.int .i64) 3 W base (fun _ => True) (.slice A2 bs.length cap2) bs)
          case atStart => exact ⟨0, ⟨M, before, []⟩, E, by simp, by omega, rfl, hS, rfl, rfl, hE, by omega, hP, hR⟩
          case round =>
            clear hP hR
            obtain ⟨k, S2, E2, rfl, hk, hput2, hS2, hSb2, hbf, hE2, hel, hP, hR⟩ := hrel
            have hC2 := (Kd.R_reads' hR).2.2
            have hcp2 := (Kd.R_reads' hR).2.1
            by_cases c2 : k < bs.length
            · have c2d : decide ((k : Int) < (bs.length : Int)) = true := decide_eq_true (by omega)
              have hlk : S2.bits.length = k := by rw [hSb2, List.length_take, Nat.min_eq_left (by omega)]
              have hctx : ∀ W, Kd.C (Kd.int .i64) W A2 k S2.bits → Calls Tryz.prog 42 #[.int .i64 before, .slice A2 k cap2] W fun e w' => e = .returned (.tuple #[v3 (cx0 S2.bits) (cx1 S2.before S2.bits) (cx2 S2.bits), .int .i64 0]) ∧ Below W.heap.size W w' := by
                intro W hW
                have := rctx_any S2.before A2 cap2 S2.bits W (by rw [hlk]; exact hW) (by omega) hS2.hb (by omega) hS2.h01
                rw [hlk] at this
                rw [← hbf]; exact this
              have hCk : Kd.C (Kd.int .i64) wr A2 k S2.bits := by
                have := Kd.C_take hC2 (m := k) (by omega)
                rw [← hSb2, hlk] at this; exact this
              obtain ⟨ad2, ead2, hx2⟩ := Kd.at_int hC2 (k : Int) (by omega) (by omega)
              cases ead2
              rw [Int.toNat_natCast] at hx2
              have hget2 := rd_get c2
              have htk2 := List.take_succ_eq_append_getElem c2
              have hb01 := h01.out _ (List.getElem_mem c2)
              rw [← hget2] at htk2 hb01
              have hmod := fun W => rp_chance hS2 W
              have hlrn := fun W => rp_learn hS2 hb01 W
              have hcod := fun W => rcode_bit E2 (rd bs (k : Int)) (chance mdot S2) W hE2 hb01 (mdot_in _ _ _ _).1 (mdot_in _ _ _ _).2 (by omega)
              have p4 := eq_true (show (0 : Int) ≤ (k : Int) by omega)
              have q4 := eq_true (show (k : Int) < (bs.length : Int) by omega)
              have q5 := eq_true (show (k : Int) ≤ (cap2 : Int) by omega)
              have hcell : ∀ W, Kd.R (Kd.int .i64) 3 W base (fun _ => True) (.slice (some ad2) bs.length cap2) bs → W.cell? (ad2.add k) = some (.int .i64 (rd bs (k : Int))) := by
                intro W h
                obtain ⟨ad', e', h'⟩ := Kd.at_int (Kd.R_reads' h).2.2 (k : Int) (by omega) (by omega)
                cases e'
                rwa [Int.toNat_natCast] at h'
              have hE3 := encB_ok (E := E2) (b := rd bs (k : Int)) (p := chance mdot S2) hE2 (mdot_in _ _ _ _).1 (mdot_in _ _ _ _).2
              have hel3 := encB_len E2 (rd bs (k : Int)) (chance mdot S2)
              obtain ⟨E3, hE3d⟩ : ∃ E3, encB E2 (rd bs (k : Int)) (chance mdot S2) = E3 := ⟨_, rfl⟩
              rw [hE3d] at hE3 hel3 hcod
              have hN2 := lrn_in hS2 hb01
              generalize rd bs (k : Int) = b at *
              obtain ⟨p, hp⟩ : ∃ p, chance mdot S2 = p := ⟨_, rfl⟩
              rw [hp] at hmod hcod
              replace hp := Lib.hid hp
              replace hE3d := Lib.hid hE3d
              obtain ⟨M3, hM3⟩ : ∃ M3, (lrn lR S2 b).M = M3 := ⟨_, rfl⟩
              rw [hM3] at hlrn
              have hM3l : M3.length = 195 := by rw [← hM3]; exact hN2.hM
              replace hM3 := Lib.hid hM3
              replace hcell := Lib.hid hcell
              replace hN2 := Lib.hid hN2
              replace hE3 := Lib.hid hE3
              unfold v3 at hctx hmod hlrn
              generalize cx0 S2.bits = c0 at *
              generalize cx1 S2.before S2.bits = c1' at *
              generalize cx2 S2.bits = c2' at *
              replace hctx := Lib.hid hctx
              replace hmod := Lib.hid hmod
              replace hlrn := Lib.hid hlrn
              replace hcod := Lib.hid hcod
              replace hput2 := Lib.hid hput2
              replace htk2 := Lib.hid htk2
              replace hb01 := Lib.hid hb01
              replace hSb2 := Lib.hid hSb2
              replace hbf := Lib.hid hbf
              replace hlk := Lib.hid hlk
              replace hx2 := Lib.hid hx2
              clear hget2
              go_wp2_with (fail)
              refine (hctx.out _ hCk).mono ?_
              rintro e w7 ⟨rfl, hb7⟩
              replace hP := hP.next hb7
              replace hR := Kd.R_below hR hb7
              clear hC2 hCk hb7 hctx
              have hNw := L.BC.new w7 [.int .i64 0, .int .i64 0, .int .i64 0] 61
              have n0 := L.BC.at_ hNw (o := 0) rfl; have n1 := L.BC.at_ hNw (o := 1) rfl; have n2 := L.BC.at_ hNw (o := 2) rfl
              have m0 := L.BC.frozen hNw 0; have m1 := L.BC.frozen hNw 1; have m2 := L.BC.frozen hNw 2
              have hgl7 := hP.lt
              have hP7 := hP.alloc (.cells #[.int .i64 c0, .int .i64 c1', .int .i64 c2'] 61)
              have hX7 := L.BC.new w7 [.int .i64 c0, .int .i64 c1', .int .i64 c2'] 61
              have hR7 := Kd.R_alloc hR (.cells #[.int .i64 c0, .int .i64 c1', .int .i64 c2'] 61)
              have y0 := L.BC.at_ hX7 (o := 0) rfl; have y1 := L.BC.at_ hX7 (o := 1) rfl; have y2 := L.BC.at_ hX7 (o := 2) rfl
              go_wp2_with (with_reducible refine wpList_load_mid rfl 63 (.tmp 4) rfl g 0 ?_ (ints S2.M) _ hP7.hM.range Tryz.underlying63 rfl hP7.hM.info ?_)
              all_goals first | (show _ = Value.pointer _; rfl) | skip
              clear n0 n1 n2 m0 m1 m2 hNw y0 y1 y2 hP hR
              have hgt1 : g + 1 ≠ w7.heap.size := Nat.ne_of_lt hgl7
              clear hgl7
              generalize w7.alloc (.cells #[.int .i64 c0, .int .i64 c1', .int .i64 c2'] 61) = w8 at hP7 hX7 hR7 ⊢
              generalize w7.heap.size = gt at hX7 hgt1 ⊢
              refine (hmod.out _).mono ?_
              rintro e w9 ⟨rfl, hb9⟩
              replace hP7 := hP7.next hb9
              replace hX7 := L.BC.below hX7 hb9
              replace hR7 := Kd.R_below hR7 hb9
              clear hb9 hmod
              go_wp2_with (fail)
              replace hP7 := hP7.drew
              replace hX7 := L.BC.drew hX7
              replace hR7 := Kd.R_drew hR7
              refine start_ (n := 13) (S := fun w' => L.BC w' (g + 1) 68 [.int .i64 E2.l, .int .i64 E2.h, .string ⟨E2.out.toArray⟩] ∧ w'.cell? (ad2.add k) = some (.int .i64 b)) (ds := [11]) #[false, false, false, false, false, false, false, false, false, false, false, false, false] (by kernel_rfl) rfl rfl ⟨hP7.hK, hcell.out _ hR7⟩ (fun hHeld => ?_)
              generalize w9.drew = wa at hP7 hX7 hR7 hHeld ⊢
              refine pure_ (i := 1) (N := (some 71)) (v := ?_) (a' := ?_) #[false, true, false, false, false, false, false, false, false, false, false, false, false] rfl rfl (by kernel_rfl) (fun _ _ _ h => h) (Or.inl ⟨by rfl, ?_⟩) ?_ ?_
              rotate_left
              · intro w'
                go_simp
                with_reducible rfl
              rotate_left
              · simp only [Act.put, List.setIfInBounds_toArray, List.set_cons_zero, List.set_cons_succ, i64_w, i32_w]
                rfl
              refine pure_ (i := 2) (N := (some 72)) (v := ?_) (a' := ?_) #[false, true, true, false, false, false, false, false, false, false, false, false, false] rfl rfl (by kernel_rfl) (fun _ _ _ h => h) (Or.inl ⟨by rfl, ?_⟩) ?_ ?_
              rotate_left
              · intro w'
                go_simp
                with_reducible rfl
              rotate_left
              · simp only [Act.put, List.setIfInBounds_toArray, List.set_cons_zero, List.set_cons_succ, i64_w, i32_w]
                rfl
              refine pure_ (i := 3) (N := (some 73)) (v := ?_) (a' := ?_) #[false, true, true, true, false, false, false, false, false, false, false, false, false] rfl rfl (by kernel_rfl) (fun _ _ _ h => h) (Or.inl ⟨by rfl, ?_⟩) ?_ ?_
              rotate_left
              · intro w'
                go_simp
                with_reducible rfl
              rotate_left
              · simp only [Act.put, List.setIfInBounds_toArray, List.set_cons_zero, List.set_cons_succ, i64_w, i32_w]
                rfl
              refine pure_ (i := 5) (N := (some 75)) (v := ?_) (a' := ?_) #[false, true, true, true, false, true, false, false, false, false, false, false, false] rfl rfl (by kernel_rfl) (fun _ _ _ h => h) (Or.inl ⟨by rfl, ?_⟩) ?_ ?_
              rotate_left
              · intro w'
                go_simp
                with_reducible rfl
              rotate_left
              · simp only [Act.put, List.setIfInBounds_toArray, List.set_cons_zero, List.set_cons_succ, i64_w, i32_w]
                rfl
              refine take_ (i := 0) (N := (some 70)) (v := .agg #[.int .i64 E2.l, .int .i64 E2.h, .string ⟨E2.out.toArray⟩]) (a' := ?_) #[true, true, true, true, false, true, false, false, false, false, false, false, false] rfl rfl (by kernel_rfl) (fun _ _ _ h => h) (Or.inl ⟨by rfl, fun w' hS => L.loads 68 (.tmp 5) (g + 1) [.int .i64 E2.l, .int .i64 E2.h, .string ⟨E2.out.toArray⟩] _ (by rfl) (by rfl) Tryz.underlying68 rfl info37 w' (And.left hS)⟩) hHeld ?_ ?_
              rotate_left
              · simp only [Act.put, List.setIfInBounds_toArray, List.set_cons_zero, List.set_cons_succ, i64_w, i32_w]
                rfl
              refine take_ (i := 4) (N := (some 74)) (v := ?_) (a' := ?_) #[true, true, true, true, true, true, false, false, false, false, false, false, false] rfl rfl (by kernel_rfl) (fun _ _ _ h => h) (Or.inl ⟨by rfl, ?_⟩) hHeld ?_ ?_
              rotate_left
              · rintro w' ⟨s0, s1⟩
                go_simp
                with_reducible rfl
              rotate_left
              · simp only [Act.put, List.setIfInBounds_toArray, List.set_cons_zero, List.set_cons_succ, i64_w, i32_w]
                rfl
              refine join_ (σ := Nat) 2 #[true, true, true, true, true, true, true, true, true, true, true, false, false] (fun s_ => [(76, (.tuple #[.agg #[.int .i64 E3.l, .int .i64 E3.h, .string ⟨E3.out.toArray⟩], .int .i64 0])), (17, .pointer (some ⟨s_, 0, none⟩)), (69, (.tuple #[.agg #[.int .i64 E3.l, .int .i64 E3.h, .string ⟨E3.out.toArray⟩], .int .i64 0])), (77, (.agg #[.int .i64 E3.l, .int .i64 E3.h, .string ⟨E3.out.toArray⟩])), (78, .int .i64 0)]) (fun s_ w' => PW w w' g S2.M E2 ∧ L.BC w' gt 61 [.int .i64 c0, .int .i64 c1', .int .i64 c2'] ∧ Kd.R (Kd.int .i64) 3 w' base (fun _ => True) (.slice (some ad2) bs.length cap2) bs ∧ L.BC w' s_ 68 [.int .i64 0, .int .i64 0, .string (⟨#[]⟩ : ByteArray)] ∧ w.heap.size ≤ s_ ∧ s_ ≠ g + 1 ∧ s_ ≠ gt ∧ s_ ≠ g) ?_ ?_
              rotate_left
              · intro hCont
                refine two_ (i := 6) (j := 10) (Ni := (some 76)) (Nj := (some 17)) #[true, true, true, true, true, true, true, false, false, false, false, false, false] #[true, true, true, true, true, true, false, false, false, false, true, false, false] rfl rfl rfl rfl (by kernel_rfl) (by decide) (by decide) (fun K hK => ?_) (fun K hK => ?_)
                ·
                  refine goes_ Tryz.func44 (by kernel_rfl) rfl #[.agg #[.int .i64 E2.l, .int .i64 E2.h, .string ⟨E2.out.toArray⟩], .int .i64 b, .int .i64 p] (by rfl) rfl rfl (by (try simp only [List.map_toArray, List.map_cons, List.map_nil]); first | done | rfl) ?_
                  refine (hcod.out _).mono ?_
                  rintro e wb ⟨rfl, hbb⟩
                  refine ⟨_, rfl, ?_⟩
                  replace hP7 := hP7.next hbb
                  replace hX7 := L.BC.below hX7 hbb
                  replace hR7 := Kd.R_below hR7 hbb
                  clear hbb
                  refine hK.out _ _ ⟨hP7.hK, hcell.out _ hR7⟩ (fun hHeld => ?_)
                  clear hK K
                  refine norm_ (a' := ?_) ?_ ?_
                  rotate_left
                  · show Act.put _ (some 76) _ = _
                    simp only [Act.put, List.setIfInBounds_toArray, List.set_cons_zero, List.set_cons_succ, i64_w, i32_w]
                    rfl
                  refine pure_ (i := 7) (N := (some 69)) (v := ?_) (a' := ?_) #[true, true, true, true, true, true, true, true, false, false, false, false, false] rfl rfl (by kernel_rfl) (fun _ _ _ h => h) (Or.inl ⟨by rfl, ?_⟩) ?_ ?_
                  rotate_left
                  · intro w'
                    go_simp
                    with_reducible rfl
                  rotate_left
                  · simp only [Act.put, List.setIfInBounds_toArray, List.set_cons_zero, List.set_cons_succ, i64_w, i32_w]
                    rfl
                  refine pure_ (i := 8) (N := (some 77)) (v := ?_) (a' := ?_) #[true, true, true, true, true, true, true, true, true, false, false, false, false] rfl rfl (by kernel_rfl) (fun _ _ _ h => h) (Or.inl ⟨by rfl, ?_⟩) ?_ ?_
                  rotate_left
                  · intro w'
                    go_simp
                    with_reducible rfl
                  rotate_left
                  · simp only [Act.put, List.setIfInBounds_toArray, List.set_cons_zero, List.set_cons_succ, i64_w, i32_w]
                    rfl
                  refine pure_ (i := 9) (N := (some 78)) (v := ?_) (a' := ?_) #[true, true, true, true, true, true, true, true, true, true, false, false, false] rfl rfl (by kernel_rfl) (fun _ _ _ h => h) (Or.inl ⟨by rfl, ?_⟩) ?_ ?_
                  rotate_left
                  · intro w'
                    go_simp
                    with_reducible rfl
                  rotate_left
                  · simp only [Act.put, List.setIfInBounds_toArray, List.set_cons_zero, List.set_cons_succ, i64_w, i32_w]
                    rfl
                  refine one_ (i := 10) (N := (some 17)) #[true, true, true, true, true, true, true, true, true, true, true, false, false] rfl rfl (by kernel_rfl) (by decide) (fun K hK => ?_)
                  refine box_step ?hg (N := 17) ?hd (cs := #[.int .i64 0, .int .i64 0, .string (⟨#[]⟩ : ByteArray)]) (t := 68) ?hr ?_; (case hd => rfl); (case hg => rfl); (case hr => first | (go_simp; done) | (go_simp; rfl))
                  intro g4 hg4 wc hbox hbc
                  have hg0 : g4 ≠ g := Nat.ne_of_gt (hg4 ▸ Nat.lt_of_succ_lt hP7.lt)
                  have hg1 : g4 ≠ g + 1 := Nat.ne_of_gt (hg4 ▸ hP7.lt)
                  have hg2 : g4 ≠ gt := Nat.ne_of_gt (hg4 ▸ hX7.lt)
                  have hle : w.heap.size ≤ g4 := hg4 ▸ hP7.hB.size
                  have HX4 : L.BC wc g4 68 [.int .i64 0, .int .i64 0, .string (⟨#[]⟩ : ByteArray)] := ⟨hbox⟩
                  replace hP7 := hP7.next hbc
                  replace hX7 := L.BC.below hX7 hbc
                  replace hR7 := Kd.R_below hR7 hbc
                  clear hbc hbox
                  refine hK.out _ _ ⟨hP7.hK, hcell.out _ hR7⟩ (fun hHeld => ?_)
                  clear hK K
                  refine norm_ (a' := ?_) ?_ ?_
                  rotate_left
                  · show Act.put _ (some 17) _ = _
                    simp only [Act.put, List.setIfInBounds_toArray, List.set_cons_zero, List.set_cons_succ, i64_w, i32_w]
                    rfl
                  exact norm_ (by first | (simp only [putAll, Act.put, List.setIfInBounds_toArray, List.set_cons_zero, List.set_cons_succ]; done) | (simp only [putAll, Act.put, List.setIfInBounds_toArray, List.set_cons_zero, List.set_cons_succ]; rfl)) (hCont g4 _ ⟨hP7, hX7, hR7, HX4, hle, hg1, hg2, hg0⟩)
                ·
                  refine box_step ?hg (N := 17) ?hd (cs := #[.int .i64 0, .int .i64 0, .string (⟨#[]⟩ : ByteArray)]) (t := 68) ?hr ?_; (case hd => rfl); (case hg => rfl); (case hr => first | (go_simp; done) | (go_simp; rfl))
                  intro g4 hg4 wc hbox hbc
                  have hg0 : g4 ≠ g := Nat.ne_of_gt (hg4 ▸ Nat.lt_of_succ_lt hP7.lt)
                  have hg1 : g4 ≠ g + 1 := Nat.ne_of_gt (hg4 ▸ hP7.lt)
                  have hg2 : g4 ≠ gt := Nat.ne_of_gt (hg4 ▸ hX7.lt)
                  have hle : w.heap.size ≤ g4 := hg4 ▸ hP7.hB.size
                  have hX4 : L.BC wc g4 68 [.int .i64 0, .int .i64 0, .string (⟨#[]⟩ : ByteArray)] := ⟨hbox⟩
                  replace hP7 := hP7.next hbc
                  replace hX7 := L.BC.below hX7 hbc
                  replace hR7 := Kd.R_below hR7 hbc
                  clear hbc hbox
                  refine hK.out _ _ ⟨hP7.hK, hcell.out _ hR7⟩ (fun hHeld => ?_)
                  clear hK K
                  refine norm_ (a' := ?_) ?_ ?_
                  rotate_left
                  · show Act.put _ (some 17) _ = _
                    simp only [Act.put, List.setIfInBounds_toArray, List.set_cons_zero, List.set_cons_succ, i64_w, i32_w]
                    rfl
                  refine one_ (i := 6) (N := (some 76)) #[true, true, true, true, true, true, true, false, false, false, true, false, false] rfl rfl (by kernel_rfl) (by decide) (fun K hK => ?_)
                  refine goes_ Tryz.func44 (by kernel_rfl) rfl #[.agg #[.int .i64 E2.l, .int .i64 E2.h, .string ⟨E2.out.toArray⟩], .int .i64 b, .int .i64 p] (by rfl) rfl rfl (by (try simp only [List.map_toArray, List.map_cons, List.map_nil]); first | done | rfl) ?_
                  refine (hcod.out _).mono ?_
                  rintro e wb ⟨rfl, hbb⟩
                  refine ⟨_, rfl, ?_⟩
                  replace hP7 := hP7.next hbb
                  replace hX7 := L.BC.below hX7 hbb
                  replace hR7 := Kd.R_below hR7 hbb
                  have HX4 := L.BC.below hX4 hbb
                  clear hbb
                  refine hK.out _ _ ⟨hP7.hK, hcell.out _ hR7⟩ (fun hHeld => ?_)
                  clear hK K
                  refine norm_ (a' := ?_) ?_ ?_
                  rotate_left
                  · show Act.put _ (some 76) _ = _
                    simp only [Act.put, List.setIfInBounds_toArray, List.set_cons_zero, List.set_cons_succ, i64_w, i32_w]
                    rfl
                  refine pure_ (i := 7) (N := (some 69)) (v := ?_) (a' := ?_) #[true, true, true, true, true, true, true, true, false, false, true, false, false] rfl rfl (by kernel_rfl) (fun _ _ _ h => h) (Or.inl ⟨by rfl, ?_⟩) ?_ ?_
                  rotate_left
                  · intro w'
                    go_simp
                    with_reducible rfl
                  rotate_left
                  · simp only [Act.put, List.setIfInBounds_toArray, List.set_cons_zero, List.set_cons_succ, i64_w, i32_w]
                    rfl
                  refine pure_ (i := 8) (N := (some 77)) (v := ?_) (a' := ?_) #[true, true, true, true, true, true, true, true, true, false, true, false, false] rfl rfl (by kernel_rfl) (fun _ _ _ h => h) (Or.inl ⟨by rfl, ?_⟩) ?_ ?_
                  rotate_left
                  · intro w'
                    go_simp
                    with_reducible rfl
                  rotate_left
                  · simp only [Act.put, List.setIfInBounds_toArray, List.set_cons_zero, List.set_cons_succ, i64_w, i32_w]
                    rfl
                  refine pure_ (i := 9) (N := (some 78)) (v := ?_) (a' := ?_) #[true, true, true, true, true, true, true, true, true, true, true, false, false] rfl rfl (by kernel_rfl) (fun _ _ _ h => h) (Or.inl ⟨by rfl, ?_⟩) ?_ ?_
                  rotate_left
                  · intro w'
                    go_simp
                    with_reducible rfl
                  rotate_left
                  · simp only [Act.put, List.setIfInBounds_toArray, List.set_cons_zero, List.set_cons_succ, i64_w, i32_w]
                    rfl
                  exact norm_ (by first | (simp only [putAll, Act.put, List.setIfInBounds_toArray, List.set_cons_zero, List.set_cons_succ]; done) | (simp only [putAll, Act.put, List.setIfInBounds_toArray, List.set_cons_zero, List.set_cons_succ]; rfl)) (hCont g4 _ ⟨hP7, hX7, hR7, HX4, hle, hg1, hg2, hg0⟩)
              rintro g4 wd ⟨hP8, hX8, hR8, hX4, hle, hg1, hg2, hg0⟩
              clear hP7 hX7 hR7 hHeld hcod
              refine norm_ (a' := ?_) ?_ ?_
              rotate_left
              · simp only [putAll, Act.put, List.setIfInBounds_toArray, List.set_cons_zero, List.set_cons_succ]
                rfl
              refine last_ (i := 11) (N := none) #[true, true, true, true, true, true, true, true, true, true, true, true, false] rfl rfl (by kernel_rfl) (by decide) (fun K hK => ?_)
              refine L.skip_over 68 (.tmp 17) (.tmp 77) g4 [.int .i64 0, .int .i64 0, .string (⟨#[]⟩ : ByteArray)] [.int .i64 E3.l, .int .i64 E3.h, .string ⟨E3.out.toArray⟩] (by rfl) rfl (by rfl) (by rfl) (by rfl) hX4 rfl info37 (by intro v hv; simp only [List.mem_cons, List.not_mem_nil, or_false] at hv; rcases hv with rfl | rfl | rfl <;> rfl) ?_
              have hP9 := hP8.beside hg0 hg1 hle [.int .i64 E3.l, .int .i64 E3.h, .string ⟨E3.out.toArray⟩]
              have hX9 := L.BC.beside hX8 hg2 [.int .i64 E3.l, .int .i64 E3.h, .string ⟨E3.out.toArray⟩]
              have hD9 := L.BC.over (R := [.int .i64 E3.l, .int .i64 E3.h, .string ⟨E3.out.toArray⟩]) hX4 rfl
              have hR9 := R_setCells (ne_ty (by decide)) [.int .i64 E3.l, .int .i64 E3.h, .string ⟨E3.out.toArray⟩] 0 wd _ hX4 hR8
              clear hP8 hX8 hR8 hX4
              generalize (World.setCells wd g4 0 [.int .i64 E3.l, .int .i64 E3.h, .string ⟨E3.out.toArray⟩]) = we at hP9 hX9 hR9 hD9 ⊢
              refine hK.out _ _ ?_
              clear hK K
              refine pure_ (i := 12) (N := (some 18)) (v := ?_) (a' := ?_) #[true, true, true, true, true, true, true, true, true, true, true, true, true] rfl rfl (by kernel_rfl) (fun _ _ _ h => h) (Or.inl ⟨by rfl, ?_⟩) ?_ ?_
              rotate_left
              · intro w'
                go_simp
                with_reducible rfl
              rotate_left
              · simp only [Act.put, List.setIfInBounds_toArray, List.set_cons_zero, List.set_cons_succ, i64_w, i32_w]
                rfl
              refine done_ (by kernel_rfl) ?_
              have d0 := L.BC.at_ hD9 (o := 0) rfl; have d1 := L.BC.at_ hD9 (o := 1) rfl; have d2 := L.BC.at_ hD9 (o := 2) rfl
              have x0 : we.cell? ⟨g + 1, 0, none⟩ = some (.int .i64 E2.l) := L.BC.at_ hP9.hK (o := 0) rfl
              have x1 : we.cell? ⟨g + 1, 1, none⟩ = some (.int .i64 E2.h) := L.BC.at_ hP9.hK (o := 1) rfl
              have x2 : we.cell? ⟨g + 1, 2, none⟩ = some (.string ⟨E2.out.toArray⟩) := L.BC.at_ hP9.hK (o := 2) rfl
              have f0 := L.BC.frozen hP9.hK 0; have f1 := L.BC.frozen hP9.hK 1; have f2 := L.BC.frozen hP9.hK 2
              have e1 : (g + 1 = g4) = False := eq_false (Ne.symm hg1)
              have e2 : (g4 = g + 1) = False := eq_false hg1
              go_wp2_with (fail)
              have hK9 : L.BC we (g + 1) 68 [.int .i64 E2.l, .int .i64 E2.h, .string ⟨E2.out.toArray⟩] := hP9.hK
              have hP7 : PW w (((we.setCell ⟨g + 1, 0, none⟩ (.int .i64 E3.l)).setCell ⟨g + 1, 1, none⟩ (.int .i64 E3.h)).setCell ⟨g + 1, 2, none⟩ (.string ⟨E3.out.toArray⟩)) g S2.M E3 := hP9.coder
              have hX7 := L.BC.far (L.BC.far (L.BC.far hX9 (p := ⟨g + 1, 0, none⟩) hgt1 (.int .i64 E3.l)) (p := ⟨g + 1, 1, none⟩) hgt1 (.int .i64 E3.h)) (p := ⟨g + 1, 2, none⟩) hgt1 (.string ⟨E3.out.toArray⟩)
              have hR7 : Kd.R (Kd.int .i64) 3 (((we.setCell ⟨g + 1, 0, none⟩ (.int .i64 E3.l)).setCell ⟨g + 1, 1, none⟩ (.int .i64 E3.h)).setCell ⟨g + 1, 2, none⟩ (.string ⟨E3.out.toArray⟩)) base (fun _ => True) (.slice (some ad2) bs.length cap2) bs :=
                R_setB (R_setB (R_setB hR9 hK9 (ne_ty (by decide)) 0 _) (L.BC.set hK9 0 _) (ne_ty (by decide)) 1 _) (L.BC.set (L.BC.set hK9 0 _) 1 _) (ne_ty (by decide)) 2 _
              clear d0 d1 d2 x0 x1 x2 f0 f1 f2 e1 e2 hP9 hX9 hR9 hD9 hK9 hle hg1 hg2 hg0
              generalize ((we.setCell ⟨g + 1, 0, none⟩ (.int .i64 E3.l)).setCell ⟨g + 1, 1, none⟩ (.int .i64 E3.h)).setCell ⟨g + 1, 2, none⟩ (.string ⟨E3.out.toArray⟩) = wf at hP7 hX7 hR7 ⊢
              replace hP7 := hP7.drew
              replace hX7 := L.BC.drew hX7
              replace hR7 := Kd.R_drew hR7
              refine start_ (n := 13) (S := fun w' => w'.rangeAt g 0 (ints S2.M) ∧ L.BC w' gt 61 [.int .i64 c0, .int .i64 c1', .int .i64 c2'] ∧ w'.cell? (ad2.add k) = some (.int .i64 b)) (ds := [11]) #[false, false, false, false, false, false, false, false, false, false, false, false, false] (by kernel_rfl) rfl rfl ⟨hP7.hM.range, hX7, hcell.out _ hR7⟩ (fun hHeld => ?_)
              generalize wf.drew = wa at hP7 hX7 hR7 hHeld ⊢
              refine pure_ (i := 2) (N := (some 83)) (v := ?_) (a' := ?_) #[false, false, true, false, false, false, false, false, false, false, false, false, false] rfl rfl (by kernel_rfl) (fun _ _ _ h => h) (Or.inl ⟨by rfl, ?_⟩) ?_ ?_
              rotate_left
              · intro w'
                go_simp
                with_reducible rfl
              rotate_left
              · simp only [Act.put, List.setIfInBounds_toArray, List.set_cons_zero, List.set_cons_succ, i64_w, i32_w]
                rfl
              refine pure_ (i := 3) (N := (some 84)) (v := ?_) (a' := ?_) #[false, false, true, true, false, false, false, false, false, false, false, false, false] rfl rfl (by kernel_rfl) (fun _ _ _ h => h) (Or.inl ⟨by rfl, ?_⟩) ?_ ?_
              rotate_left
              · intro w'
                go_simp
                with_reducible rfl
              rotate_left
              · simp only [Act.put, List.setIfInBounds_toArray, List.set_cons_zero, List.set_cons_succ, i64_w, i32_w]
                rfl
              refine pure_ (i := 4) (N := (some 85)) (v := ?_) (a' := ?_) #[false, false, true, true, true, false, false, false, false, false, false, false, false] rfl rfl (by kernel_rfl) (fun _ _ _ h => h) (Or.inl ⟨by rfl, ?_⟩) ?_ ?_
              rotate_left
              · intro w'
                go_simp
                with_reducible rfl
              rotate_left
              · simp only [Act.put, List.setIfInBounds_toArray, List.set_cons_zero, List.set_cons_succ, i64_w, i32_w]
                rfl
              refine take_ (i := 0) (N := (some 81)) (v := .agg (ints S2.M).toArray) (a' := ?_) #[true, false, true, true, true, false, false, false, false, false, false, false, false] rfl rfl (by kernel_rfl) (fun _ _ _ h => h) (Or.inl ⟨by rfl, fun w' hS => L.loadsR 63 (.tmp 4) g (ints S2.M) _ (by rfl) (by rfl) Tryz.underlying63 rfl (infoM hS2.hM) w' (And.left hS)⟩) hHeld ?_ ?_
              rotate_left
              · simp only [Act.put, List.setIfInBounds_toArray, List.set_cons_zero, List.set_cons_succ, i64_w, i32_w]
                rfl
              refine take_ (i := 1) (N := (some 82)) (v := .agg #[.int .i64 c0, .int .i64 c1', .int .i64 c2']) (a' := ?_) #[true, true, true, true, true, false, false, false, false, false, false, false, false] rfl rfl (by kernel_rfl) (fun _ _ _ h => h) (Or.inl ⟨by rfl, fun w' hS => L.loads 61 (.tmp 13) gt [.int .i64 c0, .int .i64 c1', .int .i64 c2'] _ (by rfl) (by rfl) Tryz.underlying61 rfl info3 w' ((fun h => And.left (And.right h)) hS)⟩) hHeld ?_ ?_
              rotate_left
              · simp only [Act.put, List.setIfInBounds_toArray, List.set_cons_zero, List.set_cons_succ, i64_w, i32_w]
                rfl
              refine take_ (i := 5) (N := (some 86)) (v := ?_) (a' := ?_) #[true, true, true, true, true, true, false, false, false, false, false, false, false] rfl rfl (by kernel_rfl) (fun _ _ _ h => h) (Or.inl ⟨by rfl, ?_⟩) hHeld ?_ ?_
              rotate_left
              · rintro w' ⟨s0, s1, s2⟩
                go_simp
                with_reducible rfl
              rotate_left
              · simp only [Act.put, List.setIfInBounds_toArray, List.set_cons_zero, List.set_cons_succ, i64_w, i32_w]
                rfl
              refine join_ (σ := Nat) 2 #[true, true, true, true, true, true, true, true, true, true, true, false, false] (fun s_ => [(87, (.tuple #[.agg (ints M3).toArray, .int .i64 0])), (19, .pointer (some ⟨s_, 0, none⟩)), (80, (.tuple #[.agg (ints M3).toArray, .int .i64 0])), (88, .agg (ints M3).toArray), (89, .int .i64 0)]) (fun s_ w' => PW w w' g S2.M E3 ∧ L.BC w' gt 61 [.int .i64 c0, .int .i64 c1', .int .i64 c2'] ∧ Kd.R (Kd.int .i64) 3 w' base (fun _ => True) (.slice (some ad2) bs.length cap2) bs ∧ L.BC w' s_ 63 (ints zM) ∧ w.heap.size ≤ s_ ∧ s_ ≠ g + 1 ∧ s_ ≠ gt ∧ s_ ≠ g) ?_ ?_
              rotate_left
              · intro hCont
                refine two_ (i := 6) (j := 10) (Ni := (some 87)) (Nj := (some 19)) #[true, true, true, true, true, true, true, false, false, false, false, false, false] #[true, true, true, true, true, true, false, false, false, false, true, false, false] rfl rfl rfl rfl (by kernel_rfl) (by decide) (by decide) (fun K hK => ?_) (fun K hK => ?_)
                ·
                  refine goes_ Tryz.func45 (by kernel_rfl) rfl #[.agg (ints S2.M).toArray, .agg #[.int .i64 c0, .int .i64 c1', .int .i64 c2'], .int .i64 b] (by rfl) rfl rfl (by (try simp only [List.map_toArray, List.map_cons, List.map_nil]); first | done | rfl) ?_
                  refine (hlrn.out _).mono ?_
                  rintro e wb ⟨rfl, hbb⟩
                  refine ⟨_, rfl, ?_⟩
                  replace hP7 := hP7.next hbb
                  replace hX7 := L.BC.below hX7 hbb
                  replace hR7 := Kd.R_below hR7 hbb
                  clear hbb
                  refine hK.out _ _ ⟨hP7.hM.range, hX7, hcell.out _ hR7⟩ (fun hHeld => ?_)
                  clear hK K
                  refine norm_ (a' := ?_) ?_ ?_
                  rotate_left
                  · show Act.put _ (some 87) _ = _
                    simp only [Act.put, List.setIfInBounds_toArray, List.set_cons_zero, List.set_cons_succ, i64_w, i32_w]
                    rfl
                  refine pure_ (i := 7) (N := (some 80)) (v := ?_) (a' := ?_) #[true, true, true, true, true, true, true, true, false, false, false, false, false] rfl rfl (by kernel_rfl) (fun _ _ _ h => h) (Or.inl ⟨by rfl, ?_⟩) ?_ ?_
                  rotate_left
                  · intro w'
                    go_simp
                    with_reducible rfl
                  rotate_left
                  · simp only [Act.put, List.setIfInBounds_toArray, List.set_cons_zero, List.set_cons_succ, i64_w, i32_w]
                    rfl
                  refine pure_ (i := 8) (N := (some 88)) (v := ?_) (a' := ?_) #[true, true, true, true, true, true, true, true, true, false, false, false, false] rfl rfl (by kernel_rfl) (fun _ _ _ h => h) (Or.inl ⟨by rfl, ?_⟩) ?_ ?_
                  rotate_left
                  · intro w'
                    go_simp
                    with_reducible rfl
                  rotate_left
                  · simp only [Act.put, List.setIfInBounds_toArray, List.set_cons_zero, List.set_cons_succ, i64_w, i32_w]
                    rfl
                  refine pure_ (i := 9) (N := (some 89)) (v := ?_) (a' := ?_) #[true, true, true, true, true, true, true, true, true, true, false, false, false] rfl rfl (by kernel_rfl) (fun _ _ _ h => h) (Or.inl ⟨by rfl, ?_⟩) ?_ ?_
                  rotate_left
                  · intro w'
                    go_simp
                    with_reducible rfl
                  rotate_left
                  · simp only [Act.put, List.setIfInBounds_toArray, List.set_cons_zero, List.set_cons_succ, i64_w, i32_w]
                    rfl
                  refine one_ (i := 10) (N := (some 19)) #[true, true, true, true, true, true, true, true, true, true, true, false, false] rfl rfl (by kernel_rfl) (by decide) (fun K hK => ?_)
                  refine box_step ?hg (N := 19) ?hd (cs := (ints zM).toArray) (t := 63) ?hr ?_; (case hd => rfl); (case hg => rfl); (case hr => exact alloc_model_run rfl)
                  intro g5 hg5 wc hbox hbc
                  have hg0 : g5 ≠ g := Nat.ne_of_gt (hg5 ▸ Nat.lt_of_succ_lt hP7.lt)
                  have hg1 : g5 ≠ g + 1 := Nat.ne_of_gt (hg5 ▸ hP7.lt)
                  have hg2 : g5 ≠ gt := Nat.ne_of_gt (hg5 ▸ hX7.lt)
                  have hle : w.heap.size ≤ g5 := hg5 ▸ hP7.hB.size
                  have HX4 : L.BC wc g5 63 (ints zM) := ⟨hbox⟩
                  replace hP7 := hP7.next hbc
                  replace hX7 := L.BC.below hX7 hbc
                  replace hR7 := Kd.R_below hR7 hbc
                  clear hbc hbox
                  refine hK.out _ _ ⟨hP7.hM.range, hX7, hcell.out _ hR7⟩ (fun hHeld => ?_)
                  clear hK K
                  refine norm_ (a' := ?_) ?_ ?_
                  rotate_left
                  · show Act.put _ (some 19) _ = _
                    simp only [Act.put, List.setIfInBounds_toArray, List.set_cons_zero, List.set_cons_succ, i64_w, i32_w]
                    rfl
                  exact norm_ (by first | (simp only [putAll, Act.put, List.setIfInBounds_toArray, List.set_cons_zero, List.set_cons_succ]; done) | (simp only [putAll, Act.put, List.setIfInBounds_toArray, List.set_cons_zero, List.set_cons_succ]; rfl)) (hCont g5 _ ⟨hP7, hX7, hR7, HX4, hle, hg1, hg2, hg0⟩)
                ·
                  refine box_step ?hg (N := 19) ?hd (cs := (ints zM).toArray) (t := 63) ?hr ?_; (case hd => rfl); (case hg => rfl); (case hr => exact alloc_model_run rfl)
                  intro g5 hg5 wc hbox hbc
                  have hg0 : g5 ≠ g := Nat.ne_of_gt (hg5 ▸ Nat.lt_of_succ_lt hP7.lt)
                  have hg1 : g5 ≠ g + 1 := Nat.ne_of_gt (hg5 ▸ hP7.lt)
                  have hg2 : g5 ≠ gt := Nat.ne_of_gt (hg5 ▸ hX7.lt)
                  have hle : w.heap.size ≤ g5 := hg5 ▸ hP7.hB.size
                  have hX4 : L.BC wc g5 63 (ints zM) := ⟨hbox⟩
                  replace hP7 := hP7.next hbc
                  replace hX7 := L.BC.below hX7 hbc
                  replace hR7 := Kd.R_below hR7 hbc
                  clear hbc hbox
                  refine hK.out _ _ ⟨hP7.hM.range, hX7, hcell.out _ hR7⟩ (fun hHeld => ?_)
                  clear hK K
                  refine norm_ (a' := ?_) ?_ ?_
                  rotate_left
                  · show Act.put _ (some 19) _ = _
                    simp only [Act.put, List.setIfInBounds_toArray, List.set_cons_zero, List.set_cons_succ, i64_w, i32_w]
                    rfl
                  refine one_ (i := 6) (N := (some 87)) #[true, true, true, true, true, true, true, false, false, false, true, false, false] rfl rfl (by kernel_rfl) (by decide) (fun K hK => ?_)
                  refine goes_ Tryz.func45 (by kernel_rfl) rfl #[.agg (ints S2.M).toArray, .agg #[.int .i64 c0, .int .i64 c1', .int .i64 c2'], .int .i64 b] (by rfl) rfl rfl (by (try simp only [List.map_toArray, List.map_cons, List.map_nil]); first | done | rfl) ?_
                  refine (hlrn.out _).mono ?_
                  rintro e wb ⟨rfl, hbb⟩
                  refine ⟨_, rfl, ?_⟩
                  replace hP7 := hP7.next hbb
                  replace hX7 := L.BC.below hX7 hbb
                  replace hR7 := Kd.R_below hR7 hbb
                  have HX4 := L.BC.below hX4 hbb
                  clear hbb
                  refine hK.out _ _ ⟨hP7.hM.range, hX7, hcell.out _ hR7⟩ (fun hHeld => ?_)
                  clear hK K
                  refine norm_ (a' := ?_) ?_ ?_
                  rotate_left
                  · show Act.put _ (some 87) _ = _
                    simp only [Act.put, List.setIfInBounds_toArray, List.set_cons_zero, List.set_cons_succ, i64_w, i32_w]
                    rfl
                  refine pure_ (i := 7) (N := (some 80)) (v := ?_) (a' := ?_) #[true, true, true, true, true, true, true, true, false, false, true, false, false] rfl rfl (by kernel_rfl) (fun _ _ _ h => h) (Or.inl ⟨by rfl, ?_⟩) ?_ ?_
                  rotate_left
                  · intro w'
                    go_simp
                    with_reducible rfl
                  rotate_left
                  · simp only [Act.put, List.setIfInBounds_toArray, List.set_cons_zero, List.set_cons_succ, i64_w, i32_w]
                    rfl
                  refine pure_ (i := 8) (N := (some 88)) (v := ?_) (a' := ?_) #[true, true, true, true, true, true, true, true, true, false, true, false, false] rfl rfl (by kernel_rfl) (fun _ _ _ h => h) (Or.inl ⟨by rfl, ?_⟩) ?_ ?_
                  rotate_left
                  · intro w'
                    go_simp
                    with_reducible rfl
                  rotate_left
                  · simp only [Act.put, List.setIfInBounds_toArray, List.set_cons_zero, List.set_cons_succ, i64_w, i32_w]
                    rfl
                  refine pure_ (i := 9) (N := (some 89)) (v := ?_) (a' := ?_) #[true, true, true, true, true, true, true, true, true, true, true, false, false] rfl rfl (by kernel_rfl) (fun _ _ _ h => h) (Or.inl ⟨by rfl, ?_⟩) ?_ ?_
                  rotate_left
                  · intro w'
                    go_simp
                    with_reducible rfl
                  rotate_left
                  · simp only [Act.put, List.setIfInBounds_toArray, List.set_cons_zero, List.set_cons_succ, i64_w, i32_w]
                    rfl
                  exact norm_ (by first | (simp only [putAll, Act.put, List.setIfInBounds_toArray, List.set_cons_zero, List.set_cons_succ]; done) | (simp only [putAll, Act.put, List.setIfInBounds_toArray, List.set_cons_zero, List.set_cons_succ]; rfl)) (hCont g5 _ ⟨hP7, hX7, hR7, HX4, hle, hg1, hg2, hg0⟩)
              rintro g5 wd ⟨hP8, hX8, hR8, hX4, hle5, hh1, hh2, hh0⟩
              clear hP7 hX7 hR7 hHeld hlrn
              refine norm_ (a' := ?_) ?_ ?_
              rotate_left
              · simp only [putAll, Act.put, List.setIfInBounds_toArray, List.set_cons_zero, List.set_cons_succ]
                rfl
              refine last_ (i := 11) (N := none) #[true, true, true, true, true, true, true, true, true, true, true, true, false] rfl rfl (by kernel_rfl) (by decide) (fun K hK => ?_)
              refine L.skip_row 63 (.tmp 19) (.tmp 88) g5 (ints M3) (by rfl) rfl (by rfl) (by rfl) (by rfl) (hX4.there (by rw [ints_length, ints_length, hM3l, zM_length]; exact Nat.le_refl _)) (infoM hM3l) (ints_one M3) ?_
              have hP9 := hP8.beside hh0 hh1 hle5 (ints M3)
              have hR9 := R_setCells (ne_ty (by decide)) (ints M3) 0 wd _ hX4 hR8
              have hD9 : MB (World.setCells wd g5 0 (ints M3)) g5 M3 := MB.over (L := zM) ⟨hX4.blk, zM_length⟩ hM3l
              clear hP8 hX8 hR8 hX4
              generalize (World.setCells wd g5 0 (ints M3)) = wg at hP9 hR9 hD9 ⊢
              refine hK.out _ _ ?_
              clear hK K
              refine pure_ (i := 12) (N := (some 20)) (v := ?_) (a' := ?_) #[true, true, true, true, true, true, true, true, true, true, true, true, true] rfl rfl (by kernel_rfl) (fun _ _ _ h => h) (Or.inl ⟨by rfl, ?_⟩) ?_ ?_
              rotate_left
              · intro w'
                go_simp
                with_reducible rfl
              rotate_left
              · simp only [Act.put, List.setIfInBounds_toArray, List.set_cons_zero, List.set_cons_succ, i64_w, i32_w]
                rfl
              refine done_ (by kernel_rfl) ?_
              have hP6 := PW.model hP9 hM3l
              have hR6 := R_setCells (ne_ty (by decide)) (ints M3) 0 wg _ hP9.blk hR9
              have hT9 := Lib.hid (hP9.hM.there hM3l)
              have hI9 := Lib.hid (info_M hM3l)
              clear hP9 hR9
              go_wp2_with (first | ((with_reducible refine wpList_load_mid rfl 63 (.tmp 19) rfl g5 0 ?hx (ints M3) _ hD9.range Tryz.underlying63 rfl hD9.info ?_); (case hx => show _ = Value.pointer _; rfl)) | ((with_reducible refine wpList_store_mid rfl 63 (.tmp 4) (.tmp 90) rfl g 0 (ints M3).toArray ?hx ?hy hT9.out hI9.out (all_oneCell_toArray (ints_one _)) ?_); (case hx => rfl); (case hy => rfl); generalize World.setCells _ g 0 _ = wh at hP6 hR6 ⊢))
              obtain ⟨j, rfl⟩ : ∃ j, gk = j + 1 := ⟨gk - 1, by omega⟩
              go_roundg j
              case measure => omega
              case rel =>
                refine ⟨k + 1, lrn lR S2 b, E3, by simp, by omega, ?_, hN2.out, ?_, hbf.out, hE3.out, by omega, ?_, hR6⟩
                · rw [htk2.out, putBits_append, hput2.out, ← hE3d.out]; rfl
                · show S2.bits ++ [b] = _
                  rw [htk2.out, hSb2.out]
                · rw [hM3.out]; exact hP6
            · have c2d : decide ((k : Int) < (bs.length : Int)) = false := decide_eq_false (by omega)
              have hon := Lib.hid (PG.rones_f bs (Nat.le_trans hlen2 (by decide)) (bs.length + 1) (Nat.lt_succ_self _))
              rw [List.take_of_length_le (by omega)] at hput2 hSb2
              replace hput2 := Lib.hid hput2
              replace hSb2 := Lib.hid hSb2
              replace hbf := Lib.hid hbf
              go_wp2_with (fail)
              refine (PG.descantref1_Ones.calls _ A2 cap2 bs _ _ hC2 hcp2 hon.out).mono ?_
              rintro e w7 ⟨rfl, ⟨⟨m7, rfl⟩⟩⟩
              replace hP := hP.drewN m7
              go_wp2_with (fail)
              go_roundg gko
              case measure => omega
              case rel =>
                have hpn : putNum mdot lR x (⟨M, before, []⟩, E) = (nxt S2, E2) := by
                  unfold putNum; rw [hbs.out, hput2.out]
                have hin := putNum_in (a := (⟨M, before, []⟩, E)) hS rfl hxo.out
                rw [hpn] at hin
                refine ⟨i + 1, nxt S2, E2, ?_, by simp, by omega, ?_, ?_, hin.1, hin.2, hE2, hP⟩
                · show _ = Value.int .i64 (gOnes S2.bits : Int)
                  rw [hSb2.out]
                · rw [htk.out, putNums_append, hput.out, ← hpn]; rfl
                · rw [htk.out, List.all_append, hall.out]; simp [hxo.out]
        | false =>
          rw [hxo, if_neg (by decide)] at hf
          have HF := Lib.hid hf
          clear hf
          have hno : putOk rs = false := by
            unfold putOk
            have : rs.all numOk = false := List.all_eq_false.2 ⟨x, hmem, by rw [hxo]; decide⟩
            rw [this, Bool.and_false]
          replace hno := Lib.hid hno
          replace hxo := Lib.hid hxo
          go_wp2_with (fail)
          refine (PG.descantref1_Fold.calls x 0 1000 _ HF.out).mono ?_
          rintro e w5 ⟨rfl, hd⟩
          replace hP := hP.next hd.below
          go_wp2_with (fail)
          go_ret2
          rw [← hres.out, hno.out]
          exact ⟨rfl, hP.hB⟩
      · have c1d : decide ((i : Int) < (rs.length : Int)) = false := decide_eq_false (by omega)
        rw [List.take_of_length_le (by omega)] at hput hall
        have hyes : putOk rs = true := by unfold putOk; rw [hall, decide_eq_true hlen]; rfl
        have hps : putS mdot lR newM rs = encE E := by unfold putS; rw [hput]
        replace hyes := Lib.hid hyes
        replace hps := Lib.hid hps
        have hef := PG.rend_f hE (show E.out.length ≤ 65536 by omega)
        replace hput := Lib.hid hput
        replace hall := Lib.hid hall
        replace hef := Lib.hid hef
        have y0 : wr.cell? ⟨g + 1, 0, none⟩ = some (.int .i64 E.l) := L.BC.at_ hP.hK (o := 0) rfl
        have y1 : wr.cell? ⟨g + 1, 1, none⟩ = some (.int .i64 E.h) := L.BC.at_ hP.hK (o := 1) rfl
        have y2 : wr.cell? ⟨g + 1, 2, none⟩ = some (.string ⟨E.out.toArray⟩) := L.BC.at_ hP.hK (o := 2) rfl
        go_wp2_with (fail)
        refine (PG.descantref1_EndCoder.calls 5 _ _ _ _ _ _ hef.out).mono ?_
        rintro e w4 ⟨rfl, hb4⟩
        replace hP := hP.next hb4
        clear y0 y1 y2
        go_wp2_with (fail)
        go_ret2
        rw [← hres.out, hyes.out, hps.out]
        exact ⟨rfl, hP.hB⟩
  · have d1 : decide (256 < (rs.length : Int)) = true := decide_eq_true (by omega)
    have hno : putOk rs = false := by unfold putOk; rw [decide_eq_false hlen, Bool.false_and]
    replace hno := Lib.hid hno
    clear hC hc hlen
    go_enter Tryz.func15, Tryz.ntmps15
    go_wp2_with (fail)
    go_ret2
    rw [← hres.out, hno.out]
    exact ⟨rfl, Below.refl _ _⟩
end Go.Proofs.YtiokfaiioealdaaGreatDoor
/- The document's decoder: its bytes, what it begins with, may it be, a bit; a number of bits, unfolded. -/
namespace Go.Proofs.YtiokfaiioealdaaGreatDoor
open Go.RowKit Go.Proofs.YtiokfaiioealdaaGreatDoorW.PrintWords Go.Proofs.YtiokfaiioealdaaGreatDoorW.PrintLast Go.Proofs.YtiokfaiioealdaaGreatDoorW.PrintMore Go.Proofs.YtiokfaiioealdaaGreatDoor.L
set_option linter.unusedVariables false
set_option linter.unusedSimpArgs false
theorem wrapsD (n : Int) (h₀ : 0 ≤ n) (h₁ : n < 2 ^ 62) : IntKind.i64.wrap n = n := IntWalk.i64_in n (by rw [show (2 : Int) ^ 62 = 4611686018427387904 from rfl] at h₁; omega)
theorem or_hi (i : Nat) {x y : Int} (hx : 0 ≤ x) (hx1 : x < 2 ^ i) (hi : (2 : Int) ^ i ≤ 2 ^ 62) (hy : 0 ≤ y) (hy0 : y % 2 ^ i = 0) (hy1 : y < 2 ^ 62) : Go.bits .or .i64 y x = y + x :=
  bits_join .i64 62 (by decide) wrapsD i y x hy hy0 hy1 hx hx1 (Int.lt_of_lt_of_le hx1 hi)
theorem byt_bt (s : ByteArray) {i : Nat} (c : i < s.size) : (((s[i]'c).toNat : Nat) : Int) = byt s.data.toList i := by
  have hs : s.size = s.data.toList.length := by rw [Array.length_toList]; rfl
  unfold byt
  rw [List.getD_eq_getElem?_getD, List.getElem?_eq_getElem (by omega), Option.getD_some, Array.getElem_toList]; rfl
set_option maxHeartbeats 4000000 in
theorem byteAt_any (s : ByteArray) (i : Nat) (w : World) (hs : s.size ≤ 65536) (hi : i ≤ 70000) : Calls Tryz.prog 96 #[.string s, .int .i64 (i : Int)] w fun e w' => e = .returned (.int .i64 (byt s.data.toList i)) ∧ ∃ m, w' = w.drewN m := by
  by_cases c : i < s.size
  · have hb := byt_bt s c
    have hbi := byt_in s.data.toList i
    have c1 : ((s.size : Int) ≤ (i : Int)) = False := eq_false (by omega)
    have c2 : (s.size ≤ i) = False := eq_false (by omega)
    have c3 : (i < s.size) = True := eq_true c
    go_enter Tryz.func96, Tryz.ntmps96
    go_wp2_with (fail)
    go_ret
    exact ⟨rfl, 0, rfl⟩
  · have hb : byt s.data.toList i = 0 := by
      have hs : s.size = s.data.toList.length := by rw [Array.length_toList]; rfl
      unfold byt
      rw [List.getD_eq_getElem?_getD, List.getElem?_eq_none (by omega)]
      rfl
    have c1 : ((s.size : Int) ≤ (i : Int)) = True := eq_true (by omega)
    have c2 : (s.size ≤ i) = True := eq_true (by omega)
    rw [hb]
    go_enter Tryz.func96, Tryz.ntmps96
    go_wp2_with (fail)
    go_ret
    exact ⟨rfl, 0, rfl⟩
set_option maxHeartbeats 4000000 in
theorem runfold_any (u : Nat) (w : World) (hu : u ≤ 33554432) : Calls Tryz.prog 54 #[.int .i64 (u : Int)] w fun e w' => e = .returned (.tuple #[.int .i64 (ufld u), .int .i64 0]) ∧ ∃ m, w' = w.drewN m := by
  have hup := upTo_any (u : Int) 0 33554432 w
  rw [decide_eq_true (by omega), decide_eq_true (by omega)] at hup
  have hm : Go.bits .and .i64 (u : Int) 1 = (u : Int) % 2 := PG.and_one _
  by_cases c : u % 2 = 1
  · have e : ufld u = wrap64 (-((u : Int) + 1).tdiv 2) := by
      unfold ufld
      rw [if_pos c, Int.tdiv_eq_ediv_of_nonneg (show 0 ≤ (u : Int) + 1 by omega), IntWalk.wrap64_in _ (by omega)]; omega
    have c1 : Go.bits .and .i64 (u : Int) 1 = 1 := by rw [hm]; omega
    rw [e]
    clear hm
    go_enter Tryz.func54, Tryz.ntmps54
    go_wp2_with (fail)
    refine hup.mono ?_
    rintro e w1 ⟨rfl, m, rfl⟩
    go_wp2_with (fail)
    go_ret2
    exact ⟨rfl, m, rfl⟩
  · have e : ufld u = ((u : Int).tdiv 2) := by unfold ufld; rw [if_neg c, Int.tdiv_eq_ediv_of_nonneg (by omega)]; omega
    have c1 : Go.bits .and .i64 (u : Int) 1 = 0 := by rw [hm]; omega
    rw [e]
    clear hm
    go_enter Tryz.func54, Tryz.ntmps54
    go_wp2_with (fail)
    refine hup.mono ?_
    rintro e w1 ⟨rfl, m, rfl⟩
    go_wp2_with (fail)
    go_ret2
    exact ⟨rfl, m, rfl⟩
theorem gVal_le (v : Nat) (r : List Int) : v ≤ gVal v r := by
  have h := gVal_div r v
  calc v = gVal v r / 2 ^ r.length := h.symm
    _ ≤ gVal v r := Nat.div_le_self _ _
set_option maxHeartbeats 8000000 in
set_option maxRecDepth 100000 in
theorem rnumber_any (A : Option Addr) (cap : Nat) (bs : List Int) (w : World) (hC : Kd.C (Kd.int .i64) w A bs.length bs) (hc : bs.length ≤ cap) (h01 : ∀ b ∈ bs, b = 0 ∨ b = 1) (hw : whole bs = true) (hg : gOnes bs ≤ 25) :
    Calls Tryz.prog 53 #[.slice A bs.length cap] w fun e w' => e = .returned (.tuple #[.int .i64 (if gOk bs = true then (gNum bs : Int) else 0), .int .i64 (if gOk bs = true then 0 else 1100)]) ∧ ∃ m, w' = w.drewN m := by
  obtain ⟨res, hres⟩ : ∃ r, Value.tuple #[.int .i64 (if gOk bs = true then (gNum bs : Int) else 0), .int .i64 (if gOk bs = true then 0 else 1100)] = r := ⟨_, rfl⟩
  rw [hres]
  unfold whole at hw
  simp only [Bool.and_eq_true, decide_eq_true_eq] at hw
  obtain ⟨hz, hl⟩ := hw
  have hz0 : bs[gOnes bs]? = some 0 := by unfold isZ at hz; exact of_decide_eq_true hz
  have hall : (bs.drop (gOnes bs + 1)).all isBit = true := List.all_eq_true.2 fun b hb => by
    have := h01 b (List.mem_of_mem_drop hb)
    unfold isBit; rcases this with rfl | rfl <;> rfl
  have hok : gOk bs = decide (gVal 1 (bs.drop (gOnes bs + 1)) ≤ 33554433) := by
    unfold gOk
    rw [decide_eq_true hg, decide_eq_true hl, decide_eq_true hz0, hall]; rfl
  have hr := gVal_range (bs.drop (gOnes bs + 1))
  have hdl : (bs.drop (gOnes bs + 1)).length = gOnes bs := by rw [List.length_drop]; omega
  have hV26 : gVal 1 (bs.drop (gOnes bs + 1)) < 67108864 := by
    refine Nat.lt_of_lt_of_le hr.2 ?_
    rw [hdl]
    exact Nat.pow_le_pow_right (n := 2) (by decide) (show gOnes bs + 1 ≤ 26 by omega)
  have hV1 : 1 ≤ gVal 1 (bs.drop (gOnes bs + 1)) := gVal_le 1 _
  unfold gNum at hres
  rw [hok] at hres
  have hones := Lib.hid (PG.rones_f bs (by omega) (bs.length + 1) (by omega))
  have hrk : rd bs (gOnes bs : Int) = 0 := by
    have hlt := (List.getElem?_eq_some_iff.1 hz0)
    rw [rd_get hlt.1]; exact hlt.2
  obtain ⟨V, hV⟩ : ∃ V, gVal 1 (bs.drop (gOnes bs + 1)) = V := ⟨_, rfl⟩
  rw [hV] at hres hV26 hV1
  obtain ⟨k, hk⟩ : ∃ k, gOnes bs = k := ⟨_, rfl⟩
  rw [hk] at hones hrk hg hl hV
  obtain ⟨ad0, ead0, hxk⟩ := Kd.at_int hC (k : Int) (by omega) (by omega)
  rw [hrk, Int.toNat_natCast] at hxk
  replace hres := Lib.hid hres
  have hC0 := Lib.hid hC
  replace h01 := Lib.hid h01
  replace hV := Lib.hid hV
  replace hxk := Lib.hid hxk
  have wk1 : IntKind.i64.wrap (2 * (k : Int)) = 2 * (k : Int) := IntWalk.i64_in _ (by omega)
  have wk2 : IntKind.i64.wrap (2 * (k : Int) + 1) = 2 * (k : Int) + 1 := IntWalk.i64_in _ (by omega)
  have wk3 : IntKind.i64.wrap ((k : Int) + 1) = (k : Int) + 1 := IntWalk.i64_in _ (by omega)
  have e1 : ((bs.length : Int) = 2 * (k : Int) + 1) = True := eq_true (by omega)
  have ne1 : ((bs.length : Int) != 2 * (k : Int) + 1) = false := bne_eq_false_iff_eq.2 (by omega)
  have e2 : ((25 : Int) < (k : Int)) = False := eq_false (by omega)
  have p1 : ((0 : Int) ≤ (k : Int)) = True := eq_true (by omega)
  have p2 : ((k : Int) < (bs.length : Int)) = True := eq_true (by omega)
  have hbk : k + 1 ≤ bs.length := by omega
  have hb51 : bs.length ≤ 51 := by omega
  replace hl := Lib.hid hl
  cases ead0
  clear hC hz hz0 hall hok hr hdl hrk hk
  go_enter Tryz.func53, Tryz.ntmps53
  go_wp2_with (fail)
  refine (PG.descantref1_Ones.calls _ (some ad0) cap bs _ _ hC0.out hc hones.out).mono ?_
  rintro e w1 ⟨rfl, ⟨⟨m1, rfl⟩⟩⟩
  go_wp2_with (fail)
  go_loopg [5, 6] (bs.length - (k + 1)) (fun kq v5 v6 W => ∃ (i v m : Nat), v5 = .int .i64 (v : Int) ∧ v6 = .int .i64 (i : Int) ∧ i + kq = bs.length ∧ k + 1 ≤ i ∧ gVal v (bs.drop i) = V ∧ W = w.drewN m)
  case atStart => exact ⟨k + 1, 1, m1, rfl, by simp, by omega, by omega, hV.out, rfl⟩
  case round =>
    obtain ⟨i, v, m, rfl, rfl, hi, hki, hv, rfl⟩ := hrel
    have hvV : v ≤ V := by rw [← hv]; exact gVal_le v _
    have hCW := Kd.C_drewN hC0.out m
    by_cases c1 : i < bs.length
    · have c1d : decide ((i : Int) < (bs.length : Int)) = true := decide_eq_true (by omega)
      obtain ⟨ad, ead, hx⟩ := Kd.at_int hCW (i : Int) (by omega) (by omega)
      cases ead
      rw [Int.toNat_natCast] at hx
      have p3 := eq_true (show (0 : Int) ≤ (i : Int) by omega)
      have q3 := eq_true (show (i : Int) < (bs.length : Int) by omega)
      have hb01 := h01.out _ (List.getElem_mem c1)
      have hdr := List.drop_eq_getElem_cons c1
      rw [← rd_get c1] at hb01 hdr
      generalize rd bs (i : Int) = b at *
      rw [hdr] at hv
      have hv2 : gVal (2 * v + (b % 2).toNat) (bs.drop (i + 1)) = V := hv
      have hvV2 : 2 * v + (b % 2).toNat ≤ V := by rw [← hv2]; exact gVal_le _ _
      have hbv : 2 * (v : Int) + b = ((2 * v + (b % 2).toNat : Nat) : Int) := by omega
      have hmay := fun w1 => rbit_may b w1 hb01
      have hbb : 0 ≤ b ∧ b ≤ 1 := by omega
      have wv1 : IntKind.i64.wrap (2 * (v : Int)) = 2 * (v : Int) := IntWalk.i64_in _ (by omega)
      have wv2 : IntKind.i64.wrap (2 * (v : Int) + b) = 2 * (v : Int) + b := IntWalk.i64_in _ (by omega)
      have hxs : ∀ n, (w.drewN n).cell? (ad0.add i) = some (.int .i64 b) := fun n => hx
      clear hdr hb01 hv
      replace hbv := Lib.hid hbv
      replace hv2 := Lib.hid hv2
      replace hmay := Lib.hid hmay
      go_wp2_with (fail)
      refine (hmay.out _).mono ?_
      rintro e w6 ⟨rfl, m6, rfl⟩
      rw [World.drewN_drewN]
      go_wp2_with (fail)
      obtain ⟨j, rfl⟩ : ∃ j, gk = j + 1 := ⟨gk - 1, by omega⟩
      go_roundg j
      case measure => omega
      case rel => exact ⟨i + 1, 2 * v + (b % 2).toNat, _, by rw [hbv.out], by simp, by omega, by omega, hv2.out, rfl⟩
    · have c1d : decide ((i : Int) < (bs.length : Int)) = false := decide_eq_false (by omega)
      rw [List.drop_eq_nil_of_le (by omega)] at hv
      have hv : v = V := hv
      subst hv
      have hxs : ∀ n, (w.drewN n).cell? (ad0.add k) = some (.int .i64 0) := fun n => hxk.out
      have wv : IntKind.i64.wrap ((v : Int) - 1) = (v : Int) - 1 := IntWalk.i64_in _ (by omega)
      by_cases hle : v ≤ 33554433
      · have d1 : decide ((33554432 : Int) < (v : Int) - 1) = false := decide_eq_false (by omega)
        have hr := hres.out
        rw [decide_eq_true hle, if_pos rfl, if_pos rfl, show ((v - 1 : Nat) : Int) = (v : Int) - 1 by omega] at hr
        replace hr := Lib.hid hr
        go_wp2_with (fail)
        go_ret2
        exact ⟨by rw [← hr.out]; rfl, m, rfl⟩
      · have d1 : decide ((33554432 : Int) < (v : Int) - 1) = true := decide_eq_true (by omega)
        have hr := hres.out
        rw [decide_eq_false hle, if_neg (by decide), if_neg (by decide)] at hr
        replace hr := Lib.hid hr
        go_wp2_with (fail)
        go_ret2
        exact ⟨by rw [← hr.out]; rfl, m, rfl⟩
theorem rbetween_f {l h : Int} (he : Ends l h) : PG.descantref1_between.f l h = some true := by
  obtain ⟨a, b, c⟩ := he
  unfold PG.descantref1_between.f PG.descantref1_word.f PG.descantref1_upTo.f
  rw [if_pos a, decide_eq_true (show l ≤ 4294967295 by omega)]
  simp only [Option.bind_some, if_true]
  rw [if_pos (show h ≥ 0 by omega), decide_eq_true b]
  simp only [Option.bind_some, if_true]
  rw [decide_eq_true (show h / 16777216 > l / 16777216 by omega)]
set_option maxHeartbeats 8000000 in
set_option maxRecDepth 100000 in
theorem rdmay_any (s : ByteArray) (D : Dec) (w : World) (hs : s.size ≤ 65536) (hd : PG.DOk s.data.toList D) (hi : D.i ≤ 65540) :
    Calls Tryz.prog 97 #[.agg (decC s D).toArray] w fun e w' => e = .returned (.bool true) ∧ Below w.heap.size w w' := by
  obtain ⟨l, h, i⟩ := D
  obtain ⟨he, f1, f2⟩ := hd
  simp only [] at he f1 f2 hi
  have hbt := Lib.hid (rbetween_f he)
  obtain ⟨xw, hxw⟩ : ∃ xw, win s.data.toList i = xw := ⟨_, rfl⟩
  unfold decC
  simp only []
  rw [hxw] at f1 f2 ⊢
  have hu1 := fun W => upTo_any xw l h W
  have hu2 := fun W => upTo_any ((i : Int) + 4) 4 65544 W
  rw [decide_eq_true f1, decide_eq_true f2] at hu1
  rw [decide_eq_true (show (4 : Int) ≤ (i : Int) + 4 by omega), decide_eq_true (show (i : Int) + 4 ≤ 65544 by omega)] at hu2
  generalize (i : Int) + 4 = at0 at hu2 ⊢
  replace hu1 := Lib.hid hu1
  replace hu2 := Lib.hid hu2
  have ds : ((s.size : Int) ≤ 65536) = True := eq_true (by omega)
  clear he f1 f2 hxw
  go_enter Tryz.func97, Tryz.ntmps97
  go_wp2_with (first | ((with_reducible refine gate_dst (N := 1) rfl ?_); refine box_event ?hg (N := 1) ?hd (cs := #[.int .i64 l, .int .i64 h, .int .i64 xw, .string s, .int .i64 at0]) (t := 87) ?hr ?_; (case hd => rfl); (case hg => rfl); (case hr => first | (go_simp; done) | (go_simp; rfl)); intro gx hgx w1 hbox hb1; have hX : L.BC w1 gx 87 [.int .i64 l, .int .i64 h, .int .i64 xw, .string s, .int .i64 at0] := ⟨hbox⟩; have hB := hb1; have x0 := L.BC.at_ hX (o := 0) rfl; have x1 := L.BC.at_ hX (o := 1) rfl; clear hbox hb1 hgx))
  refine (PG.descantref1_between.calls l h true _ hbt.out).mono ?_
  rintro e w3 ⟨rfl, ⟨⟨m3, rfl⟩⟩⟩
  replace hX := L.BC.drewN hX m3
  replace hB := L.below_drewN hB m3
  clear x0 x1
  generalize w1.drewN m3 = w4 at hX hB ⊢
  have x0 := L.BC.at_ hX (o := 0) rfl; have x1 := L.BC.at_ hX (o := 1) rfl; have x2 := L.BC.at_ hX (o := 2) rfl
  go_wp2_with (fail)
  refine (hu1.out _).mono ?_
  rintro e w5 ⟨rfl, m5, rfl⟩
  replace hX := L.BC.drewN hX m5
  replace hB := L.below_drewN hB m5
  clear x0 x1 x2
  generalize w4.drewN m5 = w6 at hX hB ⊢
  have x3 := L.BC.at_ hX (o := 3) rfl; have x4 := L.BC.at_ hX (o := 4) rfl
  go_wp2_with (fail)
  refine (hu2.out _).mono ?_
  rintro e w5 ⟨rfl, m7, rfl⟩
  replace hB := L.below_drewN hB m7
  go_wp2_with (fail)
  go_ret
  exact ⟨rfl, hB⟩
theorem win_or (s : List UInt8) : Go.bits .or .i64 (Go.bits .or .i64 (Go.bits .or .i64 (byt s 0 * 16777216) (byt s 1 * 65536)) (byt s 2 * 256)) (byt s 3) = win s 0 := by
  have b0 := byt_in s 0
  have b1 := byt_in s 1
  have b2 := byt_in s 2
  have b3 := byt_in s 3
  have e62 : (2 : Int) ^ 62 = 4611686018427387904 := rfl
  have e24 : (2 : Int) ^ 24 = 16777216 := rfl
  have e16 : (2 : Int) ^ 16 = 65536 := rfl
  have e8 : (2 : Int) ^ 8 = 256 := rfl
  rw [or_hi 24 (x := byt s 1 * 65536) (y := byt s 0 * 16777216) (by omega) (by omega) (by decide) (by omega) (by omega) (by omega)]
  rw [or_hi 16 (x := byt s 2 * 256) (by omega) (by omega) (by decide) (by omega) (by omega) (by omega)]
  rw [or_hi 8 (x := byt s 3) (by omega) (by omega) (by decide) (by omega) (by omega) (by omega)]
  unfold win
  simp only [Nat.zero_add]
set_option maxHeartbeats 8000000 in
set_option maxRecDepth 100000 in
theorem rnewdec_no (s : ByteArray) (w : World) (hs : ¬ s.size ≤ 65536) :
    Calls Tryz.prog 50 #[.string s] w fun e w' => e = .returned (.tuple #[.agg #[.int .i64 0, .int .i64 0, .int .i64 0, .string ⟨#[]⟩, .int .i64 0], .int .i64 500]) ∧ Below w.heap.size w w' := by
  have d1 : decide ((65536 : Int) < (s.size : Int)) = true := decide_eq_true (by omega)
  have hZ := L.BC.new w [.int .i64 0, .int .i64 0, .int .i64 0, .string ⟨#[]⟩, .int .i64 0] 87
  have hB := L.below_alloc (Below.refl w.heap.size w) (.cells #[.int .i64 0, .int .i64 0, .int .i64 0, .string ⟨#[]⟩, .int .i64 0] 87)
  go_enter Tryz.func50, Tryz.ntmps50
  go_wp2_with (fail)
  exact bodyPost_ret (L.bc_resultst (P := Tryz.prog) Tryz.results50 _ _ w.heap.size _ _ rfl hZ.range Tryz.underlying87 rfl info56) rfl ⟨rfl, hB⟩
set_option maxHeartbeats 8000000 in
set_option maxRecDepth 100000 in
theorem rnewdec_yes (s : ByteArray) (w : World) (hs : s.size ≤ 65536) :
    Calls Tryz.prog 50 #[.string s] w fun e w' => e = .returned (.tuple #[.agg (decC s dec0).toArray, .int .i64 0]) ∧ Below w.heap.size w w' := by
  have hb := fun (i : Nat) (h : i ≤ 70000) W => byteAt_any s i W hs h
  have hwo := win_or s.data.toList
  have b0 := byt_in s.data.toList 0
  have b1 := byt_in s.data.toList 1
  have b2 := byt_in s.data.toList 2
  have b3 := byt_in s.data.toList 3
  have h0 := hb 0 (by decide)
  have h1 := hb 1 (by decide)
  have h2 := hb 2 (by decide)
  have h3 := hb 3 (by decide)
  have d1 : decide ((65536 : Int) < (s.size : Int)) = false := decide_eq_false (by omega)
  unfold decC dec0
  simp only []
  generalize byt s.data.toList 0 = c0 at *
  generalize byt s.data.toList 1 = c1 at *
  generalize byt s.data.toList 2 = c2 at *
  generalize byt s.data.toList 3 = c3 at *
  generalize win s.data.toList 0 = xw at *
  replace h0 := Lib.hid h0
  replace h1 := Lib.hid h1
  replace h2 := Lib.hid h2
  replace h3 := Lib.hid h3
  have hZ := L.BC.new w [.int .i64 0, .int .i64 0, .int .i64 0, .string ⟨#[]⟩, .int .i64 0] 87
  have hB := L.below_alloc (Below.refl w.heap.size w) (.cells #[.int .i64 0, .int .i64 0, .int .i64 0, .string ⟨#[]⟩, .int .i64 0] 87)
  clear hb
  go_enter Tryz.func50, Tryz.ntmps50
  go_wp2_with (fail)
  refine (h0.out _).mono ?_
  rintro e w5 ⟨rfl, m0, rfl⟩
  go_wp2_with (fail)
  refine (h1.out _).mono ?_
  rintro e w5 ⟨rfl, m1, rfl⟩
  go_wp2_with (fail)
  refine (h2.out _).mono ?_
  rintro e w5 ⟨rfl, m2, rfl⟩
  go_wp2_with (fail)
  refine (h3.out _).mono ?_
  rintro e w5 ⟨rfl, m3, rfl⟩
  have hZ4 := L.BC.drewN (L.BC.drewN hZ (m0 + m1 + m2)) m3
  have hB4 := L.below_drewN (L.below_drewN hB (m0 + m1 + m2)) m3
  clear hZ hB h0 h1 h2 h3
  generalize ((w.alloc (.cells #[.int .i64 0, .int .i64 0, .int .i64 0, .string ⟨#[]⟩, .int .i64 0] 87)).drewN (m0 + m1 + m2)).drewN m3 = w4 at hZ4 hB4 ⊢
  have z0 := L.BC.at_ hZ4 (o := 0) rfl; have z1 := L.BC.at_ hZ4 (o := 1) rfl; have z2 := L.BC.at_ hZ4 (o := 2) rfl; have z3 := L.BC.at_ hZ4 (o := 3) rfl; have z4 := L.BC.at_ hZ4 (o := 4) rfl
  have g0 := L.BC.frozen hZ4 0; have g1 := L.BC.frozen hZ4 1; have g2 := L.BC.frozen hZ4 2; have g3 := L.BC.frozen hZ4 3; have g4 := L.BC.frozen hZ4 4
  go_wp2_with (fail)
  have hZ5 := L.BC.set (L.BC.set (L.BC.set (L.BC.set (L.BC.set hZ4 0 (.int .i64 0)) 1 (.int .i64 4294967295)) 2 (.int .i64 xw)) 3 (.string s)) 4 (.int .i64 4)
  have hB5 := ((((hB4.setCell (p := ⟨w.heap.size, 0, none⟩) (Nat.le_refl _) (.int .i64 0)).setCell (p := ⟨w.heap.size, 1, none⟩) (Nat.le_refl _) (.int .i64 4294967295)).setCell (p := ⟨w.heap.size, 2, none⟩) (Nat.le_refl _) (.int .i64 xw)).setCell (p := ⟨w.heap.size, 3, none⟩) (Nat.le_refl _) (.string s)).setCell (p := ⟨w.heap.size, 4, none⟩) (Nat.le_refl _) (.int .i64 4)
  exact bodyPost_ret (L.bc_resultst (P := Tryz.prog) Tryz.results50 _ _ w.heap.size _ _ rfl hZ5.range Tryz.underlying87 rfl info56) rfl ⟨rfl, hB5⟩
end Go.Proofs.YtiokfaiioealdaaGreatDoor
/- descantref1.DecodeBit, where its decoder may be: what it gives. -/
namespace Go.Proofs.YtiokfaiioealdaaGreatDoor
open Go.RowKit Go.Proofs.YtiokfaiioealdaaGreatDoorW.PrintWords Go.Proofs.YtiokfaiioealdaaGreatDoorW.PrintLast Go.Proofs.YtiokfaiioealdaaGreatDoorW.PrintMore Go.Proofs.YtiokfaiioealdaaGreatDoor.L
set_option linter.unusedVariables false
set_option linter.unusedSimpArgs false
theorem or_upb {x b : Int} (h0 : 0 ≤ x) (h1 : x ≤ 4294967295) (hb : 0 ≤ b) (hb1 : b ≤ 255) : Go.bits .or .i64 (up x 0) b = up x b := by
  have := PG.or_byte (V := x % 16777216) (x := b) (by omega) (by omega) hb hb1
  rw [show up x 0 = x % 16777216 * 256 by unfold up; omega, this]
  unfold up; omega
set_option maxHeartbeats 8000000 in
set_option maxRecDepth 100000 in
theorem rdec_bit (s : ByteArray) (D : Dec) (p : Int) (w : World) (hs : s.size ≤ 65536) (hd : PG.DOk s.data.toList D) (hi : D.i ≤ 65540) (p1 : 1 ≤ p) (p2 : p ≤ 4095) :
    Calls Tryz.prog 52 #[.agg (decC s D).toArray, .int .i64 p] w fun e w' => e = .returned (decR s D p) ∧ Below w.heap.size w w' := by
  obtain ⟨res, hres⟩ : ∃ r, decR s D p = r := ⟨_, rfl⟩
  rw [hres]
  obtain ⟨l, h, i⟩ := D
  simp only [] at hi ⊢
  have hmay := fun W => rdmay_any s ⟨l, h, i⟩ W hs hd hi
  have hch := fun W => rchance_any p W ⟨p1, p2⟩
  have hwin := win_in s.data.toList i
  obtain ⟨⟨a, c, d⟩, f1, f2⟩ := hd
  simp only [] at a c d f1 f2
  have hm := mid_in (show l < h by omega) p1 p2
  have hmid := fun W => rmid_any l h p W a (show l < h by omega) c p1 p2
  obtain ⟨V, hV⟩ : ∃ V, decV s.data.toList ⟨l, h, i⟩ p = V := ⟨_, rfl⟩
  obtain ⟨R, hR⟩ : ∃ R, encR ⟨l, h, []⟩ V p = R := ⟨_, rfl⟩
  have hdB : decB s.data.toList ⟨l, h, i⟩ p = ⟨R.1, R.2.1, i + R.2.2.length⟩ := by unfold decB; rw [hV, hR]
  unfold decR at hres
  rw [hdB, hV] at hres
  have hRd : R = if V = 1 then norm 4 l (mid l h p) else norm 4 (mid l h p + 1) h := by rw [← hR]; rfl
  have hVd : V = if win s.data.toList i ≤ mid l h p then 1 else 0 := by rw [← hV]; rfl
  clear hR hV hdB
  unfold decC at hres hmay ⊢
  simp only [] at hres hmay ⊢
  generalize hat : (i : Int) + 4 = at0 at hmay ⊢
  generalize hx : win s.data.toList i = xw at *
  generalize mid l h p = md at *
  have wm : IntKind.i64.wrap (md + 1) = md + 1 := IntWalk.i64_in _ (by omega)
  have hq : (xw ≤ md ∧ V = 1 ∧ R = norm 4 l md) ∨ (¬ xw ≤ md ∧ V = 0 ∧ R = norm 4 (md + 1) h) := by
    by_cases hc : xw ≤ md
    · rw [if_pos hc] at hVd; subst hVd; rw [if_pos rfl] at hRd; exact .inl ⟨hc, rfl, hRd⟩
    · rw [if_neg hc] at hVd; subst hVd; rw [if_neg (by decide)] at hRd; exact .inr ⟨hc, rfl, hRd⟩
  clear hRd hVd
  replace hres := Lib.hid hres
  replace hmay := Lib.hid hmay
  replace hch := Lib.hid hch
  replace hmid := Lib.hid hmid
  replace hat := Lib.hid hat
  replace hx := Lib.hid hx
  go_enter Tryz.func52, Tryz.ntmps52
  go_wp2_with (first | ((with_reducible refine gate_dst (N := 2) rfl ?_); refine box_event ?hg (N := 2) ?hd (cs := #[.int .i64 l, .int .i64 h, .int .i64 xw, .string s, .int .i64 at0]) (t := 87) ?hr ?_; (case hd => rfl); (case hg => rfl); (case hr => first | (go_simp; done) | (go_simp; rfl)); intro gx hgx w1 hbox hb1; have hX : L.BC w1 gx 87 [.int .i64 l, .int .i64 h, .int .i64 xw, .string s, .int .i64 at0] := ⟨hbox⟩; have hB := hb1; have hlt := L.BC.lt hX; have hX1 := L.BC.alloc hX (.cells #[.int .i64 0, .int .i64 0, .int .i64 0, .string ⟨#[]⟩, .int .i64 0] 87); have hZ := L.BC.new w1 [.int .i64 0, .int .i64 0, .int .i64 0, .string ⟨#[]⟩, .int .i64 0] 87; have hB1 := L.below_alloc hB (.cells #[.int .i64 0, .int .i64 0, .int .i64 0, .string ⟨#[]⟩, .int .i64 0] 87); have hgl : w.heap.size ≤ gx := Nat.le_of_eq hgx.symm; have x0 := L.BC.at_ hX1 (o := 0) rfl; have x1 := L.BC.at_ hX1 (o := 1) rfl; have x2 := L.BC.at_ hX1 (o := 2) rfl; have x3 := L.BC.at_ hX1 (o := 3) rfl; have x4 := L.BC.at_ hX1 (o := 4) rfl; clear hbox hb1 hX hB hgx))
  have hne : w1.heap.size ≠ gx := Nat.ne_of_gt hlt
  have hgz : w.heap.size ≤ w1.heap.size := by have := hlt; omega
  generalize w1.alloc (.cells #[.int .i64 0, .int .i64 0, .int .i64 0, .string ⟨#[]⟩, .int .i64 0] 87) = w2 at hX1 hZ hB1 x0 x1 x2 x3 x4 ⊢
  generalize w1.heap.size = gz at *
  refine (hmay.out _).mono ?_
  rintro e w3 ⟨rfl, hbl⟩
  replace hX1 := L.BC.below hX1 hbl
  replace hZ := L.BC.below hZ hbl
  replace hB1 := L.below_next hB1 hbl
  clear hbl x0 x1 x2 x3 x4
  go_wp2_with (fail)
  refine (hch.out _).mono ?_
  rintro e w4 ⟨rfl, m4, rfl⟩
  replace hX1 := L.BC.drewN hX1 m4
  replace hZ := L.BC.drewN hZ m4
  replace hB1 := L.below_drewN hB1 m4
  have x0 := L.BC.at_ hX1 (o := 0) rfl; have x1 := L.BC.at_ hX1 (o := 1) rfl
  generalize w3.drewN m4 = w5 at hX1 hZ hB1 x0 x1 ⊢
  go_wp2_with (fail)
  refine (hmid.out _).mono ?_
  rintro e w6 ⟨rfl, m6, rfl⟩
  replace hX1 := L.BC.drewN hX1 m6
  replace hZ := L.BC.drewN hZ m6
  replace hB1 := L.below_drewN hB1 m6
  clear x0 x1
  generalize w5.drewN m6 = w7 at hX1 hZ hB1 ⊢
  have hRl : R.2.2.length ≤ 4 := by rcases hq with ⟨-, -, hR⟩ | ⟨-, -, hR⟩ <;> rw [hR] <;> exact norm_len _ _ _
  have x0 := L.BC.at_ hX1 (o := 0) rfl; have g0 := L.BC.frozen hX1 0; have x1 := L.BC.at_ hX1 (o := 1) rfl; have g1 := L.BC.frozen hX1 1; have x2 := L.BC.at_ hX1 (o := 2) rfl
  clear hmay hch hmid
  have hst : ∃ l1 h1, R = norm 4 l1 h1 ∧ 0 ≤ l1 ∧ l1 ≤ h1 ∧ h1 ≤ 4294967295 ∧ (xw ≤ md → l1 = l ∧ h1 = md) ∧ (¬ xw ≤ md → l1 = md + 1 ∧ h1 = h) := by
    rcases hq with ⟨hc, -, hR1⟩ | ⟨hc, -, hR1⟩
    · exact ⟨l, md, hR1, by omega, by omega, by omega, fun _ => ⟨rfl, rfl⟩, fun h => absurd hc h⟩
    · exact ⟨md + 1, h, hR1, by omega, by omega, by omega, fun h => absurd h (by omega), fun _ => ⟨rfl, rfl⟩⟩
  obtain ⟨l1, h1, hR1, q1, q2, q3, qb1, qb0⟩ := hst
  have hE4 := norm4 q1 q2 q3
  replace hR1 := Lib.hid hR1
  replace hE4 := Lib.hid hE4
  rcases hq with ⟨hc, rfl, -⟩ | ⟨hc, rfl, -⟩
  have dq : (xw ≤ md) = True := eq_true hc
  obtain ⟨rfl, rfl⟩ := qb1 hc
  replace hc := Lib.hid hc
  clear qb1 qb0
  go_wp2_with (fail)
  have hX9 := L.BC.set hX1 1 (.int .i64 h1)
  have hZ9 := L.BC.far hZ (p := ⟨gx, 1, none⟩) (Ne.symm hne) (.int .i64 h1)
  have hB9 := hB1.setCell (p := ⟨gx, 1, none⟩) hgl (.int .i64 h1)
  clear hX1 hZ hB1 x0 x1 x2 g0 g1 dq
  replace hX9 : L.BC (w7.setCell ⟨gx, 1, none⟩ (.int .i64 h1)) gx 87 [.int .i64 l1, .int .i64 h1, .int .i64 xw, .string s, .int .i64 at0] := hX9
  generalize w7.setCell ⟨gx, 1, none⟩ (.int .i64 h1) = w9 at hX9 hZ9 hB9 ⊢
  rotate_left
  have dq : (xw ≤ md) = False := eq_false (by omega)
  obtain ⟨e_l, rfl⟩ := qb0 (by omega)
  subst e_l
  replace hc := Lib.hid hc
  clear qb1 qb0
  go_wp2_with (fail)
  have hX9 := L.BC.set hX1 0 (.int .i64 (md + 1))
  have hZ9 := L.BC.far hZ (p := ⟨gx, 0, none⟩) (Ne.symm hne) (.int .i64 (md + 1))
  have hB9 := hB1.setCell (p := ⟨gx, 0, none⟩) hgl (.int .i64 (md + 1))
  clear hX1 hZ hB1 x0 x1 x2 g0 g1 dq
  replace hX9 : L.BC (w7.setCell ⟨gx, 0, none⟩ (.int .i64 (md + 1))) gx 87 [.int .i64 (md + 1), .int .i64 h1, .int .i64 xw, .string s, .int .i64 at0] := hX9
  generalize w7.setCell ⟨gx, 0, none⟩ (.int .i64 (md + 1)) = w9 at hX9 hZ9 hB9 ⊢
  rotate_left
  all_goals
    go_loopg [] 5 (fun kq W => ∃ (n : Nat) (l2 h2 : Int) (i2 : Nat) (x2 at2 : Int), n + 1 = kq ∧ 0 ≤ l2 ∧ l2 ≤ h2 ∧ h2 ≤ 4294967295 ∧ Ends (norm n l2 h2).1 (norm n l2 h2).2.1 ∧ (norm n l2 h2).1 = R.1 ∧ (norm n l2 h2).2.1 = R.2.1 ∧ i2 + (norm n l2 h2).2.2.length = i + R.2.2.length ∧ i2 + n ≤ 65544 ∧ win s.data.toList i2 = x2 ∧ (i2 : Int) + 4 = at2 ∧ L.BC W gx 87 [.int .i64 l2, .int .i64 h2, .int .i64 x2, .string s, .int .i64 at2] ∧ L.BC W gz 87 [.int .i64 0, .int .i64 0, .int .i64 0, .string ⟨#[]⟩, .int .i64 0] ∧ Below w.heap.size w W)
    case atStart => exact ⟨4, _, _, i, xw, at0, rfl, q1, q2, q3, hE4.out, by rw [hR1.out], by rw [hR1.out], by rw [hR1.out], by omega, hx.out, hat.out, hX9, hZ9, hB9⟩
    case round =>
      clear hX9 hZ9 hB9 hR1 hE4 q1 q2 q3
      obtain ⟨n, l2, h2, i2, x2, at2, hn, r1, r2, r3, hE, e1, e2, e3, hi2, hx2, hat2, hX, hZ, hB⟩ := hrel
      have y0 := L.BC.at_ hX (o := 0) rfl
      have y1 := L.BC.at_ hX (o := 1) rfl
      have y2 := L.BC.at_ hX (o := 2) rfl
      have y3 := L.BC.at_ hX (o := 3) rfl
      have y4 := L.BC.at_ hX (o := 4) rfl
      have hi64 : i2 + 4 ≤ 70000 := by omega
      replace hx2 := Lib.hid hx2
      replace hat2 := Lib.hid hat2
      replace e1 := Lib.hid e1
      replace e2 := Lib.hid e2
      replace e3 := Lib.hid e3
      by_cases c : l2 / 16777216 = h2 / 16777216
      · have ct : (l2 / 16777216 = h2 / 16777216) = True := eq_true c
        have hcb : (l2 / 16777216 == h2 / 16777216) = true := by rw [c]; exact beq_self_eq_true _
        replace c := Lib.hid c
        obtain ⟨ul, hul⟩ : ∃ ul, up l2 0 = ul := ⟨_, rfl⟩
        obtain ⟨uh, huh⟩ : ∃ uh, up h2 255 = uh := ⟨_, rfl⟩
        obtain ⟨bb, hbb⟩ : ∃ bb, byt s.data.toList (i2 + 4) = bb := ⟨_, rfl⟩
        obtain ⟨ux, hux⟩ : ∃ ux, up x2 bb = ux := ⟨_, rfl⟩
        have hbi := byt_in s.data.toList (i2 + 4)
        have hwi := win_in s.data.toList i2
        have hwu := win_up s.data.toList i2
        have hba := fun W => byteAt_any s (i2 + 4) W hs hi64
        rw [hbb] at hbi hwu hba
        rw [hx2.out] at hwi hwu
        rw [show ((i2 + 4 : Nat) : Int) = at2 by have := hat2.out; omega] at hba
        rw [hux] at hwu
        have iul := PG.up_in (x := l2) (b := 0) r1 (by omega) (by omega) (by omega)
        have iuh := PG.up_in (x := h2) (b := 255) (by omega) r3 (by omega) (by omega)
        have ilh : up l2 0 ≤ up h2 255 := by have := c.out; unfold up; omega
        rw [hul] at iul ilh
        rw [huh] at iuh ilh
        have HL : Go.bits .and .i64 (l2 * 256) 4294967295 = ul := by rw [← hul]; exact and_up r1 (by omega)
        have HH0 : Go.bits .and .i64 (h2 * 256) 4294967295 = up h2 0 := and_up (by omega) r3
        have HH : Go.bits .or .i64 (up h2 0) 255 = uh := by rw [← huh]; exact or_up (by omega) r3
        have HX0 : Go.bits .and .i64 (x2 * 256) 4294967295 = up x2 0 := and_up hwi.1 hwi.2
        have HX : Go.bits .or .i64 (up x2 0) bb = ux := by rw [← hux]; exact or_upb hwi.1 hwi.2 hbi.1 hbi.2
        have g0 := L.BC.frozen hX 0
        have g1 := L.BC.frozen hX 1
        replace hul := Lib.hid hul
        replace huh := Lib.hid huh
        replace hux := Lib.hid hux
        replace hwu := Lib.hid hwu
        replace hba := Lib.hid hba
        replace hbb := Lib.hid hbb
        go_wp2_with (fail)
        replace hX := L.BC.set (L.BC.set hX 0 (.int .i64 ul)) 1 (.int .i64 uh)
        replace hZ := L.BC.far (L.BC.far hZ (p := ⟨gx, 0, none⟩) (Ne.symm hne) (.int .i64 ul)) (p := ⟨gx, 1, none⟩) (Ne.symm hne) (.int .i64 uh)
        replace hB := (hB.setCell (p := ⟨gx, 0, none⟩) hgl (.int .i64 ul)).setCell (p := ⟨gx, 1, none⟩) hgl (.int .i64 uh)
        clear y0 y1 y2 y3 y4 g0 g1 HL HH0 HH
        replace hX : L.BC ((wr.setCell ⟨gx, 0, none⟩ (.int .i64 ul)).setCell ⟨gx, 1, none⟩ (.int .i64 uh)) gx 87 [.int .i64 ul, .int .i64 uh, .int .i64 x2, .string s, .int .i64 at2] := hX
        generalize (wr.setCell ⟨gx, 0, none⟩ (.int .i64 ul)).setCell ⟨gx, 1, none⟩ (.int .i64 uh) = wa at hX hZ hB ⊢
        replace hX := L.BC.drew hX
        replace hZ := L.BC.drew hZ
        replace hB := L.below_drew hB
        refine start_ (n := 12) (S := fun w' => L.BC w' gx 87 [.int .i64 ul, .int .i64 uh, .int .i64 x2, .string s, .int .i64 at2]) (ds := [11]) #[false, false, false, false, false, false, false, false, false, false, false, false] (by kernel_rfl) rfl rfl hX (fun hHeld => ?_)
        generalize wa.drew = wb at hX hZ hB hHeld ⊢
        refine pure_ (i := 0) (N := (some 51)) (v := ?_) (a' := ?_) #[true, false, false, false, false, false, false, false, false, false, false, false] rfl rfl (by kernel_rfl) (fun _ _ _ h => h) (Or.inl ⟨by rfl, ?_⟩) ?_ ?_
        rotate_left
        · intro w'
          go_simp
          with_reducible rfl
        rotate_left
        · simp only [Act.put, List.setIfInBounds_toArray, List.set_cons_zero, List.set_cons_succ, i64_w, i32_w]
          rfl
        refine pure_ (i := 4) (N := (some 55)) (v := ?_) (a' := ?_) #[true, false, false, false, true, false, false, false, false, false, false, false] rfl rfl (by kernel_rfl) (fun _ _ _ h => h) (Or.inl ⟨by rfl, ?_⟩) ?_ ?_
        rotate_left
        · intro w'
          go_simp
          with_reducible rfl
        rotate_left
        · simp only [Act.put, List.setIfInBounds_toArray, List.set_cons_zero, List.set_cons_succ, i64_w, i32_w]
          rfl
        refine pure_ (i := 6) (N := (some 57)) (v := ?_) (a' := ?_) #[true, false, false, false, true, false, true, false, false, false, false, false] rfl rfl (by kernel_rfl) (fun _ _ _ h => h) (Or.inl ⟨by rfl, ?_⟩) ?_ ?_
        rotate_left
        · intro w'
          go_simp
          with_reducible rfl
        rotate_left
        · simp only [Act.put, List.setIfInBounds_toArray, List.set_cons_zero, List.set_cons_succ, i64_w, i32_w]
          rfl
        refine take_ (i := 1) (N := (some 52)) (v := ?_) (a' := ?_) #[true, true, false, false, true, false, true, false, false, false, false, false] rfl rfl (by kernel_rfl) (fun _ _ _ h => h) (Or.inl ⟨by rfl, ?_⟩) hHeld ?_ ?_
        rotate_left
        · intro w' hS
          have s2 := L.BC.at_ hS (o := 2) rfl
          go_simp
          with_reducible rfl
        rotate_left
        · simp only [Act.put, List.setIfInBounds_toArray, List.set_cons_zero, List.set_cons_succ, i64_w, i32_w]
          rfl
        refine pure_ (i := 2) (N := (some 53)) (v := ?_) (a' := ?_) #[true, true, true, false, true, false, true, false, false, false, false, false] rfl rfl (by kernel_rfl) (fun _ _ _ h => h) (Or.inl ⟨by rfl, ?_⟩) ?_ ?_
        rotate_left
        · intro w'
          go_simp
          with_reducible rfl
        rotate_left
        · simp only [Act.put, List.setIfInBounds_toArray, List.set_cons_zero, List.set_cons_succ, i64_w, i32_w]
          rfl
        refine pure_ (i := 3) (N := (some 54)) (v := ?_) (a' := ?_) #[true, true, true, true, true, false, true, false, false, false, false, false] rfl rfl (by kernel_rfl) (fun _ _ _ h => h) (Or.inl ⟨by rfl, ?_⟩) ?_ ?_
        rotate_left
        · intro w'
          go_simp
          with_reducible rfl
        rotate_left
        · simp only [Act.put, List.setIfInBounds_toArray, List.set_cons_zero, List.set_cons_succ, i64_w, i32_w]
          rfl
        refine take_ (i := 5) (N := (some 56)) (v := ?_) (a' := ?_) #[true, true, true, true, true, true, true, false, false, false, false, false] rfl rfl (by kernel_rfl) (fun _ _ _ h => h) (Or.inl ⟨by rfl, ?_⟩) hHeld ?_ ?_
        rotate_left
        · intro w' hS
          have s3 := L.BC.at_ hS (o := 3) rfl
          go_simp
          with_reducible rfl
        rotate_left
        · simp only [Act.put, List.setIfInBounds_toArray, List.set_cons_zero, List.set_cons_succ, i64_w, i32_w]
          rfl
        refine take_ (i := 7) (N := (some 58)) (v := ?_) (a' := ?_) #[true, true, true, true, true, true, true, true, false, false, false, false] rfl rfl (by kernel_rfl) (fun _ _ _ h => h) (Or.inl ⟨by rfl, ?_⟩) hHeld ?_ ?_
        rotate_left
        · intro w' hS
          have s4 := L.BC.at_ hS (o := 4) rfl
          go_simp
          with_reducible rfl
        rotate_left
        · simp only [Act.put, List.setIfInBounds_toArray, List.set_cons_zero, List.set_cons_succ, i64_w, i32_w]
          rfl
        refine one_ (i := 8) (N := (some 59)) #[true, true, true, true, true, true, true, true, true, false, false, false] rfl rfl (by kernel_rfl) (by decide) (fun K hK => ?_)
        refine goes_ Tryz.func96 (by kernel_rfl) rfl #[.string s, .int .i64 at2] (by rfl) rfl rfl (by (try simp only [List.map_toArray, List.map_cons, List.map_nil]); first | done | rfl) ?_
        refine (hba.out _).mono ?_
        rintro e we ⟨rfl, mm, rfl⟩
        refine ⟨_, rfl, ?_⟩
        replace hX := L.BC.drewN hX mm
        replace hZ := L.BC.drewN hZ mm
        replace hB := L.below_drewN hB mm
        clear hHeld
        refine hK.out _ _ hX (fun hHeld => ?_)
        clear hK K
        generalize wb.drewN mm = w_c at hX hZ hB hHeld ⊢
        refine norm_ (a' := ?_) ?_ ?_
        rotate_left
        · show Act.put _ (some 59) _ = _
          simp only [Act.put, List.setIfInBounds_toArray, List.set_cons_zero, List.set_cons_succ, i64_w, i32_w]
          rfl
        refine pure_ (i := 9) (N := (some 60)) (v := ?_) (a' := ?_) #[true, true, true, true, true, true, true, true, true, true, false, false] rfl rfl (by kernel_rfl) (fun _ _ _ h => h) (Or.inl ⟨by rfl, ?_⟩) ?_ ?_
        rotate_left
        · intro w'
          go_simp
          with_reducible rfl
        rotate_left
        · simp only [Act.put, List.setIfInBounds_toArray, List.set_cons_zero, List.set_cons_succ, i64_w, i32_w]
          rfl
        refine pure_ (i := 10) (N := (some 61)) (v := ?_) (a' := ?_) #[true, true, true, true, true, true, true, true, true, true, true, false] rfl rfl (by kernel_rfl) (fun _ _ _ h => h) (Or.inl ⟨by rfl, ?_⟩) ?_ ?_
        rotate_left
        · intro w'
          go_simp
          with_reducible rfl
        rotate_left
        · simp only [Act.put, List.setIfInBounds_toArray, List.set_cons_zero, List.set_cons_succ, i64_w, i32_w]
          rfl
        refine last_ (i := 11) (N := none) #[true, true, true, true, true, true, true, true, true, true, true, true] rfl rfl (by kernel_rfl) (by decide) (fun K hK => ?_)
        have y := L.BC.at_ hX (o := 2) rfl
        have fz := L.BC.frozen hX 2
        refine skip_ (w1 := w_c.setCell ⟨gx, 2, none⟩ (.int .i64 ux)) (by rfl) rfl ?_ ?_
        · go_simp
          rw [PG.up_bits hwi.1 hwi.2 hbi.1 hbi.2, hux.out]
        replace hX := L.BC.set hX 2 (.int .i64 ux)
        replace hZ := L.BC.far hZ (p := ⟨gx, 2, none⟩) (Ne.symm hne) (.int .i64 ux)
        replace hB := hB.setCell (p := ⟨gx, 2, none⟩) hgl (.int .i64 ux)
        clear y fz
        refine hK.out _ _ ?_
        clear hK K
        generalize w_c.setCell ⟨gx, 2, none⟩ (.int .i64 ux) = w_k at hX hZ hB ⊢
        refine done_ (by kernel_rfl) ?_
        have y4 := L.BC.at_ hX (o := 4) rfl
        have f4 := L.BC.frozen hX 4
        cases n with
        | zero => exact absurd c.out (by have := hE.2.2; simp only [norm] at this; omega)
        | succ n =>
          have wm2 : IntKind.i64.wrap (at2 + 1) = at2 + 1 := IntWalk.i64_in _ (by have := hat2.out; omega)
          have e1 := e1.out
          have e2 := e2.out
          have e3 := e3.out
          rw [norm, if_pos c.out, hul.out, huh.out] at hE e1 e2 e3
          simp only [List.length_cons] at e3
          replace e1 := Lib.hid e1
          replace e2 := Lib.hid e2
          go_wp2_with (fail)
          replace hX := L.BC.set hX 4 (.int .i64 (at2 + 1))
          replace hZ := L.BC.far hZ (p := ⟨gx, 4, none⟩) (Ne.symm hne) (.int .i64 (at2 + 1))
          replace hB := hB.setCell (p := ⟨gx, 4, none⟩) hgl (.int .i64 (at2 + 1))
          clear y4 f4
          generalize w_k.setCell ⟨gx, 4, none⟩ (.int .i64 (at2 + 1)) = k2 at hX hZ hB ⊢
          obtain ⟨kk, rfl⟩ : ∃ k, gk = k + 1 := ⟨n + 1, by omega⟩
          go_roundg kk
          case measure => omega
          case rel => exact ⟨n, ul, uh, i2 + 1, ux, at2 + 1, by omega, iul.1, ilh, iuh.2, hE, e1.out, e2.out, by omega, by omega, hwu.out, by have := hat2.out; omega, hX, hZ, hB⟩
      · have ct : (l2 / 16777216 = h2 / 16777216) = False := eq_false c
        have hcb : (l2 / 16777216 == h2 / 16777216) = false := beq_eq_false_iff_ne.2 c
        have hnorm : norm n l2 h2 = (l2, h2, []) := by
          cases n with
          | zero => rfl
          | succ n => rw [norm, if_neg c]
        have e1 := e1.out
        have e2 := e2.out
        have e3 := e3.out
        rw [hnorm] at e1 e2 e3
        simp only [List.length_nil, Nat.add_zero] at e1 e2 e3
        have z0 := L.BC.at_ hZ (o := 0) rfl
        have z1 := L.BC.at_ hZ (o := 1) rfl
        have z2 := L.BC.at_ hZ (o := 2) rfl
        have z3 := L.BC.at_ hZ (o := 3) rfl
        have z4 := L.BC.at_ hZ (o := 4) rfl
        have k0 := L.BC.frozen hZ 0
        have k1 := L.BC.frozen hZ 1
        have k2 := L.BC.frozen hZ 2
        have k3 := L.BC.frozen hZ 3
        have k4 := L.BC.frozen hZ 4
        replace c := Lib.hid c
        have hres := hres.out
        rw [← e1, ← e2, ← e3, hx2.out] at hres
        by_cases cb : i2 ≤ 65540
        · rw [if_pos cb, hat2.out] at hres
          have d5 : decide (65544 < at2) = false := decide_eq_false (by have := hat2.out; omega)
          replace hres := Lib.hid hres
          replace e1 := Lib.hid e1
          replace e2 := Lib.hid e2
          replace e3 := Lib.hid e3
          go_wp2_with (fail)
          have hZ' := L.BC.set (L.BC.set (L.BC.set (L.BC.set (L.BC.set hZ 0 (.int .i64 l2)) 1 (.int .i64 h2)) 2 (.int .i64 x2)) 3 (.string s)) 4 (.int .i64 at2)
          have hB' := ((((hB.setCell (p := ⟨gz, 0, none⟩) hgz (.int .i64 l2)).setCell (p := ⟨gz, 1, none⟩) hgz (.int .i64 h2)).setCell (p := ⟨gz, 2, none⟩) hgz (.int .i64 x2)).setCell (p := ⟨gz, 3, none⟩) hgz (.string s)).setCell (p := ⟨gz, 4, none⟩) hgz (.int .i64 at2)
          refine bodyPost_ret (bc_resulttt (P := Tryz.prog) Tryz.results52 _ _ gz [.int .i64 l2, .int .i64 h2, .int .i64 x2, .string s, .int .i64 at2] _ rfl hZ'.range Tryz.underlying87 rfl info56) rfl ⟨?_, hB'⟩
          rw [← hres.out]
          rfl
        · rw [if_neg cb] at hres
          have d5 : decide (65544 < at2) = true := decide_eq_true (by have := hat2.out; omega)
          replace hres := Lib.hid hres
          replace e1 := Lib.hid e1
          replace e2 := Lib.hid e2
          replace e3 := Lib.hid e3
          go_wp2_with (fail)
          have hZ' := L.BC.set (L.BC.set (L.BC.set (L.BC.set (L.BC.set hZ 0 (.int .i64 0)) 1 (.int .i64 0)) 2 (.int .i64 0)) 3 (.string ⟨#[]⟩)) 4 (.int .i64 0)
          have hB' := ((((hB.setCell (p := ⟨gz, 0, none⟩) hgz (.int .i64 0)).setCell (p := ⟨gz, 1, none⟩) hgz (.int .i64 0)).setCell (p := ⟨gz, 2, none⟩) hgz (.int .i64 0)).setCell (p := ⟨gz, 3, none⟩) hgz (.string ⟨#[]⟩)).setCell (p := ⟨gz, 4, none⟩) hgz (.int .i64 0)
          refine bodyPost_ret (bc_resulttt (P := Tryz.prog) Tryz.results52 _ _ gz [.int .i64 0, .int .i64 0, .int .i64 0, .string ⟨#[]⟩, .int .i64 0] _ rfl hZ'.range Tryz.underlying87 rfl info56) rfl ⟨?_, hB'⟩
          rw [← hres.out]
          rfl
end Go.Proofs.YtiokfaiioealdaaGreatDoor
/- descantref13.GetResiduals: what it gives. -/
namespace Go.Proofs.YtiokfaiioealdaaGreatDoor
open Go.RowKit Go.Proofs.YtiokfaiioealdaaGreatDoorW.PrintWords Go.Proofs.YtiokfaiioealdaaGreatDoorW.PrintLast Go.Proofs.YtiokfaiioealdaaGreatDoorW.PrintMore Go.Proofs.YtiokfaiioealdaaGreatDoor.L
set_option linter.unusedVariables false
set_option linter.unusedSimpArgs false
theorem upTo13 (x a b : Int) (w : World) : Calls Tryz.prog 51 #[.int .i64 x, .int .i64 a, .int .i64 b] w fun e w' => e = .returned (.bool (decide (a ≤ x) && decide (x ≤ b))) ∧ ∃ m, w' = w.drewN m := by
  by_cases h : a ≤ x
  · rw [decide_eq_true h, Bool.true_and]
    have h1 := eq_true h
    go_enter Tryz.func51, Tryz.ntmps51
    go_wp2_with (fail)
    go_ret
    exact ⟨rfl, 0, rfl⟩
  · rw [decide_eq_false h, Bool.false_and]
    have h1 := eq_false h
    go_enter Tryz.func51, Tryz.ntmps51
    go_wp2_with (fail)
    go_ret
    exact ⟨rfl, 0, rfl⟩
/-- A number taken as the document takes it. -/
def takeD (s : List UInt8) : Nat → St × Dec → Option (Int × St × Dec)
  | 0, _ => none
  | n + 1, a =>
    if whole a.1.bits = true then (if gOk a.1.bits = true ∧ gNum a.1.bits ≤ 33554432 then some (ufld (gNum a.1.bits), nxt a.1, a.2) else none)
    else if 51 < a.1.bits.length then none
    else if 65540 < (decB s a.2 (chance mdot a.1)).i then none
    else takeD s n (lrn lR a.1 (decV s a.2 (chance mdot a.1)), decB s a.2 (chance mdot a.1))
def DJ (l : List Int) : Prop := gOnes l < l.length → l.length ≤ 2 * gOnes l + 1
theorem DJ.step {l : List Int} {b : Int} (h : DJ l) (h01 : ∀ b ∈ l, b = 0 ∨ b = 1) (hw : whole l = false) : DJ (l ++ [b]) := by
  have hle := gOnes_le l
  unfold whole at hw
  rw [isZ_lt h01] at hw
  unfold DJ at h ⊢
  rw [gOnes_app, List.length_append, List.length_singleton]
  by_cases c : gOnes l = l.length
  · rw [if_pos c]; split <;> omega
  · rw [if_neg c]
    have hlt : gOnes l < l.length := by omega
    rw [decide_eq_true hlt, Bool.true_and] at hw
    have := of_decide_eq_false hw
    have := h hlt
    omega
theorem gOnes_snoc (l : List Int) (b : Int) : gOnes l ≤ gOnes (l ++ [b]) := by
  have hle := gOnes_le l
  rw [gOnes_app]
  split
  · split <;> omega
  · exact Nat.le_refl _
theorem takeD_none (s : List UInt8) : ∀ (n : Nat) (a : St × Dec), 25 < gOnes a.1.bits → a.1.bits.length ≤ 52 → takeD s n a = none
  | 0, _, _, _ => rfl
  | n + 1, a, h, hl => by
    have hw : whole a.1.bits = false := by
      unfold whole
      rw [decide_eq_false (show ¬ a.1.bits.length = 2 * gOnes a.1.bits + 1 by omega), Bool.and_false]
    rw [takeD, hw, if_neg (by decide)]
    split
    · rfl
    · split
      · rfl
      · refine takeD_none s n _ ?_ ?_
        · show 25 < gOnes (a.1.bits ++ [_])
          exact Nat.lt_of_lt_of_le h (gOnes_snoc _ _)
        · show (a.1.bits ++ [_]).length ≤ 52
          rw [List.length_append, List.length_singleton]; omega
theorem takeD_eq (s : List UInt8) : ∀ (n : Nat) (a : St × Dec), GJ a.1.bits → (∀ b ∈ a.1.bits, b = 0 ∨ b = 1) → takeD s n a = takeNum mdot lR s n a
  | 0, _, _, _ => rfl
  | n + 1, a, h, h01 => by
    rw [takeD, takeNum]
    by_cases hw : whole a.1.bits = true
    · rw [if_pos hw, if_pos hw]
    · rw [if_neg hw, if_neg hw]
      have hl := h.len
      rw [if_neg (show ¬ 51 < a.1.bits.length by omega)]
      by_cases hc : isZ a.1.bits = false ∧ 25 < gOnes a.1.bits
      · rw [if_pos hc]
        split
        · rfl
        · refine takeD_none s n _ ?_ ?_
          · show 25 < gOnes (a.1.bits ++ [_])
            exact Nat.lt_of_lt_of_le hc.2 (gOnes_snoc _ _)
          · show (a.1.bits ++ [_]).length ≤ 52
            rw [List.length_append, List.length_singleton]; omega
      · rw [if_neg hc]
        split
        · rfl
        · refine takeD_eq s n _ (h.step h01 (by simpa using hw) hc) ?_
          intro x hx
          rcases List.mem_append.1 hx with hx | hx
          · exact h01 x hx
          · rw [List.mem_singleton] at hx; subst hx; exact decV_01 _ _ _
theorem below_wide {b B : Nat} {W W1 : World} (h : Below b W W1) (hB : B ≤ b) : Below B W W1 := ⟨h.os, h.tape, h.output, h.size, fun i hi => h.block i (by omega)⟩
theorem below_trans {B : Nat} {w W W1 : World} (h : Below B w W) (k : Below B W W1) : Below B w W1 := ⟨k.os.trans h.os, k.tape.trans h.tape, k.output.trans h.output, Nat.le_trans h.size k.size, fun i hi => (k.block i hi).trans (h.block i hi)⟩
/-- The document's decoder and model under way. -/
structure PD (w W : World) (d g : Nat) (M : List Int) (s : ByteArray) (D : Dec) : Prop where
  hM : MB W g M
  hD : L.BC W d 87 (decC s D)
  hB : Below w.heap.size w W
  hw : w.heap.size ≤ d
  hg : d < g
section
variable {w W W1 : World} {d g : Nat} {M : List Int} {s : ByteArray} {D : Dec}
theorem PD.next (h : PD w W d g M s D) (hb : Below W.heap.size W W1) : PD w W1 d g M s D := ⟨h.hM.below hb, L.BC.below h.hD hb, below_next h.hB hb, h.hw, h.hg⟩
theorem PD.drewN (h : PD w W d g M s D) (m : Nat) : PD w (W.drewN m) d g M s D := h.next (L.below_drewN (Below.refl _ _) m)
theorem PD.alloc (h : PD w W d g M s D) (o : Obj) : PD w (W.alloc o) d g M s D := h.next (L.below_alloc (Below.refl _ _) o)
theorem PD.lt (h : PD w W d g M s D) : g < W.heap.size := h.hM.lt
theorem PD.blw {b : Nat} (h : PD w W d g M s D) (hb : Below b W W1) (hgb : g < b) : PD w W1 d g M s D :=
  ⟨h.hM.blw hb hgb, ⟨(hb.block d (Nat.lt_trans h.hg hgb)).trans h.hD.blk⟩, below_trans h.hB (below_wide hb (Nat.le_trans h.hw (Nat.le_of_lt (Nat.lt_trans h.hg hgb)))), h.hw, h.hg⟩
theorem PD.grown {row : Option Nat} (h : PD w W d g M s D) (hg : W.grownBy W1 row) (h1 : some g ≠ row) (h2 : some d ≠ row) (hb : Below w.heap.size w W1) : PD w W1 d g M s D :=
  ⟨⟨(bc_grown (t := 63) ⟨h.hM.blk⟩ hg h1).blk, h.hM.len⟩, bc_grown h.hD hg h2, hb, h.hw, h.hg⟩
theorem PD.model {R : List Int} (h : PD w W d g M s D) (hR : R.length = 195) : PD w (W.setCells g 0 (ints R)) d g R s D :=
  ⟨h.hM.over hR, L.BC.beside h.hD (Nat.ne_of_gt h.hg) _, below_over h.hB (Nat.le_trans h.hw (Nat.le_of_lt h.hg)) _, h.hw, h.hg⟩
theorem PD.blk (h : PD w W d g M s D) : L.BC W g 63 (ints M) := ⟨h.hM.blk⟩
theorem PD.dec {D2 : Dec} (h : PD w W d g M s D) : PD w (((((W.setCell ⟨d, 0, none⟩ (.int .i64 D2.l)).setCell ⟨d, 1, none⟩ (.int .i64 D2.h)).setCell ⟨d, 2, none⟩ (.int .i64 (win s.data.toList D2.i))).setCell ⟨d, 3, none⟩ (.string s)).setCell ⟨d, 4, none⟩ (.int .i64 ((D2.i : Int) + 4))) d g M s D2 := by
  have hne : d ≠ g := Nat.ne_of_lt h.hg
  refine ⟨((((h.hM.far hne _).far hne _).far hne _).far hne _).far hne _, L.BC.set (L.BC.set (L.BC.set (L.BC.set (L.BC.set h.hD 0 _) 1 _) 2 _) 3 _) 4 _, ?_, h.hw, h.hg⟩
  exact ((((h.hB.setCell (p := ⟨d, 0, none⟩) h.hw _).setCell (p := ⟨d, 1, none⟩) h.hw _).setCell (p := ⟨d, 2, none⟩) h.hw _).setCell (p := ⟨d, 3, none⟩) h.hw _).setCell (p := ⟨d, 4, none⟩) h.hw _
theorem R_dec {b : Nat} {ok : Nat → Prop} {v : Value} {xs : List Int} {D2 : Dec} (h : PD w W d g M s D) (hR : Kd.R (Kd.int .i64) 3 W b ok v xs) : Kd.R (Kd.int .i64) 3 (((((W.setCell ⟨d, 0, none⟩ (.int .i64 D2.l)).setCell ⟨d, 1, none⟩ (.int .i64 D2.h)).setCell ⟨d, 2, none⟩ (.int .i64 (win s.data.toList D2.i))).setCell ⟨d, 3, none⟩ (.string s)).setCell ⟨d, 4, none⟩ (.int .i64 ((D2.i : Int) + 4))) b ok v xs := by
  have k := h.hD
  exact R_setB (R_setB (R_setB (R_setB (R_setB hR k (ne_ty (by decide)) 0 _) (L.BC.set k 0 _) (ne_ty (by decide)) 1 _) (L.BC.set (L.BC.set k 0 _) 1 _) (ne_ty (by decide)) 2 _) (L.BC.set (L.BC.set (L.BC.set k 0 _) 1 _) 2 _) (ne_ty (by decide)) 3 _) (L.BC.set (L.BC.set (L.BC.set (L.BC.set k 0 _) 1 _) 2 _) 3 _) (ne_ty (by decide)) 4 _
end
theorem dmore {l : List Int} (h01 : ∀ b ∈ l, b = 0 ∨ b = 1) (hj : DJ l) : (whole l = true ∧ 0 < l.length ∧ gOnes l < l.length ∧ l.length = 2 * gOnes l + 1) ∨ (whole l = false ∧ (l.length = 0 ∨ (0 < l.length ∧ gOnes l = l.length) ∨ (0 < l.length ∧ gOnes l < l.length ∧ l.length < 2 * gOnes l + 1))) := by
  have hle := gOnes_le l
  unfold whole
  rw [isZ_lt h01]
  by_cases c : gOnes l < l.length
  · rw [decide_eq_true c, Bool.true_and]
    have := hj c
    by_cases e : l.length = 2 * gOnes l + 1
    · exact .inl ⟨decide_eq_true e, by omega, c, e⟩
    · exact .inr ⟨decide_eq_false e, .inr (.inr ⟨by omega, c, by omega⟩)⟩
  · rw [decide_eq_false c, Bool.false_and]
    refine .inr ⟨rfl, ?_⟩
    rcases Nat.eq_zero_or_pos l.length with h | h
    · exact .inl h
    · exact .inr (.inl ⟨h, by omega⟩)
set_option maxHeartbeats 8000000 in
set_option maxRecDepth 100000 in
theorem rget13 (s : ByteArray) (many : Int) (w : World) : Calls Tryz.prog 17 #[.string s, .int .i64 many] w fun e w' => getPost w w' e (getS mdot lR newM s.data.toList many) := by
  obtain ⟨T0, hT0⟩ : ∃ T0, getS mdot lR newM s.data.toList many = T0 := ⟨_, rfl⟩
  rw [hT0]
  unfold getS at hT0
  have hsz : s.data.toList.length = s.size := by simp
  by_cases ho1 : s.size ≤ 65536
  · have hnew := fun W => rnewdec_yes s W ho1
    have hup := fun W => upTo13 many 0 256 W
    by_cases hok : 0 ≤ many ∧ many ≤ 256
    · have hg : getOk s.data.toList many = true := by
        unfold getOk; rw [hsz, decide_eq_true ho1, decide_eq_true hok.1, decide_eq_true hok.2]; rfl
      rw [if_pos hg] at hT0
      rw [decide_eq_true hok.1, decide_eq_true hok.2] at hup
      have hnm := fun w1 => rmodel_new w1
      replace hT0 := Lib.hid hT0
      replace hnew := Lib.hid hnew
      replace hup := Lib.hid hup
      unfold decC dec0 at hnew
      clear hg hsz
      obtain ⟨xw, hxw⟩ : ∃ xw, win s.data.toList 0 = xw := ⟨_, rfl⟩
      simp only [] at hnew
      rw [hxw, show ((0 : Nat) : Int) + 4 = 4 from rfl] at hnew
      replace hxw := Lib.hid hxw
      go_enter Tryz.func17, Tryz.ntmps17
      go_wp2_with (fail)
      refine (hnew.out _).mono ?_
      rintro e w1 ⟨rfl, hb⟩
      have hX := L.BC.new w1 [.int .i64 0, .int .i64 0, .int .i64 0, .string ⟨#[]⟩, .int .i64 0] 87
      have n0 := L.BC.at_ hX (o := 0) rfl; have n1 := L.BC.at_ hX (o := 1) rfl; have n2 := L.BC.at_ hX (o := 2) rfl; have n3 := L.BC.at_ hX (o := 3) rfl; have n4 := L.BC.at_ hX (o := 4) rfl
      have m0 := L.BC.frozen hX 0; have m1 := L.BC.frozen hX 1; have m2 := L.BC.frozen hX 2; have m3 := L.BC.frozen hX 3; have m4 := L.BC.frozen hX 4
      go_wp2_with (fail)
      have hX1 := L.BC.new w1 [.int .i64 0, .int .i64 4294967295, .int .i64 xw, .string s, .int .i64 4] 87
      have hB := L.below_alloc hb (.cells #[.int .i64 0, .int .i64 4294967295, .int .i64 xw, .string s, .int .i64 4] 87)
      have hgw : w.heap.size ≤ w1.heap.size := hb.size
      clear n0 n1 n2 n3 n4 m0 m1 m2 m3 m4 hX hb hnew
      generalize w1.alloc (.cells #[.int .i64 0, .int .i64 4294967295, .int .i64 xw, .string s, .int .i64 4] 87) = w2 at hX1 hB ⊢
      generalize w1.heap.size = d at *
      refine (hup.out _).mono ?_
      rintro e w3 ⟨rfl, m3, rfl⟩
      replace hX1 := L.BC.drewN hX1 m3
      replace hB := L.below_drewN hB m3
      generalize w2.drewN m3 = w4 at hX1 hB ⊢
      go_wp2_with (fail)
      refine (hnm _).mono ?_
      rintro e w5 ⟨rfl, hb⟩
      replace hX1 := L.BC.below hX1 hb
      replace hB := below_next hB hb
      clear hb hnm hup
      have hP : PD w (w5.alloc (.cells (ints newM).toArray 63)) d w5.heap.size newM s dec0 := by
        refine ⟨MB.new w5 newM_length, ?_, L.below_alloc hB _, hgw, hX1.lt⟩
        have := L.BC.alloc hX1 (.cells (ints newM).toArray 63)
        unfold decC dec0
        simp only []
        rw [hxw.out]
        exact this
      clear hX1 hB
      go_wp2_with (with_reducible refine wpList_new_model newM newM_length (.tmp 8) (.tmp 39) rfl rfl rfl rfl rfl rfl ?_)
      generalize w5.alloc (.cells (ints newM).toArray 63) = w6 at hP ⊢
      generalize w5.heap.size = g at hP ⊢
      have hR : Kd.R (Kd.int .i64) 3 w6 w.heap.size (fun _ => True) (.slice none 0 0) ([] : List Int) := Kd.R_nil _ _ _ _ _
      generalize (ints newM).toArray = z3
      obtain ⟨U, hU⟩ : ∃ U, takeAll mdot lR s.data.toList many.toNat (⟨newM, 0, []⟩, dec0) [] = U := ⟨_, rfl⟩
      have hT1 := hT0.out
      rw [hU] at hT1
      replace hT1 := Lib.hid hT1
      replace hU := Lib.hid hU
      clear hT0 hxw
      go_loopg [9, 10, 11] many.toNat (fun kq v9 v10 v11 W => ∃ (out : List Int) (S2 : St) (D2 : Dec), v9 = .int .i64 S2.before ∧ v11 = .int .i64 (out.length : Int) ∧ out.length + kq = many.toNat ∧ takeAll mdot lR s.data.toList kq (S2, D2) out = U ∧ SIn S2 ∧ S2.bits = [] ∧ PG.DOk s.data.toList D2 ∧ D2.i ≤ 65540 ∧ PD w W d g S2.M s D2 ∧ Kd.R (Kd.int .i64) 3 W w.heap.size (fun _ => True) v10 out)
      case atStart => exact ⟨[], ⟨newM, 0, []⟩, dec0, rfl, rfl, by simp, hU.out, ⟨newM_length, newM_may, by decide, fun b hb => by cases hb⟩, rfl, dec0_ok _, by decide, hP, hR⟩
      case round =>
        clear hP hR hU
        obtain ⟨out, S2, D2, rfl, rfl, hi, hU, hS, hSb, hd, hDi, hP, hR⟩ := hrel
        obtain ⟨M, before, bits⟩ := S2
        simp only [] at hSb hP
        subst hSb
        obtain ⟨Ao, co, ev⟩ := Kd.R_slice hR
        subst ev
        by_cases c1 : (out.length : Int) < many
        · have c1d : decide ((out.length : Int) < many) = true := decide_eq_true c1
          obtain ⟨n, rfl⟩ : ∃ n, gk = n + 1 := ⟨gk - 1, by omega⟩
          rw [takeAll] at hU
          obtain ⟨TN, hTN⟩ : ∃ TN, takeNum mdot lR s.data.toList 60 (⟨M, before, []⟩, D2) = TN := ⟨_, rfl⟩
          have hTD : takeD s.data.toList 60 (⟨M, before, []⟩, D2) = TN := by
            rw [takeD_eq s.data.toList 60 _ ⟨by simp [gOnes], by simp⟩ (fun b hb => by cases hb)]; exact hTN
          rw [hTN] at hU
          have hRo := Kd.R_mono (ok' := fun k => k < wr.heap.size) (Kd.R_bound hR) (fun k hk => hk.2.2.1)
          have hRb : Kd.R (Kd.int .i64) 3 wr wr.heap.size (fun _ => True) (.slice none 0 0) ([] : List Int) := Kd.R_nil _ _ _ _ _
          have hgb := hP.lt
          have hbw : wr.heap.size ≤ wr.heap.size := Nat.le_refl _
          clear hR hTN
          replace hTD := Lib.hid hTD
          replace hU := Lib.hid hU
          replace c1 := Lib.hid c1
          obtain ⟨b, hb⟩ : ∃ b, wr.heap.size = b := ⟨_, rfl⟩
          have hRo2 : Kd.R (Kd.int .i64) 3 wr w.heap.size (fun k => k < b) (.slice Ao out.length co) out := by rw [← hb]; exact hRo
          have hRb2 : Kd.R (Kd.int .i64) 3 wr b (fun _ => True) (.slice none 0 0) ([] : List Int) := by rw [← hb]; exact hRb
          have hbw2 : b ≤ wr.heap.size := by rw [hb]; exact Nat.le_refl _
          rw [hb] at hgb
          clear hRo hRb hbw hb
          go_wp2_with (fail)
          go_loopg [12] 60 (fun kq v12 W => ∃ (S3 : St) (D3 : Dec), takeD s.data.toList kq (S3, D3) = TN ∧ S3.bits.length + kq = 60 ∧ DJ S3.bits ∧ S3.bits.length ≤ 52 ∧ SIn S3 ∧ S3.before = before ∧ PG.DOk s.data.toList D3 ∧ D3.i ≤ 65540 ∧ PD w W d g S3.M s D3 ∧ Kd.R (Kd.int .i64) 3 W b (fun _ => True) v12 S3.bits ∧ Kd.R (Kd.int .i64) 3 W w.heap.size (fun k => k < b) (.slice Ao out.length co) out ∧ b ≤ W.heap.size)
          case atStart => exact ⟨⟨M, before, []⟩, D2, hTD.out, rfl, (fun h => by simp [gOnes] at h), by simp, hS, rfl, hd, hDi, hP, hRb2, hRo2, hbw2⟩
          case round =>
            clear hP hRb2 hRo2 hbw2 hTD hS hd hDi
            obtain ⟨S3, D3, hT, hlen, hJ, h52, hS, hbf, hd, hDi, hP, hR, hRo, hbw⟩ := hrel
            obtain ⟨A2, cap2, ev⟩ := Kd.R_slice hR
            subst ev
            obtain ⟨m, rfl⟩ : ∃ m, gk = m + 1 := ⟨gk - 1, by omega⟩
            rw [takeD] at hT
            simp only [] at hT
            have hC2 := (Kd.R_reads' hR).2.2
            have hcp2 := (Kd.R_reads' hR).2.1
            have hle := gOnes_le S3.bits
            have hdm := dmore hS.h01 hJ
            have hon := PG.rones_f S3.bits (by omega) (S3.bits.length + 1) (Nat.lt_succ_self _)
            obtain ⟨q, hq⟩ : ∃ q, gOnes S3.bits = q := ⟨_, rfl⟩
            rw [hq] at hle hdm hon
            have wk1 : IntKind.i64.wrap (2 * (q : Int)) = 2 * (q : Int) := IntWalk.i64_in _ (by omega)
            have wk2 : IntKind.i64.wrap (2 * (q : Int) + 1) = 2 * (q : Int) + 1 := IntWalk.i64_in _ (by omega)
            replace hon := Lib.hid hon
            replace hq := Lib.hid hq
            replace hlen := Lib.hid hlen
            replace hbf := Lib.hid hbf
            obtain ⟨z, hz⟩ : ∃ z : Int, z = 1 := ⟨1, rfl⟩
            have eA0 : ((S3.bits.length : Int) == 0) = decide ((S3.bits.length : Int) < z) := by rw [Bool.eq_iff_iff, beq_iff_eq, decide_eq_true_eq]; omega
            have eB0 : ((q : Int) == (S3.bits.length : Int)) = decide ((S3.bits.length : Int) < (q : Int) + z) := by rw [Bool.eq_iff_iff, beq_iff_eq, decide_eq_true_eq]; omega
            rcases hdm with ⟨hw, l0, l1, l2⟩ | ⟨hw, h3⟩
            · rw [hw, if_pos rfl] at hT
              have HC := Lib.hid hC2
              clear hC2
              have hq25 : gOnes S3.bits ≤ 25 := by rw [hq.out]; omega
              have hon2 := hq.out
              have eA : decide ((S3.bits.length : Int) < z) = false := decide_eq_false (by omega)
              have eB : decide ((S3.bits.length : Int) < (q : Int) + z) = false := decide_eq_false (by omega)
              have eC : decide ((S3.bits.length : Int) < 2 * (q : Int) + 1) = false := decide_eq_false (by omega)
              have hq63 : 0 ≤ (q : Int) ∧ (q : Int) ≤ 63 := by omega
              have hl2 := Lib.hid l2
              have hl0 := Lib.hid l0
              have hl1 := Lib.hid l1
              clear l0 l1 l2
              replace hT := Lib.hid hT
              replace hz := Lib.hid hz
              replace hon2 := Lib.hid hon2
              replace hle := Lib.hid hle
              go_wp2_with (fail)
              refine (PG.descantref1_Ones.calls _ A2 cap2 S3.bits _ _ HC.out hcp2 hon.out).mono ?_
              rintro e w3 ⟨rfl, ⟨⟨m3, rfl⟩⟩⟩
              replace hP := hP.drewN m3
              replace hR := Kd.R_drewN hR m3
              replace hRo := Kd.R_drewN hRo m3
              replace hbw := Nat.le_trans hbw (L.below_drewN (Below.refl 0 _) m3).size
              generalize wr.drewN m3 = w4 at hP hR hRo hbw ⊢
              have HC4 := Lib.hid (Kd.R_reads' hR).2.2
              go_wp2_with (fail)
              refine (PG.descantref1_Ones.calls _ A2 cap2 S3.bits _ _ HC4.out hcp2 hon.out).mono ?_
              rintro e w5 ⟨rfl, ⟨⟨m5, rfl⟩⟩⟩
              replace hP := hP.drewN m5
              replace hR := Kd.R_drewN hR m5
              replace hRo := Kd.R_drewN hRo m5
              replace hbw := Nat.le_trans hbw (L.below_drewN (Below.refl 0 _) m5).size
              generalize w4.drewN m5 = w6 at hP hR hRo hbw ⊢
              clear HC4
              have hnum := rnumber_any A2 cap2 S3.bits w6 (Kd.R_reads' hR).2.2 hcp2 hS.h01 hw hq25
              by_cases gk2 : gOk S3.bits = true
              · rw [if_pos gk2, if_pos gk2] at hnum
                have hu : gNum S3.bits ≤ 33554432 := by
                  have hk := gk2
                  unfold gOk at hk
                  simp only [Bool.and_eq_true, decide_eq_true_eq] at hk
                  unfold gNum; omega
                have hT3 := hT.out
                rw [if_pos ⟨gk2, hu⟩] at hT3
                have hU3 : takeAll mdot lR s.data.toList n (nxt S3, D3) (out ++ [ufld (gNum S3.bits)]) = U := by
                  have := hU.out; rw [← hT3] at this; exact this
                have hunf := fun W => runfold_any (gNum S3.bits) W hu
                generalize gNum S3.bits = u at hnum hunf hU3 hT3
                obtain ⟨x, hx⟩ : ∃ x, ufld u = x := ⟨_, rfl⟩
                rw [hx] at hunf hU3 hT3
                replace hT3 := Lib.hid hT3
                replace hU3 := Lib.hid hU3
                replace hunf := Lib.hid hunf
                replace gk2 := Lib.hid gk2
                replace hx := Lib.hid hx
                replace hu := Lib.hid hu
                have hol : out.length ≤ 256 := by have := c1.out; omega
                go_wp2_with (fail)
                refine hnum.mono ?_
                rintro e w7 ⟨rfl, m7, rfl⟩
                replace hP := hP.drewN m7
                replace hR := Kd.R_drewN hR m7
                replace hRo := Kd.R_drewN hRo m7
                clear hnum
                generalize w6.drewN m7 = w8 at hP hR hRo ⊢
                go_wp2_with (fail)
                refine (hunf.out _).mono ?_
                rintro e w9 ⟨rfl, m9, rfl⟩
                replace hP := hP.drewN m9
                replace hR := Kd.R_drewN hR m9
                replace hRo := Kd.R_drewN hRo m9
                generalize w8.drewN m9 = wA at hP hR hRo ⊢
                have hRt := Kd.R_mono (ok' := fun _ => True) hRo (fun _ _ => trivial)
                go_wp2_with (first | ((with_reducible refine gate_builtin (b := .append) (xs := #[.tmp 117, .tmp 119]) rfl ?_); at_builtin; refine Kd.R_append (Kd.int .i64) (w0 := w) w.heap.size rfl (.tmp 117) (.tmp 119) 22 3 (.int .i64 0) 8 rfl Tryz.underlying22 infoI rfl (by decide) (by omega) (.slice Ao out.length co) out x [.int .i64 x] (fun _ => True) (fun _ => False) rfl rfl ?aP (fun _ hk => hk.elim) ?aF ?aO ?aB ?aS ?aL ?_; (case aP => exact rfl); (case aB => exact hP.hB); (case aF => exact (fun _ _ => trivial)); (case aO => exact hRt); (case aS => exact hP.hB.size); (case aL => omega); intro v10 wG hRG hbG hgG hatG; clear hatG))
                have hgne : some g ≠ (Value.slice Ao out.length co).ownBlock := fun e => ((Kd.R_types hRo hP.hM.blk (ne_ty (by decide))).1 g e.symm).2 rfl
                have hdne : some d ≠ (Value.slice Ao out.length co).ownBlock := fun e => ((Kd.R_types hRo hP.hD.blk (ne_ty (by decide))).1 d e.symm).2 rfl
                have hPG := hP.grown hgG hgne hdne hbG
                have hRb := Kd.R_grown (Kd.R_mono (ok' := fun k => b ≤ k) (Kd.R_bound hR) (fun k hk => hk.2.1)) hgG (fun k hk e => by have := hRo.1 k e.symm; omega)
                have hCb := (Kd.R_reads' hRb).2.2
                clear hgne hdne hgG hP hR hRo hRt hbG hRb
                refine (PG.descantref1_Ones.calls _ A2 cap2 S3.bits _ _ hCb hcp2 hon.out).mono ?_
                rintro e wH ⟨rfl, ⟨⟨mH, rfl⟩⟩⟩
                replace hPG := hPG.drewN mH
                replace hRG := Kd.R_drewN hRG mH
                clear hCb
                generalize wG.drewN mH = wI at hPG hRG ⊢
                obtain ⟨ys, hys⟩ : ∃ ys, out ++ [x] = ys := ⟨_, rfl⟩
                have hyl : (ys.length : Int) = (out.length : Int) + 1 := by rw [← hys, List.length_append, List.length_singleton]; omega
                rw [hys] at hRG
                have hU4 := hU3.out
                rw [hys] at hU4
                replace hys := Lib.hid hys
                replace hyl := Lib.hid hyl
                replace hU4 := Lib.hid hU4
                go_wp2_with (fail)
                go_roundg n
                case measure => omega
                case rel => exact ⟨ys, nxt S3, D3, by show _ = Value.int .i64 (gOnes S3.bits : Int); rw [hon2.out], by rw [hyl.out], by have := hyl.out; omega, hU4.out, ⟨hS.hM, hS.hm, by show 0 ≤ (gOnes S3.bits : Int) ∧ (gOnes S3.bits : Int) ≤ 63; rw [hon2.out]; exact hq63, fun b hb => by cases hb⟩, rfl, hd, hDi, hPG, hRG⟩
              · rw [if_neg gk2, if_neg gk2] at hnum
                have hT3 := hT.out
                rw [if_neg (fun h => gk2 h.1)] at hT3
                have hUN : none = U := by have := hU.out; rw [← hT3] at this; exact this
                have hunf : ∀ W, Calls Tryz.prog 54 #[.int .i64 0] W fun e w' => e = .returned (.tuple #[.int .i64 0, .int .i64 0]) ∧ ∃ m, w' = W.drewN m := fun W => runfold_any 0 W (by decide)
                replace hT3 := Lib.hid hT3
                replace hUN := Lib.hid hUN
                replace hunf := Lib.hid hunf
                replace gk2 := Lib.hid gk2
                go_wp2_with (fail)
                refine hnum.mono ?_
                rintro e w7 ⟨rfl, m7, rfl⟩
                replace hP := hP.drewN m7
                clear hnum
                generalize w6.drewN m7 = w8 at hP ⊢
                go_wp2_with (fail)
                refine (hunf.out _).mono ?_
                rintro e w9 ⟨rfl, m9, rfl⟩
                replace hP := hP.drewN m9
                go_wp2_with (fail)
                go_ret2
                rw [← hT1.out, ← hUN.out]
                exact ⟨rfl, hP.hB⟩
            · rw [hw, if_neg (by decide)] at hT
              have HC := Lib.hid hC2
              clear hC2
              by_cases c51 : 51 < S3.bits.length
              · rw [if_pos c51] at hT
                have d51 : decide ((51 : Int) < (S3.bits.length : Int)) = true := decide_eq_true (by omega)
                have eA : decide ((S3.bits.length : Int) < z) = false := decide_eq_false (by omega)
                have hUN : none = U := by have := hU.out; rw [← hT] at this; exact this
                replace hT := Lib.hid hT
                rcases h3 with l0 | ⟨l0, l1⟩ | ⟨l0, l1, l2⟩
                · exact absurd c51 (by omega)
                · have eB : decide ((S3.bits.length : Int) < (q : Int) + z) = true := decide_eq_true (by omega)
                  replace l1 := Lib.hid l1
                  replace hz := Lib.hid hz
                  go_wp2_with (fail)
                  refine (PG.descantref1_Ones.calls _ A2 cap2 S3.bits _ _ HC.out hcp2 hon.out).mono ?_
                  rintro e w3 ⟨rfl, ⟨⟨m3, rfl⟩⟩⟩
                  replace hP := hP.drewN m3
                  replace hR := Kd.R_drewN hR m3
                  replace hRo := Kd.R_drewN hRo m3
                  replace hbw := Nat.le_trans hbw (L.below_drewN (Below.refl 0 _) m3).size
                  generalize wr.drewN m3 = w4 at hP hR hRo hbw ⊢
                  have HC4 := Lib.hid (Kd.R_reads' hR).2.2
                  replace hz := Lib.hid hz
                  go_wp2_with (fail)
                  go_ret2
                  rw [← hT1.out, ← hUN]
                  exact ⟨rfl, hP.hB⟩
                · have eB : decide ((S3.bits.length : Int) < (q : Int) + z) = false := decide_eq_false (by omega)
                  have eC : decide ((S3.bits.length : Int) < 2 * (q : Int) + 1) = true := decide_eq_true (by omega)
                  replace hz := Lib.hid hz
                  go_wp2_with (fail)
                  refine (PG.descantref1_Ones.calls _ A2 cap2 S3.bits _ _ HC.out hcp2 hon.out).mono ?_
                  rintro e w3 ⟨rfl, ⟨⟨m3, rfl⟩⟩⟩
                  replace hP := hP.drewN m3
                  replace hR := Kd.R_drewN hR m3
                  replace hRo := Kd.R_drewN hRo m3
                  replace hbw := Nat.le_trans hbw (L.below_drewN (Below.refl 0 _) m3).size
                  generalize wr.drewN m3 = w4 at hP hR hRo hbw ⊢
                  have HC4 := Lib.hid (Kd.R_reads' hR).2.2
                  replace hz := Lib.hid hz
                  go_wp2_with (fail)
                  refine (PG.descantref1_Ones.calls _ A2 cap2 S3.bits _ _ HC4.out hcp2 hon.out).mono ?_
                  rintro e w5 ⟨rfl, ⟨⟨m5, rfl⟩⟩⟩
                  replace hP := hP.drewN m5
                  replace hR := Kd.R_drewN hR m5
                  replace hRo := Kd.R_drewN hRo m5
                  replace hbw := Nat.le_trans hbw (L.below_drewN (Below.refl 0 _) m5).size
                  generalize w4.drewN m5 = w6 at hP hR hRo hbw ⊢
                  replace hz := Lib.hid hz
                  go_wp2_with (fail)
                  go_ret2
                  rw [← hT1.out, ← hUN]
                  exact ⟨rfl, hP.hB⟩
              · rw [if_neg c51] at hT
                have d51 : decide ((51 : Int) < (S3.bits.length : Int)) = false := decide_eq_false (by omega)
                replace hT := Lib.hid hT
                have h50 : S3.bits.length ≤ 51 := by omega
                replace c51 := Lib.hid c51
                rcases h3 with l0 | ⟨l0, l1⟩ | ⟨l0, l1, l2⟩
                have eA : decide ((S3.bits.length : Int) < z) = true := decide_eq_true (by omega)
                replace l0 := Lib.hid l0
                replace hz := Lib.hid hz
                go_wp2_with (fail)
                generalize wr = w6 at hP hR hRo hbw ⊢
                clear eA l0
                rotate_left
                have eA : decide ((S3.bits.length : Int) < z) = false := decide_eq_false (by omega)
                have eB : decide ((S3.bits.length : Int) < (q : Int) + z) = true := decide_eq_true (by omega)
                replace l1 := Lib.hid l1
                replace hz := Lib.hid hz
                go_wp2_with (fail)
                refine (PG.descantref1_Ones.calls _ A2 cap2 S3.bits _ _ HC.out hcp2 hon.out).mono ?_
                rintro e w3 ⟨rfl, ⟨⟨m3, rfl⟩⟩⟩
                replace hP := hP.drewN m3
                replace hR := Kd.R_drewN hR m3
                replace hRo := Kd.R_drewN hRo m3
                replace hbw := Nat.le_trans hbw (L.below_drewN (Below.refl 0 _) m3).size
                generalize wr.drewN m3 = w4 at hP hR hRo hbw ⊢
                have HC4 := Lib.hid (Kd.R_reads' hR).2.2
                replace hz := Lib.hid hz
                go_wp2_with (fail)
                generalize w4 = w6 at hP hR hRo hbw ⊢
                clear eA eB l0 l1 HC4
                rotate_left
                have eA : decide ((S3.bits.length : Int) < z) = false := decide_eq_false (by omega)
                have eB : decide ((S3.bits.length : Int) < (q : Int) + z) = false := decide_eq_false (by omega)
                have eC : decide ((S3.bits.length : Int) < 2 * (q : Int) + 1) = true := decide_eq_true (by omega)
                replace hz := Lib.hid hz
                go_wp2_with (fail)
                refine (PG.descantref1_Ones.calls _ A2 cap2 S3.bits _ _ HC.out hcp2 hon.out).mono ?_
                rintro e w3 ⟨rfl, ⟨⟨m3, rfl⟩⟩⟩
                replace hP := hP.drewN m3
                replace hR := Kd.R_drewN hR m3
                replace hRo := Kd.R_drewN hRo m3
                replace hbw := Nat.le_trans hbw (L.below_drewN (Below.refl 0 _) m3).size
                generalize wr.drewN m3 = w4 at hP hR hRo hbw ⊢
                have HC4 := Lib.hid (Kd.R_reads' hR).2.2
                replace hz := Lib.hid hz
                go_wp2_with (fail)
                refine (PG.descantref1_Ones.calls _ A2 cap2 S3.bits _ _ HC4.out hcp2 hon.out).mono ?_
                rintro e w5 ⟨rfl, ⟨⟨m5, rfl⟩⟩⟩
                replace hP := hP.drewN m5
                replace hR := Kd.R_drewN hR m5
                replace hRo := Kd.R_drewN hRo m5
                replace hbw := Nat.le_trans hbw (L.below_drewN (Below.refl 0 _) m5).size
                generalize w4.drewN m5 = w6 at hP hR hRo hbw ⊢
                replace hz := Lib.hid hz
                go_wp2_with (fail)
                clear eA eB eC l0 l1 l2 HC4
                rotate_left
                all_goals
                  have hC6 := (Kd.R_reads' hR).2.2
                  have hctx : Calls Tryz.prog 42 #[.int .i64 before, .slice A2 S3.bits.length cap2] w6 fun e w' => e = .returned (.tuple #[v3 (cx0 S3.bits) (cx1 S3.before S3.bits) (cx2 S3.bits), .int .i64 0]) ∧ Below w6.heap.size w6 w' := by
                    have := rctx_any S3.before A2 cap2 S3.bits w6 hC6 hcp2 hS.hb (by omega) hS.h01
                    rw [hbf.out] at this ⊢; exact this
                  have hmod := fun W => rp_chance hS W
                  have hdec := fun W => rdec_bit s D3 (chance mdot S3) W ho1 hd hDi (mdot_in _ _ _ _).1 (mdot_in _ _ _ _).2
                  have hlrn := fun W => rp_learn hS (decV_01 s.data.toList D3 (chance mdot S3)) W
                  have hd4 := PG.decB_ok (p := chance mdot S3) hd (mdot_in _ _ _ _).1 (mdot_in _ _ _ _).2
                  have hv01 := decV_01 s.data.toList D3 (chance mdot S3)
                  have hN2 := lrn_in hS hv01
                  obtain ⟨D4, hD4⟩ : ∃ D4, decB s.data.toList D3 (chance mdot S3) = D4 := ⟨_, rfl⟩
                  obtain ⟨V, hV⟩ : ∃ V, decV s.data.toList D3 (chance mdot S3) = V := ⟨_, rfl⟩
                  obtain ⟨M4, hM4⟩ : ∃ M4, (lrn lR S3 V).M = M4 := ⟨_, rfl⟩
                  unfold decR at hdec
                  rw [hV, hM4] at hlrn
                  rw [hV, hD4] at hdec
                  rw [hD4] at hd4
                  rw [hV] at hv01 hN2
                  have hM4l : M4.length = 195 := by rw [← hM4]; exact hN2.hM
                  have hT2 := hT.out
                  rw [hV, hD4] at hT2
                  obtain ⟨p, hp⟩ : ∃ p, chance mdot S3 = p := ⟨_, rfl⟩
                  rw [hp] at hmod hdec
                  have hDJ := DJ.step (b := V) hJ hS.h01 hw
                  replace hp := Lib.hid hp
                  replace hD4 := Lib.hid hD4
                  replace hV := Lib.hid hV
                  replace hM4 := Lib.hid hM4
                  unfold v3 at hctx hmod hlrn
                  generalize cx0 S3.bits = c0 at *
                  generalize cx1 S3.before S3.bits = c1' at *
                  generalize cx2 S3.bits = c2' at *
                  replace hmod := Lib.hid hmod
                  replace hlrn := Lib.hid hlrn
                  replace hv01 := Lib.hid hv01
                  obtain ⟨W3, hW3⟩ : ∃ x, win s.data.toList D3.i = x := ⟨_, rfl⟩
                  obtain ⟨T3, hT3⟩ : ∃ x, (D3.i : Int) + 4 = x := ⟨_, rfl⟩
                  obtain ⟨W4, hW4⟩ : ∃ x, win s.data.toList D4.i = x := ⟨_, rfl⟩
                  obtain ⟨T4, hT4⟩ : ∃ x, (D4.i : Int) + 4 = x := ⟨_, rfl⟩
                  replace hW3 := Lib.hid hW3
                  replace hT3 := Lib.hid hT3
                  replace hW4 := Lib.hid hW4
                  replace hT4 := Lib.hid hT4
                  refine hctx.mono ?_
                  rintro e w7 ⟨rfl, hb7⟩
                  replace hP := hP.next hb7
                  replace hR := Kd.R_below hR hb7
                  replace hRo := Kd.R_below hRo hb7
                  replace hbw := Nat.le_trans hbw hb7.size
                  clear hC6 hb7 hctx
                  have hNw := L.BC.new w7 [.int .i64 0, .int .i64 0, .int .i64 0] 61
                  have n0 := L.BC.at_ hNw (o := 0) rfl; have n1 := L.BC.at_ hNw (o := 1) rfl; have n2 := L.BC.at_ hNw (o := 2) rfl
                  have m0 := L.BC.frozen hNw 0; have m1 := L.BC.frozen hNw 1; have m2 := L.BC.frozen hNw 2
                  have hgl7 := hP.lt
                  have hgt1 : g ≠ w7.heap.size := Nat.ne_of_lt hgl7
                  have hgt2 : d ≠ w7.heap.size := Nat.ne_of_lt (Nat.lt_trans hP.hg hgl7)
                  have hP7 := hP.alloc (.cells #[.int .i64 c0, .int .i64 c1', .int .i64 c2'] 61)
                  have hX7 := L.BC.new w7 [.int .i64 c0, .int .i64 c1', .int .i64 c2'] 61
                  have hR7 := Kd.R_alloc hR (.cells #[.int .i64 c0, .int .i64 c1', .int .i64 c2'] 61)
                  have hRo7 := Kd.R_alloc hRo (.cells #[.int .i64 c0, .int .i64 c1', .int .i64 c2'] 61)
                  have hbw7 : b ≤ (w7.alloc (.cells #[.int .i64 c0, .int .i64 c1', .int .i64 c2'] 61)).heap.size := Nat.le_trans hbw (L.below_alloc (Below.refl _ _) _).size
                  have y0 := L.BC.at_ hX7 (o := 0) rfl; have y1 := L.BC.at_ hX7 (o := 1) rfl; have y2 := L.BC.at_ hX7 (o := 2) rfl
                  go_wp2_with (with_reducible refine wpList_load_mid rfl 63 (.tmp 8) rfl g 0 ?_ (ints S3.M) _ hP7.hM.range Tryz.underlying63 rfl hP7.hM.info ?_)
                  all_goals first | (show _ = Value.pointer _; rfl) | skip
                  clear n0 n1 n2 m0 m1 m2 hNw y0 y1 y2 hP hR hRo hbw hgl7
                  generalize w7.alloc (.cells #[.int .i64 c0, .int .i64 c1', .int .i64 c2'] 61) = w8 at hP7 hX7 hR7 hRo7 hbw7 ⊢
                  generalize w7.heap.size = gt at hX7 hgt1 hgt2 ⊢
                  refine (hmod.out _).mono ?_
                  rintro e w9 ⟨rfl, hb9⟩
                  replace hP7 := hP7.next hb9
                  replace hX7 := L.BC.below hX7 hb9
                  replace hR7 := Kd.R_below hR7 hb9
                  replace hRo7 := Kd.R_below hRo7 hb9
                  replace hbw7 := Nat.le_trans hbw7 hb9.size
                  clear hb9 hmod
                  have x0 : w9.cell? ⟨d, 0, none⟩ = some (.int .i64 D3.l) := L.BC.at_ hP7.hD (o := 0) rfl
                  have x1 : w9.cell? ⟨d, 1, none⟩ = some (.int .i64 D3.h) := L.BC.at_ hP7.hD (o := 1) rfl
                  have x2 : w9.cell? ⟨d, 2, none⟩ = some (.int .i64 W3) := by rw [← hW3.out]; exact L.BC.at_ hP7.hD (o := 2) rfl
                  have x3 : w9.cell? ⟨d, 3, none⟩ = some (.string s) := L.BC.at_ hP7.hD (o := 3) rfl
                  have x4 : w9.cell? ⟨d, 4, none⟩ = some (.int .i64 T3) := by rw [← hT3.out]; exact L.BC.at_ hP7.hD (o := 4) rfl
                  by_cases ci : D4.i ≤ 65540
                  · have hdec2 : ∀ W, Calls Tryz.prog 52 #[.agg #[.int .i64 D3.l, .int .i64 D3.h, .int .i64 W3, .string s, .int .i64 T3], .int .i64 p] W fun e w' => e = .returned (.tuple #[.agg #[.int .i64 D4.l, .int .i64 D4.h, .int .i64 W4, .string s, .int .i64 T4], .int .i64 V, .int .i64 0]) ∧ Below W.heap.size W w' := by
                      intro W; have := hdec W; rw [if_pos ci] at this; rw [← hW3.out, ← hT3.out, ← hW4.out, ← hT4.out]; exact this
                    rw [if_neg (show ¬ 65540 < D4.i by omega)] at hT2
                    clear hdec
                    replace hT2 := Lib.hid hT2
                    replace hdec2 := Lib.hid hdec2
                    go_wp2_with (fail)
                    refine (hdec2.out _).mono ?_
                    rintro e wA ⟨rfl, hbA⟩
                    replace hP7 := hP7.next hbA
                    replace hX7 := L.BC.below hX7 hbA
                    replace hR7 := Kd.R_below hR7 hbA
                    replace hRo7 := Kd.R_below hRo7 hbA
                    replace hbw7 := Nat.le_trans hbw7 hbA.size
                    clear hbA hdec2 x0 x1 x2 x3 x4
                    have hNd := L.BC.new wA [.int .i64 0, .int .i64 0, .int .i64 0, .string ⟨#[]⟩, .int .i64 0] 87
                    have n0 := L.BC.at_ hNd (o := 0) rfl; have n1 := L.BC.at_ hNd (o := 1) rfl; have n2 := L.BC.at_ hNd (o := 2) rfl; have n3 := L.BC.at_ hNd (o := 3) rfl; have n4 := L.BC.at_ hNd (o := 4) rfl
                    have m0 := L.BC.frozen hNd 0; have m1 := L.BC.frozen hNd 1; have m2 := L.BC.frozen hNd 2; have m3 := L.BC.frozen hNd 3; have m4 := L.BC.frozen hNd 4
                    have hgA : d ≠ wA.heap.size := Nat.ne_of_lt (Nat.lt_trans hP7.hg hP7.lt)
                    have hPB := hP7.alloc (.cells #[.int .i64 D4.l, .int .i64 D4.h, .int .i64 W4, .string s, .int .i64 T4] 87)
                    have hXB := L.BC.alloc hX7 (.cells #[.int .i64 D4.l, .int .i64 D4.h, .int .i64 W4, .string s, .int .i64 T4] 87)
                    have hRB := Kd.R_alloc hR7 (.cells #[.int .i64 D4.l, .int .i64 D4.h, .int .i64 W4, .string s, .int .i64 T4] 87)
                    have hRoB := Kd.R_alloc hRo7 (.cells #[.int .i64 D4.l, .int .i64 D4.h, .int .i64 W4, .string s, .int .i64 T4] 87)
                    have hbwB : b ≤ (wA.alloc (.cells #[.int .i64 D4.l, .int .i64 D4.h, .int .i64 W4, .string s, .int .i64 T4] 87)).heap.size := Nat.le_trans hbw7 (L.below_alloc (Below.refl _ _) _).size
                    have hY := L.BC.new wA [.int .i64 D4.l, .int .i64 D4.h, .int .i64 W4, .string s, .int .i64 T4] 87
                    have y0 := L.BC.at_ hY (o := 0) rfl; have y1 := L.BC.at_ hY (o := 1) rfl; have y2 := L.BC.at_ hY (o := 2) rfl; have y3 := L.BC.at_ hY (o := 3) rfl; have y4 := L.BC.at_ hY (o := 4) rfl
                    clear hP7 hX7 hR7 hRo7 hbw7
                    have hi5 : (Tryz.prog.info? 87).map (·.size) = some ([.int .i64 D4.l, .int .i64 D4.h, .int .i64 W4, .string s, .int .i64 T4] : List Value).length := info56
                    go_wp2_with (first | ((with_reducible refine wpList_load_mid rfl 87 (.tmp 17) rfl wA.heap.size 0 ?hx [.int .i64 D4.l, .int .i64 D4.h, .int .i64 W4, .string s, .int .i64 T4] _ hY.range Tryz.underlying87 rfl hi5 ?_); (case hx => show _ = Value.pointer _; rfl); clear n0 n1 n2 n3 n4 m0 m1 m2 m3 m4 y0 y1 y2 y3 y4 hNd hY hi5; generalize wA.alloc (.cells #[.int .i64 D4.l, .int .i64 D4.h, .int .i64 W4, .string s, .int .i64 T4] 87) = wB at hPB hXB hRB hRoB hbwB ⊢; generalize wA.heap.size = gA at hgA ⊢; have x0 : wB.cell? ⟨d, 0, none⟩ = some (.int .i64 D3.l) := L.BC.at_ hPB.hD (o := 0) rfl; have x1 : wB.cell? ⟨d, 1, none⟩ = some (.int .i64 D3.h) := L.BC.at_ hPB.hD (o := 1) rfl; have x2 : wB.cell? ⟨d, 2, none⟩ = some (.int .i64 W3) := (by rw [← hW3.out]; exact L.BC.at_ hPB.hD (o := 2) rfl); have x3 : wB.cell? ⟨d, 3, none⟩ = some (.string s) := L.BC.at_ hPB.hD (o := 3) rfl; have x4 : wB.cell? ⟨d, 4, none⟩ = some (.int .i64 T3) := (by rw [← hT3.out]; exact L.BC.at_ hPB.hD (o := 4) rfl); have f0 := L.BC.frozen hPB.hD 0; have f1 := L.BC.frozen hPB.hD 1; have f2 := L.BC.frozen hPB.hD 2; have f3 := L.BC.frozen hPB.hD 3; have f4 := L.BC.frozen hPB.hD 4; have hPC : PD w (((((wB.setCell ⟨d, 0, none⟩ (.int .i64 D4.l)).setCell ⟨d, 1, none⟩ (.int .i64 D4.h)).setCell ⟨d, 2, none⟩ (.int .i64 W4)).setCell ⟨d, 3, none⟩ (.string s)).setCell ⟨d, 4, none⟩ (.int .i64 T4)) d g S3.M s D4 := (by rw [← hW4.out, ← hT4.out]; exact PD.dec (D2 := D4) hPB); have hXC : L.BC (((((wB.setCell ⟨d, 0, none⟩ (.int .i64 D4.l)).setCell ⟨d, 1, none⟩ (.int .i64 D4.h)).setCell ⟨d, 2, none⟩ (.int .i64 W4)).setCell ⟨d, 3, none⟩ (.string s)).setCell ⟨d, 4, none⟩ (.int .i64 T4)) gt 61 [.int .i64 c0, .int .i64 c1', .int .i64 c2'] := L.BC.far (L.BC.far (L.BC.far (L.BC.far (L.BC.far hXB (p := ⟨d, 0, none⟩) hgt2 (.int .i64 D4.l)) (p := ⟨d, 1, none⟩) hgt2 (.int .i64 D4.h)) (p := ⟨d, 2, none⟩) hgt2 (.int .i64 W4)) (p := ⟨d, 3, none⟩) hgt2 (.string s)) (p := ⟨d, 4, none⟩) hgt2 (.int .i64 T4); have hRC : Kd.R (Kd.int .i64) 3 (((((wB.setCell ⟨d, 0, none⟩ (.int .i64 D4.l)).setCell ⟨d, 1, none⟩ (.int .i64 D4.h)).setCell ⟨d, 2, none⟩ (.int .i64 W4)).setCell ⟨d, 3, none⟩ (.string s)).setCell ⟨d, 4, none⟩ (.int .i64 T4)) b (fun _ => True) (.slice A2 S3.bits.length cap2) S3.bits := (by rw [← hW4.out, ← hT4.out]; exact R_dec (D2 := D4) hPB hRB); have hRoC : Kd.R (Kd.int .i64) 3 (((((wB.setCell ⟨d, 0, none⟩ (.int .i64 D4.l)).setCell ⟨d, 1, none⟩ (.int .i64 D4.h)).setCell ⟨d, 2, none⟩ (.int .i64 W4)).setCell ⟨d, 3, none⟩ (.string s)).setCell ⟨d, 4, none⟩ (.int .i64 T4)) w.heap.size (fun k => k < b) (.slice Ao out.length co) out := (by rw [← hW4.out, ← hT4.out]; exact R_dec (D2 := D4) hPB hRoB); have hbwC : b ≤ (((((wB.setCell ⟨d, 0, none⟩ (.int .i64 D4.l)).setCell ⟨d, 1, none⟩ (.int .i64 D4.h)).setCell ⟨d, 2, none⟩ (.int .i64 W4)).setCell ⟨d, 3, none⟩ (.string s)).setCell ⟨d, 4, none⟩ (.int .i64 T4)).heap.size := (by simpa using hbwB); clear hPB hXB hRB hRoB hbwB) | ((with_reducible refine wpList_load_mid rfl 63 (.tmp 8) rfl g 0 ?hx (ints S3.M) _ hPC.hM.range Tryz.underlying63 rfl hPC.hM.info ?_); (case hx => show _ = Value.pointer _; rfl); clear x0 x1 x2 x3 x4 f0 f1 f2 f3 f4; generalize ((((wB.setCell ⟨d, 0, none⟩ (.int .i64 D4.l)).setCell ⟨d, 1, none⟩ (.int .i64 D4.h)).setCell ⟨d, 2, none⟩ (.int .i64 W4)).setCell ⟨d, 3, none⟩ (.string s)).setCell ⟨d, 4, none⟩ (.int .i64 T4) = wC at hPC hXC hRC hRoC hbwC ⊢; have k0 := L.BC.at_ hXC (o := 0) rfl; have k1 := L.BC.at_ hXC (o := 1) rfl; have k2 := L.BC.at_ hXC (o := 2) rfl))
                    refine (hlrn.out _).mono ?_
                    rintro e wD ⟨rfl, hbD⟩
                    replace hPC := hPC.next hbD
                    replace hRC := Kd.R_below hRC hbD
                    replace hRoC := Kd.R_below hRoC hbD
                    replace hbwC := Nat.le_trans hbwC hbD.size
                    clear hbD hlrn k0 k1 k2 hXC
                    go_wp2_with (first | ((with_reducible refine wpList_new_model M4 hM4l (.tmp 20) (.tmp 94) rfl rfl rfl rfl ?h1 ?h2 ?_); (case h1 => rfl); (case h2 => rfl); have hPE0 := hPC.alloc (.cells (ints M4).toArray 63); have hRE0 := Kd.R_alloc hRC (.cells (ints M4).toArray 63); have hRoE0 := Kd.R_alloc hRoC (.cells (ints M4).toArray 63); have hbE0 : b ≤ (wD.alloc (.cells (ints M4).toArray 63)).heap.size := Nat.le_trans hbwC (L.below_alloc (Below.refl _ _) _).size; have hN4 := MB.new wD hM4l; have hPE := PD.model hPE0 hM4l; have hRE := R_setCells (ne_ty (by decide)) (ints M4) 0 _ _ hPE0.blk hRE0; have hRoE := R_setCells (ne_ty (by decide)) (ints M4) 0 _ _ hPE0.blk hRoE0; have hT9 := Lib.hid (hPE0.hM.there hM4l); have hI9 := Lib.hid (info_M hM4l); have hbE : b ≤ (World.setCells (wD.alloc (.cells (ints M4).toArray 63)) g 0 (ints M4)).heap.size := Nat.le_trans hbE0 (L.bc_below_setCells (Nat.zero_le g) (ints M4) 0 _ (Below.refl 0 _)).size; clear hPC hRC hRoC hPE0 hRE0 hRoE0 hbE0) | ((with_reducible refine wpList_load_mid rfl 63 (.tmp 20) rfl wD.heap.size 0 ?hx (ints M4) _ hN4.range Tryz.underlying63 rfl hN4.info ?_); (case hx => show _ = Value.pointer _; rfl)) | ((with_reducible refine wpList_store_mid rfl 63 (.tmp 8) (.tmp 96) rfl g 0 (ints M4).toArray ?hx ?hy hT9.out hI9.out (all_oneCell_toArray (ints_one _)) ?_); (case hx => rfl); (case hy => rfl); clear hN4 hT9 hI9; generalize World.setCells _ g 0 _ = wE at hPE hRE hRoE hbE ⊢) | ((with_reducible refine gate_builtin (b := .append) (xs := #[.tmp 97, .tmp 99]) rfl ?_); at_builtin; refine Kd.R_append (Kd.int .i64) (w0 := wE) b rfl (.tmp 97) (.tmp 99) 22 3 (.int .i64 0) 8 rfl Tryz.underlying22 infoI rfl (by decide) (by omega) (.slice A2 S3.bits.length cap2) S3.bits (V) [.int .i64 V] (fun _ => True) (fun _ => False) rfl rfl ?aP (fun _ hk => hk.elim) ?aF ?aO ?aB ?aS ?aL ?_; (case aP => exact rfl); (case aB => exact Below.refl b wE); (case aF => exact (fun _ _ => trivial)); (case aO => exact hRE); (case aS => exact hbE); (case aL => omega); intro v12 wF hRF hbF hgF hatF; clear hatF))
                    have hne : ∀ k, k < b → some k ≠ (Value.slice A2 S3.bits.length cap2).ownBlock := fun k hk e => by have := Kd.R_base hRE k e.symm; omega
                    have hPF := hPE.blw hbF hgb
                    have hRoF := Kd.R_grown hRoE hgF hne
                    have hbwF := Nat.le_trans hbE hbF.size
                    clear hPE hRoE hbE hRE hbF hgF hne
                    go_roundg m
                    case measure => omega
                    case rel =>
                      refine ⟨lrn lR S3 V, D4, hT2.out, ?_, hDJ, ?_, hN2, hbf.out, hd4, ci, ?_, hRF, hRoF, hbwF⟩
                      · show (S3.bits ++ [V]).length + m = 60
                        have := hlen.out
                        rw [List.length_append, List.length_singleton]; omega
                      · show (S3.bits ++ [V]).length ≤ 52
                        rw [List.length_append, List.length_singleton]; omega
                      · rw [hM4.out]; exact hPF
                  · have hdec2 : ∀ W, Calls Tryz.prog 52 #[.agg #[.int .i64 D3.l, .int .i64 D3.h, .int .i64 W3, .string s, .int .i64 T3], .int .i64 p] W fun e w' => e = .returned (.tuple #[.agg #[.int .i64 0, .int .i64 0, .int .i64 0, .string ⟨#[]⟩, .int .i64 0], .int .i64 0, .int .i64 500]) ∧ Below W.heap.size W w' := by
                      intro W; have := hdec W; rw [if_neg ci] at this; rw [← hW3.out, ← hT3.out]; exact this
                    rw [if_pos (show 65540 < D4.i by omega)] at hT2
                    have hUN : none = U := by have := hU.out; rw [← hT2] at this; exact this
                    clear hdec
                    replace hUN := Lib.hid hUN
                    replace hT2 := Lib.hid hT2
                    replace hdec2 := Lib.hid hdec2
                    go_wp2_with (fail)
                    refine (hdec2.out _).mono ?_
                    rintro e wA ⟨rfl, hbA⟩
                    replace hP7 := hP7.next hbA
                    clear hbA hdec2 x0 x1 x2 x3 x4 hX7 hR7 hRo7 hbw7
                    have hNd := L.BC.new wA [.int .i64 0, .int .i64 0, .int .i64 0, .string ⟨#[]⟩, .int .i64 0] 87
                    have n0 := L.BC.at_ hNd (o := 0) rfl; have n1 := L.BC.at_ hNd (o := 1) rfl; have n2 := L.BC.at_ hNd (o := 2) rfl; have n3 := L.BC.at_ hNd (o := 3) rfl; have n4 := L.BC.at_ hNd (o := 4) rfl
                    have m0 := L.BC.frozen hNd 0; have m1 := L.BC.frozen hNd 1; have m2 := L.BC.frozen hNd 2; have m3 := L.BC.frozen hNd 3; have m4 := L.BC.frozen hNd 4
                    go_wp2_with (fail)
                    go_ret2
                    rw [← hT1.out, ← hUN.out]
                    exact ⟨rfl, L.below_alloc hP7.hB _⟩
        · have c1d : decide ((out.length : Int) < many) = false := decide_eq_false c1
          obtain rfl : gk = 0 := by omega
          have hUS : some out = U := hU
          have hT3 := hT1.out
          rw [← hUS] at hT3
          simp only [] at hT3
          have hC3 := Lib.hid (Kd.R_reads' hR).2.2
          have hcc := (Kd.R_reads' hR).2.1
          have hput := rput13 out Ao co wr hC3.out hcc
          replace hU := Lib.hid hU
          replace hUS := Lib.hid hUS
          replace hT1 := Lib.hid hT1
          replace c1 := Lib.hid c1
          by_cases hpk : putOk out = true
          · rw [if_pos hpk, if_pos hpk] at hput
            by_cases hps : putS mdot lR newM out = s.data.toList
            · have hts : (⟨(putS mdot lR newM out).toArray⟩ : ByteArray) = s := ByteArray.ext (by rw [hps])
              rw [hts] at hput
              rw [if_pos ⟨hpk, hps⟩] at hT3
              replace hT3 := Lib.hid hT3
              replace hpk := Lib.hid hpk
              replace hps := Lib.hid hps
              replace hts := Lib.hid hts
              go_wp2_with (fail)
              refine hput.mono ?_
              rintro e w8 ⟨rfl, hb8⟩
              replace hP := hP.next hb8
              have hR8 := Kd.R_below hR hb8
              clear hb8 hput hR
              go_wp2_with (fail)
              go_ret2
              rw [← hT3.out]
              exact ⟨_, rfl, hR8, hP.hB⟩
            · obtain ⟨t, ht⟩ : ∃ t : ByteArray, (⟨(putS mdot lR newM out).toArray⟩ : ByteArray) = t := ⟨_, rfl⟩
              have hne : (t.toList == s.toList) = false := by
                rw [Go.ByteArray.toList_eq, Go.ByteArray.toList_eq]
                exact beq_eq_false_iff_ne.2 fun h => hps (by rw [← ht] at h; exact h)
              rw [ht] at hput
              rw [if_neg (fun h => hps h.2)] at hT3
              replace hT3 := Lib.hid hT3
              replace hpk := Lib.hid hpk
              replace hps := Lib.hid hps
              replace ht := Lib.hid ht
              go_wp2_with (fail)
              refine hput.mono ?_
              rintro e w8 ⟨rfl, hb8⟩
              replace hP := hP.next hb8
              clear hb8 hput hR
              go_wp2_with (fail)
              go_ret2
              rw [← hT3.out]
              exact ⟨rfl, hP.hB⟩
          · rw [if_neg hpk, if_neg hpk] at hput
            rw [if_neg (fun h => hpk h.1)] at hT3
            replace hT3 := Lib.hid hT3
            replace hpk := Lib.hid hpk
            go_wp2_with (fail)
            refine hput.mono ?_
            rintro e w8 ⟨rfl, hb8⟩
            replace hP := hP.next hb8
            clear hb8 hput hR
            go_wp2_with (fail)
            go_ret2
            rw [← hT3.out]
            exact ⟨rfl, hP.hB⟩
    · have hg : getOk s.data.toList many = false := by
        unfold getOk
        by_cases h0 : 0 ≤ many
        · rw [decide_eq_false (show ¬ many ≤ 256 by omega), Bool.and_false, Bool.and_false]
        · rw [decide_eq_false h0, Bool.false_and, Bool.and_false]
      rw [hg, if_neg (by decide)] at hT0
      have hzf : (decide (0 ≤ many) && decide (many ≤ 256)) = false := by
        by_cases h0 : 0 ≤ many
        · rw [decide_eq_false (show ¬ many ≤ 256 by omega), Bool.and_false]
        · rw [decide_eq_false h0, Bool.false_and]
      have hup2 : ∀ W, Calls Tryz.prog 51 #[.int .i64 many, .int .i64 0, .int .i64 256] W fun e w' => e = .returned (.bool false) ∧ ∃ m, w' = W.drewN m := by
        intro W
        have := hup W
        rw [hzf] at this
        exact this
      clear hup hok hg hsz hzf
      replace hT0 := Lib.hid hT0
      replace hnew := Lib.hid hnew
      replace hup2 := Lib.hid hup2
      unfold decC dec0 at hnew
      obtain ⟨xw, hxw⟩ : ∃ xw, win s.data.toList 0 = xw := ⟨_, rfl⟩
      simp only [] at hnew
      rw [hxw, show ((0 : Nat) : Int) + 4 = 4 from rfl] at hnew
      replace hxw := Lib.hid hxw
      go_enter Tryz.func17, Tryz.ntmps17
      go_wp2_with (fail)
      refine (hnew.out _).mono ?_
      rintro e w1 ⟨rfl, hb⟩
      have hX := L.BC.new w1 [.int .i64 0, .int .i64 0, .int .i64 0, .string ⟨#[]⟩, .int .i64 0] 87
      have n0 := L.BC.at_ hX (o := 0) rfl; have n1 := L.BC.at_ hX (o := 1) rfl; have n2 := L.BC.at_ hX (o := 2) rfl; have n3 := L.BC.at_ hX (o := 3) rfl; have n4 := L.BC.at_ hX (o := 4) rfl
      have m0 := L.BC.frozen hX 0; have m1 := L.BC.frozen hX 1; have m2 := L.BC.frozen hX 2; have m3 := L.BC.frozen hX 3; have m4 := L.BC.frozen hX 4
      go_wp2_with (fail)
      refine (hup2.out _).mono ?_
      rintro e w3 ⟨rfl, m9, rfl⟩
      have hB := L.below_drewN (L.below_alloc hb (.cells #[.int .i64 0, .int .i64 4294967295, .int .i64 xw, .string s, .int .i64 4] 87)) m9
      clear n0 n1 n2 n3 n4 m0 m1 m2 m3 m4 hX
      go_wp2_with (fail)
      go_ret2
      rw [← hT0.out]
      exact ⟨rfl, hB⟩
  · have hnew := fun W => rnewdec_no s W ho1
    have hg : getOk s.data.toList many = false := by
      unfold getOk
      rw [decide_eq_false (show ¬ s.data.toList.length ≤ 65536 by rw [hsz]; exact ho1), Bool.false_and]
    rw [hg, if_neg (by decide)] at hT0
    have hup := fun W => upTo13 many 0 256 W
    obtain ⟨B, hBd⟩ : ∃ B, (decide (0 ≤ many) && decide (many ≤ 256)) = B := ⟨_, rfl⟩
    rw [hBd] at hup
    clear hg hsz ho1 hBd
    replace hT0 := Lib.hid hT0
    replace hnew := Lib.hid hnew
    replace hup := Lib.hid hup
    go_enter Tryz.func17, Tryz.ntmps17
    go_wp2_with (fail)
    refine (hnew.out _).mono ?_
    rintro e w1 ⟨rfl, hb⟩
    have hX := L.BC.new w1 [.int .i64 0, .int .i64 0, .int .i64 0, .string ⟨#[]⟩, .int .i64 0] 87
    have n0 := L.BC.at_ hX (o := 0) rfl; have n1 := L.BC.at_ hX (o := 1) rfl; have n2 := L.BC.at_ hX (o := 2) rfl; have n3 := L.BC.at_ hX (o := 3) rfl; have n4 := L.BC.at_ hX (o := 4) rfl
    have m0 := L.BC.frozen hX 0; have m1 := L.BC.frozen hX 1; have m2 := L.BC.frozen hX 2; have m3 := L.BC.frozen hX 3; have m4 := L.BC.frozen hX 4
    go_wp2_with (fail)
    refine (hup.out _).mono ?_
    rintro e w3 ⟨rfl, m5, rfl⟩
    have hB := L.below_drewN (L.below_alloc hb (.cells #[.int .i64 0, .int .i64 0, .int .i64 0, .string ⟨#[]⟩, .int .i64 0] 87)) m5
    clear n0 n1 n2 n3 n4 m0 m1 m2 m3 m4 hX
    cases B
    all_goals
      go_wp2_with (fail)
      go_ret2
      rw [← hT0.out]
      exact ⟨rfl, hB⟩
end Go.Proofs.YtiokfaiioealdaaGreatDoor
