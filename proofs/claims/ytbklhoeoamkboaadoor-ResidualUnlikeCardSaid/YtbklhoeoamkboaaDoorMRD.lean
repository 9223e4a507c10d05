/- The document's PutResiduals; ResidualUnlike, walked. -/
import Derived.Test.YtbklhoeoamkboaaDoorMRA
import Derived.Test.YtbklhoeoamkboaaDoorMRS
import Derived.Test.YtbklhoeoamkboaaDoorMRB
import Derived.Test.YtbklhoeoamkboaaDoorMRC
/- The document's leaves (fold, bits, coder), in plain numbers; its small functions. -/
namespace Go.Proofs.YtbklhoeoamkboaaDoor.PG
open Go.RowKit Go.Proofs.YtbklhoeoamkboaaDoor.L Go.Proofs.YtbklhoeoamkboaaDoorW.PrintWords Go.Proofs.YtbklhoeoamkboaaDoor.L
set_option linter.unusedVariables false
set_option linter.unusedSimpArgs false
theorem shr_nat (v n : Nat) (h : n ≤ 62) : shr .i64 (v : Int) (n : Int) = ((v / 2 ^ n : Nat) : Int) := by
  unfold shr
  rw [Int.toNat_natCast, Nat.min_eq_left (by show n ≤ 64; omega)]
  simp
theorem rb_l2 (u : Nat) (hu : u ≤ 33554432) : ∀ (j k : Nat) (xs : List Int), j ≤ 60 → j < k → xs.length + j < 1000000 → descantref1_Bits.l2 k (u : Int) xs ((j : Int) - 1) = some (xs ++ lowBits (u + 1) j, 0) := by
  intro j
  induction j with
  | zero =>
    intro k xs h0 hk hx
    obtain ⟨k, rfl⟩ : ∃ m, k = m + 1 := ⟨k - 1, by omega⟩
    simp only [descantref1_Bits.l2]
    rw [if_neg (by omega)]
    simp [lowBits]
  | succ j ih =>
    intro k xs h0 hk hx
    obtain ⟨k, rfl⟩ : ∃ m, k = m + 1 := ⟨k - 1, by omega⟩
    simp only [descantref1_Bits.l2]
    have e : shr .i64 (wrap64 ((u : Int) + 1)) (((j + 1 : Nat) : Int) - 1) = (((u + 1) / 2 ^ j : Nat) : Int) := by
      rw [w64 (by omega), show (u : Int) + 1 = ((u + 1 : Nat) : Int) by omega, show ((j + 1 : Nat) : Int) - 1 = (j : Int) by omega, shr_nat _ _ (by omega)]
    rw [if_pos (by omega), if_pos (by omega), if_pos (by omega), e, and_one, w64 (by omega), show ((j + 1 : Nat) : Int) - 1 - 1 = (j : Int) - 1 by omega, ih k _ (by omega) (by omega) (by simp; omega)]
    simp [lowBits]
theorem rb_l1 (u : Nat) (hu : u ≤ 33554432) : ∀ (d i k : Nat), i + d = Nat.log2 (u + 1) → d + 40 < k → descantref1_Bits.l1 k (u : Int) (Nat.log2 (u + 1) : Int) (List.replicate i 1) (i : Int) = some (gBits u, 0) := by
  have hl : Nat.log2 (u + 1) ≤ 25 := log2_le (by omega)
  intro d
  induction d with
  | zero =>
    intro i k hi hk
    obtain ⟨k, rfl⟩ : ∃ m, k = m + 1 := ⟨k - 1, by omega⟩
    simp only [descantref1_Bits.l1]
    obtain rfl : i = Nat.log2 (u + 1) := by omega
    rw [if_neg (by omega), if_pos (by simp; omega), w64 (by omega), rb_l2 u hu _ _ _ (by omega) (by omega) (by simp; omega)]
    simp [gBits]
  | succ d ih =>
    intro i k hi hk
    obtain ⟨k, rfl⟩ : ∃ m, k = m + 1 := ⟨k - 1, by omega⟩
    simp only [descantref1_Bits.l1]
    rw [if_pos (by omega), if_pos (by simp; omega), w64 (by omega), ← List.replicate_succ', show (i : Int) + 1 = ((i + 1 : Nat) : Int) by omega]
    exact ih (i + 1) k (by omega) (by omega)
theorem rb_l0 (u : Nat) (hu : u ≤ 33554432) : ∀ (d j k : Nat), j + d = Nat.log2 (u + 1) → d + 80 < k → descantref1_Bits.l0 k (u : Int) (j : Int) = some (gBits u, 0) := by
  have hl : Nat.log2 (u + 1) ≤ 25 := log2_le (by omega)
  obtain ⟨b1, b2⟩ := log2_bd (u + 1) (by omega)
  intro d
  induction d with
  | zero =>
    intro j k hj hk
    obtain ⟨k, rfl⟩ : ∃ m, k = m + 1 := ⟨k - 1, by omega⟩
    simp only [descantref1_Bits.l0]
    obtain rfl : j = Nat.log2 (u + 1) := by omega
    have e0 : (u + 1) / 2 ^ (Nat.log2 (u + 1) + 1) = 0 := Nat.div_eq_of_lt b2
    have e : shr .i64 (wrap64 ((u : Int) + 1)) (wrap64 ((Nat.log2 (u + 1) : Int) + 1)) = 0 := by
      rw [w64 (by omega), w64 (by omega), show (u : Int) + 1 = ((u + 1 : Nat) : Int) by omega, show (Nat.log2 (u + 1) : Int) + 1 = ((Nat.log2 (u + 1) + 1 : Nat) : Int) by omega, shr_nat _ _ (by omega), e0]
      rfl
    rw [e, if_pos (by rw [w64 (by omega)]; omega), if_neg (by omega)]
    exact rb_l1 u hu (Nat.log2 (u + 1)) 0 k (by omega) (by omega)
  | succ d ih =>
    intro j k hj hk
    obtain ⟨k, rfl⟩ : ∃ m, k = m + 1 := ⟨k - 1, by omega⟩
    simp only [descantref1_Bits.l0]
    have hp : 2 ^ (j + 1) ≤ u + 1 := Nat.le_trans (Nat.pow_le_pow_right (by decide) (by omega)) b1
    have hpos : 0 < (u + 1) / 2 ^ (j + 1) := Nat.div_pos hp (Nat.two_pow_pos _)
    have e : shr .i64 (wrap64 ((u : Int) + 1)) (wrap64 ((j : Int) + 1)) = (((u + 1) / 2 ^ (j + 1) : Nat) : Int) := by
      rw [w64 (by omega), w64 (by omega), show (u : Int) + 1 = ((u + 1 : Nat) : Int) by omega, show (j : Int) + 1 = ((j + 1 : Nat) : Int) by omega, shr_nat _ _ (by omega)]
    rw [e, if_pos (by rw [w64 (by omega)]; omega), if_pos (by omega), w64 (by omega), show (j : Int) + 1 = ((j + 1 : Nat) : Int) by omega]
    exact ih (j + 1) k (by omega) (by omega)
theorem rbits_f (u : Nat) (h : u ≤ 33554432) (k : Nat) (hk : 120 < k) : descantref1_Bits.f k (u : Int) = some (gBits u, 0) := by
  have hl : Nat.log2 (u + 1) ≤ 25 := log2_le (by omega)
  unfold descantref1_Bits.f descantref1_upTo.f
  rw [if_pos (by omega), Option.bind_some, if_pos (by simp; omega)]
  exact rb_l0 u h (Nat.log2 (u + 1)) 0 k (by omega) (by omega)
theorem rones_l0 (l : List Int) (hl : l.length ≤ 9223372036854775806) : ∀ (d i k : Nat), i + d = l.length → d < k → descantref1_Ones.l0 k l (i : Int) = some (((i + gOnes (l.drop i) : Nat) : Int)) := by
  intro d
  induction d with
  | zero =>
    intro i k hi hk
    obtain ⟨k, rfl⟩ : ∃ m, k = m + 1 := ⟨k - 1, by omega⟩
    simp only [descantref1_Ones.l0]
    rw [if_neg (by omega), List.drop_eq_nil_of_le (by omega)]
    simp [gOnes]
  | succ d ih =>
    intro i k hi hk
    obtain ⟨k, rfl⟩ : ∃ m, k = m + 1 := ⟨k - 1, by omega⟩
    simp only [descantref1_Ones.l0]
    have hd := gOnes_drop l i (by omega)
    rw [if_pos (by omega), if_pos (by omega)]
    by_cases h1 : rd l (i : Int) = 1
    · rw [if_pos h1] at hd ⊢
      rw [w64 (by omega), show (i : Int) + 1 = ((i + 1 : Nat) : Int) by omega, ih (i + 1) k (by omega) (by omega), hd, show i + (gOnes (l.drop (i + 1)) + 1) = i + 1 + gOnes (l.drop (i + 1)) by omega]
    · rw [if_neg h1] at hd ⊢
      rw [hd, Nat.add_zero]
theorem rones_f (l : List Int) (hl : l.length ≤ 9223372036854775806) (k : Nat) (hk : l.length < k) : descantref1_Ones.f k l = some (gOnes l : Int) := by
  have := rones_l0 l hl l.length 0 k (by omega) hk
  simpa [descantref1_Ones.f] using this
theorem rfold_f (x : Int) : descantref1_Fold.f x = if numOk x = true then some (((fld x : Nat) : Int), 0) else some (0, 1000) := by
  unfold descantref1_Fold.f descantref1_upTo.f numOk fld
  by_cases h1 : -16777216 ≤ x
  · rw [if_pos h1]
    by_cases h2 : x ≤ 16777216
    · rw [decide_eq_true h2, decide_eq_true ⟨h1, h2⟩, Option.bind_some, if_pos rfl, if_pos rfl]
      by_cases h3 : x < 0
      · rw [if_pos h3, if_pos h3, IntWalk.wrap64_in (-2 * x) (by omega), IntWalk.wrap64_in _ (by omega)]
        refine congrArg (fun t => some (t, (0 : Int))) ?_; omega
      · rw [if_neg h3, if_neg h3, IntWalk.wrap64_in _ (by omega)]
        refine congrArg (fun t => some (t, (0 : Int))) ?_; omega
    · rw [decide_eq_false h2, decide_eq_false (by omega), Option.bind_some, if_neg (by decide), if_neg (by decide)]
  · rw [if_neg h1, decide_eq_false (by omega), Option.bind_some, if_neg (by decide), if_neg (by decide)]
theorem low1_f (x : Int) : descantref1_Low.f 5 x 1 = some ⟨[by8 x].toArray⟩ := by
  simp [descantref1_Low.f, descantref1_Low.l0, wrap64]
  simp [strOfNums, by8, shr]
theorem rmay_f {l h : Int} {o : List UInt8} (he : Ends l h) (ho : o.length ≤ 65536) : descantref1_CoderMay.f l h ⟨o.toArray⟩ = some true := by
  obtain ⟨a, b, c⟩ := he
  unfold descantref1_CoderMay.f descantref1_between.f descantref1_word.f descantref1_upTo.f
  rw [if_pos a, decide_eq_true (show l ≤ 4294967295 by omega)]
  simp only [Option.bind_some, if_true]
  rw [if_pos (show h ≥ 0 by omega), decide_eq_true b]
  simp only [Option.bind_some, if_true]
  rw [decide_eq_true (show h / 16777216 > l / 16777216 from c)]
  simp only [Option.bind_some, if_true]
  rw [size_mk, decide_eq_true (by omega)]
theorem rend_f {E : Enc} (he : E.ok) (ho : E.out.length ≤ 65536) : descantref1_EndCoder.f 5 E.l E.h ⟨E.out.toArray⟩ = some (⟨(encE E).toArray⟩, 0) := by
  unfold descantref1_EndCoder.f
  rw [rmay_f he ho]
  simp only [Option.bind_some, if_true, low1_f]
  have hj : ∀ (a b : List UInt8), (⟨a.toArray⟩ : ByteArray) ++ ⟨b.toArray⟩ = ⟨(a ++ b).toArray⟩ := fun a b => ByteArray.ext (by simp)
  simp only [hj, size_mk, List.length_append, List.length_singleton]
  rw [if_pos (by omega), if_pos (by omega), if_pos (by omega), if_pos (by omega)]
  simp [encE]
end Go.Proofs.YtbklhoeoamkboaaDoor.PG
namespace Go.Proofs.YtbklhoeoamkboaaDoor
open Go.RowKit Go.Proofs.YtbklhoeoamkboaaDoorW.PrintWords Go.Proofs.YtbklhoeoamkboaaDoorW.PrintLast
set_option linter.unusedVariables false
set_option linter.unusedSimpArgs false
theorem upTo_any (x a b : Int) (w : World) : Calls Tryd.prog 46 #[.int .i64 x, .int .i64 a, .int .i64 b] w fun e w' => e = .returned (.bool (decide (a ≤ x) && decide (x ≤ b))) ∧ ∃ m, w' = w.drewN m := by
  refine (PG.descantref1_upTo.calls x a b (decide (a ≤ x) && decide (x ≤ b)) w ?_).mono fun e w' h => ⟨h.1, h.2.out⟩
  unfold PG.descantref1_upTo.f
  by_cases h : x ≥ a
  · rw [if_pos h, decide_eq_true h, Bool.true_and]
  · rw [if_neg h, decide_eq_false h, Bool.false_and]
set_option maxHeartbeats 4000000 in
theorem rchance_any (p : Int) (w : World) (h : 1 ≤ p ∧ p ≤ 4095) : Calls Tryd.prog 52 #[.int .i64 p] w fun e w' => e = .returned (.bool true) ∧ ∃ m, w' = w.drewN m := by
  have hu := upTo_any p 1 4095 w
  rw [decide_eq_true h.1, decide_eq_true h.2] at hu
  go_enter Tryd.func52, Tryd.ntmps52
  go_wp2_with (fail)
  refine hu.mono ?_
  rintro e w1 ⟨rfl, m, rfl⟩
  go_wp2_with (fail)
  go_ret
  exact ⟨rfl, m, rfl⟩
set_option maxHeartbeats 4000000 in
theorem rbit_may (b : Int) (w : World) (h : b = 0 ∨ b = 1) : Calls Tryd.prog 47 #[.int .i64 b] w fun e w' => e = .returned (.bool true) ∧ ∃ m, w' = w.drewN m := by
  rcases h with rfl | rfl
  all_goals
    go_enter Tryd.func47, Tryd.ntmps47
    go_wp2_with (fail)
    go_ret
    exact ⟨rfl, 0, rfl⟩
set_option maxHeartbeats 4000000 in
theorem rmid_any (l h p : Int) (w : World) (h0 : 0 ≤ l) (hl : l < h) (h1 : h ≤ 4294967295) (p1 : 1 ≤ p) (p2 : p ≤ 4095) : Calls Tryd.prog 53 #[.int .i64 l, .int .i64 h, .int .i64 p] w fun e w' => e = .returned (.int .i64 (mid l h p)) ∧ ∃ m, w' = w.drewN m := by
  have hm := PG.mid_bits h0 hl h1 p1 p2
  rw [IntWalk.wrap64_in (h - l) (by omega), Int.tdiv_eq_ediv_of_nonneg (show 0 ≤ h - l by omega), Int.tmod_eq_emod_of_nonneg (show 0 ≤ h - l by omega), IntWalk.wrap64_in ((h - l) / 4096) (by omega)] at hm
  rw [← hm]
  go_enter Tryd.func53, Tryd.ntmps53
  go_wp2_with (fail)
  go_ret
  refine ⟨?_, 0, rfl⟩
  first | rfl | simp
theorem isZ_ltr {l : List Int} (h01 : ∀ b ∈ l, b = 0 ∨ b = 1) : isZ l = decide (gOnes l < l.length) := by
  unfold isZ
  induction l with
  | nil => simp [gOnes]
  | cons a r ih =>
    have hr := ih fun b hb => h01 b (List.mem_cons_of_mem _ hb)
    simp only [gOnes, List.length_cons]
    rcases h01 a (List.mem_cons_self ..) with rfl | rfl
    · simp
    · simpa using hr
end Go.Proofs.YtbklhoeoamkboaaDoor
/- descantref1.Context: what it gives. -/
namespace Go.Proofs.YtbklhoeoamkboaaDoor
open Go.RowKit Go.Proofs.YtbklhoeoamkboaaDoorW.PrintWords Go.Proofs.YtbklhoeoamkboaaDoorW.PrintLast Go.Proofs.YtbklhoeoamkboaaDoorW.PrintMore Go.Proofs.YtbklhoeoamkboaaDoor.L
set_option linter.unusedVariables false
set_option linter.unusedSimpArgs false
set_option maxHeartbeats 8000000 in
set_option maxRecDepth 100000 in
theorem rctx_any (before : Int) (A : Option Addr) (c : Nat) (l : List Int) (w : World) (hr : Kd.C (Kd.int .i64) w A l.length l) (hc : l.length ≤ c) (hb : 0 ≤ before ∧ before ≤ 63) (hl : l.length ≤ 63) (h01 : ∀ b ∈ l, b = 0 ∨ b = 1) :
    Calls Tryd.prog 27 #[.int .i64 before, .slice A l.length c] w fun e w' => e = .returned (.tuple #[v3 (cx0 l) (cx1 before l) (cx2 l), .int .i64 0]) ∧ Below w.heap.size w w' := by
  have hones := PG.rones_f l (by omega) (l.length + 1) (by omega)
  have hn := gOnes_le l
  have hup := upTo_any before 0 63 (w.alloc (.cells #[.int .i64 0, .int .i64 0, .int .i64 0] 46))
  rw [decide_eq_true hb.1, decide_eq_true hb.2] at hup
  have d3 : decide (63 < (l.length : Int)) = false := decide_eq_false (by omega)
  have hlast : (l.length = 0 ∧ l.getLast? = none) ∨ (0 < l.length ∧ ∃ X, l.getLast? = some X ∧ rd l ((l.length : Int) - 1) = X) := by
    rcases Nat.eq_zero_or_pos l.length with h | h
    · left
      have := List.length_eq_zero_iff.1 h
      subst this; exact ⟨rfl, rfl⟩
    · exact .inr ⟨h, _, last_rd l h, rfl⟩
  unfold cx0 cx1 cx2
  have hiz := isZ_ltr h01
  obtain ⟨n, hnn⟩ : ∃ n : Nat, gOnes l = n := ⟨_, rfl⟩
  rw [hnn] at hones hn hiz ⊢
  have HO := Lib.hid hones
  clear hones hnn
  have w0 : IntKind.i64.wrap (2 * min before 31) = 2 * min before 31 := IntWalk.i64_in _ (by omega)
  have w1 : IntKind.i64.wrap (min (n : Int) 31 + 32) = min (n : Int) 31 + 32 := IntWalk.i64_in _ (by omega)
  have w2 : IntKind.i64.wrap (2 * min before 31 + 1) = 2 * min before 31 + 1 := IntWalk.i64_in _ (by omega)
  have w3 : IntKind.i64.wrap (min (l.length : Int) 31 + 32) = min (l.length : Int) 31 + 32 := IntWalk.i64_in _ (by omega)
  have hB := L.below_alloc (Below.refl w.heap.size w) (.cells #[.int .i64 0, .int .i64 0, .int .i64 0] 46)
  have hZ := L.BC.new w [.int .i64 0, .int .i64 0, .int .i64 0] 46
  have hC := Kd.C_alloc hr (.cells #[.int .i64 0, .int .i64 0, .int .i64 0] 46)
  have hr0 := Lib.hid hr
  have h010 := Lib.hid h01
  clear hr h01
  unfold v3
  obtain ⟨c0, hc0⟩ : ∃ c0, min (n : Int) 31 + (if isZ l = true then 32 else 0) = c0 := ⟨_, rfl⟩
  obtain ⟨c1', hc1⟩ : ∃ c1, 2 * min before 31 + (if isZ l = true then 1 else 0) = c1 := ⟨_, rfl⟩
  obtain ⟨c2, hc2⟩ : ∃ c2, min (l.length : Int) 31 + (if l.getLast? = some 1 then 32 else 0) = c2 := ⟨_, rfl⟩
  rw [hc0, hc1, hc2]
  obtain ⟨Z, hZd⟩ : ∃ Z, isZ l = Z := ⟨_, rfl⟩
  rw [hZd] at hiz hc0 hc1
  replace hc0 := Lib.hid hc0
  replace hc1 := Lib.hid hc1
  replace hc2 := Lib.hid hc2
  replace hiz := Lib.hid hiz
  clear hZd
  go_enter Tryd.func27, Tryd.ntmps27
  go_wp2_with (fail)
  refine hup.mono ?_
  rintro e w4 ⟨rfl, m4, rfl⟩
  replace hB := L.below_drewN hB m4
  replace hZ := L.BC.drewN hZ m4
  clear hup hC
  generalize (w.alloc (.cells #[.int .i64 0, .int .i64 0, .int .i64 0] 46)).drewN m4 = w5 at hB hZ ⊢
  go_wp2_with (fail)
  go_loopg [6] l.length (fun kq v6 W => ∃ (i : Nat), v6 = .int .i64 (i : Int) ∧ i + kq = l.length ∧ L.BC W w.heap.size 46 [.int .i64 0, .int .i64 0, .int .i64 0] ∧ Below w.heap.size w W)
  case atStart => exact ⟨0, by simp, by omega, hZ, hB⟩
  case round =>
    clear hZ hB
    obtain ⟨i, rfl, hi, hZ, hB⟩ := hrel
    have hC := Kd.C_below hr0.out hB
    by_cases c1 : i < l.length
    · have c1d : decide ((i : Int) < (l.length : Int)) = true := decide_eq_true (by omega)
      obtain ⟨ad, ead, hx⟩ := Kd.at_int hC (i : Int) (by omega) (by omega)
      cases ead
      rw [Int.toNat_natCast] at hx
      have p3 := eq_true (show (0 : Int) ≤ (i : Int) by omega)
      have q3 := eq_true (show (i : Int) < (l.length : Int) by omega)
      have hb01 := h010.out _ (List.getElem_mem c1)
      rw [← rd_get c1] at hb01
      generalize rd l (i : Int) = b at *
      have hmay := fun w1 => rbit_may b w1 hb01
      clear hb01
      go_wp2_with (fail)
      refine (hmay _).mono ?_
      rintro e w6 ⟨rfl, m6, rfl⟩
      replace hB := L.below_drewN hB m6
      replace hZ := L.BC.drewN hZ m6
      clear hx hC hmay
      generalize wr.drewN m6 = w7 at hB hZ ⊢
      go_wp2_with (fail)
      obtain ⟨k, rfl⟩ : ∃ k, gk = k + 1 := ⟨gk - 1, by omega⟩
      go_roundg k
      case measure => omega
      case rel => exact ⟨i + 1, by simp, by omega, hZ, hB⟩
    · have c1d : decide ((i : Int) < (l.length : Int)) = false := decide_eq_false (by omega)
      go_wp2_with (fail)
      refine (PG.descantref1_Ones.calls _ A c l _ _ hC hc HO.out).mono ?_
      rintro e w6 ⟨rfl, ⟨⟨m6, rfl⟩⟩⟩
      replace hB := L.below_drewN hB m6
      replace hZ := L.BC.drewN hZ m6
      replace hC := Kd.C_drewN hC m6
      generalize wr.drewN m6 = w7 at hB hZ hC ⊢
      have hmin1 : min (31 : Int) (n : Int) = min (n : Int) 31 := Int.min_comm _ _
      have hmin2 : min (31 : Int) before = min before 31 := Int.min_comm _ _
      have hmin3 : min (31 : Int) (l.length : Int) = min (l.length : Int) 31 := Int.min_comm _ _
      have hNw := L.BC.new w7 [.int .i64 0, .int .i64 0, .int .i64 0] 46
      have n0 := L.BC.at_ hNw (o := 0) rfl; have n1 := L.BC.at_ hNw (o := 1) rfl; have n2 := L.BC.at_ hNw (o := 2) rfl
      have f0 := L.BC.frozen hNw 0; have f1 := L.BC.frozen hNw 1; have f2 := L.BC.frozen hNw 2
      have dZ : decide ((n : Int) < (l.length : Int)) = Z := by rw [hiz.out]; exact decide_eq_decide.2 (by omega)
      have dZn : (n < l.length) = (Z = true) := by rw [hiz.out]; exact (decide_eq_true_eq).symm
      have hlt : w.heap.size < w7.heap.size := hZ.lt
      have e1 : (w7.heap.size = w.heap.size) = False := eq_false (by omega)
      have e2 : (w.heap.size = w7.heap.size) = False := eq_false (by omega)
      have z0 : ∀ o, (w7.alloc o).cell? ⟨w.heap.size, 0, none⟩ = some (.int .i64 0) := fun o => L.BC.at_ (L.BC.alloc hZ o) rfl
      have z1 : ∀ o, (w7.alloc o).cell? ⟨w.heap.size, 1, none⟩ = some (.int .i64 0) := fun o => L.BC.at_ (L.BC.alloc hZ o) rfl
      have z2 : ∀ o, (w7.alloc o).cell? ⟨w.heap.size, 2, none⟩ = some (.int .i64 0) := fun o => L.BC.at_ (L.BC.alloc hZ o) rfl
      have g0 : ∀ o, (w7.alloc o).frozen? ⟨w.heap.size, 0, none⟩ = false := fun o => L.BC.frozen (L.BC.alloc hZ o) 0
      have g1 : ∀ o, (w7.alloc o).frozen? ⟨w.heap.size, 1, none⟩ = false := fun o => L.BC.frozen (L.BC.alloc hZ o) 1
      have g2 : ∀ o, (w7.alloc o).frozen? ⟨w.heap.size, 2, none⟩ = false := fun o => L.BC.frozen (L.BC.alloc hZ o) 2
      have z1' : ∀ v o, ((w7.setCell ⟨w.heap.size, 0, none⟩ v).alloc o).cell? ⟨w.heap.size, 1, none⟩ = some (.int .i64 0) := fun v o => L.BC.at_ (L.BC.alloc (L.BC.set hZ 0 v) o) rfl
      have g1' : ∀ v o, ((w7.setCell ⟨w.heap.size, 0, none⟩ v).alloc o).frozen? ⟨w.heap.size, 1, none⟩ = false := fun v o => L.BC.frozen (L.BC.alloc (L.BC.set hZ 0 v) o) 1
      have z2' : ∀ v v2 o, (((w7.setCell ⟨w.heap.size, 0, none⟩ v).setCell ⟨w.heap.size, 1, none⟩ v2).alloc o).cell? ⟨w.heap.size, 2, none⟩ = some (.int .i64 0) := fun v v2 o => L.BC.at_ (L.BC.alloc (L.BC.set (L.BC.set hZ 0 v) 1 v2) o) rfl
      have g2' : ∀ v v2 o, (((w7.setCell ⟨w.heap.size, 0, none⟩ v).setCell ⟨w.heap.size, 1, none⟩ v2).alloc o).frozen? ⟨w.heap.size, 2, none⟩ = false := fun v v2 o => L.BC.frozen (L.BC.alloc (L.BC.set (L.BC.set hZ 0 v) 1 v2) o) 2
      rcases hlast with ⟨h0, hg⟩ | ⟨h0, X, hg, hX⟩
      · replace hc2 := hc2.out
        rw [hg] at hc2
        replace hc2 := Lib.hid hc2
        have dl : decide (0 < (l.length : Int)) = false := decide_eq_false (by omega)
        have dl2 : (0 < l.length) = False := eq_false (by omega)
        replace h0 := Lib.hid h0
        cases Z
        all_goals
          go_wp2_with (fail)
          exact bodyPost_ret (L.bc_resultst (P := Tryd.prog) Tryd.results27 _ _ w.heap.size _ _ rfl (L.BC.range (L.BC.alloc (L.BC.set (L.BC.set (L.BC.set hZ 0 _) 1 _) 2 _) _)) Tryd.underlying46 rfl info3c) rfl ⟨by rw [← hc0.out, ← hc1.out, ← hc2.out]; simp, L.below_alloc (((hB.setCell (p := ⟨w.heap.size, 0, none⟩) (Nat.le_refl _) _).setCell (p := ⟨w.heap.size, 1, none⟩) (Nat.le_refl _) _).setCell (p := ⟨w.heap.size, 2, none⟩) (Nat.le_refl _) _) _⟩
      · replace hc2 := hc2.out
        rw [hg] at hc2
        replace hc2 := Lib.hid hc2
        have dl : decide (0 < (l.length : Int)) = true := decide_eq_true (by omega)
        have dl2 : (0 < l.length) = True := eq_true (by omega)
        have wl : IntKind.i64.wrap ((l.length : Int) - 1) = (l.length : Int) - 1 := IntWalk.i64_in _ (by omega)
        obtain ⟨ad, ead, hx⟩ := Kd.at_int hC ((l.length : Int) - 1) (by omega) (by omega)
        cases ead
        rw [hX, show ((l.length : Int) - 1).toNat = l.length - 1 by omega] at hx
        have hx' : ∀ o, (w7.alloc o).cell? (ad.add (l.length - 1)) = some (.int .i64 X) := fun o => L.cell_below (L.below_alloc (Below.refl _ _) o) hx
        have p0 := eq_true (show 0 ≤ (l.length : Int) - 1 by omega)
        have p1 := eq_true (show (l.length : Int) - 1 < (l.length : Int) by omega)
        have p2 := eq_true (show 1 ≤ (l.length : Int) by omega)
        replace h0 := Lib.hid h0
        clear hg hX hx
        by_cases hx1 : X = 1
        · subst hx1
          cases Z
          all_goals
            go_wp2_with (fail)
            exact bodyPost_ret (L.bc_resultst (P := Tryd.prog) Tryd.results27 _ _ w.heap.size _ _ rfl (L.BC.range (L.BC.alloc (L.BC.set (L.BC.set (L.BC.set hZ 0 _) 1 _) 2 _) _)) Tryd.underlying46 rfl info3c) rfl ⟨by rw [← hc0.out, ← hc1.out, ← hc2.out]; simp, L.below_alloc (((hB.setCell (p := ⟨w.heap.size, 0, none⟩) (Nat.le_refl _) _).setCell (p := ⟨w.heap.size, 1, none⟩) (Nat.le_refl _) _).setCell (p := ⟨w.heap.size, 2, none⟩) (Nat.le_refl _) _) _⟩
        · have hxb : (X == 1) = false := by simpa using hx1
          have hx3 : ((some X : Option Int) = some 1) = False := eq_false (by simpa using hx1)
          replace hx1 := Lib.hid hx1
          cases Z
          all_goals
            go_wp2_with (fail)
            exact bodyPost_ret (L.bc_resultst (P := Tryd.prog) Tryd.results27 _ _ w.heap.size _ _ rfl (L.BC.range (L.BC.alloc (L.BC.set (L.BC.set (L.BC.set hZ 0 _) 1 _) 2 _) _)) Tryd.underlying46 rfl info3c) rfl ⟨by rw [← hc0.out, ← hc1.out, ← hc2.out]; simp [hx1.out], L.below_alloc (((hB.setCell (p := ⟨w.heap.size, 0, none⟩) (Nat.le_refl _) _).setCell (p := ⟨w.heap.size, 1, none⟩) (Nat.le_refl _) _).setCell (p := ⟨w.heap.size, 2, none⟩) (Nat.le_refl _) _) _⟩
end Go.Proofs.YtbklhoeoamkboaaDoor
/- descantref1.CodeBit, where its coder may be: what it gives. -/
namespace Go.Proofs.YtbklhoeoamkboaaDoor
open Go.RowKit Go.Proofs.YtbklhoeoamkboaaDoorW.PrintWords Go.Proofs.YtbklhoeoamkboaaDoorW.PrintLast Go.Proofs.YtbklhoeoamkboaaDoorW.PrintMore Go.Proofs.YtbklhoeoamkboaaDoor.L
set_option linter.unusedVariables false
set_option linter.unusedSimpArgs false
theorem and_up {x : Int} (h0 : 0 ≤ x) (h1 : x ≤ 4294967295) : Go.bits .and .i64 (x * 256) 4294967295 = up x 0 := by
  rw [PG.and_most (by omega) (by omega)]; unfold up; omega
theorem or_up {x : Int} (h0 : 0 ≤ x) (h1 : x ≤ 4294967295) : Go.bits .or .i64 (up x 0) 255 = up x 255 := by
  have := PG.or_byte (V := x % 16777216) (x := 255) (by omega) (by omega) (by decide) (by decide)
  rw [show up x 0 = x % 16777216 * 256 by unfold up; omega, this]
  unfold up; omega
theorem cat_mk (a b : List UInt8) : (⟨a.toArray⟩ : ByteArray) ++ ⟨b.toArray⟩ = ⟨(a ++ b).toArray⟩ := by apply ByteArray.ext; simp
set_option maxHeartbeats 8000000 in
set_option maxRecDepth 100000 in
theorem rcode_bit (E : Enc) (b p : Int) (w : World) (he : E.ok) (hb : b = 0 ∨ b = 1) (p1 : 1 ≤ p) (p2 : p ≤ 4095) (ho : E.out.length + 4 ≤ 65536) :
    Calls Tryd.prog 29 #[.agg #[.int .i64 E.l, .int .i64 E.h, .string ⟨E.out.toArray⟩], .int .i64 b, .int .i64 p] w fun e w' => e = .returned (.tuple #[.agg #[.int .i64 (encB E b p).l, .int .i64 (encB E b p).h, .string ⟨(encB E b p).out.toArray⟩], .int .i64 0]) ∧ Below w.heap.size w w' := by
  obtain ⟨l, h, o⟩ := E
  simp only [] at ho ⊢
  have hm := mid_in (enc_lt he) p1 p2
  have hmay := Lib.hid (PG.rmay_f (o := o) he (by omega))
  obtain ⟨a, c, d⟩ := he
  simp only [] at a c d hm hmay
  have hbm := fun W => rbit_may b W hb
  have hch := fun W => rchance_any p W ⟨p1, p2⟩
  have hmid := fun W => rmid_any l h p W a (show l < h by omega) c p1 p2
  obtain ⟨R, hR⟩ : ∃ R, encR ⟨l, h, o⟩ b p = R := ⟨_, rfl⟩
  unfold encB
  rw [hR]
  have hRd : R = if b = 1 then norm 4 l (mid l h p) else norm 4 (mid l h p + 1) h := by rw [← hR]; rfl
  clear hR
  generalize mid l h p = md at *
  have wm : IntKind.i64.wrap (md + 1) = md + 1 := IntWalk.i64_in _ (by omega)
  have hst : ∃ l1 h1, R = norm 4 l1 h1 ∧ 0 ≤ l1 ∧ l1 ≤ h1 ∧ h1 ≤ 4294967295 ∧ (b = 1 → l1 = l ∧ h1 = md) ∧ (b = 0 → l1 = md + 1 ∧ h1 = h) := by
    rcases hb with rfl | rfl
    · exact ⟨md + 1, h, by rw [hRd, if_neg (by decide)], by omega, by omega, by omega, fun h => absurd h (by decide), fun _ => ⟨rfl, rfl⟩⟩
    · exact ⟨l, md, by rw [hRd, if_pos rfl], by omega, by omega, by omega, fun _ => ⟨rfl, rfl⟩, fun h => absurd h (by decide)⟩
  obtain ⟨l1, h1, hR1, q1, q2, q3, qb1, qb0⟩ := hst
  clear hRd
  have hE4 := norm4 q1 q2 q3
  replace hbm := Lib.hid hbm
  replace hch := Lib.hid hch
  replace hmid := Lib.hid hmid
  go_enter Tryd.func29, Tryd.ntmps29
  go_wp2_with (first | ((with_reducible refine gate_dst (N := 3) rfl ?_); refine box_event ?hg (N := 3) ?hd (cs := #[.int .i64 l, .int .i64 h, .string ⟨o.toArray⟩]) (t := 37) ?hr ?_; (case hd => rfl); (case hg => rfl); (case hr => first | (go_simp; done) | (go_simp; rfl)); intro gx hgx w1 hbox hb1; have hX : L.BC w1 gx 37 [.int .i64 l, .int .i64 h, .string ⟨o.toArray⟩] := ⟨hbox⟩; have hB := hb1; have hlt := L.BC.lt hX; have hX1 := L.BC.alloc hX (.cells #[.int .i64 0, .int .i64 0, .string ⟨#[]⟩] 37); have hZ := L.BC.new w1 [.int .i64 0, .int .i64 0, .string ⟨#[]⟩] 37; have hB1 := L.below_alloc hB (.cells #[.int .i64 0, .int .i64 0, .string ⟨#[]⟩] 37); have hgl : w.heap.size ≤ gx := Nat.le_of_eq hgx.symm; have x0 := L.BC.at_ hX1 (o := 0) rfl; have x1 := L.BC.at_ hX1 (o := 1) rfl; have x2 := L.BC.at_ hX1 (o := 2) rfl; clear hbox hb1 hX hB hgx))
  have hne : w1.heap.size ≠ gx := Nat.ne_of_gt hlt
  have hgz : w.heap.size ≤ w1.heap.size := by have := hlt; omega
  generalize w1.alloc (.cells #[.int .i64 0, .int .i64 0, .string ⟨#[]⟩] 37) = w2 at hX1 hZ hB1 x0 x1 x2 ⊢
  generalize w1.heap.size = gz at *
  refine (PG.descantref1_CoderMay.calls l h ⟨o.toArray⟩ true _ hmay.out).mono ?_
  rintro e w3 ⟨rfl, hbl⟩
  replace hX1 := L.BC.below hX1 hbl
  replace hZ := L.BC.below hZ hbl
  replace hB1 := L.below_next hB1 hbl
  clear hbl x0 x1 x2
  have x0 := L.BC.at_ hX1 (o := 0) rfl; have x1 := L.BC.at_ hX1 (o := 1) rfl; have x2 := L.BC.at_ hX1 (o := 2) rfl
  go_wp2_with (fail)
  refine (hbm.out _).mono ?_
  rintro e w4 ⟨rfl, m4, rfl⟩
  replace hX1 := L.BC.drewN hX1 m4
  replace hZ := L.BC.drewN hZ m4
  replace hB1 := L.below_drewN hB1 m4
  clear x0 x1 x2
  generalize w3.drewN m4 = w5 at hX1 hZ hB1 ⊢
  go_wp2_with (fail)
  refine (hch.out _).mono ?_
  rintro e w4 ⟨rfl, m4, rfl⟩
  replace hX1 := L.BC.drewN hX1 m4
  replace hZ := L.BC.drewN hZ m4
  replace hB1 := L.below_drewN hB1 m4
  generalize w5.drewN m4 = w6 at hX1 hZ hB1 ⊢
  have x0 := L.BC.at_ hX1 (o := 0) rfl; have x1 := L.BC.at_ hX1 (o := 1) rfl; have x2 := L.BC.at_ hX1 (o := 2) rfl
  go_wp2_with (fail)
  refine (hmid.out _).mono ?_
  rintro e w4 ⟨rfl, m6, rfl⟩
  replace hX1 := L.BC.drewN hX1 m6
  replace hZ := L.BC.drewN hZ m6
  replace hB1 := L.below_drewN hB1 m6
  clear x0 x1 x2
  generalize w6.drewN m6 = w7 at hX1 hZ hB1 ⊢
  have x0 := L.BC.at_ hX1 (o := 0) rfl; have f0 := L.BC.frozen hX1 0; have x1 := L.BC.at_ hX1 (o := 1) rfl; have f1 := L.BC.frozen hX1 1
  have hlp : ∀ W : World, L.BC W gx 37 [.int .i64 l1, .int .i64 h1, .string ⟨o.toArray⟩] ∧ L.BC W gz 37 [.int .i64 0, .int .i64 0, .string ⟨#[]⟩] ∧ Below w.heap.size w W → ∃ (n : Nat) (l2 h2 : Int) (o2 : List UInt8), n + 1 = 5 ∧ 0 ≤ l2 ∧ l2 ≤ h2 ∧ h2 ≤ 4294967295 ∧ Ends (norm n l2 h2).1 (norm n l2 h2).2.1 ∧ (norm n l2 h2).1 = R.1 ∧ (norm n l2 h2).2.1 = R.2.1 ∧ o2 ++ (norm n l2 h2).2.2 = o ++ R.2.2 ∧ o2.length + n ≤ 65536 ∧ L.BC W gx 37 [.int .i64 l2, .int .i64 h2, .string ⟨o2.toArray⟩] ∧ L.BC W gz 37 [.int .i64 0, .int .i64 0, .string ⟨#[]⟩] ∧ Below w.heap.size w W := by
    rintro W ⟨k1, k2, k3⟩
    exact ⟨4, l1, h1, o, rfl, q1, q2, q3, hE4, by rw [hR1], by rw [hR1], by rw [hR1], ho, k1, k2, k3⟩
  have hs1 : b = 1 → L.BC (w7.setCell ⟨gx, 1, none⟩ (.int .i64 md)) gx 37 [.int .i64 l1, .int .i64 h1, .string ⟨o.toArray⟩] := by
    intro hb1
    obtain ⟨e1, e2⟩ := qb1 hb1
    rw [e1, e2]; exact L.BC.set hX1 1 (.int .i64 md)
  have hs0 : b = 0 → L.BC (w7.setCell ⟨gx, 0, none⟩ (.int .i64 (md + 1))) gx 37 [.int .i64 l1, .int .i64 h1, .string ⟨o.toArray⟩] := by
    intro hb1
    obtain ⟨e1, e2⟩ := qb0 hb1
    rw [e1, e2]; exact L.BC.set hX1 0 (.int .i64 (md + 1))
  have hz1 := L.BC.far hZ (p := ⟨gx, 1, none⟩) (Ne.symm hne) (.int .i64 md)
  have hz0 := L.BC.far hZ (p := ⟨gx, 0, none⟩) (Ne.symm hne) (.int .i64 (md + 1))
  have hb1 := hB1.setCell (p := ⟨gx, 1, none⟩) hgl (.int .i64 md)
  have hb0 := hB1.setCell (p := ⟨gx, 0, none⟩) hgl (.int .i64 (md + 1))
  have hbb := hb.symm
  clear hmay hch hmid hbm hX1 hZ hB1 a c d hm q1 q2 q3 qb1 qb0 hE4 hR1 p1 p2 hb
  replace hlp := Lib.hid hlp
  replace hs1 := Lib.hid hs1
  replace hs0 := Lib.hid hs0
  rcases hbb with rfl | rfl
  go_wp2_with (fail)
  have hX9 := hs1.out (by trivial)
  have hZ9 := hz1
  have hB9 := hb1
  clear hs1 hs0 hz1 hz0 hb1 hb0 x0 x1 f0 f1
  generalize w7.setCell ⟨gx, 1, none⟩ (.int .i64 md) = w9 at hX9 hZ9 hB9 ⊢
  rotate_left
  go_wp2_with (fail)
  have hX9 := hs0.out (by trivial)
  have hZ9 := hz0
  have hB9 := hb0
  clear hs1 hs0 hz1 hz0 hb1 hb0 x0 x1 f0 f1
  generalize w7.setCell ⟨gx, 0, none⟩ (.int .i64 (md + 1)) = w9 at hX9 hZ9 hB9 ⊢
  rotate_left
  all_goals
    go_loopg [] 5 (fun kq W => ∃ (n : Nat) (l2 h2 : Int) (o2 : List UInt8), n + 1 = kq ∧ 0 ≤ l2 ∧ l2 ≤ h2 ∧ h2 ≤ 4294967295 ∧ Ends (norm n l2 h2).1 (norm n l2 h2).2.1 ∧ (norm n l2 h2).1 = R.1 ∧ (norm n l2 h2).2.1 = R.2.1 ∧ o2 ++ (norm n l2 h2).2.2 = o ++ R.2.2 ∧ o2.length + n ≤ 65536 ∧ L.BC W gx 37 [.int .i64 l2, .int .i64 h2, .string ⟨o2.toArray⟩] ∧ L.BC W gz 37 [.int .i64 0, .int .i64 0, .string ⟨#[]⟩] ∧ Below w.heap.size w W)
    case atStart => exact hlp.out _ ⟨hX9, hZ9, hB9⟩
    case round =>
      clear hX9 hZ9 hB9 hlp
      obtain ⟨n, l2, h2, o2, hn, r1, r2, r3, hE, e1, e2, e3, ho2, hX, hZ, hB⟩ := hrel
      have x0 := L.BC.at_ hX (o := 0) rfl
      have x1 := L.BC.at_ hX (o := 1) rfl
      by_cases c : l2 / 16777216 = h2 / 16777216
      · have ct : (l2 / 16777216 = h2 / 16777216) = True := eq_true c
        have hcb : (l2 / 16777216 == h2 / 16777216) = true := by rw [c]; exact beq_self_eq_true _
        replace c := Lib.hid c
        have x2 := L.BC.at_ hX (o := 2) rfl
        have f2 := L.BC.frozen hX 2
        have hsz : (9223372036854775807 < (⟨o2.toArray⟩ : ByteArray).size + 1) = False := eq_false (by rw [PG.size_mk]; omega)
        have hsz2 : ((⟨o2.toArray⟩ : ByteArray).size + 1 ≤ 9223372036854775807) = True := eq_true (by rw [PG.size_mk]; omega)
        have hsz3 : (9223372036854775807 < o2.length + 1) = False := eq_false (by omega)
        have hlo := PG.low1_f (l2 / 16777216)
        obtain ⟨SN, hSN⟩ : ∃ SN : ByteArray, ⟨[by8 (l2 / 16777216)].toArray⟩ = SN := ⟨_, rfl⟩
        have hSNs : SN.size = 1 := by rw [← hSN]; rfl
        have hcat : (⟨o2.toArray⟩ : ByteArray) ++ SN = ⟨(o2 ++ [by8 (l2 / 16777216)]).toArray⟩ := by rw [← hSN]; exact cat_mk _ _
        rw [hSN] at hlo
        have HLo := Lib.hid hlo
        replace hSN := Lib.hid hSN
        replace hcat := Lib.hid hcat
        clear hlo
        go_wp2_with (fail)
        replace hX := L.BC.drew hX
        replace hZ := L.BC.drew hZ
        replace hB := L.below_drew hB
        clear x0 x1 x2 f2
        refine start_ (n := 9) (S := fun w' => L.BC w' gx 37 [.int .i64 l2, .int .i64 h2, .string ⟨o2.toArray⟩]) (ds := [8]) #[false, false, false, false, false, false, false, false, false] (by kernel_rfl) rfl rfl hX (fun hHeld => ?_)
        generalize wr.drew = wa at hX hZ hB hHeld ⊢
        refine pure_ (i := 0) (N := (some 43)) (v := ?_) (a' := ?_) #[true, false, false, false, false, false, false, false, false] rfl rfl (by kernel_rfl) (fun _ _ _ h => h) (Or.inl ⟨by rfl, ?_⟩) ?_ ?_
        rotate_left
        · intro w'
          go_simp
          with_reducible rfl
        rotate_left
        · simp only [Act.put, List.setIfInBounds_toArray, List.set_cons_zero, List.set_cons_succ, i64_w, i32_w]
          rfl
        refine pure_ (i := 2) (N := (some 45)) (v := ?_) (a' := ?_) #[true, false, true, false, false, false, false, false, false] rfl rfl (by kernel_rfl) (fun _ _ _ h => h) (Or.inl ⟨by rfl, ?_⟩) ?_ ?_
        rotate_left
        · intro w'
          go_simp
          with_reducible rfl
        rotate_left
        · simp only [Act.put, List.setIfInBounds_toArray, List.set_cons_zero, List.set_cons_succ, i64_w, i32_w]
          rfl
        refine take_ (i := 1) (N := (some 44)) (v := ?_) (a' := ?_) #[true, true, true, false, false, false, false, false, false] rfl rfl (by kernel_rfl) (fun _ _ _ h => h) (Or.inl ⟨by rfl, ?_⟩) hHeld ?_ ?_
        rotate_left
        · intro w' hS
          have s2 := L.BC.at_ hS (o := 2) rfl
          go_simp
          with_reducible rfl
        rotate_left
        · simp only [Act.put, List.setIfInBounds_toArray, List.set_cons_zero, List.set_cons_succ, i64_w, i32_w]
          rfl
        refine take_ (i := 3) (N := (some 46)) (v := ?_) (a' := ?_) #[true, true, true, true, false, false, false, false, false] rfl rfl (by kernel_rfl) (fun _ _ _ h => h) (Or.inl ⟨by rfl, ?_⟩) hHeld ?_ ?_
        rotate_left
        · intro w' hS
          have s0 := L.BC.at_ hS (o := 0) rfl
          go_simp
          with_reducible rfl
        rotate_left
        · simp only [Act.put, List.setIfInBounds_toArray, List.set_cons_zero, List.set_cons_succ, i64_w, i32_w]
          rfl
        refine pure_ (i := 4) (N := (some 47)) (v := ?_) (a' := ?_) #[true, true, true, true, true, false, false, false, false] rfl rfl (by kernel_rfl) (fun _ _ _ h => h) (Or.inl ⟨by rfl, ?_⟩) ?_ ?_
        rotate_left
        · intro w'
          go_simp
          with_reducible rfl
        rotate_left
        · simp only [Act.put, List.setIfInBounds_toArray, List.set_cons_zero, List.set_cons_succ, i64_w, i32_w]
          rfl
        refine one_ (i := 5) (N := (some 48)) #[true, true, true, true, true, true, false, false, false] rfl rfl (by kernel_rfl) (by decide) (fun K hK => ?_)
        refine goes_ Tryd.func23 (by kernel_rfl) rfl #[.int .i64 (l2 / 16777216), .int .i64 1] (by rfl) rfl rfl (by (try simp only [List.map_toArray, List.map_cons, List.map_nil]); first | done | rfl) ?_
        refine (PG.descantref1_Low.calls 5 _ 1 _ _ HLo.out).mono ?_
        rintro e we ⟨rfl, hbe⟩
        refine ⟨_, rfl, ?_⟩
        replace hX := L.BC.below hX hbe
        replace hZ := L.BC.below hZ hbe
        replace hB := L.below_next hB hbe
        clear hHeld hbe
        refine hK.out _ _ hX (fun hHeld => ?_)
        clear hK K
        refine norm_ (a' := ?_) ?_ ?_
        rotate_left
        · show Act.put _ (some 48) _ = _
          simp only [Act.put, List.setIfInBounds_toArray, List.set_cons_zero, List.set_cons_succ, i64_w, i32_w]
          rfl
        refine pure_ (i := 6) (N := (some 49)) (v := ?_) (a' := ?_) #[true, true, true, true, true, true, true, false, false] rfl rfl (by kernel_rfl) (fun _ _ _ h => h) (Or.inl ⟨by rfl, ?_⟩) ?_ ?_
        rotate_left
        · intro w'
          go_simp
          with_reducible rfl
        rotate_left
        · simp only [Act.put, List.setIfInBounds_toArray, List.set_cons_zero, List.set_cons_succ, i64_w, i32_w]
          rfl
        refine pure_ (i := 7) (N := (some 50)) (v := ?_) (a' := ?_) #[true, true, true, true, true, true, true, true, false] rfl rfl (by kernel_rfl) (fun _ _ _ h => h) (Or.inl ⟨by rfl, ?_⟩) ?_ ?_
        rotate_left
        · intro w'
          go_simp
          with_reducible rfl
        rotate_left
        · simp only [Act.put, List.setIfInBounds_toArray, List.set_cons_zero, List.set_cons_succ, i64_w, i32_w]
          rfl
        refine last_ (i := 8) (N := none) #[true, true, true, true, true, true, true, true, true] rfl rfl (by kernel_rfl) (by decide) (fun K hK => ?_)
        have x2 := L.BC.at_ hX (o := 2) rfl
        have f2 := L.BC.frozen hX 2
        refine skip_ (w1 := we.setCell ⟨gx, 2, none⟩ (.string ((⟨o2.toArray⟩ : ByteArray) ++ SN))) (by rfl) rfl ?_ ?_
        · go_simp
        have hXc : L.BC (we.setCell ⟨gx, 2, none⟩ (.string ((⟨o2.toArray⟩ : ByteArray) ++ SN))) gx 37 [.int .i64 l2, .int .i64 h2, .string ⟨(o2 ++ [by8 (l2 / 16777216)]).toArray⟩] := by
          have := L.BC.set hX 2 (.string ((⟨o2.toArray⟩ : ByteArray) ++ SN))
          rw [hcat.out] at this ⊢
          exact this
        replace hZ := L.BC.far hZ (p := ⟨gx, 2, none⟩) (Ne.symm hne) (.string ((⟨o2.toArray⟩ : ByteArray) ++ SN))
        replace hB := hB.setCell (p := ⟨gx, 2, none⟩) hgl (.string ((⟨o2.toArray⟩ : ByteArray) ++ SN))
        clear hX x2 f2 hsz hsz2 hsz3 hHeld
        refine hK.out _ _ ?_
        clear hK K
        refine done_ (by kernel_rfl) ?_
        generalize we.setCell ⟨gx, 2, none⟩ (.string ((⟨o2.toArray⟩ : ByteArray) ++ SN)) = wc at hXc hZ hB ⊢
        obtain ⟨ul, hul⟩ : ∃ ul, up l2 0 = ul := ⟨_, rfl⟩
        obtain ⟨uh, huh⟩ : ∃ uh, up h2 255 = uh := ⟨_, rfl⟩
        have iul := PG.up_in (x := l2) (b := 0) r1 (by omega) (by omega) (by omega)
        have iuh := PG.up_in (x := h2) (b := 255) (by omega) r3 (by omega) (by omega)
        have ilh : up l2 0 ≤ up h2 255 := by have := c.out; unfold up; omega
        rw [hul] at iul ilh
        rw [huh] at iuh ilh
        have HL : Go.bits .and .i64 (l2 * 256) 4294967295 = ul := by rw [← hul]; exact and_up r1 (by omega)
        have HH0 : Go.bits .and .i64 (h2 * 256) 4294967295 = up h2 0 := and_up (by omega) r3
        have HH : Go.bits .or .i64 (up h2 0) 255 = uh := by rw [← huh]; exact or_up (by omega) r3
        replace hul := Lib.hid hul
        replace huh := Lib.hid huh
        have x0 := L.BC.at_ hXc (o := 0) rfl
        have f0 := L.BC.frozen hXc 0
        have x1 := L.BC.at_ hXc (o := 1) rfl
        have f1 := L.BC.frozen hXc 1
        go_wp2_with (fail)
        cases n with
        | zero => exact absurd c.out (by have := hE.2.2; simp only [norm] at this; omega)
        | succ n =>
          rw [norm, if_pos c.out, hul.out, huh.out] at hE e1 e2 e3
          obtain ⟨k, rfl⟩ : ∃ k, gk = k + 1 := ⟨n + 1, by omega⟩
          go_roundg k
          case measure => omega
          case rel => exact ⟨n, ul, uh, _, by omega, iul.1, ilh, iuh.2, hE, e1, e2, by rw [List.append_assoc]; exact e3, by rw [List.length_append, List.length_singleton]; omega, L.BC.set (L.BC.set hXc 0 _) 1 _, L.BC.far (L.BC.far hZ (p := ⟨gx, 0, none⟩) (Ne.symm hne) _) (p := ⟨gx, 1, none⟩) (Ne.symm hne) _, (hB.setCell (p := ⟨gx, 0, none⟩) hgl _).setCell (p := ⟨gx, 1, none⟩) hgl _⟩
      · have ct : (l2 / 16777216 = h2 / 16777216) = False := eq_false c
        have hcb : (l2 / 16777216 == h2 / 16777216) = false := beq_eq_false_iff_ne.2 c
        have hnorm : norm n l2 h2 = (l2, h2, []) := by
          cases n with
          | zero => rfl
          | succ n => rw [norm, if_neg c]
        rw [hnorm] at e1 e2 e3
        have x2 := L.BC.at_ hX (o := 2) rfl
        have z0 := L.BC.at_ hZ (o := 0) rfl
        have z1 := L.BC.at_ hZ (o := 1) rfl
        have z2 := L.BC.at_ hZ (o := 2) rfl
        have g0 := L.BC.frozen hZ 0
        have g1 := L.BC.frozen hZ 1
        have g2 := L.BC.frozen hZ 2
        have d5 : decide (65536 < ((⟨o2.toArray⟩ : ByteArray).size : Int)) = false := decide_eq_false (by rw [PG.size_mk]; omega)
        replace c := Lib.hid c
        replace e1 := Lib.hid e1
        replace e2 := Lib.hid e2
        replace e3 := Lib.hid e3
        go_wp2_with (fail)
        have hZ' := L.BC.set (L.BC.set (L.BC.set hZ 0 (.int .i64 l2)) 1 (.int .i64 h2)) 2 (.string ⟨o2.toArray⟩)
        have hB' := ((hB.setCell (p := ⟨gz, 0, none⟩) hgz (.int .i64 l2)).setCell (p := ⟨gz, 1, none⟩) hgz (.int .i64 h2)).setCell (p := ⟨gz, 2, none⟩) hgz (.string ⟨o2.toArray⟩)
        refine bodyPost_ret (L.bc_resultst (P := Tryd.prog) Tryd.results29 _ _ gz [.int .i64 l2, .int .i64 h2, .string ⟨o2.toArray⟩] _ rfl hZ'.range Tryd.underlying37 rfl info37) rfl ⟨?_, hB'⟩
        rw [← e1.out, ← e2.out, ← e3.out, List.append_nil]
        rfl
end Go.Proofs.YtbklhoeoamkboaaDoor
/- descantref13.PutResiduals: what it gives. -/
namespace Go.Proofs.YtbklhoeoamkboaaDoor
open Go.RowKit Go.Proofs.YtbklhoeoamkboaaDoorW.PrintWords Go.Proofs.YtbklhoeoamkboaaDoorW.PrintLast Go.Proofs.YtbklhoeoamkboaaDoorW.PrintMore Go.Proofs.YtbklhoeoamkboaaDoor.L
set_option linter.unusedVariables false
set_option linter.unusedSimpArgs false
theorem rp_chance {S : St} (h : SIn S) (w : World) : Calls Tryd.prog 28 #[.agg (ints S.M).toArray, v3 (cx0 S.bits) (cx1 S.before S.bits) (cx2 S.bits)] w fun e w' => e = .returned (.tuple #[.int .i64 (chance mdot S), .int .i64 0]) ∧ Below w.heap.size w w' := by
  obtain ⟨k1, k2, k3⟩ := cx_in S.before S.bits h.hb.1
  have := rmodel_p S.M h.hM (cx0 S.bits) (cx1 S.before S.bits) (cx2 S.bits) w
  rw [h.hm, xOk_iff.2 ⟨k1, k2, k3⟩] at this
  exact this
theorem rp_learn {S : St} (h : SIn S) {b : Int} (hb : b = 0 ∨ b = 1) (w : World) : Calls Tryd.prog 30 #[.agg (ints S.M).toArray, v3 (cx0 S.bits) (cx1 S.before S.bits) (cx2 S.bits), .int .i64 b] w fun e w' => e = .returned (.tuple #[.agg (ints (lrn lR S b).M).toArray, .int .i64 0]) ∧ Below w.heap.size w w' := by
  obtain ⟨k1, k2, k3⟩ := cx_in S.before S.bits h.hb.1
  have hok : lOk S.M (cx0 S.bits) (cx1 S.before S.bits) (cx2 S.bits) b = true := lOk_iff.2 ⟨h.hm, ⟨k1, k2, k3⟩, by omega, by omega⟩
  have := rmodel_learn S.M h.hM (cx0 S.bits) (cx1 S.before S.bits) (cx2 S.bits) b w
  rw [hok] at this
  exact this
/-- The document's coder and model under way. -/
structure PW (w W : World) (g : Nat) (M : List Int) (E : Enc) : Prop where
  hM : MB W g M
  hK : L.BC W (g + 1) 37 (encC E)
  hB : Below w.heap.size w W
  hg : w.heap.size ≤ g
theorem PW.next {w W W1 : World} {g : Nat} {M : List Int} {E : Enc} (h : PW w W g M E) (hb : Below W.heap.size W W1) : PW w W1 g M E := ⟨h.hM.below hb, L.BC.below h.hK hb, below_next h.hB hb, h.hg⟩
theorem PW.alloc {w W : World} {g : Nat} {M : List Int} {E : Enc} (h : PW w W g M E) (o : Obj) : PW w (W.alloc o) g M E := h.next (L.below_alloc (Below.refl _ _) o)
theorem PW.drew {w W : World} {g : Nat} {M : List Int} {E : Enc} (h : PW w W g M E) : PW w W.drew g M E := h.next (L.below_drew (Below.refl _ _))
theorem PW.drewN {w W : World} {g : Nat} {M : List Int} {E : Enc} (h : PW w W g M E) (m : Nat) : PW w (W.drewN m) g M E := h.next (L.below_drewN (Below.refl _ _) m)
theorem PW.lt {w W : World} {g : Nat} {M : List Int} {E : Enc} (h : PW w W g M E) : g + 1 < W.heap.size := h.hK.lt
theorem PW.model {w W : World} {g : Nat} {M R : List Int} {E : Enc} (h : PW w W g M E) (hR : R.length = 195) : PW w (W.setCells g 0 (ints R)) g R E :=
  ⟨h.hM.over hR, L.BC.beside h.hK (by omega) _, below_over h.hB h.hg _, h.hg⟩
theorem PW.coder {w W : World} {g : Nat} {M : List Int} {E E2 : Enc} (h : PW w W g M E) : PW w (((W.setCell ⟨g + 1, 0, none⟩ (.int .i64 E2.l)).setCell ⟨g + 1, 1, none⟩ (.int .i64 E2.h)).setCell ⟨g + 1, 2, none⟩ (.string ⟨E2.out.toArray⟩)) g M E2 := by
  have hg := h.hg
  refine ⟨((h.hM.far (by simp) _).far (by simp) _).far (by simp) _, L.BC.set (L.BC.set (L.BC.set h.hK 0 _) 1 _) 2 _, ?_, hg⟩
  exact ((h.hB.setCell (p := ⟨g + 1, 0, none⟩) (Nat.le_succ_of_le hg) _).setCell (p := ⟨g + 1, 1, none⟩) (Nat.le_succ_of_le hg) _).setCell (p := ⟨g + 1, 2, none⟩) (Nat.le_succ_of_le hg) _
theorem PW.beside {w W : World} {g k : Nat} {M : List Int} {E : Enc} (h : PW w W g M E) (h1 : k ≠ g) (h2 : k ≠ g + 1) (h3 : w.heap.size ≤ k) (vs : List Value) : PW w (W.setCells k 0 vs) g M E :=
  ⟨h.hM.beside h1 vs, L.BC.beside h.hK h2 vs, below_over h.hB h3 vs, h.hg⟩
theorem PW.blk {w W : World} {g : Nat} {M : List Int} {E : Enc} (h : PW w W g M E) : L.BC W g 48 (ints M) := ⟨h.hM.blk⟩
theorem alloc_model_run {o : Oper} {a : Act} {W : World} (ho : o.op = .alloc 48) : (execOp a.eval o).run Tryd.prog W = .ok (.value (.pointer (some ⟨W.heap.size, 0, none⟩))) (W.alloc (.cells (ints zM).toArray 48 (0, 0))) := by
  have hz0 : Tryd.zeroCells48 = (ints zM).toArray := by kernel_rfl
  rw [← hz0]
  unfold execOp
  simp only [ho]
  simp [go_sem]
set_option maxHeartbeats 8000000 in
set_option maxRecDepth 100000 in
theorem rput13 (rs : List Int) (A : Option Addr) (cap : Nat) (w : World) (hC : Kd.C (Kd.int .i64) w A rs.length rs) (hc : rs.length ≤ cap) :
    Calls Tryd.prog 15 #[.slice A rs.length cap] w fun e w' => e = .returned (.tuple #[.string (if putOk rs = true then ⟨(putS mdot lR newM rs).toArray⟩ else ⟨#[]⟩), .int .i64 (if putOk rs = true then 0 else 1300)]) ∧ Below w.heap.size w w' := by
  obtain ⟨res, hres⟩ : ∃ r, Value.tuple #[.string (if putOk rs = true then ⟨(putS mdot lR newM rs).toArray⟩ else ⟨#[]⟩), .int .i64 (if putOk rs = true then 0 else 1300)] = r := ⟨_, rfl⟩
  rw [hres]
  replace hres := Lib.hid hres
  by_cases hlen : rs.length ≤ 256
  · have d1 : decide (256 < (rs.length : Int)) = false := decide_eq_false (by omega)
    have hC0 := Lib.hid hC
    have hnm := fun w1 => rmodel_new w1
    clear hC
    go_enter Tryd.func15, Tryd.ntmps15
    go_wp2_with (fail)
    refine (hnm _).mono ?_
    rintro e w1 ⟨rfl, hb⟩
    go_wp2_with (fail)
    refine (PG.descantref1_NewCoder.calls 0 4294967295 ⟨#[]⟩ _ rfl).mono ?_
    rintro e w2 ⟨rfl, hb2⟩
    replace hb := below_next hb hb2
    clear hb2 hnm
    have hsz : (w2.alloc (.cells (ints zM).toArray 48)).heap.size = w2.heap.size + 1 := by simp
    have hP : PW w (((w2.alloc (.cells (ints zM).toArray 48)).alloc (.cells (#[.int .i64 0, .int .i64 0, .string ⟨#[]⟩]) 37))) w2.heap.size zM ⟨0, 0, []⟩ := by
      refine ⟨(MB.new w2 zM_length).alloc _, ?_, L.below_alloc (L.below_alloc hb _) _, hb.size⟩
      have := L.BC.new (w2.alloc (.cells (ints zM).toArray 48)) [.int .i64 0, .int .i64 0, .string ⟨#[]⟩] 37
      rwa [hsz] at this
    have hT := Lib.hid (hP.hM.there newM_length)
    have hI := Lib.hid (info_M newM_length)
    clear hb
    go_wp2_with (first | (with_reducible refine wpList_alloc_model rfl rfl ?_) | ((with_reducible refine wpList_store_mid rfl 48 (.tmp 4) (.tmp 26) rfl w2.heap.size 0 (ints newM).toArray ?hx ?hy hT.out hI.out (all_oneCell_toArray (ints_one _)) ?_); (case hx => rfl); (case hy => rfl); have hP2 := PW.model hP newM_length; clear hP hT hI; generalize World.setCells _ w2.heap.size 0 _ = w3 at hP2 ⊢; have x0 := L.BC.at_ hP2.hK (o := 0) rfl; have x1 := L.BC.at_ hP2.hK (o := 1) rfl; have x2 := L.BC.at_ hP2.hK (o := 2) rfl; have f0 := L.BC.frozen hP2.hK 0; have f1 := L.BC.frozen hP2.hK 1; have f2 := L.BC.frozen hP2.hK 2))
    have hP3 : PW w (((w3.setCell ⟨w2.heap.size + 1, 0, none⟩ (.int .i64 0)).setCell ⟨w2.heap.size + 1, 1, none⟩ (.int .i64 4294967295)).setCell ⟨w2.heap.size + 1, 2, none⟩ (.string ⟨#[]⟩)) w2.heap.size newM enc0 := PW.coder (E2 := enc0) hP2
    clear hP2 x0 x1 x2 f0 f1 f2
    generalize ((w3.setCell ⟨w2.heap.size + 1, 0, none⟩ (.int .i64 0)).setCell ⟨w2.heap.size + 1, 1, none⟩ (.int .i64 4294967295)).setCell ⟨w2.heap.size + 1, 2, none⟩ (.string ⟨#[]⟩) = w4 at hP3 ⊢
    clear hsz
    generalize w2.heap.size = g at hP3 ⊢
    generalize (ints newM).toArray = z1
    go_loopg [6, 7] rs.length (fun kq v6 v7 W => ∃ (i : Nat) (S : St) (E : Enc), v6 = .int .i64 S.before ∧ v7 = .int .i64 (i : Int) ∧ i + kq = rs.length ∧ putNums mdot lR (rs.take i) (⟨newM, 0, []⟩, enc0) = (S, E) ∧ (rs.take i).all numOk = true ∧ SIn S ∧ S.bits = [] ∧ E.ok ∧ PW w W g S.M E)
    case atStart => exact ⟨0, ⟨newM, 0, []⟩, enc0, rfl, by simp, by omega, rfl, rfl, ⟨newM_length, (by decide +kernel), by decide, fun b hb => by cases hb⟩, rfl, enc0_ok, hP3⟩
    case round =>
      clear hP3
      obtain ⟨i, S, E, rfl, rfl, hi, hput, hall, hS, hSb, hE, hP⟩ := hrel
      have hCW := Kd.C_below hC0.out hP.hB
      have hEl : E.out.length ≤ 204 * i := by
        have := (putNums_len (P := mdot) (L := lR) (rs.take i) (⟨newM, 0, []⟩, enc0) hall).2
        rw [hput, List.length_take, Nat.min_eq_left (by omega)] at this
        simp only [show enc0.out.length = 0 from rfl] at this
        omega
      obtain ⟨M, before, bits⟩ := S
      simp only [] at hSb hP
      subst hSb
      by_cases c1 : i < rs.length
      · have c1d : decide ((i : Int) < (rs.length : Int)) = true := decide_eq_true (by omega)
        obtain ⟨ad, ead, hx⟩ := Kd.at_int hCW (i : Int) (by omega) (by omega)
        cases ead
        rw [Int.toNat_natCast] at hx
        have p3 := eq_true (show (0 : Int) ≤ (i : Int) by omega)
        have q3 := eq_true (show (i : Int) < (rs.length : Int) by omega)
        have hget := rd_get c1
        have htk := List.take_succ_eq_append_getElem c1
        have hmem : rs[i] ∈ rs := List.getElem_mem c1
        rw [← hget] at htk hmem
        generalize rd rs (i : Int) = x at *
        replace hget := Lib.hid hget
        replace htk := Lib.hid htk
        replace hput := Lib.hid hput
        replace hall := Lib.hid hall
        have hf := PG.rfold_f x
        cases hxo : numOk x with
        | true =>
          rw [hxo, if_pos rfl] at hf
          have HF := Lib.hid hf
          have hfl := fld_le hxo
          have hgb := PG.rbits_f (fld x) hfl 130 (by omega)
          have hlen2 := gBits_len hfl
          have h01 := bits_01 (fld x)
          obtain ⟨bs, hbs⟩ : ∃ bs, gBits (fld x) = bs := ⟨_, rfl⟩
          rw [hbs] at hgb hlen2 h01
          have HG := Lib.hid hgb
          replace hxo := Lib.hid hxo
          replace hbs := Lib.hid hbs
          replace h01 := Lib.hid h01
          clear hf hgb hfl
          go_wp2_with (fail)
          refine (PG.descantref1_Fold.calls x _ 0 _ HF.out).mono ?_
          rintro e w5 ⟨rfl, hd⟩
          replace hP := hP.next hd.below
          clear hd hCW hx
          go_wp2_with (fail)
          refine (PG.descantref1_Bits.calls 130 _ bs 0 _ HG.out).mono ?_
          rintro e w6 ⟨v0, rfl, hR, hb⟩
          replace hP := hP.next hb
          obtain ⟨A2, cap2, ev⟩ := Kd.R_slice hR
          subst ev
          clear hb
          generalize w5.heap.size = base at hR
          obtain ⟨gko, rfl⟩ : ∃ j, gk = j + 1 := ⟨gk - 1, by omega⟩
          go_wp2_with (fail)
          go_loopg [12] bs.length (fun kq v12 W => ∃ (k : Nat) (S2 : St) (E2 : Enc), v12 = .int .i64 (k : Int) ∧ k + kq = bs.length ∧ putBits mdot lR (bs.take k) (⟨M, before, []⟩, E) = (S2, E2) ∧ SIn S2 ∧ S2.bits = bs.take k ∧ S2.before = before ∧ E2.ok ∧ E2.out.length ≤ E.out.length + 4 * k ∧ PW w W g S2.M E2 ∧ Kd.R (Kd.int .i64) 3 W base (fun _ => True) (.slice A2 bs.length cap2) bs)
          case atStart => exact ⟨0, ⟨M, before, []⟩, E, by simp, by omega, rfl, hS, rfl, rfl, hE, by omega, hP, hR⟩
          case round =>
            clear hP hR
            obtain ⟨k, S2, E2, rfl, hk, hput2, hS2, hSb2, hbf, hE2, hel, hP, hR⟩ := hrel
            have hC2 := (Kd.R_reads' hR).2.2
            have hcp2 := (Kd.R_reads' hR).2.1
            by_cases c2 : k < bs.length
            · have c2d : decide ((k : Int) < (bs.length : Int)) = true := decide_eq_true (by omega)
              have hlk : S2.bits.length = k := by rw [hSb2, List.length_take, Nat.min_eq_left (by omega)]
              have hctx : ∀ W, Kd.C (Kd.int .i64) W A2 k S2.bits → Calls Tryd.prog 27 #[.int .i64 before, .slice A2 k cap2] W fun e w' => e = .returned (.tuple #[v3 (cx0 S2.bits) (cx1 S2.before S2.bits) (cx2 S2.bits), .int .i64 0]) ∧ Below W.heap.size W w' := by
                intro W hW
                have := rctx_any S2.before A2 cap2 S2.bits W (by rw [hlk]; exact hW) (by omega) hS2.hb (by omega) hS2.h01
                rw [hlk] at this
                rw [← hbf]; exact this
              have hCk : Kd.C (Kd.int .i64) wr A2 k S2.bits := by
                have := Kd.C_take hC2 (m := k) (by omega)
                rw [← hSb2, hlk] at this; exact this
              obtain ⟨ad2, ead2, hx2⟩ := Kd.at_int hC2 (k : Int) (by omega) (by omega)
              cases ead2
              rw [Int.toNat_natCast] at hx2
              have hget2 := rd_get c2
              have htk2 := List.take_succ_eq_append_getElem c2
              have hb01 := h01.out _ (List.getElem_mem c2)
              rw [← hget2] at htk2 hb01
              have hmod := fun W => rp_chance hS2 W
              have hlrn := fun W => rp_learn hS2 hb01 W
              have hcod := fun W => rcode_bit E2 (rd bs (k : Int)) (chance mdot S2) W hE2 hb01 (mdot_in _ _ _ _).1 (mdot_in _ _ _ _).2 (by omega)
              have p4 := eq_true (show (0 : Int) ≤ (k : Int) by omega)
              have q4 := eq_true (show (k : Int) < (bs.length : Int) by omega)
              have q5 := eq_true (show (k : Int) ≤ (cap2 : Int) by omega)
              have hcell : ∀ W, Kd.R (Kd.int .i64) 3 W base (fun _ => True) (.slice (some ad2) bs.length cap2) bs → W.cell? (ad2.add k) = some (.int .i64 (rd bs (k : Int))) := by
                intro W h
                obtain ⟨ad', e', h'⟩ := Kd.at_int (Kd.R_reads' h).2.2 (k : Int) (by omega) (by omega)
                cases e'
                rwa [Int.toNat_natCast] at h'
              have hE3 := encB_ok (E := E2) (b := rd bs (k : Int)) (p := chance mdot S2) hE2 (mdot_in _ _ _ _).1 (mdot_in _ _ _ _).2
              have hel3 := encB_len E2 (rd bs (k : Int)) (chance mdot S2)
              obtain ⟨E3, hE3d⟩ : ∃ E3, encB E2 (rd bs (k : Int)) (chance mdot S2) = E3 := ⟨_, rfl⟩
              rw [hE3d] at hE3 hel3 hcod
              have hN2 := lrn_in hS2 hb01
              generalize rd bs (k : Int) = b at *
              obtain ⟨p, hp⟩ : ∃ p, chance mdot S2 = p := ⟨_, rfl⟩
              rw [hp] at hmod hcod
              replace hp := Lib.hid hp
              replace hE3d := Lib.hid hE3d
              obtain ⟨M3, hM3⟩ : ∃ M3, (lrn lR S2 b).M = M3 := ⟨_, rfl⟩
              rw [hM3] at hlrn
              have hM3l : M3.length = 195 := by rw [← hM3]; exact hN2.hM
              replace hM3 := Lib.hid hM3
              replace hcell := Lib.hid hcell
              replace hN2 := Lib.hid hN2
              replace hE3 := Lib.hid hE3
              unfold v3 at hctx hmod hlrn
              generalize cx0 S2.bits = c0 at *
              generalize cx1 S2.before S2.bits = c1' at *
              generalize cx2 S2.bits = c2' at *
              replace hctx := Lib.hid hctx
              replace hmod := Lib.hid hmod
              replace hlrn := Lib.hid hlrn
              replace hcod := Lib.hid hcod
              replace hput2 := Lib.hid hput2
              replace htk2 := Lib.hid htk2
              replace hb01 := Lib.hid hb01
              replace hSb2 := Lib.hid hSb2
              replace hbf := Lib.hid hbf
              replace hlk := Lib.hid hlk
              replace hx2 := Lib.hid hx2
              clear hget2
              go_wp2_with (fail)
              refine (hctx.out _ hCk).mono ?_
              rintro e w7 ⟨rfl, hb7⟩
              replace hP := hP.next hb7
              replace hR := Kd.R_below hR hb7
              clear hC2 hCk hb7 hctx
              have hNw := L.BC.new w7 [.int .i64 0, .int .i64 0, .int .i64 0] 46
              have n0 := L.BC.at_ hNw (o := 0) rfl; have n1 := L.BC.at_ hNw (o := 1) rfl; have n2 := L.BC.at_ hNw (o := 2) rfl
              have m0 := L.BC.frozen hNw 0; have m1 := L.BC.frozen hNw 1; have m2 := L.BC.frozen hNw 2
              have hgl7 := hP.lt
              have hP7 := hP.alloc (.cells #[.int .i64 c0, .int .i64 c1', .int .i64 c2'] 46)
              have hX7 := L.BC.new w7 [.int .i64 c0, .int .i64 c1', .int .i64 c2'] 46
              have hR7 := Kd.R_alloc hR (.cells #[.int .i64 c0, .int .i64 c1', .int .i64 c2'] 46)
              have y0 := L.BC.at_ hX7 (o := 0) rfl; have y1 := L.BC.at_ hX7 (o := 1) rfl; have y2 := L.BC.at_ hX7 (o := 2) rfl
              go_wp2_with (with_reducible refine wpList_load_mid rfl 48 (.tmp 4) rfl g 0 ?_ (ints S2.M) _ hP7.hM.range Tryd.underlying48 rfl hP7.hM.info ?_)
              all_goals first | (show _ = Value.pointer _; rfl) | skip
              clear n0 n1 n2 m0 m1 m2 hNw y0 y1 y2 hP hR
              have hgt1 : g + 1 ≠ w7.heap.size := Nat.ne_of_lt hgl7
              clear hgl7
              generalize w7.alloc (.cells #[.int .i64 c0, .int .i64 c1', .int .i64 c2'] 46) = w8 at hP7 hX7 hR7 ⊢
              generalize w7.heap.size = gt at hX7 hgt1 ⊢
              refine (hmod.out _).mono ?_
              rintro e w9 ⟨rfl, hb9⟩
              replace hP7 := hP7.next hb9
              replace hX7 := L.BC.below hX7 hb9
              replace hR7 := Kd.R_below hR7 hb9
              clear hb9 hmod
              go_wp2_with (fail)
              replace hP7 := hP7.drew
              replace hX7 := L.BC.drew hX7
              replace hR7 := Kd.R_drew hR7
              refine start_ (n := 13) (S := fun w' => L.BC w' (g + 1) 37 [.int .i64 E2.l, .int .i64 E2.h, .string ⟨E2.out.toArray⟩] ∧ w'.cell? (ad2.add k) = some (.int .i64 b)) (ds := [11]) #[false, false, false, false, false, false, false, false, false, false, false, false, false] (by kernel_rfl) rfl rfl ⟨hP7.hK, hcell.out _ hR7⟩ (fun hHeld => ?_)
              generalize w9.drew = wa at hP7 hX7 hR7 hHeld ⊢
              refine pure_ (i := 1) (N := (some 71)) (v := ?_) (a' := ?_) #[false, true, false, false, false, false, false, false, false, false, false, false, false] rfl rfl (by kernel_rfl) (fun _ _ _ h => h) (Or.inl ⟨by rfl, ?_⟩) ?_ ?_
              rotate_left
              · intro w'
                go_simp
                with_reducible rfl
              rotate_left
              · simp only [Act.put, List.setIfInBounds_toArray, List.set_cons_zero, List.set_cons_succ, i64_w, i32_w]
                rfl
              refine pure_ (i := 2) (N := (some 72)) (v := ?_) (a' := ?_) #[false, true, true, false, false, false, false, false, false, false, false, false, false] rfl rfl (by kernel_rfl) (fun _ _ _ h => h) (Or.inl ⟨by rfl, ?_⟩) ?_ ?_
              rotate_left
              · intro w'
                go_simp
                with_reducible rfl
              rotate_left
              · simp only [Act.put, List.setIfInBounds_toArray, List.set_cons_zero, List.set_cons_succ, i64_w, i32_w]
                rfl
              refine pure_ (i := 3) (N := (some 73)) (v := ?_) (a' := ?_) #[false, true, true, true, false, false, false, false, false, false, false, false, false] rfl rfl (by kernel_rfl) (fun _ _ _ h => h) (Or.inl ⟨by rfl, ?_⟩) ?_ ?_
              rotate_left
              · intro w'
                go_simp
                with_reducible rfl
              rotate_left
              · simp only [Act.put, List.setIfInBounds_toArray, List.set_cons_zero, List.set_cons_succ, i64_w, i32_w]
                rfl
              refine pure_ (i := 5) (N := (some 75)) (v := ?_) (a' := ?_) #[false, true, true, true, false, true, false, false, false, false, false, false, false] rfl rfl (by kernel_rfl) (fun _ _ _ h => h) (Or.inl ⟨by rfl, ?_⟩) ?_ ?_
              rotate_left
              · intro w'
                go_simp
                with_reducible rfl
              rotate_left
              · simp only [Act.put, List.setIfInBounds_toArray, List.set_cons_zero, List.set_cons_succ, i64_w, i32_w]
                rfl
              refine take_ (i := 0) (N := (some 70)) (v := .agg #[.int .i64 E2.l, .int .i64 E2.h, .string ⟨E2.out.toArray⟩]) (a' := ?_) #[true, true, true, true, false, true, false, false, false, false, false, false, false] rfl rfl (by kernel_rfl) (fun _ _ _ h => h) (Or.inl ⟨by rfl, fun w' hS => L.loads 37 (.tmp 5) (g + 1) [.int .i64 E2.l, .int .i64 E2.h, .string ⟨E2.out.toArray⟩] _ (by rfl) (by rfl) Tryd.underlying37 rfl info37 w' (And.left hS)⟩) hHeld ?_ ?_
              rotate_left
              · simp only [Act.put, List.setIfInBounds_toArray, List.set_cons_zero, List.set_cons_succ, i64_w, i32_w]
                rfl
              refine take_ (i := 4) (N := (some 74)) (v := ?_) (a' := ?_) #[true, true, true, true, true, true, false, false, false, false, false, false, false] rfl rfl (by kernel_rfl) (fun _ _ _ h => h) (Or.inl ⟨by rfl, ?_⟩) hHeld ?_ ?_
              rotate_left
              · rintro w' ⟨s0, s1⟩
                go_simp
                with_reducible rfl
              rotate_left
              · simp only [Act.put, List.setIfInBounds_toArray, List.set_cons_zero, List.set_cons_succ, i64_w, i32_w]
                rfl
              refine join_ (σ := Nat) 2 #[true, true, true, true, true, true, true, true, true, true, true, false, false] (fun s_ => [(76, (.tuple #[.agg #[.int .i64 E3.l, .int .i64 E3.h, .string ⟨E3.out.toArray⟩], .int .i64 0])), (17, .pointer (some ⟨s_, 0, none⟩)), (69, (.tuple #[.agg #[.int .i64 E3.l, .int .i64 E3.h, .string ⟨E3.out.toArray⟩], .int .i64 0])), (77, (.agg #[.int .i64 E3.l, .int .i64 E3.h, .string ⟨E3.out.toArray⟩])), (78, .int .i64 0)]) (fun s_ w' => PW w w' g S2.M E2 ∧ L.BC w' gt 46 [.int .i64 c0, .int .i64 c1', .int .i64 c2'] ∧ Kd.R (Kd.int .i64) 3 w' base (fun _ => True) (.slice (some ad2) bs.length cap2) bs ∧ L.BC w' s_ 37 [.int .i64 0, .int .i64 0, .string (⟨#[]⟩ : ByteArray)] ∧ w.heap.size ≤ s_ ∧ s_ ≠ g + 1 ∧ s_ ≠ gt ∧ s_ ≠ g) ?_ ?_
              rotate_left
              · intro hCont
                refine two_ (i := 6) (j := 10) (Ni := (some 76)) (Nj := (some 17)) #[true, true, true, true, true, true, true, false, false, false, false, false, false] #[true, true, true, true, true, true, false, false, false, false, true, false, false] rfl rfl rfl rfl (by kernel_rfl) (by decide) (by decide) (fun K hK => ?_) (fun K hK => ?_)
                ·
                  refine goes_ Tryd.func29 (by kernel_rfl) rfl #[.agg #[.int .i64 E2.l, .int .i64 E2.h, .string ⟨E2.out.toArray⟩], .int .i64 b, .int .i64 p] (by rfl) rfl rfl (by (try simp only [List.map_toArray, List.map_cons, List.map_nil]); first | done | rfl) ?_
                  refine (hcod.out _).mono ?_
                  rintro e wb ⟨rfl, hbb⟩
                  refine ⟨_, rfl, ?_⟩
                  replace hP7 := hP7.next hbb
                  replace hX7 := L.BC.below hX7 hbb
                  replace hR7 := Kd.R_below hR7 hbb
                  clear hbb
                  refine hK.out _ _ ⟨hP7.hK, hcell.out _ hR7⟩ (fun hHeld => ?_)
                  clear hK K
                  refine norm_ (a' := ?_) ?_ ?_
                  rotate_left
                  · show Act.put _ (some 76) _ = _
                    simp only [Act.put, List.setIfInBounds_toArray, List.set_cons_zero, List.set_cons_succ, i64_w, i32_w]
                    rfl
                  refine pure_ (i := 7) (N := (some 69)) (v := ?_) (a' := ?_) #[true, true, true, true, true, true, true, true, false, false, false, false, false] rfl rfl (by kernel_rfl) (fun _ _ _ h => h) (Or.inl ⟨by rfl, ?_⟩) ?_ ?_
                  rotate_left
                  · intro w'
                    go_simp
                    with_reducible rfl
                  rotate_left
                  · simp only [Act.put, List.setIfInBounds_toArray, List.set_cons_zero, List.set_cons_succ, i64_w, i32_w]
                    rfl
                  refine pure_ (i := 8) (N := (some 77)) (v := ?_) (a' := ?_) #[true, true, true, true, true, true, true, true, true, false, false, false, false] rfl rfl (by kernel_rfl) (fun _ _ _ h => h) (Or.inl ⟨by rfl, ?_⟩) ?_ ?_
                  rotate_left
                  · intro w'
                    go_simp
                    with_reducible rfl
                  rotate_left
                  · simp only [Act.put, List.setIfInBounds_toArray, List.set_cons_zero, List.set_cons_succ, i64_w, i32_w]
                    rfl
                  refine pure_ (i := 9) (N := (some 78)) (v := ?_) (a' := ?_) #[true, true, true, true, true, true, true, true, true, true, false, false, false] rfl rfl (by kernel_rfl) (fun _ _ _ h => h) (Or.inl ⟨by rfl, ?_⟩) ?_ ?_
                  rotate_left
                  · intro w'
                    go_simp
                    with_reducible rfl
                  rotate_left
                  · simp only [Act.put, List.setIfInBounds_toArray, List.set_cons_zero, List.set_cons_succ, i64_w, i32_w]
                    rfl
                  refine one_ (i := 10) (N := (some 17)) #[true, true, true, true, true, true, true, true, true, true, true, false, false] rfl rfl (by kernel_rfl) (by decide) (fun K hK => ?_)
                  refine box_step ?hg (N := 17) ?hd (cs := #[.int .i64 0, .int .i64 0, .string (⟨#[]⟩ : ByteArray)]) (t := 37) ?hr ?_; (case hd => rfl); (case hg => rfl); (case hr => first | (go_simp; done) | (go_simp; rfl))
                  intro g4 hg4 wc hbox hbc
                  have hg0 : g4 ≠ g := Nat.ne_of_gt (hg4 ▸ Nat.lt_of_succ_lt hP7.lt)
                  have hg1 : g4 ≠ g + 1 := Nat.ne_of_gt (hg4 ▸ hP7.lt)
                  have hg2 : g4 ≠ gt := Nat.ne_of_gt (hg4 ▸ hX7.lt)
                  have hle : w.heap.size ≤ g4 := hg4 ▸ hP7.hB.size
                  have HX4 : L.BC wc g4 37 [.int .i64 0, .int .i64 0, .string (⟨#[]⟩ : ByteArray)] := ⟨hbox⟩
                  replace hP7 := hP7.next hbc
                  replace hX7 := L.BC.below hX7 hbc
                  replace hR7 := Kd.R_below hR7 hbc
                  clear hbc hbox
                  refine hK.out _ _ ⟨hP7.hK, hcell.out _ hR7⟩ (fun hHeld => ?_)
                  clear hK K
                  refine norm_ (a' := ?_) ?_ ?_
                  rotate_left
                  · show Act.put _ (some 17) _ = _
                    simp only [Act.put, List.setIfInBounds_toArray, List.set_cons_zero, List.set_cons_succ, i64_w, i32_w]
                    rfl
                  exact norm_ (by first | (simp only [putAll, Act.put, List.setIfInBounds_toArray, List.set_cons_zero, List.set_cons_succ]; done) | (simp only [putAll, Act.put, List.setIfInBounds_toArray, List.set_cons_zero, List.set_cons_succ]; rfl)) (hCont g4 _ ⟨hP7, hX7, hR7, HX4, hle, hg1, hg2, hg0⟩)
                ·
                  refine box_step ?hg (N := 17) ?hd (cs := #[.int .i64 0, .int .i64 0, .string (⟨#[]⟩ : ByteArray)]) (t := 37) ?hr ?_; (case hd => rfl); (case hg => rfl); (case hr => first | (go_simp; done) | (go_simp; rfl))
                  intro g4 hg4 wc hbox hbc
                  have hg0 : g4 ≠ g := Nat.ne_of_gt (hg4 ▸ Nat.lt_of_succ_lt hP7.lt)
                  have hg1 : g4 ≠ g + 1 := Nat.ne_of_gt (hg4 ▸ hP7.lt)
                  have hg2 : g4 ≠ gt := Nat.ne_of_gt (hg4 ▸ hX7.lt)
                  have hle : w.heap.size ≤ g4 := hg4 ▸ hP7.hB.size
                  have hX4 : L.BC wc g4 37 [.int .i64 0, .int .i64 0, .string (⟨#[]⟩ : ByteArray)] := ⟨hbox⟩
                  replace hP7 := hP7.next hbc
                  replace hX7 := L.BC.below hX7 hbc
                  replace hR7 := Kd.R_below hR7 hbc
                  clear hbc hbox
                  refine hK.out _ _ ⟨hP7.hK, hcell.out _ hR7⟩ (fun hHeld => ?_)
                  clear hK K
                  refine norm_ (a' := ?_) ?_ ?_
                  rotate_left
                  · show Act.put _ (some 17) _ = _
                    simp only [Act.put, List.setIfInBounds_toArray, List.set_cons_zero, List.set_cons_succ, i64_w, i32_w]
                    rfl
                  refine one_ (i := 6) (N := (some 76)) #[true, true, true, true, true, true, true, false, false, false, true, false, false] rfl rfl (by kernel_rfl) (by decide) (fun K hK => ?_)
                  refine goes_ Tryd.func29 (by kernel_rfl) rfl #[.agg #[.int .i64 E2.l, .int .i64 E2.h, .string ⟨E2.out.toArray⟩], .int .i64 b, .int .i64 p] (by rfl) rfl rfl (by (try simp only [List.map_toArray, List.map_cons, List.map_nil]); first | done | rfl) ?_
                  refine (hcod.out _).mono ?_
                  rintro e wb ⟨rfl, hbb⟩
                  refine ⟨_, rfl, ?_⟩
                  replace hP7 := hP7.next hbb
                  replace hX7 := L.BC.below hX7 hbb
                  replace hR7 := Kd.R_below hR7 hbb
                  have HX4 := L.BC.below hX4 hbb
                  clear hbb
                  refine hK.out _ _ ⟨hP7.hK, hcell.out _ hR7⟩ (fun hHeld => ?_)
                  clear hK K
                  refine norm_ (a' := ?_) ?_ ?_
                  rotate_left
                  · show Act.put _ (some 76) _ = _
                    simp only [Act.put, List.setIfInBounds_toArray, List.set_cons_zero, List.set_cons_succ, i64_w, i32_w]
                    rfl
                  refine pure_ (i := 7) (N := (some 69)) (v := ?_) (a' := ?_) #[true, true, true, true, true, true, true, true, false, false, true, false, false] rfl rfl (by kernel_rfl) (fun _ _ _ h => h) (Or.inl ⟨by rfl, ?_⟩) ?_ ?_
                  rotate_left
                  · intro w'
                    go_simp
                    with_reducible rfl
                  rotate_left
                  · simp only [Act.put, List.setIfInBounds_toArray, List.set_cons_zero, List.set_cons_succ, i64_w, i32_w]
                    rfl
                  refine pure_ (i := 8) (N := (some 77)) (v := ?_) (a' := ?_) #[true, true, true, true, true, true, true, true, true, false, true, false, false] rfl rfl (by kernel_rfl) (fun _ _ _ h => h) (Or.inl ⟨by rfl, ?_⟩) ?_ ?_
                  rotate_left
                  · intro w'
                    go_simp
                    with_reducible rfl
                  rotate_left
                  · simp only [Act.put, List.setIfInBounds_toArray, List.set_cons_zero, List.set_cons_succ, i64_w, i32_w]
                    rfl
                  refine pure_ (i := 9) (N := (some 78)) (v := ?_) (a' := ?_) #[true, true, true, true, true, true, true, true, true, true, true, false, false] rfl rfl (by kernel_rfl) (fun _ _ _ h => h) (Or.inl ⟨by rfl, ?_⟩) ?_ ?_
                  rotate_left
                  · intro w'
                    go_simp
                    with_reducible rfl
                  rotate_left
                  · simp only [Act.put, List.setIfInBounds_toArray, List.set_cons_zero, List.set_cons_succ, i64_w, i32_w]
                    rfl
                  exact norm_ (by first | (simp only [putAll, Act.put, List.setIfInBounds_toArray, List.set_cons_zero, List.set_cons_succ]; done) | (simp only [putAll, Act.put, List.setIfInBounds_toArray, List.set_cons_zero, List.set_cons_succ]; rfl)) (hCont g4 _ ⟨hP7, hX7, hR7, HX4, hle, hg1, hg2, hg0⟩)
              rintro g4 wd ⟨hP8, hX8, hR8, hX4, hle, hg1, hg2, hg0⟩
              clear hP7 hX7 hR7 hHeld hcod
              refine norm_ (a' := ?_) ?_ ?_
              rotate_left
              · simp only [putAll, Act.put, List.setIfInBounds_toArray, List.set_cons_zero, List.set_cons_succ]
                rfl
              refine last_ (i := 11) (N := none) #[true, true, true, true, true, true, true, true, true, true, true, true, false] rfl rfl (by kernel_rfl) (by decide) (fun K hK => ?_)
              refine L.skip_over 37 (.tmp 17) (.tmp 77) g4 [.int .i64 0, .int .i64 0, .string (⟨#[]⟩ : ByteArray)] [.int .i64 E3.l, .int .i64 E3.h, .string ⟨E3.out.toArray⟩] (by rfl) rfl (by rfl) (by rfl) (by rfl) hX4 rfl info37 (by intro v hv; simp only [List.mem_cons, List.not_mem_nil, or_false] at hv; rcases hv with rfl | rfl | rfl <;> rfl) ?_
              have hP9 := hP8.beside hg0 hg1 hle [.int .i64 E3.l, .int .i64 E3.h, .string ⟨E3.out.toArray⟩]
              have hX9 := L.BC.beside hX8 hg2 [.int .i64 E3.l, .int .i64 E3.h, .string ⟨E3.out.toArray⟩]
              have hD9 := L.BC.over (R := [.int .i64 E3.l, .int .i64 E3.h, .string ⟨E3.out.toArray⟩]) hX4 rfl
              have hR9 := R_setCells (ne_ty (by decide)) [.int .i64 E3.l, .int .i64 E3.h, .string ⟨E3.out.toArray⟩] 0 wd _ hX4 hR8
              clear hP8 hX8 hR8 hX4
              generalize (World.setCells wd g4 0 [.int .i64 E3.l, .int .i64 E3.h, .string ⟨E3.out.toArray⟩]) = we at hP9 hX9 hR9 hD9 ⊢
              refine hK.out _ _ ?_
              clear hK K
              refine pure_ (i := 12) (N := (some 18)) (v := ?_) (a' := ?_) #[true, true, true, true, true, true, true, true, true, true, true, true, true] rfl rfl (by kernel_rfl) (fun _ _ _ h => h) (Or.inl ⟨by rfl, ?_⟩) ?_ ?_
              rotate_left
              · intro w'
                go_simp
                with_reducible rfl
              rotate_left
              · simp only [Act.put, List.setIfInBounds_toArray, List.set_cons_zero, List.set_cons_succ, i64_w, i32_w]
                rfl
              refine done_ (by kernel_rfl) ?_
              have d0 := L.BC.at_ hD9 (o := 0) rfl; have d1 := L.BC.at_ hD9 (o := 1) rfl; have d2 := L.BC.at_ hD9 (o := 2) rfl
              have x0 : we.cell? ⟨g + 1, 0, none⟩ = some (.int .i64 E2.l) := L.BC.at_ hP9.hK (o := 0) rfl
              have x1 : we.cell? ⟨g + 1, 1, none⟩ = some (.int .i64 E2.h) := L.BC.at_ hP9.hK (o := 1) rfl
              have x2 : we.cell? ⟨g + 1, 2, none⟩ = some (.string ⟨E2.out.toArray⟩) := L.BC.at_ hP9.hK (o := 2) rfl
              have f0 := L.BC.frozen hP9.hK 0; have f1 := L.BC.frozen hP9.hK 1; have f2 := L.BC.frozen hP9.hK 2
              have e1 : (g + 1 = g4) = False := eq_false (Ne.symm hg1)
              have e2 : (g4 = g + 1) = False := eq_false hg1
              go_wp2_with (fail)
              have hK9 : L.BC we (g + 1) 37 [.int .i64 E2.l, .int .i64 E2.h, .string ⟨E2.out.toArray⟩] := hP9.hK
              have hP7 : PW w (((we.setCell ⟨g + 1, 0, none⟩ (.int .i64 E3.l)).setCell ⟨g + 1, 1, none⟩ (.int .i64 E3.h)).setCell ⟨g + 1, 2, none⟩ (.string ⟨E3.out.toArray⟩)) g S2.M E3 := hP9.coder
              have hX7 := L.BC.far (L.BC.far (L.BC.far hX9 (p := ⟨g + 1, 0, none⟩) hgt1 (.int .i64 E3.l)) (p := ⟨g + 1, 1, none⟩) hgt1 (.int .i64 E3.h)) (p := ⟨g + 1, 2, none⟩) hgt1 (.string ⟨E3.out.toArray⟩)
              have hR7 : Kd.R (Kd.int .i64) 3 (((we.setCell ⟨g + 1, 0, none⟩ (.int .i64 E3.l)).setCell ⟨g + 1, 1, none⟩ (.int .i64 E3.h)).setCell ⟨g + 1, 2, none⟩ (.string ⟨E3.out.toArray⟩)) base (fun _ => True) (.slice (some ad2) bs.length cap2) bs :=
                R_setB (R_setB (R_setB hR9 hK9 (ne_ty (by decide)) 0 _) (L.BC.set hK9 0 _) (ne_ty (by decide)) 1 _) (L.BC.set (L.BC.set hK9 0 _) 1 _) (ne_ty (by decide)) 2 _
              clear d0 d1 d2 x0 x1 x2 f0 f1 f2 e1 e2 hP9 hX9 hR9 hD9 hK9 hle hg1 hg2 hg0
              generalize ((we.setCell ⟨g + 1, 0, none⟩ (.int .i64 E3.l)).setCell ⟨g + 1, 1, none⟩ (.int .i64 E3.h)).setCell ⟨g + 1, 2, none⟩ (.string ⟨E3.out.toArray⟩) = wf at hP7 hX7 hR7 ⊢
              replace hP7 := hP7.drew
              replace hX7 := L.BC.drew hX7
              replace hR7 := Kd.R_drew hR7
              refine start_ (n := 13) (S := fun w' => w'.rangeAt g 0 (ints S2.M) ∧ L.BC w' gt 46 [.int .i64 c0, .int .i64 c1', .int .i64 c2'] ∧ w'.cell? (ad2.add k) = some (.int .i64 b)) (ds := [11]) #[false, false, false, false, false, false, false, false, false, false, false, false, false] (by kernel_rfl) rfl rfl ⟨hP7.hM.range, hX7, hcell.out _ hR7⟩ (fun hHeld => ?_)
              generalize wf.drew = wa at hP7 hX7 hR7 hHeld ⊢
              refine pure_ (i := 2) (N := (some 83)) (v := ?_) (a' := ?_) #[false, false, true, false, false, false, false, false, false, false, false, false, false] rfl rfl (by kernel_rfl) (fun _ _ _ h => h) (Or.inl ⟨by rfl, ?_⟩) ?_ ?_
              rotate_left
              · intro w'
                go_simp
                with_reducible rfl
              rotate_left
              · simp only [Act.put, List.setIfInBounds_toArray, List.set_cons_zero, List.set_cons_succ, i64_w, i32_w]
                rfl
              refine pure_ (i := 3) (N := (some 84)) (v := ?_) (a' := ?_) #[false, false, true, true, false, false, false, false, false, false, false, false, false] rfl rfl (by kernel_rfl) (fun _ _ _ h => h) (Or.inl ⟨by rfl, ?_⟩) ?_ ?_
              rotate_left
              · intro w'
                go_simp
                with_reducible rfl
              rotate_left
              · simp only [Act.put, List.setIfInBounds_toArray, List.set_cons_zero, List.set_cons_succ, i64_w, i32_w]
                rfl
              refine pure_ (i := 4) (N := (some 85)) (v := ?_) (a' := ?_) #[false, false, true, true, true, false, false, false, false, false, false, false, false] rfl rfl (by kernel_rfl) (fun _ _ _ h => h) (Or.inl ⟨by rfl, ?_⟩) ?_ ?_
              rotate_left
              · intro w'
                go_simp
                with_reducible rfl
              rotate_left
              · simp only [Act.put, List.setIfInBounds_toArray, List.set_cons_zero, List.set_cons_succ, i64_w, i32_w]
                rfl
              refine take_ (i := 0) (N := (some 81)) (v := .agg (ints S2.M).toArray) (a' := ?_) #[true, false, true, true, true, false, false, false, false, false, false, false, false] rfl rfl (by kernel_rfl) (fun _ _ _ h => h) (Or.inl ⟨by rfl, fun w' hS => L.loadsR 48 (.tmp 4) g (ints S2.M) _ (by rfl) (by rfl) Tryd.underlying48 rfl (infoM hS2.hM) w' (And.left hS)⟩) hHeld ?_ ?_
              rotate_left
              · simp only [Act.put, List.setIfInBounds_toArray, List.set_cons_zero, List.set_cons_succ, i64_w, i32_w]
                rfl
              refine take_ (i := 1) (N := (some 82)) (v := .agg #[.int .i64 c0, .int .i64 c1', .int .i64 c2']) (a' := ?_) #[true, true, true, true, true, false, false, false, false, false, false, false, false] rfl rfl (by kernel_rfl) (fun _ _ _ h => h) (Or.inl ⟨by rfl, fun w' hS => L.loads 46 (.tmp 13) gt [.int .i64 c0, .int .i64 c1', .int .i64 c2'] _ (by rfl) (by rfl) Tryd.underlying46 rfl info3 w' ((fun h => And.left (And.right h)) hS)⟩) hHeld ?_ ?_
              rotate_left
              · simp only [Act.put, List.setIfInBounds_toArray, List.set_cons_zero, List.set_cons_succ, i64_w, i32_w]
                rfl
              refine take_ (i := 5) (N := (some 86)) (v := ?_) (a' := ?_) #[true, true, true, true, true, true, false, false, false, false, false, false, false] rfl rfl (by kernel_rfl) (fun _ _ _ h => h) (Or.inl ⟨by rfl, ?_⟩) hHeld ?_ ?_
              rotate_left
              · rintro w' ⟨s0, s1, s2⟩
                go_simp
                with_reducible rfl
              rotate_left
              · simp only [Act.put, List.setIfInBounds_toArray, List.set_cons_zero, List.set_cons_succ, i64_w, i32_w]
                rfl
              refine join_ (σ := Nat) 2 #[true, true, true, true, true, true, true, true, true, true, true, false, false] (fun s_ => [(87, (.tuple #[.agg (ints M3).toArray, .int .i64 0])), (19, .pointer (some ⟨s_, 0, none⟩)), (80, (.tuple #[.agg (ints M3).toArray, .int .i64 0])), (88, .agg (ints M3).toArray), (89, .int .i64 0)]) (fun s_ w' => PW w w' g S2.M E3 ∧ L.BC w' gt 46 [.int .i64 c0, .int .i64 c1', .int .i64 c2'] ∧ Kd.R (Kd.int .i64) 3 w' base (fun _ => True) (.slice (some ad2) bs.length cap2) bs ∧ L.BC w' s_ 48 (ints zM) ∧ w.heap.size ≤ s_ ∧ s_ ≠ g + 1 ∧ s_ ≠ gt ∧ s_ ≠ g) ?_ ?_
              rotate_left
              · intro hCont
                refine two_ (i := 6) (j := 10) (Ni := (some 87)) (Nj := (some 19)) #[true, true, true, true, true, true, true, false, false, false, false, false, false] #[true, true, true, true, true, true, false, false, false, false, true, false, false] rfl rfl rfl rfl (by kernel_rfl) (by decide) (by decide) (fun K hK => ?_) (fun K hK => ?_)
                ·
                  refine goes_ Tryd.func30 (by kernel_rfl) rfl #[.agg (ints S2.M).toArray, .agg #[.int .i64 c0, .int .i64 c1', .int .i64 c2'], .int .i64 b] (by rfl) rfl rfl (by (try simp only [List.map_toArray, List.map_cons, List.map_nil]); first | done | rfl) ?_
                  refine (hlrn.out _).mono ?_
                  rintro e wb ⟨rfl, hbb⟩
                  refine ⟨_, rfl, ?_⟩
                  replace hP7 := hP7.next hbb
                  replace hX7 := L.BC.below hX7 hbb
                  replace hR7 := Kd.R_below hR7 hbb
                  clear hbb
                  refine hK.out _ _ ⟨hP7.hM.range, hX7, hcell.out _ hR7⟩ (fun hHeld => ?_)
                  clear hK K
                  refine norm_ (a' := ?_) ?_ ?_
                  rotate_left
                  · show Act.put _ (some 87) _ = _
                    simp only [Act.put, List.setIfInBounds_toArray, List.set_cons_zero, List.set_cons_succ, i64_w, i32_w]
                    rfl
                  refine pure_ (i := 7) (N := (some 80)) (v := ?_) (a' := ?_) #[true, true, true, true, true, true, true, true, false, false, false, false, false] rfl rfl (by kernel_rfl) (fun _ _ _ h => h) (Or.inl ⟨by rfl, ?_⟩) ?_ ?_
                  rotate_left
                  · intro w'
                    go_simp
                    with_reducible rfl
                  rotate_left
                  · simp only [Act.put, List.setIfInBounds_toArray, List.set_cons_zero, List.set_cons_succ, i64_w, i32_w]
                    rfl
                  refine pure_ (i := 8) (N := (some 88)) (v := ?_) (a' := ?_) #[true, true, true, true, true, true, true, true, true, false, false, false, false] rfl rfl (by kernel_rfl) (fun _ _ _ h => h) (Or.inl ⟨by rfl, ?_⟩) ?_ ?_
                  rotate_left
                  · intro w'
                    go_simp
                    with_reducible rfl
                  rotate_left
                  · simp only [Act.put, List.setIfInBounds_toArray, List.set_cons_zero, List.set_cons_succ, i64_w, i32_w]
                    rfl
                  refine pure_ (i := 9) (N := (some 89)) (v := ?_) (a' := ?_) #[true, true, true, true, true, true, true, true, true, true, false, false, false] rfl rfl (by kernel_rfl) (fun _ _ _ h => h) (Or.inl ⟨by rfl, ?_⟩) ?_ ?_
                  rotate_left
                  · intro w'
                    go_simp
                    with_reducible rfl
                  rotate_left
                  · simp only [Act.put, List.setIfInBounds_toArray, List.set_cons_zero, List.set_cons_succ, i64_w, i32_w]
                    rfl
                  refine one_ (i := 10) (N := (some 19)) #[true, true, true, true, true, true, true, true, true, true, true, false, false] rfl rfl (by kernel_rfl) (by decide) (fun K hK => ?_)
                  refine box_step ?hg (N := 19) ?hd (cs := (ints zM).toArray) (t := 48) ?hr ?_; (case hd => rfl); (case hg => rfl); (case hr => exact alloc_model_run rfl)
                  intro g5 hg5 wc hbox hbc
                  have hg0 : g5 ≠ g := Nat.ne_of_gt (hg5 ▸ Nat.lt_of_succ_lt hP7.lt)
                  have hg1 : g5 ≠ g + 1 := Nat.ne_of_gt (hg5 ▸ hP7.lt)
                  have hg2 : g5 ≠ gt := Nat.ne_of_gt (hg5 ▸ hX7.lt)
                  have hle : w.heap.size ≤ g5 := hg5 ▸ hP7.hB.size
                  have HX4 : L.BC wc g5 48 (ints zM) := ⟨hbox⟩
                  replace hP7 := hP7.next hbc
                  replace hX7 := L.BC.below hX7 hbc
                  replace hR7 := Kd.R_below hR7 hbc
                  clear hbc hbox
                  refine hK.out _ _ ⟨hP7.hM.range, hX7, hcell.out _ hR7⟩ (fun hHeld => ?_)
                  clear hK K
                  refine norm_ (a' := ?_) ?_ ?_
                  rotate_left
                  · show Act.put _ (some 19) _ = _
                    simp only [Act.put, List.setIfInBounds_toArray, List.set_cons_zero, List.set_cons_succ, i64_w, i32_w]
                    rfl
                  exact norm_ (by first | (simp only [putAll, Act.put, List.setIfInBounds_toArray, List.set_cons_zero, List.set_cons_succ]; done) | (simp only [putAll, Act.put, List.setIfInBounds_toArray, List.set_cons_zero, List.set_cons_succ]; rfl)) (hCont g5 _ ⟨hP7, hX7, hR7, HX4, hle, hg1, hg2, hg0⟩)
                ·
                  refine box_step ?hg (N := 19) ?hd (cs := (ints zM).toArray) (t := 48) ?hr ?_; (case hd => rfl); (case hg => rfl); (case hr => exact alloc_model_run rfl)
                  intro g5 hg5 wc hbox hbc
                  have hg0 : g5 ≠ g := Nat.ne_of_gt (hg5 ▸ Nat.lt_of_succ_lt hP7.lt)
                  have hg1 : g5 ≠ g + 1 := Nat.ne_of_gt (hg5 ▸ hP7.lt)
                  have hg2 : g5 ≠ gt := Nat.ne_of_gt (hg5 ▸ hX7.lt)
                  have hle : w.heap.size ≤ g5 := hg5 ▸ hP7.hB.size
                  have hX4 : L.BC wc g5 48 (ints zM) := ⟨hbox⟩
                  replace hP7 := hP7.next hbc
                  replace hX7 := L.BC.below hX7 hbc
                  replace hR7 := Kd.R_below hR7 hbc
                  clear hbc hbox
                  refine hK.out _ _ ⟨hP7.hM.range, hX7, hcell.out _ hR7⟩ (fun hHeld => ?_)
                  clear hK K
                  refine norm_ (a' := ?_) ?_ ?_
                  rotate_left
                  · show Act.put _ (some 19) _ = _
                    simp only [Act.put, List.setIfInBounds_toArray, List.set_cons_zero, List.set_cons_succ, i64_w, i32_w]
                    rfl
                  refine one_ (i := 6) (N := (some 87)) #[true, true, true, true, true, true, true, false, false, false, true, false, false] rfl rfl (by kernel_rfl) (by decide) (fun K hK => ?_)
                  refine goes_ Tryd.func30 (by kernel_rfl) rfl #[.agg (ints S2.M).toArray, .agg #[.int .i64 c0, .int .i64 c1', .int .i64 c2'], .int .i64 b] (by rfl) rfl rfl (by (try simp only [List.map_toArray, List.map_cons, List.map_nil]); first | done | rfl) ?_
                  refine (hlrn.out _).mono ?_
                  rintro e wb ⟨rfl, hbb⟩
                  refine ⟨_, rfl, ?_⟩
                  replace hP7 := hP7.next hbb
                  replace hX7 := L.BC.below hX7 hbb
                  replace hR7 := Kd.R_below hR7 hbb
                  have HX4 := L.BC.below hX4 hbb
                  clear hbb
                  refine hK.out _ _ ⟨hP7.hM.range, hX7, hcell.out _ hR7⟩ (fun hHeld => ?_)
                  clear hK K
                  refine norm_ (a' := ?_) ?_ ?_
                  rotate_left
                  · show Act.put _ (some 87) _ = _
                    simp only [Act.put, List.setIfInBounds_toArray, List.set_cons_zero, List.set_cons_succ, i64_w, i32_w]
                    rfl
                  refine pure_ (i := 7) (N := (some 80)) (v := ?_) (a' := ?_) #[true, true, true, true, true, true, true, true, false, false, true, false, false] rfl rfl (by kernel_rfl) (fun _ _ _ h => h) (Or.inl ⟨by rfl, ?_⟩) ?_ ?_
                  rotate_left
                  · intro w'
                    go_simp
                    with_reducible rfl
                  rotate_left
                  · simp only [Act.put, List.setIfInBounds_toArray, List.set_cons_zero, List.set_cons_succ, i64_w, i32_w]
                    rfl
                  refine pure_ (i := 8) (N := (some 88)) (v := ?_) (a' := ?_) #[true, true, true, true, true, true, true, true, true, false, true, false, false] rfl rfl (by kernel_rfl) (fun _ _ _ h => h) (Or.inl ⟨by rfl, ?_⟩) ?_ ?_
                  rotate_left
                  · intro w'
                    go_simp
                    with_reducible rfl
                  rotate_left
                  · simp only [Act.put, List.setIfInBounds_toArray, List.set_cons_zero, List.set_cons_succ, i64_w, i32_w]
                    rfl
                  refine pure_ (i := 9) (N := (some 89)) (v := ?_) (a' := ?_) #[true, true, true, true, true, true, true, true, true, true, true, false, false] rfl rfl (by kernel_rfl) (fun _ _ _ h => h) (Or.inl ⟨by rfl, ?_⟩) ?_ ?_
                  rotate_left
                  · intro w'
                    go_simp
                    with_reducible rfl
                  rotate_left
                  · simp only [Act.put, List.setIfInBounds_toArray, List.set_cons_zero, List.set_cons_succ, i64_w, i32_w]
                    rfl
                  exact norm_ (by first | (simp only [putAll, Act.put, List.setIfInBounds_toArray, List.set_cons_zero, List.set_cons_succ]; done) | (simp only [putAll, Act.put, List.setIfInBounds_toArray, List.set_cons_zero, List.set_cons_succ]; rfl)) (hCont g5 _ ⟨hP7, hX7, hR7, HX4, hle, hg1, hg2, hg0⟩)
              rintro g5 wd ⟨hP8, hX8, hR8, hX4, hle5, hh1, hh2, hh0⟩
              clear hP7 hX7 hR7 hHeld hlrn
              refine norm_ (a' := ?_) ?_ ?_
              rotate_left
              · simp only [putAll, Act.put, List.setIfInBounds_toArray, List.set_cons_zero, List.set_cons_succ]
                rfl
              refine last_ (i := 11) (N := none) #[true, true, true, true, true, true, true, true, true, true, true, true, false] rfl rfl (by kernel_rfl) (by decide) (fun K hK => ?_)
              refine L.skip_row 48 (.tmp 19) (.tmp 88) g5 (ints M3) (by rfl) rfl (by rfl) (by rfl) (by rfl) (hX4.there (by rw [ints_length, ints_length, hM3l, zM_length]; exact Nat.le_refl _)) (infoM hM3l) (ints_one M3) ?_
              have hP9 := hP8.beside hh0 hh1 hle5 (ints M3)
              have hR9 := R_setCells (ne_ty (by decide)) (ints M3) 0 wd _ hX4 hR8
              have hD9 : MB (World.setCells wd g5 0 (ints M3)) g5 M3 := MB.over (L := zM) ⟨hX4.blk, zM_length⟩ hM3l
              clear hP8 hX8 hR8 hX4
              generalize (World.setCells wd g5 0 (ints M3)) = wg at hP9 hR9 hD9 ⊢
              refine hK.out _ _ ?_
              clear hK K
              refine pure_ (i := 12) (N := (some 20)) (v := ?_) (a' := ?_) #[true, true, true, true, true, true, true, true, true, true, true, true, true] rfl rfl (by kernel_rfl) (fun _ _ _ h => h) (Or.inl ⟨by rfl, ?_⟩) ?_ ?_
              rotate_left
              · intro w'
                go_simp
                with_reducible rfl
              rotate_left
              · simp only [Act.put, List.setIfInBounds_toArray, List.set_cons_zero, List.set_cons_succ, i64_w, i32_w]
                rfl
              refine done_ (by kernel_rfl) ?_
              have hP6 := PW.model hP9 hM3l
              have hR6 := R_setCells (ne_ty (by decide)) (ints M3) 0 wg _ hP9.blk hR9
              have hT9 := Lib.hid (hP9.hM.there hM3l)
              have hI9 := Lib.hid (info_M hM3l)
              clear hP9 hR9
              go_wp2_with (first | ((with_reducible refine wpList_load_mid rfl 48 (.tmp 19) rfl g5 0 ?hx (ints M3) _ hD9.range Tryd.underlying48 rfl hD9.info ?_); (case hx => show _ = Value.pointer _; rfl)) | ((with_reducible refine wpList_store_mid rfl 48 (.tmp 4) (.tmp 90) rfl g 0 (ints M3).toArray ?hx ?hy hT9.out hI9.out (all_oneCell_toArray (ints_one _)) ?_); (case hx => rfl); (case hy => rfl); generalize World.setCells _ g 0 _ = wh at hP6 hR6 ⊢))
              obtain ⟨j, rfl⟩ : ∃ j, gk = j + 1 := ⟨gk - 1, by omega⟩
              go_roundg j
              case measure => omega
              case rel =>
                refine ⟨k + 1, lrn lR S2 b, E3, by simp, by omega, ?_, hN2.out, ?_, hbf.out, hE3.out, by omega, ?_, hR6⟩
                · rw [htk2.out, putBits_append, hput2.out, ← hE3d.out]; rfl
                · show S2.bits ++ [b] = _
                  rw [htk2.out, hSb2.out]
                · rw [hM3.out]; exact hP6
            · have c2d : decide ((k : Int) < (bs.length : Int)) = false := decide_eq_false (by omega)
              have hon := Lib.hid (PG.rones_f bs (Nat.le_trans hlen2 (by decide)) (bs.length + 1) (Nat.lt_succ_self _))
              rw [List.take_of_length_le (by omega)] at hput2 hSb2
              replace hput2 := Lib.hid hput2
              replace hSb2 := Lib.hid hSb2
              replace hbf := Lib.hid hbf
              go_wp2_with (fail)
              refine (PG.descantref1_Ones.calls _ A2 cap2 bs _ _ hC2 hcp2 hon.out).mono ?_
              rintro e w7 ⟨rfl, ⟨⟨m7, rfl⟩⟩⟩
              replace hP := hP.drewN m7
              go_wp2_with (fail)
              go_roundg gko
              case measure => omega
              case rel =>
                have hpn : putNum mdot lR x (⟨M, before, []⟩, E) = (nxt S2, E2) := by
                  unfold putNum; rw [hbs.out, hput2.out]
                have hin := putNum_in (a := (⟨M, before, []⟩, E)) hS rfl hxo.out
                rw [hpn] at hin
                refine ⟨i + 1, nxt S2, E2, ?_, by simp, by omega, ?_, ?_, hin.1, hin.2, hE2, hP⟩
                · show _ = Value.int .i64 (gOnes S2.bits : Int)
                  rw [hSb2.out]
                · rw [htk.out, putNums_append, hput.out, ← hpn]; rfl
                · rw [htk.out, List.all_append, hall.out]; simp [hxo.out]
        | false =>
          rw [hxo, if_neg (by decide)] at hf
          have HF := Lib.hid hf
          clear hf
          have hno : putOk rs = false := by
            unfold putOk
            have : rs.all numOk = false := List.all_eq_false.2 ⟨x, hmem, by rw [hxo]; decide⟩
            rw [this, Bool.and_false]
          replace hno := Lib.hid hno
          replace hxo := Lib.hid hxo
          go_wp2_with (fail)
          refine (PG.descantref1_Fold.calls x 0 1000 _ HF.out).mono ?_
          rintro e w5 ⟨rfl, hd⟩
          replace hP := hP.next hd.below
          go_wp2_with (fail)
          go_ret2
          rw [← hres.out, hno.out]
          exact ⟨rfl, hP.hB⟩
      · have c1d : decide ((i : Int) < (rs.length : Int)) = false := decide_eq_false (by omega)
        rw [List.take_of_length_le (by omega)] at hput hall
        have hyes : putOk rs = true := by unfold putOk; rw [hall, decide_eq_true hlen]; rfl
        have hps : putS mdot lR newM rs = encE E := by unfold putS; rw [hput]
        replace hyes := Lib.hid hyes
        replace hps := Lib.hid hps
        have hef := PG.rend_f hE (show E.out.length ≤ 65536 by omega)
        replace hput := Lib.hid hput
        replace hall := Lib.hid hall
        replace hef := Lib.hid hef
        have y0 : wr.cell? ⟨g + 1, 0, none⟩ = some (.int .i64 E.l) := L.BC.at_ hP.hK (o := 0) rfl
        have y1 : wr.cell? ⟨g + 1, 1, none⟩ = some (.int .i64 E.h) := L.BC.at_ hP.hK (o := 1) rfl
        have y2 : wr.cell? ⟨g + 1, 2, none⟩ = some (.string ⟨E.out.toArray⟩) := L.BC.at_ hP.hK (o := 2) rfl
        go_wp2_with (fail)
        refine (PG.descantref1_EndCoder.calls 5 _ _ _ _ _ _ hef.out).mono ?_
        rintro e w4 ⟨rfl, hb4⟩
        replace hP := hP.next hb4
        clear y0 y1 y2
        go_wp2_with (fail)
        go_ret2
        rw [← hres.out, hyes.out, hps.out]
        exact ⟨rfl, hP.hB⟩
  · have d1 : decide (256 < (rs.length : Int)) = true := decide_eq_true (by omega)
    have hno : putOk rs = false := by unfold putOk; rw [decide_eq_false hlen, Bool.false_and]
    replace hno := Lib.hid hno
    clear hC hc hlen
    go_enter Tryd.func15, Tryd.ntmps15
    go_wp2_with (fail)
    go_ret2
    rw [← hres.out, hno.out]
    exact ⟨rfl, Below.refl _ _⟩
end Go.Proofs.YtbklhoeoamkboaaDoor
/- ResidualUnlike, walked. -/
namespace Go.Proofs.YtbklhoeoamkboaaDoor
open Go.RowKit Go.Proofs.YtbklhoeoamkboaaDoorW.PrintWords Go.Proofs.YtbklhoeoamkboaaDoorW.PrintLast Go.Proofs.YtbklhoeoamkboaaDoorW.PrintMore Go.Proofs.YtbklhoeoamkboaaDoor.L
set_option linter.unusedVariables false
set_option linter.unusedSimpArgs false
theorem rput_lem {rs : List Int} (A : Option Addr) (cap : Nat) (w : World) (ht : Tab w) (hC : Kd.C (Kd.int .i64) w A rs.length rs) (hc : rs.length ≤ cap) (T : ByteArray) (E : Int) (hT : (if putOk rs = true then (⟨(putS mdot lR newM rs).toArray⟩ : ByteArray) else ⟨#[]⟩) = T) (hE : (if putOk rs = true then (0 : Int) else 1300) = E) :
    Calls Tryd.prog 9 #[.slice A rs.length cap] w fun e w' => e = .returned (.tuple #[.string T, .int .i64 E]) ∧ Below w.heap.size w w' := by
  have := rput_any rs A cap w ht hC hc
  rw [hT, hE] at this
  exact this
theorem rput_lem13 {rs : List Int} (A : Option Addr) (cap : Nat) (w : World) (hC : Kd.C (Kd.int .i64) w A rs.length rs) (hc : rs.length ≤ cap) (T : ByteArray) (E : Int) (hT : (if putOk rs = true then (⟨(putS mdot lR newM rs).toArray⟩ : ByteArray) else ⟨#[]⟩) = T) (hE : (if putOk rs = true then (0 : Int) else 1300) = E) :
    Calls Tryd.prog 15 #[.slice A rs.length cap] w fun e w' => e = .returned (.tuple #[.string T, .int .i64 E]) ∧ Below w.heap.size w w' := by
  have := rput13 rs A cap w hC hc
  rw [hT, hE] at this
  exact this
theorem mask8 (x : Int) : Go.bits .and .i64 x 255 = x % 256 := i64_mask 8 255 (by decide) (by decide) x
theorem u64_nnm (a : Int) : 0 ≤ IntKind.u64.wrap a := by
  show 0 ≤ a % 18446744073709551616
  omega
theorem unlike_fact {rs : List Int} {k : Nat} {v : Int} (hk : k < rs.length) (hv : rs[k] ≠ v) (hp : putOk rs = true) (T0 T1 : ByteArray) (E1 : Int) (h0 : (⟨(putS mdot lR newM rs).toArray⟩ : ByteArray) = T0)
    (h1 : (if putOk (rs.set k v) = true then (⟨(putS mdot lR newM (rs.set k v)).toArray⟩ : ByteArray) else ⟨#[]⟩) = T1) (g1 : (if putOk (rs.set k v) = true then (0 : Int) else 1300) = E1) :
    (E1 = 0 ∧ (T0.toList == T1.toList) = false) ∨ E1 = 1300 := by
  by_cases hq : putOk (rs.set k v) = true
  · rw [if_pos hq] at h1 g1
    refine .inl ⟨g1.symm, ?_⟩
    rw [Go.ByteArray.toList_eq, Go.ByteArray.toList_eq]
    refine beq_eq_false_iff_ne.2 fun h => ?_
    rw [← h0, ← h1] at h
    have := put_inj hp hq (by rw [List.length_set]) (by simpa using h)
    have h2 := congrArg (fun l => l[k]?) this
    simp only [List.getElem?_set_self hk, List.getElem?_eq_getElem hk, Option.some.injEq] at h2
    exact hv h2
  · rw [if_neg hq] at g1
    exact .inr g1.symm
set_option maxHeartbeats 8000000 in
set_option maxRecDepth 100000 in
theorem residualUnlike_walk (A : Option Addr) (cap : Nat) (rs : List Int) (a1 a2 : Int) (w : World) (ht : Tab w) (hC : Kd.C (Kd.int .i64) w A rs.length rs) (hc : rs.length ≤ cap) (hm : rs.length * 8 ≤ 140737488351232) :
    Calls Tryd.prog 6 #[.slice A rs.length cap, .int .i64 a1, .int .i64 a2] w fun e w' => e = .returned (.bool true) ∧ Below w.heap.size w w' := by
  have haw := awake13 w ht
  have ht0 := Lib.hid ht
  have hC0 := Lib.hid hC
  obtain ⟨b, hbb⟩ : ∃ b, Go.bits .and .i64 a2 255 = b := ⟨_, rfl⟩
  have hb0 : 0 ≤ b ∧ b ≤ 255 := by rw [← hbb, mask8]; omega
  clear ht hC
  go_enter Tryd.func6, Tryd.ntmps6
  go_wp2_with (fail)
  refine haw.mono ?_
  rintro e w1 ⟨rfl, hb⟩
  clear haw
  by_cases hp : putOk rs = true
  · obtain ⟨T0, h0⟩ : ∃ T, (⟨(putS mdot lR newM rs).toArray⟩ : ByteArray) = T := ⟨_, rfl⟩
    have H0 : (if putOk rs = true then (⟨(putS mdot lR newM rs).toArray⟩ : ByteArray) else ⟨#[]⟩) = T0 := by rw [if_pos hp]; exact h0
    have G0 : (if putOk rs = true then (0 : Int) else 1300) = 0 := if_pos hp
    replace H0 := Lib.hid H0
    replace G0 := Lib.hid G0
    have hrl : rs.length ≤ 256 := by unfold putOk at hp; simp only [Bool.and_eq_true, decide_eq_true_eq] at hp; exact hp.1
    have hall : rs.all numOk = true := by unfold putOk at hp; simp only [Bool.and_eq_true, decide_eq_true_eq] at hp; exact hp.2
    rcases Nat.eq_zero_or_pos rs.length with hz | hz
    · have d1 : ((rs.length : Int) == 0) = true := by rw [hz]; rfl
      have d2 : ((rs.length : Int) = 0) = True := eq_true (by omega)
      have d3 : (rs.length = 0) = True := eq_true hz
      replace hp := Lib.hid hp
      replace h0 := Lib.hid h0
      replace hall := Lib.hid hall
      replace hz := Lib.hid hz
      go_wp2_with (fail)
      refine (rput_lem A cap w1 (ht0.out.below hb) (Kd.C_below hC0.out hb) hc T0 0 H0.out G0.out).mono ?_
      rintro e w2 ⟨rfl, hb2⟩
      replace hb := below_next hb hb2
      go_wp2_with (first | (go_at_call 10; refine (num_any _ _).mono ?_; rintro e w_ ⟨rfl, rfl⟩))
      go_ret
      exact ⟨rfl, hb⟩
    · obtain ⟨k, hk, hkl⟩ : ∃ k : Nat, (IntKind.u64.wrap a1).tmod (rs.length : Int) = (k : Int) ∧ k < rs.length := by
        have q0 := u64_nnm a1
        refine ⟨((IntKind.u64.wrap a1).tmod (rs.length : Int)).toNat, ?_, ?_⟩
        · rw [Int.toNat_of_nonneg (Int.tmod_nonneg _ q0)]
        · rw [Int.tmod_eq_emod_of_nonneg q0]
          have := Int.emod_lt_of_pos (IntKind.u64.wrap a1) (show 0 < (rs.length : Int) by omega)
          have := Int.emod_nonneg (IntKind.u64.wrap a1) (show (rs.length : Int) ≠ 0 by omega)
          omega
      have hnx := List.all_eq_true.1 hall rs[k] (List.getElem_mem hkl)
      unfold numOk at hnx
      have hnx := of_decide_eq_true hnx
      have hget := rd_get hkl
      obtain ⟨x, hx⟩ : ∃ x, rs[k] = x := ⟨_, rfl⟩
      rw [hx] at hnx hget
      have wk : wrap64 (k : Int) = k := IntWalk.wrap64_in _ (by omega)
      have wx1 : IntKind.i64.wrap (x + 1) = x + 1 := IntWalk.i64_in _ (by omega)
      have wx2 : IntKind.i64.wrap (x + 1 + b) = x + 1 + b := IntWalk.i64_in _ (by omega)
      obtain ⟨v, hv⟩ : ∃ v, x + 1 + b = v := ⟨_, rfl⟩
      obtain ⟨T1, h1⟩ : ∃ T, (if putOk (rs.set k v) = true then (⟨(putS mdot lR newM (rs.set k v)).toArray⟩ : ByteArray) else ⟨#[]⟩) = T := ⟨_, rfl⟩
      obtain ⟨E1, g1⟩ : ∃ E, (if putOk (rs.set k v) = true then (0 : Int) else 1300) = E := ⟨_, rfl⟩
      have hfact := Lib.hid (unlike_fact hkl (v := v) (by rw [hx]; omega) hp T0 T1 E1 h0 h1 g1)
      obtain ⟨xs, hxs⟩ : ∃ xs, rs.set k v = xs := ⟨_, rfl⟩
      rw [hxs] at h1 g1
      have hxl : xs.length = rs.length := by rw [← hxs, List.length_set]
      have H1 := Lib.hid h1
      have G1 := Lib.hid g1
      have k1 := eq_true (show (0 : Int) ≤ (k : Int) by omega)
      have k2 := eq_true (show (k : Int) < (rs.length : Int) by omega)
      have d1 : ((rs.length : Int) == 0) = false := beq_eq_false_iff_ne.2 (by omega)
      have d2 : ((rs.length : Int) = 0) = False := eq_false (by omega)
      have d3 : (rs.length = 0) = False := eq_false (by omega)
      replace hp := Lib.hid hp
      replace h0 := Lib.hid h0
      replace hall := Lib.hid hall
      replace hxs := Lib.hid hxs
      replace hget := Lib.hid hget
      replace hx := Lib.hid hx
      replace hxl := Lib.hid hxl
      clear h1 g1
      go_wp2_with (fail)
      refine (rput_lem A cap w1 (ht0.out.below hb) (Kd.C_below hC0.out hb) hc T0 0 H0.out G0.out).mono ?_
      rintro e w2 ⟨rfl, hb2⟩
      replace hb := below_next hb hb2
      clear hb2
      have hC2 := Kd.C_below hC0.out hb
      go_wp2_with (first | (go_at_call 10; refine (num_any _ _).mono ?_; rintro e w_ ⟨rfl, rfl⟩) | ((with_reducible refine gate_dst (N := 37) rfl ?_); refine Kd.R_lit (Kd.int .i64) (w0 := w2) (w2).heap.size 3 ?hg (N := 37) ?hd (xs := ([] : List Int)) (inner := []) (ok := fun _ => True) (okp := fun _ => True) ?hr ?hp (fun _ hk => hk) trivial (Below.refl _ _) (Nat.le_refl _) (by decide) ?_; (case hd => rfl); (case hg => rfl); (case hr => first | (go_simp; done) | (go_simp; rfl)); (case hp => exact (Reps.none _ _)); intro v37 w3 hR37 hb3 hgr_ hnew_; clear hgr_ hnew_; obtain ⟨A37, c37, e_⟩ := Kd.R_slice hR37; subst e_) | ((with_reducible refine gate_builtin (b := .append) (xs := #[.tmp 37, .tmp 38]) rfl ?_); at_builtin; refine Kd.R_append_row (Value.int .i64) (0 : Int) (h1 := fun _ => rfl) (w0 := w2) (w2).heap.size rfl (.tmp 37) (.tmp 38) 22 3 (.int .i64 0) 8 rfl Tryd.underlying22 infoI rfl (by decide) (.slice A37 ([] : List Int).length c37) ([] : List Int) rs A rs.length cap (fun _ => True) rfl rfl (fun _ _ => trivial) hR37 (Kd.C_below hC2 hb3) hb3 hb3.size (by simp; omega) ?_; intro v39 w4 hR39 hb4 hgr_ hat_; clear hgr_ hat_; rw [List.nil_append] at hR39; obtain ⟨g39, c39, e_, hg39, hg39l, -⟩ := Kd.R_form hR39 hz; subst e_; have hy := Kd.R_cell (0 : Int) hR39 (k : Int) (by omega) (by omega); rw [Int.toNat_natCast] at hy; obtain ⟨hy1, hy2⟩ := hy; rw [show rdOf (0 : Int) rs (k : Int) = x from hget.out] at hy1))
      have hR5 := (Kd.R_put hR39 (k : Int) v).1
      rw [Int.toNat_natCast, hxs.out] at hR5
      have hb5 := below_next hb (hb4.setCell (p := ⟨g39, k, none⟩) hg39 (Value.int .i64 v))
      clear hy1 hy2 hR39 hb4 hb3 hR37 hC2 hg39 hg39l hb wx1 wx2
      generalize w4.setCell ⟨g39, k, none⟩ (Value.int .i64 v) = w5 at hR5 hb5 ⊢
      have hC5 := (Kd.R_reads' hR5).2.2
      have hl5 := (Kd.R_reads' hR5).2.1
      have hc1 := rput_lem (rs := xs) (some ⟨g39, 0, none⟩) c39 w5 (ht0.out.below hb5) hC5 (by rw [hxl.out]; exact hl5) T1 E1 H1.out G1.out
      rw [hxl.out] at hc1
      refine hc1.mono ?_
      rintro e w6 ⟨rfl, hb6⟩
      have hb7 := below_next hb5 hb6
      have hc2 := rput_lem13 (rs := xs) (some ⟨g39, 0, none⟩) c39 w6 (Kd.C_below hC5 hb6) (by rw [hxl.out]; exact hl5) T1 E1 H1.out G1.out
      rw [hxl.out] at hc2
      clear hc1 hC5 hR5 hb5 hb6
      go_wp2_with (fail)
      refine hc2.mono ?_
      rintro e w7 ⟨rfl, hb8⟩
      replace hb7 := below_next hb7 hb8
      clear hb8 hc2 H1 G1
      rcases hfact.out with ⟨rfl, h1⟩ | rfl
      · go_wp2_with (first | (go_at_call 10; refine (num_any _ _).mono ?_; rintro e w_ ⟨rfl, rfl⟩))
        go_ret
        exact ⟨rfl, hb7⟩
      · go_wp2_with (first | (go_at_call 10; refine (num_any _ _).mono ?_; rintro e w_ ⟨rfl, rfl⟩))
        go_ret
        exact ⟨rfl, hb7⟩
  · have hpf : putOk rs = false := by simpa using hp
    have H0 : (if putOk rs = true then (⟨(putS mdot lR newM rs).toArray⟩ : ByteArray) else ⟨#[]⟩) = ⟨#[]⟩ := if_neg hp
    have G0 : (if putOk rs = true then (0 : Int) else 1300) = 1300 := if_neg hp
    replace H0 := Lib.hid H0
    replace G0 := Lib.hid G0
    clear hp
    replace hpf := Lib.hid hpf
    go_wp2_with (fail)
    refine (rput_lem A cap w1 (ht0.out.below hb) (Kd.C_below hC0.out hb) hc ⟨#[]⟩ 1300 H0.out G0.out).mono ?_
    rintro e w2 ⟨rfl, hb2⟩
    replace hb := below_next hb hb2
    go_wp2_with (first | (go_at_call 10; refine (num_any _ _).mono ?_; rintro e w_ ⟨rfl, rfl⟩))
    go_ret
    exact ⟨rfl, hb⟩
end Go.Proofs.YtbklhoeoamkboaaDoor
