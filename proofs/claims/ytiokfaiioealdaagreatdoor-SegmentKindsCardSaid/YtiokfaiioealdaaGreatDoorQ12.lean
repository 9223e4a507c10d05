/- The texts behind the row, joined: PGx2. -/
import Derived.Test.YtiokfaiioealdaaGreatDoorQ11
namespace Go.Proofs.YtiokfaiioealdaaGreatDoor.PG
open Go.RowKit Go.Proofs.YtiokfaiioealdaaGreatDoorW.PrintWords Go.Proofs.YtiokfaiioealdaaGreatDoorW.PrintLast Go.Proofs.YtiokfaiioealdaaGreatDoorW.PrintMore
set_option linter.unusedVariables false
set_option linter.unusedSimpArgs false
section
open Go.Proofs.YtiokfaiioealdaaGreatDoor.L
theorem rd_at (l : List Int) (i : Nat) (h : i < l.length) : l[i]? = some (rd l (i : Int)) := by
  unfold rd
  rw [Int.toNat_natCast, List.getD_eq_getElem?_getD, List.getElem?_eq_getElem h]
  rfl
theorem w64 {x : Int} (h : -9223372036854775808 ≤ x ∧ x ≤ 9223372036854775807) : wrap64 x = x := by unfold wrap64; omega
theorem and_one (x : Int) : Go.bits .and .i64 x 1 = x % 2 := i64_mask 1 1 (by decide) (by decide) x
theorem gOnes_drop (l : List Int) (i : Nat) (h : i < l.length) : gOnes (l.drop i) = if rd l (i : Int) = 1 then gOnes (l.drop (i + 1)) + 1 else 0 := by
  have e : l[i] = rd l (i : Int) := by have := rd_at l i h; rw [List.getElem?_eq_getElem h] at this; exact Option.some.inj this
  rw [List.drop_eq_getElem_cons h, gOnes, e]
theorem ones_l0 (l : List Int) (hl : l.length ≤ 9223372036854775807) : ∀ (d i k : Nat), i + d = l.length → d < k → gamma_Ones.l0 k l l (l.length : Int) (i : Int) = some (((i + gOnes (l.drop i) : Nat) : Int), decide (l[i + gOnes (l.drop i)]? = some 0)) := by
  intro d
  induction d with
  | zero =>
    intro i k hi hk
    obtain ⟨k, rfl⟩ : ∃ m, k = m + 1 := ⟨k - 1, by omega⟩
    simp only [gamma_Ones.l0]
    have e : l.drop i = [] := List.drop_eq_nil_of_le (by omega)
    rw [if_neg (by omega), e]
    simp [gOnes, show i = l.length by omega]
  | succ d ih =>
    intro i k hi hk
    obtain ⟨k, rfl⟩ : ∃ m, k = m + 1 := ⟨k - 1, by omega⟩
    simp only [gamma_Ones.l0]
    have hd := gOnes_drop l i (by omega)
    rw [if_pos (by omega), if_pos (by omega), if_pos (by omega)]
    by_cases h1 : rd l (i : Int) = 1
    · rw [if_pos h1] at hd ⊢
      rw [w64 (by omega), show (i : Int) + 1 = ((i + 1 : Nat) : Int) by omega, ih (i + 1) k (by omega) (by omega), hd, show i + (gOnes (l.drop (i + 1)) + 1) = i + 1 + gOnes (l.drop (i + 1)) by omega]
    · rw [if_neg h1] at hd ⊢
      rw [hd, Nat.add_zero, rd_at l i (by omega)]
      congr 2
      rw [Bool.eq_iff_iff]; simp
theorem ones_f (l : List Int) (hl : l.length ≤ 9223372036854775807) (k : Nat) (hk : l.length < k) : gamma_Ones.f k l = some ((gOnes l : Int), decide (l[gOnes l]? = some 0)) := by
  have := ones_l0 l hl l.length 0 k (by omega) hk
  simpa [gamma_Ones.f] using this
theorem whole_f (l : List Int) (hl : l.length ≤ 9223372036854775807) (h25 : gOnes l ≤ 25) (k : Nat) (hk : l.length < k) : gamma_Whole.f k l = some (decide (l[gOnes l]? = some 0) && decide (l.length = 2 * gOnes l + 1)) := by
  unfold gamma_Whole.f
  rw [ones_f l hl k hk, Option.bind_some]
  simp only
  rw [w64 (x := 2 * _) (by omega), w64 (by omega)]
  cases decide (l[gOnes l]? = some 0)
  · simp
  · rw [if_pos rfl, Bool.true_and]
    congr 1
    rw [Bool.eq_iff_iff]; simp; omega
theorem bits_l0 (v : Nat) : ∀ (j k : Nat) (xs : List Int), j ≤ 60 → j < k → xs.length + j < 1000000 → gamma_Bits.l0 k (v : Int) xs ((j : Int) - 1) = some (xs ++ lowBits v j, 0) := by
  intro j
  induction j with
  | zero =>
    intro k xs h0 hk hx
    obtain ⟨k, rfl⟩ : ∃ m, k = m + 1 := ⟨k - 1, by omega⟩
    simp only [gamma_Bits.l0]
    rw [if_neg (by omega)]
    simp [lowBits]
  | succ j ih =>
    intro k xs h0 hk hx
    obtain ⟨k, rfl⟩ : ∃ m, k = m + 1 := ⟨k - 1, by omega⟩
    simp only [gamma_Bits.l0]
    have e : shr .i64 (v : Int) (((j + 1 : Nat) : Int) - 1) = ((v / 2 ^ j : Nat) : Int) := by
      unfold shr
      rw [show ((((j + 1 : Nat) : Int) - 1).toNat) = j by omega, Nat.min_eq_left (by show j ≤ 64; omega)]
      simp
    rw [if_pos (by omega), if_pos (by omega), if_pos (by omega), e, and_one, w64 (by omega), show ((j + 1 : Nat) : Int) - 1 - 1 = (j : Int) - 1 by omega, ih k _ (by omega) (by omega) (by simp; omega)]
    simp [lowBits]
theorem bitLen_log (v : Nat) (h0 : 0 < v) (h : v < 2 ^ 64) : Lib.bitLen v = Nat.log2 v + 1 := by
  have hs := Lib.bitLen_shift (Nat.log2 v) v (log2_bd v h0).1 h
  obtain ⟨h1, h2⟩ := log2_bd v h0
  rw [Nat.pow_succ] at h2
  have : v / 2 ^ Nat.log2 v = 1 := Nat.div_eq_of_lt_le (by omega) (by omega)
  rw [hs, this]
  rfl
theorem bits_f (u : Nat) (h : u ≤ 33554432) (k : Nat) (hk : 40 < k) : gamma_Bits.f k (u : Int) = some (gBits u, 0) := by
  obtain ⟨k, rfl⟩ : ∃ m, k = m + 1 := ⟨k - 1, by omega⟩
  have hl : Nat.log2 (u + 1) ≤ 25 := log2_le (by omega)
  unfold gamma_Bits.f
  rw [if_neg (by omega), show decide ((u : Int) > 33554432) = false by simp; omega]
  simp only [gamma_Bits.j0]
  rw [if_neg (by simp), w64 (by omega), show IntKind.u64.wrap ((u : Int) + 1) = ((u + 1 : Nat) : Int) by rw [IntKind.wrap_u64]; omega]
  have e : bits_Len.f ((u + 1 : Nat) : Int) = some ((Nat.log2 (u + 1) + 1 : Nat) : Int) := by
    unfold bits_Len.f
    rw [if_pos (by omega), Int.toNat_natCast, bitLen_log _ (by omega) (by omega)]
  rw [e, Option.bind_some, w64 (x := ((Nat.log2 (u + 1) + 1 : Nat) : Int) - 1) (by omega), show ((Nat.log2 (u + 1) + 1 : Nat) : Int) - 1 = (Nat.log2 (u + 1) : Int) by omega]
  have e2 : slices_Repeat_int_int.f [1] (Nat.log2 (u + 1) : Int) = some (List.replicate (Nat.log2 (u + 1)) 1) := by
    unfold slices_Repeat_int_int.f
    rw [if_pos ⟨rfl, by omega, by omega⟩, Int.toNat_natCast]
  rw [e2, Option.bind_some, if_pos (by simp; omega), w64 (by omega), show (u : Int) + 1 = ((u + 1 : Nat) : Int) by omega, bits_l0 (u + 1) _ _ _ (by omega) (by omega) (by simp; omega)]
  simp [gBits]
theorem bits_no (u : Int) (h : u < 0 ∨ 33554432 < u) (k : Nat) (hk : 0 < k) : gamma_Bits.f k u = some ([], 1100) := by
  obtain ⟨k, rfl⟩ : ∃ m, k = m + 1 := ⟨k - 1, by omega⟩
  unfold gamma_Bits.f
  by_cases h0 : u < 0
  · rw [if_pos h0]; simp [gamma_Bits.j0]
  · rw [if_neg h0, show decide (u > 33554432) = true by simp; omega]; simp [gamma_Bits.j0]
theorem equal_l0 (l m : List Int) (hl : l.length ≤ 9223372036854775806) (hm : l.length = m.length) : ∀ (d i k : Nat), i + d = l.length → d < k → slices_Equal_int_int.l0 k l m (l.length : Int) (i : Int) = some (decide (l.drop i = m.drop i)) := by
  intro d
  induction d with
  | zero =>
    intro i k hi hk
    obtain ⟨k, rfl⟩ : ∃ m, k = m + 1 := ⟨k - 1, by omega⟩
    simp only [slices_Equal_int_int.l0]
    rw [if_neg (by omega), List.drop_eq_nil_of_le (by omega), List.drop_eq_nil_of_le (by omega)]
    simp
  | succ d ih =>
    intro i k hi hk
    obtain ⟨k, rfl⟩ : ∃ m, k = m + 1 := ⟨k - 1, by omega⟩
    simp only [slices_Equal_int_int.l0]
    have e1 : l[i]'(by omega) = rd l (i : Int) := by have := rd_at l i (by omega); rw [List.getElem?_eq_getElem (by omega)] at this; exact Option.some.inj this
    have e2 : m[i]'(by omega) = rd m (i : Int) := by have := rd_at m i (by omega); rw [List.getElem?_eq_getElem (by omega)] at this; exact Option.some.inj this
    rw [if_pos (by omega), if_pos (by omega), if_pos (by omega), if_pos (by omega), List.drop_eq_getElem_cons (show i < l.length by omega), List.drop_eq_getElem_cons (show i < m.length by omega), e1, e2]
    by_cases h1 : rd l (i : Int) = rd m (i : Int)
    · rw [if_pos h1, w64 (by omega), show (i : Int) + 1 = ((i + 1 : Nat) : Int) by omega, ih (i + 1) k (by omega) (by omega), h1]
      simp
    · rw [if_neg h1]; simp [h1]
theorem equal_f (l m : List Int) (hl : l.length ≤ 9223372036854775806) (k : Nat) (hk : l.length < k) : slices_Equal_int_int.f k l m = some (decide (l = m)) := by
  unfold slices_Equal_int_int.f
  by_cases h : (l.length : Int) = (m.length : Int)
  · rw [if_pos h, show (0 : Int) = ((0 : Nat) : Int) from rfl, equal_l0 l m hl (by omega) l.length 0 k (by omega) hk]; simp
  · rw [if_neg h]; simp; rintro rfl; exact h rfl
def gamma_Number.f (l0 : List Int) : Option (Int × Int) := some (if gOk l0 then ((gNum l0 : Nat) : Int) else 0, if gOk l0 then 0 else 1100)
theorem or_low (V x : Int) (h0 : 0 ≤ V) (h1 : V ≤ 1000000000) (hx : 0 ≤ x) (hx1 : x ≤ 1) : Go.bits .or .i64 (V * 2) x = 2 * V + x := by
  obtain ⟨v, rfl⟩ := Int.eq_ofNat_of_zero_le h0
  obtain ⟨y, rfl⟩ := Int.eq_ofNat_of_zero_le hx
  have key : (BitVec.ofInt 64 ((v : Int) * 2) ||| BitVec.ofInt 64 (y : Int)).toNat = 2 * v + y := by
    rw [BitVec.toNat_or, BitVec.toNat_ofInt, BitVec.toNat_ofInt, show (((v : Int) * 2) % ((2 ^ 64 : Nat) : Int)).toNat = v <<< 1 by rw [Nat.shiftLeft_eq]; omega, show ((y : Int) % ((2 ^ 64 : Nat) : Int)).toNat = y by omega, ← Nat.shiftLeft_add_eq_or_of_lt (show y < 2 ^ 1 by omega), Nat.shiftLeft_eq]
    omega
  show IntKind.i64.wrap ((BitVec.ofInt 64 ((v : Int) * 2) ||| BitVec.ofInt 64 (y : Int)).toNat : Nat) = _
  rw [key, IntWalk.i64_in _ (by omega)]
  omega
theorem gVal_snoc (r : List Int) (b : Int) : ∀ v, gVal v (r ++ [b]) = 2 * gVal v r + (b % 2).toNat := by
  induction r with
  | nil => intro v; rfl
  | cons c r ih => intro v; exact ih _
theorem gVal_take (l : List Int) (j : Nat) (h : j < l.length) : gVal 1 (l.take (j + 1)) = 2 * gVal 1 (l.take j) + (rd l (j : Int) % 2).toNat := by
  have e : l[j] = rd l (j : Int) := by have := rd_at l j h; rw [List.getElem?_eq_getElem h] at this; exact Option.some.inj this
  rw [List.take_succ_eq_append_getElem h, gVal_snoc, e]
theorem gOk_short {l : List Int} (h : 25 < gOnes l) : gOk l = false := by unfold gOk; rw [show decide (gOnes l ≤ 25) = false by simp; omega]; rfl
theorem gOk_whole {l : List Int} (h : (decide (l[gOnes l]? = some 0) && decide (l.length = 2 * gOnes l + 1)) = false) : gOk l = false := by
  rcases Bool.and_eq_false_iff.1 h with h | h <;> simp [gOk, h]
theorem gOk_rest {l : List Int} (h1 : gOnes l ≤ 25) (h2 : l[gOnes l]? = some 0) (h3 : l.length = 2 * gOnes l + 1) : gOk l = ((l.drop (gOnes l + 1)).all isBit && decide (gVal 1 (l.drop (gOnes l + 1)) ≤ 33554433)) := by
  unfold gOk
  rw [show decide (gOnes l ≤ 25) = true by simp [h1], show decide (l[gOnes l]? = some 0) = true by simp [h2], show decide (l.length = 2 * gOnes l + 1) = true by simpa using h3]
  rfl
theorem number_no (A0 : Option Addr) (c0 : Nat) (l0 : List Int) (w : World) (hr0 : Kd.C (Kd.int .i64) w A0 l0.length l0) (hc0 : l0.length ≤ c0) (h : 25 < gOnes l0) :
    Calls Tryz.prog 94 #[.slice A0 l0.length c0] w fun e w' => e = .returned (.tuple #[.int .i64 0, .int .i64 1100]) ∧ Below w.heap.size w w' := by
  have hl := hr0.2.1
  obtain ⟨n, hn⟩ : ∃ n, gOnes l0 = n := ⟨_, rfl⟩
  have ho := ones_f l0 hl (l0.length + 1) (by omega)
  rw [hn] at ho h
  have HO := Lib.hid ho
  have HR := Lib.hid hr0
  clear hn ho hr0
  go_enter Tryz.func94, Tryz.ntmps94
  go_wp2_with fail
  refine (gamma_Ones.calls _ A0 c0 l0 _ _ _ HR.out hc0 HO.out).mono ?_
  rintro e w1 ⟨rfl, ⟨nd, rfl⟩⟩
  have hn1 : (25 : Int) < n := by omega
  go_wp2
  go_ret2
  exact ⟨rfl, below_drewN (Below.refl _ _) _⟩
theorem number_half (A0 : Option Addr) (c0 : Nat) (l0 : List Int) (w : World) (hr0 : Kd.C (Kd.int .i64) w A0 l0.length l0) (hc0 : l0.length ≤ c0) (h : gOnes l0 ≤ 25) (hw : (decide (l0[gOnes l0]? = some 0) && decide (l0.length = 2 * gOnes l0 + 1)) = false) :
    Calls Tryz.prog 94 #[.slice A0 l0.length c0] w fun e w' => e = .returned (.tuple #[.int .i64 0, .int .i64 1100]) ∧ Below w.heap.size w w' := by
  have hl := hr0.2.1
  have ho := ones_f l0 hl (l0.length + 1) (by omega)
  have hwh := whole_f l0 hl h (l0.length + 1) (by omega)
  rw [hw] at hwh
  obtain ⟨n, hn⟩ : ∃ n, gOnes l0 = n := ⟨_, rfl⟩
  rw [hn] at ho h
  have HO := Lib.hid ho
  have HW := Lib.hid hwh
  have HR := Lib.hid hr0
  clear hn ho hr0 hw hwh
  go_enter Tryz.func94, Tryz.ntmps94
  go_wp2_with fail
  refine (gamma_Ones.calls _ A0 c0 l0 _ _ _ HR.out hc0 HO.out).mono ?_
  rintro e w1 ⟨rfl, ⟨nd, rfl⟩⟩
  have hn1 : (n : Int) ≤ 25 := by omega
  go_wp2_with fail
  refine (gamma_Whole.calls _ A0 c0 l0 _ _ (Kd.C_below HR.out (below_drewN (Below.refl _ _) _)) hc0 HW.out).mono ?_
  rintro e w1 ⟨rfl, ⟨nd2, rfl⟩⟩
  go_wp2
  go_ret2
  exact ⟨rfl, below_drewN (Below.refl _ _) _⟩
def numV (l : List Int) : Value := .tuple #[.int .i64 (if gOk l then ((gNum l : Nat) : Int) else 0), .int .i64 (if gOk l then 0 else 1100)]
theorem numV_no {l : List Int} (h : gOk l = false) : numV l = .tuple #[.int .i64 0, .int .i64 1100] := by unfold numV; rw [h]; rfl
theorem numV_yes {l : List Int} {v : Int} (h : gOk l = true) (hv : v = ((gNum l : Nat) : Int)) : numV l = .tuple #[.int .i64 v, .int .i64 0] := by unfold numV; rw [h, hv]; rfl
set_option maxHeartbeats 1000000 in
set_option maxRecDepth 100000 in
theorem number_whole (A0 : Option Addr) (c0 : Nat) (l0 : List Int) (w : World) (hr0 : Kd.C (Kd.int .i64) w A0 l0.length l0) (hc0 : l0.length ≤ c0) (h : gOnes l0 ≤ 25) (h2 : l0[gOnes l0]? = some 0) (h3 : l0.length = 2 * gOnes l0 + 1) :
    Calls Tryz.prog 94 #[.slice A0 l0.length c0] w fun e w' => e = .returned (numV l0) ∧ Below w.heap.size w w' := by
  have hl := hr0.2.1
  have hrest := gOk_rest h h2 h3
  have hsame := gBits_same h2 h3
  have ho := ones_f l0 hl (l0.length + 1) (by omega)
  have hwh := whole_f l0 hl h (l0.length + 1) (by omega)
  rw [h2, show decide (l0.length = 2 * gOnes l0 + 1) = true by simpa using h3] at hwh
  rw [h2] at ho
  have hg : gNum l0 = gVal 1 (l0.drop (gOnes l0 + 1)) - 1 := rfl
  obtain ⟨n, hn⟩ : ∃ n, gOnes l0 = n := ⟨_, rfl⟩
  obtain ⟨i0, hi0, -, hsz0, -⟩ := info_parts int_info
  obtain ⟨A', hcut, hred⟩ := print_cut (P := Tryz.prog) 22 3 .i64 Tryz.underlying22 hi0 hsz0 A0 l0.length c0 (n + 1) (by omega)
  have hr1 : Kd.C (Kd.int .i64) w A' (l0.length - (n + 1)) (l0.drop (n + 1)) := Kd.C_of_reads (d := (0 : Int)) (hred w .i64 l0 hc0 (Kd.reads_of_C (d := (0 : Int)) hr0))
  rw [hn] at ho h hrest hsame hg h3
  obtain ⟨L, hL⟩ : ∃ L, l0.length - (n + 1) = L := ⟨_, rfl⟩
  obtain ⟨rest, hrs⟩ : ∃ rest, l0.drop (n + 1) = rest := ⟨_, rfl⟩
  have hLr : rest.length = L := by rw [← hrs, List.length_drop, hL]
  have hLn : L = n := by omega
  have hln : l0.length = 2 * n + 1 := h3
  rw [hrs] at hrest hsame hg hr1
  rw [hL] at hcut hr1
  have HO := Lib.hid ho
  have HW := Lib.hid hwh
  have HR := Lib.hid hr0
  have HR1 := Lib.hid hr1
  have HL := Lib.hid hLr
  have H3 := Lib.hid h3
  have HS := Lib.hid hsame
  have HRS := Lib.hid hrest
  have HG := Lib.hid hg
  have c1 := hcut
  rw [show ((n + 1 : Nat) : Int) = (n : Int) + 1 by omega] at c1
  obtain ⟨len, hlen⟩ : ∃ len, l0.length = len := ⟨_, rfl⟩
  have hlb : len ≤ 51 := by omega
  rw [hlen] at c1 hl ⊢
  have hlc : len ≤ c0 := by omega
  have HLEN := Lib.hid hlen
  clear hn ho hr0 hwh hr1 hred hcut h3 h2 hL hLr hrs hsame hrest hg hlen hln hc0
  go_enter Tryz.func94, Tryz.ntmps94
  go_wp2_with fail
  have hc0 : l0.length ≤ c0 := by rw [HLEN.out]; exact hlc
  rw [← HLEN.out]
  refine (gamma_Ones.calls _ A0 c0 l0 _ _ _ HR.out hc0 HO.out).mono ?_
  rintro e w1 ⟨rfl, ⟨nd, rfl⟩⟩
  rw [HLEN.out]
  clear hc0
  have hn1 : (n : Int) ≤ 25 := by omega
  have hn0 : (0 : Int) ≤ n := by omega
  go_wp2_with fail
  have hc0 : l0.length ≤ c0 := by rw [HLEN.out]; exact hlc
  rw [← HLEN.out]
  refine (gamma_Whole.calls _ A0 c0 l0 _ _ (Kd.C_below HR.out (below_drewN (Below.refl _ _) _)) hc0 HW.out).mono ?_
  rintro e w1 ⟨rfl, ⟨nd2, rfl⟩⟩
  rw [HLEN.out]
  clear hc0
  go_wp2
  have HB0 : Hid (Below w.heap.size w (w.drewN (nd + nd2))) := below_drewN (Below.refl _ _) _
  generalize w.drewN (nd + nd2) = W at HB0 ⊢
  go_loop [6, 28] (fun v i => ∃ j : Nat, i = .int .i64 j ∧ j ≤ L ∧ ∃ V : Int, v = .int .i64 V ∧ 0 ≤ V ∧ V ≤ 67108864 ∧ Hid (V = ((gVal 1 (rest.take j) : Nat) : Int))) (fun _ i => L - (intOf i).toNat)
  case atStart => exact ⟨0, rfl, by omega, 1, rfl, by omega, by omega, by show (1 : Int) = _; simp [gVal]⟩
  case round =>
    obtain ⟨j, rfl, hj, V, rfl, hV0, hV1, HV⟩ := hrel
    by_cases hlt : j < L
    · obtain ⟨ad, rfl, hx⟩ := Kd.at_int HR1.out (j : Int) (by omega) (by omega)
      obtain ⟨b, hb⟩ : ∃ b, rd rest (j : Int) = b := ⟨_, rfl⟩
      rw [hb, Int.toNat_natCast] at hx
      have hx := (HB0.out.cell (World.block_lt_of_cell? w _ hx)).trans hx
      have hstep := gVal_take rest j (by rw [HL.out]; exact hlt)
      have hrng := (gVal_range (rest.take (j + 1))).2
      rw [List.length_take, HL.out, Nat.min_eq_left (by omega)] at hrng
      have hp2 : 2 ^ (j + 1 + 1) ≤ 2 ^ 26 := Nat.pow_le_pow_right (by decide) (by omega)
      rw [hb] at hstep
      have e1 := and_one b
      obtain ⟨x, hxb⟩ : ∃ x, Go.bits .and .i64 b 1 = x := ⟨_, rfl⟩
      rw [hxb] at e1
      have x0 : 0 ≤ x := by omega
      have x1 : x ≤ 1 := by omega
      have e2 := or_low V x hV0 (by omega) x0 x1
      have hn' : 2 * V + x ≤ 67108864 := by have := HV.out; omega
      have HN : Hid (2 * V + x = ((gVal 1 (rest.take (j + 1)) : Nat) : Int)) := by show _ = _; have := HV.out; omega
      clear hstep hrng hp2 e1 hb HV
      go_wp2
      go_round
      case rel => exact ⟨j + 1, by go_num, by omega, 2 * V + x, rfl, by omega, hn', HN⟩
      case measure => simp [intOf]; omega
    · obtain rfl : j = L := by omega
      have hV : V = ((gVal 1 rest : Nat) : Int) := by have := HV.out; rwa [List.take_of_length_le (by rw [HL.out]; omega)] at this
      have hp := (gVal_range rest).1
      have hpp := Nat.two_pow_pos rest.length
      obtain ⟨G, hG⟩ : ∃ G, gVal 1 rest = G := ⟨_, rfl⟩
      rw [hG] at hV hp
      obtain ⟨u, hu⟩ : ∃ u, G = u + 1 := ⟨G - 1, by omega⟩
      have hgn : gNum l0 = u := by rw [HG.out, hG]; omega
      have hok := HRS.out
      rw [hG] at hok
      have hsm := HS.out
      rw [hgn] at hsm
      have HGN := Lib.hid hgn
      subst hu
      have HV2 := Lib.hid (show V - 1 = (u : Int) by omega)
      clear hV hp hpp hG HV
      rcases Nat.lt_or_ge 33554432 u with hbig | hbig
      · have hno : gOk l0 = false := by rw [hok, show decide (u + 1 ≤ 33554433) = false by simp; omega, Bool.and_false]
        have HD := Lib.hid (numV_no hno)
        have hb := bits_no (u : Int) (.inr (by omega)) 1 (by decide)
        rw [← HV2.out] at hb
        have HBI := Lib.hid hb
        clear hb hno hok hsm hgn
        go_wp2_with fail
        refine (gamma_Bits.calls 1 (V - 1) _ _ _ HBI.out).mono ?_
        rintro e w1 ⟨v, rfl, hR, hb⟩
        have HB1 := Lib.hid (below_next HB0.out hb)
        go_wp2
        go_ret2
        exact ⟨by rw [HD.out]; rfl, HB1.out⟩
      · have hb := bits_f u hbig 41 (by decide)
        rw [← HV2.out] at hb
        have HBI := Lib.hid hb
        have heq := equal_f (gBits u) l0 (by rw [gBits_length]; have := log2_le (n := 25) (v := u + 1) (by omega); omega) (l0.length + (gBits u).length + 1) (by omega)
        have hd : gOk l0 = decide (gBits u = l0) := by
          rw [hok, show decide (u + 1 ≤ 33554433) = true by simp; omega, Bool.and_true, Bool.eq_iff_iff, ← hsm]
          simp
        obtain ⟨B, hB⟩ : ∃ B, decide (gBits u = l0) = B := ⟨_, rfl⟩
        rw [hB] at hd heq
        have HEQ := Lib.hid heq
        clear hb heq hB hok hsm hgn
        cases B
        · have HD := Lib.hid (numV_no hd)
          clear hd
          go_wp2_with fail
          refine (gamma_Bits.calls 41 (V - 1) _ _ _ HBI.out).mono ?_
          rintro e w1 ⟨v, rfl, hR, hb⟩
          have HB1 := Lib.hid (below_next HB0.out hb)
          obtain ⟨Av, cv, rfl, hcv, hCv⟩ := Kd.R_reads hR
          have HCV := Lib.hid hCv
          clear hR hb hCv
          go_wp2_with fail
          have hc0 : l0.length ≤ c0 := by rw [HLEN.out]; exact hlc
          rw [← HLEN.out]
          refine (slices_Equal_int_int.calls _ Av cv (gBits u) A0 c0 l0 _ _ HCV.out hcv (Kd.C_below HR.out HB1.out) hc0 HEQ.out).mono ?_
          rintro e w2 ⟨rfl, ⟨nd3, rfl⟩⟩
          rw [HLEN.out]
          go_wp2
          go_ret2
          refine ⟨?_, below_drewN HB1.out _⟩
          rw [HD.out]; rfl
        · have HD := Lib.hid (numV_yes (v := V - 1) hd (by rw [HGN.out]; exact HV2.out))
          clear hd
          go_wp2_with fail
          refine (gamma_Bits.calls 41 (V - 1) _ _ _ HBI.out).mono ?_
          rintro e w1 ⟨v, rfl, hR, hb⟩
          have HB1 := Lib.hid (below_next HB0.out hb)
          obtain ⟨Av, cv, rfl, hcv, hCv⟩ := Kd.R_reads hR
          have HCV := Lib.hid hCv
          clear hR hb hCv
          go_wp2_with fail
          have hc0 : l0.length ≤ c0 := by rw [HLEN.out]; exact hlc
          rw [← HLEN.out]
          refine (slices_Equal_int_int.calls _ Av cv (gBits u) A0 c0 l0 _ _ HCV.out hcv (Kd.C_below HR.out HB1.out) hc0 HEQ.out).mono ?_
          rintro e w2 ⟨rfl, ⟨nd3, rfl⟩⟩
          rw [HLEN.out]
          go_wp2
          go_ret2
          refine ⟨?_, below_drewN HB1.out _⟩
          rw [HD.out]; rfl
theorem gamma_Number.calls (A0 : Option Addr) (c0 : Nat) (l0 : List Int) (r1 : Int) (r2 : Int) (w : World) (hr0 : Kd.C (Kd.int .i64) w A0 l0.length l0) (hc0 : l0.length ≤ c0) (h : gamma_Number.f l0 = some (r1, r2)) :
    Calls Tryz.prog 94 #[.slice A0 l0.length c0] w fun e w' => e = .returned (.tuple #[.int .i64 r1, .int .i64 r2]) ∧ Below w.heap.size w w' := by
  unfold gamma_Number.f at h
  simp only [Option.some.injEq, Prod.mk.injEq] at h
  obtain ⟨rfl, rfl⟩ := h
  rcases Nat.lt_or_ge 25 (gOnes l0) with h1 | h1
  · rw [gOk_short h1]; exact number_no A0 c0 l0 w hr0 hc0 h1
  · cases hw : (decide (l0[gOnes l0]? = some 0) && decide (l0.length = 2 * gOnes l0 + 1))
    · rw [gOk_whole hw]; exact number_half A0 c0 l0 w hr0 hc0 h1 hw
    · simp only [Bool.and_eq_true, decide_eq_true_eq] at hw
      exact number_whole A0 c0 l0 w hr0 hc0 h1 hw.1 hw.2
end
def fold_Number.f (a0 : Int) : Option (Bool) := if a0 ≥ (-16777216) then (some (decide (a0 ≤ 16777216))) else (some false)
set_option maxHeartbeats 8000000 in
set_option maxRecDepth 100000 in
theorem fold_Number.calls (a0 : Int) (r : Bool) (w : World) (h : fold_Number.f a0 = some r) :
    Calls Tryz.prog 118 #[.int .i64 a0] w fun e w' => e = .returned (.bool r) ∧ Drawn0 w w' := by
  have H : (if a0 ≥ (-16777216) then (some (decide (a0 ≤ 16777216))) else (some false)) = some r := h
  clear h
  by_cases c2 : a0 ≥ (-16777216)
  · rw [if_pos c2] at H
    have c2b0 : decide ((-16777216) ≤ a0) = true := decide_eq_true c2
    clear c2
    obtain rfl := Option.some.inj H
    go_enter Tryz.func118, Tryz.ntmps118
    go_wp2
    go_ret
    exact ⟨by first | rfl | (simp; done) | (simp [*]; done), by repeat (first | exact Drawn0.refl _ | apply Drawn0.step)⟩
  · rw [if_neg c2] at H
    have c2b0 : decide ((-16777216) ≤ a0) = false := decide_eq_false c2
    clear c2
    obtain rfl := Option.some.inj H
    go_enter Tryz.func118, Tryz.ntmps118
    go_wp2
    go_ret
    exact ⟨by first | rfl | (simp; done) | (simp [*]; done), by repeat (first | exact Drawn0.refl _ | apply Drawn0.step)⟩
def fold_Put.f (a0 : Int) : Option (Int × Int) := (fold_Number.f a0).bind fun t119 => (if t119 = true then (if a0 < 0 then (some (wrap64 ((wrap64 ((-2) * a0)) - 1), 0)) else (some (wrap64 (2 * a0), 0))) else (some (0, 1000)))
set_option maxHeartbeats 8000000 in
set_option maxRecDepth 100000 in
theorem fold_Put.calls (a0 : Int) (r1 : Int) (r2 : Int) (w : World) (h : fold_Put.f a0 = some (r1, r2)) :
    Calls Tryz.prog 73 #[.int .i64 a0] w fun e w' => e = .returned (.tuple #[.int .i64 r1, .int .i64 r2]) ∧ Drawn0 w w' := by
  have H : ((fold_Number.f a0).bind fun t119 => (if t119 = true then (if a0 < 0 then (some (wrap64 ((wrap64 ((-2) * a0)) - 1), 0)) else (some (wrap64 (2 * a0), 0))) else (some (0, 1000)))) = some (r1, r2) := h
  clear h
  replace H := Option.bind_eq_some_iff.mp H
  obtain ⟨t119, A20, H⟩ := H
  replace H : (if t119 = true then (if a0 < 0 then (some (wrap64 ((wrap64 ((-2) * a0)) - 1), 0)) else (some (wrap64 (2 * a0), 0))) else (some (0, 1000))) = some (r1, r2) := H
  have A2 := Aside0.mk A20
  clear A20
  by_cases c3 : t119 = true
  · subst c3
    have H1 : (if a0 < 0 then (some (wrap64 ((wrap64 ((-2) * a0)) - 1), 0)) else (some (wrap64 (2 * a0), 0))) = some (r1, r2) := by rw [if_pos rfl] at H; exact H
    clear H
    have H := H1
    clear H1
    by_cases c4 : a0 < 0
    · rw [if_pos c4] at H
      have c4b0 : decide (a0 < 0) = true := decide_eq_true c4
      clear c4
      simp only [Option.some.injEq, Prod.mk.injEq] at H
      obtain ⟨rfl, rfl⟩ := H
      go_enter Tryz.func73, Tryz.ntmps73
      go_wp2_with (first | ((with_reducible refine gate_callee (f := 118) rfl ?_); refine goesL_ (some 6) rfl rfl Tryz.func118 (by kernel_rfl) rfl #[.int .i64 a0] rfl (by (try simp only [List.map_toArray, List.map_cons, List.map_nil]); first | done | rfl | (simp only [List.length_drop, List.length_take]; rfl)) ?_; (with_reducible refine (fold_Number.calls a0 true _ A2.out).mono ?_); rintro e w' ⟨rfl, ⟨nd, rfl⟩⟩; refine ⟨_, rfl, ?_⟩))
      go_ret2
      exact ⟨by first | rfl | (simp; done) | (simp [*]; done), by repeat (first | exact Drawn0.refl _ | apply Drawn0.step)⟩
    · rw [if_neg c4] at H
      have c4b0 : decide (a0 < 0) = false := decide_eq_false c4
      clear c4
      simp only [Option.some.injEq, Prod.mk.injEq] at H
      obtain ⟨rfl, rfl⟩ := H
      go_enter Tryz.func73, Tryz.ntmps73
      go_wp2_with (first | ((with_reducible refine gate_callee (f := 118) rfl ?_); refine goesL_ (some 6) rfl rfl Tryz.func118 (by kernel_rfl) rfl #[.int .i64 a0] rfl (by (try simp only [List.map_toArray, List.map_cons, List.map_nil]); first | done | rfl | (simp only [List.length_drop, List.length_take]; rfl)) ?_; (with_reducible refine (fold_Number.calls a0 true _ A2.out).mono ?_); rintro e w' ⟨rfl, ⟨nd, rfl⟩⟩; refine ⟨_, rfl, ?_⟩))
      go_ret2
      exact ⟨by first | rfl | (simp; done) | (simp [*]; done), by repeat (first | exact Drawn0.refl _ | apply Drawn0.step)⟩
  · replace c3 := Bool.eq_false_iff.mpr c3
    subst c3
    have H1 : (some (0, 1000)) = some (r1, r2) := by rw [if_neg (show ¬ (false = true) by decide)] at H; exact H
    clear H
    have H := H1
    clear H1
    simp only [Option.some.injEq, Prod.mk.injEq] at H
    obtain ⟨rfl, rfl⟩ := H
    go_enter Tryz.func73, Tryz.ntmps73
    go_wp2_with (first | ((with_reducible refine gate_callee (f := 118) rfl ?_); refine goesL_ (some 6) rfl rfl Tryz.func118 (by kernel_rfl) rfl #[.int .i64 a0] rfl (by (try simp only [List.map_toArray, List.map_cons, List.map_nil]); first | done | rfl | (simp only [List.length_drop, List.length_take]; rfl)) ?_; (with_reducible refine (fold_Number.calls a0 false _ A2.out).mono ?_); rintro e w' ⟨rfl, ⟨nd, rfl⟩⟩; refine ⟨_, rfl, ?_⟩))
    go_ret2
    exact ⟨by first | rfl | (simp; done) | (simp [*]; done), by repeat (first | exact Drawn0.refl _ | apply Drawn0.step)⟩
def fold_Get.j0 : Nat → Int → Bool → Option (Int × Int)
  | 0, _, _ => none
  | k + 1, x0, x9 => if x9 = true then (some (0, 1000)) else (if (Int.tmod x0 2) = 1 then (some (wrap64 ((wrap64 (-(wrap64 (Int.tdiv x0 2)))) - 1), 0)) else (some (wrap64 (Int.tdiv x0 2), 0)))
def fold_Get.f (k : Nat) (a0 : Int) : Option (Int × Int) := if a0 < 0 then (fold_Get.j0 k a0 true) else (fold_Get.j0 k a0 (decide (a0 > 33554432)))
theorem fold_Get.mono_l : ∀ k, (∀ y0 y1, LeO (fold_Get.j0 k y0 y1) (fold_Get.j0 (k + 1) y0 y1))
  | 0 => fun _ _ r h => by simp [fold_Get.j0] at h
  | k + 1 => by
    have ih0 := fold_Get.mono_l k
    · intro y0 y1
      unfold fold_Get.j0
      repeat' first
      | (with_reducible exact ih0 _ _)
      | (with_reducible exact LeO.refl _)
      | (with_reducible exact LeO.none _)
      | (with_reducible refine LeO.ite ?_ ?_)
      | (with_reducible refine LeO.bind ?_ (fun _ => ?_))
      | exact ih0 _ _
      | exact LeO.none _
      | refine LeO.ite ?_ ?_
      | refine LeO.bind ?_ (fun _ => ?_)
theorem fold_Get.mono : ∀ a0 k, LeO (fold_Get.f k a0) (fold_Get.f (k + 1) a0) := by
  intro a0 k
  have ih0 := fold_Get.mono_l k
  unfold fold_Get.f
  repeat' first
      | (with_reducible exact ih0 _ _)
      | (with_reducible exact LeO.refl _)
      | (with_reducible exact LeO.none _)
      | (with_reducible refine LeO.ite ?_ ?_)
      | (with_reducible refine LeO.bind ?_ (fun _ => ?_))
      | exact ih0 _ _
      | exact LeO.none _
      | refine LeO.ite ?_ ?_
      | refine LeO.bind ?_ (fun _ => ?_)
set_option maxHeartbeats 8000000 in
set_option maxRecDepth 100000 in
theorem fold_Get.calls (k : Nat) (a0 : Int) (r1 : Int) (r2 : Int) (w : World) (h : fold_Get.f k a0 = some (r1, r2)) :
    Calls Tryz.prog 95 #[.int .i64 a0] w fun e w' => e = .returned (.tuple #[.int .i64 r1, .int .i64 r2]) ∧ Drawn0 w w' := by
  have H : (if a0 < 0 then (fold_Get.j0 k a0 true) else (fold_Get.j0 k a0 (decide (a0 > 33554432)))) = some (r1, r2) := h
  clear h
  have HC2 := Aside0.mk H
  clear H
  go_enter Tryz.func95, Tryz.ntmps95
  go_upto_region 1 with (fail)
  go_cut [9] (fun v9 wc => ∃ (kq : Nat) (x9_1 : Bool), v9 = .bool x9_1 ∧ Aside0 (fold_Get.j0 kq a0 x9_1 = some (r1, r2)) ∧ Aside0 (kq ≤ k) ∧ Drawn0 w wc)
  case first =>
    have H := HC2.out
    clear HC2
    by_cases c3 : a0 < 0
    · rw [if_pos c3] at H
      have c3b0 : decide (a0 < 0) = true := decide_eq_true c3
      clear c3
      (first | rw [c3b0] | (simp only [i64_w, i32_w]; rw [c3b0]) | skip)
      have H' := Aside0.mk H
      clear H
      go_wp2
      go_meet
      case rel => exact ⟨_, (true), (by first | rfl | (simp; done) | (simp [*]; done)), H', ⟨by first | omega | exact Nat.le_refl _⟩, by repeat (first | exact Drawn0.refl _ | apply Drawn0.step)⟩
    · rw [if_neg c3] at H
      have c3b0 : decide (a0 < 0) = false := decide_eq_false c3
      clear c3
      (first | rw [c3b0] | (simp only [i64_w, i32_w]; rw [c3b0]) | skip)
      have H' := Aside0.mk H
      clear H
      go_wp2
      go_meet
      case rel => exact ⟨_, (decide (a0 > 33554432)), (by first | rfl | (simp; done) | (simp [*]; done)), H', ⟨by first | omega | exact Nat.le_refl _⟩, by repeat (first | exact Drawn0.refl _ | apply Drawn0.step)⟩
  case rest =>
    clear HC2
    try clear p2
    try clear c3
    try clear c3b0
    obtain ⟨kq, x9_1, rfl, HA, HJ1, ⟨mc1, rfl⟩⟩ := hcut
    cases kq with
    | zero => exact absurd HA.out (by simp [fold_Get.j0])
    | succ kj1 =>
      have H := HA.out
      clear HA
      simp only [fold_Get.j0] at H
      by_cases c4 : x9_1 = true
      · subst c4
        have H1 : (some (0, 1000)) = some (r1, r2) := by rw [if_pos rfl] at H; exact H
        clear H
        have H := H1
        clear H1
        simp only [Option.some.injEq, Prod.mk.injEq] at H
        obtain ⟨rfl, rfl⟩ := H
        go_wp2
        go_ret2
        exact ⟨by first | rfl | (simp; done) | (simp [*]; done), by repeat (first | exact Drawn0.refl _ | apply Drawn0.step)⟩
      · replace c4 := Bool.eq_false_iff.mpr c4
        subst c4
        have H1 : (if (Int.tmod a0 2) = 1 then (some (wrap64 ((wrap64 (-(wrap64 (Int.tdiv a0 2)))) - 1), 0)) else (some (wrap64 (Int.tdiv a0 2), 0))) = some (r1, r2) := by rw [if_neg (show ¬ (false = true) by decide)] at H; exact H
        clear H
        have H := H1
        clear H1
        by_cases c5 : (Int.tmod a0 2) = 1
        · rw [if_pos c5] at H
          have c5b0 : ((Int.tmod a0 2) == 1) = true := beq_iff_eq.mpr c5
          have c5b1 : ((Int.tmod a0 2) != 1) = false := bne_eq_false_iff_eq.mpr c5
          clear c5
          simp only [Option.some.injEq, Prod.mk.injEq] at H
          obtain ⟨rfl, rfl⟩ := H
          go_wp2
          go_ret2
          exact ⟨by first | rfl | (simp; done) | (simp [*]; done), by repeat (first | exact Drawn0.refl _ | apply Drawn0.step)⟩
        · rw [if_neg c5] at H
          have c5b0 : ((Int.tmod a0 2) == 1) = false := beq_eq_false_iff_ne.mpr c5
          have c5b1 : ((Int.tmod a0 2) != 1) = true := bne_iff_ne.mpr c5
          simp only [Option.some.injEq, Prod.mk.injEq] at H
          obtain ⟨rfl, rfl⟩ := H
          go_wp2
          go_ret2
          exact ⟨by first | rfl | (simp; done) | (simp [*]; done), by repeat (first | exact Drawn0.refl _ | apply Drawn0.step)⟩
def coder_New.f  : Option (Int × Int × ByteArray) := some (0, 4294967295, (⟨#[]⟩ : ByteArray))
set_option maxHeartbeats 8000000 in
set_option maxRecDepth 100000 in
theorem coder_New.calls  (r1 : Int) (r2 : Int) (r3 : ByteArray) (w : World) (h : coder_New.f  = some (r1, r2, r3)) :
    Calls Tryz.prog 35 #[] w fun e w' => e = .returned (.agg #[.int .i64 r1, .int .i64 r2, .string r3]) ∧ Below w.heap.size w w' := by
  have hu68 := Tryz.underlying68
  have HB := Aside0.mk (Below.refl w.heap.size w)
  have H : (some (0, 4294967295, (⟨#[]⟩ : ByteArray))) = some (r1, r2, r3) := h
  clear h
  simp only [Option.some.injEq, Prod.mk.injEq] at H
  obtain ⟨rfl, rfl, rfl⟩ := H
  go_enter Tryz.func35, Tryz.ntmps35
  go_wp2_with (first | ((with_reducible refine gate_dst (N := 0) rfl ?_); refine box_event ?hg (N := 0) ?hd (cs := #[.int .i64 0, .int .i64 0, .string (⟨#[]⟩ : ByteArray)]) (t := 68) ?hr ?_; (case hd => rfl); (case hg => rfl); (case hr => first | (go_simp; done) | (go_simp; rfl)); intro gb120 hg w1 hbox hb; have n0_ := Aside0.mk (below_step (by repeat (first | (with_reducible first | exact HB.out | apply below_alloc | apply pw_below_drewN | apply below_drew1) | exact HB.out)) hb); have n1_ := Aside0.mk (hbox); have n2_ := Aside0.mk ((by rw [hg]; exact (below_size (by repeat (first | (with_reducible first | exact HB.out | apply below_alloc | apply pw_below_drewN | apply below_drew1) | exact HB.out))) : w.heap.size ≤ gb120)); have n3_ := Aside0.mk ((by rw [hg]; exact (below_size (by repeat (first | (with_reducible first | exact HB.out | apply below_alloc | apply pw_below_drewN | apply below_drew1) | exact HB.out))) : w.heap.size ≤ gb120)); clear HB; have HB := n0_; have BK120 := n1_; have GW120 := n2_; have GE120 := n3_; clear n0_ n1_ n2_ n3_; clear hb hbox hg; have hcz2_0 : w1.cell? ⟨gb120, 0, none⟩ = some (.int .i64 0) := (blk_cell BK120.out 0).trans rfl; have hcz2_1 : w1.cell? ⟨gb120, 1, none⟩ = some (.int .i64 0) := (blk_cell BK120.out 1).trans rfl; have hcz2_2 : w1.cell? ⟨gb120, 2, none⟩ = some (.string (⟨#[]⟩ : ByteArray)) := (blk_cell BK120.out 2).trans rfl; have hfz2_0 := blk_frozen BK120.out 0; have hfz2_1 := blk_frozen BK120.out 1; have hfz2_2 := blk_frozen BK120.out 2))
  refine bodyPost_ret (results_cell_row rfl _ _ gb120 68 #[.int .i64 0, .int .i64 4294967295, .string (⟨#[]⟩ : ByteArray)] (0, 0) _ rfl (by (with_reducible repeat (first | refine blk_drewN ?_ _ | refine blk_drew ?_ | refine blk_alloc ?_ _)); refine blk_put (cs := #[.int .i64 0, .int .i64 4294967295, .string (⟨#[]⟩ : ByteArray)]) ?_ 2 _ rfl; (with_reducible repeat (first | refine blk_drewN ?_ _ | refine blk_drew ?_ | refine blk_alloc ?_ _)); refine blk_put (cs := #[.int .i64 0, .int .i64 0, .string (⟨#[]⟩ : ByteArray)]) ?_ 1 _ rfl; (with_reducible repeat (first | refine blk_drewN ?_ _ | refine blk_drew ?_ | refine blk_alloc ?_ _)); refine blk_put (cs := #[.int .i64 0, .int .i64 0, .string (⟨#[]⟩ : ByteArray)]) ?_ 0 _ rfl; (with_reducible repeat (first | refine blk_drewN ?_ _ | refine blk_drew ?_ | refine blk_alloc ?_ _)); exact BK120.out) Tryz.underlying68 rfl (by kernel_rfl)) rfl ?_
  exact ⟨by first | rfl | (simp [errW_none, errW_some] <;> rfl) | (simp [*, errW_none, errW_some] <;> rfl), by repeat (first | (with_reducible first | exact HB.out | apply below_alloc | apply pw_below_drewN | apply below_drew1 | refine below_set ?_ GE120.out) | exact HB.out)⟩
def coder_Ends.f (a0 : Int) (a1 : Int) : Option (Bool) := if a0 ≥ 0 then (if a1 ≤ 4294967295 then (some (decide ((a1 / 16777216) > (a0 / 16777216)))) else (some false)) else (some false)
set_option maxHeartbeats 8000000 in
set_option maxRecDepth 100000 in
theorem coder_Ends.calls (a0 : Int) (a1 : Int) (r : Bool) (w : World) (h : coder_Ends.f a0 a1 = some r) :
    Calls Tryz.prog 124 #[.int .i64 a0, .int .i64 a1] w fun e w' => e = .returned (.bool r) ∧ Drawn0 w w' := by
  have H : (if a0 ≥ 0 then (if a1 ≤ 4294967295 then (some (decide ((a1 / 16777216) > (a0 / 16777216)))) else (some false)) else (some false)) = some r := h
  clear h
  by_cases c3 : a0 ≥ 0
  · rw [if_pos c3] at H
    have c3b0 : decide (0 ≤ a0) = true := decide_eq_true c3
    clear c3
    by_cases c4 : a1 ≤ 4294967295
    · rw [if_pos c4] at H
      have c4b0 : decide (a1 ≤ 4294967295) = true := decide_eq_true c4
      clear c4
      obtain rfl := Option.some.inj H
      go_enter Tryz.func124, Tryz.ntmps124
      go_wp2
      go_ret
      exact ⟨by first | rfl | (simp; done) | (simp [*]; done), by repeat (first | exact Drawn0.refl _ | apply Drawn0.step)⟩
    · rw [if_neg c4] at H
      have c4b0 : decide (a1 ≤ 4294967295) = false := decide_eq_false c4
      clear c4
      obtain rfl := Option.some.inj H
      go_enter Tryz.func124, Tryz.ntmps124
      go_wp2
      go_ret
      exact ⟨by first | rfl | (simp; done) | (simp [*]; done), by repeat (first | exact Drawn0.refl _ | apply Drawn0.step)⟩
  · rw [if_neg c3] at H
    have c3b0 : decide (0 ≤ a0) = false := decide_eq_false c3
    clear c3
    obtain rfl := Option.some.inj H
    go_enter Tryz.func124, Tryz.ntmps124
    go_wp2
    go_ret
    exact ⟨by first | rfl | (simp; done) | (simp [*]; done), by repeat (first | exact Drawn0.refl _ | apply Drawn0.step)⟩
/-- THE ONE PURE STATEMENT of coder_Ends: yours. -/
def coder_Ends.Pure : Prop := ∀ (a0 : Int) (a1 : Int), (Lit.int .i64 a0).wf = true → (Lit.int .i64 a1).wf = true → coder_Ends.f a0 a1 = some true
theorem coder_Ends.walk (P : coder_Ends.Pure) (a0 : Int) (a1 : Int) (w : World) (w0 : (Lit.int .i64 a0).wf = true) (w1 : (Lit.int .i64 a1).wf = true) :
    Calls Tryz.prog 124 #[.int .i64 a0, .int .i64 a1] w fun e w' => e = .returned (.bool true) ∧ Below w.heap.size w w' := by
  have h := P a0 a1 w0 w1
  refine (coder_Ends.calls a0 a1 true w h).mono ?_
  rintro e w' ⟨rfl, hd⟩
  exact ⟨rfl, hd.below⟩
def coder_May.f (a0_0 : Int) (a0_1 : Int) (a0_2 : ByteArray) : Option (Bool) := (coder_Ends.f a0_0 a0_1).bind fun t122 => (if t122 = true then (some (decide ((a0_2.size : Int) ≤ 65536))) else (some false))
set_option maxHeartbeats 8000000 in
set_option maxRecDepth 100000 in
theorem coder_May.calls (a0_0 : Int) (a0_1 : Int) (a0_2 : ByteArray) (r : Bool) (w : World) (h : coder_May.f a0_0 a0_1 a0_2 = some r) :
    Calls Tryz.prog 77 #[.agg #[.int .i64 a0_0, .int .i64 a0_1, .string a0_2]] w fun e w' => e = .returned (.bool r) ∧ Below w.heap.size w w' := by
  have hu68 := Tryz.underlying68
  have HB := Aside0.mk (Below.refl w.heap.size w)
  have H : ((coder_Ends.f a0_0 a0_1).bind fun t122 => (if t122 = true then (some (decide ((a0_2.size : Int) ≤ 65536))) else (some false))) = some r := h
  clear h
  replace H := Option.bind_eq_some_iff.mp H
  obtain ⟨t122, A20, H⟩ := H
  replace H : (if t122 = true then (some (decide ((a0_2.size : Int) ≤ 65536))) else (some false)) = some r := H
  have A2 := Aside0.mk A20
  clear A20
  by_cases c3 : t122 = true
  · subst c3
    have H1 : (some (decide ((a0_2.size : Int) ≤ 65536))) = some r := by rw [if_pos rfl] at H; exact H
    clear H
    have H := H1
    clear H1
    obtain rfl := Option.some.inj H
    go_enter Tryz.func77, Tryz.ntmps77
    go_wp2_with (first | ((with_reducible refine gate_dst (N := 1) rfl ?_); (try (refine gate_guard (by rfl) ?_; dsimp only)); refine box_event ?hg (N := 1) ?hd (cs := #[.int .i64 a0_0, .int .i64 a0_1, .string a0_2]) (t := 68) ?hr ?_; (case hd => rfl); (case hg => rfl); (case hr => first | (go_simp; done) | (go_simp; rfl)); intro gb121 hg w4 hbox hb; have n0_ := Aside0.mk (below_step (by repeat (first | (with_reducible first | exact HB.out | apply below_alloc | apply pw_below_drewN | apply below_drew1) | exact HB.out)) hb); have n1_ := Aside0.mk (hbox); have n2_ := Aside0.mk ((by rw [hg]; exact (below_size (by repeat (first | (with_reducible first | exact HB.out | apply below_alloc | apply pw_below_drewN | apply below_drew1) | exact HB.out))) : w.heap.size ≤ gb121)); have n3_ := Aside0.mk ((by rw [hg]; exact (below_size (by repeat (first | (with_reducible first | exact HB.out | apply below_alloc | apply pw_below_drewN | apply below_drew1) | exact HB.out))) : w.heap.size ≤ gb121)); clear HB; have HB := n0_; have BK121 := n1_; have GW121 := n2_; have GE121 := n3_; clear n0_ n1_ n2_ n3_; clear hb hbox hg; have hcz5_0 : w4.cell? ⟨gb121, 0, none⟩ = some (.int .i64 a0_0) := (blk_cell BK121.out 0).trans rfl; have hcz5_1 : w4.cell? ⟨gb121, 1, none⟩ = some (.int .i64 a0_1) := (blk_cell BK121.out 1).trans rfl; have hcz5_2 : w4.cell? ⟨gb121, 2, none⟩ = some (.string a0_2) := (blk_cell BK121.out 2).trans rfl; have hfz5_0 := blk_frozen BK121.out 0; have hfz5_1 := blk_frozen BK121.out 1; have hfz5_2 := blk_frozen BK121.out 2) | ((with_reducible refine gate_callee (f := 124) rfl ?_); refine goesL_ (some 7) rfl rfl Tryz.func124 (by kernel_rfl) rfl #[.int .i64 a0_0, .int .i64 a0_1] rfl (by (try simp only [List.map_toArray, List.map_cons, List.map_nil]); first | done | rfl | (simp only [List.length_drop, List.length_take]; rfl)) ?_; (with_reducible refine (coder_Ends.calls a0_0 a0_1 true _ A2.out).mono ?_); rintro e w' ⟨rfl, ⟨nd, rfl⟩⟩; refine ⟨_, rfl, ?_⟩))
    go_ret
    exact ⟨by first | rfl | (simp [errW_none, errW_some] <;> rfl) | (simp [*, errW_none, errW_some] <;> rfl), by repeat (first | (with_reducible first | exact HB.out | apply below_alloc | apply pw_below_drewN | apply below_drew1 | refine below_set ?_ GE121.out) | exact HB.out)⟩
  · replace c3 := Bool.eq_false_iff.mpr c3
    subst c3
    have H1 : (some false) = some r := by rw [if_neg (show ¬ (false = true) by decide)] at H; exact H
    clear H
    have H := H1
    clear H1
    obtain rfl := Option.some.inj H
    go_enter Tryz.func77, Tryz.ntmps77
    go_wp2_with (first | ((with_reducible refine gate_dst (N := 1) rfl ?_); (try (refine gate_guard (by rfl) ?_; dsimp only)); refine box_event ?hg (N := 1) ?hd (cs := #[.int .i64 a0_0, .int .i64 a0_1, .string a0_2]) (t := 68) ?hr ?_; (case hd => rfl); (case hg => rfl); (case hr => first | (go_simp; done) | (go_simp; rfl)); intro gb121 hg w6 hbox hb; have n0_ := Aside0.mk (below_step (by repeat (first | (with_reducible first | exact HB.out | apply below_alloc | apply pw_below_drewN | apply below_drew1) | exact HB.out)) hb); have n1_ := Aside0.mk (hbox); have n2_ := Aside0.mk ((by rw [hg]; exact (below_size (by repeat (first | (with_reducible first | exact HB.out | apply below_alloc | apply pw_below_drewN | apply below_drew1) | exact HB.out))) : w.heap.size ≤ gb121)); have n3_ := Aside0.mk ((by rw [hg]; exact (below_size (by repeat (first | (with_reducible first | exact HB.out | apply below_alloc | apply pw_below_drewN | apply below_drew1) | exact HB.out))) : w.heap.size ≤ gb121)); clear HB; have HB := n0_; have BK121 := n1_; have GW121 := n2_; have GE121 := n3_; clear n0_ n1_ n2_ n3_; clear hb hbox hg; have hcz7_0 : w6.cell? ⟨gb121, 0, none⟩ = some (.int .i64 a0_0) := (blk_cell BK121.out 0).trans rfl; have hcz7_1 : w6.cell? ⟨gb121, 1, none⟩ = some (.int .i64 a0_1) := (blk_cell BK121.out 1).trans rfl; have hcz7_2 : w6.cell? ⟨gb121, 2, none⟩ = some (.string a0_2) := (blk_cell BK121.out 2).trans rfl; have hfz7_0 := blk_frozen BK121.out 0; have hfz7_1 := blk_frozen BK121.out 1; have hfz7_2 := blk_frozen BK121.out 2) | ((with_reducible refine gate_callee (f := 124) rfl ?_); refine goesL_ (some 7) rfl rfl Tryz.func124 (by kernel_rfl) rfl #[.int .i64 a0_0, .int .i64 a0_1] rfl (by (try simp only [List.map_toArray, List.map_cons, List.map_nil]); first | done | rfl | (simp only [List.length_drop, List.length_take]; rfl)) ?_; (with_reducible refine (coder_Ends.calls a0_0 a0_1 false _ A2.out).mono ?_); rintro e w' ⟨rfl, ⟨nd, rfl⟩⟩; refine ⟨_, rfl, ?_⟩))
    go_ret
    exact ⟨by first | rfl | (simp [errW_none, errW_some] <;> rfl) | (simp [*, errW_none, errW_some] <;> rfl), by repeat (first | (with_reducible first | exact HB.out | apply below_alloc | apply pw_below_drewN | apply below_drew1 | refine below_set ?_ GE121.out) | exact HB.out)⟩
def coder_End.f (a0_0 : Int) (a0_1 : Int) (a0_2 : ByteArray) : Option (ByteArray × Int) := (coder_May.f a0_0 a0_1 a0_2).bind fun t124 => (if t124 = true then ((some (([(a0_0 / 16777216) % 256, (a0_0 / 65536) % 256, (a0_0 / 256) % 256, (a0_0) % 256] : List Int) : List Int)).bind fun y125 => (if a0_2.size + (strOfNums y125).size ≤ 9223372036854775807 then (some (a0_2 ++ (strOfNums y125), 0)) else (none))) else (some ((⟨#[]⟩ : ByteArray), 400)))
set_option maxHeartbeats 8000000 in
set_option maxRecDepth 100000 in
theorem coder_End.calls (a0_0 : Int) (a0_1 : Int) (a0_2 : ByteArray) (r1 : ByteArray) (r2 : Int) (w : World) (h : coder_End.f a0_0 a0_1 a0_2 = some (r1, r2)) :
    Calls Tryz.prog 37 #[.agg #[.int .i64 a0_0, .int .i64 a0_1, .string a0_2]] w fun e w' => e = .returned (.tuple #[.string r1, .int .i64 r2]) ∧ Below w.heap.size w w' := by
  have hu68 := Tryz.underlying68
  have HB := Aside0.mk (Below.refl w.heap.size w)
  have H : ((coder_May.f a0_0 a0_1 a0_2).bind fun t124 => (if t124 = true then ((some (([(a0_0 / 16777216) % 256, (a0_0 / 65536) % 256, (a0_0 / 256) % 256, (a0_0) % 256] : List Int) : List Int)).bind fun y125 => (if a0_2.size + (strOfNums y125).size ≤ 9223372036854775807 then (some (a0_2 ++ (strOfNums y125), 0)) else (none))) else (some ((⟨#[]⟩ : ByteArray), 400)))) = some (r1, r2) := h
  clear h
  replace H := Option.bind_eq_some_iff.mp H
  obtain ⟨t124, A20, H⟩ := H
  replace H : (if t124 = true then ((some (([(a0_0 / 16777216) % 256, (a0_0 / 65536) % 256, (a0_0 / 256) % 256, (a0_0) % 256] : List Int) : List Int)).bind fun y125 => (if a0_2.size + (strOfNums y125).size ≤ 9223372036854775807 then (some (a0_2 ++ (strOfNums y125), 0)) else (none))) else (some ((⟨#[]⟩ : ByteArray), 400))) = some (r1, r2) := H
  have A2 := Aside0.mk A20
  clear A20
  by_cases c3 : t124 = true
  · subst c3
    have H1 : ((some (([(a0_0 / 16777216) % 256, (a0_0 / 65536) % 256, (a0_0 / 256) % 256, (a0_0) % 256] : List Int) : List Int)).bind fun y125 => (if a0_2.size + (strOfNums y125).size ≤ 9223372036854775807 then (some (a0_2 ++ (strOfNums y125), 0)) else (none))) = some (r1, r2) := by rw [if_pos rfl] at H; exact H
    clear H
    have H := H1
    clear H1
    obtain ⟨y125, hy125⟩ : ∃ y_ : List Int, y_ = (([(a0_0 / 16777216) % 256, (a0_0 / 65536) % 256, (a0_0 / 256) % 256, (a0_0) % 256] : List Int)) := ⟨_, rfl⟩
    replace H : (if a0_2.size + (strOfNums y125).size ≤ 9223372036854775807 then (some (a0_2 ++ (strOfNums y125), 0)) else (none)) = some (r1, r2) := by first | (rw [hy125]; with_reducible exact H) | (have H2_ := (Option.bind_some _ _).symm.trans H; rw [hy125]; with_reducible exact H2_) | (have H2_ := (Option.bind_some _ _).symm.trans H; with_reducible exact H2_) | with_reducible exact H | (rw [hy125]; exact H) | exact H
    have Ny125 := Aside0.mk hy125
    clear hy125
    by_cases c4 : a0_2.size + (strOfNums y125).size ≤ 9223372036854775807
    · rw [if_pos c4] at H
      have c4b0 := eq_true c4
      have c4b1 : decide (a0_2.size + (strOfNums y125).size ≤ 9223372036854775807) = true := decide_eq_true c4
      try have c4b2 : (9223372036854775807 < a0_2.size + (strOfNums y125).size) = False := eq_false (Nat.not_lt.2 c4)
      simp only [Option.some.injEq, Prod.mk.injEq] at H
      obtain ⟨rfl, rfl⟩ := H
      go_enter Tryz.func37, Tryz.ntmps37
      go_wp2_with (first | ((with_reducible refine gate_dst (N := 1) rfl ?_); refine box_event ?hg (N := 1) ?hd (cs := #[.int .i64 a0_0, .int .i64 a0_1, .string a0_2]) (t := 68) ?hr ?_; (case hd => rfl); (case hg => rfl); (case hr => first | (go_simp; done) | (go_simp; rfl)); intro gb123 hg w5 hbox hb; have n0_ := Aside0.mk (below_step (by repeat (first | (with_reducible first | exact HB.out | apply below_alloc | apply pw_below_drewN | apply below_drew1) | exact HB.out)) hb); have n1_ := Aside0.mk (hbox); have n2_ := Aside0.mk ((by rw [hg]; exact (below_size (by repeat (first | (with_reducible first | exact HB.out | apply below_alloc | apply pw_below_drewN | apply below_drew1) | exact HB.out))) : w.heap.size ≤ gb123)); have n3_ := Aside0.mk ((by rw [hg]; exact (below_size (by repeat (first | (with_reducible first | exact HB.out | apply below_alloc | apply pw_below_drewN | apply below_drew1) | exact HB.out))) : w.heap.size ≤ gb123)); clear HB; have HB := n0_; have BK123 := n1_; have GW123 := n2_; have GE123 := n3_; clear n0_ n1_ n2_ n3_; clear hb hbox hg; have hcz6_0 : w5.cell? ⟨gb123, 0, none⟩ = some (.int .i64 a0_0) := (blk_cell BK123.out 0).trans rfl; have hcz6_1 : w5.cell? ⟨gb123, 1, none⟩ = some (.int .i64 a0_1) := (blk_cell BK123.out 1).trans rfl; have hcz6_2 : w5.cell? ⟨gb123, 2, none⟩ = some (.string a0_2) := (blk_cell BK123.out 2).trans rfl; have hfz6_0 := blk_frozen BK123.out 0; have hfz6_1 := blk_frozen BK123.out 1; have hfz6_2 := blk_frozen BK123.out 2) | ((with_reducible refine gate_callee (f := 77) rfl ?_); refine goesL_ (some 5) rfl rfl Tryz.func77 (by kernel_rfl) rfl #[.agg #[.int .i64 a0_0, .int .i64 a0_1, .string a0_2]] rfl (by (try simp only [List.map_toArray, List.map_cons, List.map_nil]); first | done | rfl | (simp only [List.length_drop, List.length_take]; rfl)) ?_; (with_reducible refine (coder_May.calls a0_0 a0_1 a0_2 true _ A2.out).mono ?_); rintro e w7 ⟨rfl, hb⟩; refine ⟨_, rfl, ?_⟩; have n0_ := Aside0.mk (blk_below (g := gb123) (o := .cells #[.int .i64 a0_0, .int .i64 a0_1, .string a0_2] 68 (0, 0)) (by (with_reducible repeat (first | refine blk_drewN ?_ _ | refine blk_drew ?_ | refine blk_alloc ?_ _)); exact BK123.out) hb); have n1_ := Aside0.mk (below_step (by repeat (first | (with_reducible first | exact HB.out | apply below_alloc | apply pw_below_drewN | apply below_drew1 | refine below_set ?_ GE123.out) | exact HB.out)) hb); clear BK123; clear HB; have BK123 := n0_; have HB := n1_; clear n0_ n1_; (try clear hb); (try clear hb2); (try clear hk); (try clear hi); have hcz8_0 : w7.cell? ⟨gb123, 0, none⟩ = some (.int .i64 a0_0) := (blk_cell BK123.out 0).trans rfl; have hcz8_1 : w7.cell? ⟨gb123, 1, none⟩ = some (.int .i64 a0_1) := (blk_cell BK123.out 1).trans rfl; have hcz8_2 : w7.cell? ⟨gb123, 2, none⟩ = some (.string a0_2) := (blk_cell BK123.out 2).trans rfl; have hfz8_0 := blk_frozen BK123.out 0; have hfz8_1 := blk_frozen BK123.out 1; have hfz8_2 := blk_frozen BK123.out 2) | ((with_reducible refine gate_dst (N := 24) rfl ?_); refine Kd.R_lit (Kd.int .u8) _ 5 ?hg (N := 24) ?hd (xs := ([(a0_0 / 16777216) % 256, (a0_0 / 65536) % 256, (a0_0 / 256) % 256, (a0_0) % 256] : List Int)) (inner := [.int .u8 ((a0_0 / 16777216) % 256), .int .u8 ((a0_0 / 65536) % 256), .int .u8 ((a0_0 / 256) % 256), .int .u8 ((a0_0) % 256)]) (ok := fun _ => True) (okp := fun _ => True) ?hr ?hp (fun _ hk => hk) trivial (Below.refl _ _) (Nat.le_refl _) (by simp) ?_; (case hd => rfl); (case hg => rfl); (case hr => first | (go_simp; done) | (go_simp; rfl)); (case hp => exact (Reps.one (show Kd.M (Kd.int .u8) _ _ _ ((a0_0 / 16777216) % 256) [.int .u8 ((a0_0 / 16777216) % 256)] from rfl) (Reps.one (show Kd.M (Kd.int .u8) _ _ _ ((a0_0 / 65536) % 256) [.int .u8 ((a0_0 / 65536) % 256)] from rfl) (Reps.one (show Kd.M (Kd.int .u8) _ _ _ ((a0_0 / 256) % 256) [.int .u8 ((a0_0 / 256) % 256)] from rfl) (Reps.one (show Kd.M (Kd.int .u8) _ _ _ ((a0_0) % 256) [.int .u8 ((a0_0) % 256)] from rfl) (Reps.none _ _)))))); intro v126 w9 ho10 hb hg_ hnew_; clear hg_ hnew_; (first | rw [← Ny125.out] at ho10 | (simp only [Int.reduceToNat] at ho10; rw [← Ny125.out] at ho10)); have n0_ := Aside0.mk (Kd.R_lower ho10 (below_size (by repeat (first | (with_reducible first | exact HB.out | apply below_alloc | apply pw_below_drewN | apply below_drew1 | refine below_set ?_ GE123.out) | exact HB.out)))); have n1_ := Aside0.mk (blk_below (g := gb123) (o := .cells #[.int .i64 a0_0, .int .i64 a0_1, .string a0_2] 68 (0, 0)) (by (with_reducible repeat (first | refine blk_drewN ?_ _ | refine blk_drew ?_ | refine blk_alloc ?_ _)); exact BK123.out) hb); have n2_ := Aside0.mk (below_step (by repeat (first | (with_reducible first | exact HB.out | apply below_alloc | apply pw_below_drewN | apply below_drew1 | refine below_set ?_ GE123.out) | exact HB.out)) hb); clear BK123; clear HB; have HO127 := n0_; have BK123 := n1_; have HB := n2_; clear n0_ n1_ n2_; clear hb ho10; have hcv11 := own_string (P := Tryz.prog) Tryz.underlying43 Tryz.underlying5 Tryz.underlying9 (Kd.own_of_R HO127.out)))
      go_ret2
      exact ⟨by first | rfl | (simp [errW_none, errW_some] <;> rfl) | (simp [*, errW_none, errW_some] <;> rfl), by repeat (first | (with_reducible first | exact HB.out | apply below_alloc | apply pw_below_drewN | apply below_drew1 | refine below_set ?_ GE123.out) | exact HB.out)⟩
    · rw [if_neg c4] at H
      exact absurd H (by simp)
  · replace c3 := Bool.eq_false_iff.mpr c3
    subst c3
    have H1 : (some ((⟨#[]⟩ : ByteArray), 400)) = some (r1, r2) := by rw [if_neg (show ¬ (false = true) by decide)] at H; exact H
    clear H
    have H := H1
    clear H1
    simp only [Option.some.injEq, Prod.mk.injEq] at H
    obtain ⟨rfl, rfl⟩ := H
    go_enter Tryz.func37, Tryz.ntmps37
    go_wp2_with (first | ((with_reducible refine gate_dst (N := 1) rfl ?_); refine box_event ?hg (N := 1) ?hd (cs := #[.int .i64 a0_0, .int .i64 a0_1, .string a0_2]) (t := 68) ?hr ?_; (case hd => rfl); (case hg => rfl); (case hr => first | (go_simp; done) | (go_simp; rfl)); intro gb123 hg w12 hbox hb; have n0_ := Aside0.mk (below_step (by repeat (first | (with_reducible first | exact HB.out | apply below_alloc | apply pw_below_drewN | apply below_drew1) | exact HB.out)) hb); have n1_ := Aside0.mk (hbox); have n2_ := Aside0.mk ((by rw [hg]; exact (below_size (by repeat (first | (with_reducible first | exact HB.out | apply below_alloc | apply pw_below_drewN | apply below_drew1) | exact HB.out))) : w.heap.size ≤ gb123)); have n3_ := Aside0.mk ((by rw [hg]; exact (below_size (by repeat (first | (with_reducible first | exact HB.out | apply below_alloc | apply pw_below_drewN | apply below_drew1) | exact HB.out))) : w.heap.size ≤ gb123)); clear HB; have HB := n0_; have BK123 := n1_; have GW123 := n2_; have GE123 := n3_; clear n0_ n1_ n2_ n3_; clear hb hbox hg; have hcz13_0 : w12.cell? ⟨gb123, 0, none⟩ = some (.int .i64 a0_0) := (blk_cell BK123.out 0).trans rfl; have hcz13_1 : w12.cell? ⟨gb123, 1, none⟩ = some (.int .i64 a0_1) := (blk_cell BK123.out 1).trans rfl; have hcz13_2 : w12.cell? ⟨gb123, 2, none⟩ = some (.string a0_2) := (blk_cell BK123.out 2).trans rfl; have hfz13_0 := blk_frozen BK123.out 0; have hfz13_1 := blk_frozen BK123.out 1; have hfz13_2 := blk_frozen BK123.out 2) | ((with_reducible refine gate_callee (f := 77) rfl ?_); refine goesL_ (some 5) rfl rfl Tryz.func77 (by kernel_rfl) rfl #[.agg #[.int .i64 a0_0, .int .i64 a0_1, .string a0_2]] rfl (by (try simp only [List.map_toArray, List.map_cons, List.map_nil]); first | done | rfl | (simp only [List.length_drop, List.length_take]; rfl)) ?_; (with_reducible refine (coder_May.calls a0_0 a0_1 a0_2 false _ A2.out).mono ?_); rintro e w14 ⟨rfl, hb⟩; refine ⟨_, rfl, ?_⟩; have n0_ := Aside0.mk (blk_below (g := gb123) (o := .cells #[.int .i64 a0_0, .int .i64 a0_1, .string a0_2] 68 (0, 0)) (by (with_reducible repeat (first | refine blk_drewN ?_ _ | refine blk_drew ?_ | refine blk_alloc ?_ _)); exact BK123.out) hb); have n1_ := Aside0.mk (below_step (by repeat (first | (with_reducible first | exact HB.out | apply below_alloc | apply pw_below_drewN | apply below_drew1 | refine below_set ?_ GE123.out) | exact HB.out)) hb); clear BK123; clear HB; have BK123 := n0_; have HB := n1_; clear n0_ n1_; (try clear hb); (try clear hb2); (try clear hk); (try clear hi)))
    go_ret2
    exact ⟨by first | rfl | (simp [errW_none, errW_some] <;> rfl) | (simp [*, errW_none, errW_some] <;> rfl), by repeat (first | (with_reducible first | exact HB.out | apply below_alloc | apply pw_below_drewN | apply below_drew1 | refine below_set ?_ GE123.out) | exact HB.out)⟩
def coder_Up.f (a0 : Int) (a1 : Int) : Option (Int) := some (Go.bits .or .i64 (Go.bits .and .i64 (wrap64 (a0 * 256)) 4294967295) a1)
set_option maxHeartbeats 8000000 in
set_option maxRecDepth 100000 in
theorem coder_Up.calls (a0 : Int) (a1 : Int) (r : Int) (w : World) (h : coder_Up.f a0 a1 = some r) :
    Calls Tryz.prog 89 #[.int .i64 a0, .int .i64 a1] w fun e w' => e = .returned (.int .i64 r) ∧ Drawn0 w w' := by
  have H : (some (Go.bits .or .i64 (Go.bits .and .i64 (wrap64 (a0 * 256)) 4294967295) a1)) = some r := h
  clear h
  obtain rfl := Option.some.inj H
  go_enter Tryz.func89, Tryz.ntmps89
  go_wp2
  go_ret
  exact ⟨by first | rfl | (simp; done) | (simp [*]; done), by repeat (first | exact Drawn0.refl _ | apply Drawn0.step)⟩
def coder_Middle.f (a0 : Int) (a1 : Int) (a2 : Int) : Option (Int) := some (wrap64 ((wrap64 (a0 + (wrap64 ((wrap64 (Int.tdiv (wrap64 (a1 - a0)) 4096)) * a2)))) + (wrap64 (Int.tdiv (wrap64 ((Int.tmod (wrap64 (a1 - a0)) 4096) * a2)) 4096))))
set_option maxHeartbeats 8000000 in
set_option maxRecDepth 100000 in
theorem coder_Middle.calls (a0 : Int) (a1 : Int) (a2 : Int) (r : Int) (w : World) (h : coder_Middle.f a0 a1 a2 = some r) :
    Calls Tryz.prog 161 #[.int .i64 a0, .int .i64 a1, .int .i64 a2] w fun e w' => e = .returned (.int .i64 r) ∧ Drawn0 w w' := by
  have H : (some (wrap64 ((wrap64 (a0 + (wrap64 ((wrap64 (Int.tdiv (wrap64 (a1 - a0)) 4096)) * a2)))) + (wrap64 (Int.tdiv (wrap64 ((Int.tmod (wrap64 (a1 - a0)) 4096) * a2)) 4096))))) = some r := h
  clear h
  obtain rfl := Option.some.inj H
  go_enter Tryz.func161, Tryz.ntmps161
  go_wp2
  go_ret
  exact ⟨by first | rfl | (simp; done) | (simp [*]; done), by repeat (first | exact Drawn0.refl _ | apply Drawn0.step)⟩
def coder_Gone.f (a0 : Int) (a1 : Int) : Option (Bool) := some ((a0 / 16777216) == (a1 / 16777216))
set_option maxHeartbeats 8000000 in
set_option maxRecDepth 100000 in
theorem coder_Gone.calls (a0 : Int) (a1 : Int) (r : Bool) (w : World) (h : coder_Gone.f a0 a1 = some r) :
    Calls Tryz.prog 162 #[.int .i64 a0, .int .i64 a1] w fun e w' => e = .returned (.bool r) ∧ Drawn0 w w' := by
  have H : (some ((a0 / 16777216) == (a1 / 16777216))) = some r := h
  clear h
  obtain rfl := Option.some.inj H
  go_enter Tryz.func162, Tryz.ntmps162
  go_wp2
  go_ret
  exact ⟨by first | rfl | (simp; done) | (simp [*]; done), by repeat (first | exact Drawn0.refl _ | apply Drawn0.step)⟩
/-- THE ONE PURE STATEMENT of coder_Gone: yours. -/
def coder_Gone.Pure : Prop := ∀ (a0 : Int) (a1 : Int), (Lit.int .i64 a0).wf = true → (Lit.int .i64 a1).wf = true → coder_Gone.f a0 a1 = some true
theorem coder_Gone.walk (P : coder_Gone.Pure) (a0 : Int) (a1 : Int) (w : World) (w0 : (Lit.int .i64 a0).wf = true) (w1 : (Lit.int .i64 a1).wf = true) :
    Calls Tryz.prog 162 #[.int .i64 a0, .int .i64 a1] w fun e w' => e = .returned (.bool true) ∧ Below w.heap.size w w' := by
  have h := P a0 a1 w0 w1
  refine (coder_Gone.calls a0 a1 true w h).mono ?_
  rintro e w' ⟨rfl, hd⟩
  exact ⟨rfl, hd.below⟩
def coder_Chance.f (a0 : Int) : Option (Bool) := if a0 ≥ 1 then (some (decide (a0 ≤ 4095))) else (some false)
set_option maxHeartbeats 8000000 in
set_option maxRecDepth 100000 in
theorem coder_Chance.calls (a0 : Int) (r : Bool) (w : World) (h : coder_Chance.f a0 = some r) :
    Calls Tryz.prog 160 #[.int .i64 a0] w fun e w' => e = .returned (.bool r) ∧ Drawn0 w w' := by
  have H : (if a0 ≥ 1 then (some (decide (a0 ≤ 4095))) else (some false)) = some r := h
  clear h
  by_cases c2 : a0 ≥ 1
  · rw [if_pos c2] at H
    have c2b0 : decide (1 ≤ a0) = true := decide_eq_true c2
    clear c2
    obtain rfl := Option.some.inj H
    go_enter Tryz.func160, Tryz.ntmps160
    go_wp2
    go_ret
    exact ⟨by first | rfl | (simp; done) | (simp [*]; done), by repeat (first | exact Drawn0.refl _ | apply Drawn0.step)⟩
  · rw [if_neg c2] at H
    have c2b0 : decide (1 ≤ a0) = false := decide_eq_false c2
    clear c2
    obtain rfl := Option.some.inj H
    go_enter Tryz.func160, Tryz.ntmps160
    go_wp2
    go_ret
    exact ⟨by first | rfl | (simp; done) | (simp [*]; done), by repeat (first | exact Drawn0.refl _ | apply Drawn0.step)⟩
/-- THE ONE PURE STATEMENT of coder_Chance: yours. -/
def coder_Chance.Pure : Prop := ∀ (a0 : Int), (Lit.int .i64 a0).wf = true → coder_Chance.f a0 = some true
theorem coder_Chance.walk (P : coder_Chance.Pure) (a0 : Int) (w : World) (w0 : (Lit.int .i64 a0).wf = true) :
    Calls Tryz.prog 160 #[.int .i64 a0] w fun e w' => e = .returned (.bool true) ∧ Below w.heap.size w w' := by
  have h := P a0 w0
  refine (coder_Chance.calls a0 true w h).mono ?_
  rintro e w' ⟨rfl, hd⟩
  exact ⟨rfl, hd.below⟩
def decoder_at.f (a0 : ByteArray) (a1 : Int) : Option (Int) := if a1 < (a0.size : Int) then (if 0 ≤ a1 then (some (wrap64 (bt a0 a1))) else (none)) else (some 0)
set_option maxHeartbeats 8000000 in
set_option maxRecDepth 100000 in
theorem decoder_at.calls (a0 : ByteArray) (a1 : Int) (r : Int) (w : World) (h : decoder_at.f a0 a1 = some r) :
    Calls Tryz.prog 90 #[.string a0, .int .i64 a1] w fun e w' => e = .returned (.int .i64 r) ∧ Drawn0 w w' := by
  have H : (if a1 < (a0.size : Int) then (if 0 ≤ a1 then (some (wrap64 (bt a0 a1))) else (none)) else (some 0)) = some r := h
  clear h
  by_cases c3 : a1 < (a0.size : Int)
  · rw [if_pos c3] at H
    have c3b0 : decide (a1 < (a0.size : Int)) = true := decide_eq_true c3
    clear c3
    by_cases c4 : 0 ≤ a1
    · rw [if_pos c4] at H
      have c4b0 : decide (0 ≤ a1) = true := decide_eq_true c4
      clear c4
      obtain rfl := Option.some.inj H
      have p5 : 0 ≤ (a1 : Int) := of_decide_eq_true (by first | (with_reducible assumption) | assumption)
      have q5 : a1 < (a0.size : Int) := of_decide_eq_true (by first | (with_reducible assumption) | assumption)
      have hx5 := bt_at a0 a1
      replace p5 := eq_true p5
      replace q5 := eq_true q5
      go_enter Tryz.func90, Tryz.ntmps90
      go_wp2
      go_ret
      exact ⟨by first | rfl | (simp; done) | (simp [*]; done), by repeat (first | exact Drawn0.refl _ | apply Drawn0.step)⟩
    · rw [if_neg c4] at H
      exact absurd H (by simp)
  · rw [if_neg c3] at H
    have c3b0 : decide (a1 < (a0.size : Int)) = false := decide_eq_false c3
    clear c3
    obtain rfl := Option.some.inj H
    go_enter Tryz.func90, Tryz.ntmps90
    go_wp2
    go_ret
    exact ⟨by first | rfl | (simp; done) | (simp [*]; done), by repeat (first | exact Drawn0.refl _ | apply Drawn0.step)⟩
end Go.Proofs.YtiokfaiioealdaaGreatDoor.PG
