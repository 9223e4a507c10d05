/- The functions that the laws use, as Lean functions, and the contracts: printed by a program of this session out of the translation; Lean checks them. -/
import Derived.Test.YtlabpfebdhbgiaaPGx0
import Derived.Test.YtlabpfebdhbgiaaPGx1
namespace Go.Proofs.Ytlabpfebdhbgiaa.PG
open Go.RowKit Go.Proofs.YtlabpfebdhbgiaaW.PrintWords Go.Proofs.YtlabpfebdhbgiaaW.PrintLast Go.Proofs.YtlabpfebdhbgiaaW.PrintMore
attribute [local go_sem] max2_int min2_int max_two min_two max_three min_three max_four min_four   -- for this text's walks alone
set_option linter.unusedVariables false
set_option linter.unusedSimpArgs false

/-! ### gamma_Number: function 22 -/
section
open Go.Proofs.Ytlabpfebdhbgiaa.L
/-! #### what the pieces come to, in plain lists -/
theorem rd_at (l : List Int) (i : Nat) (h : i < l.length) : l[i]? = some (rd l (i : Int)) := by
  unfold rd
  rw [Int.toNat_natCast, List.getD_eq_getElem?_getD, List.getElem?_eq_getElem h]
  rfl
theorem w64 {x : Int} (h : -9223372036854775808 ≤ x ∧ x ≤ 9223372036854775807) : wrap64 x = x := by unfold wrap64; omega
theorem and_one (x : Int) : Go.bits .and .i64 x 1 = x % 2 := i64_mask 1 1 (by decide) (by decide) x
theorem gOnes_drop (l : List Int) (i : Nat) (h : i < l.length) : gOnes (l.drop i) = if rd l (i : Int) = 1 then gOnes (l.drop (i + 1)) + 1 else 0 := by
  have e : l[i] = rd l (i : Int) := by have := rd_at l i h; rw [List.getElem?_eq_getElem h] at this; exact Option.some.inj this
  rw [List.drop_eq_getElem_cons h, gOnes, e]
theorem ones_l0 (l : List Int) (hl : l.length ≤ 9223372036854775807) : ∀ (d i k : Nat), i + d = l.length → d < k → gamma_Ones.l0 k l l (l.length : Int) (i : Int) = some (((i + gOnes (l.drop i) : Nat) : Int), decide (l[i + gOnes (l.drop i)]? = some 0)) := by
  intro d
  induction d with
  | zero =>
    intro i k hi hk
    obtain ⟨k, rfl⟩ : ∃ m, k = m + 1 := ⟨k - 1, by omega⟩
    simp only [gamma_Ones.l0]
    have e : l.drop i = [] := List.drop_eq_nil_of_le (by omega)
    rw [if_neg (by omega), e]
    simp [gOnes, show i = l.length by omega]
  | succ d ih =>
    intro i k hi hk
    obtain ⟨k, rfl⟩ : ∃ m, k = m + 1 := ⟨k - 1, by omega⟩
    simp only [gamma_Ones.l0]
    have hd := gOnes_drop l i (by omega)
    rw [if_pos (by omega), if_pos (by omega), if_pos (by omega)]
    by_cases h1 : rd l (i : Int) = 1
    · rw [if_pos h1] at hd ⊢
      rw [w64 (by omega), show (i : Int) + 1 = ((i + 1 : Nat) : Int) by omega, ih (i + 1) k (by omega) (by omega), hd, show i + (gOnes (l.drop (i + 1)) + 1) = i + 1 + gOnes (l.drop (i + 1)) by omega]
    · rw [if_neg h1] at hd ⊢
      rw [hd, Nat.add_zero, rd_at l i (by omega)]
      congr 2
      rw [Bool.eq_iff_iff]; simp
theorem ones_f (l : List Int) (hl : l.length ≤ 9223372036854775807) (k : Nat) (hk : l.length < k) : gamma_Ones.f k l = some ((gOnes l : Int), decide (l[gOnes l]? = some 0)) := by
  have := ones_l0 l hl l.length 0 k (by omega) hk
  simpa [gamma_Ones.f] using this
theorem whole_f (l : List Int) (hl : l.length ≤ 9223372036854775807) (h25 : gOnes l ≤ 25) (k : Nat) (hk : l.length < k) : gamma_Whole.f k l = some (decide (l[gOnes l]? = some 0) && decide (l.length = 2 * gOnes l + 1)) := by
  unfold gamma_Whole.f
  rw [ones_f l hl k hk, Option.bind_some]
  simp only
  rw [w64 (x := 2 * _) (by omega), w64 (by omega)]
  cases decide (l[gOnes l]? = some 0)
  · simp
  · rw [if_pos rfl, Bool.true_and]
    congr 1
    rw [Bool.eq_iff_iff]; simp; omega
theorem bits_l0 (v : Nat) : ∀ (j k : Nat) (xs : List Int), j ≤ 60 → j < k → xs.length + j < 1000000 → gamma_Bits.l0 k (v : Int) xs ((j : Int) - 1) = some (xs ++ lowBits v j, 0) := by
  intro j
  induction j with
  | zero =>
    intro k xs h0 hk hx
    obtain ⟨k, rfl⟩ : ∃ m, k = m + 1 := ⟨k - 1, by omega⟩
    simp only [gamma_Bits.l0]
    rw [if_neg (by omega)]
    simp [lowBits]
  | succ j ih =>
    intro k xs h0 hk hx
    obtain ⟨k, rfl⟩ : ∃ m, k = m + 1 := ⟨k - 1, by omega⟩
    simp only [gamma_Bits.l0]
    have e : shr .i64 (v : Int) (((j + 1 : Nat) : Int) - 1) = ((v / 2 ^ j : Nat) : Int) := by
      unfold shr
      rw [show ((((j + 1 : Nat) : Int) - 1).toNat) = j by omega, Nat.min_eq_left (by show j ≤ 64; omega)]
      simp
    rw [if_pos (by omega), if_pos (by omega), if_pos (by omega), e, and_one, w64 (by omega), show ((j + 1 : Nat) : Int) - 1 - 1 = (j : Int) - 1 by omega, ih k _ (by omega) (by omega) (by simp; omega)]
    simp [lowBits]
theorem bitLen_log (v : Nat) (h0 : 0 < v) (h : v < 2 ^ 64) : Lib.bitLen v = Nat.log2 v + 1 := by
  have hs := Lib.bitLen_shift (Nat.log2 v) v (log2_bd v h0).1 h
  obtain ⟨h1, h2⟩ := log2_bd v h0
  rw [Nat.pow_succ] at h2
  have : v / 2 ^ Nat.log2 v = 1 := Nat.div_eq_of_lt_le (by omega) (by omega)
  rw [hs, this]
  rfl
theorem bits_f (u : Nat) (h : u ≤ 33554432) (k : Nat) (hk : 40 < k) : gamma_Bits.f k (u : Int) = some (gBits u, 0) := by
  obtain ⟨k, rfl⟩ : ∃ m, k = m + 1 := ⟨k - 1, by omega⟩
  have hl : Nat.log2 (u + 1) ≤ 25 := log2_le (by omega)
  unfold gamma_Bits.f
  rw [if_neg (by omega), show decide ((u : Int) > 33554432) = false by simp; omega]
  simp only [gamma_Bits.j0]
  rw [if_neg (by simp), w64 (by omega), show IntKind.u64.wrap ((u : Int) + 1) = ((u + 1 : Nat) : Int) by rw [IntKind.wrap_u64]; omega]
  have e : bits_Len.f ((u + 1 : Nat) : Int) = some ((Nat.log2 (u + 1) + 1 : Nat) : Int) := by
    unfold bits_Len.f
    rw [if_pos (by omega), Int.toNat_natCast, bitLen_log _ (by omega) (by omega)]
  rw [e, Option.bind_some, w64 (x := ((Nat.log2 (u + 1) + 1 : Nat) : Int) - 1) (by omega), show ((Nat.log2 (u + 1) + 1 : Nat) : Int) - 1 = (Nat.log2 (u + 1) : Int) by omega]
  have e2 : slices_Repeat_int_int.f [1] (Nat.log2 (u + 1) : Int) = some (List.replicate (Nat.log2 (u + 1)) 1) := by
    unfold slices_Repeat_int_int.f
    rw [if_pos ⟨rfl, by omega, by omega⟩, Int.toNat_natCast]
  rw [e2, Option.bind_some, if_pos (by simp; omega), w64 (by omega), show (u : Int) + 1 = ((u + 1 : Nat) : Int) by omega, bits_l0 (u + 1) _ _ _ (by omega) (by omega) (by simp; omega)]
  simp [gBits]
theorem bits_no (u : Int) (h : u < 0 ∨ 33554432 < u) (k : Nat) (hk : 0 < k) : gamma_Bits.f k u = some ([], 1100) := by
  obtain ⟨k, rfl⟩ : ∃ m, k = m + 1 := ⟨k - 1, by omega⟩
  unfold gamma_Bits.f
  by_cases h0 : u < 0
  · rw [if_pos h0]; simp [gamma_Bits.j0]
  · rw [if_neg h0, show decide (u > 33554432) = true by simp; omega]; simp [gamma_Bits.j0]
theorem equal_l0 (l m : List Int) (hl : l.length ≤ 9223372036854775806) (hm : l.length = m.length) : ∀ (d i k : Nat), i + d = l.length → d < k → slices_Equal_int_int.l0 k l m (l.length : Int) (i : Int) = some (decide (l.drop i = m.drop i)) := by
  intro d
  induction d with
  | zero =>
    intro i k hi hk
    obtain ⟨k, rfl⟩ : ∃ m, k = m + 1 := ⟨k - 1, by omega⟩
    simp only [slices_Equal_int_int.l0]
    rw [if_neg (by omega), List.drop_eq_nil_of_le (by omega), List.drop_eq_nil_of_le (by omega)]
    simp
  | succ d ih =>
    intro i k hi hk
    obtain ⟨k, rfl⟩ : ∃ m, k = m + 1 := ⟨k - 1, by omega⟩
    simp only [slices_Equal_int_int.l0]
    have e1 : l[i]'(by omega) = rd l (i : Int) := by have := rd_at l i (by omega); rw [List.getElem?_eq_getElem (by omega)] at this; exact Option.some.inj this
    have e2 : m[i]'(by omega) = rd m (i : Int) := by have := rd_at m i (by omega); rw [List.getElem?_eq_getElem (by omega)] at this; exact Option.some.inj this
    rw [if_pos (by omega), if_pos (by omega), if_pos (by omega), if_pos (by omega), List.drop_eq_getElem_cons (show i < l.length by omega), List.drop_eq_getElem_cons (show i < m.length by omega), e1, e2]
    by_cases h1 : rd l (i : Int) = rd m (i : Int)
    · rw [if_pos h1, w64 (by omega), show (i : Int) + 1 = ((i + 1 : Nat) : Int) by omega, ih (i + 1) k (by omega) (by omega), h1]
      simp
    · rw [if_neg h1]; simp [h1]
theorem equal_f (l m : List Int) (hl : l.length ≤ 9223372036854775806) (k : Nat) (hk : l.length < k) : slices_Equal_int_int.f k l m = some (decide (l = m)) := by
  unfold slices_Equal_int_int.f
  by_cases h : (l.length : Int) = (m.length : Int)
  · rw [if_pos h, show (0 : Int) = ((0 : Nat) : Int) from rfl, equal_l0 l m hl (by omega) l.length 0 k (by omega) hk]; simp
  · rw [if_neg h]; simp; rintro rfl; exact h rfl
def gamma_Number.f (l0 : List Int) : Option (Int × Int) := some (if gOk l0 then ((gNum l0 : Nat) : Int) else 0, if gOk l0 then 0 else 1100)
theorem or_low (V x : Int) (h0 : 0 ≤ V) (h1 : V ≤ 1000000000) (hx : 0 ≤ x) (hx1 : x ≤ 1) : Go.bits .or .i64 (V * 2) x = 2 * V + x := by
  obtain ⟨v, rfl⟩ := Int.eq_ofNat_of_zero_le h0
  obtain ⟨y, rfl⟩ := Int.eq_ofNat_of_zero_le hx
  have key : (BitVec.ofInt 64 ((v : Int) * 2) ||| BitVec.ofInt 64 (y : Int)).toNat = 2 * v + y := by
    rw [BitVec.toNat_or, BitVec.toNat_ofInt, BitVec.toNat_ofInt, show (((v : Int) * 2) % ((2 ^ 64 : Nat) : Int)).toNat = v <<< 1 by rw [Nat.shiftLeft_eq]; omega, show ((y : Int) % ((2 ^ 64 : Nat) : Int)).toNat = y by omega, ← Nat.shiftLeft_add_eq_or_of_lt (show y < 2 ^ 1 by omega), Nat.shiftLeft_eq]
    omega
  show IntKind.i64.wrap ((BitVec.ofInt 64 ((v : Int) * 2) ||| BitVec.ofInt 64 (y : Int)).toNat : Nat) = _
  rw [key, IntWalk.i64_in _ (by omega)]
  omega
theorem gVal_snoc (r : List Int) (b : Int) : ∀ v, gVal v (r ++ [b]) = 2 * gVal v r + (b % 2).toNat := by
  induction r with
  | nil => intro v; rfl
  | cons c r ih => intro v; exact ih _
theorem gVal_take (l : List Int) (j : Nat) (h : j < l.length) : gVal 1 (l.take (j + 1)) = 2 * gVal 1 (l.take j) + (rd l (j : Int) % 2).toNat := by
  have e : l[j] = rd l (j : Int) := by have := rd_at l j h; rw [List.getElem?_eq_getElem h] at this; exact Option.some.inj this
  rw [List.take_succ_eq_append_getElem h, gVal_snoc, e]
theorem gOk_short {l : List Int} (h : 25 < gOnes l) : gOk l = false := by unfold gOk; rw [show decide (gOnes l ≤ 25) = false by simp; omega]; rfl
theorem gOk_whole {l : List Int} (h : (decide (l[gOnes l]? = some 0) && decide (l.length = 2 * gOnes l + 1)) = false) : gOk l = false := by
  rcases Bool.and_eq_false_iff.1 h with h | h <;> simp [gOk, h]
theorem gOk_rest {l : List Int} (h1 : gOnes l ≤ 25) (h2 : l[gOnes l]? = some 0) (h3 : l.length = 2 * gOnes l + 1) : gOk l = ((l.drop (gOnes l + 1)).all isBit && decide (gVal 1 (l.drop (gOnes l + 1)) ≤ 33554433)) := by
  unfold gOk
  rw [show decide (gOnes l ≤ 25) = true by simp [h1], show decide (l[gOnes l]? = some 0) = true by simp [h2], show decide (l.length = 2 * gOnes l + 1) = true by simpa using h3]
  rfl
theorem number_no (A0 : Option Addr) (c0 : Nat) (l0 : List Int) (w : World) (hr0 : Kd.C (Kd.int .i64) w A0 l0.length l0) (hc0 : l0.length ≤ c0) (h : 25 < gOnes l0) :
    Calls Try.prog 22 #[.slice A0 l0.length c0] w fun e w' => e = .returned (.tuple #[.int .i64 0, .int .i64 1100]) ∧ Below w.heap.size w w' := by
  have hl := hr0.2.1
  obtain ⟨n, hn⟩ : ∃ n, gOnes l0 = n := ⟨_, rfl⟩
  have ho := ones_f l0 hl (l0.length + 1) (by omega)
  rw [hn] at ho h
  have HO := Lib.hid ho
  have HR := Lib.hid hr0
  clear hn ho hr0
  go_enter Try.func22, Try.ntmps22
  go_wp2_with fail
  refine (gamma_Ones.calls _ A0 c0 l0 _ _ _ HR.out hc0 HO.out).mono ?_
  rintro e w1 ⟨rfl, ⟨nd, rfl⟩⟩
  have hn1 : (25 : Int) < n := by omega
  go_wp2
  go_ret2
  exact ⟨rfl, below_drewN (Below.refl _ _) _⟩
theorem number_half (A0 : Option Addr) (c0 : Nat) (l0 : List Int) (w : World) (hr0 : Kd.C (Kd.int .i64) w A0 l0.length l0) (hc0 : l0.length ≤ c0) (h : gOnes l0 ≤ 25) (hw : (decide (l0[gOnes l0]? = some 0) && decide (l0.length = 2 * gOnes l0 + 1)) = false) :
    Calls Try.prog 22 #[.slice A0 l0.length c0] w fun e w' => e = .returned (.tuple #[.int .i64 0, .int .i64 1100]) ∧ Below w.heap.size w w' := by
  have hl := hr0.2.1
  have ho := ones_f l0 hl (l0.length + 1) (by omega)
  have hwh := whole_f l0 hl h (l0.length + 1) (by omega)
  rw [hw] at hwh
  obtain ⟨n, hn⟩ : ∃ n, gOnes l0 = n := ⟨_, rfl⟩
  rw [hn] at ho h
  have HO := Lib.hid ho
  have HW := Lib.hid hwh
  have HR := Lib.hid hr0
  clear hn ho hr0 hw hwh
  go_enter Try.func22, Try.ntmps22
  go_wp2_with fail
  refine (gamma_Ones.calls _ A0 c0 l0 _ _ _ HR.out hc0 HO.out).mono ?_
  rintro e w1 ⟨rfl, ⟨nd, rfl⟩⟩
  have hn1 : (n : Int) ≤ 25 := by omega
  go_wp2_with fail
  refine (gamma_Whole.calls _ A0 c0 l0 _ _ (Kd.C_below HR.out (below_drewN (Below.refl _ _) _)) hc0 HW.out).mono ?_
  rintro e w1 ⟨rfl, ⟨nd2, rfl⟩⟩
  go_wp2
  go_ret2
  exact ⟨rfl, below_drewN (Below.refl _ _) _⟩
def numV (l : List Int) : Value := .tuple #[.int .i64 (if gOk l then ((gNum l : Nat) : Int) else 0), .int .i64 (if gOk l then 0 else 1100)]
theorem numV_no {l : List Int} (h : gOk l = false) : numV l = .tuple #[.int .i64 0, .int .i64 1100] := by unfold numV; rw [h]; rfl
theorem numV_yes {l : List Int} {v : Int} (h : gOk l = true) (hv : v = ((gNum l : Nat) : Int)) : numV l = .tuple #[.int .i64 v, .int .i64 0] := by unfold numV; rw [h, hv]; rfl
set_option maxHeartbeats 1000000 in
theorem number_whole (A0 : Option Addr) (c0 : Nat) (l0 : List Int) (w : World) (hr0 : Kd.C (Kd.int .i64) w A0 l0.length l0) (hc0 : l0.length ≤ c0) (h : gOnes l0 ≤ 25) (h2 : l0[gOnes l0]? = some 0) (h3 : l0.length = 2 * gOnes l0 + 1) :
    Calls Try.prog 22 #[.slice A0 l0.length c0] w fun e w' => e = .returned (numV l0) ∧ Below w.heap.size w w' := by
  have hl := hr0.2.1
  have hrest := gOk_rest h h2 h3
  have hsame := gBits_same h2 h3
  have ho := ones_f l0 hl (l0.length + 1) (by omega)
  have hwh := whole_f l0 hl h (l0.length + 1) (by omega)
  rw [h2, show decide (l0.length = 2 * gOnes l0 + 1) = true by simpa using h3] at hwh
  rw [h2] at ho
  have hg : gNum l0 = gVal 1 (l0.drop (gOnes l0 + 1)) - 1 := rfl
  obtain ⟨n, hn⟩ : ∃ n, gOnes l0 = n := ⟨_, rfl⟩
  obtain ⟨i0, hi0, -, hsz0, -⟩ := info_parts int_info
  obtain ⟨A', hcut, hred⟩ := print_cut (P := Try.prog) 33 3 .i64 Try.underlying33 hi0 hsz0 A0 l0.length c0 (n + 1) (by omega)
  have hr1 : Kd.C (Kd.int .i64) w A' (l0.length - (n + 1)) (l0.drop (n + 1)) := Kd.C_of_reads (d := (0 : Int)) (hred w .i64 l0 hc0 (Kd.reads_of_C (d := (0 : Int)) hr0))
  rw [hn] at ho h hrest hsame hg h3
  obtain ⟨L, hL⟩ : ∃ L, l0.length - (n + 1) = L := ⟨_, rfl⟩
  obtain ⟨rest, hrs⟩ : ∃ rest, l0.drop (n + 1) = rest := ⟨_, rfl⟩
  have hLr : rest.length = L := by rw [← hrs, List.length_drop, hL]
  have hLn : L = n := by omega
  have hln : l0.length = 2 * n + 1 := h3
  rw [hrs] at hrest hsame hg hr1
  rw [hL] at hcut hr1
  have HO := Lib.hid ho
  have HW := Lib.hid hwh
  have HR := Lib.hid hr0
  have HR1 := Lib.hid hr1
  have HL := Lib.hid hLr
  have H3 := Lib.hid h3
  have HS := Lib.hid hsame
  have HRS := Lib.hid hrest
  have HG := Lib.hid hg
  have c1 := hcut
  rw [show ((n + 1 : Nat) : Int) = (n : Int) + 1 by omega] at c1
  obtain ⟨len, hlen⟩ : ∃ len, l0.length = len := ⟨_, rfl⟩
  have hlb : len ≤ 51 := by omega
  rw [hlen] at c1 hl ⊢
  have hlc : len ≤ c0 := by omega
  have HLEN := Lib.hid hlen
  clear hn ho hr0 hwh hr1 hred hcut h3 h2 hL hLr hrs hsame hrest hg hlen hln hc0
  go_enter Try.func22, Try.ntmps22
  go_wp2_with fail
  have hc0 : l0.length ≤ c0 := by rw [HLEN.out]; exact hlc
  rw [← HLEN.out]
  refine (gamma_Ones.calls _ A0 c0 l0 _ _ _ HR.out hc0 HO.out).mono ?_
  rintro e w1 ⟨rfl, ⟨nd, rfl⟩⟩
  rw [HLEN.out]
  clear hc0
  have hn1 : (n : Int) ≤ 25 := by omega
  have hn0 : (0 : Int) ≤ n := by omega
  go_wp2_with fail
  have hc0 : l0.length ≤ c0 := by rw [HLEN.out]; exact hlc
  rw [← HLEN.out]
  refine (gamma_Whole.calls _ A0 c0 l0 _ _ (Kd.C_below HR.out (below_drewN (Below.refl _ _) _)) hc0 HW.out).mono ?_
  rintro e w1 ⟨rfl, ⟨nd2, rfl⟩⟩
  rw [HLEN.out]
  clear hc0
  go_wp2
  have HB0 : Hid (Below w.heap.size w (w.drewN (nd + nd2))) := below_drewN (Below.refl _ _) _
  generalize w.drewN (nd + nd2) = W at HB0 ⊢
  go_loop [6, 28] (fun v i => ∃ j : Nat, i = .int .i64 j ∧ j ≤ L ∧ ∃ V : Int, v = .int .i64 V ∧ 0 ≤ V ∧ V ≤ 67108864 ∧ Hid (V = ((gVal 1 (rest.take j) : Nat) : Int))) (fun _ i => L - (intOf i).toNat)
  case atStart => exact ⟨0, rfl, by omega, 1, rfl, by omega, by omega, by show (1 : Int) = _; simp [gVal]⟩
  case round =>
    obtain ⟨j, rfl, hj, V, rfl, hV0, hV1, HV⟩ := hrel
    by_cases hlt : j < L
    · obtain ⟨ad, rfl, hx⟩ := Kd.at_int HR1.out (j : Int) (by omega) (by omega)
      obtain ⟨b, hb⟩ : ∃ b, rd rest (j : Int) = b := ⟨_, rfl⟩
      rw [hb, Int.toNat_natCast] at hx
      have hx := (HB0.out.cell (World.block_lt_of_cell? w _ hx)).trans hx
      have hstep := gVal_take rest j (by rw [HL.out]; exact hlt)
      have hrng := (gVal_range (rest.take (j + 1))).2
      rw [List.length_take, HL.out, Nat.min_eq_left (by omega)] at hrng
      have hp2 : 2 ^ (j + 1 + 1) ≤ 2 ^ 26 := Nat.pow_le_pow_right (by decide) (by omega)
      rw [hb] at hstep
      have e1 := and_one b
      obtain ⟨x, hxb⟩ : ∃ x, Go.bits .and .i64 b 1 = x := ⟨_, rfl⟩
      rw [hxb] at e1
      have x0 : 0 ≤ x := by omega
      have x1 : x ≤ 1 := by omega
      have e2 := or_low V x hV0 (by omega) x0 x1
      have hn' : 2 * V + x ≤ 67108864 := by have := HV.out; omega
      have HN : Hid (2 * V + x = ((gVal 1 (rest.take (j + 1)) : Nat) : Int)) := by show _ = _; have := HV.out; omega
      clear hstep hrng hp2 e1 hb HV
      go_wp2
      go_round
      case rel => exact ⟨j + 1, by go_num, by omega, 2 * V + x, rfl, by omega, hn', HN⟩
      case measure => simp [intOf]; omega
    · obtain rfl : j = L := by omega
      have hV : V = ((gVal 1 rest : Nat) : Int) := by have := HV.out; rwa [List.take_of_length_le (by rw [HL.out]; omega)] at this
      have hp := (gVal_range rest).1
      have hpp := Nat.two_pow_pos rest.length
      obtain ⟨G, hG⟩ : ∃ G, gVal 1 rest = G := ⟨_, rfl⟩
      rw [hG] at hV hp
      obtain ⟨u, hu⟩ : ∃ u, G = u + 1 := ⟨G - 1, by omega⟩
      have hgn : gNum l0 = u := by rw [HG.out, hG]; omega
      have hok := HRS.out
      rw [hG] at hok
      have hsm := HS.out
      rw [hgn] at hsm
      have HGN := Lib.hid hgn
      subst hu
      have HV2 := Lib.hid (show V - 1 = (u : Int) by omega)
      clear hV hp hpp hG HV
      rcases Nat.lt_or_ge 33554432 u with hbig | hbig
      · have hno : gOk l0 = false := by rw [hok, show decide (u + 1 ≤ 33554433) = false by simp; omega, Bool.and_false]
        have HD := Lib.hid (numV_no hno)
        have hb := bits_no (u : Int) (.inr (by omega)) 1 (by decide)
        rw [← HV2.out] at hb
        have HBI := Lib.hid hb
        clear hb hno hok hsm hgn
        go_wp2_with fail
        refine (gamma_Bits.calls 1 (V - 1) _ _ _ HBI.out).mono ?_
        rintro e w1 ⟨v, rfl, hR, hb⟩
        have HB1 := Lib.hid (below_next HB0.out hb)
        go_wp2
        go_ret2
        exact ⟨by rw [HD.out]; rfl, HB1.out⟩
      · have hb := bits_f u hbig 41 (by decide)
        rw [← HV2.out] at hb
        have HBI := Lib.hid hb
        have heq := equal_f (gBits u) l0 (by rw [gBits_length]; have := log2_le (n := 25) (v := u + 1) (by omega); omega) (l0.length + (gBits u).length + 1) (by omega)
        have hd : gOk l0 = decide (gBits u = l0) := by
          rw [hok, show decide (u + 1 ≤ 33554433) = true by simp; omega, Bool.and_true, Bool.eq_iff_iff, ← hsm]
          simp
        obtain ⟨B, hB⟩ : ∃ B, decide (gBits u = l0) = B := ⟨_, rfl⟩
        rw [hB] at hd heq
        have HEQ := Lib.hid heq
        clear hb heq hB hok hsm hgn
        cases B
        · have HD := Lib.hid (numV_no hd)
          clear hd
          go_wp2_with fail
          refine (gamma_Bits.calls 41 (V - 1) _ _ _ HBI.out).mono ?_
          rintro e w1 ⟨v, rfl, hR, hb⟩
          have HB1 := Lib.hid (below_next HB0.out hb)
          obtain ⟨Av, cv, rfl, hcv, hCv⟩ := Kd.R_reads hR
          have HCV := Lib.hid hCv
          clear hR hb hCv
          go_wp2_with fail
          have hc0 : l0.length ≤ c0 := by rw [HLEN.out]; exact hlc
          rw [← HLEN.out]
          refine (slices_Equal_int_int.calls _ Av cv (gBits u) A0 c0 l0 _ _ HCV.out hcv (Kd.C_below HR.out HB1.out) hc0 HEQ.out).mono ?_
          rintro e w2 ⟨rfl, ⟨nd3, rfl⟩⟩
          rw [HLEN.out]
          go_wp2
          go_ret2
          refine ⟨?_, below_drewN HB1.out _⟩
          rw [HD.out]; rfl
        · have HD := Lib.hid (numV_yes (v := V - 1) hd (by rw [HGN.out]; exact HV2.out))
          clear hd
          go_wp2_with fail
          refine (gamma_Bits.calls 41 (V - 1) _ _ _ HBI.out).mono ?_
          rintro e w1 ⟨v, rfl, hR, hb⟩
          have HB1 := Lib.hid (below_next HB0.out hb)
          obtain ⟨Av, cv, rfl, hcv, hCv⟩ := Kd.R_reads hR
          have HCV := Lib.hid hCv
          clear hR hb hCv
          go_wp2_with fail
          have hc0 : l0.length ≤ c0 := by rw [HLEN.out]; exact hlc
          rw [← HLEN.out]
          refine (slices_Equal_int_int.calls _ Av cv (gBits u) A0 c0 l0 _ _ HCV.out hcv (Kd.C_below HR.out HB1.out) hc0 HEQ.out).mono ?_
          rintro e w2 ⟨rfl, ⟨nd3, rfl⟩⟩
          rw [HLEN.out]
          go_wp2
          go_ret2
          refine ⟨?_, below_drewN HB1.out _⟩
          rw [HD.out]; rfl
theorem gamma_Number.calls (A0 : Option Addr) (c0 : Nat) (l0 : List Int) (r1 : Int) (r2 : Int) (w : World) (hr0 : Kd.C (Kd.int .i64) w A0 l0.length l0) (hc0 : l0.length ≤ c0) (h : gamma_Number.f l0 = some (r1, r2)) :
    Calls Try.prog 22 #[.slice A0 l0.length c0] w fun e w' => e = .returned (.tuple #[.int .i64 r1, .int .i64 r2]) ∧ Below w.heap.size w w' := by
  unfold gamma_Number.f at h
  simp only [Option.some.injEq, Prod.mk.injEq] at h
  obtain ⟨rfl, rfl⟩ := h
  rcases Nat.lt_or_ge 25 (gOnes l0) with h1 | h1
  · rw [gOk_short h1]; exact number_no A0 c0 l0 w hr0 hc0 h1
  · cases hw : (decide (l0[gOnes l0]? = some 0) && decide (l0.length = 2 * gOnes l0 + 1))
    · rw [gOk_whole hw]; exact number_half A0 c0 l0 w hr0 hc0 h1 hw
    · simp only [Bool.and_eq_true, decide_eq_true_eq] at hw
      exact number_whole A0 c0 l0 w hr0 hc0 h1 hw.1 hw.2
end


/-! ### descantlaw11_awake: function 27 -/
def descantlaw11_awake.f (k : Nat)  : Option (Bool) := (gamma_Bits.f k 4).bind fun bt121 => ((gamma_Number.f bt121.1).bind fun bt125 => ((gamma_Bits.f k (-1)).bind fun bt127 => ((gamma_Number.f (([1, 0] : List Int))).bind fun bt134 => ((descantlaw0_SameInts.f k bt121.1 (([1, 1, 0, 0, 1] : List Int))).bind fun t139 => (if t139 = true then ((descantlaw0_Num.f bt121.2).bind fun t140 => (if t140 = 0 then (if bt125.1 = 4 then ((descantlaw0_Num.f bt125.2).bind fun t141 => (if t141 = 0 then ((descantlaw0_Num.f bt127.2).bind fun t142 => (if t142 = 1100 then ((descantlaw0_Num.f bt134.2).bind fun t143 => (some (t143 == 1100))) else (some false))) else (some false))) else (some false)) else (some false))) else (some false))))))
theorem descantlaw11_awake.mono : ∀ k, LeO (descantlaw11_awake.f k ) (descantlaw11_awake.f (k + 1) ) := by
  intro  k
  unfold descantlaw11_awake.f
  repeat' first
      | (with_reducible exact descantlaw0_SameInts.mono _ _ _)
      | (with_reducible exact gamma_Bits.mono _ _)
      | (with_reducible exact LeO.refl _)
      | (with_reducible exact LeO.none _)
      | (with_reducible refine LeO.ite ?_ ?_)
      | (with_reducible refine LeO.bind ?_ (fun _ => ?_))
      | exact descantlaw0_SameInts.mono _ _ _
      | exact gamma_Bits.mono _ _
      | exact LeO.none _
      | refine LeO.ite ?_ ?_
      | refine LeO.bind ?_ (fun _ => ?_)
set_option maxHeartbeats 8000000 in
set_option maxRecDepth 100000 in
theorem descantlaw11_awake.calls (k : Nat)  (r : Bool) (w : World) (h : descantlaw11_awake.f k  = some r) :
    Calls Try.prog 27 #[] w fun e w' => e = .returned (.bool r) ∧ Below w.heap.size w w' := by
  have HB := Aside0.mk (Below.refl w.heap.size w)
  have H : ((gamma_Bits.f k 4).bind fun bt121 => ((gamma_Number.f bt121.1).bind fun bt125 => ((gamma_Bits.f k (-1)).bind fun bt127 => ((gamma_Number.f (([1, 0] : List Int))).bind fun bt134 => ((descantlaw0_SameInts.f k bt121.1 (([1, 1, 0, 0, 1] : List Int))).bind fun t139 => (if t139 = true then ((descantlaw0_Num.f bt121.2).bind fun t140 => (if t140 = 0 then (if bt125.1 = 4 then ((descantlaw0_Num.f bt125.2).bind fun t141 => (if t141 = 0 then ((descantlaw0_Num.f bt127.2).bind fun t142 => (if t142 = 1100 then ((descantlaw0_Num.f bt134.2).bind fun t143 => (some (t143 == 1100))) else (some false))) else (some false))) else (some false)) else (some false))) else (some false))))))) = some r := h
  clear h
  replace H := Option.bind_eq_some_iff.mp H
  obtain ⟨⟨t121, t122⟩, A10, H⟩ := H
  replace H : ((gamma_Number.f t121).bind fun bt125 => ((gamma_Bits.f k (-1)).bind fun bt127 => ((gamma_Number.f (([1, 0] : List Int))).bind fun bt134 => ((descantlaw0_SameInts.f k t121 (([1, 1, 0, 0, 1] : List Int))).bind fun t139 => (if t139 = true then ((descantlaw0_Num.f t122).bind fun t140 => (if t140 = 0 then (if bt125.1 = 4 then ((descantlaw0_Num.f bt125.2).bind fun t141 => (if t141 = 0 then ((descantlaw0_Num.f bt127.2).bind fun t142 => (if t142 = 1100 then ((descantlaw0_Num.f bt134.2).bind fun t143 => (some (t143 == 1100))) else (some false))) else (some false))) else (some false)) else (some false))) else (some false)))))) = some r := H
  have A1 := Aside0.mk A10
  clear A10
  replace H := Option.bind_eq_some_iff.mp H
  obtain ⟨⟨t125, t126⟩, A20, H⟩ := H
  replace H : ((gamma_Bits.f k (-1)).bind fun bt127 => ((gamma_Number.f (([1, 0] : List Int))).bind fun bt134 => ((descantlaw0_SameInts.f k t121 (([1, 1, 0, 0, 1] : List Int))).bind fun t139 => (if t139 = true then ((descantlaw0_Num.f t122).bind fun t140 => (if t140 = 0 then (if t125 = 4 then ((descantlaw0_Num.f t126).bind fun t141 => (if t141 = 0 then ((descantlaw0_Num.f bt127.2).bind fun t142 => (if t142 = 1100 then ((descantlaw0_Num.f bt134.2).bind fun t143 => (some (t143 == 1100))) else (some false))) else (some false))) else (some false)) else (some false))) else (some false))))) = some r := H
  have A2 := Aside0.mk A20
  clear A20
  replace H := Option.bind_eq_some_iff.mp H
  obtain ⟨⟨t127, t128⟩, A30, H⟩ := H
  replace H : ((gamma_Number.f (([1, 0] : List Int))).bind fun bt134 => ((descantlaw0_SameInts.f k t121 (([1, 1, 0, 0, 1] : List Int))).bind fun t139 => (if t139 = true then ((descantlaw0_Num.f t122).bind fun t140 => (if t140 = 0 then (if t125 = 4 then ((descantlaw0_Num.f t126).bind fun t141 => (if t141 = 0 then ((descantlaw0_Num.f t128).bind fun t142 => (if t142 = 1100 then ((descantlaw0_Num.f bt134.2).bind fun t143 => (some (t143 == 1100))) else (some false))) else (some false))) else (some false)) else (some false))) else (some false)))) = some r := H
  have A3 := Aside0.mk A30
  clear A30
  obtain ⟨y131, hy131⟩ : ∃ y_ : List Int, y_ = (([1, 0] : List Int)) := ⟨_, rfl⟩
  replace H : ((gamma_Number.f y131).bind fun bt134 => ((descantlaw0_SameInts.f k t121 (([1, 1, 0, 0, 1] : List Int))).bind fun t139 => (if t139 = true then ((descantlaw0_Num.f t122).bind fun t140 => (if t140 = 0 then (if t125 = 4 then ((descantlaw0_Num.f t126).bind fun t141 => (if t141 = 0 then ((descantlaw0_Num.f t128).bind fun t142 => (if t142 = 1100 then ((descantlaw0_Num.f bt134.2).bind fun t143 => (some (t143 == 1100))) else (some false))) else (some false))) else (some false)) else (some false))) else (some false)))) = some r := by first | (rw [hy131]; with_reducible exact H) | (have H2_ := (Option.bind_some _ _).symm.trans H; rw [hy131]; with_reducible exact H2_) | (have H2_ := (Option.bind_some _ _).symm.trans H; with_reducible exact H2_) | with_reducible exact H | (rw [hy131]; exact H) | exact H
  have Ny131 := Aside0.mk hy131
  clear hy131
  replace H := Option.bind_eq_some_iff.mp H
  obtain ⟨⟨t134, t135⟩, A40, H⟩ := H
  replace H : ((descantlaw0_SameInts.f k t121 (([1, 1, 0, 0, 1] : List Int))).bind fun t139 => (if t139 = true then ((descantlaw0_Num.f t122).bind fun t140 => (if t140 = 0 then (if t125 = 4 then ((descantlaw0_Num.f t126).bind fun t141 => (if t141 = 0 then ((descantlaw0_Num.f t128).bind fun t142 => (if t142 = 1100 then ((descantlaw0_Num.f t135).bind fun t143 => (some (t143 == 1100))) else (some false))) else (some false))) else (some false)) else (some false))) else (some false))) = some r := H
  have A4 := Aside0.mk A40
  clear A40
  obtain ⟨y136, hy136⟩ : ∃ y_ : List Int, y_ = (([1, 1, 0, 0, 1] : List Int)) := ⟨_, rfl⟩
  replace H : ((descantlaw0_SameInts.f k t121 y136).bind fun t139 => (if t139 = true then ((descantlaw0_Num.f t122).bind fun t140 => (if t140 = 0 then (if t125 = 4 then ((descantlaw0_Num.f t126).bind fun t141 => (if t141 = 0 then ((descantlaw0_Num.f t128).bind fun t142 => (if t142 = 1100 then ((descantlaw0_Num.f t135).bind fun t143 => (some (t143 == 1100))) else (some false))) else (some false))) else (some false)) else (some false))) else (some false))) = some r := by first | (rw [hy136]; with_reducible exact H) | (have H2_ := (Option.bind_some _ _).symm.trans H; rw [hy136]; with_reducible exact H2_) | (have H2_ := (Option.bind_some _ _).symm.trans H; with_reducible exact H2_) | with_reducible exact H | (rw [hy136]; exact H) | exact H
  have Ny136 := Aside0.mk hy136
  clear hy136
  replace H := Option.bind_eq_some_iff.mp H
  obtain ⟨t139, A50, H⟩ := H
  replace H : (if t139 = true then ((descantlaw0_Num.f t122).bind fun t140 => (if t140 = 0 then (if t125 = 4 then ((descantlaw0_Num.f t126).bind fun t141 => (if t141 = 0 then ((descantlaw0_Num.f t128).bind fun t142 => (if t142 = 1100 then ((descantlaw0_Num.f t135).bind fun t143 => (some (t143 == 1100))) else (some false))) else (some false))) else (some false)) else (some false))) else (some false)) = some r := H
  have A5 := Aside0.mk A50
  clear A50
  by_cases c6 : t139 = true
  · subst c6
    have H1 : ((descantlaw0_Num.f t122).bind fun t140 => (if t140 = 0 then (if t125 = 4 then ((descantlaw0_Num.f t126).bind fun t141 => (if t141 = 0 then ((descantlaw0_Num.f t128).bind fun t142 => (if t142 = 1100 then ((descantlaw0_Num.f t135).bind fun t143 => (some (t143 == 1100))) else (some false))) else (some false))) else (some false)) else (some false))) = some r := by rw [if_pos rfl] at H; exact H
    clear H
    have H := H1
    clear H1
    replace H := Option.bind_eq_some_iff.mp H
    obtain ⟨t140, A70, H⟩ := H
    replace H : (if t140 = 0 then (if t125 = 4 then ((descantlaw0_Num.f t126).bind fun t141 => (if t141 = 0 then ((descantlaw0_Num.f t128).bind fun t142 => (if t142 = 1100 then ((descantlaw0_Num.f t135).bind fun t143 => (some (t143 == 1100))) else (some false))) else (some false))) else (some false)) else (some false)) = some r := H
    have A7 := Aside0.mk A70
    clear A70
    by_cases c8 : t140 = 0
    · rw [if_pos c8] at H
      have c8b0 : (t140 == 0) = true := beq_iff_eq.mpr c8
      have c8b1 : (t140 != 0) = false := bne_eq_false_iff_eq.mpr c8
      clear c8
      by_cases c9 : t125 = 4
      · rw [if_pos c9] at H
        have c9b0 : (t125 == 4) = true := beq_iff_eq.mpr c9
        have c9b1 : (t125 != 4) = false := bne_eq_false_iff_eq.mpr c9
        clear c9
        replace H := Option.bind_eq_some_iff.mp H
        obtain ⟨t141, A100, H⟩ := H
        replace H : (if t141 = 0 then ((descantlaw0_Num.f t128).bind fun t142 => (if t142 = 1100 then ((descantlaw0_Num.f t135).bind fun t143 => (some (t143 == 1100))) else (some false))) else (some false)) = some r := H
        have A10 := Aside0.mk A100
        clear A100
        by_cases c11 : t141 = 0
        · rw [if_pos c11] at H
          have c11b0 : (t141 == 0) = true := beq_iff_eq.mpr c11
          have c11b1 : (t141 != 0) = false := bne_eq_false_iff_eq.mpr c11
          clear c11
          replace H := Option.bind_eq_some_iff.mp H
          obtain ⟨t142, A120, H⟩ := H
          replace H : (if t142 = 1100 then ((descantlaw0_Num.f t135).bind fun t143 => (some (t143 == 1100))) else (some false)) = some r := H
          have A12 := Aside0.mk A120
          clear A120
          by_cases c13 : t142 = 1100
          · rw [if_pos c13] at H
            have c13b0 : (t142 == 1100) = true := beq_iff_eq.mpr c13
            have c13b1 : (t142 != 1100) = false := bne_eq_false_iff_eq.mpr c13
            clear c13
            replace H := Option.bind_eq_some_iff.mp H
            obtain ⟨t143, A140, H⟩ := H
            replace H : (some (t143 == 1100)) = some r := H
            have A14 := Aside0.mk A140
            clear A140
            obtain rfl := Option.some.inj H
            go_enter Try.func27, Try.ntmps27
            go_wp2_with (first | ((with_reducible refine gate_callee (f := 20) rfl ?_); refine goesL_ (some 10) rfl rfl Try.func20 (by kernel_rfl) rfl #[.int .i64 4] rfl (by (try simp only [List.map_toArray, List.map_cons, List.map_nil]); first | done | rfl | (simp only [List.length_drop, List.length_take]; rfl)) ?_; (with_reducible refine (gamma_Bits.calls k 4 t121 t122 _ A1.out).mono ?_); rintro e w15 ⟨v123, rfl, ho0, hb⟩; refine ⟨_, rfl, ?_⟩; have n0_ := Aside0.mk (Kd.R_lower ho0 (below_size (by repeat (first | (with_reducible first | exact HB.out | apply below_alloc | apply pw_below_drewN | apply below_drew1) | exact HB.out)))); have n1_ := Aside0.mk (below_step (by repeat (first | (with_reducible first | exact HB.out | apply below_alloc | apply pw_below_drewN | apply below_drew1) | exact HB.out)) hb); clear HB; have HO124 := n0_; have HB := n1_; clear n0_ n1_; (try clear hb); (try clear hb2); (try clear hk); (try clear hi); (try clear ho0); obtain ⟨Ao16, co16, eo16⟩ := Kd.R_slice HO124.out; subst eo16) | ((with_reducible refine gate_callee (f := 22) rfl ?_); refine goesL_ (some 15) rfl rfl Try.func22 (by kernel_rfl) rfl #[.slice Ao16 t121.length co16] rfl (by (try simp only [List.map_toArray, List.map_cons, List.map_nil]); first | done | rfl | (simp only [List.length_drop, List.length_take]; rfl)) ?_; (with_reducible refine (gamma_Number.calls _ _ t121 t125 t126 _ ?side1 ?side2 A2.out).mono ?_); (case side1 => repeat (first | exact (Kd.R_reads' HO124.out).2.2 | (with_reducible refine Kd.C_alloc ?_ _) | (with_reducible refine Kd.C_drewN ?_ _) | (with_reducible refine Kd.C_drew ?_))); (case side2 => exact (Kd.R_reads' HO124.out).2.1); rintro e w17 ⟨rfl, hb⟩; refine ⟨_, rfl, ?_⟩; have n0_ := Aside0.mk (Kd.R_below (by (with_reducible repeat (first | apply Kd.R_alloc | apply Kd.R_drewN | apply Kd.R_drew)); exact HO124.out) hb); have n1_ := Aside0.mk (below_step (by repeat (first | (with_reducible first | exact HB.out | apply below_alloc | apply pw_below_drewN | apply below_drew1) | exact HB.out)) hb); clear HO124; clear HB; have HO124 := n0_; have HB := n1_; clear n0_ n1_; (try clear hb); (try clear hb2); (try clear hk); (try clear hi)) | ((with_reducible refine gate_callee (f := 20) rfl ?_); refine goesL_ (some 19) rfl rfl Try.func20 (by kernel_rfl) rfl #[.int .i64 (-1)] rfl (by (try simp only [List.map_toArray, List.map_cons, List.map_nil]); first | done | rfl | (simp only [List.length_drop, List.length_take]; rfl)) ?_; (with_reducible refine (gamma_Bits.calls k (-1) t127 t128 _ A3.out).mono ?_); rintro e w18 ⟨v129, rfl, ho0, hb⟩; refine ⟨_, rfl, ?_⟩; have n0_ := Aside0.mk (Kd.R_elder' (by (with_reducible repeat (first | apply Kd.R_alloc | apply Kd.R_drewN | apply Kd.R_drew)); exact HO124.out) (Kd.R_base ho0) hb); have n1_ := Aside0.mk (Kd.R_lower (Kd.R_new' ho0 (Kd.R_lt (by (with_reducible repeat (first | apply Kd.R_alloc | apply Kd.R_drewN | apply Kd.R_drew)); exact HO124.out))) (below_size (by repeat (first | (with_reducible first | exact HB.out | apply below_alloc | apply pw_below_drewN | apply below_drew1) | exact HB.out)))); have n2_ := Aside0.mk (below_step (by repeat (first | (with_reducible first | exact HB.out | apply below_alloc | apply pw_below_drewN | apply below_drew1) | exact HB.out)) hb); clear HO124; clear HB; have HO124 := n0_; have HO130 := n1_; have HB := n2_; clear n0_ n1_ n2_; (try clear hb); (try clear hb2); (try clear hk); (try clear hi); (try clear ho0)) | ((with_reducible refine gate_dst (N := 23) rfl ?_); refine Kd.R_lit (Kd.int .i64) _ 3 ?hg (N := 23) ?hd (xs := ([1, 0] : List Int)) (inner := [.int .i64 1, .int .i64 0]) (ok := fun _ => True) (okp := fun _ => True) ?hr ?hp (fun _ hk => hk) trivial (Below.refl _ _) (Nat.le_refl _) (by simp) ?_; (case hd => rfl); (case hg => rfl); (case hr => first | (go_simp; done) | (go_simp; rfl)); (case hp => exact (Reps.one (show Kd.M (Kd.int .i64) _ _ _ 1 [.int .i64 1] from rfl) (Reps.one (show Kd.M (Kd.int .i64) _ _ _ 0 [.int .i64 0] from rfl) (Reps.none _ _)))); intro v132 w19 ho20 hb hg_ hnew_; clear hg_ hnew_; (first | rw [← Ny131.out] at ho20 | (simp only [Int.reduceToNat] at ho20; rw [← Ny131.out] at ho20)); have n0_ := Aside0.mk (Kd.R_elder' (by (with_reducible repeat (first | apply Kd.R_alloc | apply Kd.R_drewN | apply Kd.R_drew)); exact HO124.out) (Kd.R_base ho20) hb); have n1_ := Aside0.mk (Kd.R_elder' (by (with_reducible repeat (first | apply Kd.R_alloc | apply Kd.R_drewN | apply Kd.R_drew)); exact HO130.out) (Kd.R_base ho20) hb); have n2_ := Aside0.mk (Kd.R_lower (Kd.R_new' (Kd.R_new' ho20 (Kd.R_lt (by (with_reducible repeat (first | apply Kd.R_alloc | apply Kd.R_drewN | apply Kd.R_drew)); exact HO124.out))) (Kd.R_lt (by (with_reducible repeat (first | apply Kd.R_alloc | apply Kd.R_drewN | apply Kd.R_drew)); exact HO130.out))) (below_size (by repeat (first | (with_reducible first | exact HB.out | apply below_alloc | apply pw_below_drewN | apply below_drew1) | exact HB.out)))); have n3_ := Aside0.mk (below_step (by repeat (first | (with_reducible first | exact HB.out | apply below_alloc | apply pw_below_drewN | apply below_drew1) | exact HB.out)) hb); clear HO124; clear HO130; clear HB; have HO124 := n0_; have HO130 := n1_; have HO133 := n2_; have HB := n3_; clear n0_ n1_ n2_ n3_; clear hb ho20; obtain ⟨Ao21, co21, eo21⟩ := Kd.R_slice HO133.out; subst eo21) | ((with_reducible refine gate_callee (f := 22) rfl ?_); refine goesL_ (some 24) rfl rfl Try.func22 (by kernel_rfl) rfl #[.slice Ao21 y131.length co21] rfl (by (try simp only [List.map_toArray, List.map_cons, List.map_nil]); first | done | rfl | (simp only [List.length_drop, List.length_take]; rfl)) ?_; (with_reducible refine (gamma_Number.calls _ _ y131 t134 t135 _ ?side1 ?side2 A4.out).mono ?_); (case side1 => repeat (first | exact (Kd.R_reads' HO133.out).2.2 | (with_reducible refine Kd.C_alloc ?_ _) | (with_reducible refine Kd.C_drewN ?_ _) | (with_reducible refine Kd.C_drew ?_))); (case side2 => exact (Kd.R_reads' HO133.out).2.1); rintro e w22 ⟨rfl, hb⟩; refine ⟨_, rfl, ?_⟩; have n0_ := Aside0.mk (Kd.R_below (by (with_reducible repeat (first | apply Kd.R_alloc | apply Kd.R_drewN | apply Kd.R_drew)); exact HO124.out) hb); have n1_ := Aside0.mk (Kd.R_below (by (with_reducible repeat (first | apply Kd.R_alloc | apply Kd.R_drewN | apply Kd.R_drew)); exact HO130.out) hb); have n2_ := Aside0.mk (Kd.R_below (by (with_reducible repeat (first | apply Kd.R_alloc | apply Kd.R_drewN | apply Kd.R_drew)); exact HO133.out) hb); have n3_ := Aside0.mk (below_step (by repeat (first | (with_reducible first | exact HB.out | apply below_alloc | apply pw_below_drewN | apply below_drew1) | exact HB.out)) hb); clear HO124; clear HO130; clear HO133; clear HB; have HO124 := n0_; have HO130 := n1_; have HO133 := n2_; have HB := n3_; clear n0_ n1_ n2_ n3_; (try clear hb); (try clear hb2); (try clear hk); (try clear hi)) | ((with_reducible refine gate_dst (N := 28) rfl ?_); refine Kd.R_lit (Kd.int .i64) _ 3 ?hg (N := 28) ?hd (xs := ([1, 1, 0, 0, 1] : List Int)) (inner := [.int .i64 1, .int .i64 1, .int .i64 0, .int .i64 0, .int .i64 1]) (ok := fun _ => True) (okp := fun _ => True) ?hr ?hp (fun _ hk => hk) trivial (Below.refl _ _) (Nat.le_refl _) (by simp) ?_; (case hd => rfl); (case hg => rfl); (case hr => first | (go_simp; done) | (go_simp; rfl)); (case hp => exact (Reps.one (show Kd.M (Kd.int .i64) _ _ _ 1 [.int .i64 1] from rfl) (Reps.one (show Kd.M (Kd.int .i64) _ _ _ 1 [.int .i64 1] from rfl) (Reps.one (show Kd.M (Kd.int .i64) _ _ _ 0 [.int .i64 0] from rfl) (Reps.one (show Kd.M (Kd.int .i64) _ _ _ 0 [.int .i64 0] from rfl) (Reps.one (show Kd.M (Kd.int .i64) _ _ _ 1 [.int .i64 1] from rfl) (Reps.none _ _))))))); intro v137 w23 ho24 hb hg_ hnew_; clear hg_ hnew_; (first | rw [← Ny136.out] at ho24 | (simp only [Int.reduceToNat] at ho24; rw [← Ny136.out] at ho24)); have n0_ := Aside0.mk (Kd.R_elder' (by (with_reducible repeat (first | apply Kd.R_alloc | apply Kd.R_drewN | apply Kd.R_drew)); exact HO124.out) (Kd.R_base ho24) hb); have n1_ := Aside0.mk (Kd.R_elder' (by (with_reducible repeat (first | apply Kd.R_alloc | apply Kd.R_drewN | apply Kd.R_drew)); exact HO130.out) (Kd.R_base ho24) hb); have n2_ := Aside0.mk (Kd.R_elder' (by (with_reducible repeat (first | apply Kd.R_alloc | apply Kd.R_drewN | apply Kd.R_drew)); exact HO133.out) (Kd.R_base ho24) hb); have n3_ := Aside0.mk (Kd.R_lower (Kd.R_new' (Kd.R_new' (Kd.R_new' ho24 (Kd.R_lt (by (with_reducible repeat (first | apply Kd.R_alloc | apply Kd.R_drewN | apply Kd.R_drew)); exact HO124.out))) (Kd.R_lt (by (with_reducible repeat (first | apply Kd.R_alloc | apply Kd.R_drewN | apply Kd.R_drew)); exact HO130.out))) (Kd.R_lt (by (with_reducible repeat (first | apply Kd.R_alloc | apply Kd.R_drewN | apply Kd.R_drew)); exact HO133.out))) (below_size (by repeat (first | (with_reducible first | exact HB.out | apply below_alloc | apply pw_below_drewN | apply below_drew1) | exact HB.out)))); have n4_ := Aside0.mk (below_step (by repeat (first | (with_reducible first | exact HB.out | apply below_alloc | apply pw_below_drewN | apply below_drew1) | exact HB.out)) hb); clear HO124; clear HO130; clear HO133; clear HB; have HO124 := n0_; have HO130 := n1_; have HO133 := n2_; have HO138 := n3_; have HB := n4_; clear n0_ n1_ n2_ n3_ n4_; clear hb ho24; obtain ⟨Ao25, co25, eo25⟩ := Kd.R_slice HO138.out; subst eo25) | ((with_reducible refine gate_callee (f := 24) rfl ?_); refine goesL_ (some 29) rfl rfl Try.func24 (by kernel_rfl) rfl #[.slice Ao16 t121.length co16, .slice Ao25 y136.length co25] rfl (by (try simp only [List.map_toArray, List.map_cons, List.map_nil]); first | done | rfl | (simp only [List.length_drop, List.length_take]; rfl)) ?_; (with_reducible refine (descantlaw0_SameInts.calls k _ _ t121 _ _ y136 true _ ?side1 ?side2 ?side3 ?side4 A5.out).mono ?_); (case side1 => repeat (first | exact (Kd.R_reads' HO124.out).2.2 | (with_reducible refine Kd.C_alloc ?_ _) | (with_reducible refine Kd.C_drewN ?_ _) | (with_reducible refine Kd.C_drew ?_))); (case side2 => exact (Kd.R_reads' HO124.out).2.1); (case side3 => repeat (first | exact (Kd.R_reads' HO138.out).2.2 | (with_reducible refine Kd.C_alloc ?_ _) | (with_reducible refine Kd.C_drewN ?_ _) | (with_reducible refine Kd.C_drew ?_))); (case side4 => exact (Kd.R_reads' HO138.out).2.1); rintro e w' ⟨rfl, ⟨nd, rfl⟩⟩; refine ⟨_, rfl, ?_⟩) | (go_at_call 16; (with_reducible refine (descantlaw0_Num.calls t122 t140 _ A7.out).mono ?_); rintro e w' ⟨rfl, ⟨nd, rfl⟩⟩) | (go_at_call 16; (with_reducible refine (descantlaw0_Num.calls t126 t141 _ A10.out).mono ?_); rintro e w' ⟨rfl, ⟨nd, rfl⟩⟩) | (go_at_call 16; (with_reducible refine (descantlaw0_Num.calls t128 t142 _ A12.out).mono ?_); rintro e w' ⟨rfl, ⟨nd, rfl⟩⟩) | (go_at_call 16; (with_reducible refine (descantlaw0_Num.calls t135 t143 _ A14.out).mono ?_); rintro e w' ⟨rfl, ⟨nd, rfl⟩⟩))
            go_ret
            exact ⟨by first | rfl | (simp [errW_none, errW_some] <;> rfl) | (simp [*, errW_none, errW_some] <;> rfl), by repeat (first | (with_reducible first | exact HB.out | apply below_alloc | apply pw_below_drewN | apply below_drew1) | exact HB.out)⟩
          · rw [if_neg c13] at H
            have c13b0 : (t142 == 1100) = false := beq_eq_false_iff_ne.mpr c13
            have c13b1 : (t142 != 1100) = true := bne_iff_ne.mpr c13
            obtain rfl := Option.some.inj H
            go_enter Try.func27, Try.ntmps27
            go_wp2_with (first | ((with_reducible refine gate_callee (f := 20) rfl ?_); refine goesL_ (some 10) rfl rfl Try.func20 (by kernel_rfl) rfl #[.int .i64 4] rfl (by (try simp only [List.map_toArray, List.map_cons, List.map_nil]); first | done | rfl | (simp only [List.length_drop, List.length_take]; rfl)) ?_; (with_reducible refine (gamma_Bits.calls k 4 t121 t122 _ A1.out).mono ?_); rintro e w26 ⟨v123, rfl, ho0, hb⟩; refine ⟨_, rfl, ?_⟩; have n0_ := Aside0.mk (Kd.R_lower ho0 (below_size (by repeat (first | (with_reducible first | exact HB.out | apply below_alloc | apply pw_below_drewN | apply below_drew1) | exact HB.out)))); have n1_ := Aside0.mk (below_step (by repeat (first | (with_reducible first | exact HB.out | apply below_alloc | apply pw_below_drewN | apply below_drew1) | exact HB.out)) hb); clear HB; have HO124 := n0_; have HB := n1_; clear n0_ n1_; (try clear hb); (try clear hb2); (try clear hk); (try clear hi); (try clear ho0); obtain ⟨Ao27, co27, eo27⟩ := Kd.R_slice HO124.out; subst eo27) | ((with_reducible refine gate_callee (f := 22) rfl ?_); refine goesL_ (some 15) rfl rfl Try.func22 (by kernel_rfl) rfl #[.slice Ao27 t121.length co27] rfl (by (try simp only [List.map_toArray, List.map_cons, List.map_nil]); first | done | rfl | (simp only [List.length_drop, List.length_take]; rfl)) ?_; (with_reducible refine (gamma_Number.calls _ _ t121 t125 t126 _ ?side1 ?side2 A2.out).mono ?_); (case side1 => repeat (first | exact (Kd.R_reads' HO124.out).2.2 | (with_reducible refine Kd.C_alloc ?_ _) | (with_reducible refine Kd.C_drewN ?_ _) | (with_reducible refine Kd.C_drew ?_))); (case side2 => exact (Kd.R_reads' HO124.out).2.1); rintro e w28 ⟨rfl, hb⟩; refine ⟨_, rfl, ?_⟩; have n0_ := Aside0.mk (Kd.R_below (by (with_reducible repeat (first | apply Kd.R_alloc | apply Kd.R_drewN | apply Kd.R_drew)); exact HO124.out) hb); have n1_ := Aside0.mk (below_step (by repeat (first | (with_reducible first | exact HB.out | apply below_alloc | apply pw_below_drewN | apply below_drew1) | exact HB.out)) hb); clear HO124; clear HB; have HO124 := n0_; have HB := n1_; clear n0_ n1_; (try clear hb); (try clear hb2); (try clear hk); (try clear hi)) | ((with_reducible refine gate_callee (f := 20) rfl ?_); refine goesL_ (some 19) rfl rfl Try.func20 (by kernel_rfl) rfl #[.int .i64 (-1)] rfl (by (try simp only [List.map_toArray, List.map_cons, List.map_nil]); first | done | rfl | (simp only [List.length_drop, List.length_take]; rfl)) ?_; (with_reducible refine (gamma_Bits.calls k (-1) t127 t128 _ A3.out).mono ?_); rintro e w29 ⟨v129, rfl, ho0, hb⟩; refine ⟨_, rfl, ?_⟩; have n0_ := Aside0.mk (Kd.R_elder' (by (with_reducible repeat (first | apply Kd.R_alloc | apply Kd.R_drewN | apply Kd.R_drew)); exact HO124.out) (Kd.R_base ho0) hb); have n1_ := Aside0.mk (Kd.R_lower (Kd.R_new' ho0 (Kd.R_lt (by (with_reducible repeat (first | apply Kd.R_alloc | apply Kd.R_drewN | apply Kd.R_drew)); exact HO124.out))) (below_size (by repeat (first | (with_reducible first | exact HB.out | apply below_alloc | apply pw_below_drewN | apply below_drew1) | exact HB.out)))); have n2_ := Aside0.mk (below_step (by repeat (first | (with_reducible first | exact HB.out | apply below_alloc | apply pw_below_drewN | apply below_drew1) | exact HB.out)) hb); clear HO124; clear HB; have HO124 := n0_; have HO130 := n1_; have HB := n2_; clear n0_ n1_ n2_; (try clear hb); (try clear hb2); (try clear hk); (try clear hi); (try clear ho0)) | ((with_reducible refine gate_dst (N := 23) rfl ?_); refine Kd.R_lit (Kd.int .i64) _ 3 ?hg (N := 23) ?hd (xs := ([1, 0] : List Int)) (inner := [.int .i64 1, .int .i64 0]) (ok := fun _ => True) (okp := fun _ => True) ?hr ?hp (fun _ hk => hk) trivial (Below.refl _ _) (Nat.le_refl _) (by simp) ?_; (case hd => rfl); (case hg => rfl); (case hr => first | (go_simp; done) | (go_simp; rfl)); (case hp => exact (Reps.one (show Kd.M (Kd.int .i64) _ _ _ 1 [.int .i64 1] from rfl) (Reps.one (show Kd.M (Kd.int .i64) _ _ _ 0 [.int .i64 0] from rfl) (Reps.none _ _)))); intro v132 w30 ho31 hb hg_ hnew_; clear hg_ hnew_; (first | rw [← Ny131.out] at ho31 | (simp only [Int.reduceToNat] at ho31; rw [← Ny131.out] at ho31)); have n0_ := Aside0.mk (Kd.R_elder' (by (with_reducible repeat (first | apply Kd.R_alloc | apply Kd.R_drewN | apply Kd.R_drew)); exact HO124.out) (Kd.R_base ho31) hb); have n1_ := Aside0.mk (Kd.R_elder' (by (with_reducible repeat (first | apply Kd.R_alloc | apply Kd.R_drewN | apply Kd.R_drew)); exact HO130.out) (Kd.R_base ho31) hb); have n2_ := Aside0.mk (Kd.R_lower (Kd.R_new' (Kd.R_new' ho31 (Kd.R_lt (by (with_reducible repeat (first | apply Kd.R_alloc | apply Kd.R_drewN | apply Kd.R_drew)); exact HO124.out))) (Kd.R_lt (by (with_reducible repeat (first | apply Kd.R_alloc | apply Kd.R_drewN | apply Kd.R_drew)); exact HO130.out))) (below_size (by repeat (first | (with_reducible first | exact HB.out | apply below_alloc | apply pw_below_drewN | apply below_drew1) | exact HB.out)))); have n3_ := Aside0.mk (below_step (by repeat (first | (with_reducible first | exact HB.out | apply below_alloc | apply pw_below_drewN | apply below_drew1) | exact HB.out)) hb); clear HO124; clear HO130; clear HB; have HO124 := n0_; have HO130 := n1_; have HO133 := n2_; have HB := n3_; clear n0_ n1_ n2_ n3_; clear hb ho31; obtain ⟨Ao32, co32, eo32⟩ := Kd.R_slice HO133.out; subst eo32) | ((with_reducible refine gate_callee (f := 22) rfl ?_); refine goesL_ (some 24) rfl rfl Try.func22 (by kernel_rfl) rfl #[.slice Ao32 y131.length co32] rfl (by (try simp only [List.map_toArray, List.map_cons, List.map_nil]); first | done | rfl | (simp only [List.length_drop, List.length_take]; rfl)) ?_; (with_reducible refine (gamma_Number.calls _ _ y131 t134 t135 _ ?side1 ?side2 A4.out).mono ?_); (case side1 => repeat (first | exact (Kd.R_reads' HO133.out).2.2 | (with_reducible refine Kd.C_alloc ?_ _) | (with_reducible refine Kd.C_drewN ?_ _) | (with_reducible refine Kd.C_drew ?_))); (case side2 => exact (Kd.R_reads' HO133.out).2.1); rintro e w33 ⟨rfl, hb⟩; refine ⟨_, rfl, ?_⟩; have n0_ := Aside0.mk (Kd.R_below (by (with_reducible repeat (first | apply Kd.R_alloc | apply Kd.R_drewN | apply Kd.R_drew)); exact HO124.out) hb); have n1_ := Aside0.mk (Kd.R_below (by (with_reducible repeat (first | apply Kd.R_alloc | apply Kd.R_drewN | apply Kd.R_drew)); exact HO130.out) hb); have n2_ := Aside0.mk (Kd.R_below (by (with_reducible repeat (first | apply Kd.R_alloc | apply Kd.R_drewN | apply Kd.R_drew)); exact HO133.out) hb); have n3_ := Aside0.mk (below_step (by repeat (first | (with_reducible first | exact HB.out | apply below_alloc | apply pw_below_drewN | apply below_drew1) | exact HB.out)) hb); clear HO124; clear HO130; clear HO133; clear HB; have HO124 := n0_; have HO130 := n1_; have HO133 := n2_; have HB := n3_; clear n0_ n1_ n2_ n3_; (try clear hb); (try clear hb2); (try clear hk); (try clear hi)) | ((with_reducible refine gate_dst (N := 28) rfl ?_); refine Kd.R_lit (Kd.int .i64) _ 3 ?hg (N := 28) ?hd (xs := ([1, 1, 0, 0, 1] : List Int)) (inner := [.int .i64 1, .int .i64 1, .int .i64 0, .int .i64 0, .int .i64 1]) (ok := fun _ => True) (okp := fun _ => True) ?hr ?hp (fun _ hk => hk) trivial (Below.refl _ _) (Nat.le_refl _) (by simp) ?_; (case hd => rfl); (case hg => rfl); (case hr => first | (go_simp; done) | (go_simp; rfl)); (case hp => exact (Reps.one (show Kd.M (Kd.int .i64) _ _ _ 1 [.int .i64 1] from rfl) (Reps.one (show Kd.M (Kd.int .i64) _ _ _ 1 [.int .i64 1] from rfl) (Reps.one (show Kd.M (Kd.int .i64) _ _ _ 0 [.int .i64 0] from rfl) (Reps.one (show Kd.M (Kd.int .i64) _ _ _ 0 [.int .i64 0] from rfl) (Reps.one (show Kd.M (Kd.int .i64) _ _ _ 1 [.int .i64 1] from rfl) (Reps.none _ _))))))); intro v137 w34 ho35 hb hg_ hnew_; clear hg_ hnew_; (first | rw [← Ny136.out] at ho35 | (simp only [Int.reduceToNat] at ho35; rw [← Ny136.out] at ho35)); have n0_ := Aside0.mk (Kd.R_elder' (by (with_reducible repeat (first | apply Kd.R_alloc | apply Kd.R_drewN | apply Kd.R_drew)); exact HO124.out) (Kd.R_base ho35) hb); have n1_ := Aside0.mk (Kd.R_elder' (by (with_reducible repeat (first | apply Kd.R_alloc | apply Kd.R_drewN | apply Kd.R_drew)); exact HO130.out) (Kd.R_base ho35) hb); have n2_ := Aside0.mk (Kd.R_elder' (by (with_reducible repeat (first | apply Kd.R_alloc | apply Kd.R_drewN | apply Kd.R_drew)); exact HO133.out) (Kd.R_base ho35) hb); have n3_ := Aside0.mk (Kd.R_lower (Kd.R_new' (Kd.R_new' (Kd.R_new' ho35 (Kd.R_lt (by (with_reducible repeat (first | apply Kd.R_alloc | apply Kd.R_drewN | apply Kd.R_drew)); exact HO124.out))) (Kd.R_lt (by (with_reducible repeat (first | apply Kd.R_alloc | apply Kd.R_drewN | apply Kd.R_drew)); exact HO130.out))) (Kd.R_lt (by (with_reducible repeat (first | apply Kd.R_alloc | apply Kd.R_drewN | apply Kd.R_drew)); exact HO133.out))) (below_size (by repeat (first | (with_reducible first | exact HB.out | apply below_alloc | apply pw_below_drewN | apply below_drew1) | exact HB.out)))); have n4_ := Aside0.mk (below_step (by repeat (first | (with_reducible first | exact HB.out | apply below_alloc | apply pw_below_drewN | apply below_drew1) | exact HB.out)) hb); clear HO124; clear HO130; clear HO133; clear HB; have HO124 := n0_; have HO130 := n1_; have HO133 := n2_; have HO138 := n3_; have HB := n4_; clear n0_ n1_ n2_ n3_ n4_; clear hb ho35; obtain ⟨Ao36, co36, eo36⟩ := Kd.R_slice HO138.out; subst eo36) | ((with_reducible refine gate_callee (f := 24) rfl ?_); refine goesL_ (some 29) rfl rfl Try.func24 (by kernel_rfl) rfl #[.slice Ao27 t121.length co27, .slice Ao36 y136.length co36] rfl (by (try simp only [List.map_toArray, List.map_cons, List.map_nil]); first | done | rfl | (simp only [List.length_drop, List.length_take]; rfl)) ?_; (with_reducible refine (descantlaw0_SameInts.calls k _ _ t121 _ _ y136 true _ ?side1 ?side2 ?side3 ?side4 A5.out).mono ?_); (case side1 => repeat (first | exact (Kd.R_reads' HO124.out).2.2 | (with_reducible refine Kd.C_alloc ?_ _) | (with_reducible refine Kd.C_drewN ?_ _) | (with_reducible refine Kd.C_drew ?_))); (case side2 => exact (Kd.R_reads' HO124.out).2.1); (case side3 => repeat (first | exact (Kd.R_reads' HO138.out).2.2 | (with_reducible refine Kd.C_alloc ?_ _) | (with_reducible refine Kd.C_drewN ?_ _) | (with_reducible refine Kd.C_drew ?_))); (case side4 => exact (Kd.R_reads' HO138.out).2.1); rintro e w' ⟨rfl, ⟨nd, rfl⟩⟩; refine ⟨_, rfl, ?_⟩) | (go_at_call 16; (with_reducible refine (descantlaw0_Num.calls t122 t140 _ A7.out).mono ?_); rintro e w' ⟨rfl, ⟨nd, rfl⟩⟩) | (go_at_call 16; (with_reducible refine (descantlaw0_Num.calls t126 t141 _ A10.out).mono ?_); rintro e w' ⟨rfl, ⟨nd, rfl⟩⟩) | (go_at_call 16; (with_reducible refine (descantlaw0_Num.calls t128 t142 _ A12.out).mono ?_); rintro e w' ⟨rfl, ⟨nd, rfl⟩⟩))
            go_ret
            exact ⟨by first | rfl | (simp [errW_none, errW_some] <;> rfl) | (simp [*, errW_none, errW_some] <;> rfl), by repeat (first | (with_reducible first | exact HB.out | apply below_alloc | apply pw_below_drewN | apply below_drew1) | exact HB.out)⟩
        · rw [if_neg c11] at H
          have c11b0 : (t141 == 0) = false := beq_eq_false_iff_ne.mpr c11
          have c11b1 : (t141 != 0) = true := bne_iff_ne.mpr c11
          obtain rfl := Option.some.inj H
          go_enter Try.func27, Try.ntmps27
          go_wp2_with (first | ((with_reducible refine gate_callee (f := 20) rfl ?_); refine goesL_ (some 10) rfl rfl Try.func20 (by kernel_rfl) rfl #[.int .i64 4] rfl (by (try simp only [List.map_toArray, List.map_cons, List.map_nil]); first | done | rfl | (simp only [List.length_drop, List.length_take]; rfl)) ?_; (with_reducible refine (gamma_Bits.calls k 4 t121 t122 _ A1.out).mono ?_); rintro e w37 ⟨v123, rfl, ho0, hb⟩; refine ⟨_, rfl, ?_⟩; have n0_ := Aside0.mk (Kd.R_lower ho0 (below_size (by repeat (first | (with_reducible first | exact HB.out | apply below_alloc | apply pw_below_drewN | apply below_drew1) | exact HB.out)))); have n1_ := Aside0.mk (below_step (by repeat (first | (with_reducible first | exact HB.out | apply below_alloc | apply pw_below_drewN | apply below_drew1) | exact HB.out)) hb); clear HB; have HO124 := n0_; have HB := n1_; clear n0_ n1_; (try clear hb); (try clear hb2); (try clear hk); (try clear hi); (try clear ho0); obtain ⟨Ao38, co38, eo38⟩ := Kd.R_slice HO124.out; subst eo38) | ((with_reducible refine gate_callee (f := 22) rfl ?_); refine goesL_ (some 15) rfl rfl Try.func22 (by kernel_rfl) rfl #[.slice Ao38 t121.length co38] rfl (by (try simp only [List.map_toArray, List.map_cons, List.map_nil]); first | done | rfl | (simp only [List.length_drop, List.length_take]; rfl)) ?_; (with_reducible refine (gamma_Number.calls _ _ t121 t125 t126 _ ?side1 ?side2 A2.out).mono ?_); (case side1 => repeat (first | exact (Kd.R_reads' HO124.out).2.2 | (with_reducible refine Kd.C_alloc ?_ _) | (with_reducible refine Kd.C_drewN ?_ _) | (with_reducible refine Kd.C_drew ?_))); (case side2 => exact (Kd.R_reads' HO124.out).2.1); rintro e w39 ⟨rfl, hb⟩; refine ⟨_, rfl, ?_⟩; have n0_ := Aside0.mk (Kd.R_below (by (with_reducible repeat (first | apply Kd.R_alloc | apply Kd.R_drewN | apply Kd.R_drew)); exact HO124.out) hb); have n1_ := Aside0.mk (below_step (by repeat (first | (with_reducible first | exact HB.out | apply below_alloc | apply pw_below_drewN | apply below_drew1) | exact HB.out)) hb); clear HO124; clear HB; have HO124 := n0_; have HB := n1_; clear n0_ n1_; (try clear hb); (try clear hb2); (try clear hk); (try clear hi)) | ((with_reducible refine gate_callee (f := 20) rfl ?_); refine goesL_ (some 19) rfl rfl Try.func20 (by kernel_rfl) rfl #[.int .i64 (-1)] rfl (by (try simp only [List.map_toArray, List.map_cons, List.map_nil]); first | done | rfl | (simp only [List.length_drop, List.length_take]; rfl)) ?_; (with_reducible refine (gamma_Bits.calls k (-1) t127 t128 _ A3.out).mono ?_); rintro e w40 ⟨v129, rfl, ho0, hb⟩; refine ⟨_, rfl, ?_⟩; have n0_ := Aside0.mk (Kd.R_elder' (by (with_reducible repeat (first | apply Kd.R_alloc | apply Kd.R_drewN | apply Kd.R_drew)); exact HO124.out) (Kd.R_base ho0) hb); have n1_ := Aside0.mk (Kd.R_lower (Kd.R_new' ho0 (Kd.R_lt (by (with_reducible repeat (first | apply Kd.R_alloc | apply Kd.R_drewN | apply Kd.R_drew)); exact HO124.out))) (below_size (by repeat (first | (with_reducible first | exact HB.out | apply below_alloc | apply pw_below_drewN | apply below_drew1) | exact HB.out)))); have n2_ := Aside0.mk (below_step (by repeat (first | (with_reducible first | exact HB.out | apply below_alloc | apply pw_below_drewN | apply below_drew1) | exact HB.out)) hb); clear HO124; clear HB; have HO124 := n0_; have HO130 := n1_; have HB := n2_; clear n0_ n1_ n2_; (try clear hb); (try clear hb2); (try clear hk); (try clear hi); (try clear ho0)) | ((with_reducible refine gate_dst (N := 23) rfl ?_); refine Kd.R_lit (Kd.int .i64) _ 3 ?hg (N := 23) ?hd (xs := ([1, 0] : List Int)) (inner := [.int .i64 1, .int .i64 0]) (ok := fun _ => True) (okp := fun _ => True) ?hr ?hp (fun _ hk => hk) trivial (Below.refl _ _) (Nat.le_refl _) (by simp) ?_; (case hd => rfl); (case hg => rfl); (case hr => first | (go_simp; done) | (go_simp; rfl)); (case hp => exact (Reps.one (show Kd.M (Kd.int .i64) _ _ _ 1 [.int .i64 1] from rfl) (Reps.one (show Kd.M (Kd.int .i64) _ _ _ 0 [.int .i64 0] from rfl) (Reps.none _ _)))); intro v132 w41 ho42 hb hg_ hnew_; clear hg_ hnew_; (first | rw [← Ny131.out] at ho42 | (simp only [Int.reduceToNat] at ho42; rw [← Ny131.out] at ho42)); have n0_ := Aside0.mk (Kd.R_elder' (by (with_reducible repeat (first | apply Kd.R_alloc | apply Kd.R_drewN | apply Kd.R_drew)); exact HO124.out) (Kd.R_base ho42) hb); have n1_ := Aside0.mk (Kd.R_elder' (by (with_reducible repeat (first | apply Kd.R_alloc | apply Kd.R_drewN | apply Kd.R_drew)); exact HO130.out) (Kd.R_base ho42) hb); have n2_ := Aside0.mk (Kd.R_lower (Kd.R_new' (Kd.R_new' ho42 (Kd.R_lt (by (with_reducible repeat (first | apply Kd.R_alloc | apply Kd.R_drewN | apply Kd.R_drew)); exact HO124.out))) (Kd.R_lt (by (with_reducible repeat (first | apply Kd.R_alloc | apply Kd.R_drewN | apply Kd.R_drew)); exact HO130.out))) (below_size (by repeat (first | (with_reducible first | exact HB.out | apply below_alloc | apply pw_below_drewN | apply below_drew1) | exact HB.out)))); have n3_ := Aside0.mk (below_step (by repeat (first | (with_reducible first | exact HB.out | apply below_alloc | apply pw_below_drewN | apply below_drew1) | exact HB.out)) hb); clear HO124; clear HO130; clear HB; have HO124 := n0_; have HO130 := n1_; have HO133 := n2_; have HB := n3_; clear n0_ n1_ n2_ n3_; clear hb ho42; obtain ⟨Ao43, co43, eo43⟩ := Kd.R_slice HO133.out; subst eo43) | ((with_reducible refine gate_callee (f := 22) rfl ?_); refine goesL_ (some 24) rfl rfl Try.func22 (by kernel_rfl) rfl #[.slice Ao43 y131.length co43] rfl (by (try simp only [List.map_toArray, List.map_cons, List.map_nil]); first | done | rfl | (simp only [List.length_drop, List.length_take]; rfl)) ?_; (with_reducible refine (gamma_Number.calls _ _ y131 t134 t135 _ ?side1 ?side2 A4.out).mono ?_); (case side1 => repeat (first | exact (Kd.R_reads' HO133.out).2.2 | (with_reducible refine Kd.C_alloc ?_ _) | (with_reducible refine Kd.C_drewN ?_ _) | (with_reducible refine Kd.C_drew ?_))); (case side2 => exact (Kd.R_reads' HO133.out).2.1); rintro e w44 ⟨rfl, hb⟩; refine ⟨_, rfl, ?_⟩; have n0_ := Aside0.mk (Kd.R_below (by (with_reducible repeat (first | apply Kd.R_alloc | apply Kd.R_drewN | apply Kd.R_drew)); exact HO124.out) hb); have n1_ := Aside0.mk (Kd.R_below (by (with_reducible repeat (first | apply Kd.R_alloc | apply Kd.R_drewN | apply Kd.R_drew)); exact HO130.out) hb); have n2_ := Aside0.mk (Kd.R_below (by (with_reducible repeat (first | apply Kd.R_alloc | apply Kd.R_drewN | apply Kd.R_drew)); exact HO133.out) hb); have n3_ := Aside0.mk (below_step (by repeat (first | (with_reducible first | exact HB.out | apply below_alloc | apply pw_below_drewN | apply below_drew1) | exact HB.out)) hb); clear HO124; clear HO130; clear HO133; clear HB; have HO124 := n0_; have HO130 := n1_; have HO133 := n2_; have HB := n3_; clear n0_ n1_ n2_ n3_; (try clear hb); (try clear hb2); (try clear hk); (try clear hi)) | ((with_reducible refine gate_dst (N := 28) rfl ?_); refine Kd.R_lit (Kd.int .i64) _ 3 ?hg (N := 28) ?hd (xs := ([1, 1, 0, 0, 1] : List Int)) (inner := [.int .i64 1, .int .i64 1, .int .i64 0, .int .i64 0, .int .i64 1]) (ok := fun _ => True) (okp := fun _ => True) ?hr ?hp (fun _ hk => hk) trivial (Below.refl _ _) (Nat.le_refl _) (by simp) ?_; (case hd => rfl); (case hg => rfl); (case hr => first | (go_simp; done) | (go_simp; rfl)); (case hp => exact (Reps.one (show Kd.M (Kd.int .i64) _ _ _ 1 [.int .i64 1] from rfl) (Reps.one (show Kd.M (Kd.int .i64) _ _ _ 1 [.int .i64 1] from rfl) (Reps.one (show Kd.M (Kd.int .i64) _ _ _ 0 [.int .i64 0] from rfl) (Reps.one (show Kd.M (Kd.int .i64) _ _ _ 0 [.int .i64 0] from rfl) (Reps.one (show Kd.M (Kd.int .i64) _ _ _ 1 [.int .i64 1] from rfl) (Reps.none _ _))))))); intro v137 w45 ho46 hb hg_ hnew_; clear hg_ hnew_; (first | rw [← Ny136.out] at ho46 | (simp only [Int.reduceToNat] at ho46; rw [← Ny136.out] at ho46)); have n0_ := Aside0.mk (Kd.R_elder' (by (with_reducible repeat (first | apply Kd.R_alloc | apply Kd.R_drewN | apply Kd.R_drew)); exact HO124.out) (Kd.R_base ho46) hb); have n1_ := Aside0.mk (Kd.R_elder' (by (with_reducible repeat (first | apply Kd.R_alloc | apply Kd.R_drewN | apply Kd.R_drew)); exact HO130.out) (Kd.R_base ho46) hb); have n2_ := Aside0.mk (Kd.R_elder' (by (with_reducible repeat (first | apply Kd.R_alloc | apply Kd.R_drewN | apply Kd.R_drew)); exact HO133.out) (Kd.R_base ho46) hb); have n3_ := Aside0.mk (Kd.R_lower (Kd.R_new' (Kd.R_new' (Kd.R_new' ho46 (Kd.R_lt (by (with_reducible repeat (first | apply Kd.R_alloc | apply Kd.R_drewN | apply Kd.R_drew)); exact HO124.out))) (Kd.R_lt (by (with_reducible repeat (first | apply Kd.R_alloc | apply Kd.R_drewN | apply Kd.R_drew)); exact HO130.out))) (Kd.R_lt (by (with_reducible repeat (first | apply Kd.R_alloc | apply Kd.R_drewN | apply Kd.R_drew)); exact HO133.out))) (below_size (by repeat (first | (with_reducible first | exact HB.out | apply below_alloc | apply pw_below_drewN | apply below_drew1) | exact HB.out)))); have n4_ := Aside0.mk (below_step (by repeat (first | (with_reducible first | exact HB.out | apply below_alloc | apply pw_below_drewN | apply below_drew1) | exact HB.out)) hb); clear HO124; clear HO130; clear HO133; clear HB; have HO124 := n0_; have HO130 := n1_; have HO133 := n2_; have HO138 := n3_; have HB := n4_; clear n0_ n1_ n2_ n3_ n4_; clear hb ho46; obtain ⟨Ao47, co47, eo47⟩ := Kd.R_slice HO138.out; subst eo47) | ((with_reducible refine gate_callee (f := 24) rfl ?_); refine goesL_ (some 29) rfl rfl Try.func24 (by kernel_rfl) rfl #[.slice Ao38 t121.length co38, .slice Ao47 y136.length co47] rfl (by (try simp only [List.map_toArray, List.map_cons, List.map_nil]); first | done | rfl | (simp only [List.length_drop, List.length_take]; rfl)) ?_; (with_reducible refine (descantlaw0_SameInts.calls k _ _ t121 _ _ y136 true _ ?side1 ?side2 ?side3 ?side4 A5.out).mono ?_); (case side1 => repeat (first | exact (Kd.R_reads' HO124.out).2.2 | (with_reducible refine Kd.C_alloc ?_ _) | (with_reducible refine Kd.C_drewN ?_ _) | (with_reducible refine Kd.C_drew ?_))); (case side2 => exact (Kd.R_reads' HO124.out).2.1); (case side3 => repeat (first | exact (Kd.R_reads' HO138.out).2.2 | (with_reducible refine Kd.C_alloc ?_ _) | (with_reducible refine Kd.C_drewN ?_ _) | (with_reducible refine Kd.C_drew ?_))); (case side4 => exact (Kd.R_reads' HO138.out).2.1); rintro e w' ⟨rfl, ⟨nd, rfl⟩⟩; refine ⟨_, rfl, ?_⟩) | (go_at_call 16; (with_reducible refine (descantlaw0_Num.calls t122 t140 _ A7.out).mono ?_); rintro e w' ⟨rfl, ⟨nd, rfl⟩⟩) | (go_at_call 16; (with_reducible refine (descantlaw0_Num.calls t126 t141 _ A10.out).mono ?_); rintro e w' ⟨rfl, ⟨nd, rfl⟩⟩))
          go_ret
          exact ⟨by first | rfl | (simp [errW_none, errW_some] <;> rfl) | (simp [*, errW_none, errW_some] <;> rfl), by repeat (first | (with_reducible first | exact HB.out | apply below_alloc | apply pw_below_drewN | apply below_drew1) | exact HB.out)⟩
      · rw [if_neg c9] at H
        have c9b0 : (t125 == 4) = false := beq_eq_false_iff_ne.mpr c9
        have c9b1 : (t125 != 4) = true := bne_iff_ne.mpr c9
        obtain rfl := Option.some.inj H
        go_enter Try.func27, Try.ntmps27
        go_wp2_with (first | ((with_reducible refine gate_callee (f := 20) rfl ?_); refine goesL_ (some 10) rfl rfl Try.func20 (by kernel_rfl) rfl #[.int .i64 4] rfl (by (try simp only [List.map_toArray, List.map_cons, List.map_nil]); first | done | rfl | (simp only [List.length_drop, List.length_take]; rfl)) ?_; (with_reducible refine (gamma_Bits.calls k 4 t121 t122 _ A1.out).mono ?_); rintro e w48 ⟨v123, rfl, ho0, hb⟩; refine ⟨_, rfl, ?_⟩; have n0_ := Aside0.mk (Kd.R_lower ho0 (below_size (by repeat (first | (with_reducible first | exact HB.out | apply below_alloc | apply pw_below_drewN | apply below_drew1) | exact HB.out)))); have n1_ := Aside0.mk (below_step (by repeat (first | (with_reducible first | exact HB.out | apply below_alloc | apply pw_below_drewN | apply below_drew1) | exact HB.out)) hb); clear HB; have HO124 := n0_; have HB := n1_; clear n0_ n1_; (try clear hb); (try clear hb2); (try clear hk); (try clear hi); (try clear ho0); obtain ⟨Ao49, co49, eo49⟩ := Kd.R_slice HO124.out; subst eo49) | ((with_reducible refine gate_callee (f := 22) rfl ?_); refine goesL_ (some 15) rfl rfl Try.func22 (by kernel_rfl) rfl #[.slice Ao49 t121.length co49] rfl (by (try simp only [List.map_toArray, List.map_cons, List.map_nil]); first | done | rfl | (simp only [List.length_drop, List.length_take]; rfl)) ?_; (with_reducible refine (gamma_Number.calls _ _ t121 t125 t126 _ ?side1 ?side2 A2.out).mono ?_); (case side1 => repeat (first | exact (Kd.R_reads' HO124.out).2.2 | (with_reducible refine Kd.C_alloc ?_ _) | (with_reducible refine Kd.C_drewN ?_ _) | (with_reducible refine Kd.C_drew ?_))); (case side2 => exact (Kd.R_reads' HO124.out).2.1); rintro e w50 ⟨rfl, hb⟩; refine ⟨_, rfl, ?_⟩; have n0_ := Aside0.mk (Kd.R_below (by (with_reducible repeat (first | apply Kd.R_alloc | apply Kd.R_drewN | apply Kd.R_drew)); exact HO124.out) hb); have n1_ := Aside0.mk (below_step (by repeat (first | (with_reducible first | exact HB.out | apply below_alloc | apply pw_below_drewN | apply below_drew1) | exact HB.out)) hb); clear HO124; clear HB; have HO124 := n0_; have HB := n1_; clear n0_ n1_; (try clear hb); (try clear hb2); (try clear hk); (try clear hi)) | ((with_reducible refine gate_callee (f := 20) rfl ?_); refine goesL_ (some 19) rfl rfl Try.func20 (by kernel_rfl) rfl #[.int .i64 (-1)] rfl (by (try simp only [List.map_toArray, List.map_cons, List.map_nil]); first | done | rfl | (simp only [List.length_drop, List.length_take]; rfl)) ?_; (with_reducible refine (gamma_Bits.calls k (-1) t127 t128 _ A3.out).mono ?_); rintro e w51 ⟨v129, rfl, ho0, hb⟩; refine ⟨_, rfl, ?_⟩; have n0_ := Aside0.mk (Kd.R_elder' (by (with_reducible repeat (first | apply Kd.R_alloc | apply Kd.R_drewN | apply Kd.R_drew)); exact HO124.out) (Kd.R_base ho0) hb); have n1_ := Aside0.mk (Kd.R_lower (Kd.R_new' ho0 (Kd.R_lt (by (with_reducible repeat (first | apply Kd.R_alloc | apply Kd.R_drewN | apply Kd.R_drew)); exact HO124.out))) (below_size (by repeat (first | (with_reducible first | exact HB.out | apply below_alloc | apply pw_below_drewN | apply below_drew1) | exact HB.out)))); have n2_ := Aside0.mk (below_step (by repeat (first | (with_reducible first | exact HB.out | apply below_alloc | apply pw_below_drewN | apply below_drew1) | exact HB.out)) hb); clear HO124; clear HB; have HO124 := n0_; have HO130 := n1_; have HB := n2_; clear n0_ n1_ n2_; (try clear hb); (try clear hb2); (try clear hk); (try clear hi); (try clear ho0)) | ((with_reducible refine gate_dst (N := 23) rfl ?_); refine Kd.R_lit (Kd.int .i64) _ 3 ?hg (N := 23) ?hd (xs := ([1, 0] : List Int)) (inner := [.int .i64 1, .int .i64 0]) (ok := fun _ => True) (okp := fun _ => True) ?hr ?hp (fun _ hk => hk) trivial (Below.refl _ _) (Nat.le_refl _) (by simp) ?_; (case hd => rfl); (case hg => rfl); (case hr => first | (go_simp; done) | (go_simp; rfl)); (case hp => exact (Reps.one (show Kd.M (Kd.int .i64) _ _ _ 1 [.int .i64 1] from rfl) (Reps.one (show Kd.M (Kd.int .i64) _ _ _ 0 [.int .i64 0] from rfl) (Reps.none _ _)))); intro v132 w52 ho53 hb hg_ hnew_; clear hg_ hnew_; (first | rw [← Ny131.out] at ho53 | (simp only [Int.reduceToNat] at ho53; rw [← Ny131.out] at ho53)); have n0_ := Aside0.mk (Kd.R_elder' (by (with_reducible repeat (first | apply Kd.R_alloc | apply Kd.R_drewN | apply Kd.R_drew)); exact HO124.out) (Kd.R_base ho53) hb); have n1_ := Aside0.mk (Kd.R_elder' (by (with_reducible repeat (first | apply Kd.R_alloc | apply Kd.R_drewN | apply Kd.R_drew)); exact HO130.out) (Kd.R_base ho53) hb); have n2_ := Aside0.mk (Kd.R_lower (Kd.R_new' (Kd.R_new' ho53 (Kd.R_lt (by (with_reducible repeat (first | apply Kd.R_alloc | apply Kd.R_drewN | apply Kd.R_drew)); exact HO124.out))) (Kd.R_lt (by (with_reducible repeat (first | apply Kd.R_alloc | apply Kd.R_drewN | apply Kd.R_drew)); exact HO130.out))) (below_size (by repeat (first | (with_reducible first | exact HB.out | apply below_alloc | apply pw_below_drewN | apply below_drew1) | exact HB.out)))); have n3_ := Aside0.mk (below_step (by repeat (first | (with_reducible first | exact HB.out | apply below_alloc | apply pw_below_drewN | apply below_drew1) | exact HB.out)) hb); clear HO124; clear HO130; clear HB; have HO124 := n0_; have HO130 := n1_; have HO133 := n2_; have HB := n3_; clear n0_ n1_ n2_ n3_; clear hb ho53; obtain ⟨Ao54, co54, eo54⟩ := Kd.R_slice HO133.out; subst eo54) | ((with_reducible refine gate_callee (f := 22) rfl ?_); refine goesL_ (some 24) rfl rfl Try.func22 (by kernel_rfl) rfl #[.slice Ao54 y131.length co54] rfl (by (try simp only [List.map_toArray, List.map_cons, List.map_nil]); first | done | rfl | (simp only [List.length_drop, List.length_take]; rfl)) ?_; (with_reducible refine (gamma_Number.calls _ _ y131 t134 t135 _ ?side1 ?side2 A4.out).mono ?_); (case side1 => repeat (first | exact (Kd.R_reads' HO133.out).2.2 | (with_reducible refine Kd.C_alloc ?_ _) | (with_reducible refine Kd.C_drewN ?_ _) | (with_reducible refine Kd.C_drew ?_))); (case side2 => exact (Kd.R_reads' HO133.out).2.1); rintro e w55 ⟨rfl, hb⟩; refine ⟨_, rfl, ?_⟩; have n0_ := Aside0.mk (Kd.R_below (by (with_reducible repeat (first | apply Kd.R_alloc | apply Kd.R_drewN | apply Kd.R_drew)); exact HO124.out) hb); have n1_ := Aside0.mk (Kd.R_below (by (with_reducible repeat (first | apply Kd.R_alloc | apply Kd.R_drewN | apply Kd.R_drew)); exact HO130.out) hb); have n2_ := Aside0.mk (Kd.R_below (by (with_reducible repeat (first | apply Kd.R_alloc | apply Kd.R_drewN | apply Kd.R_drew)); exact HO133.out) hb); have n3_ := Aside0.mk (below_step (by repeat (first | (with_reducible first | exact HB.out | apply below_alloc | apply pw_below_drewN | apply below_drew1) | exact HB.out)) hb); clear HO124; clear HO130; clear HO133; clear HB; have HO124 := n0_; have HO130 := n1_; have HO133 := n2_; have HB := n3_; clear n0_ n1_ n2_ n3_; (try clear hb); (try clear hb2); (try clear hk); (try clear hi)) | ((with_reducible refine gate_dst (N := 28) rfl ?_); refine Kd.R_lit (Kd.int .i64) _ 3 ?hg (N := 28) ?hd (xs := ([1, 1, 0, 0, 1] : List Int)) (inner := [.int .i64 1, .int .i64 1, .int .i64 0, .int .i64 0, .int .i64 1]) (ok := fun _ => True) (okp := fun _ => True) ?hr ?hp (fun _ hk => hk) trivial (Below.refl _ _) (Nat.le_refl _) (by simp) ?_; (case hd => rfl); (case hg => rfl); (case hr => first | (go_simp; done) | (go_simp; rfl)); (case hp => exact (Reps.one (show Kd.M (Kd.int .i64) _ _ _ 1 [.int .i64 1] from rfl) (Reps.one (show Kd.M (Kd.int .i64) _ _ _ 1 [.int .i64 1] from rfl) (Reps.one (show Kd.M (Kd.int .i64) _ _ _ 0 [.int .i64 0] from rfl) (Reps.one (show Kd.M (Kd.int .i64) _ _ _ 0 [.int .i64 0] from rfl) (Reps.one (show Kd.M (Kd.int .i64) _ _ _ 1 [.int .i64 1] from rfl) (Reps.none _ _))))))); intro v137 w56 ho57 hb hg_ hnew_; clear hg_ hnew_; (first | rw [← Ny136.out] at ho57 | (simp only [Int.reduceToNat] at ho57; rw [← Ny136.out] at ho57)); have n0_ := Aside0.mk (Kd.R_elder' (by (with_reducible repeat (first | apply Kd.R_alloc | apply Kd.R_drewN | apply Kd.R_drew)); exact HO124.out) (Kd.R_base ho57) hb); have n1_ := Aside0.mk (Kd.R_elder' (by (with_reducible repeat (first | apply Kd.R_alloc | apply Kd.R_drewN | apply Kd.R_drew)); exact HO130.out) (Kd.R_base ho57) hb); have n2_ := Aside0.mk (Kd.R_elder' (by (with_reducible repeat (first | apply Kd.R_alloc | apply Kd.R_drewN | apply Kd.R_drew)); exact HO133.out) (Kd.R_base ho57) hb); have n3_ := Aside0.mk (Kd.R_lower (Kd.R_new' (Kd.R_new' (Kd.R_new' ho57 (Kd.R_lt (by (with_reducible repeat (first | apply Kd.R_alloc | apply Kd.R_drewN | apply Kd.R_drew)); exact HO124.out))) (Kd.R_lt (by (with_reducible repeat (first | apply Kd.R_alloc | apply Kd.R_drewN | apply Kd.R_drew)); exact HO130.out))) (Kd.R_lt (by (with_reducible repeat (first | apply Kd.R_alloc | apply Kd.R_drewN | apply Kd.R_drew)); exact HO133.out))) (below_size (by repeat (first | (with_reducible first | exact HB.out | apply below_alloc | apply pw_below_drewN | apply below_drew1) | exact HB.out)))); have n4_ := Aside0.mk (below_step (by repeat (first | (with_reducible first | exact HB.out | apply below_alloc | apply pw_below_drewN | apply below_drew1) | exact HB.out)) hb); clear HO124; clear HO130; clear HO133; clear HB; have HO124 := n0_; have HO130 := n1_; have HO133 := n2_; have HO138 := n3_; have HB := n4_; clear n0_ n1_ n2_ n3_ n4_; clear hb ho57; obtain ⟨Ao58, co58, eo58⟩ := Kd.R_slice HO138.out; subst eo58) | ((with_reducible refine gate_callee (f := 24) rfl ?_); refine goesL_ (some 29) rfl rfl Try.func24 (by kernel_rfl) rfl #[.slice Ao49 t121.length co49, .slice Ao58 y136.length co58] rfl (by (try simp only [List.map_toArray, List.map_cons, List.map_nil]); first | done | rfl | (simp only [List.length_drop, List.length_take]; rfl)) ?_; (with_reducible refine (descantlaw0_SameInts.calls k _ _ t121 _ _ y136 true _ ?side1 ?side2 ?side3 ?side4 A5.out).mono ?_); (case side1 => repeat (first | exact (Kd.R_reads' HO124.out).2.2 | (with_reducible refine Kd.C_alloc ?_ _) | (with_reducible refine Kd.C_drewN ?_ _) | (with_reducible refine Kd.C_drew ?_))); (case side2 => exact (Kd.R_reads' HO124.out).2.1); (case side3 => repeat (first | exact (Kd.R_reads' HO138.out).2.2 | (with_reducible refine Kd.C_alloc ?_ _) | (with_reducible refine Kd.C_drewN ?_ _) | (with_reducible refine Kd.C_drew ?_))); (case side4 => exact (Kd.R_reads' HO138.out).2.1); rintro e w' ⟨rfl, ⟨nd, rfl⟩⟩; refine ⟨_, rfl, ?_⟩) | (go_at_call 16; (with_reducible refine (descantlaw0_Num.calls t122 t140 _ A7.out).mono ?_); rintro e w' ⟨rfl, ⟨nd, rfl⟩⟩))
        go_ret
        exact ⟨by first | rfl | (simp [errW_none, errW_some] <;> rfl) | (simp [*, errW_none, errW_some] <;> rfl), by repeat (first | (with_reducible first | exact HB.out | apply below_alloc | apply pw_below_drewN | apply below_drew1) | exact HB.out)⟩
    · rw [if_neg c8] at H
      have c8b0 : (t140 == 0) = false := beq_eq_false_iff_ne.mpr c8
      have c8b1 : (t140 != 0) = true := bne_iff_ne.mpr c8
      obtain rfl := Option.some.inj H
      go_enter Try.func27, Try.ntmps27
      go_wp2_with (first | ((with_reducible refine gate_callee (f := 20) rfl ?_); refine goesL_ (some 10) rfl rfl Try.func20 (by kernel_rfl) rfl #[.int .i64 4] rfl (by (try simp only [List.map_toArray, List.map_cons, List.map_nil]); first | done | rfl | (simp only [List.length_drop, List.length_take]; rfl)) ?_; (with_reducible refine (gamma_Bits.calls k 4 t121 t122 _ A1.out).mono ?_); rintro e w59 ⟨v123, rfl, ho0, hb⟩; refine ⟨_, rfl, ?_⟩; have n0_ := Aside0.mk (Kd.R_lower ho0 (below_size (by repeat (first | (with_reducible first | exact HB.out | apply below_alloc | apply pw_below_drewN | apply below_drew1) | exact HB.out)))); have n1_ := Aside0.mk (below_step (by repeat (first | (with_reducible first | exact HB.out | apply below_alloc | apply pw_below_drewN | apply below_drew1) | exact HB.out)) hb); clear HB; have HO124 := n0_; have HB := n1_; clear n0_ n1_; (try clear hb); (try clear hb2); (try clear hk); (try clear hi); (try clear ho0); obtain ⟨Ao60, co60, eo60⟩ := Kd.R_slice HO124.out; subst eo60) | ((with_reducible refine gate_callee (f := 22) rfl ?_); refine goesL_ (some 15) rfl rfl Try.func22 (by kernel_rfl) rfl #[.slice Ao60 t121.length co60] rfl (by (try simp only [List.map_toArray, List.map_cons, List.map_nil]); first | done | rfl | (simp only [List.length_drop, List.length_take]; rfl)) ?_; (with_reducible refine (gamma_Number.calls _ _ t121 t125 t126 _ ?side1 ?side2 A2.out).mono ?_); (case side1 => repeat (first | exact (Kd.R_reads' HO124.out).2.2 | (with_reducible refine Kd.C_alloc ?_ _) | (with_reducible refine Kd.C_drewN ?_ _) | (with_reducible refine Kd.C_drew ?_))); (case side2 => exact (Kd.R_reads' HO124.out).2.1); rintro e w61 ⟨rfl, hb⟩; refine ⟨_, rfl, ?_⟩; have n0_ := Aside0.mk (Kd.R_below (by (with_reducible repeat (first | apply Kd.R_alloc | apply Kd.R_drewN | apply Kd.R_drew)); exact HO124.out) hb); have n1_ := Aside0.mk (below_step (by repeat (first | (with_reducible first | exact HB.out | apply below_alloc | apply pw_below_drewN | apply below_drew1) | exact HB.out)) hb); clear HO124; clear HB; have HO124 := n0_; have HB := n1_; clear n0_ n1_; (try clear hb); (try clear hb2); (try clear hk); (try clear hi)) | ((with_reducible refine gate_callee (f := 20) rfl ?_); refine goesL_ (some 19) rfl rfl Try.func20 (by kernel_rfl) rfl #[.int .i64 (-1)] rfl (by (try simp only [List.map_toArray, List.map_cons, List.map_nil]); first | done | rfl | (simp only [List.length_drop, List.length_take]; rfl)) ?_; (with_reducible refine (gamma_Bits.calls k (-1) t127 t128 _ A3.out).mono ?_); rintro e w62 ⟨v129, rfl, ho0, hb⟩; refine ⟨_, rfl, ?_⟩; have n0_ := Aside0.mk (Kd.R_elder' (by (with_reducible repeat (first | apply Kd.R_alloc | apply Kd.R_drewN | apply Kd.R_drew)); exact HO124.out) (Kd.R_base ho0) hb); have n1_ := Aside0.mk (Kd.R_lower (Kd.R_new' ho0 (Kd.R_lt (by (with_reducible repeat (first | apply Kd.R_alloc | apply Kd.R_drewN | apply Kd.R_drew)); exact HO124.out))) (below_size (by repeat (first | (with_reducible first | exact HB.out | apply below_alloc | apply pw_below_drewN | apply below_drew1) | exact HB.out)))); have n2_ := Aside0.mk (below_step (by repeat (first | (with_reducible first | exact HB.out | apply below_alloc | apply pw_below_drewN | apply below_drew1) | exact HB.out)) hb); clear HO124; clear HB; have HO124 := n0_; have HO130 := n1_; have HB := n2_; clear n0_ n1_ n2_; (try clear hb); (try clear hb2); (try clear hk); (try clear hi); (try clear ho0)) | ((with_reducible refine gate_dst (N := 23) rfl ?_); refine Kd.R_lit (Kd.int .i64) _ 3 ?hg (N := 23) ?hd (xs := ([1, 0] : List Int)) (inner := [.int .i64 1, .int .i64 0]) (ok := fun _ => True) (okp := fun _ => True) ?hr ?hp (fun _ hk => hk) trivial (Below.refl _ _) (Nat.le_refl _) (by simp) ?_; (case hd => rfl); (case hg => rfl); (case hr => first | (go_simp; done) | (go_simp; rfl)); (case hp => exact (Reps.one (show Kd.M (Kd.int .i64) _ _ _ 1 [.int .i64 1] from rfl) (Reps.one (show Kd.M (Kd.int .i64) _ _ _ 0 [.int .i64 0] from rfl) (Reps.none _ _)))); intro v132 w63 ho64 hb hg_ hnew_; clear hg_ hnew_; (first | rw [← Ny131.out] at ho64 | (simp only [Int.reduceToNat] at ho64; rw [← Ny131.out] at ho64)); have n0_ := Aside0.mk (Kd.R_elder' (by (with_reducible repeat (first | apply Kd.R_alloc | apply Kd.R_drewN | apply Kd.R_drew)); exact HO124.out) (Kd.R_base ho64) hb); have n1_ := Aside0.mk (Kd.R_elder' (by (with_reducible repeat (first | apply Kd.R_alloc | apply Kd.R_drewN | apply Kd.R_drew)); exact HO130.out) (Kd.R_base ho64) hb); have n2_ := Aside0.mk (Kd.R_lower (Kd.R_new' (Kd.R_new' ho64 (Kd.R_lt (by (with_reducible repeat (first | apply Kd.R_alloc | apply Kd.R_drewN | apply Kd.R_drew)); exact HO124.out))) (Kd.R_lt (by (with_reducible repeat (first | apply Kd.R_alloc | apply Kd.R_drewN | apply Kd.R_drew)); exact HO130.out))) (below_size (by repeat (first | (with_reducible first | exact HB.out | apply below_alloc | apply pw_below_drewN | apply below_drew1) | exact HB.out)))); have n3_ := Aside0.mk (below_step (by repeat (first | (with_reducible first | exact HB.out | apply below_alloc | apply pw_below_drewN | apply below_drew1) | exact HB.out)) hb); clear HO124; clear HO130; clear HB; have HO124 := n0_; have HO130 := n1_; have HO133 := n2_; have HB := n3_; clear n0_ n1_ n2_ n3_; clear hb ho64; obtain ⟨Ao65, co65, eo65⟩ := Kd.R_slice HO133.out; subst eo65) | ((with_reducible refine gate_callee (f := 22) rfl ?_); refine goesL_ (some 24) rfl rfl Try.func22 (by kernel_rfl) rfl #[.slice Ao65 y131.length co65] rfl (by (try simp only [List.map_toArray, List.map_cons, List.map_nil]); first | done | rfl | (simp only [List.length_drop, List.length_take]; rfl)) ?_; (with_reducible refine (gamma_Number.calls _ _ y131 t134 t135 _ ?side1 ?side2 A4.out).mono ?_); (case side1 => repeat (first | exact (Kd.R_reads' HO133.out).2.2 | (with_reducible refine Kd.C_alloc ?_ _) | (with_reducible refine Kd.C_drewN ?_ _) | (with_reducible refine Kd.C_drew ?_))); (case side2 => exact (Kd.R_reads' HO133.out).2.1); rintro e w66 ⟨rfl, hb⟩; refine ⟨_, rfl, ?_⟩; have n0_ := Aside0.mk (Kd.R_below (by (with_reducible repeat (first | apply Kd.R_alloc | apply Kd.R_drewN | apply Kd.R_drew)); exact HO124.out) hb); have n1_ := Aside0.mk (Kd.R_below (by (with_reducible repeat (first | apply Kd.R_alloc | apply Kd.R_drewN | apply Kd.R_drew)); exact HO130.out) hb); have n2_ := Aside0.mk (Kd.R_below (by (with_reducible repeat (first | apply Kd.R_alloc | apply Kd.R_drewN | apply Kd.R_drew)); exact HO133.out) hb); have n3_ := Aside0.mk (below_step (by repeat (first | (with_reducible first | exact HB.out | apply below_alloc | apply pw_below_drewN | apply below_drew1) | exact HB.out)) hb); clear HO124; clear HO130; clear HO133; clear HB; have HO124 := n0_; have HO130 := n1_; have HO133 := n2_; have HB := n3_; clear n0_ n1_ n2_ n3_; (try clear hb); (try clear hb2); (try clear hk); (try clear hi)) | ((with_reducible refine gate_dst (N := 28) rfl ?_); refine Kd.R_lit (Kd.int .i64) _ 3 ?hg (N := 28) ?hd (xs := ([1, 1, 0, 0, 1] : List Int)) (inner := [.int .i64 1, .int .i64 1, .int .i64 0, .int .i64 0, .int .i64 1]) (ok := fun _ => True) (okp := fun _ => True) ?hr ?hp (fun _ hk => hk) trivial (Below.refl _ _) (Nat.le_refl _) (by simp) ?_; (case hd => rfl); (case hg => rfl); (case hr => first | (go_simp; done) | (go_simp; rfl)); (case hp => exact (Reps.one (show Kd.M (Kd.int .i64) _ _ _ 1 [.int .i64 1] from rfl) (Reps.one (show Kd.M (Kd.int .i64) _ _ _ 1 [.int .i64 1] from rfl) (Reps.one (show Kd.M (Kd.int .i64) _ _ _ 0 [.int .i64 0] from rfl) (Reps.one (show Kd.M (Kd.int .i64) _ _ _ 0 [.int .i64 0] from rfl) (Reps.one (show Kd.M (Kd.int .i64) _ _ _ 1 [.int .i64 1] from rfl) (Reps.none _ _))))))); intro v137 w67 ho68 hb hg_ hnew_; clear hg_ hnew_; (first | rw [← Ny136.out] at ho68 | (simp only [Int.reduceToNat] at ho68; rw [← Ny136.out] at ho68)); have n0_ := Aside0.mk (Kd.R_elder' (by (with_reducible repeat (first | apply Kd.R_alloc | apply Kd.R_drewN | apply Kd.R_drew)); exact HO124.out) (Kd.R_base ho68) hb); have n1_ := Aside0.mk (Kd.R_elder' (by (with_reducible repeat (first | apply Kd.R_alloc | apply Kd.R_drewN | apply Kd.R_drew)); exact HO130.out) (Kd.R_base ho68) hb); have n2_ := Aside0.mk (Kd.R_elder' (by (with_reducible repeat (first | apply Kd.R_alloc | apply Kd.R_drewN | apply Kd.R_drew)); exact HO133.out) (Kd.R_base ho68) hb); have n3_ := Aside0.mk (Kd.R_lower (Kd.R_new' (Kd.R_new' (Kd.R_new' ho68 (Kd.R_lt (by (with_reducible repeat (first | apply Kd.R_alloc | apply Kd.R_drewN | apply Kd.R_drew)); exact HO124.out))) (Kd.R_lt (by (with_reducible repeat (first | apply Kd.R_alloc | apply Kd.R_drewN | apply Kd.R_drew)); exact HO130.out))) (Kd.R_lt (by (with_reducible repeat (first | apply Kd.R_alloc | apply Kd.R_drewN | apply Kd.R_drew)); exact HO133.out))) (below_size (by repeat (first | (with_reducible first | exact HB.out | apply below_alloc | apply pw_below_drewN | apply below_drew1) | exact HB.out)))); have n4_ := Aside0.mk (below_step (by repeat (first | (with_reducible first | exact HB.out | apply below_alloc | apply pw_below_drewN | apply below_drew1) | exact HB.out)) hb); clear HO124; clear HO130; clear HO133; clear HB; have HO124 := n0_; have HO130 := n1_; have HO133 := n2_; have HO138 := n3_; have HB := n4_; clear n0_ n1_ n2_ n3_ n4_; clear hb ho68; obtain ⟨Ao69, co69, eo69⟩ := Kd.R_slice HO138.out; subst eo69) | ((with_reducible refine gate_callee (f := 24) rfl ?_); refine goesL_ (some 29) rfl rfl Try.func24 (by kernel_rfl) rfl #[.slice Ao60 t121.length co60, .slice Ao69 y136.length co69] rfl (by (try simp only [List.map_toArray, List.map_cons, List.map_nil]); first | done | rfl | (simp only [List.length_drop, List.length_take]; rfl)) ?_; (with_reducible refine (descantlaw0_SameInts.calls k _ _ t121 _ _ y136 true _ ?side1 ?side2 ?side3 ?side4 A5.out).mono ?_); (case side1 => repeat (first | exact (Kd.R_reads' HO124.out).2.2 | (with_reducible refine Kd.C_alloc ?_ _) | (with_reducible refine Kd.C_drewN ?_ _) | (with_reducible refine Kd.C_drew ?_))); (case side2 => exact (Kd.R_reads' HO124.out).2.1); (case side3 => repeat (first | exact (Kd.R_reads' HO138.out).2.2 | (with_reducible refine Kd.C_alloc ?_ _) | (with_reducible refine Kd.C_drewN ?_ _) | (with_reducible refine Kd.C_drew ?_))); (case side4 => exact (Kd.R_reads' HO138.out).2.1); rintro e w' ⟨rfl, ⟨nd, rfl⟩⟩; refine ⟨_, rfl, ?_⟩) | (go_at_call 16; (with_reducible refine (descantlaw0_Num.calls t122 t140 _ A7.out).mono ?_); rintro e w' ⟨rfl, ⟨nd, rfl⟩⟩))
      go_ret
      exact ⟨by first | rfl | (simp [errW_none, errW_some] <;> rfl) | (simp [*, errW_none, errW_some] <;> rfl), by repeat (first | (with_reducible first | exact HB.out | apply below_alloc | apply pw_below_drewN | apply below_drew1) | exact HB.out)⟩
  · replace c6 := Bool.eq_false_iff.mpr c6
    subst c6
    have H1 : (some false) = some r := by rw [if_neg (show ¬ (false = true) by decide)] at H; exact H
    clear H
    have H := H1
    clear H1
    obtain rfl := Option.some.inj H
    go_enter Try.func27, Try.ntmps27
    go_wp2_with (first | ((with_reducible refine gate_callee (f := 20) rfl ?_); refine goesL_ (some 10) rfl rfl Try.func20 (by kernel_rfl) rfl #[.int .i64 4] rfl (by (try simp only [List.map_toArray, List.map_cons, List.map_nil]); first | done | rfl | (simp only [List.length_drop, List.length_take]; rfl)) ?_; (with_reducible refine (gamma_Bits.calls k 4 t121 t122 _ A1.out).mono ?_); rintro e w70 ⟨v123, rfl, ho0, hb⟩; refine ⟨_, rfl, ?_⟩; have n0_ := Aside0.mk (Kd.R_lower ho0 (below_size (by repeat (first | (with_reducible first | exact HB.out | apply below_alloc | apply pw_below_drewN | apply below_drew1) | exact HB.out)))); have n1_ := Aside0.mk (below_step (by repeat (first | (with_reducible first | exact HB.out | apply below_alloc | apply pw_below_drewN | apply below_drew1) | exact HB.out)) hb); clear HB; have HO124 := n0_; have HB := n1_; clear n0_ n1_; (try clear hb); (try clear hb2); (try clear hk); (try clear hi); (try clear ho0); obtain ⟨Ao71, co71, eo71⟩ := Kd.R_slice HO124.out; subst eo71) | ((with_reducible refine gate_callee (f := 22) rfl ?_); refine goesL_ (some 15) rfl rfl Try.func22 (by kernel_rfl) rfl #[.slice Ao71 t121.length co71] rfl (by (try simp only [List.map_toArray, List.map_cons, List.map_nil]); first | done | rfl | (simp only [List.length_drop, List.length_take]; rfl)) ?_; (with_reducible refine (gamma_Number.calls _ _ t121 t125 t126 _ ?side1 ?side2 A2.out).mono ?_); (case side1 => repeat (first | exact (Kd.R_reads' HO124.out).2.2 | (with_reducible refine Kd.C_alloc ?_ _) | (with_reducible refine Kd.C_drewN ?_ _) | (with_reducible refine Kd.C_drew ?_))); (case side2 => exact (Kd.R_reads' HO124.out).2.1); rintro e w72 ⟨rfl, hb⟩; refine ⟨_, rfl, ?_⟩; have n0_ := Aside0.mk (Kd.R_below (by (with_reducible repeat (first | apply Kd.R_alloc | apply Kd.R_drewN | apply Kd.R_drew)); exact HO124.out) hb); have n1_ := Aside0.mk (below_step (by repeat (first | (with_reducible first | exact HB.out | apply below_alloc | apply pw_below_drewN | apply below_drew1) | exact HB.out)) hb); clear HO124; clear HB; have HO124 := n0_; have HB := n1_; clear n0_ n1_; (try clear hb); (try clear hb2); (try clear hk); (try clear hi)) | ((with_reducible refine gate_callee (f := 20) rfl ?_); refine goesL_ (some 19) rfl rfl Try.func20 (by kernel_rfl) rfl #[.int .i64 (-1)] rfl (by (try simp only [List.map_toArray, List.map_cons, List.map_nil]); first | done | rfl | (simp only [List.length_drop, List.length_take]; rfl)) ?_; (with_reducible refine (gamma_Bits.calls k (-1) t127 t128 _ A3.out).mono ?_); rintro e w73 ⟨v129, rfl, ho0, hb⟩; refine ⟨_, rfl, ?_⟩; have n0_ := Aside0.mk (Kd.R_elder' (by (with_reducible repeat (first | apply Kd.R_alloc | apply Kd.R_drewN | apply Kd.R_drew)); exact HO124.out) (Kd.R_base ho0) hb); have n1_ := Aside0.mk (Kd.R_lower (Kd.R_new' ho0 (Kd.R_lt (by (with_reducible repeat (first | apply Kd.R_alloc | apply Kd.R_drewN | apply Kd.R_drew)); exact HO124.out))) (below_size (by repeat (first | (with_reducible first | exact HB.out | apply below_alloc | apply pw_below_drewN | apply below_drew1) | exact HB.out)))); have n2_ := Aside0.mk (below_step (by repeat (first | (with_reducible first | exact HB.out | apply below_alloc | apply pw_below_drewN | apply below_drew1) | exact HB.out)) hb); clear HO124; clear HB; have HO124 := n0_; have HO130 := n1_; have HB := n2_; clear n0_ n1_ n2_; (try clear hb); (try clear hb2); (try clear hk); (try clear hi); (try clear ho0)) | ((with_reducible refine gate_dst (N := 23) rfl ?_); refine Kd.R_lit (Kd.int .i64) _ 3 ?hg (N := 23) ?hd (xs := ([1, 0] : List Int)) (inner := [.int .i64 1, .int .i64 0]) (ok := fun _ => True) (okp := fun _ => True) ?hr ?hp (fun _ hk => hk) trivial (Below.refl _ _) (Nat.le_refl _) (by simp) ?_; (case hd => rfl); (case hg => rfl); (case hr => first | (go_simp; done) | (go_simp; rfl)); (case hp => exact (Reps.one (show Kd.M (Kd.int .i64) _ _ _ 1 [.int .i64 1] from rfl) (Reps.one (show Kd.M (Kd.int .i64) _ _ _ 0 [.int .i64 0] from rfl) (Reps.none _ _)))); intro v132 w74 ho75 hb hg_ hnew_; clear hg_ hnew_; (first | rw [← Ny131.out] at ho75 | (simp only [Int.reduceToNat] at ho75; rw [← Ny131.out] at ho75)); have n0_ := Aside0.mk (Kd.R_elder' (by (with_reducible repeat (first | apply Kd.R_alloc | apply Kd.R_drewN | apply Kd.R_drew)); exact HO124.out) (Kd.R_base ho75) hb); have n1_ := Aside0.mk (Kd.R_elder' (by (with_reducible repeat (first | apply Kd.R_alloc | apply Kd.R_drewN | apply Kd.R_drew)); exact HO130.out) (Kd.R_base ho75) hb); have n2_ := Aside0.mk (Kd.R_lower (Kd.R_new' (Kd.R_new' ho75 (Kd.R_lt (by (with_reducible repeat (first | apply Kd.R_alloc | apply Kd.R_drewN | apply Kd.R_drew)); exact HO124.out))) (Kd.R_lt (by (with_reducible repeat (first | apply Kd.R_alloc | apply Kd.R_drewN | apply Kd.R_drew)); exact HO130.out))) (below_size (by repeat (first | (with_reducible first | exact HB.out | apply below_alloc | apply pw_below_drewN | apply below_drew1) | exact HB.out)))); have n3_ := Aside0.mk (below_step (by repeat (first | (with_reducible first | exact HB.out | apply below_alloc | apply pw_below_drewN | apply below_drew1) | exact HB.out)) hb); clear HO124; clear HO130; clear HB; have HO124 := n0_; have HO130 := n1_; have HO133 := n2_; have HB := n3_; clear n0_ n1_ n2_ n3_; clear hb ho75; obtain ⟨Ao76, co76, eo76⟩ := Kd.R_slice HO133.out; subst eo76) | ((with_reducible refine gate_callee (f := 22) rfl ?_); refine goesL_ (some 24) rfl rfl Try.func22 (by kernel_rfl) rfl #[.slice Ao76 y131.length co76] rfl (by (try simp only [List.map_toArray, List.map_cons, List.map_nil]); first | done | rfl | (simp only [List.length_drop, List.length_take]; rfl)) ?_; (with_reducible refine (gamma_Number.calls _ _ y131 t134 t135 _ ?side1 ?side2 A4.out).mono ?_); (case side1 => repeat (first | exact (Kd.R_reads' HO133.out).2.2 | (with_reducible refine Kd.C_alloc ?_ _) | (with_reducible refine Kd.C_drewN ?_ _) | (with_reducible refine Kd.C_drew ?_))); (case side2 => exact (Kd.R_reads' HO133.out).2.1); rintro e w77 ⟨rfl, hb⟩; refine ⟨_, rfl, ?_⟩; have n0_ := Aside0.mk (Kd.R_below (by (with_reducible repeat (first | apply Kd.R_alloc | apply Kd.R_drewN | apply Kd.R_drew)); exact HO124.out) hb); have n1_ := Aside0.mk (Kd.R_below (by (with_reducible repeat (first | apply Kd.R_alloc | apply Kd.R_drewN | apply Kd.R_drew)); exact HO130.out) hb); have n2_ := Aside0.mk (Kd.R_below (by (with_reducible repeat (first | apply Kd.R_alloc | apply Kd.R_drewN | apply Kd.R_drew)); exact HO133.out) hb); have n3_ := Aside0.mk (below_step (by repeat (first | (with_reducible first | exact HB.out | apply below_alloc | apply pw_below_drewN | apply below_drew1) | exact HB.out)) hb); clear HO124; clear HO130; clear HO133; clear HB; have HO124 := n0_; have HO130 := n1_; have HO133 := n2_; have HB := n3_; clear n0_ n1_ n2_ n3_; (try clear hb); (try clear hb2); (try clear hk); (try clear hi)) | ((with_reducible refine gate_dst (N := 28) rfl ?_); refine Kd.R_lit (Kd.int .i64) _ 3 ?hg (N := 28) ?hd (xs := ([1, 1, 0, 0, 1] : List Int)) (inner := [.int .i64 1, .int .i64 1, .int .i64 0, .int .i64 0, .int .i64 1]) (ok := fun _ => True) (okp := fun _ => True) ?hr ?hp (fun _ hk => hk) trivial (Below.refl _ _) (Nat.le_refl _) (by simp) ?_; (case hd => rfl); (case hg => rfl); (case hr => first | (go_simp; done) | (go_simp; rfl)); (case hp => exact (Reps.one (show Kd.M (Kd.int .i64) _ _ _ 1 [.int .i64 1] from rfl) (Reps.one (show Kd.M (Kd.int .i64) _ _ _ 1 [.int .i64 1] from rfl) (Reps.one (show Kd.M (Kd.int .i64) _ _ _ 0 [.int .i64 0] from rfl) (Reps.one (show Kd.M (Kd.int .i64) _ _ _ 0 [.int .i64 0] from rfl) (Reps.one (show Kd.M (Kd.int .i64) _ _ _ 1 [.int .i64 1] from rfl) (Reps.none _ _))))))); intro v137 w78 ho79 hb hg_ hnew_; clear hg_ hnew_; (first | rw [← Ny136.out] at ho79 | (simp only [Int.reduceToNat] at ho79; rw [← Ny136.out] at ho79)); have n0_ := Aside0.mk (Kd.R_elder' (by (with_reducible repeat (first | apply Kd.R_alloc | apply Kd.R_drewN | apply Kd.R_drew)); exact HO124.out) (Kd.R_base ho79) hb); have n1_ := Aside0.mk (Kd.R_elder' (by (with_reducible repeat (first | apply Kd.R_alloc | apply Kd.R_drewN | apply Kd.R_drew)); exact HO130.out) (Kd.R_base ho79) hb); have n2_ := Aside0.mk (Kd.R_elder' (by (with_reducible repeat (first | apply Kd.R_alloc | apply Kd.R_drewN | apply Kd.R_drew)); exact HO133.out) (Kd.R_base ho79) hb); have n3_ := Aside0.mk (Kd.R_lower (Kd.R_new' (Kd.R_new' (Kd.R_new' ho79 (Kd.R_lt (by (with_reducible repeat (first | apply Kd.R_alloc | apply Kd.R_drewN | apply Kd.R_drew)); exact HO124.out))) (Kd.R_lt (by (with_reducible repeat (first | apply Kd.R_alloc | apply Kd.R_drewN | apply Kd.R_drew)); exact HO130.out))) (Kd.R_lt (by (with_reducible repeat (first | apply Kd.R_alloc | apply Kd.R_drewN | apply Kd.R_drew)); exact HO133.out))) (below_size (by repeat (first | (with_reducible first | exact HB.out | apply below_alloc | apply pw_below_drewN | apply below_drew1) | exact HB.out)))); have n4_ := Aside0.mk (below_step (by repeat (first | (with_reducible first | exact HB.out | apply below_alloc | apply pw_below_drewN | apply below_drew1) | exact HB.out)) hb); clear HO124; clear HO130; clear HO133; clear HB; have HO124 := n0_; have HO130 := n1_; have HO133 := n2_; have HO138 := n3_; have HB := n4_; clear n0_ n1_ n2_ n3_ n4_; clear hb ho79; obtain ⟨Ao80, co80, eo80⟩ := Kd.R_slice HO138.out; subst eo80) | ((with_reducible refine gate_callee (f := 24) rfl ?_); refine goesL_ (some 29) rfl rfl Try.func24 (by kernel_rfl) rfl #[.slice Ao71 t121.length co71, .slice Ao80 y136.length co80] rfl (by (try simp only [List.map_toArray, List.map_cons, List.map_nil]); first | done | rfl | (simp only [List.length_drop, List.length_take]; rfl)) ?_; (with_reducible refine (descantlaw0_SameInts.calls k _ _ t121 _ _ y136 false _ ?side1 ?side2 ?side3 ?side4 A5.out).mono ?_); (case side1 => repeat (first | exact (Kd.R_reads' HO124.out).2.2 | (with_reducible refine Kd.C_alloc ?_ _) | (with_reducible refine Kd.C_drewN ?_ _) | (with_reducible refine Kd.C_drew ?_))); (case side2 => exact (Kd.R_reads' HO124.out).2.1); (case side3 => repeat (first | exact (Kd.R_reads' HO138.out).2.2 | (with_reducible refine Kd.C_alloc ?_ _) | (with_reducible refine Kd.C_drewN ?_ _) | (with_reducible refine Kd.C_drew ?_))); (case side4 => exact (Kd.R_reads' HO138.out).2.1); rintro e w' ⟨rfl, ⟨nd, rfl⟩⟩; refine ⟨_, rfl, ?_⟩))
    go_ret
    exact ⟨by first | rfl | (simp [errW_none, errW_some] <;> rfl) | (simp [*, errW_none, errW_some] <;> rfl), by repeat (first | (with_reducible first | exact HB.out | apply below_alloc | apply pw_below_drewN | apply below_drew1) | exact HB.out)⟩

/-! ### descantlaw11_GammaPrefix: function 11 -/
section
open Go.Proofs.Ytlabpfebdhbgiaa.L
theorem same_l0 (l m : List Int) (hl : l.length ≤ 9223372036854775806) (hm : l.length = m.length) : ∀ (d i k : Nat), i + d = l.length → d < k → descantlaw0_SameInts.l0 k l m (i : Int) = some (decide (l.drop i = m.drop i)) := by
  intro d
  induction d with
  | zero =>
    intro i k hi hk
    obtain ⟨k, rfl⟩ : ∃ m, k = m + 1 := ⟨k - 1, by omega⟩
    simp only [descantlaw0_SameInts.l0]
    rw [if_neg (by omega), List.drop_eq_nil_of_le (by omega), List.drop_eq_nil_of_le (by omega)]
    simp
  | succ d ih =>
    intro i k hi hk
    obtain ⟨k, rfl⟩ : ∃ m, k = m + 1 := ⟨k - 1, by omega⟩
    simp only [descantlaw0_SameInts.l0]
    have e1 : l[i]'(by omega) = rd l (i : Int) := by have := rd_at l i (by omega); rw [List.getElem?_eq_getElem (by omega)] at this; exact Option.some.inj this
    have e2 : m[i]'(by omega) = rd m (i : Int) := by have := rd_at m i (by omega); rw [List.getElem?_eq_getElem (by omega)] at this; exact Option.some.inj this
    rw [if_pos (by omega), if_pos (by omega), if_pos (by omega), List.drop_eq_getElem_cons (show i < l.length by omega), List.drop_eq_getElem_cons (show i < m.length by omega), e1, e2]
    by_cases h1 : rd l (i : Int) = rd m (i : Int)
    · rw [if_pos h1, w64 (by omega), show (i : Int) + 1 = ((i + 1 : Nat) : Int) by omega, ih (i + 1) k (by omega) (by omega), h1]
      simp
    · rw [if_neg h1]; simp [h1]
theorem same_f (l m : List Int) (hl : l.length ≤ 9223372036854775806) (k : Nat) (hk : l.length < k) : descantlaw0_SameInts.f k l m = some (decide (l = m)) := by
  unfold descantlaw0_SameInts.f
  by_cases h : (l.length : Int) = (m.length : Int)
  · rw [if_pos h, show (0 : Int) = ((0 : Nat) : Int) from rfl, same_l0 l m hl (by omega) l.length 0 k (by omega) hk]; simp
  · rw [if_neg h]; simp; rintro rfl; exact h rfl
theorem gB4 : gBits 4 = [1, 1, 0, 0, 1] := by decide +kernel
theorem awake_f (k : Nat) (hk : 40 < k) : descantlaw11_awake.f k = some true := by
  have h1 : gamma_Bits.f k 4 = some ([1, 1, 0, 0, 1], 0) := by rw [← gB4]; exact bits_f 4 (by decide) k hk
  have h2 := bits_no (-1) (.inl (by decide)) k (by omega)
  have hn1 : gamma_Number.f [1, 1, 0, 0, 1] = some (4, 0) := by decide +kernel
  have hn2 : gamma_Number.f [1, 0] = some (0, 1100) := by decide +kernel
  have h3 := same_f [1, 1, 0, 0, 1] [1, 1, 0, 0, 1] (by decide) k (by simp; omega)
  unfold descantlaw11_awake.f
  rw [h1]; simp only [Option.bind_some]
  rw [hn1]; simp only [Option.bind_some]
  rw [h2]; simp only [Option.bind_some]
  rw [hn2]; simp only [Option.bind_some]
  rw [h3]; simp [descantlaw0_Num.f]
theorem prefix_fact (u v : Nat) (h : (gBits u).length ≤ (gBits v).length) : decide (gBits u = (gBits v).take (gBits u).length) = decide (u = v) := by
  by_cases e : u = v
  · subst e; simp [List.take_of_length_le]
  · simp [e, gBits_apart e h]
theorem len_mono {u v : Nat} (h : u ≤ v) : (gBits u).length ≤ (gBits v).length := by
  rw [gBits_length, gBits_length]; have := log2_mono (show u + 1 ≤ v + 1 by omega) (by omega); omega
theorem bit_below (u v : Nat) (h : u ≤ 33554432) (hv : v ≤ 33554432) : (gBits u).length ≤ 51 := by rw [gBits_length]; have := log2_le (n := 25) (v := u + 1) (by omega); omega
def descantlaw11_GammaPrefix.f (a0 a1 : Int) : Option Bool := some true
def descantlaw11_GammaPrefix.Pure : Prop := True
theorem same_any (A0 : Option Addr) (c0 n : Nat) (l0 : List Int) (A1 : Option Addr) (c1 m : Nat) (l1 : List Int) (T : Bool) (w : World) (hn : l0.length = n) (hm : l1.length = m) (hr0 : Kd.C (Kd.int .i64) w A0 n l0) (hc0 : n ≤ c0) (hr1 : Kd.C (Kd.int .i64) w A1 m l1) (hc1 : m ≤ c1) (hT : decide (l0 = l1) = T) (hsm : n ≤ 1000 := by omega) :
    Calls Try.prog 24 #[.slice A0 n c0, .slice A1 m c1] w fun e w' => e = .returned (.bool T) ∧ ∃ k, w' = w.drewN k := by
  subst hn hm
  have hl := hr0.2.1
  · refine (descantlaw0_SameInts.calls (l0.length + 1) A0 c0 l0 A1 c1 l1 T w hr0 hc0 hr1 hc1 ?_).mono fun e w' h => ⟨h.1, h.2.out⟩
    rw [same_f l0 l1 (by omega) _ (by omega), hT]
set_option maxHeartbeats 1000000 in
theorem prefix_walk (u v : Nat) (a0 a1 : Int) (w : World) (h0 : Go.bits .and .i64 a0 65535 = (u : Int)) (h1 : Go.bits .and .i64 a1 65535 = (v : Int)) (hu : u < 65536) (hv : v < 65536) :
    Calls Try.prog 11 #[.int .i64 a0, .int .i64 a1] w fun e w' => e = .returned (.bool true) ∧ Below w.heap.size w w' := by
  have HU := Lib.hid (bits_f u (by omega) 41 (by decide))
  have HV := Lib.hid (bits_f v (by omega) 41 (by decide))
  obtain ⟨i0, hi0, -, hsz0, -⟩ := info_parts int_info
  have bu := bit_below u v (by omega) (by omega)
  have bv := bit_below v u (by omega) (by omega)
  obtain ⟨X, hX⟩ : ∃ X, gBits u = X := ⟨_, rfl⟩
  obtain ⟨Y, hY⟩ : ∃ Y, gBits v = Y := ⟨_, rfl⟩
  have k1 := prefix_fact u v
  have k2 := prefix_fact v u
  have k3 := @len_mono u v
  rw [hX] at bu HU
  rw [hY] at bv HV
  rw [hX, hY] at k1 k2 k3
  obtain ⟨lx, hlx⟩ : ∃ n, X.length = n := ⟨_, rfl⟩
  obtain ⟨ly, hly⟩ : ∃ n, Y.length = n := ⟨_, rfl⟩
  have K1 := Lib.hid k1
  have K2 := Lib.hid k2
  have K3 := Lib.hid k3
  have HLX := Lib.hid hlx
  have HLY := Lib.hid hly
  rw [hlx] at bu
  rw [hly] at bv
  clear k1 k2 k3 hX hY hlx hly
  go_enter Try.func11, Try.ntmps11
  go_wp2_with fail
  refine (descantlaw11_awake.calls 41 true _ (awake_f 41 (by decide))).mono ?_
  rintro e w1 ⟨rfl, hb1⟩
  have HB1 := Lib.hid hb1
  clear hb1
  go_wp2_with fail
  refine (gamma_Bits.calls 41 (u : Int) _ _ _ HU.out).mono ?_
  rintro e w2 ⟨v2, rfl, hR2, hb2⟩
  obtain ⟨A2, c2, rfl, hc2, hC2⟩ := Kd.R_reads hR2
  rw [HLX.out] at hc2 hC2 ⊢
  have HC2 := Lib.hid hC2
  have HB2 := Lib.hid (below_next HB1.out hb2)
  clear hR2 hb2 hC2 HB1
  go_wp2_with fail
  refine (gamma_Bits.calls 41 (v : Int) _ _ _ HV.out).mono ?_
  rintro e w3 ⟨v3, rfl, hR3, hb3⟩
  obtain ⟨A3, c3, rfl, hc3, hC3⟩ := Kd.R_reads hR3
  rw [HLY.out] at hc3 hC3 ⊢
  have HC3 := Lib.hid hC3
  have HC2b := Lib.hid (Kd.C_below HC2.out hb3)
  have HB3 := Lib.hid (below_next HB2.out hb3)
  clear hR3 hb3 hC3 HB2 HC2
  go_wp2_with (go_at_call 16; refine (descantlaw0_Num.calls 0 0 _ rfl).mono ?_; rintro e w4 ⟨rfl, ⟨nd, rfl⟩⟩)
  all_goals
    generalize hW : w3.drewN _ = W
    have hbw : Below w3.heap.size w3 W := by rw [← hW]; exact below_drewN (Below.refl _ _) _
    have HC2d := Lib.hid (Kd.C_below HC2b.out hbw)
    have HC3d := Lib.hid (Kd.C_below HC3.out hbw)
    have HB4 := Lib.hid (below_next HB3.out hbw)
    clear hW hbw HC2b HC3 HB3
  · have hlt : ly < lx := by omega
    have hne : v < u := by
      rcases Nat.lt_or_ge v u with h | h
      · exact h
      · have := K3.out h; rw [HLX.out, HLY.out] at this; omega
    have hT : decide (X.take ly = Y) = false := by
      have := K2.out (by rw [HLX.out, HLY.out]; omega)
      rw [HLY.out, show decide (v = u) = false by simp; omega] at this
      rw [← this, Bool.eq_iff_iff]; simp [eq_comm]
    obtain ⟨r1, d1, -⟩ := print_take_int (P := Try.prog) (k := .i64) 33 3 Try.underlying33 hi0 hsz0 A2 c2 X (ly : Int) (by omega) (by have := HLX.out; omega) (by have := HLX.out; omega)
    obtain ⟨r2, d2, -⟩ := print_take_int (P := Try.prog) (k := .i64) 33 3 Try.underlying33 hi0 hsz0 A3 c3 Y (ly : Int) (by omega) (by have := HLY.out; omega) (by have := HLY.out; omega)
    have e1 : (X.take ly).length = ly := by rw [List.length_take, HLX.out]; omega
    have e2 : (Y.take ly).length = ly := by rw [List.length_take, HLY.out]; omega
    have e3 : Y.take ly = Y := List.take_of_length_le (by rw [HLY.out]; omega)
    have hC2 : Kd.C (Kd.int .i64) W A2 ly (X.take ly) := by
      have := d1 W (by have := Kd.reads_of_C (d := (0 : Int)) HC2d.out; rw [HLX.out]; exact this)
      rw [Int.toNat_natCast, e1] at this
      exact Kd.C_of_reads (d := (0 : Int)) this
    have E1 := Lib.hid e1
    rw [Int.toNat_natCast, e1, HLX.out] at r1
    rw [Int.toNat_natCast, e2, HLY.out] at r2
    have HT := Lib.hid hT
    have HC2c := Lib.hid hC2
    have t1 : ((u : Int) == (v : Int)) = false := by simp; omega
    have t2 : decide ((v : Int) ≤ (u : Int)) = true := by simp; omega
    have t3 : decide (v ≤ u) = true := by simp; omega
    have t4 : (u == v) = false := by simp; omega
    have hc2' : ly ≤ c2 := by omega
    clear d1 d2 e1 e2 e3 hC2 hT
    go_quiet ((go_at_call 24; exact Calls.quiet_of (same_any A2 c2 ly (X.take ly) A3 c3 ly Y false _ E1.out HLY.out (Kd.C_below HC2c.out (below_drewN (Below.refl _ _) _)) hc2' (Kd.C_below HC3d.out (below_drewN (Below.refl _ _) _)) hc3 HT.out)))
    go_wp2
    go_ret
    exact ⟨rfl, below_drewN HB4.out _⟩
  · have hle : lx ≤ ly := by omega
    have hT : decide (X = Y.take lx) = decide (u = v) := by
      have := K1.out (by rw [HLX.out, HLY.out]; omega)
      rwa [HLX.out] at this
    obtain ⟨r1, d1, -⟩ := print_take_int (P := Try.prog) (k := .i64) 33 3 Try.underlying33 hi0 hsz0 A2 c2 X (lx : Int) (by omega) (by have := HLX.out; omega) (by have := HLX.out; omega)
    obtain ⟨r2, d2, -⟩ := print_take_int (P := Try.prog) (k := .i64) 33 3 Try.underlying33 hi0 hsz0 A3 c3 Y (lx : Int) (by omega) (by have := HLY.out; omega) (by have := HLY.out; omega)
    have e1 : (X.take lx).length = lx := by rw [List.length_take, HLX.out]; omega
    have e2 : (Y.take lx).length = lx := by rw [List.length_take, HLY.out]; omega
    have hC3 : Kd.C (Kd.int .i64) W A3 lx (Y.take lx) := by
      have := d2 W (by have := Kd.reads_of_C (d := (0 : Int)) HC3d.out; rw [HLY.out]; exact this)
      rw [Int.toNat_natCast, e2] at this
      exact Kd.C_of_reads (d := (0 : Int)) this
    have E2 := Lib.hid e2
    rw [Int.toNat_natCast, e1, HLX.out] at r1
    rw [Int.toNat_natCast, e2, HLY.out] at r2
    obtain ⟨T, hTT⟩ : ∃ T, decide (u = v) = T := ⟨_, rfl⟩
    have t1 : ((u : Int) == (v : Int)) = T := by rw [← hTT, Bool.eq_iff_iff]; simp; omega
    have t4 : (u == v) = T := by rw [← hTT, Bool.eq_iff_iff]; simp
    rw [hTT] at hT
    have HT := Lib.hid hT
    have HC3c := Lib.hid hC3
    have hc3' : lx ≤ c3 := by omega
    have hll : decide ((lx : Int) ≤ (ly : Int)) = true := by simp; omega
    have hll2 : decide (lx ≤ ly) = true := by simp; omega
    clear d1 d2 e1 e2 hC3 hT hTT
    by_cases huv : v ≤ u
    · have t2 : decide ((v : Int) ≤ (u : Int)) = true := by simp; omega
      have t3 : decide (v ≤ u) = true := by simp; omega
      clear huv
      cases T
      all_goals
        go_quiet ((go_at_call 24; exact Calls.quiet_of (same_any A2 c2 lx X A3 c3 lx (Y.take lx) _ _ HLX.out E2.out (Kd.C_below HC2d.out (below_drewN (Below.refl _ _) _)) hc2 (Kd.C_below HC3c.out (below_drewN (Below.refl _ _) _)) hc3' HT.out)))
        go_wp2
        go_ret
        exact ⟨rfl, below_drewN HB4.out _⟩
    · have t2 : decide ((v : Int) ≤ (u : Int)) = false := by simp; omega
      have t3 : decide (v ≤ u) = false := by simp; omega
      clear huv
      cases T
      all_goals
        go_quiet ((go_at_call 24; exact Calls.quiet_of (same_any A2 c2 lx X A3 c3 lx (Y.take lx) _ _ HLX.out E2.out (Kd.C_below HC2d.out (below_drewN (Below.refl _ _) _)) hc2 (Kd.C_below HC3c.out (below_drewN (Below.refl _ _) _)) hc3' HT.out)))
        go_wp2
        go_ret
        exact ⟨rfl, below_drewN HB4.out _⟩
theorem descantlaw11_GammaPrefix.walk (P : descantlaw11_GammaPrefix.Pure) (a0 : Int) (a1 : Int) (w : World) (w0 : (Lit.int .i64 a0).wf = true) (w1 : (Lit.int .i64 a1).wf = true) :
    Calls Try.prog 11 #[.int .i64 a0, .int .i64 a1] w fun e w' => e = .returned (.bool true) ∧ Below w.heap.size w w' := by
  have h0 := i64_mask 16 65535 (by decide) (by decide) a0
  have h1 := i64_mask 16 65535 (by decide) (by decide) a1
  obtain ⟨u, hu⟩ : ∃ u : Nat, a0 % ((2 ^ 16 : Nat) : Int) = u := Int.eq_ofNat_of_zero_le (Int.emod_nonneg _ (by decide))
  obtain ⟨v, hv⟩ : ∃ u : Nat, a1 % ((2 ^ 16 : Nat) : Int) = u := Int.eq_ofNat_of_zero_le (Int.emod_nonneg _ (by decide))
  exact prefix_walk u v a0 a1 w (h0.trans hu) (h1.trans hv) (by omega) (by omega)
end


end Go.Proofs.Ytlabpfebdhbgiaa.PG
