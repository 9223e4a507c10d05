/- The texts behind the row, joined: PFld WSeg PGet WSnd WCdd. -/
import Derived.Test.YtiokfaiioealdaaGreatDoorQ16
import Derived.Test.YtiokfaiioealdaaGreatDoorQ25
import Derived.Laws.BitsLemmas
import Derived.Test.YtiokfaiioealdaaGreatDoorQ21
import Derived.Test.YtiokfaiioealdaaGreatDoorQ20
namespace Go.Proofs.YtiokfaiioealdaaGreatDoor
open Go.RowKit Go.Proofs.YtiokfaiioealdaaGreatDoorW.PrintWords Go.Proofs.YtiokfaiioealdaaGreatDoor.L
set_option linter.unusedVariables false
set_option linter.unusedSimpArgs false
theorem wraps62 (n : Int) (h₀ : 0 ≤ n) (h₁ : n < 2 ^ 62) : IntKind.i64.wrap n = n := by rw [IntKind.wrap_i64]; omega
theorem two_le {a b : Nat} (h : a ≤ b) : (2 : Int) ^ a ≤ 2 ^ b := by exact_mod_cast Nat.pow_le_pow_right (by decide) h
theorem or_comm_bits (k : IntKind) (x y : Int) : bits .or k x y = bits .or k y x := by unfold bits; simp only [BitVec.or_comm]
/-- Low bits and high bits, joined. -/
theorem or_high (i : Nat) {x y : Int} (hx : 0 ≤ x) (hx1 : x < 2 ^ i) (hi : i ≤ 62) (hy : 0 ≤ y) (hy0 : y % 2 ^ i = 0) (hy1 : y < 2 ^ 62) : bits .or .i64 x y = x + y := by
  rw [or_comm_bits, bits_join .i64 62 (by decide) wraps62 i y x hy hy0 hy1 hx hx1 (Int.lt_of_lt_of_le hx1 (two_le hi))]
  omega
theorem shl_of {x : Int} {n : Nat} (hn : n ≤ 64) (h0 : 0 ≤ x * 2 ^ n) (h1 : x * 2 ^ n < 2 ^ 62) : shl .i64 x (n : Int) = x * 2 ^ n := by
  unfold shl
  rw [Int.toNat_natCast, Nat.min_eq_left (by show n ≤ 64; exact hn)]
  exact wraps62 _ h0 h1
theorem wrap_bt (s : ByteArray) (i : Int) : wrap64 (bt s i) = bt s i := by have := bt_range s i; exact IntWalk.wrap64_in _ (by omega)
/-- One more byte, in its place. -/
theorem byte_in (s : ByteArray) (i : Int) {x b : Int} {n : Nat} (hn : n ≤ 50) (hb : 0 ≤ b) (hb1 : b ≤ 255) (hx : 0 ≤ x) (hx1 : x < 2 ^ n) : bits .or .i64 x (shl .i64 b (n : Int)) = x + b * 2 ^ n := by
  have hp : (0 : Int) < 2 ^ n := Int.pow_pos (by omega)
  have hle : (2 : Int) ^ n ≤ 2 ^ 50 := two_le hn
  have h0 : 0 ≤ b * 2 ^ n := Int.mul_nonneg hb (Int.le_of_lt hp)
  have h1 : b * 2 ^ n ≤ 255 * 2 ^ n := Int.mul_le_mul_of_nonneg_right hb1 (Int.le_of_lt hp)
  have h2 : b * 2 ^ n < 2 ^ 62 := by omega
  rw [shl_of (by omega) h0 h2]
  exact or_high n hx hx1 (by omega) h0 (Int.mul_emod_left b _) h2
/-- The number of one to four bytes. -/
def fieldV (s : ByteArray) : Int := if s.size = 0 ∨ 4 < s.size then 0 else bt s 0 + (if 1 < s.size then bt s 1 * 256 else 0) + (if 2 < s.size then bt s 2 * 65536 else 0) + (if 3 < s.size then bt s 3 * 16777216 else 0)
theorem bt_or0 (s : ByteArray) : bits .or .i64 0 (shl .i64 (bt s 0) 0) = bt s 0 := by
  have := bt_range s 0
  have h := byte_in s 0 (x := 0) (b := bt s 0) (n := 0) (by omega) (by omega) (by omega) (by omega) (by simp)
  rw [show ((0 : Nat) : Int) = 0 from rfl] at h
  rw [h]; simp
theorem wr0 : wrap64 0 = 0 := by decide +kernel
theorem wr1 : wrap64 (0 + 1) = 1 := by decide +kernel
theorem wr2 : wrap64 (1 + 1) = 2 := by decide +kernel
theorem wr3 : wrap64 (2 + 1) = 3 := by decide +kernel
theorem wr4 : wrap64 (3 + 1) = 4 := by decide +kernel
theorem wn1 : wrap64 1 = 1 := by decide +kernel
theorem wn2 : wrap64 2 = 2 := by decide +kernel
theorem wn3 : wrap64 3 = 3 := by decide +kernel
theorem wn4 : wrap64 4 = 4 := by decide +kernel
theorem wr8 : wrap64 8 = 8 := by decide +kernel
theorem wr16 : wrap64 16 = 16 := by decide +kernel
theorem wr24 : wrap64 24 = 24 := by decide +kernel
theorem wr32 : wrap64 32 = 32 := by decide +kernel
theorem field_eq (s : ByteArray) : ∃ e, PQ.field_Get.f 40 s = some (fieldV s, e) := by
  have z0 : s.toList = [] ↔ s.size = 0 := by
    rw [show s.toList = s.data.toList from by rw [ByteArray.toList_eq]]
    rw [← List.length_eq_zero_iff]; rw [Array.length_toList]; exact Iff.rfl
  unfold PQ.field_Get.f fieldV
  by_cases h0 : s.size = 0
  · exact ⟨100, by rw [if_pos (z0.2 h0), if_pos (.inl h0)]; rfl⟩
  rw [if_neg (fun h => h0 (z0.1 h))]
  by_cases h4 : 4 < s.size
  · exact ⟨100, by rw [if_pos (.inr h4), decide_eq_true (by omega)]; rfl⟩
  rw [decide_eq_false (by omega), if_neg (by omega)]
  refine ⟨0, ?_⟩
  have r0 := bt_range s 0; have r1 := bt_range s 1; have r2 := bt_range s 2; have r3 := bt_range s 3
  have e1 : bits .or .i64 (bt s 0) (shl .i64 (bt s 1) 8) = bt s 0 + bt s 1 * 256 := byte_in s 1 (n := 8) (by omega) (by omega) (by omega) (by omega) (by omega)
  have e2 : bits .or .i64 (bt s 0 + bt s 1 * 256) (shl .i64 (bt s 2) 16) = bt s 0 + bt s 1 * 256 + bt s 2 * 65536 := byte_in s 2 (n := 16) (by omega) (by omega) (by omega) (by omega) (by omega)
  have e3 : bits .or .i64 (bt s 0 + bt s 1 * 256 + bt s 2 * 65536) (shl .i64 (bt s 3) 24) = bt s 0 + bt s 1 * 256 + bt s 2 * 65536 + bt s 3 * 16777216 := byte_in s 3 (n := 24) (by omega) (by omega) (by omega) (by omega) (by omega)
  have hs : s.size = 1 ∨ s.size = 2 ∨ s.size = 3 ∨ s.size = 4 := by omega
  rcases hs with h | h | h | h <;> rw [h] <;> simp [PQ.field_Get.j0, PQ.field_Get.l0, wr0, wr1, wr2, wr3, wr4, wn1, wn2, wn3, wn4, wr8, wr16, wr24, wrap_bt, bt_or0, e1, e2, e3, h]
theorem shr0 (x : Int) : shr .i64 x 0 = x := by show x / 2 ^ 0 = x; simp
theorem shr8 (x : Int) : shr .i64 x 8 = x / 256 := rfl
theorem shr16 (x : Int) : shr .i64 x 16 = x / 65536 := rfl
theorem shr24 (x : Int) : shr .i64 x 24 = x / 16777216 := rfl
theorem shr32 (x : Int) : shr .i64 x 32 = x / 4294967296 := rfl
theorem fput2 (x : Nat) (h : x < 65536) : PQ.field_Put.f 20 (x : Int) 2 = some (strOfNums [(x : Int) % 256, (x : Int) / 256 % 256], 0) := by
  have h0 : ¬ (x : Int) < 0 := by omega
  have h1 : (x : Int) / 65536 = 0 := by omega
  simp [PQ.field_Put.f, PQ.field_Put.j0, PQ.field_Put.l0, h0, wr0, wn1, wn2, wr8, wr16, shr0, shr8, shr16, h1]
theorem fput4 (x : Nat) (h : x < 4294967296) : PQ.field_Put.f 20 (x : Int) 4 = some (strOfNums [(x : Int) % 256, (x : Int) / 256 % 256, (x : Int) / 65536 % 256, (x : Int) / 16777216 % 256], 0) := by
  have h0 : ¬ (x : Int) < 0 := by omega
  have h1 : (x : Int) / 4294967296 = 0 := by omega
  simp [PQ.field_Put.f, PQ.field_Put.j0, PQ.field_Put.l0, h0, wr0, wn1, wn2, wn3, wn4, wr8, wr16, wr24, wr32, shr0, shr8, shr16, shr24, shr32, h1]
theorem str2 (x : Nat) : (strOfNums [(x : Int) % 256, (x : Int) / 256 % 256]).data.toList = w2 x := rfl
theorem str4 (x : Nat) : (strOfNums [(x : Int) % 256, (x : Int) / 256 % 256, (x : Int) / 65536 % 256, (x : Int) / 16777216 % 256]).data.toList = w4 x := rfl
def leV : List UInt8 → Nat
  | [] => 0
  | x :: t => x.toNat + 256 * leV t
theorem bt_list (s : ByteArray) (i : Nat) (h : i < s.size) : bt s (i : Int) = ((s.data.toList.getD i 0).toNat : Int) := by
  unfold bt
  rw [Int.toNat_natCast]
  rw [List.getD_eq_getElem?_getD]
  simp [Array.getD_eq_getD_getElem?]
  rw [dif_pos h, Array.getElem?_eq_getElem (show i < s.data.size from h)]
  rfl
theorem fieldV_le (s : ByteArray) (h1 : 1 ≤ s.size) (h4 : s.size ≤ 4) : fieldV s = (leV s.data.toList : Nat) := by
  have hl : s.data.toList.length = s.size := by rw [Array.length_toList]; rfl
  have b0 := bt_list s 0 (by omega)
  unfold fieldV
  rw [if_neg (by omega)]
  have hs : s.size = 1 ∨ s.size = 2 ∨ s.size = 3 ∨ s.size = 4 := by omega
  rcases hs with h | h | h | h
  · match e : s.data.toList, hl with
    | [a], _ => rw [e] at b0; simp at b0; rw [h, b0]; simp [leV]
    | [], hl => simp at hl; omega
    | _ :: _ :: _, hl => simp at hl; omega
  · have b1 := bt_list s 1 (by omega)
    match e : s.data.toList, hl with
    | [a, b], _ => rw [e] at b0 b1; simp at b0 b1; rw [h, b0, b1]; simp [leV]; omega
    | [], hl => simp at hl; omega
    | [_], hl => simp at hl; omega
    | _ :: _ :: _ :: _, hl => simp at hl; omega
  · have b1 := bt_list s 1 (by omega)
    have b2 := bt_list s 2 (by omega)
    match e : s.data.toList, hl with
    | [a, b, c], _ => rw [e] at b0 b1 b2; simp at b0 b1 b2; rw [h, b0, b1, b2]; simp [leV]; omega
    | [], hl => simp at hl; omega
    | [_], hl => simp at hl; omega
    | [_, _], hl => simp at hl; omega
    | _ :: _ :: _ :: _ :: _, hl => simp at hl; omega
  · have b1 := bt_list s 1 (by omega)
    have b2 := bt_list s 2 (by omega)
    have b3 := bt_list s 3 (by omega)
    match e : s.data.toList, hl with
    | [a, b, c, d], _ => rw [e] at b0 b1 b2 b3; simp at b0 b1 b2 b3; rw [h, b0, b1, b2, b3]; simp [leV]; omega
    | [], hl => simp at hl; omega
    | [_], hl => simp at hl; omega
    | [_, _], hl => simp at hl; omega
    | [_, _, _], hl => simp at hl; omega
    | _ :: _ :: _ :: _ :: _ :: _, hl => simp at hl; omega
end Go.Proofs.YtiokfaiioealdaaGreatDoor
namespace Go.Proofs.YtiokfaiioealdaaGreatDoor
open Go.RowKit Go.Proofs.YtiokfaiioealdaaGreatDoorW.PrintWords Go.Proofs.YtiokfaiioealdaaGreatDoorW.PrintLast Go.Proofs.YtiokfaiioealdaaGreatDoorW.PrintMore Go.Proofs.YtiokfaiioealdaaGreatDoor.L
set_option linter.unusedVariables false
set_option linter.unusedSimpArgs false
set_option maxHeartbeats 8000000 in
set_option maxRecDepth 100000 in
theorem seg_wasted (chs : List (List Int)) (A : Option Addr) (cap : Nat) (w : World) (hC : Kd.C RW w A chs.length chs) (hc : chs.length ≤ cap) (hl : chs.length ≤ 8192) (hr : ∀ xs ∈ chs, xs.length ≤ 8192) (hs : ∀ xs ∈ chs, xs.all smpOk = true) (ht : Tab6 w) :
    Calls Tryz.prog 102 #[.slice A chs.length cap] w fun e w' => e = .returned (.int .i64 (wst 15 chs.flatten : Nat)) ∧ ∃ k, w' = w.drewN k := by
  have hC0 := Lib.hid hC
  have ht0 := Lib.hid ht
  clear hC ht
  go_enter Tryz.func102, Tryz.ntmps102
  go_wp2_with (fail)
  go_loopg [3, 10] chs.length (fun kq v3 v10 W => ∃ (i m : Nat), v3 = .int .i64 (wst 15 (chs.take i).flatten : Nat) ∧ v10 = .int .i64 (i : Int) ∧ i + kq = chs.length ∧ W = w.drewN m)
  case atStart => exact ⟨0, 0, rfl, rfl, by omega, rfl⟩
  case round =>
    obtain ⟨i, m, rfl, rfl, hi, rfl⟩ := hrel
    have hCW := Kd.C_drewN hC0.out m
    by_cases c1 : i < chs.length
    · have c1d : decide ((i : Int) < (chs.length : Int)) = true := decide_eq_true (by omega)
      obtain ⟨ad, A1, k1, ead, hx, hk1, hC1⟩ := rows_at hCW i c1
      cases ead
      have p3 := eq_true (show (0 : Int) ≤ (i : Int) by omega)
      have q3 := eq_true (show (i : Int) < (chs.length : Int) by omega)
      have hmem : row chs i ∈ chs := by rw [row_get c1]; exact List.getElem_mem c1
      have hnx : wst 15 (chs.take (i + 1)).flatten = min (wst 15 (chs.take i).flatten) (wst 15 (row chs i)) := by
        rw [List.take_succ_eq_append_getElem c1, List.flatten_append, wst_append, ← row_get c1]; simp
      have hr1 := hr _ hmem
      have hs1 := hs _ hmem
      obtain ⟨a, ha⟩ : ∃ a, wst 15 (chs.take i).flatten = a := ⟨_, rfl⟩
      obtain ⟨b, hb⟩ : ∃ b, wst 15 (row chs i) = b := ⟨_, rfl⟩
      have ha15 : a ≤ 15 := by rw [← ha]; exact wst_le _ _
      rw [ha, hb] at hnx
      rw [ha]
      generalize row chs i = xs at hx hk1 hC1 hr1 hs1 hb
      have hcf := fun W (h : Kd.C (Kd.int .i64) W A1 xs.length xs) => contains_func 141 nonB (.inr (.inr ⟨rfl, rfl⟩)) xs A1 k1 W h hk1 (by omega)
      replace hnx := Lib.hid hnx
      replace ha := Lib.hid ha
      clear hCW hmem
      cases hn : xs.any nonB with
      | true =>
        rw [hn] at hcf
        have hsw := fun W (h : Kd.C (Kd.int .i64) W A1 xs.length xs) (t : Tab6 W) => shift_wasted xs A1 k1 W h hk1 hr1 hs1 hn t
        rw [hb] at hsw
        replace hcf := Lib.hid hcf
        replace hsw := Lib.hid hsw
        replace hb := Lib.hid hb
        replace hs1 := Lib.hid hs1
        replace hn := Lib.hid hn
        have hC2 := Lib.hid hC1
        clear hC1
        go_wp2_with (fail)
        refine (hcf.out _ hC2.out).mono ?_
        rintro e w3 ⟨rfl, m3, rfl⟩
        clear hcf hx
        go_wp2_with (fail)
        refine (hsw.out (w.drewN (m + m3)) (by rw [← World.drewN_drewN]; exact Kd.C_drewN hC2.out m3) (ht0.out.drewN _)).mono ?_
        rintro e w4 ⟨rfl, m4, rfl⟩
        clear hsw
        go_wp2_with (fail)
        obtain ⟨j, rfl⟩ : ∃ j, gk = j + 1 := ⟨gk - 1, by omega⟩
        go_roundg j
        case measure => omega
        case rel => exact ⟨i + 1, _, by rw [hnx.out]; simp; omega, by simp, by omega, rfl⟩
      | false =>
        rw [hn] at hcf
        have hb15 := wst_zeros 15 hn
        rw [hb] at hb15
        replace hcf := Lib.hid hcf
        replace hb := Lib.hid hb
        replace hs1 := Lib.hid hs1
        replace hn := Lib.hid hn
        replace hb15 := Lib.hid hb15
        have hC2 := Lib.hid hC1
        clear hC1
        go_wp2_with (fail)
        refine (hcf.out _ hC2.out).mono ?_
        rintro e w3 ⟨rfl, m3, rfl⟩
        clear hcf hx
        go_wp2_with (fail)
        obtain ⟨j, rfl⟩ : ∃ j, gk = j + 1 := ⟨gk - 1, by omega⟩
        go_roundg j
        case measure => omega
        case rel => exact ⟨i + 1, _, by rw [hnx.out, hb15.out]; congr 2; omega, by simp, by omega, rfl⟩
    · have c1d : decide ((i : Int) < (chs.length : Int)) = false := decide_eq_false (by omega)
      rw [List.take_of_length_le (by omega)]
      obtain ⟨a, ha⟩ : ∃ a, wst 15 chs.flatten = a := ⟨_, rfl⟩
      rw [ha]
      replace ha := Lib.hid ha
      go_wp2_with (fail)
      go_ret
      exact ⟨by rw [ha.out]; rfl, m, rfl⟩
theorem u8_nat {n : Nat} (h : n < 256) : IntKind.u8.wrap (n : Int) = n := by simp [IntKind.wrap, IntKind.bits, IntKind.signed]; omega
theorem app_list (a b : ByteArray) : (a ++ b).data.toList = a.data.toList ++ b.data.toList := by simp [ByteArray.data_append]
theorem size_list (s : ByteArray) : s.data.toList.length = s.size := by rw [Array.length_toList]; rfl
theorem conv3 (a b c : Int) (W : World) : (convert 43 9 (.slice (some ⟨W.heap.size, 0, none⟩) 3 3)).run Tryz.prog (W.alloc (.cells #[.int .u8 a, .int .u8 b, .int .u8 c] 5)) = .ok (.string (strOfNums [a, b, c])) (W.alloc (.cells #[.int .u8 a, .int .u8 b, .int .u8 c] 5)) := by
  have hX := L.BC.new W [.int .u8 a, .int .u8 b, .int .u8 c] 5
  refine string_of_reads Tryz.underlying43 Tryz.underlying5 Tryz.underlying9 ⟨rfl, by decide, fun _ => ⟨_, rfl, fun j hj => ?_⟩⟩
  rw [add_plain]
  match j, hj with
  | 0, _ => exact L.BC.at_ hX (o := 0) rfl
  | 1, _ => exact L.BC.at_ hX (o := 1) rfl
  | 2, _ => exact L.BC.at_ hX (o := 2) rfl
set_option maxHeartbeats 8000000 in
set_option maxRecDepth 100000 in
theorem told_any (k y m : Nat) (own : ByteArray) (w : World) (hk : k < 256) (hy : y < 256) (hm : m < 256) (hl : own.size < 65536) :
    Calls Tryz.prog 58 #[.int .i64 k, .int .i64 y, .int .i64 m, .string own] w fun e w' => ∃ t : ByteArray, e = .returned (.string t) ∧ t.data.toList = told k y m own.data.toList ∧ Below w.heap.size w w' := by
  have hf2 := fun W => PQ.field_Put.calls 20 (own.size : Int) 2 _ 0 W (fput2 own.size hl)
  have hz2d := str2 own.size
  generalize strOfNums [(own.size : Int) % 256, (own.size : Int) / 256 % 256] = z2 at hf2 hz2d
  have hk8 := u8_nat hk
  have hy8 := u8_nat hy
  have hm8 := u8_nat hm
  have hcv := conv3 (k : Int) (y : Int) (m : Int)
  have hd3 : (strOfNums [(k : Int), (y : Int), (m : Int)]).data.toList = [by8 k, by8 y, by8 m] := by
    rw [strOfNums_data]
    show [UInt8.ofNat (k : Int).toNat, UInt8.ofNat (y : Int).toNat, UInt8.ofNat (m : Int).toNat] = [UInt8.ofNat ((k : Int) % 256).toNat, UInt8.ofNat ((y : Int) % 256).toNat, UInt8.ofNat ((m : Int) % 256).toNat]
    rw [Int.emod_eq_of_lt (by omega) (by omega : (k : Int) < 256), Int.emod_eq_of_lt (by omega) (by omega : (y : Int) < 256), Int.emod_eq_of_lt (by omega) (by omega : (m : Int) < 256)]
  generalize strOfNums [(k : Int), (y : Int), (m : Int)] = h3 at hcv hd3
  have hsl : (h3 ++ z2 ++ own).data.toList = toldH k y m own.data.toList := by
    rw [app_list, app_list, hd3, hz2d, toldH, size_list]
  have hss : (h3 ++ z2 ++ own).size < 65541 := by
    rw [← size_list, hsl, toldH]
    simp [w2]
    omega
  have n2 : z2.size = 2 := by rw [← size_list, hz2d]; rfl
  have n3 : h3.size = 3 := by rw [← size_list, hd3]; rfl
  have s1 := eq_false (show ¬ 9223372036854775807 < h3.size + z2.size by omega)
  have s2 := eq_false (show ¬ 9223372036854775807 < h3.size + z2.size + own.size by omega)
  have hX := crcOf_lt (nats (h3 ++ z2 ++ own)) (nats_lt _)
  have hsum := fun W => crc_sum (h3 ++ z2 ++ own) W (by omega)
  obtain ⟨X, hXe⟩ : ∃ X, crcOf (nats (h3 ++ z2 ++ own)) = X := ⟨_, rfl⟩
  rw [hXe] at hX hsum
  have hf4 := fun W => PQ.field_Put.calls 20 (X : Int) 4 _ 0 W (fput4 X hX)
  have hz4d := str4 X
  generalize strOfNums [(X : Int) % 256, (X : Int) / 256 % 256, (X : Int) / 65536 % 256, (X : Int) / 16777216 % 256] = z4 at hf4 hz4d
  have n4 : z4.size = 4 := by rw [← size_list, hz4d]; rfl
  have s3 := eq_false (show ¬ 9223372036854775807 < h3.size + z2.size + own.size + z4.size by omega)
  replace n2 := Lib.hid n2
  replace n3 := Lib.hid n3
  replace n4 := Lib.hid n4
  have hlast : (h3 ++ z2 ++ own ++ z4).data.toList = told k y m own.data.toList := by
    rw [app_list, hz4d, hsl, told, ← hXe, ← hsl]
    rfl
  replace hf2 := Lib.hid hf2
  replace hf4 := Lib.hid hf4
  replace hsum := Lib.hid hsum
  replace hXe := Lib.hid hXe
  replace hlast := Lib.hid hlast
  replace hd3 := Lib.hid hd3
  replace hz2d := Lib.hid hz2d
  replace hz4d := Lib.hid hz4d
  clear hsl hss hX
  go_enter Tryz.func58, Tryz.ntmps58
  go_wp2_with (fail)
  refine (hf2.out _).mono ?_
  rintro e w1 ⟨rfl, hb1⟩
  clear hf2
  go_wp2_with (fail)
  refine (hsum.out _).mono ?_
  rintro e w2 ⟨rfl, hb2⟩
  clear hsum
  go_wp2_with (fail)
  refine (hf4.out _).mono ?_
  rintro e w3 ⟨rfl, hb3⟩
  go_wp2_with (fail)
  go_ret
  exact ⟨_, rfl, hlast.out, below_trans (below_trans (L.below_alloc hb1 _) hb2) hb3⟩
end Go.Proofs.YtiokfaiioealdaaGreatDoor
namespace Go.Proofs.YtiokfaiioealdaaGreatDoor
open Go.RowKit Go.Proofs.YtiokfaiioealdaaGreatDoorW.PrintWords Go.Proofs.YtiokfaiioealdaaGreatDoor.L
set_option linter.unusedVariables false
set_option linter.unusedSimpArgs false
theorem may_q (c b : Int) : PQ.pcm_May.f c b = some (fOk c b) := by
  unfold PQ.pcm_May.f fOk
  by_cases h1 : c = 1
  · subst h1
    rw [if_pos rfl]
    by_cases h2 : b = 8
    · subst h2; rfl
    · rw [if_neg h2, decide_eq_false h2]; simp; rfl
  · rw [if_neg h1, decide_eq_false h1]
    by_cases h3 : c = 2
    · subst h3
      rw [if_pos rfl]
      by_cases h2 : b = 8
      · subst h2; rfl
      · rw [if_neg h2, decide_eq_false h2]; simp; rfl
    · rw [if_neg h3, decide_eq_false h3]; rfl
theorem frame_q {c b : Int} (h : fOk c b = true) : PQ.pcm_Frame.f c b = some ((fsz c b : Nat) : Int) := by
  obtain ⟨rfl | rfl, rfl | rfl⟩ := fOk_iff.1 h <;> decide +kernel
theorem frames_q {c b : Int} (d : ByteArray) (h : fOk c b = true) : PQ.pcm_Frames.f d c b = some (decide (d.size % fsz c b = 0)) := by
  have h4 := fsz_in h
  rw [PQ.pcm_Frames.f, frame_q h]
  show (if ((fsz c b : Nat) : Int) = 0 then none else some (((d.size : Int) % ((fsz c b : Nat) : Int)) == 0)) = _
  rw [if_neg (by omega), ← Int.natCast_emod]
  congr 1
  rw [Bool.eq_iff_iff, beq_iff_eq, decide_eq_true_eq]
  omega
theorem ext_list (s : ByteArray) (i j : Nat) : (s.extract i j).data.toList = (s.data.toList.take j).drop i := by
  rw [ByteArray.data_extract, Array.toList_extract]
  simp [List.drop_take, List.extract]
theorem u16_wrap (n : Int) (h₀ : 0 ≤ n) (h₁ : n < 2 ^ 16) : IntKind.u16.wrap n = n := by simp [IntKind.wrap, IntKind.bits, IntKind.signed]; omega
theorem i16_wrap (n : Int) (h₀ : 0 ≤ n) (h₁ : n < 65536) : IntKind.i16.wrap n = if n < 32768 then n else n - 65536 := by
  simp [IntKind.wrap, IntKind.bits, IntKind.signed]; split <;> omega
theorem or16 (x y : Int) (hx : 0 ≤ x) (hx1 : x ≤ 255) (hy : 0 ≤ y) (hy1 : y ≤ 255) : bits .or .u16 x (IntKind.u16.wrap (y * 256)) = x + 256 * y := by
  have e : IntKind.u16.wrap (y * 256) = y * 256 := u16_wrap _ (by omega) (by omega)
  rw [e, or_comm_bits, bits_join .u16 16 (by decide) u16_wrap 8 (y * 256) x (by omega) (Int.mul_emod_left y 256) (by omega) hx (by omega) (by omega)]
  omega
theorem sample_q {b : Int} (hb : b = 8 ∨ b = 16) (d : ByteArray) (i : Nat) (h : (i + 1) * szB b ≤ d.size) : PQ.pcm_sample.f (d.extract (i * szB b) ((i + 1) * szB b)) = some (smpAt b d.data.toList i) := by
  have hl : d.data.toList.length = d.size := by rw [Array.length_toList]; rfl
  have hs : (d.extract (i * szB b) ((i + 1) * szB b)).size = szB b := by
    rw [ByteArray.size_extract]
    rw [Nat.min_eq_left h, Nat.succ_mul]; omega
  have hat : ∀ j, j < szB b → bt (d.extract (i * szB b) ((i + 1) * szB b)) (j : Int) = ((d.data.toList.getD (i * szB b + j) 0).toNat : Int) := by
    intro j hj
    rw [bt_list _ _ (by rw [hs]; exact hj), ext_list, List.getD_eq_getElem?_getD, List.getElem?_drop, List.getElem?_take_of_lt (by rw [Nat.succ_mul]; omega), ← List.getD_eq_getElem?_getD]
  rcases hb with rfl | rfl
  · have h0 := hat 0 (by decide)
    generalize d.extract (i * szB 8) ((i + 1) * szB 8) = e at hs h0
    have e1 : szB 8 = 1 := rfl
    rw [e1] at hs h0
    have r0 := bt_range e 0
    rw [PQ.pcm_sample.f, if_pos (by omega), if_pos (by omega), wrap_bt]
    rw [show (0 : Int) = ((0 : Nat) : Int) from rfl, h0] at r0 ⊢
    rw [Nat.add_zero, Nat.mul_one] at h0 r0 ⊢
    rw [IntWalk.wrap64_in _ (by omega)]
    unfold smpAt s8
    rw [if_pos rfl]
  · have h0 := hat 0 (by decide)
    have h1 := hat 1 (by decide)
    generalize d.extract (i * szB 16) ((i + 1) * szB 16) = e at hs h0 h1
    have e1 : szB 16 = 2 := rfl
    rw [e1] at hs h0 h1
    have r0 := bt_range e 0
    have r1 := bt_range e 1
    have u0 : IntKind.u16.wrap (bt e 0) = bt e 0 := u16_wrap _ (by omega) (by omega)
    have u1 : IntKind.u16.wrap (bt e 1) = bt e 1 := u16_wrap _ (by omega) (by omega)
    have hor := or16 (bt e 0) (bt e 1) (by omega) (by omega) (by omega) (by omega)
    have h0' : bt e 0 = ((d.data.toList.getD (i * 2 + 0) 0).toNat : Int) := h0
    have h1' : bt e 1 = ((d.data.toList.getD (i * 2 + 1) 0).toNat : Int) := h1
    rw [PQ.pcm_sample.f, if_neg (by omega), if_pos (by omega), if_pos (by omega), u0, u1]
    rw [hor]
    rw [i16_wrap _ (by omega) (by omega)]
    rw [Nat.add_zero, Nat.mul_comm i 2] at h0'
    rw [Nat.mul_comm i 2] at h1'
    rw [h0', h1']
    show _ = some (if (16 : Int) = 8 then s8 (d.data.toList.getD i 0) else s16 (d.data.toList.getD (2 * i) 0) (d.data.toList.getD (2 * i + 1) 0))
    rw [if_neg (show ¬ (16 : Int) = 8 by decide)]
    generalize d.data.toList.getD (2 * i) 0 = x
    generalize d.data.toList.getD (2 * i + 1) 0 = y
    have hx := x.toNat_lt
    have hy := y.toNat_lt
    unfold s16
    by_cases hlt : x.toNat + 256 * y.toNat < 32768
    · rw [if_pos (by omega), if_pos hlt]; exact congrArg some (IntWalk.wrap64_in _ (by omega))
    · rw [if_neg (by omega), if_neg hlt]; exact congrArg some (IntWalk.wrap64_in _ (by omega))
/-- The rows behind i samples. -/
def rowsAt (c b : Int) (l : List UInt8) (i : Nat) : List (List Int) := (List.range c.toNat).map fun k => chn b l c.toNat k ((i + c.toNat - 1 - k) / c.toNat)
theorem chn_succ (b : Int) (l : List UInt8) (c k n : Nat) : chn b l c k (n + 1) = chn b l c k n ++ [smpAt b l (n * c + k)] := by
  unfold chn; rw [List.range_succ, List.map_append]; rfl
theorem rows_one (b : Int) (l : List UInt8) (i : Nat) : rowsAt 1 b l i = [chn b l 1 0 i] := by
  show [chn b l 1 0 ((i + 1 - 1 - 0) / 1)] = _
  rw [Nat.div_one, Nat.sub_zero, Nat.add_sub_cancel]
theorem rows_two (b : Int) (l : List UInt8) (i : Nat) : rowsAt 2 b l i = [chn b l 2 0 ((i + 1) / 2), chn b l 2 1 (i / 2)] := by
  show [chn b l 2 0 ((i + 2 - 1 - 0) / 2), chn b l 2 1 ((i + 2 - 1 - 1) / 2)] = _
  rw [show i + 2 - 1 - 0 = i + 1 by omega, show i + 2 - 1 - 1 = i by omega]
theorem rows_step {c : Int} (hc : c = 1 ∨ c = 2) (b : Int) (l : List UInt8) (i : Nat) : rowsAt c b l (i + 1) = (rowsAt c b l i).set (i % c.toNat) ((rowsAt c b l i).getD (i % c.toNat) [] ++ [smpAt b l i]) := by
  rcases hc with rfl | rfl
  · rw [rows_one, rows_one, show i % (1 : Int).toNat = 0 from Nat.mod_one i, chn_succ, Nat.mul_one, Nat.add_zero]
    rfl
  · rw [rows_two, rows_two, show (2 : Int).toNat = 2 from rfl]
    rcases Nat.mod_two_eq_zero_or_one i with h | h
    · rw [h, show (i + 1 + 1) / 2 = i / 2 + 1 by omega, show (i + 1) / 2 = i / 2 by omega, chn_succ, show i / 2 * 2 + 0 = i by omega]
      rfl
    · rw [h, show (i + 1 + 1) / 2 = i / 2 + 1 by omega, show (i + 1) / 2 = i / 2 + 1 by omega]
      rw [chn_succ b l 2 1, show i / 2 * 2 + 1 = i by omega]
      rfl
theorem rows_all {c : Int} (hc : c = 1 ∨ c = 2) (b : Int) (l : List UInt8) (n : Nat) (hn : n = l.length / fsz c b) : rowsAt c b l (n * c.toNat) = pcmG c b l := by
  unfold rowsAt pcmG
  refine List.map_congr_left fun k hk => ?_
  have hk := List.mem_range.1 hk
  rw [← hn]
  congr 1
  rcases hc with rfl | rfl
  · have : k = 0 := by have : (1 : Int).toNat = 1 := rfl; omega
    subst this
    show (n * 1 + 1 - 1 - 0) / 1 = n
    rw [Nat.div_one]; omega
  · have h2 : k = 0 ∨ k = 1 := by have : (2 : Int).toNat = 2 := rfl; omega
    show (n * 2 + 2 - 1 - k) / 2 = n
    omega
theorem rows_len (c b : Int) (l : List UInt8) (i : Nat) : (rowsAt c b l i).length = c.toNat := by unfold rowsAt; rw [List.length_map, List.length_range]
theorem rows_row {c : Int} (hc : c = 1 ∨ c = 2) (b : Int) (l : List UInt8) (i : Nat) : ((rowsAt c b l i).getD (i % c.toNat) []).length ≤ i := by
  rcases hc with rfl | rfl
  · rw [rows_one, show i % (1 : Int).toNat = 0 from Nat.mod_one i]
    show (chn b l 1 0 i).length ≤ i
    rw [chn_len]; exact Nat.le_refl _
  · rw [rows_two, show (2 : Int).toNat = 2 from rfl]
    rcases Nat.mod_two_eq_zero_or_one i with h | h
    · rw [h]; show (chn b l 2 0 ((i + 1) / 2)).length ≤ i; rw [chn_len]; omega
    · rw [h]; show (chn b l 2 1 (i / 2)).length ≤ i; rw [chn_len]; omega
theorem get_go {c b : Int} (hc : c = 1 ∨ c = 2) (hb : b = 8 ∨ b = 16) (d : ByteArray) (n : Nat) (hd : n * szB b = d.size) (h : d.size ≤ 4096) : ∀ (k i : Nat), i + k = n → PQ.pcm_Get.l0 (k + 1) d (rowsAt c b d.data.toList i) (szB b : Nat) (i : Int) c b = some (rowsAt c b d.data.toList n, 0) := by
  have hz : 1 ≤ szB b ∧ szB b ≤ 2 := by rcases hb with rfl | rfl <;> decide
  have hwm : ∀ j : Nat, j ≤ 4097 → wrap64 ((j : Int) * ((szB b : Nat) : Int)) = ((j * szB b : Nat) : Int) := by
    intro j hj
    have : j * szB b ≤ 4097 * 2 := Nat.mul_le_mul hj hz.2
    rw [← Int.natCast_mul]
    generalize j * szB b = q at this ⊢
    exact IntWalk.wrap64_in _ (by omega)
  have hn : n ≤ 4096 := by
    have := Nat.le_mul_of_pos_right n hz.1
    omega
  intro k
  induction k with
  | zero =>
    intro i hi
    obtain rfl : i = n := by omega
    unfold PQ.pcm_Get.l0
    rw [hwm i (by omega), hd, if_neg (by omega)]
  | succ k ih =>
    intro i hi
    have hi1 : i + 1 ≤ n := by omega
    have hle : (i + 1) * szB b ≤ d.size := by rw [← hd]; exact Nat.mul_le_mul_right _ hi1
    have hsu : (i + 1) * szB b = i * szB b + szB b := Nat.succ_mul i (szB b)
    have hw1 : wrap64 ((i : Int) + 1) = ((i + 1 : Nat) : Int) := IntWalk.wrap64_in _ (by omega)
    have hmod : Int.tmod (i : Int) c = ((i % c.toNat : Nat) : Int) := by rcases hc with rfl | rfl <;> rfl
    have hcn : 0 < c.toNat := by omega
    have hml := Nat.mod_lt i hcn
    have hgd : PQ.rd_L1 (rowsAt c b d.data.toList i) ((i % c.toNat : Nat) : Int) = (rowsAt c b d.data.toList i).getD (i % c.toNat) [] := by
      unfold PQ.rd_L1; rw [Int.toNat_natCast]
    have hrl := rows_row hc b d.data.toList i
    unfold PQ.pcm_Get.l0
    rw [hwm i (by omega), if_pos (by omega), if_neg (by omega), hmod, if_pos (by omega), if_pos (by rw [rows_len]; omega), if_pos (by omega), hw1, hwm (i + 1) (by omega), if_pos (by omega), if_pos (by omega), Int.toNat_natCast, Int.toNat_natCast, sample_q hb d i hle, hgd]
    show (if _ then PQ.pcm_Get.l0 (k + 1) d ((rowsAt c b d.data.toList i).set ((i % c.toNat : Nat) : Int).toNat _) _ _ c b else none) = _
    rw [if_pos (by omega), Int.toNat_natCast, ← rows_step hc]
    exact ih (i + 1) (by omega)
theorem get_yes {c b : Int} (d : ByteArray) (hf : fOk c b = true) (hm : d.size % fsz c b = 0) (h : d.size ≤ 4096) : PQ.pcm_Get.f 5000 d c b = some (pcmG c b d.data.toList, 0) := by
  obtain ⟨hc, hb⟩ := fOk_iff.1 hf
  have h4 := fsz_in hf
  have hl : d.data.toList.length = d.size := by rw [Array.length_toList]; rfl
  have hdm := Nat.div_mul_cancel (Nat.dvd_of_mod_eq_zero hm)
  rw [PQ.pcm_Get.f, may_q, hf, frames_q d hf, decide_eq_true hm, decide_eq_false (show ¬ (d.size : Int) > 4096 by omega)]
  show PQ.pcm_Get.j0 (4999 + 1) d false c b = _
  rw [PQ.pcm_Get.j0]
  rw [if_neg (by decide), if_pos (by omega), if_pos (by omega)]
  have hr0 : List.replicate c.toNat ([] : List Int) = rowsAt c b d.data.toList 0 := by
    rcases hc with rfl | rfl
    · rw [rows_one]; rfl
    · rw [rows_two]; rfl
  have hsz : wrap64 (Int.tdiv b 8) = ((szB b : Nat) : Int) := by rcases hb with rfl | rfl <;> decide +kernel
  have hz : 1 ≤ szB b := by rcases hb with rfl | rfl <;> decide
  rw [hr0, hsz]
  have hn : (d.size / fsz c b * c.toNat) * szB b = d.size := by rw [Nat.mul_assoc]; exact hdm
  have hn2 : d.size / fsz c b * c.toNat ≤ 4096 := by
    have := Nat.le_mul_of_pos_right (d.size / fsz c b * c.toNat) hz
    omega
  have hg := get_go hc hb d _ hn h (d.size / fsz c b * c.toNat) 0 (by omega)
  have hmono : ∀ j, PQ.pcm_Get.l0 (d.size / fsz c b * c.toNat + 1 + j) d (rowsAt c b d.data.toList 0) ((szB b : Nat) : Int) (((0 : Nat) : Int)) c b = some (rowsAt c b d.data.toList (d.size / fsz c b * c.toNat), 0) := by
    intro j
    induction j with
    | zero => exact hg
    | succ j ih => exact (PQ.pcm_Get.mono_l _).2 _ _ _ _ _ _ _ ih
  have := hmono (4999 - (d.size / fsz c b * c.toNat + 1))
  rw [show d.size / fsz c b * c.toNat + 1 + (4999 - (d.size / fsz c b * c.toNat + 1)) = 4999 by omega] at this
  rw [rows_all hc b d.data.toList _ (by rw [hl])] at this
  exact this
theorem get_no {c b : Int} (d : ByteArray) (h : ¬ (fOk c b = true ∧ d.size % fsz c b = 0 ∧ d.size ≤ 4096)) : PQ.pcm_Get.f 5000 d c b = some ([], 1900) := by
  rw [PQ.pcm_Get.f, may_q]
  cases hf : fOk c b with
  | false => rfl
  | true =>
    rw [frames_q d hf]
    by_cases hm : d.size % fsz c b = 0
    · rw [decide_eq_true hm, decide_eq_true (show (d.size : Int) > 4096 by
        have : ¬ d.size ≤ 4096 := fun h4 => h ⟨hf, hm, h4⟩
        omega)]
      rfl
    · rw [decide_eq_false hm]; rfl
end Go.Proofs.YtiokfaiioealdaaGreatDoor
namespace Go.Proofs.YtiokfaiioealdaaGreatDoor
open Go.RowKit Go.Proofs.YtiokfaiioealdaaGreatDoorW.PrintWords Go.Proofs.YtiokfaiioealdaaGreatDoorW.PrintLast Go.Proofs.YtiokfaiioealdaaGreatDoorW.PrintMore Go.Proofs.YtiokfaiioealdaaGreatDoor.L
set_option linter.unusedVariables false
set_option linter.unusedSimpArgs false
theorem infoS : (Tryz.prog.info? 104).map (·.size) = some 3 := by kernel_rfl
theorem sframe_q {c b : Int} (d : ByteArray) (h : fOk c b = true) : PQ.segment_sound_frame.f d c b = some ((fsz c b : Nat) : Int) := by
  rw [PQ.segment_sound_frame.f, frame_q h]; rfl
theorem smany_q {c b : Int} (d : ByteArray) (h : fOk c b = true) (hs : d.size ≤ 9223372036854775807) : PQ.segment_sound_many.f d c b = some ((d.size / fsz c b : Nat) : Int) := by
  have h4 := fsz_in h
  rw [PQ.segment_sound_many.f, sframe_q d h]
  show (if ((fsz c b : Nat) : Int) = 0 then none else some (wrap64 ((d.size : Int) / ((fsz c b : Nat) : Int)))) = _
  rw [if_neg (by omega)]
  have e : (d.size : Int) / ((fsz c b : Nat) : Int) = ((d.size / fsz c b : Nat) : Int) := by rw [Int.natCast_ediv]
  have h5 := Nat.div_le_self d.size (fsz c b)
  rw [e]
  generalize d.size / fsz c b = q at h5 ⊢
  rw [IntWalk.wrap64_in _ (by omega)]
theorem rep_list (l : List UInt8) : ∀ n, Lib.repeatL l n = (List.replicate n l).flatten
  | 0 => rfl
  | n + 1 => by rw [List.replicate_succ, List.flatten_cons, ← rep_list l n]; rfl
set_option maxHeartbeats 8000000 in
set_option maxRecDepth 100000 in
theorem snd_constant (d : ByteArray) (c b : Int) (w : World) (h : segOk c b d.data.toList = true) :
    Calls Tryz.prog 57 #[.agg #[.string d, .int .i64 c, .int .i64 b]] w fun e w' => e = .returned (.bool (sameB c b d.data.toList)) ∧ Below w.heap.size w w' := by
  obtain ⟨hf, hmod, hp, h64⟩ := segOk_iff.1 h
  have h4 := fsz_in hf
  have hle := same_len h
  obtain ⟨m1, m64, hmf, h256⟩ := seg_many h
  rw [size_list] at hle m1 m64 hmf h256
  have hF := fun W => PQ.segment_sound_frame.calls d c b ((fsz c b : Nat) : Int) W (sframe_q d hf)
  have hM := fun W => PQ.segment_sound_many.calls d c b ((d.size / fsz c b : Nat) : Int) W (smany_q d hf (by omega))
  have hRp := fun W => Tryz.strings_Repeat (d.extract 0 (fsz c b)) (d.size / fsz c b) W (by omega) (by
    rw [← size_list, ext_list, List.drop_zero, List.length_take, size_list, Nat.min_eq_left hle, Nat.mul_comm, hmf]; omega)
  have hTl : Lib.repeatL (d.extract 0 (fsz c b)).data.toList (d.size / fsz c b) = (List.replicate (d.size / fsz c b) (d.data.toList.take (fsz c b))).flatten := by
    rw [rep_list, ext_list, List.drop_zero]
  obtain ⟨T, hT⟩ : ∃ T : ByteArray, T = ⟨(Lib.repeatL (d.extract 0 (fsz c b)).data.toList (d.size / fsz c b)).toArray⟩ := ⟨_, rfl⟩
  have hTd : T.data.toList = (List.replicate (d.size / fsz c b) (d.data.toList.take (fsz c b))).flatten := by rw [hT]; exact hTl
  rw [← hT] at hRp
  have hsame : sameB c b d.data.toList = (d.toList == T.toList) := by
    rw [sameB, size_list, ← hTd, ByteArray.toList_eq, ByteArray.toList_eq, Bool.eq_iff_iff, decide_eq_true_eq, beq_iff_eq]
  rw [hsame]
  obtain ⟨fs, hfs⟩ : ∃ n, fsz c b = n := ⟨_, rfl⟩
  obtain ⟨mn, hmn⟩ : ∃ n, d.size / fsz c b = n := ⟨_, rfl⟩
  rw [hmn] at hM hRp
  rw [hfs] at hF hRp hle
  have p1 := eq_true (show (0 : Int) ≤ (fs : Int) by omega)
  have p2 := eq_true (show (fs : Int) ≤ (d.size : Int) by omega)
  have p3 := eq_true hle
  replace hF := Lib.hid hF
  replace hM := Lib.hid hM
  replace hRp := Lib.hid hRp
  replace hfs := Lib.hid hfs
  replace hmn := Lib.hid hmn
  clear hT hTd hTl hsame h64 h256 hmf hle hp hmod h
  go_enter Tryz.func57, Tryz.ntmps57
  go_upto_region 1 with (first | ((with_reducible refine gate_dst (N := 1) rfl ?_); refine box_event ?hg (N := 1) ?hd (cs := #[.string d, .int .i64 c, .int .i64 b]) (t := 104) ?hr ?_; (case hd => rfl); (case hg => rfl); (case hr => first | (go_simp; done) | (go_simp; rfl)); intro gb hgb wb hbox hbb; replace hgb := Lib.hid hgb))
  have hX : L.BC wb gb 104 [.string d, .int .i64 c, .int .i64 b] := ⟨hbox⟩
  clear hbox
  replace hX := L.BC.drew hX
  replace hB := L.below_drew hbb
  clear hbb
  refine start_ (n := 12) (S := fun w' => L.BC w' gb 104 [.string d, .int .i64 c, .int .i64 b] ∧ w'.cell? ⟨gb, 0, none⟩ = some (.string d)) (ds := []) #[false, false, false, false, false, false, false, false, false, false, false, false] (by kernel_rfl) rfl rfl ⟨hX, L.BC.at_ hX (o := 0) rfl⟩ (fun hHeld => ?_)
  generalize wb.drew = w2 at hX hB hHeld ⊢
  refine pure_ (i := 0) (N := (some 3)) (v := ?_) (a' := ?_) #[true, false, false, false, false, false, false, false, false, false, false, false] rfl rfl (by kernel_rfl) (fun _ _ _ h => h) (Or.inl ⟨by rfl, ?_⟩) ?_ ?_
  rotate_left
  · intro w'
    go_simp
    with_reducible rfl
  rotate_left
  · simp only [Act.put, List.setIfInBounds_toArray, List.set_cons_zero, List.set_cons_succ, i64_w, i32_w]
    rfl
  refine pure_ (i := 2) (N := (some 5)) (v := ?_) (a' := ?_) #[true, false, true, false, false, false, false, false, false, false, false, false] rfl rfl (by kernel_rfl) (fun _ _ _ h => h) (Or.inl ⟨by rfl, ?_⟩) ?_ ?_
  rotate_left
  · intro w'
    go_simp
    with_reducible rfl
  rotate_left
  · simp only [Act.put, List.setIfInBounds_toArray, List.set_cons_zero, List.set_cons_succ, i64_w, i32_w]
    rfl
  refine take_ (i := 1) (N := (some 4)) (v := ?_) (a' := ?_) #[true, true, true, false, false, false, false, false, false, false, false, false] rfl rfl (by kernel_rfl) (fun _ _ _ h => h) (Or.inl ⟨by rfl, ?_⟩) hHeld ?_ ?_
  rotate_left
  · rintro w' ⟨sX, s0⟩
    go_simp
    with_reducible rfl
  rotate_left
  · simp only [Act.put, List.setIfInBounds_toArray, List.set_cons_zero, List.set_cons_succ, i64_w, i32_w]
    rfl
  refine take_ (i := 3) (N := (some 6)) (v := ?_) (a' := ?_) #[true, true, true, true, false, false, false, false, false, false, false, false] rfl rfl (by kernel_rfl) (fun _ _ _ h => h) (Or.inl ⟨by rfl, ?_⟩) hHeld ?_ ?_
  rotate_left
  · rintro w' ⟨sX, s0⟩
    go_simp
    with_reducible rfl
  rotate_left
  · simp only [Act.put, List.setIfInBounds_toArray, List.set_cons_zero, List.set_cons_succ, i64_w, i32_w]
    rfl
  refine take_ (i := 4) (N := (some 7)) (v := .agg #[.string d, .int .i64 c, .int .i64 b]) (a' := ?_) #[true, true, true, true, true, false, false, false, false, false, false, false] rfl rfl (by kernel_rfl) (fun _ _ _ h => h) (Or.inl ⟨by rfl, fun w' hS => L.loads 104 (.tmp 1) gb [.string d, .int .i64 c, .int .i64 b] _ (by rfl) (by rfl) Tryz.underlying104 rfl infoS w' (And.left hS)⟩) hHeld ?_ ?_
  rotate_left
  · simp only [Act.put, List.setIfInBounds_toArray, List.set_cons_zero, List.set_cons_succ, i64_w, i32_w]
    rfl
  refine take_ (i := 7) (N := (some 10)) (v := .agg #[.string d, .int .i64 c, .int .i64 b]) (a' := ?_) #[true, true, true, true, true, false, false, true, false, false, false, false] rfl rfl (by kernel_rfl) (fun _ _ _ h => h) (Or.inl ⟨by rfl, fun w' hS => L.loads 104 (.tmp 1) gb [.string d, .int .i64 c, .int .i64 b] _ (by rfl) (by rfl) Tryz.underlying104 rfl infoS w' (And.left hS)⟩) hHeld ?_ ?_
  rotate_left
  · simp only [Act.put, List.setIfInBounds_toArray, List.set_cons_zero, List.set_cons_succ, i64_w, i32_w]
    rfl
  refine one_ (i := 5) (N := (some 8)) #[true, true, true, true, true, true, false, true, false, false, false, false] rfl rfl (by kernel_rfl) (by decide) (fun K hK => ?_)
  refine goes_ Tryz.func60 (by kernel_rfl) rfl #[.agg #[.string d, .int .i64 c, .int .i64 b]] (by rfl) rfl rfl (by (try simp only [List.map_toArray, List.map_cons, List.map_nil]); first | done | rfl) ?_
  refine (hF.out _).mono ?_
  rintro e w3 ⟨rfl, hb⟩
  refine ⟨_, rfl, ?_⟩
  replace hX := L.BC.below hX hb
  replace hB := below_trans hB hb
  clear hHeld hb
  refine hK.out _ _ ⟨hX, L.BC.at_ hX (o := 0) rfl⟩ (fun hHeld => ?_)
  clear hK K
  refine norm_ (a' := ?_) ?_ ?_
  rotate_left
  · show Act.put _ (some 8) _ = _
    simp only [Act.put, List.setIfInBounds_toArray, List.set_cons_zero, List.set_cons_succ, i64_w, i32_w]
    rfl
  refine pure_ (i := 6) (N := (some 9)) (v := ?_) (a' := ?_) #[true, true, true, true, true, true, true, true, false, false, false, false] rfl rfl (by kernel_rfl) (fun _ _ _ h => h) (Or.inl ⟨by rfl, ?_⟩) ?_ ?_
  rotate_left
  · intro w'
    go_simp
    with_reducible rfl
  rotate_left
  · simp only [Act.put, List.setIfInBounds_toArray, List.set_cons_zero, List.set_cons_succ, i64_w, i32_w]
    rfl
  refine one_ (i := 8) (N := (some 11)) #[true, true, true, true, true, true, true, true, true, false, false, false] rfl rfl (by kernel_rfl) (by decide) (fun K hK => ?_)
  refine goes_ Tryz.func59 (by kernel_rfl) rfl #[.agg #[.string d, .int .i64 c, .int .i64 b]] (by rfl) rfl rfl (by (try simp only [List.map_toArray, List.map_cons, List.map_nil]); first | done | rfl) ?_
  refine (hM.out _).mono ?_
  rintro e w4 ⟨rfl, hb⟩
  refine ⟨_, rfl, ?_⟩
  replace hX := L.BC.below hX hb
  replace hB := below_trans hB hb
  clear hHeld hb
  refine hK.out _ _ ⟨hX, L.BC.at_ hX (o := 0) rfl⟩ (fun hHeld => ?_)
  clear hK K
  refine norm_ (a' := ?_) ?_ ?_
  rotate_left
  · show Act.put _ (some 11) _ = _
    simp only [Act.put, List.setIfInBounds_toArray, List.set_cons_zero, List.set_cons_succ, i64_w, i32_w]
    rfl
  refine one_ (i := 9) (N := (some 12)) #[true, true, true, true, true, true, true, true, true, true, false, false] rfl rfl (by kernel_rfl) (by decide) (fun K hK => ?_)
  refine goes_ Tryz.func100 (by kernel_rfl) rfl #[.string (d.extract 0 fs), .int .i64 mn] (by rfl) rfl rfl (by (try simp only [List.map_toArray, List.map_cons, List.map_nil]); first | done | rfl) ?_
  refine (hRp.out _).mono ?_
  rintro e w5 ⟨rfl, hb⟩
  refine ⟨_, rfl, ?_⟩
  replace hX := L.BC.below hX hb
  replace hB := below_trans hB hb
  clear hHeld hb
  refine hK.out _ _ ⟨hX, L.BC.at_ hX (o := 0) rfl⟩ (fun hHeld => ?_)
  clear hK K
  refine norm_ (a' := ?_) ?_ ?_
  rotate_left
  · show Act.put _ (some 12) _ = _
    simp only [Act.put, List.setIfInBounds_toArray, List.set_cons_zero, List.set_cons_succ, i64_w, i32_w]
    rfl
  refine pure_ (i := 10) (N := (some 13)) (v := ?_) (a' := ?_) #[true, true, true, true, true, true, true, true, true, true, true, false] rfl rfl (by kernel_rfl) (fun _ _ _ h => h) (Or.inl ⟨by rfl, ?_⟩) ?_ ?_
  rotate_left
  · intro w'
    go_simp
    with_reducible rfl
  rotate_left
  · simp only [Act.put, List.setIfInBounds_toArray, List.set_cons_zero, List.set_cons_succ, i64_w, i32_w]
    rfl
  refine pure_ (i := 11) (N := (some 2)) (v := ?_) (a' := ?_) #[true, true, true, true, true, true, true, true, true, true, true, true] rfl rfl (by kernel_rfl) (fun _ _ _ h => h) (Or.inl ⟨by rfl, ?_⟩) ?_ ?_
  rotate_left
  · intro w'
    go_simp
    with_reducible rfl
  rotate_left
  · simp only [Act.put, List.setIfInBounds_toArray, List.set_cons_zero, List.set_cons_succ, i64_w, i32_w]
    rfl
  refine done_ (by kernel_rfl) ?_
  go_wp2_with (fail)
  go_ret
  exact ⟨rfl, hB⟩
end Go.Proofs.YtiokfaiioealdaaGreatDoor
namespace Go.Proofs.YtiokfaiioealdaaGreatDoor
open Go.RowKit Go.Proofs.YtiokfaiioealdaaGreatDoorW.PrintWords Go.Proofs.YtiokfaiioealdaaGreatDoorW.PrintLast Go.Proofs.YtiokfaiioealdaaGreatDoorW.PrintMore Go.Proofs.YtiokfaiioealdaaGreatDoor.L
set_option linter.unusedVariables false
set_option linter.unusedSimpArgs false
theorem dwn_lows (c b : Int) (l : List UInt8) : (pcmG c b l).map (dwn (byOf c b l)) = lows c b l := rfl
theorem byOf_eq (c b : Int) (l : List UInt8) : wst 15 (pcmG c b l).flatten = byOf c b l := rfl
theorem pcmG_smp {c b : Int} {l : List UInt8} {xs : List Int} (h : xs ∈ pcmG c b l) : xs.all smpOk = true := by
  refine List.all_eq_true.2 fun x hx => ?_
  have := (pcmG_row h).2 x hx
  exact ins_iff.2 (by omega)
theorem row_mem {chs : List (List Int)} {k : Nat} (h : k < chs.length) : row chs k ∈ chs := by rw [row_get h]; exact List.getElem_mem h
theorem set_rows {X Y : List (List Int)} {k : Nat} (hl : Y.length = X.length) (hk : k < X.length) : (Y.take k ++ X.drop k).set k (row Y k) = Y.take (k + 1) ++ X.drop (k + 1) := by
  have h1 : (Y.take k).length = k := by rw [List.length_take]; omega
  rw [List.set_append_right _ _ (by omega), h1, Nat.sub_self, List.drop_eq_getElem_cons hk, List.set_cons_zero, List.take_succ_eq_append_getElem (show k < Y.length by omega), List.append_assoc, row_get (by omega)]
  rfl
theorem row_next {X Y : List (List Int)} {k : Nat} (hk : k ≤ Y.length) : row (Y.take k ++ X.drop k) k = row X k := by
  have h1 : (Y.take k).length = k := by rw [List.length_take]; omega
  rw [row, List.getD_eq_getElem?_getD, List.getElem?_append_right (by omega), h1, Nat.sub_self, List.getElem?_drop, Nat.add_zero, ← List.getD_eq_getElem?_getD]; rfl
theorem flat_len_le (f : List Int → List Int) {m : Nat} : ∀ (L : List (List Int)), (∀ xs ∈ L, (f xs).length ≤ m) → (L.flatMap f).length ≤ L.length * m
  | [], _ => by simp
  | xs :: L, h => by
    rw [List.flatMap_cons, List.length_append, List.length_cons, Nat.succ_mul, Nat.add_comm]
    exact Nat.add_le_add (flat_len_le f L fun ys hy => h ys (List.mem_cons_of_mem _ hy)) (h xs (List.mem_cons_self ..))
set_option maxHeartbeats 8000000 in
set_option maxRecDepth 100000 in
theorem snd_coded (d : ByteArray) (c b : Int) (w : World) (h : segOk c b d.data.toList = true) (ht : Tab w) (ht6 : Tab6 w) :
    Calls Tryz.prog 61 #[.agg #[.string d, .int .i64 c, .int .i64 b]] w fun e w' => ∃ t : ByteArray, e = .returned (.tuple #[.string t, .int .i64 (byOf c b d.data.toList : Nat), .bool true]) ∧ t.data.toList = ownOf c b d.data.toList ∧ Below w.heap.size w w' := by
  obtain ⟨hf, hmod, hp, h64⟩ := segOk_iff.1 h
  obtain ⟨m1, m64, hmf, h256⟩ := seg_many h
  rw [size_list] at hmod h256
  have hG := fun W => PQ.pcm_Get.calls 5000 d c b _ 0 W (get_yes d hf hmod (by omega))
  have hput := all_ok h
  have hown : putS mdot lR newM (allOf c b d.data.toList) = ownOf c b d.data.toList := rfl
  generalize hl : d.data.toList = l at *
  obtain ⟨X, hX⟩ : ∃ X, pcmG c b l = X := ⟨_, rfl⟩
  obtain ⟨by_, hby⟩ : ∃ y, byOf c b l = y := ⟨_, rfl⟩
  have hby15 : by_ ≤ 15 := by rw [← hby]; exact byOf_in c b l
  have hwX : wst 15 X.flatten = by_ := by rw [← hX, byOf_eq, hby]
  have hXlen : X.length = c.toNat := by rw [← hX, pcmG_len]
  have hXr : ∀ xs ∈ X, xs.length ≤ 64 := fun xs hx => by rw [← hX] at hx; rw [(pcmG_row hx).1]; exact m64
  have hXs : ∀ xs ∈ X, xs.all smpOk = true := fun xs hx => by rw [← hX] at hx; exact pcmG_smp hx
  have hXd : ∀ xs ∈ X, ∀ x ∈ xs, x % 2 ^ by_ = 0 := fun xs hx x hm => by rw [← hwX]; exact wst_div 15 X.flatten x (List.mem_flatten.2 ⟨xs, hx, hm⟩)
  obtain ⟨Y, hY⟩ : ∃ Y, lows c b l = Y := ⟨_, rfl⟩
  have hYX : X.map (dwn by_) = Y := by rw [← hX, ← hby, dwn_lows, hY]
  have hYlen : Y.length = X.length := by rw [← hYX, List.length_map]
  have hYr : ∀ xs ∈ Y, xs.length ≤ 64 := fun xs hx => by rw [← hY] at hx; rw [(lows_row hx).1]; exact m64
  have hc12 : X.length = 1 ∨ X.length = 2 := by rw [hXlen]; have := (fOk_iff.1 hf).1; omega
  obtain ⟨Z, hZ⟩ : ∃ Z, sideP (lows c b l) = Z := ⟨_, rfl⟩
  have hsp : turnS (-1) Y = some Z := by rw [← hY, side_put_lows hf, hZ]
  have hZlen : Z.length = X.length := by rw [← hZ, sideP_len hf, hXlen]
  have hZr : ∀ xs ∈ Z, xs.length ≤ 64 ∧ xs.all smpOk = true := fun xs hx => by
    rw [← hZ] at hx
    have := side_row hf hx
    exact ⟨by rw [this.1]; exact m64, this.2⟩
  obtain ⟨All, hAll⟩ : ∃ a, allOf c b l = a := ⟨_, rfl⟩
  have hZA : Z.flatMap (lineP ch0) = All := by rw [← hAll, ← hZ]; rfl
  rw [hX] at hG
  rw [hAll] at hput hown
  rw [hby]
  obtain ⟨T, hT⟩ : ∃ T : ByteArray, (⟨(putS mdot lR newM All).toArray⟩ : ByteArray) = T := ⟨_, rfl⟩
  have hTd : T.data.toList = ownOf c b l := by rw [← hT]; exact hown
  replace hG := Lib.hid hG
  have ht0 := Lib.hid ht
  have ht60 := Lib.hid ht6
  clear h ht ht6 hmod hp h64 hmf h256 hX hby hY hZ hAll hl hown
  replace hT := Lib.hid hT
  replace hTd := Lib.hid hTd
  replace hput := Lib.hid hput
  replace hwX := Lib.hid hwX
  replace hXlen := Lib.hid hXlen
  replace hYX := Lib.hid hYX
  replace hYlen := Lib.hid hYlen
  replace hZlen := Lib.hid hZlen
  replace hZA := Lib.hid hZA
  replace hsp := Lib.hid hsp
  replace hXr := Lib.hid hXr
  replace hXs := Lib.hid hXs
  replace hXd := Lib.hid hXd
  replace hYr := Lib.hid hYr
  replace hZr := Lib.hid hZr
  go_enter Tryz.func61, Tryz.ntmps61
  go_wp2_with (fail)
  refine (hG.out _).mono ?_
  rintro e w1 ⟨v1, rfl, hS1, hb1⟩
  have hB1 := below_trans (L.below_alloc (Below.refl w.heap.size w) _) hb1
  clear hb1 hG
  obtain ⟨A1, c1, ev⟩ := Kd.S_slice hS1
  subst ev
  obtain ⟨-, hcc1, hC1⟩ := Kd.S_reads' hS1
  go_wp2_with (fail)
  have hwd := seg_wasted X A1 c1 w1 hC1 hcc1 (by omega) (fun xs hx => Nat.le_trans (hXr.out xs hx) (by decide)) hXs.out (ht60.out.below hB1)
  rw [hwX.out] at hwd
  refine hwd.mono ?_
  rintro e w2 ⟨rfl, m2, rfl⟩
  clear hwd hC1
  have hB2 := L.below_drewN hB1 m2
  obtain ⟨n, hn⟩ : ∃ n, X.length = n := ⟨_, rfl⟩
  rw [hn] at hS1 hcc1 hc12
  have hS2 : Kd.S RW RT (w1.drewN m2) w.heap.size (fun _ => True) (.slice A1 n c1) (Y.take 0 ++ X.drop 0) := Kd.S_lower (Kd.S_drewN hS1 m2) (L.below_alloc (Below.refl w.heap.size w) _).size
  generalize w1.drewN m2 = w2 at hS2 hB2 ⊢
  have hYn : Y.length = n := hYlen.out.trans hn
  have hZn : Z.length = n := hZlen.out.trans hn
  have hYX2 := hYX.out
  clear hS1
  replace hYn := Lib.hid hYn
  replace hZn := Lib.hid hZn
  rw [hn]
  go_wp2_with (fail)
  go_loopg [29] n (fun kq v29 W => ∃ (k : Nat), v29 = .int .i64 (k : Int) ∧ k + kq = n ∧ Kd.S RW RT W w.heap.size (fun _ => True) (.slice A1 n c1) (Y.take k ++ X.drop k) ∧ Below w.heap.size w W)
  case atStart => exact ⟨0, by simp, by omega, hS2, hB2⟩
  case round =>
    clear hS2 hB2
    obtain ⟨k, rfl, hk, hS, hB⟩ := hrel
    by_cases d1 : k < n
    · have d1d : decide ((k : Int) < (n : Int)) = true := decide_eq_true (by omega)
      have hL : (Y.take k ++ X.drop k).length = n := by rw [List.length_append, List.length_take, List.length_drop, hYn.out, hn]; omega
      have hCW := (Kd.S_reads' hS).2.2
      obtain ⟨ad, Ak, kk, eadk, hxk, hkk, hCk⟩ := rows_at hCW k (by rw [hL]; exact d1)
      rw [row_next (by rw [hYn.out]; omega)] at hxk hkk hCk
      have hmem : row X k ∈ X := row_mem (by rw [hn]; exact d1)
      obtain ⟨g, cc, eg, hbg, hgs, -⟩ := Kd.S_form hS (by rw [hL]; omega)
      rw [hL] at eg
      cases eg
      cases eadk
      have p3 := eq_true (show (0 : Int) ≤ (k : Int) by omega)
      have q3 := eq_true (show (k : Int) < (n : Int) by omega)
      have hdn := shift_down (row X k) Ak kk by_ wr hCk hkk (Nat.le_trans (hXr.out _ hmem) (by decide)) (mayS_iff.2 ⟨by omega, by omega, hXs.out _ hmem⟩) (hXd.out _ hmem)
      have hrY : dwn by_ (row X k) = row Y k := by rw [← hYX2, row_get (by rw [hn]; exact d1), row_get (by rw [List.length_map, hn]; exact d1), List.getElem_map]
      rw [hrY] at hdn
      rw [add_at, Nat.zero_add] at hxk
      have hset := set_rows (hYn.out.trans hn.symm) (show k < X.length by rw [hn]; exact d1)
      generalize row X k = xs at hxk hdn
      replace hdn := Lib.hid hdn
      replace hset := Lib.hid hset
      replace hrY := Lib.hid hrY
      clear hmem hCk hCW hL hkk
      go_wp2_with (fail)
      refine hdn.out.mono ?_
      rintro e w3 ⟨v3, rfl, hR3, hb3⟩
      clear hdn hxk
      obtain ⟨Av, cv, ev⟩ := Kd.R_slice hR3
      subst ev
      have hSo := rows_old hS hb3
      obtain ⟨oki, cx, hcl, -, hcx, hfx, -⟩ := Kd.S_elem hSo [] (k : Int) (by omega) (by omega)
      rw [Int.toNat_natCast] at hcx hfx
      have hfk := hfx 0
      rw [show RW.sz = 1 from rfl, Nat.mul_one, Nat.add_zero] at hfk
      obtain ⟨u0, hu0⟩ : ∃ u, w3.cell? ⟨g, k, none⟩ = some u := by
        match cx, hcl with
        | [x], _ => exact ⟨x, by have := hcx 0 x rfl; rwa [show RW.sz = 1 from rfl, Nat.mul_one, Nat.add_zero] at this⟩
      obtain ⟨hS4, hg4⟩ := rows_put hSo k (by omega) hR3 hB.size hgs
      rw [hset.out] at hS4
      have hB4 := (below_trans hB hb3).setCell (p := ⟨g, k, none⟩) hbg (.slice Av (row Y k).length cv)
      clear hfx hcx hSo hb3 hB hR3 hS
      go_wp2_with (fail)
      obtain ⟨gi, rfl⟩ : ∃ i, gk = i + 1 := ⟨gk - 1, by omega⟩
      go_roundg gi
      case measure => omega
      case rel => exact ⟨k + 1, by simp, by omega, hS4, hB4⟩
    · have d1d : decide ((k : Int) < (n : Int)) = false := decide_eq_false (by omega)
      obtain rfl : k = n := by omega
      rw [List.take_of_length_le (by rw [hYn.out]; exact Nat.le_refl _), List.drop_of_length_le (by rw [hn]; exact Nat.le_refl _), List.append_nil] at hS
      obtain ⟨-, hcY, hCY⟩ := Kd.S_reads' hS
      have hpt := side_put Y A1 c1 wr hCY (by rw [hYn.out]; exact hcY) (by rw [hYn.out]; omega) (fun xs hx => Nat.le_trans (hYr.out xs hx) (by decide))
      rw [hsp.out, hYn.out] at hpt
      replace hpt := Lib.hid hpt
      go_wp2_with (fail)
      refine hpt.out.mono ?_
      rintro e w3 ⟨v3, rfl, hS3, hb3⟩
      have hB3 := below_trans hB hb3
      clear hpt hCY hS
      obtain ⟨A3, c3, ev⟩ := Kd.S_slice hS3
      subst ev
      rw [hZn.out] at hS3 ⊢
      have hC3 := (Kd.S_reads' hS3).2.2
      have hR0 : Kd.R (Kd.int .i64) 3 w3 w3.heap.size (fun _ => True) (.slice none 0 0) ((Z.take 0).flatMap (lineP ch0)) := Kd.R_nil _ _ _ _ _
      have hC30 := Lib.hid hC3
      clear hC3 hS3
      have hcc3 := Lib.hid hB3
      go_wp2_with (fail)
      go_loopg [9, 10, 52] k (fun kq v9 v10 v52 W => ∃ (j : Nat), v9 = .int .i64 0 ∧ v52 = .int .i64 (j : Int) ∧ j + kq = k ∧ Kd.R (Kd.int .i64) 3 W w3.heap.size (fun _ => True) v10 ((Z.take j).flatMap (lineP ch0)) ∧ Below w3.heap.size w3 W)
      case atStart => exact ⟨0, rfl, by simp, by omega, hR0, Below.refl _ _⟩
      case round =>
        clear hR0
        obtain ⟨j, rfl, rfl, hj, hR, hb⟩ := hrel
        obtain ⟨Ao, co, ev⟩ := Kd.R_slice hR
        subst ev
        have hB := below_trans hcc3.out hb
        by_cases d2 : j < k
        · have d2d : decide ((j : Int) < (k : Int)) = true := decide_eq_true (by omega)
          obtain ⟨ad, Aj, kj, eadj, hxj, hkj, hCj⟩ := rows_at (Kd.C_below hC30.out hb) j (by rw [hZn.out]; exact d2)
          cases eadj
          have p3 := eq_true (show (0 : Int) ≤ (j : Int) by omega)
          have q3 := eq_true (show (j : Int) < (k : Int) by omega)
          have hmem : row Z j ∈ Z := row_mem (by rw [hZn.out]; exact d2)
          have hzr := hZr.out _ hmem
          have hlp := line_put (row Z j) Aj kj wr hCj hkj (by omega) hzr.2
          have hnx : (Z.take (j + 1)).flatMap (lineP ch0) = (Z.take j).flatMap (lineP ch0) ++ lineP ch0 (row Z j) := by
            rw [List.take_succ_eq_append_getElem (show j < Z.length by rw [hZn.out]; exact d2), List.flatMap_append, row_get (by rw [hZn.out]; exact d2)]
            simp
          have hll : ((Z.take j).flatMap (lineP ch0)).length ≤ 2 * 64 := by
            have h1 := flat_len_le (lineP ch0) (m := 64) (Z.take j) (fun xs hx => by rw [lineP_len]; exact (hZr.out xs (List.mem_of_mem_take hx)).1)
            have h2 : (Z.take j).length ≤ 2 := by rw [List.length_take]; omega
            exact Nat.le_trans h1 (Nat.mul_le_mul_right 64 h2)
          have hl2 : (lineP ch0 (row Z j)).length ≤ 64 := by rw [lineP_len]; exact hzr.1
          obtain ⟨out, hout⟩ : ∃ o, (Z.take j).flatMap (lineP ch0) = o := ⟨_, rfl⟩
          obtain ⟨P, hP⟩ : ∃ o, lineP ch0 (row Z j) = o := ⟨_, rfl⟩
          rw [hP] at hlp hnx hl2
          rw [hout] at hR hnx hll ⊢
          have hol8 : (out.length + P.length) * 8 ≤ 140737488355328 := by omega
          generalize row Z j = xs at hxj hlp
          replace hol8 := Lib.hid hol8
          replace hnx := Lib.hid hnx
          replace hlp := Lib.hid hlp
          replace hP := Lib.hid hP
          replace hout := Lib.hid hout
          clear hmem hzr hCj hkj hll hl2
          go_wp2_with (fail)
          refine hlp.out.mono ?_
          rintro e w4 ⟨v4, rfl, hR4, hb4⟩
          clear hlp hxj
          obtain ⟨A4, c4, ev⟩ := Kd.R_slice hR4
          subst ev
          have hRo := Kd.R_below hR hb4
          have hb5 := below_next hb hb4
          clear hR hB hb hb4
          go_wp2_with ((with_reducible refine gate_builtin (b := .append) (xs := #[.tmp 61, .tmp 62]) rfl ?_); at_builtin; refine Kd.R_append_rows (Kd.int .i64) (w0 := w3) w3.heap.size rfl (.tmp 61) (.tmp 62) 22 3 (.int .i64 0) 8 rfl Tryz.underlying22 infoI rfl (by decide) (by omega) (.slice Ao out.length co) out P _ _ _ (fun _ => True) (fun _ => False) rfl rfl ?aO ?aR (fun _ _ h => h) (fun _ h => h.elim) ?aF ?aB ?aS ?aL ?_; (case aR => exact (Kd.R_reads' hR4).2.2); (case aB => exact hb5); (case aF => exact (fun _ _ => trivial)); (case aO => exact hRo); (case aS => exact hb5.size); (case aL => exact hol8.out); intro v63 w5 hR5 hB5 hg5 hat5)
          clear hRo hb5 hR4 hg5 hat5
          obtain ⟨gi, rfl⟩ : ∃ i, gk = i + 1 := ⟨gk - 1, by omega⟩
          go_roundg gi
          case measure => omega
          case rel => exact ⟨j + 1, by simp, by simp, by omega, by rw [hnx.out]; exact hR5, hB5⟩
        · have d2d : decide ((j : Int) < (k : Int)) = false := decide_eq_false (by omega)
          obtain rfl : j = k := by omega
          rw [List.take_of_length_le (by rw [hZn.out]; exact Nat.le_refl _), hZA.out] at hR
          rw [List.take_of_length_le (by rw [hZn.out]; exact Nat.le_refl _), hZA.out]
          have hrp := rput_yes Ao co wr (ht0.out.below hB) (Kd.R_reads' hR).2.2 (Kd.R_reads' hR).2.1 hput.out T hT.out
          replace hrp := Lib.hid hrp
          clear hR
          go_wp2_with (fail)
          refine hrp.out.mono ?_
          rintro e w5 ⟨rfl, hb5⟩
          have hB5 := below_trans hB hb5
          clear hrp hB hb hb5
          go_wp2_with (fail)
          go_ret3
          exact ⟨T, rfl, hTd.out, hB5⟩
end Go.Proofs.YtiokfaiioealdaaGreatDoor
