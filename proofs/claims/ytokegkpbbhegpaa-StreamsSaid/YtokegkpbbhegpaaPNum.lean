/- Numbers in bytes and in few bytes (chapters 1 and 2), as the program takes them: plain functions, and that the printed ones come to them. -/
import Derived.Test.YtokegkpbbhegpaaWPutB
import Derived.Laws.BitsLemmas
namespace Go.Proofs.Ytokegkpbbhegpaa
open Go.RowKit Go.Proofs.YtokegkpbbhegpaaW.PrintWords Go.Proofs.Ytokegkpbbhegpaa.PL Go.Proofs.Ytokegkpbbhegpaa.L
set_option linter.unusedVariables false
set_option linter.unusedSimpArgs false

theorem wraps62 (n : Int) (h₀ : 0 ≤ n) (h₁ : n < 2 ^ 62) : IntKind.i64.wrap n = n := by rw [IntKind.wrap_i64]; omega
theorem two_le {a b : Nat} (h : a ≤ b) : (2 : Int) ^ a ≤ 2 ^ b := by exact_mod_cast Nat.pow_le_pow_right (by decide) h
theorem or_comm_bits (k : IntKind) (x y : Int) : bits .or k x y = bits .or k y x := by unfold bits; simp only [BitVec.or_comm]
/-- Low bits and high bits, joined. -/
theorem or_high (i : Nat) {x y : Int} (hx : 0 ≤ x) (hx1 : x < 2 ^ i) (hi : i ≤ 62) (hy : 0 ≤ y) (hy0 : y % 2 ^ i = 0) (hy1 : y < 2 ^ 62) : bits .or .i64 x y = x + y := by
  rw [or_comm_bits, bits_join .i64 62 (by decide) wraps62 i y x hy hy0 hy1 hx hx1 (Int.lt_of_lt_of_le hx1 (two_le hi))]
  omega
theorem shl_of {x : Int} {n : Nat} (hn : n ≤ 64) (h0 : 0 ≤ x * 2 ^ n) (h1 : x * 2 ^ n < 2 ^ 62) : shl .i64 x (n : Int) = x * 2 ^ n := by
  unfold shl
  rw [Int.toNat_natCast, Nat.min_eq_left (by show n ≤ 64; exact hn)]
  exact wraps62 _ h0 h1
theorem wrap_bt (s : ByteArray) (i : Int) : wrap64 (bt s i) = bt s i := by have := bt_range s i; exact IntWalk.wrap64_in _ (by omega)
/-- One more byte, in its place. -/
theorem byte_in (s : ByteArray) (i : Int) {x b : Int} {n : Nat} (hn : n ≤ 50) (hb : 0 ≤ b) (hb1 : b ≤ 255) (hx : 0 ≤ x) (hx1 : x < 2 ^ n) : bits .or .i64 x (shl .i64 b (n : Int)) = x + b * 2 ^ n := by
  have hp : (0 : Int) < 2 ^ n := Int.pow_pos (by omega)
  have hle : (2 : Int) ^ n ≤ 2 ^ 50 := two_le hn
  have h0 : 0 ≤ b * 2 ^ n := Int.mul_nonneg hb (Int.le_of_lt hp)
  have h1 : b * 2 ^ n ≤ 255 * 2 ^ n := Int.mul_le_mul_of_nonneg_right hb1 (Int.le_of_lt hp)
  have h2 : b * 2 ^ n < 2 ^ 62 := by omega
  rw [shl_of (by omega) h0 h2]
  exact or_high n hx hx1 (by omega) h0 (Int.mul_emod_left b _) h2
/-! ### numbers in bytes -/
/-- The number of one to four bytes. -/
def fieldV (s : ByteArray) : Int := if s.size = 0 ∨ 4 < s.size then 0 else bt s 0 + (if 1 < s.size then bt s 1 * 256 else 0) + (if 2 < s.size then bt s 2 * 65536 else 0) + (if 3 < s.size then bt s 3 * 16777216 else 0)
theorem bt_or0 (s : ByteArray) : bits .or .i64 0 (shl .i64 (bt s 0) 0) = bt s 0 := by
  have := bt_range s 0
  have h := byte_in s 0 (x := 0) (b := bt s 0) (n := 0) (by omega) (by omega) (by omega) (by omega) (by simp)
  rw [show ((0 : Nat) : Int) = 0 from rfl] at h
  rw [h]; simp
theorem field_eq (s : ByteArray) : ∃ e, field_Get.f 40 s = some (fieldV s, e) := by
  have z0 : s.toList = [] ↔ s.size = 0 := by
    rw [show s.toList = s.data.toList from by rw [ByteArray.toList_eq]]
    rw [← List.length_eq_zero_iff]; rw [Array.length_toList]; exact Iff.rfl
  unfold field_Get.f fieldV
  by_cases h0 : s.size = 0
  · exact ⟨100, by rw [if_pos (z0.2 h0), if_pos (.inl h0)]; rfl⟩
  rw [if_neg (fun h => h0 (z0.1 h))]
  by_cases h4 : 4 < s.size
  · exact ⟨100, by rw [if_pos (.inr h4), decide_eq_true (by omega)]; rfl⟩
  rw [decide_eq_false (by omega), if_neg (by omega)]
  refine ⟨0, ?_⟩
  have r0 := bt_range s 0; have r1 := bt_range s 1; have r2 := bt_range s 2; have r3 := bt_range s 3
  have e1 : bits .or .i64 (bt s 0) (shl .i64 (bt s 1) 8) = bt s 0 + bt s 1 * 256 := byte_in s 1 (n := 8) (by omega) (by omega) (by omega) (by omega) (by omega)
  have e2 : bits .or .i64 (bt s 0 + bt s 1 * 256) (shl .i64 (bt s 2) 16) = bt s 0 + bt s 1 * 256 + bt s 2 * 65536 := byte_in s 2 (n := 16) (by omega) (by omega) (by omega) (by omega) (by omega)
  have e3 : bits .or .i64 (bt s 0 + bt s 1 * 256 + bt s 2 * 65536) (shl .i64 (bt s 3) 24) = bt s 0 + bt s 1 * 256 + bt s 2 * 65536 + bt s 3 * 16777216 := byte_in s 3 (n := 24) (by omega) (by omega) (by omega) (by omega) (by omega)
  have hs : s.size = 1 ∨ s.size = 2 ∨ s.size = 3 ∨ s.size = 4 := by omega
  rcases hs with h | h | h | h <;> rw [h] <;> simp [field_Get.j0, field_Get.l0, wr0, wr1, wr2, wr3, wr4, wr8, wr16, wr24, wrap_bt, bt_or0, e1, e2, e3, h]
/-! ### numbers in few bytes -/
/-- A number's bytes, seven bits each. -/
def viGo : Nat → Int → List UInt8
  | 0, x => [lowB x]
  | n + 1, x => if 128 ≤ x then lowB (x % 128 + 128) :: viGo n (x / 128) else [lowB x]
def viC (x : Int) : List UInt8 := viGo 5 x
theorem vput_go : ∀ (n k : Nat) (x : Int) (l : List Int), n < k → 0 ≤ x → x < 128 * 128 ^ n → x ≤ 4294967295 → l.length + n < 100 → varint_Put.l0 k x l = some (⟨((strOfNums l).data.toList ++ viGo n x).toArray⟩, 0)
  | n, 0, _, _, h, _, _, _, _ => by omega
  | 0, k + 1, x, l, _, h0, h1, _, hl => by
    simp only [varint_Put.l0, viGo]
    rw [if_neg (by omega), if_pos (by omega)]
    simp [strOfNums, lowB]
  | n + 1, k + 1, x, l, hk, h0, h1, hx, hl => by
    simp only [varint_Put.l0, viGo]
    by_cases c : 128 ≤ x
    · have h2 : x.tdiv 128 = x / 128 := Int.tdiv_eq_ediv_of_nonneg h0
      have h3 : x.tmod 128 = x % 128 := Int.tmod_eq_emod_of_nonneg h0
      rw [if_pos c, if_pos (by omega), if_pos c, h2, h3, IntWalk.wrap64_in (x / 128) (by omega), IntWalk.wrap64_in (x % 128 + 128) (by omega), vput_go n k (x / 128) _ (by omega) (by omega) (by rw [Int.pow_succ] at h1; omega) (by omega) (by simp; omega)]
      simp [strOfNums, lowB]
    · rw [if_neg c, if_pos (by omega), if_neg c]
      simp [strOfNums, lowB]
theorem vput_eq {k : Nat} (hk : 10 ≤ k) (x : Int) : varint_Put.f k x = if 0 ≤ x ∧ x ≤ 4294967295 then some (⟨(viC x).toArray⟩, 0) else some (⟨#[]⟩, 200) := by
  obtain ⟨k, rfl⟩ : ∃ j, k = j + 1 := ⟨k - 1, by omega⟩
  unfold varint_Put.f
  by_cases h0 : x < 0
  · rw [if_pos h0, if_neg (by omega)]; rfl
  · rw [if_neg h0]
    by_cases h1 : x ≤ 4294967295
    · rw [if_pos (by omega), decide_eq_false (by omega)]
      simp only [varint_Put.j0]
      rw [if_neg (by decide), vput_go 5 k x [] (by omega) (by omega) (by omega) h1 (by simp)]
      rfl
    · rw [if_neg (by omega), decide_eq_true (by omega)]; rfl
/-- The number that stands somewhere in a text, byte by byte. -/
def vgo (s : ByteArray) (p : Int) : Nat → Nat → Int → Int × Int × Int
  | 0, _, _ => (0, 0, 200)
  | n + 1, j, x =>
    if p + j < s.size then
      if 128 ≤ bt s (p + j) then vgo s p n (j + 1) (x + bt s (p + j) % 128 * 2 ^ (7 * j))
      else if x + bt s (p + j) * 2 ^ (7 * j) ≤ 4294967295 ∧ viC (x + bt s (p + j) * 2 ^ (7 * j)) = (s.extract p.toNat (p + j + 1).toNat).data.toList then (x + bt s (p + j) * 2 ^ (7 * j), p + j + 1, 0)
      else (0, 0, 200)
    else (0, 0, 200)
theorem vget_go {s : ByteArray} {p : Int} (hp : 0 ≤ p) (hp1 : p ≤ 9000000000000000000) : ∀ (n k j : Nat) (x : Int), 2 * n + 15 < k → n + j = 5 → 0 ≤ x → x < 2 ^ (7 * j) → varint_Get.l0 k s p x ((7 * j : Nat) : Int) (p + j) = some (vgo s p n j x)
  | n, 0, _, _, h, _, _, _ => by omega
  | n, 1, _, _, h, _, _, _ => by omega
  | 0, k + 2, j, x, _, hj, _, _ => by
    rw [vgo, varint_Get.l0]
    split
    · rw [decide_eq_false (by omega), varint_Get.j2, if_neg (by decide)]
    · rw [varint_Get.j2, if_neg (by decide)]
  | n + 1, k + 2, j, x, hk, hj, hx, hx1 => by
    have hj4 : j ≤ 4 := by omega
    have r := bt_range s (p + j)
    have hM : (0 : Int) < 2 ^ (7 * j) := Int.pow_pos (by omega)
    have hM1 : (2 : Int) ^ (7 * j) ≤ 2 ^ 28 := two_le (by omega)
    have hmod : (bt s (p + j)).tmod 128 = bt s (p + j) % 128 := Int.tmod_eq_emod_of_nonneg r.1
    have hin : bits .or .i64 x (shl .i64 (bt s (p + j) % 128) ((7 * j : Nat) : Int)) = x + bt s (p + j) % 128 * 2 ^ (7 * j) := byte_in s 0 (by omega) (by omega) (by omega) hx hx1
    have hb : bt s (p + j) % 128 * 2 ^ (7 * j) ≤ 127 * 2 ^ (7 * j) := Int.mul_le_mul_of_nonneg_right (by omega) (Int.le_of_lt hM)
    have hb0 : 0 ≤ bt s (p + j) % 128 * 2 ^ (7 * j) := Int.mul_nonneg (by omega) (Int.le_of_lt hM)
    have w7 : wrap64 (((7 * j : Nat) : Int) + 7) = ((7 * (j + 1) : Nat) : Int) := by rw [IntWalk.wrap64_in _ (by omega)]; omega
    have w1 : wrap64 (p + (j : Int) + 1) = p + ((j + 1 : Nat) : Int) := by rw [IntWalk.wrap64_in _ (by omega)]; omega
    simp only [varint_Get.l0, varint_Get.j2, vgo]
    by_cases c : p + (j : Int) < s.size
    · rw [if_pos c, if_pos c, decide_eq_true (by omega), if_pos rfl, if_pos (by omega), if_pos c, if_pos (by omega), wrap_bt, hmod, hin]
      by_cases d : 128 ≤ bt s (p + j)
      · rw [if_pos d, if_pos d, w7, w1]
        exact vget_go hp hp1 n k (j + 1) _ (by omega) (by omega) (by omega) (by rw [show 7 * (j + 1) = 7 * j + 7 by omega, Int.pow_add]; omega)
      · have hm2 : bt s (p + j) % 128 = bt s (p + j) := by omega
        rw [if_neg d, if_neg d, hm2, vput_eq (by omega)]
        rw [hm2] at hb hb0
        have hc : ((p + (j : Int) + 1)) = p + ((j + 1 : Nat) : Int) := by omega
        by_cases e : x + bt s (p + j) * 2 ^ (7 * j) ≤ 4294967295
        · rw [if_pos ⟨by omega, e⟩]
          simp only [Option.bind_some]
          rw [if_pos trivial, if_pos hp, w1, if_pos (by omega), if_pos (by omega)]
          by_cases f : viC (x + bt s (p + j) * 2 ^ (7 * j)) = (s.extract p.toNat (p + j + 1).toNat).data.toList
          · rw [if_pos (by rw [ByteArray.toList_eq, ByteArray.toList_eq, ← hc]; exact f), if_pos ⟨e, f⟩, hc]
          · rw [if_neg (by rw [ByteArray.toList_eq, ByteArray.toList_eq, ← hc]; exact f), if_neg (fun h => f h.2)]
        · rw [if_neg (fun h => e h.2), if_neg (fun h => e h.1)]
          simp only [Option.bind_some]
          rw [if_neg (by decide)]
    · rw [if_neg c, if_neg (by decide), if_neg c]
def varV (s : ByteArray) (p : Int) : Int × Int × Int := vgo s p 5 0 0
theorem varint_eq (s : ByteArray) (p : Int) (hp : 0 ≤ p) (hp1 : p ≤ s.size) (hs : s.size ≤ 65536) : varint_Get.f 40 s p = some (varV s p) := by
  unfold varint_Get.f varV
  rw [if_neg (by omega), decide_eq_false (by omega)]
  simp only [varint_Get.j0]
  rw [if_neg (by decide)]
  have := vget_go (s := s) (p := p) hp (by omega) 5 39 0 0 (by omega) rfl (by omega) (by simp)
  simpa using this
theorem vgo_in {s : ByteArray} {p : Int} (hp : 0 ≤ p) : ∀ (n j : Nat) (x : Int), (vgo s p n j x).2.2 = 0 → 0 ≤ (vgo s p n j x).2.1 ∧ (vgo s p n j x).2.1 ≤ s.size
  | 0, _, _, h => absurd h (by simp [vgo])
  | n + 1, j, x, h => by
    revert h
    simp only [vgo]
    split
    · split
      · exact vgo_in hp n (j + 1) _
      · split
        · intro _; exact ⟨by simp only []; omega, by simp only []; omega⟩
        · intro h; exact absurd h (by decide)
    · intro h; exact absurd h (by decide)
end Go.Proofs.Ytokegkpbbhegpaa
