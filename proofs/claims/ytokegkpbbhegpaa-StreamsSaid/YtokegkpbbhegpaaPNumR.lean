/- Numbers in bytes and in few bytes, as the document takes them: the same functions. -/
import Derived.Test.YtokegkpbbhegpaaPTx1
import Derived.Test.YtokegkpbbhegpaaPBack
namespace Go.Proofs.Ytokegkpbbhegpaa.PT
open Go.RowKit Go.Proofs.YtokegkpbbhegpaaW.PrintWords Go.Proofs.Ytokegkpbbhegpaa.L
set_option linter.unusedVariables false
set_option linter.unusedSimpArgs false

theorem or128 {x : Int} (h0 : 0 ≤ x) (h1 : x < 128) : bits .or .i64 x 128 = x + 128 := or_high 7 h0 h1 (by omega) (by omega) (by decide) (by decide)
theorem and127 {x : Int} (h0 : 0 ≤ x) (h1 : x < 2 ^ 62) : bits .and .i64 x 127 = x % 128 := bits_mask .i64 62 (by decide) wraps62 7 (by decide) x h0 h1
theorem u8_and127 {x : Int} (h0 : 0 ≤ x) (h1 : x ≤ 255) : bits .and .u8 x 127 = x % 128 := bits_mask .u8 8 (by decide) wraps_u8 7 (by decide) x h0 (by omega)
theorem rput_go : ∀ (n k : Nat) (x : Int) (s : ByteArray), n < k → 0 ≤ x → x < 128 * 128 ^ n → x ≤ 4294967295 → s.size + n < 1000 → descantref1_PutVarint.l0 k x s = some (⟨(s.data.toList ++ viGo n x).toArray⟩, 0)
  | n, 0, _, _, h, _, _, _, _ => by omega
  | 0, k + 1, x, s, _, h0, h1, _, hl => by
    simp only [descantref1_PutVarint.l0, viGo]
    rw [if_neg (by omega)]
    simp only [Option.bind_some]
    have hz : (strOfNums [x % 256]).size = 1 := rfl
    rw [if_pos (by rw [hz]; omega)]
    refine congrArg (fun t => some (t, (0 : Int))) (ba_ext ?_)
    simp [strOfNums, lowB]
  | n + 1, k + 1, x, s, hk, h0, h1, hx, hl => by
    simp only [descantref1_PutVarint.l0, viGo]
    by_cases c : 128 ≤ x
    · have e : bits .or .i64 (bits .and .i64 x 127) 128 = x % 128 + 128 := by rw [and127 h0 (by omega), or128 (by omega) (by omega)]
      rw [if_pos c, if_pos c, e]
      simp only [Option.bind_some]
      have hz : (strOfNums [(x % 128 + 128) % 256]).size = 1 := rfl
      have hs2 : (s ++ strOfNums [(x % 128 + 128) % 256]).size = s.size + 1 := by rw [ByteArray.size_append, hz]
      rw [if_pos (by rw [hz]; omega), rput_go n k (x / 128) _ (by omega) (by omega) (by rw [Int.pow_succ] at h1; omega) (by omega) (by rw [hs2]; omega)]
      refine congrArg (fun t => some (t, (0 : Int))) (ba_ext ?_)
      simp [strOfNums, lowB]
    · rw [if_neg c, if_neg c]
      simp only [Option.bind_some]
      have hz : (strOfNums [x % 256]).size = 1 := rfl
      rw [if_pos (by rw [hz]; omega)]
      refine congrArg (fun t => some (t, (0 : Int))) (ba_ext ?_)
      simp [strOfNums, lowB]
theorem rput_eq {k : Nat} (hk : 10 ≤ k) (x : Int) : descantref1_PutVarint.f k x = if 0 ≤ x ∧ x ≤ 4294967295 then some (⟨(viC x).toArray⟩, 0) else some (⟨#[]⟩, 200) := by
  have hu : descantref1_upTo.f x 0 4294967295 = some (decide (0 ≤ x ∧ x ≤ 4294967295)) := by
    unfold descantref1_upTo.f
    by_cases h1 : x ≥ 0 <;> by_cases h2 : x ≤ 4294967295 <;> simp [h1, h2]
  unfold descantref1_PutVarint.f
  rw [hu]
  simp only [Option.bind_some, decide_eq_true_eq]
  by_cases h : 0 ≤ x ∧ x ≤ 4294967295
  · rw [if_pos h, if_pos h, rput_go 5 k x ⟨#[]⟩ (by omega) h.1 (by omega) h.2 (by decide)]
    rfl
  · rw [if_neg h, if_neg h]
theorem rget_go {s : ByteArray} {p : Int} (hp : 0 ≤ p) (hp1 : p ≤ 9000000000000000000) : ∀ (n k j : Nat) (x : Int), 2 * n + 15 < k → n + j = 5 → 0 ≤ x → x < 2 ^ (7 * j) → descantref1_GetVarint.l0 k s p x (j : Int) = some (vgo s p n j x)
  | n, 0, _, _, h, _, _, _ => by omega
  | n, 1, _, _, h, _, _, _ => by omega
  | 0, k + 2, j, x, _, hj, _, _ => by
    rw [vgo, descantref1_GetVarint.l0, if_neg (by omega), descantref1_GetVarint.j2, if_neg (by decide)]
  | n + 1, k + 2, j, x, hk, hj, hx, hx1 => by
    have hj4 : j ≤ 4 := by omega
    have r := bt_range s (p + j)
    have hM : (0 : Int) < 2 ^ (7 * j) := Int.pow_pos (by omega)
    have hM1 : (2 : Int) ^ (7 * j) ≤ 2 ^ 28 := two_le (by omega)
    have wp := Lib.hid (show wrap64 (p + (j : Int)) = p + (j : Int) from IntWalk.wrap64_in _ (by omega))
    have w7 := Lib.hid (show wrap64 (7 * (j : Int)) = ((7 * j : Nat) : Int) by rw [IntWalk.wrap64_in _ (by omega)]; omega)
    have hmod := Lib.hid (show wrap64 (bits .and .u8 (bt s (p + j)) 127) = bt s (p + j) % 128 by rw [u8_and127 r.1 r.2, IntWalk.wrap64_in _ (by omega)])
    have hin : bits .or .i64 x (shl .i64 (bt s (p + j) % 128) ((7 * j : Nat) : Int)) = x + bt s (p + j) % 128 * 2 ^ (7 * j) := byte_in s 0 (by omega) (by omega) (by omega) hx hx1
    have hb : bt s (p + j) % 128 * 2 ^ (7 * j) ≤ 127 * 2 ^ (7 * j) := Int.mul_le_mul_of_nonneg_right (by omega) (Int.le_of_lt hM)
    have hb0 : 0 ≤ bt s (p + j) % 128 * 2 ^ (7 * j) := Int.mul_nonneg (by omega) (Int.le_of_lt hM)
    have w1 := Lib.hid (show wrap64 (p + (j : Int) + 1) = p + (j : Int) + 1 from IntWalk.wrap64_in _ (by omega))
    have wj := Lib.hid (show wrap64 ((j : Int) + 1) = ((j + 1 : Nat) : Int) by rw [IntWalk.wrap64_in _ (by omega)]; omega)
    simp only [descantref1_GetVarint.l0, descantref1_GetVarint.j2, vgo, wp.out, w7.out, hmod.out, hin, w1.out, wj.out]
    rw [if_pos (by omega)]
    by_cases c : p + (j : Int) < s.size
    · rw [if_pos c, decide_eq_true c, if_pos rfl, if_pos (by omega), if_pos c, if_pos (by omega)]
      by_cases d : 128 ≤ bt s (p + j)
      · rw [if_neg (by omega), if_pos d]
        exact rget_go hp hp1 n k (j + 1) _ (by omega) (by omega) (by omega) (by rw [show 7 * (j + 1) = 7 * j + 7 by omega, Int.pow_add]; omega)
      · have hm2 : bt s (p + j) % 128 = bt s (p + j) := by omega
        rw [if_pos (by omega), if_neg d, hm2, rput_eq (by omega)]
        rw [hm2] at hb hb0
        by_cases e : x + bt s (p + j) * 2 ^ (7 * j) ≤ 4294967295
        · rw [if_pos ⟨by omega, e⟩]
          simp only [Option.bind_some]
          rw [if_pos trivial, if_pos hp, if_pos (by omega), if_pos (by omega)]
          by_cases f : viC (x + bt s (p + j) * 2 ^ (7 * j)) = (s.extract p.toNat (p + j + 1).toNat).data.toList
          · rw [if_pos (by rw [ByteArray.toList_eq, ByteArray.toList_eq]; exact f), if_pos ⟨e, f⟩]
          · rw [if_neg (by rw [ByteArray.toList_eq, ByteArray.toList_eq]; exact f), if_neg (fun h => f h.2)]
        · rw [if_neg (fun h => e h.2), if_neg (fun h => e h.1)]
          simp only [Option.bind_some]
          rw [if_neg (by decide)]
    · rw [decide_eq_false c, if_neg (by decide), if_neg c]
theorem rvarint_eq (s : ByteArray) (p : Int) (hp : 0 ≤ p) (hp1 : p ≤ s.size) (hs : s.size ≤ 65536) : descantref1_GetVarint.f 40 s p = some (varV s p) := by
  unfold descantref1_GetVarint.f varV
  rw [if_neg (by omega), decide_eq_false (by omega)]
  simp only [descantref1_GetVarint.j0]
  rw [if_neg (by decide)]
  exact rget_go (s := s) (p := p) hp (by omega) 5 39 0 0 (by omega) rfl (by omega) (by simp)
theorem vgo_err {s : ByteArray} {p : Int} : ∀ (n j : Nat) (x : Int), (vgo s p n j x).2.2 ≠ 0 → vgo s p n j x = (0, 0, 200)
  | 0, _, _, _ => rfl
  | n + 1, j, x, h => by
    revert h
    simp only [vgo]
    split
    · split
      · exact vgo_err n (j + 1) _
      · split
        · intro h; exact absurd rfl h
        · intro _; rfl
    · intro _; rfl
theorem varV_in {s : ByteArray} {p : Int} (hp : 0 ≤ p) : 0 ≤ (varV s p).2.1 ∧ (varV s p).2.1 ≤ s.size := by
  by_cases h : (varV s p).2.2 = 0
  · exact vgo_in hp 5 0 0 h
  · have := vgo_err 5 0 0 h
    rw [show varV s p = (0, 0, 200) from this]; simp
theorem vgo_num {s : ByteArray} {p : Int} (hp : 0 ≤ p) : ∀ (n j : Nat) (x : Int), n + j = 5 → 0 ≤ x → 0 ≤ (vgo s p n j x).1 ∧ (vgo s p n j x).1 ≤ 4294967295
  | 0, _, _, _, _ => by simp [vgo]
  | n + 1, j, x, hj, hx => by
    have r := bt_range s (p + j)
    have hM : (0 : Int) < 2 ^ (7 * j) := Int.pow_pos (by omega)
    simp only [vgo]
    split
    · split
      · exact vgo_num hp n (j + 1) _ (by omega) (Int.add_nonneg hx (Int.mul_nonneg (by omega) (Int.le_of_lt hM)))
      · split
        · rename_i h1 h2 h3
          exact ⟨Int.add_nonneg hx (Int.mul_nonneg r.1 (Int.le_of_lt hM)), h3.1⟩
        · simp
    · simp
theorem varV_num {s : ByteArray} {p : Int} (hp : 0 ≤ p) : 0 ≤ (varV s p).1 ∧ (varV s p).1 ≤ 4294967295 := vgo_num hp 5 0 0 rfl (by omega)
end Go.Proofs.Ytokegkpbbhegpaa.PT
