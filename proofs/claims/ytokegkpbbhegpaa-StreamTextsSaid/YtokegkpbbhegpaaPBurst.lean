/- The sum (chapter 3) finds every burst of at most 32 bits; numbers and lists alone. -/
import Derived.Test.YtokegkpbbhegpaaNumC
namespace Go.Proofs.Ytokegkpbbhegpaa
set_option linter.unusedVariables false
set_option linter.unusedSimpArgs false

theorem crcGo_xor : ∀ (l m : List Nat) (a b : Nat), l.length = m.length → crcGo (a ^^^ b) (List.zipWith (· ^^^ ·) l m) = crcGo a l ^^^ crcGo b m
  | [], [], _, _, _ => rfl
  | c :: l, d :: m, a, b, h => by
    have e : (a ^^^ b) ^^^ (c ^^^ d) = (a ^^^ c) ^^^ (b ^^^ d) := by
      rw [Nat.xor_assoc, ← Nat.xor_assoc b, Nat.xor_comm b c, Nat.xor_assoc c, ← Nat.xor_assoc]
    rw [List.zipWith_cons_cons, crcGo, crcGo, crcGo, e, csteps_xor, crcGo_xor l m _ _ (by simpa using h)]
  | [], _ :: _, _, _, h => by simp at h
  | _ :: _, [], _, _, h => by simp at h
theorem cstep_zero {x : Nat} (hx : x < 2 ^ 32) (h : cstep x = 0) : x = 0 := by
  unfold cstep at h
  rw [Nat.shiftRight_eq_div_pow] at h
  split at h
  · have h2 := congrArg (· ^^^ 3988292384) h
    simp only [Nat.xor_assoc, Nat.xor_self, Nat.xor_zero, Nat.zero_xor] at h2
    omega
  · rw [Nat.xor_zero] at h; omega
theorem csteps_zero : ∀ (n : Nat) {x : Nat}, x < 2 ^ 32 → csteps n x = 0 → x = 0
  | 0, _, _, h => h
  | n + 1, x, hx, h => cstep_zero hx (csteps_zero n (cstep_lt hx) h)
theorem add_xor {a n : Nat} (b : Nat) (h : a < 2 ^ n) : a + b * 2 ^ n = a ^^^ (b <<< n) := by
  apply Nat.eq_of_testBit_eq
  intro i
  rw [Nat.add_comm, Nat.mul_comm, Nat.testBit_two_pow_mul_add _ h, Nat.testBit_xor, Nat.testBit_shiftLeft]
  by_cases hi : i < n
  · rw [if_pos hi]; simp [Nat.not_le.2 hi]
  · have ha : a.testBit i = false := Nat.testBit_lt_two_pow (Nat.lt_of_lt_of_le h (Nat.pow_le_pow_right (by decide) (Nat.le_of_not_lt hi)))
    rw [if_neg hi, ha]; simp [Nat.le_of_not_lt hi]
/-- Four bytes as one number. -/
def word4 (a b c d : Nat) : Nat := a + b * 256 + c * 65536 + d * 16777216
theorem word4_xor {a b c d : Nat} (ha : a < 256) (hb : b < 256) (hc : c < 256) (hd : d < 256) : word4 a b c d = a ^^^ (b <<< 8) ^^^ (c <<< 16) ^^^ (d <<< 24) := by
  unfold word4
  rw [← add_xor (n := 8) b (by omega), ← add_xor (n := 16) c (by omega), ← add_xor (n := 24) d (by omega)]
theorem step8 (y z : Nat) : csteps 8 (y ^^^ (z <<< 8)) = csteps 8 y ^^^ z := by rw [csteps_xor, csteps_shift]
theorem crcGo_word (x : Nat) {a b c d : Nat} (ha : a < 256) (hb : b < 256) (hc : c < 256) (hd : d < 256) : crcGo x [a, b, c, d] = csteps 32 (x ^^^ word4 a b c d) := by
  rw [word4_xor ha hb hc hd]
  simp only [crcGo]
  rw [show (32 : Nat) = 8 + (8 + (8 + 8)) from rfl, csteps_add, csteps_add, csteps_add]
  have e1 : x ^^^ (a ^^^ b <<< 8 ^^^ c <<< 16 ^^^ d <<< 24) = (x ^^^ a) ^^^ ((b ^^^ (c ^^^ d <<< 8) <<< 8) <<< 8) := by
    simp only [Nat.shiftLeft_xor_distrib, ← Nat.shiftLeft_add, Nat.xor_assoc]
  rw [e1, step8]
  have e2 : csteps 8 (x ^^^ a) ^^^ (b ^^^ (c ^^^ d <<< 8) <<< 8) = (csteps 8 (x ^^^ a) ^^^ b) ^^^ ((c ^^^ d <<< 8) <<< 8) := by rw [Nat.xor_assoc]
  rw [e2, step8]
  have e3 : csteps 8 (csteps 8 (x ^^^ a) ^^^ b) ^^^ (c ^^^ d <<< 8) = (csteps 8 (csteps 8 (x ^^^ a) ^^^ b) ^^^ c) ^^^ (d <<< 8) := by rw [Nat.xor_assoc]
  rw [e3, step8]
/-- A text with its sum behind it. -/
theorem crc_whole {l : List Nat} {a b c d : Nat} (ha : a < 256) (hb : b < 256) (hc : c < 256) (hd : d < 256) (h : crcOf l = word4 a b c d) : crcGo 4294967295 (l ++ [a, b, c, d]) = csteps 32 4294967295 := by
  rw [crcGo_append, crcGo_word _ ha hb hc hd, ← h]
  unfold crcOf
  rw [← Nat.xor_assoc, Nat.xor_self, Nat.zero_xor]
theorem crcGo_zeros : ∀ n, crcGo 0 (List.replicate n 0) = 0
  | 0 => rfl
  | n + 1 => by
    have e : csteps 8 (0 ^^^ 0) = 0 := by decide
    rw [List.replicate_succ, crcGo, e]; exact crcGo_zeros n
theorem crcGo_zeros_ne : ∀ (n : Nat) {x : Nat}, x < 2 ^ 32 → crcGo x (List.replicate n 0) = 0 → x = 0
  | 0, _, _, h => h
  | n + 1, x, hx, h => by
    rw [List.replicate_succ, crcGo, Nat.xor_zero] at h
    exact csteps_zero 8 hx (crcGo_zeros_ne n (csteps_lt 8 hx) h)
theorem crcGo_burst {k j a b c d : Nat} (ha : a < 256) (hb : b < 256) (hc : c < 256) (hd : d < 256) (h : crcGo 0 (List.replicate k 0 ++ [a, b, c, d] ++ List.replicate j 0) = 0) : word4 a b c d = 0 := by
  rw [crcGo_append, crcGo_append, crcGo_zeros, crcGo_word 0 ha hb hc hd, Nat.zero_xor] at h
  have hw : word4 a b c d < 2 ^ 32 := by unfold word4; omega
  exact csteps_zero 32 hw (crcGo_zeros_ne j (csteps_lt 32 hw) h)
/-- Two texts with their sums that differ in at most four neighbouring bytes are one. -/
theorem burst {l : List Nat} {k j a b c d : Nat} (ha : a < 256) (hb : b < 256) (hc : c < 256) (hd : d < 256) (hl : l.length = k + 4 + j)
    (h1 : crcGo 4294967295 l = csteps 32 4294967295) (h2 : crcGo 4294967295 (List.zipWith (· ^^^ ·) l (List.replicate k 0 ++ [a, b, c, d] ++ List.replicate j 0)) = csteps 32 4294967295) : word4 a b c d = 0 := by
  have h := crcGo_xor l (List.replicate k 0 ++ [a, b, c, d] ++ List.replicate j 0) 4294967295 0 (by rw [hl]; simp; omega)
  rw [Nat.xor_zero, h2, h1] at h
  refine crcGo_burst ha hb hc hd (k := k) (j := j) ?_
  have h3 := congrArg (csteps 32 4294967295 ^^^ ·) h
  simp only [Nat.xor_self, ← Nat.xor_assoc, Nat.zero_xor] at h3
  exact h3.symm
end Go.Proofs.Ytokegkpbbhegpaa
