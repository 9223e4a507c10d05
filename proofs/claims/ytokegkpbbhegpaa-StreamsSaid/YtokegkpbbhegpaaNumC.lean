/- The sum (chapter 3) as a function on whole numbers; no program in sight. -/
namespace Go.Proofs.Ytokegkpbbhegpaa
set_option linter.unusedVariables false
set_option linter.unusedSimpArgs false

/-- One bit of the sum's register. -/
def cstep (x : Nat) : Nat := (x >>> 1) ^^^ (if x % 2 = 1 then 3988292384 else 0)
def csteps : Nat → Nat → Nat
  | 0, x => x
  | n + 1, x => csteps n (cstep x)
theorem csteps_add (m : Nat) : ∀ n x, csteps (n + m) x = csteps m (csteps n x)
  | 0, x => by rw [Nat.zero_add]; rfl
  | n + 1, x => by rw [show n + 1 + m = (n + m) + 1 by omega]; exact csteps_add m n (cstep x)
theorem cstep_lt {x : Nat} (h : x < 2 ^ 32) : cstep x < 2 ^ 32 := by
  unfold cstep
  apply Nat.xor_lt_two_pow
  · rw [Nat.shiftRight_eq_div_pow]; omega
  · split <;> omega
theorem csteps_lt : ∀ n {x : Nat}, x < 2 ^ 32 → csteps n x < 2 ^ 32
  | 0, _, h => h
  | n + 1, x, h => csteps_lt n (cstep_lt h)
theorem xor_mod2 (a b : Nat) : (a ^^^ b) % 2 = (a % 2 + b % 2) % 2 := by
  have h := Nat.testBit_xor a b 0
  rw [Nat.testBit_zero, Nat.testBit_zero, Nat.testBit_zero] at h
  rcases Nat.mod_two_eq_zero_or_one a with ha | ha <;> rcases Nat.mod_two_eq_zero_or_one b with hb | hb <;> rcases Nat.mod_two_eq_zero_or_one (a ^^^ b) with hc | hc <;> rw [ha, hb, hc] at h <;> rw [ha, hb, hc] <;> revert h <;> decide
theorem cstep_xor (a b : Nat) : cstep (a ^^^ b) = cstep a ^^^ cstep b := by
  unfold cstep
  rw [Nat.shiftRight_xor_distrib, xor_mod2]
  rcases Nat.mod_two_eq_zero_or_one a with ha | ha <;> rcases Nat.mod_two_eq_zero_or_one b with hb | hb <;> simp only [ha, hb] <;> simp
  · rw [Nat.xor_assoc]
  · rw [Nat.xor_assoc, Nat.xor_comm (b >>> 1), ← Nat.xor_assoc, Nat.xor_assoc (a >>> 1), Nat.xor_comm 3988292384, ← Nat.xor_assoc]
  · rw [Nat.xor_assoc, ← Nat.xor_assoc 3988292384, Nat.xor_comm 3988292384 (b >>> 1), Nat.xor_assoc (b >>> 1), Nat.xor_self, Nat.xor_zero]
theorem csteps_xor : ∀ n a b, csteps n (a ^^^ b) = csteps n a ^^^ csteps n b
  | 0, _, _ => rfl
  | n + 1, a, b => by rw [csteps, cstep_xor, csteps_xor n]; rfl
theorem csteps_shift : ∀ n m, csteps n (m <<< n) = m
  | 0, m => rfl
  | n + 1, m => by
    have e : cstep (m <<< (n + 1)) = m <<< n := by
      unfold cstep
      rw [Nat.shiftLeft_eq, Nat.pow_succ, ← Nat.mul_assoc, Nat.shiftRight_eq_div_pow, if_neg (by omega), Nat.xor_zero, Nat.shiftLeft_eq]
      omega
    rw [csteps, e, csteps_shift n m]
theorem split_low (x n : Nat) : x = ((x >>> n) <<< n) ^^^ (x % 2 ^ n) := by
  apply Nat.eq_of_testBit_eq
  intro i
  rw [Nat.testBit_xor, Nat.testBit_shiftLeft, Nat.testBit_shiftRight, Nat.testBit_mod_two_pow]
  by_cases h : n ≤ i
  · simp [h, Nat.not_lt.2 h, show n + (i - n) = i by omega]
  · simp [h, Nat.lt_of_not_le h]
/-- The table's way: so many bits at once. -/
theorem csteps_low (n x : Nat) : csteps n x = (x >>> n) ^^^ csteps n (x % 2 ^ n) := by
  have h := congrArg (csteps n) (split_low x n)
  rw [csteps_xor, csteps_shift] at h
  exact h
/-- A text's sum, ahead of its last turn. -/
def crcGo : Nat → List Nat → Nat
  | x, [] => x
  | x, b :: r => crcGo (csteps 8 (x ^^^ b)) r
theorem crcGo_append (l m : List Nat) : ∀ x, crcGo x (l ++ m) = crcGo (crcGo x l) m := by
  induction l with
  | nil => intro x; rfl
  | cons b r ih => intro x; exact ih _
theorem crcGo_lt (l : List Nat) (hl : ∀ b ∈ l, b < 256) : ∀ {x}, x < 2 ^ 32 → crcGo x l < 2 ^ 32 := by
  induction l with
  | nil => intro x h; exact h
  | cons b r ih =>
    intro x h
    refine ih (fun c hc => hl c (by simp [hc])) (csteps_lt 8 (Nat.xor_lt_two_pow h ?_))
    have := hl b (by simp)
    omega
def crcOf (l : List Nat) : Nat := crcGo 4294967295 l ^^^ 4294967295
theorem crcOf_lt (l : List Nat) (hl : ∀ b ∈ l, b < 256) : crcOf l < 2 ^ 32 := Nat.xor_lt_two_pow (crcGo_lt l hl (by decide)) (by decide)
end Go.Proofs.Ytokegkpbbhegpaa
