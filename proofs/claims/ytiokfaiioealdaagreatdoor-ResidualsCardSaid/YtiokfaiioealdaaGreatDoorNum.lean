/- Plain numbers: the counter, the table of chances, the mix of three (chapters 6, 7, 8) as Lean functions on whole numbers; no program in sight. -/
namespace Go.Proofs.YtiokfaiioealdaaGreatDoor

/-! ### Chapter 7 -/
def cMay (c : Int) : Bool := decide (0 ≤ c) && decide (c ≤ 65535)
def cOk (c b : Int) : Bool := cMay c && (decide (0 ≤ b) && decide (b ≤ 1))
/-- What a counter becomes, where it may be. -/
def cUp (c b : Int) : Int := if b = 1 then c + (65535 - c) / 16 else c - c / 16
/-- A counter's chance, where it may be. -/
def cCh (c : Int) : Int := if c / 16 < 1 then 1 else c / 16
theorem cMay_yes {c : Int} (h : 0 ≤ c ∧ c ≤ 65535) : cMay c = true := by simp [cMay, h]
theorem cMay_no {c : Int} (h : c < 0 ∨ 65535 < c) : cMay c = false := by simp only [cMay, Bool.and_eq_false_iff, decide_eq_false_iff_not]; omega
theorem cMay_iff {c : Int} : cMay c = true ↔ 0 ≤ c ∧ c ≤ 65535 := by simp [cMay]
theorem cOk_yes {c b : Int} (h : 0 ≤ c ∧ c ≤ 65535 ∧ 0 ≤ b ∧ b ≤ 1) : cOk c b = true := by simp [cOk, cMay, h]
theorem cOk_no {c b : Int} (h : c < 0 ∨ 65535 < c ∨ b < 0 ∨ 1 < b) : cOk c b = false := by simp only [cOk, cMay, Bool.and_eq_false_iff, decide_eq_false_iff_not]; omega
theorem cOk_iff {c b : Int} : cOk c b = true ↔ 0 ≤ c ∧ c ≤ 65535 ∧ 0 ≤ b ∧ b ≤ 1 := by simp [cOk, cMay, and_assoc]
theorem cCh_range {c : Int} (h : c ≤ 65535) : 1 ≤ cCh c ∧ cCh c ≤ 4095 := by unfold cCh; split <;> omega

/-! ### Chapter 6 -/
def tab : List Int := [1, 2, 3, 6, 10, 16, 27, 45, 73, 120, 194, 310, 488, 747, 1101, 1546, 2047, 2549, 2994, 3348, 3607, 3785, 3901, 3975, 4022, 4050, 4068, 4079, 4085, 4089, 4092, 4093, 4094]
def tb (i : Int) : Int := tab.getD i.toNat 0
theorem tb_le : ∀ n, n < 33 → 0 ≤ tab.getD n 0 ∧ tab.getD n 0 ≤ 4094 := by decide
/-- Between two places of the table. -/
def sqAt (d m : Int) : Int := (tb d * (128 - m) + tb (d + 1) * m + 64) / 128
def sq (x : Int) : Int := if 2047 < x then 4095 else if x < -2047 then 0 else sqAt ((x + 2048) / 128) (x % 128)
/-- The search by halves. -/
def bs : Nat → Int → Int → Int → Int
  | 0, _, i, _ => i
  | k + 1, p, i, j => if i < j then (if p ≤ sq ((i + j) / 2 - 2047) then bs k p i ((i + j) / 2) else bs k p ((i + j) / 2 + 1) j) else i
def st (p : Int) : Int := bs 13 p 0 4094 - 2047
theorem bs_range (p : Int) : ∀ k i j, 0 ≤ i → i ≤ j → j ≤ 4094 → 0 ≤ bs k p i j ∧ bs k p i j ≤ 4094 := by
  intro k
  induction k with
  | zero => intro i j h0 h1 h2; simp only [bs]; omega
  | succ k ih =>
    intro i j h0 h1 h2
    simp only [bs]
    split
    · split
      · exact ih _ _ (by omega) (by omega) (by omega)
      · exact ih _ _ (by omega) (by omega) (by omega)
    · omega
theorem st_range (p : Int) : -2047 ≤ st p ∧ st p ≤ 2047 := by have := bs_range p 13 0 4094 (by omega) (by omega) (by omega); unfold st; omega

theorem sq_next_grid : ((List.range 64).all fun a => (List.range 64).all fun b => decide (sq ((64 * a + b : Nat) - 2048 : Int) ≤ sq ((64 * a + b : Nat) - 2048 + 1 : Int))) = true := by decide +kernel
theorem sq_next_all (n : Nat) (h : n < 4096) : sq ((n : Int) - 2048) ≤ sq ((n : Int) - 2048 + 1) := by
  have h1 := List.all_eq_true.1 (List.all_eq_true.1 sq_next_grid (n / 64) (List.mem_range.2 (by omega))) (n % 64) (List.mem_range.2 (by omega))
  rw [show 64 * (n / 64) + n % 64 = n by omega] at h1
  exact of_decide_eq_true h1
theorem sq_next (x : Int) : sq x ≤ sq (x + 1) := by
  by_cases h : -2048 ≤ x ∧ x ≤ 2047
  · have := sq_next_all (x + 2048).toNat (by omega)
    rw [show (((x + 2048).toNat : Nat) : Int) - 2048 = x by omega] at this
    exact this
  · by_cases h1 : x < -2048
    · simp only [sq]; rw [if_neg (by omega), if_pos (by omega), if_neg (by omega), if_pos (by omega)]; omega
    · simp only [sq]; rw [if_pos (by omega), if_pos (by omega)]; omega
theorem sq_mono {x y : Int} (h : x ≤ y) : sq x ≤ sq y := by
  obtain ⟨d, rfl⟩ : ∃ d : Nat, y = x + d := ⟨(y - x).toNat, by omega⟩
  clear h
  induction d with
  | zero => simp
  | succ d ih => have := sq_next (x + d); rw [show x + ((d + 1 : Nat) : Int) = x + d + 1 by omega]; omega
theorem sq_range (x : Int) : 0 ≤ sq x ∧ sq x ≤ 4095 := by
  by_cases h : x ≤ 2048
  · by_cases h1 : -2048 ≤ x
    · have a := sq_mono h1; have b := sq_mono h
      rw [show sq (-2048) = 0 by decide +kernel] at a; rw [show sq 2048 = 4095 by decide +kernel] at b; omega
    · simp only [sq]; rw [if_neg (by omega), if_pos (by omega)]; omega
  · simp only [sq]; rw [if_pos (by omega)]; omega
theorem bs_spec (p : Int) : ∀ k i j, 0 ≤ i → i ≤ j → j ≤ 4094 → j - i < ((2 ^ k : Nat) : Int) → (i = 0 ∨ sq (i - 2047 - 1) < p) → (j = 4094 ∨ p ≤ sq (j - 2047)) →
    (bs k p i j = 0 ∨ sq (bs k p i j - 2047 - 1) < p) ∧ (bs k p i j = 4094 ∨ p ≤ sq (bs k p i j - 2047)) := by
  intro k
  induction k with
  | zero =>
    intro i j h0 h1 h2 hd a b
    have : i = j := by simp at hd; omega
    subst this
    exact ⟨a, b⟩
  | succ k ih =>
    intro i j h0 h1 h2 hd a b
    simp only [bs]
    have hp : (2 ^ (k + 1) : Nat) = 2 * 2 ^ k := by rw [Nat.pow_succ]; omega
    rw [hp] at hd
    split
    · split
      · rename_i hs
        exact ih _ _ (by omega) (by omega) (by omega) (by omega) a (.inr hs)
      · rename_i hs
        exact ih _ _ (by omega) (by omega) (by omega) (by omega) (.inr (by rw [show (i + j) / 2 + 1 - 2047 - 1 = (i + j) / 2 - 2047 by omega]; omega)) b
    · have : i = j := by omega
      subst this
      exact ⟨a, b⟩
theorem st_spec (p : Int) : (st p = -2047 ∨ sq (st p - 1) < p) ∧ (st p = 2047 ∨ p ≤ sq (st p)) := by
  obtain ⟨a, b⟩ := bs_spec p 13 0 4094 (by omega) (by omega) (by omega) (by decide) (.inl rfl) (.inl rfl)
  unfold st
  exact ⟨a.imp (by omega) id, b.imp (by omega) id⟩

theorem sq_mid {k : Int} (h0 : -2047 ≤ k) (h1 : k ≤ 2047) : 1 ≤ sq k ∧ sq k ≤ 4094 := by
  have a := sq_mono h0; have b := sq_mono h1
  rw [show sq (-2047) = 1 by decide +kernel] at a; rw [show sq 2047 = 4094 by decide +kernel] at b
  exact ⟨a, b⟩
theorem st_back {k : Int} (h0 : -2047 ≤ k) (h1 : k ≤ 2047) : st (sq k) ≤ k ∧ sq (st (sq k)) = sq k := by
  obtain ⟨a, b⟩ := st_spec (sq k)
  have hle : st (sq k) ≤ k := by
    rcases a with a | a
    · omega
    · by_cases h : st (sq k) - 1 < k
      · omega
      · have := sq_mono (show k ≤ st (sq k) - 1 by omega); omega
  have := sq_mono hle
  refine ⟨hle, ?_⟩
  rcases b with b | b
  · rw [show k = st (sq k) by omega] at this ⊢
    have e : st (sq k) = k := by omega
    rw [e, e]
  · omega

theorem mirror_grid : ((List.range 32).all fun a => (List.range 64).all fun b => decide (4090 ≤ sq ((64 * a + b : Nat) : Int) + sq (-((64 * a + b : Nat) : Int)) ∧ sq ((64 * a + b : Nat) : Int) + sq (-((64 * a + b : Nat) : Int)) ≤ 4100 ∧ sq (-((64 * a + b : Nat) : Int)) ≤ sq ((64 * a + b : Nat) : Int))) = true := by decide +kernel
theorem mirror {r : Int} (h0 : 0 ≤ r) (h1 : r < 2048) : 4090 ≤ sq r + sq (-r) ∧ sq r + sq (-r) ≤ 4100 ∧ sq (-r) ≤ sq r := by
  obtain ⟨n, rfl⟩ := Int.eq_ofNat_of_zero_le h0
  have h1 := List.all_eq_true.1 (List.all_eq_true.1 mirror_grid (n / 64) (List.mem_range.2 (by omega))) (n % 64) (List.mem_range.2 (by omega))
  rw [show 64 * (n / 64) + n % 64 = n by omega] at h1
  exact of_decide_eq_true h1
theorem knots : ∀ n : Nat, n < 31 → sq (128 * ((n : Int) - 15)) = tab.getD (n + 1) 0 := by decide +kernel

/-! ### Chapter 8 -/
def bound (x lo hi : Int) : Int := if hi < (if x < lo then lo else x) then hi else (if x < lo then lo else x)
theorem bound_range {x lo hi : Int} (h : lo ≤ hi) : lo ≤ bound x lo hi ∧ bound x lo hi ≤ hi := by unfold bound; constructor <;> (repeat' split) <;> omega
def in3 (m a b c : Int) : Bool := decide (-m ≤ a) && decide (a ≤ m) && decide (-m ≤ b) && decide (b ≤ m) && decide (-m ≤ c) && decide (c ≤ m)
theorem in3_no {m a b c : Int} (h : (a < -m ∨ m < a) ∨ (b < -m ∨ m < b) ∨ (c < -m ∨ m < c)) : in3 m a b c = false := by
  simp only [in3, Bool.and_eq_false_iff, decide_eq_false_iff_not]; omega
theorem in3_yes {m a b c : Int} (h : -m ≤ a ∧ a ≤ m ∧ -m ≤ b ∧ b ≤ m ∧ -m ≤ c ∧ c ≤ m) : in3 m a b c = true := by
  simp only [in3, Bool.and_eq_true, decide_eq_true_eq]; omega
theorem in3_iff {m a b c : Int} : in3 m a b c = true ↔ -m ≤ a ∧ a ≤ m ∧ -m ≤ b ∧ b ≤ m ∧ -m ≤ c ∧ c ≤ m := by simp [in3, and_assoc]
/-- May weights a, b, c and inputs x, y, z be? -/
def mixOk (a b c x y z : Int) : Bool := in3 1048576 a b c && in3 2047 x y z
theorem mixOk_iff {a b c x y z : Int} : mixOk a b c x y z = true ↔ (-1048576 ≤ a ∧ a ≤ 1048576 ∧ -1048576 ≤ b ∧ b ≤ 1048576 ∧ -1048576 ≤ c ∧ c ≤ 1048576) ∧ (-2047 ≤ x ∧ x ≤ 2047 ∧ -2047 ≤ y ∧ y ≤ 2047 ∧ -2047 ≤ z ∧ z ≤ 2047) := by simp only [mixOk, Bool.and_eq_true, in3_iff]
def dsum (a b c x y z : Int) : Int := a * x + b * y + c * z
def trOk (a b c x y z bit : Int) : Bool := mixOk a b c x y z && (decide (0 ≤ bit) && decide (bit ≤ 1))
def dot (a b c x y z : Int) : Int := bound (sq (dsum a b c x y z / 65536)) 1 4095
/-- What becomes of a weight w of input x. -/
def tw (w x off : Int) : Int := bound (w + (x * off + 512) / 1024) (-1048576) 1048576
theorem dot_range (a b c x y z : Int) : 1 ≤ dot a b c x y z ∧ dot a b c x y z ≤ 4095 := bound_range (by omega)
theorem tw_range (w x off : Int) : -1048576 ≤ tw w x off ∧ tw w x off ≤ 1048576 := bound_range (by omega)
theorem tw_pos {w x off : Int} (h : 0 ≤ x * off) (hw : -1048576 ≤ w ∧ w ≤ 1048576) : w ≤ tw w x off := by unfold tw bound; (repeat' split) <;> omega
theorem tw_neg {w x off : Int} (h : x * off < 0) (hw : -1048576 ≤ w ∧ w ≤ 1048576) : tw w x off ≤ w := by unfold tw bound; (repeat' split) <;> omega
theorem tw_zero {w off : Int} (hw : -1048576 ≤ w ∧ w ≤ 1048576) : tw w 0 off = w := by unfold tw bound; (repeat' split) <;> omega
/-- A weight goes its input's way when the bit is 1, the other way when it is 0. -/
theorem tw_way {w x p : Int} (hp : 1 ≤ p ∧ p ≤ 4095) (hw : -1048576 ≤ w ∧ w ≤ 1048576) :
    (0 < x → w ≤ tw w x (4096 * 1 - p) ∧ tw w x (4096 * 0 - p) ≤ w) ∧ (x < 0 → tw w x (4096 * 1 - p) ≤ w ∧ w ≤ tw w x (4096 * 0 - p)) ∧ (x = 0 → tw w x (4096 * 1 - p) = w ∧ tw w x (4096 * 0 - p) = w) := by
  refine ⟨fun h => ⟨tw_pos (Int.mul_nonneg (by omega) (by omega)) hw, tw_neg (Int.mul_neg_of_pos_of_neg h (by omega)) hw⟩, fun h => ⟨tw_neg (Int.mul_neg_of_neg_of_pos h (by omega)) hw, tw_pos (Int.mul_nonneg_of_nonpos_of_nonpos (by omega) (by omega)) hw⟩, fun h => ?_⟩
  subst h
  exact ⟨tw_zero hw, tw_zero hw⟩
end Go.Proofs.YtiokfaiioealdaaGreatDoor
