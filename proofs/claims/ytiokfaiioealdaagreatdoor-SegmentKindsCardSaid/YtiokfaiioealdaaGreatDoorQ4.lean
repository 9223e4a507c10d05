/- The texts behind the row, joined: Num WNum WMix WMod WModN WModP WModQ WModL. -/
import Derived.Test.YtiokfaiioealdaaGreatDoorProg
import Derived.Test.YtiokfaiioealdaaGreatDoorQ1
import Derived.Deep.MidRow
import Derived.Deep.RegionHeld3
import Derived.BigRegion
namespace Go.Proofs.YtiokfaiioealdaaGreatDoor
def cMay (c : Int) : Bool := decide (0 ≤ c) && decide (c ≤ 65535)
def cOk (c b : Int) : Bool := cMay c && (decide (0 ≤ b) && decide (b ≤ 1))
/-- What a counter becomes, where it may be. -/
def cUp (c b : Int) : Int := if b = 1 then c + (65535 - c) / 16 else c - c / 16
/-- A counter's chance, where it may be. -/
def cCh (c : Int) : Int := if c / 16 < 1 then 1 else c / 16
theorem cMay_iff {c : Int} : cMay c = true ↔ 0 ≤ c ∧ c ≤ 65535 := by simp [cMay]
theorem cCh_range {c : Int} (h : c ≤ 65535) : 1 ≤ cCh c ∧ cCh c ≤ 4095 := by unfold cCh; split <;> omega
def tab : List Int := [1, 2, 3, 6, 10, 16, 27, 45, 73, 120, 194, 310, 488, 747, 1101, 1546, 2047, 2549, 2994, 3348, 3607, 3785, 3901, 3975, 4022, 4050, 4068, 4079, 4085, 4089, 4092, 4093, 4094]
def tb (i : Int) : Int := tab.getD i.toNat 0
theorem tb_le : ∀ n, n < 33 → 0 ≤ tab.getD n 0 ∧ tab.getD n 0 ≤ 4094 := by decide
/-- Between two places of the table. -/
def sqAt (d m : Int) : Int := (tb d * (128 - m) + tb (d + 1) * m + 64) / 128
def sq (x : Int) : Int := if 2047 < x then 4095 else if x < -2047 then 0 else sqAt ((x + 2048) / 128) (x % 128)
/-- The search by halves. -/
def bs : Nat → Int → Int → Int → Int
  | 0, _, i, _ => i
  | k + 1, p, i, j => if i < j then (if p ≤ sq ((i + j) / 2 - 2047) then bs k p i ((i + j) / 2) else bs k p ((i + j) / 2 + 1) j) else i
def st (p : Int) : Int := bs 13 p 0 4094 - 2047
theorem bs_range (p : Int) : ∀ k i j, 0 ≤ i → i ≤ j → j ≤ 4094 → 0 ≤ bs k p i j ∧ bs k p i j ≤ 4094 := by
  intro k
  induction k with
  | zero => intro i j h0 h1 h2; simp only [bs]; omega
  | succ k ih =>
    intro i j h0 h1 h2
    simp only [bs]
    split
    · split
      · exact ih _ _ (by omega) (by omega) (by omega)
      · exact ih _ _ (by omega) (by omega) (by omega)
    · omega
theorem st_range (p : Int) : -2047 ≤ st p ∧ st p ≤ 2047 := by have := bs_range p 13 0 4094 (by omega) (by omega) (by omega); unfold st; omega
def bound (x lo hi : Int) : Int := if hi < (if x < lo then lo else x) then hi else (if x < lo then lo else x)
theorem bound_range {x lo hi : Int} (h : lo ≤ hi) : lo ≤ bound x lo hi ∧ bound x lo hi ≤ hi := by unfold bound; constructor <;> (repeat' split) <;> omega
def in3 (m a b c : Int) : Bool := decide (-m ≤ a) && decide (a ≤ m) && decide (-m ≤ b) && decide (b ≤ m) && decide (-m ≤ c) && decide (c ≤ m)
theorem in3_no {m a b c : Int} (h : (a < -m ∨ m < a) ∨ (b < -m ∨ m < b) ∨ (c < -m ∨ m < c)) : in3 m a b c = false := by
  simp only [in3, Bool.and_eq_false_iff, decide_eq_false_iff_not]; omega
theorem in3_yes {m a b c : Int} (h : -m ≤ a ∧ a ≤ m ∧ -m ≤ b ∧ b ≤ m ∧ -m ≤ c ∧ c ≤ m) : in3 m a b c = true := by
  simp only [in3, Bool.and_eq_true, decide_eq_true_eq]; omega
theorem in3_iff {m a b c : Int} : in3 m a b c = true ↔ -m ≤ a ∧ a ≤ m ∧ -m ≤ b ∧ b ≤ m ∧ -m ≤ c ∧ c ≤ m := by simp [in3, and_assoc]
/-- May weights a, b, c and inputs x, y, z be? -/
def mixOk (a b c x y z : Int) : Bool := in3 1048576 a b c && in3 2047 x y z
theorem mixOk_iff {a b c x y z : Int} : mixOk a b c x y z = true ↔ (-1048576 ≤ a ∧ a ≤ 1048576 ∧ -1048576 ≤ b ∧ b ≤ 1048576 ∧ -1048576 ≤ c ∧ c ≤ 1048576) ∧ (-2047 ≤ x ∧ x ≤ 2047 ∧ -2047 ≤ y ∧ y ≤ 2047 ∧ -2047 ≤ z ∧ z ≤ 2047) := by simp only [mixOk, Bool.and_eq_true, in3_iff]
def dsum (a b c x y z : Int) : Int := a * x + b * y + c * z
def trOk (a b c x y z bit : Int) : Bool := mixOk a b c x y z && (decide (0 ≤ bit) && decide (bit ≤ 1))
def dot (a b c x y z : Int) : Int := bound (sq (dsum a b c x y z / 65536)) 1 4095
/-- What becomes of a weight w of input x. -/
def tw (w x off : Int) : Int := bound (w + (x * off + 512) / 1024) (-1048576) 1048576
theorem dot_range (a b c x y z : Int) : 1 ≤ dot a b c x y z ∧ dot a b c x y z ≤ 4095 := bound_range (by omega)
theorem tw_range (w x off : Int) : -1048576 ≤ tw w x off ∧ tw w x off ≤ 1048576 := bound_range (by omega)
end Go.Proofs.YtiokfaiioealdaaGreatDoor
namespace Go.Proofs.YtiokfaiioealdaaGreatDoor
open Go.RowKit Go.Proofs.YtiokfaiioealdaaGreatDoor.L
set_option linter.unusedVariables false
set_option linter.unusedSimpArgs false
theorem count_may (c : Int) (w : World) : Calls Tryz.prog 203 #[.int .i64 c] w fun e w' => e = .returned (.bool (cMay c)) ∧ w = w' := by
  by_cases h : 0 ≤ c
  all_goals
    go_enter Tryz.func203, Tryz.ntmps203
    go_wp2
    go_ret
    exact ⟨ret_bool (by rw [Bool.eq_iff_iff]; simp [cMay]; omega), rfl⟩
theorem count_new (w : World) : Calls Tryz.prog 72 #[] w fun e w' => e = .returned (.int .i64 32768) ∧ w = w' := by
  go_enter Tryz.func72, Tryz.ntmps72
  go_wp2
  go_ret
  exact ⟨rfl, rfl⟩
def num2 (ok : Bool) (v e : Int) : Value := .tuple #[.int .i64 (if ok then v else 0), .int .i64 (if ok then 0 else e)]
attribute [go_sem] num2
theorem count_next (c b : Int) (w : World) : Calls Tryz.prog 191 #[.int .i64 c, .int .i64 b] w fun e w' => e = .returned (num2 (cOk c b) (cUp c b) 700) ∧ w = w' := by
  cases hc : cMay c
  · rw [show cOk c b = false by simp [cOk, hc]]
    go_enter Tryz.func191, Tryz.ntmps191
    go_wp2_with (go_at_call 203; refine (count_may c _).mono ?_; rintro e w' ⟨rfl, rfl⟩)
    go_ret2
    exact ⟨rfl, rfl⟩
  · have hb := cMay_iff.1 hc
    obtain ⟨hb0, hb1⟩ := hb
    rw [show cOk c b = (decide (0 ≤ b) && decide (b ≤ 1)) by simp [cOk, hc]]
    by_cases h0 : b < 0
    · rw [show (decide (0 ≤ b) && decide (b ≤ 1)) = false by simp; omega]
      go_enter Tryz.func191, Tryz.ntmps191
      go_wp2_with (go_at_call 203; refine (count_may c _).mono ?_; rintro e w' ⟨rfl, rfl⟩)
      go_ret2
      exact ⟨rfl, rfl⟩
    · have h0' : decide (b < 0) = false := by simp; omega
      by_cases h1 : 1 < b
      · rw [show (decide (0 ≤ b) && decide (b ≤ 1)) = false by simp; omega]
        go_enter Tryz.func191, Tryz.ntmps191
        go_wp2_with (go_at_call 203; refine (count_may c _).mono ?_; rintro e w' ⟨rfl, rfl⟩)
        go_ret2
        exact ⟨rfl, rfl⟩
      · have e : b = 0 ∨ b = 1 := by omega
        clear h0 h0' h1
        rcases e with rfl | rfl
        all_goals
          go_enter Tryz.func191, Tryz.ntmps191
          go_wp2_with (go_at_call 203; refine (count_may c _).mono ?_; rintro e w' ⟨rfl, rfl⟩)
          go_ret2
          exact ⟨rfl, rfl⟩
theorem count_p (c : Int) (w : World) : Calls Tryz.prog 208 #[.int .i64 c] w fun e w' => e = .returned (num2 (cMay c) (cCh c) 700) ∧ w = w' := by
  cases hc : cMay c
  · go_enter Tryz.func208, Tryz.ntmps208
    go_wp2_with (go_at_call 203; refine (count_may c _).mono ?_; rintro e w' ⟨rfl, rfl⟩)
    go_ret2
    exact ⟨rfl, rfl⟩
  · have hb := cMay_iff.1 hc
    obtain ⟨hb0, hb1⟩ := hb
    go_enter Tryz.func208, Tryz.ntmps208
    go_wp2_with (go_at_call 203; refine (count_may c _).mono ?_; rintro e w' ⟨rfl, rfl⟩)
    all_goals (go_ret2; exact ⟨ret_two (by simp only [cCh, if_true]; split <;> omega) rfl, rfl⟩)
/-- The program's table lies where its variable is. -/
structure Tab (w : World) : Prop where mk :: (out : ∀ j, j < 33 → w.cell? ⟨3, j, none⟩ = some (.int .i64 (tab.getD j 0)))
theorem Tab.drewN {w : World} (h : Tab w) (n : Nat) : Tab (w.drewN n) := ⟨h.out⟩
theorem Tab.below {w w1 : World} (h : Tab w) (hb : Below w.heap.size w w1) : Tab w1 := ⟨fun j hj => cell_below hb (h.out j hj)⟩
theorem Tab.alloc {w : World} (h : Tab w) (o : Obj) : Tab (w.alloc o) := h.below ((Below.refl _ _).alloc (Nat.le_refl _) o)
theorem squash_in (x : Int) (w : World) (hx : -2047 ≤ x) (hy : x ≤ 2047) (ht : Tab w) :
   Calls Tryz.prog 207 #[.int .i64 x] w fun e w' => e = .returned (.int .i64 (sqAt ((x + 2048) / 128) (x % 128))) ∧ ∃ n, w' = w.drewN n := by
  obtain ⟨d, hd⟩ : ∃ d : Nat, (x + 2047 + 1) / 128 = (d : Int) := ⟨((x + 2048) / 128).toNat, by omega⟩
  have c0 := ht.out d (by omega)
  have c1 := ht.out (d + 1) (by omega)
  have hb1 : (d : Int) < 32 := by omega
  have e0 := tb_le d (by omega)
  have e1 := tb_le (d + 1) (by omega)
  obtain ⟨m, hm⟩ : ∃ m, bits BinOp.and IntKind.i64 x 127 = m := ⟨_, rfl⟩
  have hm' : m = x % 128 := by rw [← hm, i64_and127]
  have hm0 : 0 ≤ m := by omega
  have hm1 : m < 128 := by omega
  have HM := Lib.hid hm'
  clear hm'
  obtain ⟨A, hA⟩ : ∃ A, tab.getD d 0 = A := ⟨_, rfl⟩
  obtain ⟨B, hB⟩ : ∃ B, tab.getD (d + 1) 0 = B := ⟨_, rfl⟩
  rw [hA] at c0 e0
  rw [hB] at c1 e1
  have HA := Lib.hid hA
  have HB := Lib.hid hB
  clear hA hB ht
  obtain ⟨p00, p01⟩ := mul_bd (a := A) (b := 128 - m) (m := 4094) (n := 128) e0.1 e0.2 (by omega) (by omega)
  obtain ⟨p10, p11⟩ := mul_bd (a := B) (b := m) (m := 4094) (n := 128) e1.1 e1.2 (by omega) (by omega)
  obtain ⟨e00, e01⟩ := e0
  obtain ⟨e10, e11⟩ := e1
  go_enter Tryz.func207, Tryz.ntmps207
  go_wp2
  go_quiet (fail)
  go_wp2
  go_ret
  refine ⟨ret_int ?_, nq, rfl⟩
  have h1 : (x + 2048) / 128 = (d : Int) := by omega
  have h2 : (d : Int) + 1 = ((d + 1 : Nat) : Int) := by omega
  rw [h1]
  simp only [sqAt, tb, h2, Int.toNat_natCast, HA.out, HB.out, ← HM.out]
theorem squash_any (x : Int) (w : World) (ht : Tab w) :
   Calls Tryz.prog 207 #[.int .i64 x] w fun e w' => e = .returned (.int .i64 (sq x)) ∧ ∃ n, w' = w.drewN n := by
  by_cases h1 : 2047 < x
  · rw [show sq x = 4095 by simp [sq, h1]]
    go_enter Tryz.func207, Tryz.ntmps207
    go_wp2
    go_ret
    exact ⟨rfl, 0, rfl⟩
  · by_cases h2 : x < -2047
    · rw [show sq x = 0 by simp [sq, h1, h2]]
      go_enter Tryz.func207, Tryz.ntmps207
      go_wp2
      go_ret
      exact ⟨rfl, 0, rfl⟩
    · rw [show sq x = _ by simp only [sq, if_neg h1, if_neg h2]; exact rfl]
      exact squash_in x w (by omega) (by omega) ht
theorem clo_any (i p : Int) (g : Nat) (w : World) (hi : 0 ≤ i) (hj : i ≤ 4094) (hg : w.cell? ⟨g, 0, none⟩ = some (.int .i64 p)) (ht : Tab w) :
   Calls Tryz.prog 216 #[.int .i64 i, .pointer (some ⟨g, 0, none⟩)] w fun e w' => e = .returned (.bool (decide (p ≤ sq (i - 2047)))) ∧ ∃ n, w' = w.drewN n := by
  have W1 : IntKind.i64.wrap (i - 2047) = i - 2047 := IntWalk.i64_in _ (by omega)
  go_enter Tryz.func216, Tryz.ntmps216
  go_wp2
  go_quiet ((go_at_call 207; exact Calls.quiet_of (squash_any _ _ (ht.drewN _))))
  go_wp2
  go_ret
  exact ⟨rfl, nq, rfl⟩
theorem bs_end {k : Nat} {p i j R : Int} (h : bs k p i j = R) (hij : ¬ i < j) : i = R := by
  cases k with
  | zero => exact h
  | succ k => simp only [bs] at h; rw [if_neg hij] at h; exact h
theorem fuel_pos {a k : Nat} (h : a < 2 ^ k) (ha : 0 < a) : ∃ m, k = m + 1 := by
  cases k with
  | zero => simp at h; omega
  | succ m => exact ⟨m, rfl⟩
theorem fuel_half {a k : Nat} (h : a < 2 ^ (k + 1)) : a < 2 * 2 ^ k := by rw [Nat.pow_succ] at h; omega
theorem search_any (p : Int) (g : Nat) (w : World) (hg : w.cell? ⟨g, 0, none⟩ = some (.int .i64 p)) (ht : Tab w) :
   Calls Tryz.prog 215 #[.int .i64 4094, .func (.func 216) #[] #[.pointer (some ⟨g, 0, none⟩)]] w fun e w' => e = .returned (.int .i64 (bs 13 p 0 4094)) ∧ ∃ n, w' = w.drewN n := by
  obtain ⟨R, hR⟩ : ∃ R, bs 13 p 0 4094 = R := ⟨_, rfl⟩
  rw [hR]
  have HR := Lib.hid hR
  clear hR
  go_enter Tryz.func215, Tryz.ntmps215
  go_wp2
  go_loopw [5, 6] (fun v u wr => ∃ i j : Nat, v = .int .i64 i ∧ u = .int .i64 j ∧ i ≤ j ∧ j ≤ 4094 ∧ (∃ k, Hid (bs k p i j = R) ∧ Hid (j - i < 2 ^ k)) ∧ ∃ n, wr = w.drewN n) (fun v u _ => (intOf u - intOf v).toNat)
  case atStart => exact ⟨0, 4094, rfl, rfl, by omega, by omega, ⟨13, HR, Lib.hid (by decide)⟩, 0, rfl⟩
  case round =>
    obtain ⟨i, j, rfl, rfl, hij, hj, ⟨k, HB, HK⟩, n, rfl⟩ := hrel
    by_cases hlt : i < j
    · obtain ⟨k, rfl⟩ := fuel_pos HK.out (by omega)
      have HK2 := Lib.hid (fuel_half HK.out)
      cases hc : decide (p ≤ sq (((i : Int) + j) / 2 - 2047))
      · go_wp2_with fail
        refine (clo_any (((i : Int) + j) / 2) p g (w.drewN n) (by omega) (by omega) hg (ht.drewN n)).mono ?_
        rintro e w1 ⟨rfl, m, rfl⟩
        go_wp2
        go_roundw
        case rel =>
          refine ⟨(i + j) / 2 + 1, j, by go_num, rfl, by omega, hj, ⟨k, Lib.hid ?_, Lib.hid (by have := HK2.out; omega)⟩, n + m, by simp⟩
          have hb := HB.out
          simp only [bs] at hb
          rw [if_pos (by omega), if_neg (by simpa using hc)] at hb
          rw [← hb]; congr 1
        case measure => simp [intOf]; omega
      · go_wp2_with fail
        refine (clo_any (((i : Int) + j) / 2) p g (w.drewN n) (by omega) (by omega) hg (ht.drewN n)).mono ?_
        rintro e w1 ⟨rfl, m, rfl⟩
        go_wp2
        go_roundw
        case rel =>
          refine ⟨i, (i + j) / 2, rfl, by go_num, by omega, by omega, ⟨k, Lib.hid ?_, Lib.hid (by have := HK2.out; omega)⟩, n + m, by simp⟩
          have hb := HB.out
          simp only [bs] at hb
          rw [if_pos (by omega), if_pos (by simpa using hc)] at hb
          rw [← hb]; congr 1
        case measure => simp [intOf]; omega
    · go_wp2
      go_ret
      exact ⟨ret_int (bs_end HB.out (by omega)), n, rfl⟩
theorem stretch_yes (p : Int) (w : World) (h0 : 0 ≤ p) (h1 : p ≤ 4095) (ht : Tab w) :
   Calls Tryz.prog 209 #[.int .i64 p] w fun e w' => e = .returned (.tuple #[.int .i64 (st p), .int .i64 0]) ∧ Below w.heap.size w w' := by
  have hr := bs_range p 13 0 4094 (by omega) (by omega) (by omega)
  obtain ⟨hr0, hr1⟩ := hr
  unfold st
  go_enter Tryz.func209, Tryz.ntmps209
  go_wp2_with fail
  refine (search_any p w.heap.size _ (by simp) (ht.alloc _)).mono ?_
  rintro e w1 ⟨rfl, m, rfl⟩
  go_wp2
  go_ret2
  exact ⟨rfl, below_drewN (below_alloc (Below.refl _ _) _) _⟩
theorem stretch_no (p : Int) (w : World) (h : p < 0 ∨ 4095 < p) :
   Calls Tryz.prog 209 #[.int .i64 p] w fun e w' => e = .returned (.tuple #[.int .i64 0, .int .i64 600]) ∧ Below w.heap.size w w' := by
  rcases h with h | h
  all_goals
    go_enter Tryz.func209, Tryz.ntmps209
    by_cases h0 : p < 0
    all_goals
      go_wp2
      go_ret2
      exact ⟨rfl, below_alloc (Below.refl _ _) _⟩
def stOk (p : Int) : Bool := decide (0 ≤ p) && decide (p ≤ 4095)
theorem stretch_any (p : Int) (w : World) (ht : Tab w) :
   Calls Tryz.prog 209 #[.int .i64 p] w fun e w' => e = .returned (num2 (stOk p) (st p) 600) ∧ Below w.heap.size w w' := by
  by_cases h : 0 ≤ p ∧ p ≤ 4095
  · rw [show stOk p = true by simp [stOk, h]]
    exact stretch_yes p w h.1 h.2 ht
  · rw [show stOk p = false by simp only [stOk, Bool.and_eq_false_iff, decide_eq_false_iff_not]; omega]
    exact stretch_no p w (by omega)
end Go.Proofs.YtiokfaiioealdaaGreatDoor
namespace Go.Proofs.YtiokfaiioealdaaGreatDoor
open Go.RowKit Go.Proofs.YtiokfaiioealdaaGreatDoor.L
set_option linter.unusedVariables false
set_option linter.unusedSimpArgs false
theorem bound_any (x lo hi : Int) (w : World) : Calls Tryz.prog 206 #[.int .i64 x, .int .i64 lo, .int .i64 hi] w fun e w' => e = .returned (.int .i64 (bound x lo hi)) ∧ w = w' := by
  go_enter Tryz.func206, Tryz.ntmps206
  go_wp2
  all_goals (go_ret; exact ⟨ret_int (by unfold bound; (repeat' split) <;> omega), rfl⟩)
theorem weights_any (b o : Nat) (a0 a1 a2 : Int) (w : World) (h0 : w.cell? ⟨b, o, none⟩ = some (.int .i64 a0)) (h1 : w.cell? ⟨b, o+1, none⟩ = some (.int .i64 a1)) (h2 : w.cell? ⟨b, o+2, none⟩ = some (.int .i64 a2)) :
   Calls Tryz.prog 204 #[.pointer (some ⟨b, o, none⟩)] w fun e w' => e = .returned (.bool (in3 1048576 a0 a1 a2)) ∧ w = w' := by
  go_enter Tryz.func204, Tryz.ntmps204
  go_wp2
  go_rounds 4
  all_goals (go_ret; exact ⟨ret_bool (by symm; first | exact in3_no (by omega) | exact in3_yes (by omega)), rfl⟩)
theorem inputs_any (b o : Nat) (a0 a1 a2 : Int) (w : World) (h0 : w.cell? ⟨b, o, none⟩ = some (.int .i64 a0)) (h1 : w.cell? ⟨b, o+1, none⟩ = some (.int .i64 a1)) (h2 : w.cell? ⟨b, o+2, none⟩ = some (.int .i64 a2)) :
   Calls Tryz.prog 205 #[.pointer (some ⟨b, o, none⟩)] w fun e w' => e = .returned (.bool (in3 2047 a0 a1 a2)) ∧ w = w' := by
  go_enter Tryz.func205, Tryz.ntmps205
  go_wp2
  go_rounds 4
  all_goals (go_ret; exact ⟨ret_bool (by symm; first | exact in3_no (by omega) | exact in3_yes (by omega)), rfl⟩)
def v3 (a b c : Int) : Value := .agg #[.int .i64 a, .int .i64 b, .int .i64 c]
attribute [go_sem] v3
theorem idx3_0 (x y z : Int) (w : World) : (Instr.index 61 (.agg #[.int .i64 x, .int .i64 y, .int .i64 z]) (.int .i64 0)).run Tryz.prog w = .ok (.int .i64 x) w := by kernel_rfl
theorem idx3_1 (x y z : Int) (w : World) : (Instr.index 61 (.agg #[.int .i64 x, .int .i64 y, .int .i64 z]) (.int .i64 1)).run Tryz.prog w = .ok (.int .i64 y) w := by kernel_rfl
theorem idx3_2 (x y z : Int) (w : World) : (Instr.index 61 (.agg #[.int .i64 x, .int .i64 y, .int .i64 z]) (.int .i64 2)).run Tryz.prog w = .ok (.int .i64 z) w := by kernel_rfl
attribute [go_sem] idx3_0 idx3_1 idx3_2
theorem mul_abs {a x m n : Int} (h : -m ≤ a ∧ a ≤ m) (k : -n ≤ x ∧ x ≤ n) : -(m * n) ≤ a * x ∧ a * x ≤ m * n := by
  have h1 : a.natAbs ≤ m.natAbs := by omega
  have h2 : x.natAbs ≤ n.natAbs := by omega
  have h3 : (a * x).natAbs ≤ (m * n).natAbs := by rw [Int.natAbs_mul, Int.natAbs_mul]; exact Nat.mul_le_mul h1 h2
  have h4 : 0 ≤ m * n := Int.mul_nonneg (by omega) (by omega)
  omega
theorem dot_any (a b c x y z : Int) (w : World) (ht : Tab w) :
   Calls Tryz.prog 187 #[v3 a b c, v3 x y z] w fun e w' => e = .returned (num2 (mixOk a b c x y z) (dot a b c x y z) 800) ∧ Below w.heap.size w w' := by
  unfold v3
  cases h1 : in3 1048576 a b c
  · rw [show mixOk a b c x y z = false by simp [mixOk, h1]]
    go_enter Tryz.func187, Tryz.ntmps187
    go_wp2_with ((go_at_call 204; refine (weights_any _ 0 a b c _ (by simp) (by simp) (by simp)).mono ?_; rintro e w1 ⟨rfl, rfl⟩))
    go_ret2
    exact ⟨rfl, (by repeat (first | (with_reducible exact Below.refl _ _) | (with_reducible exact Hid.out (by with_reducible assumption)) | (with_reducible apply below_drewN) | (with_reducible apply below_drew) | (with_reducible apply below_alloc) | (refine below_set ?_ ?_ _; (focus (first | (simp; done) | (simp; omega))))))⟩
  · cases h2 : in3 2047 x y z
    · rw [show mixOk a b c x y z = false by simp [mixOk, h2]]
      go_enter Tryz.func187, Tryz.ntmps187
      go_wp2_with (first | (go_at_call 204; refine (weights_any _ 0 a b c _ (by simp) (by simp) (by simp)).mono ?_; rintro e w1 ⟨rfl, rfl⟩) | (go_at_call 205; refine (inputs_any _ 0 x y z _ (by simp) (by simp) (by simp)).mono ?_; rintro e w1 ⟨rfl, rfl⟩))
      go_ret2
      exact ⟨rfl, (by repeat (first | (with_reducible exact Below.refl _ _) | (with_reducible exact Hid.out (by with_reducible assumption)) | (with_reducible apply below_drewN) | (with_reducible apply below_drew) | (with_reducible apply below_alloc) | (refine below_set ?_ ?_ _; (focus (first | (simp; done) | (simp; omega))))))⟩
    · rw [show mixOk a b c x y z = true by simp [mixOk, h1, h2]]
      obtain ⟨a0, a1, b0, b1, c0, c1⟩ := in3_iff.1 h1
      obtain ⟨x0, x1, y0, y1, z0, z1⟩ := in3_iff.1 h2
      obtain ⟨p0, p1⟩ := mul_abs ⟨a0, a1⟩ ⟨x0, x1⟩
      obtain ⟨q0, q1⟩ := mul_abs ⟨b0, b1⟩ ⟨y0, y1⟩
      obtain ⟨r0, r1⟩ := mul_abs ⟨c0, c1⟩ ⟨z0, z1⟩
      go_enter Tryz.func187, Tryz.ntmps187
      go_wp2_with (first | (go_at_call 204; refine (weights_any _ 0 a b c _ (by simp) (by simp) (by simp)).mono ?_; rintro e w1 ⟨rfl, rfl⟩) | (go_at_call 205; refine (inputs_any _ 0 x y z _ (by simp) (by simp) (by simp)).mono ?_; rintro e w1 ⟨rfl, rfl⟩))
      refine wp_loop_rounds 4 ?_
      repeat any_goals (rw [rounds_succ]; go_wp2_with (first | (go_at_call 207; refine (squash_any _ _ (Tab.below (w := w) ht (by repeat (first | (with_reducible exact Below.refl _ _) | (with_reducible exact Hid.out (by with_reducible assumption)) | (with_reducible apply below_drewN) | (with_reducible apply below_drew) | (with_reducible apply below_alloc) | (refine below_set ?_ ?_ _; (focus (first | (simp; done) | (simp; omega)))))))).mono ?_; rintro e w1 ⟨rfl, nd, rfl⟩) | (go_at_call 206; refine (bound_any _ _ _ _).mono ?_; rintro e w1 ⟨rfl, rfl⟩)))
      go_ret2
      exact ⟨rfl, (by repeat (first | (with_reducible exact Below.refl _ _) | (with_reducible exact Hid.out (by with_reducible assumption)) | (with_reducible apply below_drewN) | (with_reducible apply below_drew) | (with_reducible apply below_alloc) | (refine below_set ?_ ?_ _; (focus (first | (simp; done) | (simp; omega))))))⟩
/-- Three whole numbers in a block of the call's own. -/
structure C3 (w : World) (b : Nat) (x y z : Int) : Prop where
  e0 : w.cell? ⟨b, 0, none⟩ = some (.int .i64 x)
  e1 : w.cell? ⟨b, 1, none⟩ = some (.int .i64 y)
  e2 : w.cell? ⟨b, 2, none⟩ = some (.int .i64 z)
  f0 : w.frozen? ⟨b, 0, none⟩ = false
  f1 : w.frozen? ⟨b, 1, none⟩ = false
  f2 : w.frozen? ⟨b, 2, none⟩ = false
def tr3 (ok : Bool) (a b c : Int) : Value := .tuple #[v3 (if ok then a else 0) (if ok then b else 0) (if ok then c else 0), .int .i64 (if ok then 0 else 800)]
attribute [go_sem] tr3
set_option maxHeartbeats 1000000 in
theorem train_yes (a b c x y z bit : Int) (w : World) (ht : Tab w) (hok : mixOk a b c x y z = true) (hb0 : 0 ≤ bit) (hb1 : bit ≤ 1) :
   Calls Tryz.prog 189 #[v3 a b c, v3 x y z, .int .i64 bit] w fun e w' => e = .returned (tr3 true (tw a x (4096 * bit - dot a b c x y z)) (tw b y (4096 * bit - dot a b c x y z)) (tw c z (4096 * bit - dot a b c x y z))) ∧ Below w.heap.size w w' := by
  unfold v3
  obtain ⟨d, hd⟩ : ∃ d, dot a b c x y z = d := ⟨_, rfl⟩
  have hdr := dot_range a b c x y z
  rw [hd] at hdr ⊢
  obtain ⟨d0, d1⟩ := hdr
  have HD := Lib.hid hd
  obtain ⟨⟨a0, a1, b0, b1, c0, c1⟩, x0, x1, y0, y1, z0, z1⟩ := mixOk_iff.1 hok
  obtain ⟨p0, p1⟩ := mul_abs ⟨x0, x1⟩ (x := 4096 * bit - d) (n := 4096) (by omega)
  obtain ⟨q0, q1⟩ := mul_abs ⟨y0, y1⟩ (x := 4096 * bit - d) (n := 4096) (by omega)
  obtain ⟨r0, r1⟩ := mul_abs ⟨z0, z1⟩ (x := 4096 * bit - d) (n := 4096) (by omega)
  have t1 : decide (bit < 0) = false := by simp; omega
  have t2 : decide (1 < bit) = false := by simp; omega
  go_enter Tryz.func189, Tryz.ntmps189
  go_wp2_with fail
  refine (dot_any a b c x y z _ (Tab.below (w := w) ht (by repeat (first | (with_reducible exact Below.refl _ _) | (with_reducible exact Hid.out (by with_reducible assumption)) | (with_reducible apply below_drewN) | (with_reducible apply below_drew) | (with_reducible apply below_alloc) | (refine below_set ?_ ?_ _; (focus (first | (simp; done) | (simp; omega)))))))).mono ?_
  rw [hok, hd]
  rintro e w1 ⟨rfl, hb⟩
  have hq := Lib.hid (below_next (w := w) (by repeat (first | (with_reducible exact Below.refl _ _) | (with_reducible exact Hid.out (by with_reducible assumption)) | (with_reducible apply below_drewN) | (with_reducible apply below_drew) | (with_reducible apply below_alloc) | (refine below_set ?_ ?_ _; (focus (first | (simp; done) | (simp; omega)))))) hb)
  have hz := hb.size
  obtain ⟨hc, hf⟩ := bcell hb
  clear hb hd
  simp only [World.size_alloc] at hz hc hf
  have ea : w1.cell? ⟨w.heap.size, 0, none⟩ = some (.int .i64 a) := by rw [hc _ _ (by omega)]; go_simp
  have eb : w1.cell? ⟨w.heap.size, 1, none⟩ = some (.int .i64 b) := by rw [hc _ _ (by omega)]; go_simp
  have ec : w1.cell? ⟨w.heap.size, 2, none⟩ = some (.int .i64 c) := by rw [hc _ _ (by omega)]; go_simp
  have ex : w1.cell? ⟨w.heap.size + 1, 0, none⟩ = some (.int .i64 x) := by rw [hc _ _ (by omega)]; go_simp
  have ey : w1.cell? ⟨w.heap.size + 1, 1, none⟩ = some (.int .i64 y) := by rw [hc _ _ (by omega)]; go_simp
  have ez : w1.cell? ⟨w.heap.size + 1, 2, none⟩ = some (.int .i64 z) := by rw [hc _ _ (by omega)]; go_simp
  have er : w1.cell? ⟨w.heap.size + 1 + 1, 0, none⟩ = some (.int .i64 0) := by rw [hc _ _ (by omega)]; go_simp
  have es : w1.cell? ⟨w.heap.size + 1 + 1, 1, none⟩ = some (.int .i64 0) := by rw [hc _ _ (by omega)]; go_simp
  have et : w1.cell? ⟨w.heap.size + 1 + 1, 2, none⟩ = some (.int .i64 0) := by rw [hc _ _ (by omega)]; go_simp
  have fa : w1.frozen? ⟨w.heap.size, 0, none⟩ = false := by rw [hf _ _ (by omega)]; go_simp
  have fb : w1.frozen? ⟨w.heap.size, 1, none⟩ = false := by rw [hf _ _ (by omega)]; go_simp
  have fc : w1.frozen? ⟨w.heap.size, 2, none⟩ = false := by rw [hf _ _ (by omega)]; go_simp
  have fr : w1.frozen? ⟨w.heap.size + 1 + 1, 0, none⟩ = false := by rw [hf _ _ (by omega)]; go_simp
  have fs : w1.frozen? ⟨w.heap.size + 1 + 1, 1, none⟩ = false := by rw [hf _ _ (by omega)]; go_simp
  have ft : w1.frozen? ⟨w.heap.size + 1 + 1, 2, none⟩ = false := by rw [hf _ _ (by omega)]; go_simp
  clear hc hf
  go_wp2
  refine wp_loop_rounds 4 ?_
  rw [rounds_succ]
  go_wp2_with ((go_at_call 206; refine (bound_any _ _ _ _).mono ?_; rintro e w1 ⟨rfl, rfl⟩))
  rw [rounds_succ]
  go_wp2_with ((go_at_call 206; refine (bound_any _ _ _ _).mono ?_; rintro e w1 ⟨rfl, rfl⟩))
  rw [rounds_succ]
  go_wp2_with ((go_at_call 206; refine (bound_any _ _ _ _).mono ?_; rintro e w1 ⟨rfl, rfl⟩))
  rw [rounds_succ]
  go_wp2_with ((go_at_call 206; refine (bound_any _ _ _ _).mono ?_; rintro e w1 ⟨rfl, rfl⟩))
  refine bodyPost_ret (v := tr3 true (tw a x (4096 * bit - d)) (tw b y (4096 * bit - d)) (tw c z (4096 * bit - d))) ?_ rfl ⟨rfl, (by repeat (first | (with_reducible exact Below.refl _ _) | (with_reducible exact Hid.out (by with_reducible assumption)) | (with_reducible apply below_drewN) | (with_reducible apply below_drew) | (with_reducible apply below_alloc) | (refine below_set ?_ ?_ _; (focus (first | (simp; done) | (simp; omega))))))⟩
  simp [results, Tryz.results189, go_sem, tw, ea, eb, ec, ex, ey, ez, er, es, et]
theorem train_no (a b c x y z bit : Int) (w : World) (ht : Tab w) (hno : trOk a b c x y z bit = false) :
   Calls Tryz.prog 189 #[v3 a b c, v3 x y z, .int .i64 bit] w fun e w' => e = .returned (tr3 false 0 0 0) ∧ Below w.heap.size w w' := by
  unfold v3
  obtain ⟨d, hd⟩ : ∃ d, dot a b c x y z = d := ⟨_, rfl⟩
  cases hok : mixOk a b c x y z
  · go_enter Tryz.func189, Tryz.ntmps189
    go_wp2_with fail
    refine (dot_any a b c x y z _ (Tab.below (w := w) ht (by repeat (first | (with_reducible exact Below.refl _ _) | (with_reducible exact Hid.out (by with_reducible assumption)) | (with_reducible apply below_drewN) | (with_reducible apply below_drew) | (with_reducible apply below_alloc) | (refine below_set ?_ ?_ _; (focus (first | (simp; done) | (simp; omega)))))))).mono ?_
    rw [hok, hd]
    rintro e w1 ⟨rfl, hb⟩
    have hq := Lib.hid (below_next (w := w) (by repeat (first | (with_reducible exact Below.refl _ _) | (with_reducible exact Hid.out (by with_reducible assumption)) | (with_reducible apply below_drewN) | (with_reducible apply below_drew) | (with_reducible apply below_alloc) | (refine below_set ?_ ?_ _; (focus (first | (simp; done) | (simp; omega)))))) hb)
    have hz := hb.size
    obtain ⟨hc, hf⟩ := bcell hb
    clear hb hd
    simp only [World.size_alloc] at hz hc hf
    have er : w1.cell? ⟨w.heap.size + 1 + 1, 0, none⟩ = some (.int .i64 0) := by rw [hc _ _ (by omega)]; go_simp
    have es : w1.cell? ⟨w.heap.size + 1 + 1, 1, none⟩ = some (.int .i64 0) := by rw [hc _ _ (by omega)]; go_simp
    have et : w1.cell? ⟨w.heap.size + 1 + 1, 2, none⟩ = some (.int .i64 0) := by rw [hc _ _ (by omega)]; go_simp
    have fr : w1.frozen? ⟨w.heap.size + 1 + 1, 0, none⟩ = false := by rw [hf _ _ (by omega)]; go_simp
    have fs : w1.frozen? ⟨w.heap.size + 1 + 1, 1, none⟩ = false := by rw [hf _ _ (by omega)]; go_simp
    have ft : w1.frozen? ⟨w.heap.size + 1 + 1, 2, none⟩ = false := by rw [hf _ _ (by omega)]; go_simp
    clear hc hf
    go_wp2
    refine bodyPost_ret (v := tr3 false 0 0 0) ?_ rfl ⟨rfl, (by repeat (first | (with_reducible exact Below.refl _ _) | (with_reducible exact Hid.out (by with_reducible assumption)) | (with_reducible apply below_drewN) | (with_reducible apply below_drew) | (with_reducible apply below_alloc) | (refine below_set ?_ ?_ _; (focus (first | (simp; done) | (simp; omega))))))⟩
    simp [results, Tryz.results189, go_sem, er, es, et]
  · have hbit : bit < 0 ∨ 1 < bit := by
      have h : (decide (0 ≤ bit) && decide (bit ≤ 1)) = false := by simpa [trOk, hok] using hno
      simp only [Bool.and_eq_false_iff, decide_eq_false_iff_not] at h; omega
    clear hno
    by_cases h0 : bit < 0
    all_goals
      go_enter Tryz.func189, Tryz.ntmps189
      go_wp2_with fail
      refine (dot_any a b c x y z _ (Tab.below (w := w) ht (by repeat (first | (with_reducible exact Below.refl _ _) | (with_reducible exact Hid.out (by with_reducible assumption)) | (with_reducible apply below_drewN) | (with_reducible apply below_drew) | (with_reducible apply below_alloc) | (refine below_set ?_ ?_ _; (focus (first | (simp; done) | (simp; omega)))))))).mono ?_
      rw [hok, hd]
      rintro e w1 ⟨rfl, hb⟩
      have hq := Lib.hid (below_next (w := w) (by repeat (first | (with_reducible exact Below.refl _ _) | (with_reducible exact Hid.out (by with_reducible assumption)) | (with_reducible apply below_drewN) | (with_reducible apply below_drew) | (with_reducible apply below_alloc) | (refine below_set ?_ ?_ _; (focus (first | (simp; done) | (simp; omega)))))) hb)
      have hz := hb.size
      obtain ⟨hc, hf⟩ := bcell hb
      clear hb hd
      simp only [World.size_alloc] at hz hc hf
      have er : w1.cell? ⟨w.heap.size + 1 + 1, 0, none⟩ = some (.int .i64 0) := by rw [hc _ _ (by omega)]; go_simp
      have es : w1.cell? ⟨w.heap.size + 1 + 1, 1, none⟩ = some (.int .i64 0) := by rw [hc _ _ (by omega)]; go_simp
      have et : w1.cell? ⟨w.heap.size + 1 + 1, 2, none⟩ = some (.int .i64 0) := by rw [hc _ _ (by omega)]; go_simp
      have fr : w1.frozen? ⟨w.heap.size + 1 + 1, 0, none⟩ = false := by rw [hf _ _ (by omega)]; go_simp
      have fs : w1.frozen? ⟨w.heap.size + 1 + 1, 1, none⟩ = false := by rw [hf _ _ (by omega)]; go_simp
      have ft : w1.frozen? ⟨w.heap.size + 1 + 1, 2, none⟩ = false := by rw [hf _ _ (by omega)]; go_simp
      clear hc hf
      go_wp2
      refine bodyPost_ret (v := tr3 false 0 0 0) ?_ rfl ⟨rfl, (by repeat (first | (with_reducible exact Below.refl _ _) | (with_reducible exact Hid.out (by with_reducible assumption)) | (with_reducible apply below_drewN) | (with_reducible apply below_drew) | (with_reducible apply below_alloc) | (refine below_set ?_ ?_ _; (focus (first | (simp; done) | (simp; omega))))))⟩
      simp [results, Tryz.results189, go_sem, er, es, et]
theorem train_any (a b c x y z bit : Int) (w : World) (ht : Tab w) :
   Calls Tryz.prog 189 #[v3 a b c, v3 x y z, .int .i64 bit] w fun e w' => e = .returned (tr3 (trOk a b c x y z bit) (tw a x (4096 * bit - dot a b c x y z)) (tw b y (4096 * bit - dot a b c x y z)) (tw c z (4096 * bit - dot a b c x y z))) ∧ Below w.heap.size w w' := by
  cases h : trOk a b c x y z bit
  · exact train_no a b c x y z bit w ht h
  · have h' : mixOk a b c x y z = true ∧ 0 ≤ bit ∧ bit ≤ 1 := by simpa [trOk] using h
    exact train_yes a b c x y z bit w ht h'.1 h'.2.1 h'.2.2
end Go.Proofs.YtiokfaiioealdaaGreatDoor
namespace Go.Proofs.YtiokfaiioealdaaGreatDoor
open Go.RowKit Go.Proofs.YtiokfaiioealdaaGreatDoor.L
set_option linter.unusedVariables false
set_option linter.unusedSimpArgs false
def ints (M : List Int) : List Value := M.map (Value.int .i64)
theorem ints_length (M : List Int) : (ints M).length = M.length := by simp [ints]
theorem ints_one (M : List Int) : ∀ v ∈ ints M, v.oneCell' = true := by intro v hv; obtain ⟨x, -, rfl⟩ := List.mem_map.1 hv; rfl
theorem ints_get {M : List Int} {j : Nat} (h : j < M.length) : (ints M)[j]? = some (.int .i64 (M.getD j 0)) := by simp [ints, List.getD, List.getElem?_eq_getElem h]
/-- A piece of a model's numbers. -/
def cut (M : List Int) (o n : Nat) : List Int := (M.drop o).take n
theorem cut_length {M : List Int} {o n : Nat} (h : o + n ≤ M.length) : (cut M o n).length = n := by simp [cut]; omega
theorem cut_get {M : List Int} {o n j : Nat} (h : j < n) : (cut M o n).getD j 0 = M.getD (o + j) 0 := by
  simp only [cut, List.getD_eq_getElem?_getD, List.getElem?_take_of_lt h, List.getElem?_drop]
theorem range_cut {w : World} {b : Nat} {M : List Int} (hb : w.rangeAt b 0 (ints M)) (o n : Nat) : w.rangeAt b o (ints (cut M o n)) := by
  intro j v hv
  have hj : j < (cut M o n).length := by have := (List.getElem?_eq_some_iff.1 hv).1; simpa [ints] using this
  have hj2 : j < n ∧ o + j < M.length := by simp [cut] at hj; omega
  rw [ints_get hj, cut_get hj2.1] at hv
  obtain rfl := Option.some.inj hv
  have := hb (o + j) _ (ints_get hj2.2)
  rwa [Nat.zero_add] at this
theorem range_new (w : World) (M : List Int) (t : TypeId) : (w.alloc (.cells (ints M).toArray t)).rangeAt w.heap.size 0 (ints M) := by
  intro j v hv
  rw [Nat.zero_add, cell_of_row _ w.heap.size j _ _ _ (heap_alloc_new w _)]
  simpa using hv
theorem range_below {w w1 : World} {b o : Nat} {cs : List Value} (h : w.rangeAt b o cs) (hb : Below w.heap.size w w1) : w1.rangeAt b o cs := fun j v hv => cell_below hb (h j v hv)
theorem range_cell {w : World} {b : Nat} {M : List Int} (hb : w.rangeAt b 0 (ints M)) {i : Nat} (h : i < M.length) : w.cell? ⟨b, i, none⟩ = some (.int .i64 (M.getD i 0)) := by
  have := hb i _ (ints_get h)
  rwa [Nat.zero_add] at this
theorem run_index_ints {P : Program} (t e : TypeId) (n : Nat) (ht : P.underlying t = some (.array n e)) (he : P.underlying e = some (.int .i64)) (hsz : ∀ w, (sizeOf e).run P w = .ok 1 w)
    (xs : List Int) (hx : xs.length = n) (k : IntKind) (i : Nat) (hi : i < n) (w : World) : (Instr.index t (.agg (ints xs).toArray) (.int k (i : Int))).run P w = .ok (.int .i64 (xs.getD i 0)) w := by
  subst hx
  simp [Instr.index, run_underlying ht, asIntOf, hi, hsz, part, isAgg, run_underlying he, ints, List.getD, List.getElem?_eq_getElem hi]
theorem below_setCells {B g : Nat} {w0 : World} (hBg : B ≤ g) : ∀ (vs : List Value) (o : Nat) (W : World), Below B w0 W → Below B w0 (W.setCells g o vs)
  | [], _, _, h => h
  | v :: r, o, W, h => by rw [World.setCells]; exact below_setCells hBg r (o + 1) _ (h.setCell (p := ⟨g, o, none⟩) hBg v)
theorem results_cell1 {P : Program} {fn : Func} {p : Tmp} {ty : TypeId} (h : fn.results = #[.cell p ty]) (tmps : Array Value) (w : World) (g : Nat) (cs : List Value) (d : TypeDesc)
    (hp : tmps.getD p undef = .pointer (some ⟨g, 0, none⟩)) (hc : w.rangeAt g 0 cs) (hu : P.underlying ty = some d) (hd : d.isRow = true) (hi : (P.info? ty).map (·.size) = some cs.length) :
    (results fn tmps).run P w = .ok (.agg cs.toArray) w := by
  have hp' : tmps[p]?.getD undef = .pointer (some ⟨g, 0, none⟩) := by simpa using hp
  simp [results, h, hp', asAddr, run_loadVar_mid w g 0 ty cs d hc hu hd hi]
theorem results_cellt {P : Program} {fn : Func} {p u : Tmp} {ty : TypeId} (h : fn.results = #[.cell p ty, .tmp u]) (tmps : Array Value) (w : World) (g : Nat) (cs : List Value) (d : TypeDesc)
    (hp : tmps.getD p undef = .pointer (some ⟨g, 0, none⟩)) (hc : w.rangeAt g 0 cs) (hu : P.underlying ty = some d) (hd : d.isRow = true) (hi : (P.info? ty).map (·.size) = some cs.length) :
    (results fn tmps).run P w = .ok (.tuple #[.agg cs.toArray, tmps.getD u undef]) w := by
  have hp' : tmps[p]?.getD undef = .pointer (some ⟨g, 0, none⟩) := by simpa using hp
  simp [results, h, hp', asAddr, run_loadVar_mid w g 0 ty cs d hc hu hd hi]
def mMay (M : List Int) : Bool := (M.take 192).all cMay && in3 1048576 (M.getD 192 0) (M.getD 193 0) (M.getD 194 0)
def Good (M : List Int) (n : Nat) : Prop := ∀ j, j < n → cMay (M.getD j 0) = true
theorem mMay_no {M : List Int} (hM : M.length = 195) {i : Nat} (hi : i < 192) (h : cMay (M.getD i 0) = false) : mMay M = false := by
  unfold mMay
  rw [Bool.and_eq_false_iff]
  left
  cases e : (M.take 192).all cMay
  · rfl
  · have hm : M.getD i 0 ∈ M.take 192 := by
      rw [List.mem_iff_getElem?]
      exact ⟨i, by rw [List.getElem?_take_of_lt hi, List.getD_eq_getElem?_getD, List.getElem?_eq_getElem (by omega)]; rfl⟩
    rw [List.all_eq_true.1 e _ hm] at h; cases h
theorem mMay_yes {M : List Int} (hM : M.length = 195) (h : Good M 192) : mMay M = in3 1048576 (M.getD 192 0) (M.getD 193 0) (M.getD 194 0) := by
  unfold mMay
  rw [show (M.take 192).all cMay = true from List.all_eq_true.2 fun x hx => ?_, Bool.true_and]
  obtain ⟨i, hi⟩ := List.mem_iff_getElem?.1 hx
  have hlt : i < 192 := by have := (List.getElem?_eq_some_iff.1 hi).1; simp at this; omega
  rw [List.getElem?_take_of_lt hlt] at hi
  have := h i hlt
  rwa [List.getD_eq_getElem?_getD, hi] at this
theorem mMay_good {M : List Int} (hM : M.length = 195) (h : mMay M = true) : Good M 192 := by
  intro i hi
  cases e : cMay (M.getD i 0)
  · rw [mMay_no hM hi e] at h; cases h
  · rfl
theorem info_model : (Tryz.prog.info? 63).map (·.size) = some 195 := by kernel_rfl
theorem info_row64 : (Tryz.prog.info? 59).map (·.size) = some 64 := by kernel_rfl
theorem size_int1 (w : World) : (sizeOf 3).run Tryz.prog w = .ok 1 w := by kernel_rfl
set_option maxHeartbeats 1000000 in
theorem model_may (M : List Int) (hM : M.length = 195) (w : World) :
   Calls Tryz.prog 185 #[.agg (ints M).toArray] w fun e w' => e = .returned (.bool (mMay M)) ∧ Below w.heap.size w w' := by
  have hno := fun (i : Nat) (hi : i < 192) (h : cMay (M.getD i 0) = false) => mMay_no hM hi h
  have hyes := fun h => mMay_yes hM h
  obtain ⟨B, hB⟩ : ∃ B, mMay M = B := ⟨_, rfl⟩
  rw [hB] at hno hyes ⊢
  have HNO := Lib.hid hno
  have HYES := Lib.hid hyes
  have HM := Lib.hid hM
  clear hno hyes hB
  go_enter Tryz.func185, Tryz.ntmps185
  go_wp2_with fail
  have HR := Lib.hid (range_new w M 63)
  have HB := Lib.hid (below_alloc (Below.refl w.heap.size w) (.cells (ints M).toArray 63))
  generalize w.alloc _ = W at HR HB ⊢
  clear hM
  go_loop [6] (fun v => ∃ i : Nat, v = .int .i64 i ∧ i ≤ 3 ∧ Hid (Good M (64 * i))) (fun v => (3 - intOf v).toNat)
  case atStart => exact ⟨0, rfl, by omega, by show Good M 0; intro j hj; omega⟩
  case round =>
    obtain ⟨i, rfl, hi, HG⟩ := hrel
    by_cases hlt : i < 3
    · have HL : Hid ((cut M (64 * i) 64).length = 64) := cut_length (by rw [HM.out]; omega)
      have HRC := Lib.hid (range_cut HR.out (64 * i) 64)
      have hc64 : (ints (cut M (64 * i) 64)).length = 64 := by rw [ints_length]; exact HL.out
      have HC64 := Lib.hid hc64
      clear hc64
      go_wp2_with (with_reducible refine wpList_load_mid rfl 59 (.tmp 11) rfl w.heap.size (64 * i) ?_ (ints (cut M (64 * i) 64)) (.array 64 3) HRC.out Tryz.underlying59 rfl (by rw [HC64.out]; exact info_row64) ?_)
      go_loop [13] (fun v => ∃ j : Nat, v = .int .i64 j ∧ j ≤ 64 ∧ Hid (Good M (64 * i + j))) (fun v => (64 - intOf v).toNat)
      case atStart => exact ⟨0, rfl, by omega, HG⟩
      case round =>
        obtain ⟨j, rfl, hj, HG2⟩ := hrel
        by_cases hlt2 : j < 64
        · have hix := fun W => run_index_ints (P := Tryz.prog) 59 3 64 Tryz.underlying59 Tryz.underlying3 size_int1 (cut M (64 * i) 64) HL.out .i64 j hlt2 W
          rw [cut_get hlt2] at hix
          obtain ⟨c, hc⟩ : ∃ c, M.getD (64 * i + j) 0 = c := ⟨_, rfl⟩
          rw [hc] at hix
          cases hcm : cMay c
          · have hBf := HNO.out (64 * i + j) (by omega) (by rw [hc]; exact hcm)
            have HC := Lib.hid hcm
            have HBF := Lib.hid hBf
            clear hc hcm hBf
            go_wp2_with (go_at_call 203; refine (count_may c _).mono ?_; rw [HC.out]; rintro e w1 ⟨rfl, rfl⟩)
            go_ret
            exact ⟨ret_bool HBF.out.symm, HB.out⟩
          · have HG3 : Hid (Good M (64 * i + (j + 1))) := by
              intro l hl
              rcases Nat.lt_or_ge l (64 * i + j) with h | h
              · exact HG2.out l h
              · rw [show l = 64 * i + j by omega, hc]; exact hcm
            have HC := Lib.hid hcm
            clear hc hcm
            go_wp2_with (go_at_call 203; refine (count_may c _).mono ?_; rw [HC.out]; rintro e w1 ⟨rfl, rfl⟩)
            go_round
            case rel => exact ⟨j + 1, by go_num, by omega, HG3⟩
            case measure => simp [intOf]; omega
        · obtain rfl : j = 64 := by omega
          have HG3 : Hid (Good M (64 * (i + 1))) := HG2
          go_wp2
          go_round
          case rel => exact ⟨i + 1, by go_num, by omega, HG3⟩
          case measure => simp [intOf]; omega
    · obtain rfl : i = 3 := by omega
      have hBy := Lib.hid (HYES.out HG.out)
      go_wp2_with (go_at_call 204; refine (weights_any _ 192 _ _ _ _ (range_cell HR.out (i := 192) (by rw [HM.out]; omega)) (range_cell HR.out (i := 193) (by rw [HM.out]; omega)) (range_cell HR.out (i := 194) (by rw [HM.out]; omega))).mono ?_; rintro e w1 ⟨rfl, rfl⟩)
      go_ret
      exact ⟨ret_bool hBy.out.symm, HB.out⟩
end Go.Proofs.YtiokfaiioealdaaGreatDoor
namespace Go.Proofs.YtiokfaiioealdaaGreatDoor
open Go.RowKit Go.Proofs.YtiokfaiioealdaaGreatDoor.L
set_option linter.unusedVariables false
set_option linter.unusedSimpArgs false
/-- A model under way: c counters and n weights are laid. -/
def nm (c n : Nat) : List Int := List.replicate c 32768 ++ (List.replicate (192 - c) 0 ++ (List.replicate n 22000 ++ List.replicate (3 - n) 0))
def newM : List Int := nm 192 3
theorem nm_length {c n : Nat} (hc : c ≤ 192) (hn : n ≤ 3) : (nm c n).length = 195 := by simp [nm]; omega
theorem nm_count {c n : Nat} (hc : c < 192) : (nm c n).set c 32768 = nm (c + 1) n := by
  unfold nm
  rw [show 192 - c = (192 - (c + 1)) + 1 by omega, List.replicate_succ (n := 192 - (c + 1)), List.cons_append, List.set_append_right _ _ (by simp), List.length_replicate, Nat.sub_self, List.set_cons_zero, List.replicate_succ', List.append_assoc]
  rfl
theorem nm_weight {c n : Nat} (hc : c ≤ 192) (hn : n < 3) : (nm c n).set (192 + n) 22000 = nm c (n + 1) := by
  unfold nm
  rw [List.set_append_right _ _ (by simp; omega), List.length_replicate, List.set_append_right _ _ (by simp; omega), List.length_replicate, show 192 + n - c - (192 - c) = n by omega, List.set_append_right _ _ (by simp), List.length_replicate, Nat.sub_self,
    show 3 - n = (3 - (n + 1)) + 1 by omega, List.replicate_succ (n := 3 - (n + 1)), List.set_cons_zero, List.replicate_succ' (n := n), List.append_assoc]
  rfl
theorem ints_set (L : List Int) (o : Nat) (x : Int) : (ints L).set o (.int .i64 x) = ints (L.set o x) := by simp [ints, List.map_set]
theorem blk_set {w : World} {g o : Nat} {L : List Int} {t : TypeId} (h : w.heap[g]? = some (.cells (ints L).toArray t (0, 0))) (x : Int) :
    (w.setCell ⟨g, o, none⟩ (.int .i64 x)).heap[g]? = some (.cells (ints (L.set o x)).toArray t (0, 0)) := by
  simp [World.setCell, Array.getElem?_modify, h, ← ints_set]
theorem blk_cell {w : World} {g : Nat} {L : List Int} {t : TypeId} (h : w.heap[g]? = some (.cells (ints L).toArray t (0, 0))) {o : Nat} (ho : o < L.length) : w.cell? ⟨g, o, none⟩ = some (.int .i64 (L.getD o 0)) := by
  rw [cell_of_row w g o _ _ _ h]
  have := ints_get ho
  simpa using this
theorem blk_frozen {w : World} {g : Nat} {cs : Array Value} {t : TypeId} (h : w.heap[g]? = some (.cells cs t (0, 0))) (o : Nat) : w.frozen? ⟨g, o, none⟩ = false := by simp [World.frozen?, h]
theorem blk_range {w : World} {g : Nat} {L : List Int} {t : TypeId} (h : w.heap[g]? = some (.cells (ints L).toArray t (0, 0))) : w.rangeAt g 0 (ints L) := by
  intro j v hv
  rw [Nat.zero_add, cell_of_row w g j _ _ _ h]
  simpa using hv
theorem blk_lt {w : World} {g : Nat} {o : Obj} (h : w.heap[g]? = some o) : g < w.heap.size := by
  rcases Nat.lt_or_ge g w.heap.size with hh | hh
  · exact hh
  · rw [Array.getElem?_eq_none hh] at h; cases h
theorem blk_there {w : World} {g n : Nat} {L : List Int} {t : TypeId} (h : w.heap[g]? = some (.cells (ints L).toArray t (0, 0))) (hn : n ≤ L.length) : w.there g 0 n := fun j hj =>
  ⟨by rw [Nat.zero_add, blk_cell h (by omega)]; rfl, blk_frozen h _⟩
set_option maxRecDepth 100000 in
set_option maxHeartbeats 1000000 in
theorem model_new (w : World) : Calls Tryz.prog 34 #[] w fun e w' => e = .returned (.agg (ints newM).toArray) ∧ Below w.heap.size w w' := by
  go_enter Tryz.func34, Tryz.ntmps34
  go_wp2_with fail
  have hz : Tryz.zeroCells63 = (ints (nm 0 0)).toArray := by kernel_rfl
  rw [hz]
  clear hz
  have HG0 : Hid (((w.alloc (.cells (ints (nm 0 0)).toArray 63)).alloc (.cells (ints (nm 0 0)).toArray 63)).heap[w.heap.size + 1]? = some (.cells (ints (nm 0 0)).toArray 63 (0, 0))) := by
    have := heap_alloc_new (w.alloc (.cells (ints (nm 0 0)).toArray 63)) (.cells (ints (nm 0 0)).toArray 63)
    rwa [World.size_alloc] at this
  have HR0 : Hid (((w.alloc (.cells (ints (nm 0 0)).toArray 63)).alloc (.cells (ints (nm 0 0)).toArray 63)).heap[w.heap.size]? = some (.cells (ints (nm 0 0)).toArray 63 (0, 0))) :=
    (Below.heap_alloc _ _ _ (by simp)).trans (heap_alloc_new w _)
  have HB0 := Lib.hid (below_alloc (below_alloc (Below.refl w.heap.size w) (.cells (ints (nm 0 0)).toArray 63)) (.cells (ints (nm 0 0)).toArray 63))
  generalize ((w.alloc (.cells (ints (nm 0 0)).toArray 63)).alloc (.cells (ints (nm 0 0)).toArray 63)) = W at HG0 HR0 HB0 ⊢
  go_loopw [4] (fun v wr => ∃ i : Nat, v = .int .i64 i ∧ i ≤ 3 ∧ Hid (wr.heap[w.heap.size + 1]? = some (.cells (ints (nm (64 * i) i)).toArray 63 (0, 0))) ∧ Hid (wr.heap[w.heap.size]? = some (.cells (ints (nm 0 0)).toArray 63 (0, 0))) ∧ Hid (Below w.heap.size w wr)) (fun v _ => (3 - intOf v).toNat)
  case atStart => exact ⟨0, rfl, by omega, HG0, HR0, HB0⟩
  case round =>
    obtain ⟨i, rfl, hi, HG, HR, HB⟩ := hrel
    by_cases hlt : i < 3
    · have c1 := blk_cell HG.out (o := 192 + i) (by rw [nm_length (by omega) (by omega)]; omega)
      have f1 := blk_frozen HG.out (192 + i)
      have HG1 : Hid ((wr.setCell ⟨w.heap.size + 1, 192 + i, none⟩ (.int .i64 22000)).heap[w.heap.size + 1]? = some (.cells (ints (nm (64 * i + 0) (i + 1))).toArray 63 (0, 0))) := by
        have := blk_set HG.out (o := 192 + i) 22000
        rw [nm_weight (by omega) (by omega)] at this
        exact this
      have HR1 : Hid ((wr.setCell ⟨w.heap.size + 1, 192 + i, none⟩ (.int .i64 22000)).heap[w.heap.size]? = some (.cells (ints (nm 0 0)).toArray 63 (0, 0))) :=
        (Below.heap_setCell wr _ _ _ (by simp)).trans HR.out
      have HB1 := Lib.hid (below_set (p := ⟨w.heap.size + 1, 192 + i, none⟩) (by simp) HB.out (.int .i64 22000))
      have d1 : decide ((i : Int) < 3) = true := by simp; omega
      clear hi HG HR HB
      go_wp2_with fail
      generalize wr.setCell ⟨w.heap.size + 1, 192 + i, none⟩ (.int .i64 22000) = W1 at HG1 HR1 HB1 ⊢
      clear c1 f1
      go_loopw [10] (fun v wr => ∃ j : Nat, v = .int .i64 j ∧ j ≤ 64 ∧ Hid (wr.heap[w.heap.size + 1]? = some (.cells (ints (nm (64 * i + j) (i + 1))).toArray 63 (0, 0))) ∧ Hid (wr.heap[w.heap.size]? = some (.cells (ints (nm 0 0)).toArray 63 (0, 0))) ∧ Hid (Below w.heap.size w wr)) (fun v _ => (64 - intOf v).toNat)
      case atStart => exact ⟨0, rfl, by omega, HG1, HR1, HB1⟩
      case round =>
        obtain ⟨j, rfl, hj, HG, HR, HB⟩ := hrel
        by_cases hlt2 : j < 64
        · have c1 := blk_cell HG.out (o := i * 64 + j) (by rw [nm_length (by omega) (by omega)]; omega)
          have f1 := blk_frozen HG.out (i * 64 + j)
          obtain ⟨X, hX⟩ : ∃ X, (nm (64 * i + j) (i + 1)).getD (i * 64 + j) 0 = X := ⟨_, rfl⟩
          rw [hX] at c1
          have HG1 : Hid ((wr.setCell ⟨w.heap.size + 1, i * 64 + j, none⟩ (.int .i64 32768)).heap[w.heap.size + 1]? = some (.cells (ints (nm (64 * i + (j + 1)) (i + 1))).toArray 63 (0, 0))) := by
            have := blk_set HG.out (o := i * 64 + j) 32768
            rw [show i * 64 + j = 64 * i + j by omega, nm_count (by omega)] at this
            rw [show i * 64 + j = 64 * i + j by omega]
            exact this
          have HR1 : Hid ((wr.setCell ⟨w.heap.size + 1, i * 64 + j, none⟩ (.int .i64 32768)).heap[w.heap.size]? = some (.cells (ints (nm 0 0)).toArray 63 (0, 0))) :=
            (Below.heap_setCell wr _ _ _ (by simp)).trans HR.out
          have HB1 := Lib.hid (below_set (p := ⟨w.heap.size + 1, i * 64 + j, none⟩) (by simp) HB.out (.int .i64 32768))
          have d1 : decide ((i : Int) < 3) = true := by simp; omega
          have d2 : decide ((j : Int) < 64) = true := by simp; omega
          clear hX HG HR HB hj
          go_wp2_with fail
          have bi : (i : Int) < 3 := by omega
          have bj : (j : Int) < 64 := by omega
          have bi0 : (0 : Int) ≤ i := by omega
          have bj0 : (0 : Int) ≤ j := by omega
          go_region_held3 (fun w' => True) (exact True.intro) (first | (go_at_call 72; refine (count_new _).mono ?_; rintro e w1 ⟨rfl, rfl⟩))
          all_goals
            go_wp2
            go_roundw
            case rel => exact ⟨j + 1, by go_num, by omega, HG1, HR1, Lib.hid (below_drew HB1.out)⟩
            case measure => simp [intOf]; omega
        · obtain rfl : j = 64 := by omega
          have HG2 : Hid (wr.heap[w.heap.size + 1]? = some (.cells (ints (nm (64 * (i + 1)) (i + 1))).toArray 63 (0, 0))) := HG
          clear hj HG
          go_wp2
          go_roundw
          case rel => exact ⟨i + 1, by go_num, by omega, HG2, HR, HB⟩
          case measure => simp [intOf]; omega
    · obtain rfl : i = 3 := by omega
      clear hi hlt
      have HG3 : Hid (wr.heap[w.heap.size + 1]? = some (.cells (ints newM).toArray 63 (0, 0))) := HG
      have hsz : (Tryz.prog.info? 63).map (·.size) = some (ints newM).length := by rw [ints_length]; exact info_model
      have hszA : (Tryz.prog.info? 63).map (·.size) = some (ints newM).toArray.size := hsz
      have hth : wr.there w.heap.size 0 (ints newM).toArray.size := blk_there HR.out (by simp [ints_length, newM, nm_length])
      have HSZ := Lib.hid hsz
      have HSZA := Lib.hid hszA
      have HTH := Lib.hid hth
      clear HG hsz hszA hth
      go_wp2_with (first
        | (with_reducible refine wpList_load_mid rfl 63 (.tmp 1) rfl (w.heap.size + 1) 0 ?_ (ints newM) _ (blk_range HG3.out) Tryz.underlying63 rfl HSZ.out ?_)
        | (with_reducible refine wpList_store_mid rfl 63 (.tmp 0) (.tmp 21) rfl w.heap.size 0 (ints newM).toArray ?_ ?_ HTH.out HSZA.out (all_oneCell_toArray (ints_one _)) ?_))
      all_goals first | rfl | skip
      have hrs := World.rangeAt_setCells_same wr w.heap.size 0 (ints newM) HTH.out
      refine bodyPost_ret (results_cell1 (P := Tryz.prog) Tryz.results34 _ _ w.heap.size (ints newM) _ ?_ hrs Tryz.underlying63 rfl HSZ.out) ?_ ⟨rfl, below_setCells (Nat.le_refl _) _ _ _ HB.out⟩
      all_goals first | rfl | go_simp
end Go.Proofs.YtiokfaiioealdaaGreatDoor
namespace Go.Proofs.YtiokfaiioealdaaGreatDoor
open Go.RowKit Go.Proofs.YtiokfaiioealdaaGreatDoor.L
set_option linter.unusedVariables false
set_option linter.unusedSimpArgs false
def in64 (x : Int) : Bool := decide (0 ≤ x) && decide (x ≤ 63)
def xOk (x y z : Int) : Bool := in64 x && (in64 y && in64 z)
theorem xOk_iff {x y z : Int} : xOk x y z = true ↔ (0 ≤ x ∧ x ≤ 63) ∧ (0 ≤ y ∧ y ≤ 63) ∧ (0 ≤ z ∧ z ≤ 63) := by simp [xOk, in64]
theorem xOk_no {x y z : Int} (h : (x < 0 ∨ 63 < x) ∨ (y < 0 ∨ 63 < y) ∨ (z < 0 ∨ 63 < z)) : xOk x y z = false := by
  cases e : xOk x y z
  · rfl
  · have := xOk_iff.1 e; omega
theorem there_any (b o : Nat) (x y z : Int) (w : World) (h0 : w.cell? ⟨b, o, none⟩ = some (.int .i64 x)) (h1 : w.cell? ⟨b, o+1, none⟩ = some (.int .i64 y)) (h2 : w.cell? ⟨b, o+2, none⟩ = some (.int .i64 z)) :
   Calls Tryz.prog 186 #[.pointer (some ⟨b, o, none⟩)] w fun e w' => e = .returned (.bool (xOk x y z)) ∧ w = w' := by
  go_enter Tryz.func186, Tryz.ntmps186
  go_wp2
  go_rounds 4
  all_goals (go_ret; exact ⟨ret_bool (by symm; first | exact xOk_no (by omega) | exact xOk_iff.2 (by omega)), rfl⟩)
theorem counter_0 (b x : Nat) (y z : Int) (w : World) (hx : x < 64) : Calls Tryz.prog 190 #[.agg #[.pointer (some ⟨b, 0, none⟩), .int .i64 x, .int .i64 y, .int .i64 z], .int .i64 0] w fun e w' => e = .returned (.pointer (some ⟨b, x, none⟩)) ∧ Below w.heap.size w w' := by
  have h0 : (0 : Int) ≤ x := by omega
  have h1 : (x : Int) < 64 := by omega
  go_enter Tryz.func190, Tryz.ntmps190
  go_wp2
  go_quiet (fail)
  go_wp2
  go_ret
  exact ⟨rfl, below_drewN (below_alloc (Below.refl _ _) _) _⟩
theorem counter_1 (b y : Nat) (x z : Int) (w : World) (hx : y < 64) : Calls Tryz.prog 190 #[.agg #[.pointer (some ⟨b, 0, none⟩), .int .i64 x, .int .i64 y, .int .i64 z], .int .i64 1] w fun e w' => e = .returned (.pointer (some ⟨b, 64 + y, none⟩)) ∧ Below w.heap.size w w' := by
  have h0 : (0 : Int) ≤ y := by omega
  have h1 : (y : Int) < 64 := by omega
  go_enter Tryz.func190, Tryz.ntmps190
  go_wp2
  go_quiet (fail)
  go_wp2
  go_ret
  exact ⟨rfl, below_drewN (below_alloc (Below.refl _ _) _) _⟩
theorem counter_2 (b z : Nat) (x y : Int) (w : World) (hx : z < 64) : Calls Tryz.prog 190 #[.agg #[.pointer (some ⟨b, 0, none⟩), .int .i64 x, .int .i64 y, .int .i64 z], .int .i64 2] w fun e w' => e = .returned (.pointer (some ⟨b, 128 + z, none⟩)) ∧ Below w.heap.size w w' := by
  have h0 : (0 : Int) ≤ z := by omega
  have h1 : (z : Int) < 64 := by omega
  go_enter Tryz.func190, Tryz.ntmps190
  go_wp2
  go_quiet (fail)
  go_wp2
  go_ret
  exact ⟨rfl, below_drewN (below_alloc (Below.refl _ _) _) _⟩
/-- What a counter of a model says. -/
def mi (M : List Int) (o : Nat) : Int := st (cCh (M.getD o 0))
theorem mi_range (M : List Int) (o : Nat) : -2047 ≤ mi M o ∧ mi M o ≤ 2047 := st_range _
def seenV (b x y z : Nat) : List Value := [.pointer (some ⟨b, 0, none⟩), .int .i64 x, .int .i64 y, .int .i64 z]
theorem seen_cells {w : World} {g b x y z : Nat} (h : w.rangeAt g 0 (seenV b x y z)) : w.cell? ⟨g, 0, none⟩ = some (.pointer (some ⟨b, 0, none⟩)) ∧ w.cell? ⟨g, 1, none⟩ = some (.int .i64 x) ∧ w.cell? ⟨g, 2, none⟩ = some (.int .i64 y) ∧ w.cell? ⟨g, 3, none⟩ = some (.int .i64 z) :=
  ⟨h 0 _ rfl, h 1 _ rfl, h 2 _ rfl, h 3 _ rfl⟩
theorem seen_new (w : World) (b x y z : Nat) (t : TypeId) : (w.alloc (.cells (seenV b x y z).toArray t)).rangeAt w.heap.size 0 (seenV b x y z) := by
  intro j v hv
  rw [Nat.zero_add, cell_of_row _ w.heap.size j _ _ _ (heap_alloc_new w _)]
  simpa using hv
theorem C3.below {W w1 : World} {b : Nat} {x y z : Int} (h : C3 W b x y z) (hb : Below W.heap.size W w1) : C3 w1 b x y z := by
  obtain ⟨a, b', c, d, e, f, -⟩ := own3 hb h.e0 h.e1 h.e2 h.f0 h.f1 h.f2
  exact ⟨a, b', c, d, e, f⟩
theorem C3.all {W : World} {b : Nat} {x y z : Int} (h : C3 W b x y z) : W.cell? ⟨b, 0, none⟩ = some (.int .i64 x) ∧ W.cell? ⟨b, 1, none⟩ = some (.int .i64 y) ∧ W.cell? ⟨b, 2, none⟩ = some (.int .i64 z) ∧ W.frozen? ⟨b, 0, none⟩ = false ∧ W.frozen? ⟨b, 1, none⟩ = false ∧ W.frozen? ⟨b, 2, none⟩ = false ∧ b < W.heap.size :=
  ⟨h.e0, h.e1, h.e2, h.f0, h.f1, h.f2, World.block_lt_of_cell? W _ h.e0⟩
theorem st_ok (c : Int) (h : cMay c = true) : stOk (cCh c) = true := by
  obtain ⟨h0, h1⟩ := cMay_iff.1 h
  obtain ⟨a, b⟩ := cCh_range h1
  simp [stOk]; omega
/-- The chance of a counter that may be, stretched: what the two calls hand on. -/
theorem count_p_yes (c : Int) (w : World) (h : cMay c = true) : Calls Tryz.prog 208 #[.int .i64 c] w fun e w' => e = .returned (.tuple #[.int .i64 (cCh c), .int .i64 0]) ∧ w = w' := by
  refine (count_p c w).mono fun e w' he => ?_
  rw [h] at he; exact he
theorem stretch_ok (c : Int) (w : World) (ht : Tab w) (h : cMay c = true) : Calls Tryz.prog 209 #[.int .i64 (cCh c)] w fun e w' => e = .returned (.tuple #[.int .i64 (st (cCh c)), .int .i64 0]) ∧ Below w.heap.size w w' := by
  refine (stretch_any _ w ht).mono fun e w' he => ?_
  rw [st_ok c h] at he; exact he
theorem below_then {B : Nat} {w w1 w2 : World} (h : Below B w w1) (hB : B ≤ w.heap.size) (k : Below w1.heap.size w1 w2) : Below B w w2 :=
  h.trans ⟨k.os, k.tape, k.output, k.size, fun i hi => k.block i (by have := h.size; omega)⟩
theorem below_less {B B' : Nat} {w w1 : World} (h : Below B w w1) (hB : B' ≤ B) : Below B' w w1 := ⟨h.os, h.tape, h.output, h.size, fun i hi => h.block i (by omega)⟩
theorem range_blw {B : Nat} {w w1 : World} {g o : Nat} {cs : List Value} (h : w.rangeAt g o cs) (hb : Below B w w1) (hg : g < B) : w1.rangeAt g o cs := fun j v hv => (hb.cell (p := ⟨g, o + j, none⟩) hg).trans (h j v hv)
theorem C3.blw {B : Nat} {w w1 : World} {b : Nat} {x y z : Int} (h : C3 w b x y z) (hb : Below B w w1) (hg : b < B) : C3 w1 b x y z :=
  ⟨(hb.cell (p := ⟨b, 0, none⟩) hg).trans h.e0, (hb.cell (p := ⟨b, 1, none⟩) hg).trans h.e1, (hb.cell (p := ⟨b, 2, none⟩) hg).trans h.e2, (hb.frozen (p := ⟨b, 0, none⟩) hg).trans h.f0, (hb.frozen (p := ⟨b, 1, none⟩) hg).trans h.f1, (hb.frozen (p := ⟨b, 2, none⟩) hg).trans h.f2⟩
theorem C3.new (w : World) (x y z : Int) (t : TypeId) : C3 (w.alloc (.cells #[.int .i64 x, .int .i64 y, .int .i64 z] t)) w.heap.size x y z := by constructor <;> go_simp
set_option maxHeartbeats 2000000 in
theorem model_inputs (b x y z : Nat) (M : List Int) (w : World) (ht : Tab w) (hM : M.length = 195) (hg : Good M 192) (hr : w.rangeAt b 0 (ints M)) (hx : x < 64) (hy : y < 64) (hz : z < 64) :
   Calls Tryz.prog 188 #[.agg (seenV b x y z).toArray] w fun e w' => e = .returned (v3 (mi M x) (mi M (64 + y)) (mi M (128 + z))) ∧ Below w.heap.size w w' := by
  have g0 := Lib.hid (hg x (by omega))
  have g1 := Lib.hid (hg (64 + y) (by omega))
  have g2 := Lib.hid (hg (128 + z) (by omega))
  obtain ⟨A, hA⟩ : ∃ A, mi M x = A := ⟨_, rfl⟩
  obtain ⟨B, hB⟩ : ∃ A, mi M (64 + y) = A := ⟨_, rfl⟩
  obtain ⟨C, hC⟩ : ∃ A, mi M (128 + z) = A := ⟨_, rfl⟩
  rw [hA, hB, hC]
  have HA := Lib.hid hA
  have HB := Lib.hid hB
  have HC := Lib.hid hC
  have HR := Lib.hid hr
  have hHM := Lib.hid hM
  clear hA hB hC hr hg hM
  have htt := ht
  go_enter Tryz.func188, Tryz.ntmps188
  go_wp2_with fail
  have HS0 := Lib.hid (range_blw (range_blw (seen_new w b x y z 214) (below_alloc (Below.refl _ _) (.cells #[.int .i64 0, .int .i64 0, .int .i64 0] 61)) (by simp)) (below_alloc (Below.refl _ _) (.cells #[.int .i64 0, .int .i64 0, .int .i64 0] 61)) (by simp; omega))
  have HO0 := Lib.hid ((C3.new (w.alloc (.cells (seenV b x y z).toArray 214)) 0 0 0 61).below (below_alloc (Below.refl _ _) (.cells #[.int .i64 0, .int .i64 0, .int .i64 0] 61)))
  have HL0 := Lib.hid (C3.new ((w.alloc (.cells (seenV b x y z).toArray 214)).alloc (.cells #[.int .i64 0, .int .i64 0, .int .i64 0] 61)) 0 0 0 61)
  have HB0 := Lib.hid (below_alloc (below_alloc (below_alloc (Below.refl w.heap.size w) (.cells (seenV b x y z).toArray 214)) (.cells #[.int .i64 0, .int .i64 0, .int .i64 0] 61)) (.cells #[.int .i64 0, .int .i64 0, .int .i64 0] 61))
  have hsz : (((w.alloc (.cells (seenV b x y z).toArray 214)).alloc (.cells #[.int .i64 0, .int .i64 0, .int .i64 0] 61)).alloc (.cells #[.int .i64 0, .int .i64 0, .int .i64 0] 61)).heap.size = w.heap.size + 3 := by simp
  generalize ((w.alloc (.cells (seenV b x y z).toArray 214)).alloc (.cells #[.int .i64 0, .int .i64 0, .int .i64 0] 61)).alloc (.cells #[.int .i64 0, .int .i64 0, .int .i64 0] 61) = W0 at HS0 HO0 HL0 HB0 hsz ⊢
  simp only [World.size_alloc] at HO0 HL0
  have hge : w.heap.size + 1 + 1 ≤ W0.heap.size := by omega
  have HSZ := Lib.hid hsz
  have HC0 := Lib.hid (Below.refl (w.heap.size + 1 + 1) W0)
  clear hsz ht
  obtain ⟨l0, l1, l2, m0, m1, m2, mlt⟩ := HL0.out.all
  clear HL0
  refine wp_loop_rounds 4 ?_
  rw [rounds_succ]
  obtain ⟨s0, s1, s2, s3⟩ := seen_cells (range_blw HS0.out HC0.out (by omega))
  go_wp2_with fail
  refine (counter_0 b x (y : Int) (z : Int) _ hx).mono ?_
  rintro e wa0 ⟨rfl, hb⟩
  obtain ⟨ep, eq, es, fp, fq, fs, lp⟩ := own3 hb (b := w.heap.size + 1 + 1) (x := .int .i64 (0)) (y := .int .i64 (0)) (z := .int .i64 (0)) (by go_simp) (by go_simp) (by go_simp) (by go_simp) (by go_simp) (by go_simp)
  have HCa0 : Hid (Below (w.heap.size + 1 + 1) W0 wa0) := Lib.hid (below_then HC0.out hge hb)
  clear s0 s1 s2 s3 hb l0 l1 l2 m0 m1 m2 mlt
  have ca := range_cell (range_below HR.out (HB0.out.trans (below_less HCa0.out (by omega)))) (i := x) (by rw [hHM.out]; omega)
  go_wp2_with (go_at_call 208; refine (count_p_yes _ _ g0.out).mono ?_; rintro e w9 ⟨rfl, rfl⟩)
  clear ca
  refine (stretch_ok _ _ (htt.below (HB0.out.trans (below_less HCa0.out (by omega)))) g0.out).mono ?_
  rintro e wb0 ⟨rfl, hb⟩
  rw [show st (cCh (M.getD x 0)) = A from HA.out]
  have HCb0 : Hid (Below (w.heap.size + 1 + 1) W0 wb0) := Lib.hid (below_then HCa0.out hge hb)
  obtain ⟨l0, l1, l2, m0, m1, m2, mlt⟩ := own3 hb ep eq es fp fq fs
  clear hb ep eq es fp fq fs lp
  go_wp2_with fail
  rw [rounds_succ]
  obtain ⟨s0, s1, s2, s3⟩ := seen_cells (range_blw HS0.out HCb0.out (by omega))
  go_wp2_with fail
  refine (counter_1 b y (x : Int) (z : Int) _ hy).mono ?_
  rintro e wa1 ⟨rfl, hb⟩
  obtain ⟨ep, eq, es, fp, fq, fs, lp⟩ := own3 hb (b := w.heap.size + 1 + 1) (x := .int .i64 (A)) (y := .int .i64 (0)) (z := .int .i64 (0)) (by go_simp) (by go_simp) (by go_simp) (by go_simp) (by go_simp) (by go_simp)
  have HCa1 : Hid (Below (w.heap.size + 1 + 1) W0 wa1) := Lib.hid (below_then (below_set (p := ⟨w.heap.size + 1 + 1, 0, none⟩) (Nat.le_refl _) HCb0.out (.int .i64 A)) hge hb)
  clear s0 s1 s2 s3 hb l0 l1 l2 m0 m1 m2 mlt
  have ca := range_cell (range_below HR.out (HB0.out.trans (below_less HCa1.out (by omega)))) (i := (64 + y)) (by rw [hHM.out]; omega)
  go_wp2_with (go_at_call 208; refine (count_p_yes _ _ g1.out).mono ?_; rintro e w9 ⟨rfl, rfl⟩)
  clear ca
  refine (stretch_ok _ _ (htt.below (HB0.out.trans (below_less HCa1.out (by omega)))) g1.out).mono ?_
  rintro e wb1 ⟨rfl, hb⟩
  rw [show st (cCh (M.getD (64 + y) 0)) = B from HB.out]
  have HCb1 : Hid (Below (w.heap.size + 1 + 1) W0 wb1) := Lib.hid (below_then HCa1.out hge hb)
  obtain ⟨l0, l1, l2, m0, m1, m2, mlt⟩ := own3 hb ep eq es fp fq fs
  clear hb ep eq es fp fq fs lp
  go_wp2_with fail
  rw [rounds_succ]
  obtain ⟨s0, s1, s2, s3⟩ := seen_cells (range_blw HS0.out HCb1.out (by omega))
  go_wp2_with fail
  refine (counter_2 b z (x : Int) (y : Int) _ hz).mono ?_
  rintro e wa2 ⟨rfl, hb⟩
  obtain ⟨ep, eq, es, fp, fq, fs, lp⟩ := own3 hb (b := w.heap.size + 1 + 1) (x := .int .i64 (A)) (y := .int .i64 (B)) (z := .int .i64 (0)) (by go_simp) (by go_simp) (by go_simp) (by go_simp) (by go_simp) (by go_simp)
  have HCa2 : Hid (Below (w.heap.size + 1 + 1) W0 wa2) := Lib.hid (below_then (below_set (p := ⟨w.heap.size + 1 + 1, 1, none⟩) (Nat.le_refl _) HCb1.out (.int .i64 B)) hge hb)
  clear s0 s1 s2 s3 hb l0 l1 l2 m0 m1 m2 mlt
  have ca := range_cell (range_below HR.out (HB0.out.trans (below_less HCa2.out (by omega)))) (i := (128 + z)) (by rw [hHM.out]; omega)
  go_wp2_with (go_at_call 208; refine (count_p_yes _ _ g2.out).mono ?_; rintro e w9 ⟨rfl, rfl⟩)
  clear ca
  refine (stretch_ok _ _ (htt.below (HB0.out.trans (below_less HCa2.out (by omega)))) g2.out).mono ?_
  rintro e wb2 ⟨rfl, hb⟩
  rw [show st (cCh (M.getD (128 + z) 0)) = C from HC.out]
  have HCb2 : Hid (Below (w.heap.size + 1 + 1) W0 wb2) := Lib.hid (below_then HCa2.out hge hb)
  obtain ⟨l0, l1, l2, m0, m1, m2, mlt⟩ := own3 hb ep eq es fp fq fs
  clear hb ep eq es fp fq fs lp
  go_wp2_with fail
  rw [rounds_succ]
  obtain ⟨o0, o1, o2, n0, n1, n2, nlt⟩ := (HO0.out.blw HCb2.out (by omega)).all
  go_wp2_with fail
  refine bodyPost_ret (v := v3 A B C) ?_ rfl ⟨rfl, ?_⟩
  · simp [results, Tryz.results188, go_sem, o0, o1, o2, n0, n1, n2, l0, l1, l2, m0, m1, m2]
  · refine below_set (by first | (simp; done) | (simp; omega)) (below_set (by first | (simp; done) | (simp; omega)) (below_set (by first | (simp; done) | (simp; omega)) (below_set (by first | (simp; done) | (simp; omega)) ?_ _) _) _) _
    exact HB0.out.trans (below_less HCb2.out (by omega))
end Go.Proofs.YtiokfaiioealdaaGreatDoor
namespace Go.Proofs.YtiokfaiioealdaaGreatDoor
open Go.RowKit Go.Proofs.YtiokfaiioealdaaGreatDoor.L
set_option linter.unusedVariables false
set_option linter.unusedSimpArgs false
def mdot (M : List Int) (x y z : Int) : Int := dot (M.getD 192 0) (M.getD 193 0) (M.getD 194 0) (mi M x.toNat) (mi M (64 + y.toNat)) (mi M (128 + z.toNat))
theorem model_mix {M : List Int} (hM : M.length = 195) (h : mMay M = true) (a b c : Nat) : mixOk (M.getD 192 0) (M.getD 193 0) (M.getD 194 0) (mi M a) (mi M b) (mi M c) = true := by
  have h1 : in3 1048576 (M.getD 192 0) (M.getD 193 0) (M.getD 194 0) = true := by rw [← mMay_yes hM (mMay_good hM h)]; exact h
  have h2 := mi_range M a; have h3 := mi_range M b; have h4 := mi_range M c
  exact mixOk_iff.2 ⟨in3_iff.1 h1, by omega⟩
theorem dot_ok (a b c x y z : Int) (w : World) (ht : Tab w) (h : mixOk a b c x y z = true) :
   Calls Tryz.prog 187 #[v3 a b c, v3 x y z] w fun e w' => e = .returned (.tuple #[.int .i64 (dot a b c x y z), .int .i64 0]) ∧ Below w.heap.size w w' := by
  refine (dot_any a b c x y z w ht).mono fun e w' he => ?_
  rw [h] at he; exact he
set_option maxHeartbeats 2000000 in
theorem model_p_no (M : List Int) (hM : M.length = 195) (x y z : Int) (w : World) (ht : Tab w) (h : (mMay M && xOk x y z) = false) :
   Calls Tryz.prog 159 #[.agg (ints M).toArray, v3 x y z] w fun e w' => e = .returned (.tuple #[.int .i64 0, .int .i64 900]) ∧ Below w.heap.size w w' := by
  have HM := Lib.hid hM
  have hsz : (Tryz.prog.info? 63).map (·.size) = some (ints M).length := by rw [ints_length, hM]; exact info_model
  have HSZ := Lib.hid hsz
  clear hM hsz
  unfold v3
  go_enter Tryz.func159, Tryz.ntmps159
  cases hm : mMay M
  · have HMM := Lib.hid hm
    clear hm h
    go_wp2_with (with_reducible refine wpList_load_mid rfl 63 (.tmp 2) rfl w.heap.size 0 ?_ (ints M) _ (range_blw (range_new w M 63) (below_alloc (Below.refl _ _) _) (by simp)) Tryz.underlying63 rfl HSZ.out ?_)
    all_goals first | (show _ = Value.pointer _; rfl) | skip
    refine (model_may M HM.out _).mono ?_
    rw [HMM.out]
    rintro e w1 ⟨rfl, hb⟩
    have hq := Lib.hid (below_next (w := w) (by repeat (first | (with_reducible exact Below.refl _ _) | (with_reducible exact Hid.out (by with_reducible assumption)) | (with_reducible apply below_drewN) | (with_reducible apply below_drew) | (with_reducible apply below_alloc) | (refine below_set ?_ ?_ _; (focus (first | (simp; done) | (simp; omega)))))) hb)
    clear hb
    go_wp2
    go_ret2
    exact ⟨rfl, hq.out⟩
  · have hx : xOk x y z = false := by simpa [hm] using h
    have HMM := Lib.hid hm
    have HX := Lib.hid hx
    clear hm h hx
    go_wp2_with (with_reducible refine wpList_load_mid rfl 63 (.tmp 2) rfl w.heap.size 0 ?_ (ints M) _ (range_blw (range_new w M 63) (below_alloc (Below.refl _ _) _) (by simp)) Tryz.underlying63 rfl HSZ.out ?_)
    all_goals first | (show _ = Value.pointer _; rfl) | skip
    refine (model_may M HM.out _).mono ?_
    rw [HMM.out]
    rintro e w1 ⟨rfl, hb⟩
    have hq := Lib.hid (below_next (w := w) (by repeat (first | (with_reducible exact Below.refl _ _) | (with_reducible exact Hid.out (by with_reducible assumption)) | (with_reducible apply below_drewN) | (with_reducible apply below_drew) | (with_reducible apply below_alloc) | (refine below_set ?_ ?_ _; (focus (first | (simp; done) | (simp; omega)))))) hb)
    obtain ⟨ep, eq, er, fp, fq, fr, lp⟩ := own3 hb (b := w.heap.size + 1) (x := .int .i64 (x)) (y := .int .i64 (y)) (z := .int .i64 (z)) (by go_simp) (by go_simp) (by go_simp) (by go_simp) (by go_simp) (by go_simp)
    clear hb
    go_wp2_with (go_at_call 186; refine (there_any _ 0 x y z _ ep eq er).mono ?_; rw [HX.out]; rintro e w2 ⟨rfl, rfl⟩)
    go_ret2
    exact ⟨rfl, hq.out⟩
set_option maxHeartbeats 2000000 in
theorem model_p_yes (M : List Int) (hM : M.length = 195) (x y z : Nat) (w : World) (ht : Tab w) (hm : mMay M = true) (hx : x < 64) (hy : y < 64) (hz : z < 64) :
   Calls Tryz.prog 159 #[.agg (ints M).toArray, v3 x y z] w fun e w' => e = .returned (.tuple #[.int .i64 (dot (M.getD 192 0) (M.getD 193 0) (M.getD 194 0) (mi M x) (mi M (64 + y)) (mi M (128 + z))), .int .i64 0]) ∧ Below w.heap.size w w' := by
  have HM := Lib.hid hM
  have hsz : (Tryz.prog.info? 63).map (·.size) = some (ints M).length := by rw [ints_length, hM]; exact info_model
  have HSZ := Lib.hid hsz
  have HX := Lib.hid (show xOk x y z = true from xOk_iff.2 (by omega))
  have HMM := Lib.hid hm
  have HMX := Lib.hid (model_mix hM hm x (64 + y) (128 + z))
  have HG := Lib.hid (mMay_good hM hm)
  obtain ⟨A, hA⟩ : ∃ A, mi M x = A := ⟨_, rfl⟩
  obtain ⟨B, hB⟩ : ∃ A, mi M (64 + y) = A := ⟨_, rfl⟩
  obtain ⟨C, hC⟩ : ∃ A, mi M (128 + z) = A := ⟨_, rfl⟩
  obtain ⟨a, ha⟩ : ∃ A, M.getD 192 0 = A := ⟨_, rfl⟩
  obtain ⟨b, hb'⟩ : ∃ A, M.getD 193 0 = A := ⟨_, rfl⟩
  obtain ⟨c, hc⟩ : ∃ A, M.getD 194 0 = A := ⟨_, rfl⟩
  rw [hA, hB, hC, ha, hb', hc] at HMX ⊢
  have HABC := Lib.hid (show v3 (mi M x) (mi M (64 + y)) (mi M (128 + z)) = v3 A B C by rw [hA, hB, hC])
  have Ha := Lib.hid ha
  have Hb := Lib.hid hb'
  have Hc := Lib.hid hc
  clear hM hsz hm hA hB hC ha hb' hc
  unfold v3
  go_enter Tryz.func159, Tryz.ntmps159
  go_wp2_with (with_reducible refine wpList_load_mid rfl 63 (.tmp 2) rfl w.heap.size 0 ?_ (ints M) _ (range_blw (range_new w M 63) (below_alloc (Below.refl _ _) _) (by simp)) Tryz.underlying63 rfl HSZ.out ?_)
  all_goals first | (show _ = Value.pointer _; rfl) | skip
  refine (model_may M HM.out _).mono ?_
  rw [HMM.out]
  rintro e w1 ⟨rfl, hb⟩
  have hq := Lib.hid (below_next (w := w) (by repeat (first | (with_reducible exact Below.refl _ _) | (with_reducible exact Hid.out (by with_reducible assumption)) | (with_reducible apply below_drewN) | (with_reducible apply below_drew) | (with_reducible apply below_alloc) | (refine below_set ?_ ?_ _; (focus (first | (simp; done) | (simp; omega)))))) hb)
  have HR1 := Lib.hid (range_below (range_below (range_new w M 63) (below_alloc (Below.refl _ _) (.cells #[.int .i64 (x : Int), .int .i64 (y : Int), .int .i64 (z : Int)] 61))) hb)
  obtain ⟨ep, eq, er, fp, fq, fr, lp⟩ := own3 hb (b := w.heap.size + 1) (x := .int .i64 (x)) (y := .int .i64 (y)) (z := .int .i64 (z)) (by go_simp) (by go_simp) (by go_simp) (by go_simp) (by go_simp) (by go_simp)
  have m0 := range_cell HR1.out (i := 192) (by rw [HM.out]; omega)
  have m1 := range_cell HR1.out (i := 193) (by rw [HM.out]; omega)
  have m2 := range_cell HR1.out (i := 194) (by rw [HM.out]; omega)
  rw [Ha.out] at m0
  rw [Hb.out] at m1
  rw [Hc.out] at m2
  have htw := ht.below hq.out
  clear hb
  go_wp2_with (go_at_call 186; refine (there_any _ 0 x y z _ ep eq er).mono ?_; rw [HX.out]; rintro e w2 ⟨rfl, rfl⟩)
  go_region_held3 (fun w' => w'.cell? ⟨w.heap.size, 192, none⟩ = some (.int .i64 a) ∧ w'.cell? ⟨w.heap.size, 193, none⟩ = some (.int .i64 b) ∧ w'.cell? ⟨w.heap.size, 194, none⟩ = some (.int .i64 c) ∧ w'.cell? ⟨w.heap.size + 1, 0, none⟩ = some (.int .i64 x) ∧ w'.cell? ⟨w.heap.size + 1, 1, none⟩ = some (.int .i64 y) ∧ w'.cell? ⟨w.heap.size + 1, 2, none⟩ = some (.int .i64 z))
    (first | go_keep | (refine ⟨?_, ?_, ?_, ?_, ?_, ?_⟩ <;> (first | go_keep | (refine cell_below hb9 ?_; go_keep) | (refine cell_below hb8 ?_; go_keep))))
    (first | (go_at_call 188; refine (model_inputs w.heap.size x y z M _ (by exact ⟨htw.out⟩) HM.out HG.out (by exact HR1.out) hx hy hz).mono ?_; rw [HABC.out]; rintro e w8 ⟨rfl, hb8⟩)
           | (go_at_call 187; refine (dot_ok a b c A B C _ (by first | exact htw.below hb8 | exact Tab.below (w := w1.drew) ⟨htw.out⟩ hb8) HMX.out).mono ?_; rintro e w9 ⟨rfl, hb9⟩))
  have hfin := Lib.hid (below_next (below_next (below_drew hq.out) hb8) hb9)
  go_wp2
  go_ret2
  exact ⟨rfl, hfin.out⟩
theorem model_p (M : List Int) (hM : M.length = 195) (x y z : Int) (w : World) (ht : Tab w) :
   Calls Tryz.prog 159 #[.agg (ints M).toArray, v3 x y z] w fun e w' => e = .returned (num2 (mMay M && xOk x y z) (mdot M x y z) 900) ∧ Below w.heap.size w w' := by
  cases h : (mMay M && xOk x y z)
  · exact model_p_no M hM x y z w ht h
  · rw [Bool.and_eq_true] at h
    obtain ⟨hm, hx⟩ := h
    obtain ⟨h1, h2, h3⟩ := xOk_iff.1 hx
    obtain ⟨x, rfl⟩ := Int.eq_ofNat_of_zero_le h1.1
    obtain ⟨y, rfl⟩ := Int.eq_ofNat_of_zero_le h2.1
    obtain ⟨z, rfl⟩ := Int.eq_ofNat_of_zero_le h3.1
    exact model_p_yes M hM x y z w ht hm (by omega) (by omega) (by omega)
end Go.Proofs.YtiokfaiioealdaaGreatDoor
namespace Go.Proofs.YtiokfaiioealdaaGreatDoor
open Go.RowKit Go.Proofs.YtiokfaiioealdaaGreatDoor.L
set_option linter.unusedVariables false
set_option linter.unusedSimpArgs false
/-- The weights of a model that learned a bit. -/
def lW (M : List Int) (x y z : Nat) (bit : Int) (i : Nat) (xi : Nat) : Int :=
  tw (M.getD (192 + i) 0) (mi M xi) (4096 * bit - dot (M.getD 192 0) (M.getD 193 0) (M.getD 194 0) (mi M x) (mi M (64 + y)) (mi M (128 + z)))
def lA (M : List Int) (x y z : Nat) (bit : Int) : List Int := ((M.set 192 (lW M x y z bit 0 x)).set 193 (lW M x y z bit 1 (64 + y))).set 194 (lW M x y z bit 2 (128 + z))
/-- A model that learned a bit. -/
def lM (M : List Int) (x y z : Nat) (bit : Int) : List Int :=
  (((lA M x y z bit).set x (cUp (M.getD x 0) bit)).set (64 + y) (cUp (M.getD (64 + y) 0) bit)).set (128 + z) (cUp (M.getD (128 + z) 0) bit)
theorem train_ok (a b c x y z bit : Int) (w : World) (ht : Tab w) (h : mixOk a b c x y z = true) (h0 : 0 ≤ bit) (h1 : bit ≤ 1) :
   Calls Tryz.prog 189 #[v3 a b c, v3 x y z, .int .i64 bit] w fun e w' => e = .returned (.tuple #[.agg #[.int .i64 (tw a x (4096 * bit - dot a b c x y z)), .int .i64 (tw b y (4096 * bit - dot a b c x y z)), .int .i64 (tw c z (4096 * bit - dot a b c x y z))], .int .i64 0]) ∧ Below w.heap.size w w' := by
  refine (train_any a b c x y z bit w ht).mono fun e w' he => ?_
  rw [show trOk a b c x y z bit = true by simp [trOk, h, h0, h1]] at he; exact he
theorem next_ok (c bit : Int) (w : World) (h : cMay c = true) (h0 : 0 ≤ bit) (h1 : bit ≤ 1) : Calls Tryz.prog 191 #[.int .i64 c, .int .i64 bit] w fun e w' => e = .returned (.tuple #[.int .i64 (cUp c bit), .int .i64 0]) ∧ w = w' := by
  refine (count_next c bit w).mono fun e w' he => ?_
  rw [show cOk c bit = true by simp [cOk, h, h0, h1]] at he; exact he
theorem hm_below {w w1 : World} {g : Nat} {o : Obj} (h : w.heap[g]? = some o) (hb : Below w.heap.size w w1) : w1.heap[g]? = some o := (hb.block g (blk_lt h)).trans h
theorem hm_alloc {w : World} {g : Nat} {o : Obj} (h : w.heap[g]? = some o) (p : Obj) : (w.alloc p).heap[g]? = some o := (Below.heap_alloc w p g (blk_lt h)).trans h
theorem range_far {w : World} {g o : Nat} {cs : List Value} {p : Addr} (h : w.rangeAt g o cs) (hne : p.block ≠ g) (u : Value) : (w.setCell p u).rangeAt g o cs := fun j v hv => by
  rw [World.cell?_setCell_other w p _ u (by rintro rfl; exact hne rfl)]; exact h j v hv
/-- Where a model that learns stands: its own block, what was seen, the answer's place. -/
structure LState (w W : World) (sg : Nat) (L : List Int) (x y z : Nat) : Prop where
  hm : W.heap[w.heap.size]? = some (.cells (ints L).toArray 63 (0, 0))
  hs : W.rangeAt sg 0 (seenV w.heap.size x y z)
  ho : W.heap[w.heap.size + 1 + 1]? = some (.cells (ints (nm 0 0)).toArray 63 (0, 0))
  hb : Below w.heap.size w W
theorem LState.below {w W W1 : World} {sg : Nat} {L : List Int} {x y z : Nat} (h : LState w W sg L x y z) (hb : Below W.heap.size W W1) : LState w W1 sg L x y z :=
  ⟨hm_below h.hm hb, range_below h.hs hb, hm_below h.ho hb, below_next h.hb hb⟩
theorem LState.drew {w W : World} {sg : Nat} {L : List Int} {x y z : Nat} (h : LState w W sg L x y z) : LState w W.drew sg L x y z := ⟨h.hm, h.hs, h.ho, below_drew h.hb⟩
theorem LState.set {w W : World} {sg : Nat} {L : List Int} {x y z : Nat} (h : LState w W sg L x y z) (hs : w.heap.size + 3 ≤ sg) (o : Nat) (v : Int) : LState w (W.setCell ⟨w.heap.size, o, none⟩ (.int .i64 v)) sg (L.set o v) x y z :=
  ⟨blk_set h.hm v, range_far h.hs (by show w.heap.size ≠ sg; omega) _, (Below.heap_setCell W _ _ _ (by simp; omega)).trans h.ho, below_set (by simp) h.hb _⟩
theorem getD_set_ne {L : List Int} {i j : Nat} {v : Int} (h : i ≠ j) : (L.set i v).getD j 0 = L.getD j 0 := by
  simp [List.getD_eq_getElem?_getD, List.getElem?_set_ne h]
theorem lA_get {M : List Int} {x y z : Nat} {bit : Int} {j : Nat} (h : j < 192) : (lA M x y z bit).getD j 0 = M.getD j 0 := by
  unfold lA; rw [getD_set_ne (by omega), getD_set_ne (by omega), getD_set_ne (by omega)]
theorem lA_length (M : List Int) (x y z : Nat) (bit : Int) : (lA M x y z bit).length = M.length := by simp [lA]
theorem lM_length (M : List Int) (x y z : Nat) (bit : Int) : (lM M x y z bit).length = M.length := by simp [lM, lA_length]
set_option maxRecDepth 100000 in
set_option maxHeartbeats 4000000 in
theorem learn_yes (M : List Int) (hM : M.length = 195) (x y z : Nat) (bit : Int) (w : World) (ht : Tab w) (hm : mMay M = true) (hx : x < 64) (hy : y < 64) (hz : z < 64) (hb0 : 0 ≤ bit) (hb1 : bit ≤ 1) :
   Calls Tryz.prog 163 #[.agg (ints M).toArray, v3 x y z, .int .i64 bit] w fun e w' => e = .returned (.tuple #[.agg (ints (lM M x y z bit)).toArray, .int .i64 0]) ∧ Below w.heap.size w w' := by
  have HM := Lib.hid hM
  have hsz : (Tryz.prog.info? 63).map (·.size) = some (ints M).length := by rw [ints_length, hM]; exact info_model
  have HSZ := Lib.hid hsz
  have HX := Lib.hid (show xOk x y z = true from xOk_iff.2 (by omega))
  have HMM := Lib.hid hm
  have HMX := Lib.hid (model_mix hM hm x (64 + y) (128 + z))
  have HG := Lib.hid (mMay_good hM hm)
  have hz0 : Tryz.zeroCells63 = (ints (nm 0 0)).toArray := by kernel_rfl
  have HZ0 := Lib.hid hz0
  have t1 : decide (bit < 0) = false := by simp; omega
  have t2 : decide (1 < bit) = false := by simp; omega
  clear hM hsz hm hz0
  unfold v3
  go_enter Tryz.func163, Tryz.ntmps163
  go_wp2_with (with_reducible refine wpList_load_mid rfl 63 (.tmp 3) rfl w.heap.size 0 ?_ (ints M) _ (range_below (range_below (range_new w M 63) (below_alloc (Below.refl _ _) _)) (below_alloc (Below.refl _ _) _)) Tryz.underlying63 rfl HSZ.out ?_)
  all_goals first | (show _ = Value.pointer _; rfl) | skip
  rw [HZ0.out]
  refine (model_may M HM.out _).mono ?_
  rw [HMM.out]
  rintro e w1 ⟨rfl, hb⟩
  have hq := Lib.hid (below_next (w := w) (by repeat (first | (with_reducible exact Below.refl _ _) | (with_reducible exact Hid.out (by with_reducible assumption)) | (with_reducible apply below_drewN) | (with_reducible apply below_drew) | (with_reducible apply below_alloc) | (refine below_set ?_ ?_ _; (focus (first | (simp; done) | (simp; omega)))))) hb)
  have HM1 := Lib.hid (hm_below (hm_alloc (hm_alloc (heap_alloc_new w (.cells (ints M).toArray 63)) (.cells #[.int .i64 (x : Int), .int .i64 (y : Int), .int .i64 (z : Int)] 61)) (.cells (ints (nm 0 0)).toArray 63)) hb)
  have HO1 := Lib.hid (hm_below (heap_alloc_new ((w.alloc (.cells (ints M).toArray 63)).alloc (.cells #[.int .i64 (x : Int), .int .i64 (y : Int), .int .i64 (z : Int)] 61)) (.cells (ints (nm 0 0)).toArray 63)) hb)
  obtain ⟨ep, eq, er, fp, fq, fr, lp⟩ := own3 hb (b := w.heap.size + 1) (x := .int .i64 (x)) (y := .int .i64 (y)) (z := .int .i64 (z)) (by go_simp) (by go_simp) (by go_simp) (by go_simp) (by go_simp) (by go_simp)
  have hs1 := hb.size
  simp only [World.size_alloc] at HO1 hs1
  clear hb
  go_wp2_with (go_at_call 186; refine (there_any _ 0 x y z _ ep eq er).mono ?_; rw [HX.out]; rintro e w2 ⟨rfl, rfl⟩)
  have htw := (ht.below hq.out)
  have HS2 := Lib.hid (seen_new w1 w.heap.size x y z 214)
  have HM2 := Lib.hid (hm_alloc HM1.out (.cells (seenV w.heap.size x y z).toArray 214))
  have HO2 := Lib.hid (hm_alloc HO1.out (.cells (seenV w.heap.size x y z).toArray 214))
  have HB2 := Lib.hid (below_alloc hq.out (.cells (seenV w.heap.size x y z).toArray 214))
  have ht2 := htw.alloc (.cells (seenV w.heap.size x y z).toArray 214)
  have hs2 : (w1.alloc (.cells (seenV w.heap.size x y z).toArray 214)).heap.size = w1.heap.size + 1 := by simp
  rw [show w1.alloc (.cells #[.pointer (some ⟨w.heap.size, 0, none⟩), .int .i64 (x : Int), .int .i64 (y : Int), .int .i64 (z : Int)] 214) = w1.alloc (.cells (seenV w.heap.size x y z).toArray 214) from rfl]
  generalize w1.alloc (.cells (seenV w.heap.size x y z).toArray 214) = W2 at HS2 HM2 HO2 HB2 ht2 hs2 ⊢
  obtain ⟨sg, hsg⟩ : ∃ sg, w1.heap.size = sg := ⟨_, rfl⟩
  rw [hsg] at HS2 hs2 hs1 ⊢
  have HS2s := Lib.hid hs2
  have hs3 : w.heap.size + 3 ≤ sg := by omega
  have hs4 : sg < W2.heap.size := by omega
  clear hsg hs1 hs2 ep eq er fp fq fr lp HM1 HO1 hq htw
  obtain ⟨s0, s1, s2, s3⟩ := seen_cells HS2.out
  obtain ⟨A, hA⟩ : ∃ A, mi M x = A := ⟨_, rfl⟩
  obtain ⟨B, hB⟩ : ∃ A, mi M (64 + y) = A := ⟨_, rfl⟩
  obtain ⟨C, hC⟩ : ∃ A, mi M (128 + z) = A := ⟨_, rfl⟩
  obtain ⟨a, ha⟩ : ∃ A, M.getD 192 0 = A := ⟨_, rfl⟩
  obtain ⟨b, hb'⟩ : ∃ A, M.getD 193 0 = A := ⟨_, rfl⟩
  obtain ⟨c, hc⟩ : ∃ A, M.getD 194 0 = A := ⟨_, rfl⟩
  have m0 := blk_cell HM2.out (o := 192) (by rw [HM.out]; omega)
  have m1 := blk_cell HM2.out (o := 193) (by rw [HM.out]; omega)
  have m2 := blk_cell HM2.out (o := 194) (by rw [HM.out]; omega)
  rw [ha] at m0
  rw [hb'] at m1
  rw [hc] at m2
  have f0 := blk_frozen HM2.out 192
  have f1 := blk_frozen HM2.out 193
  have f2 := blk_frozen HM2.out 194
  have hok := HMX.out
  rw [hA, hB, hC, ha, hb', hc] at hok
  have HOK := Lib.hid hok
  have HABC := Lib.hid (show v3 (mi M x) (mi M (64 + y)) (mi M (128 + z)) = v3 A B C by rw [hA, hB, hC])
  obtain ⟨U, hU⟩ : ∃ A', tw a A (4096 * bit - dot a b c A B C) = A' := ⟨_, rfl⟩
  obtain ⟨V, hV⟩ : ∃ A', tw b B (4096 * bit - dot a b c A B C) = A' := ⟨_, rfl⟩
  obtain ⟨X, hX⟩ : ∃ A', tw c C (4096 * bit - dot a b c A B C) = A' := ⟨_, rfl⟩
  have HTR := Lib.hid (show (Value.tuple #[.agg #[.int .i64 (tw a A (4096 * bit - dot a b c A B C)), .int .i64 (tw b B (4096 * bit - dot a b c A B C)), .int .i64 (tw c C (4096 * bit - dot a b c A B C))], .int .i64 0]) = .tuple #[.agg #[.int .i64 U, .int .i64 V, .int .i64 X], .int .i64 0] by rw [hU, hV, hX])
  have HLA : Hid (lA M x y z bit = ((M.set 192 U).set 193 V).set 194 X) := by
    show _ = _
    unfold lA lW
    simp only [Nat.add_zero, Nat.reduceAdd]
    rw [hA, hB, hC, ha, hb', hc, hU, hV, hX]
  clear hA hB hC ha hb' hc hok hU hV hX HMX
  have ne0 : (w.heap.size = sg) = False := by simp; omega
  have ne1 : (sg = w.heap.size) = False := by simp; omega
  go_region_with ((first | (go_at_call 188; refine (model_inputs w.heap.size x y z M _ (by exact ⟨ht2.out⟩) HM.out HG.out (by exact blk_range HM2.out) hx hy hz).mono ?_; rw [HABC.out]; rintro e w8 ⟨rfl, hb8⟩; have n0 : w8.cell? ⟨w.heap.size, 192, none⟩ = some (.int .i64 a) := cell_below hb8 (by exact m0); have n1 : w8.cell? ⟨w.heap.size, 193, none⟩ = some (.int .i64 b) := cell_below hb8 (by exact m1); have n2 : w8.cell? ⟨w.heap.size, 194, none⟩ = some (.int .i64 c) := cell_below hb8 (by exact m2)) | (go_at_call 189; refine (train_ok a b c A B C bit _ (by exact Tab.below (w := W2.drew) ⟨ht2.out⟩ hb8) HOK.out hb0 hb1).mono ?_; rw [HTR.out]; rintro e w9 ⟨rfl, hb9⟩; have k0 := cell_below hb9 n0; have k1 := cell_below hb9 n1; have k2 := cell_below hb9 n2; have g0 : w9.frozen? ⟨w.heap.size, 192, none⟩ = false := (hb9.frozen (p := ⟨w.heap.size, 192, none⟩) (World.block_lt_of_cell? _ _ n0)).trans ((hb8.frozen (p := ⟨w.heap.size, 192, none⟩) (World.block_lt_of_cell? W2 _ m0)).trans f0); have g1 : w9.frozen? ⟨w.heap.size, 193, none⟩ = false := (hb9.frozen (p := ⟨w.heap.size, 193, none⟩) (World.block_lt_of_cell? _ _ n1)).trans ((hb8.frozen (p := ⟨w.heap.size, 193, none⟩) (World.block_lt_of_cell? W2 _ m1)).trans f1); have g2 : w9.frozen? ⟨w.heap.size, 194, none⟩ = false := (hb9.frozen (p := ⟨w.heap.size, 194, none⟩) (World.block_lt_of_cell? _ _ n2)).trans ((hb8.frozen (p := ⟨w.heap.size, 194, none⟩) (World.block_lt_of_cell? W2 _ m2)).trans f2))))
  all_goals
    have L3 : Hid (LState w (((w9.setCell ⟨w.heap.size, 192, none⟩ (.int .i64 U)).setCell ⟨w.heap.size, 193, none⟩ (.int .i64 V)).setCell ⟨w.heap.size, 194, none⟩ (.int .i64 X)) sg (lA M x y z bit) x y z) := by
      rw [HLA.out]
      have L2 : LState w W2 sg M x y z := ⟨HM2.out, HS2.out, HO2.out, HB2.out⟩
      exact ((((L2.drew.below hb8).below hb9).set hs3 192 U).set hs3 193 V).set hs3 194 X
    generalize (((w9.setCell ⟨w.heap.size, 192, none⟩ (.int .i64 U)).setCell ⟨w.heap.size, 193, none⟩ (.int .i64 V)).setCell ⟨w.heap.size, 194, none⟩ (.int .i64 X)) = W3 at L3 ⊢
    clear hb8 hb9 n0 n1 n2 k0 k1 k2 g0 g1 g2 m0 m1 m2 f0 f1 f2 s0 s1 s2 s3 HM2 HS2 HO2 HB2 ht2
    go_wp2_with fail
    refine wp_loop_rounds 4 ?_
    rw [rounds_succ]
    obtain ⟨s0, s1, s2, s3⟩ := seen_cells L3.out.hs
    go_wp2_with fail
    refine (counter_0 w.heap.size x (y : Int) (z : Int) _ hx).mono ?_
    rintro e wa0 ⟨rfl, hb⟩
    have La0 := Lib.hid (L3.out.below hb)
    clear s0 s1 s2 s3 hb L3
    have ca := blk_cell La0.out.hm (o := x) (by simp only [List.length_set, lA_length, HM.out]; omega)
    have fa := blk_frozen La0.out.hm x
    obtain ⟨q0, hq0⟩ : ∃ q, M.getD x 0 = q := ⟨_, rfl⟩
    rw [lA_get (by omega), hq0] at ca
    have HQ0 := Lib.hid hq0
    have HC0 := Lib.hid (show cMay q0 = true by rw [← hq0]; exact HG.out x (by omega))
    have Lb0 := Lib.hid (La0.out.set hs3 x (cUp q0 bit))
    clear hq0 La0
    go_wp2_with (go_at_call 191; refine (next_ok q0 bit _ HC0.out hb0 hb1).mono ?_; rintro e w7 ⟨rfl, rfl⟩)
    generalize (World.setCell _ ⟨w.heap.size, x, none⟩ (.int .i64 (cUp q0 bit))) = Wb0 at Lb0 ⊢
    clear ca fa
    rw [rounds_succ]
    obtain ⟨s0, s1, s2, s3⟩ := seen_cells Lb0.out.hs
    go_wp2_with fail
    refine (counter_1 w.heap.size y (x : Int) (z : Int) _ hy).mono ?_
    rintro e wa1 ⟨rfl, hb⟩
    have La1 := Lib.hid (Lb0.out.below hb)
    clear s0 s1 s2 s3 hb Lb0
    have ca := blk_cell La1.out.hm (o := (64 + y)) (by simp only [List.length_set, lA_length, HM.out]; omega)
    have fa := blk_frozen La1.out.hm (64 + y)
    obtain ⟨q1, hq1⟩ : ∃ q, M.getD (64 + y) 0 = q := ⟨_, rfl⟩
    rw [getD_set_ne (by omega), lA_get (by omega), hq1] at ca
    have HQ1 := Lib.hid hq1
    have HC1 := Lib.hid (show cMay q1 = true by rw [← hq1]; exact HG.out (64 + y) (by omega))
    have Lb1 := Lib.hid (La1.out.set hs3 (64 + y) (cUp q1 bit))
    clear hq1 La1
    go_wp2_with (go_at_call 191; refine (next_ok q1 bit _ HC1.out hb0 hb1).mono ?_; rintro e w7 ⟨rfl, rfl⟩)
    generalize (World.setCell _ ⟨w.heap.size, (64 + y), none⟩ (.int .i64 (cUp q1 bit))) = Wb1 at Lb1 ⊢
    clear ca fa
    rw [rounds_succ]
    obtain ⟨s0, s1, s2, s3⟩ := seen_cells Lb1.out.hs
    go_wp2_with fail
    refine (counter_2 w.heap.size z (x : Int) (y : Int) _ hz).mono ?_
    rintro e wa2 ⟨rfl, hb⟩
    have La2 := Lib.hid (Lb1.out.below hb)
    clear s0 s1 s2 s3 hb Lb1
    have ca := blk_cell La2.out.hm (o := (128 + z)) (by simp only [List.length_set, lA_length, HM.out]; omega)
    have fa := blk_frozen La2.out.hm (128 + z)
    obtain ⟨q2, hq2⟩ : ∃ q, M.getD (128 + z) 0 = q := ⟨_, rfl⟩
    rw [getD_set_ne (by omega), getD_set_ne (by omega), lA_get (by omega), hq2] at ca
    have HQ2 := Lib.hid hq2
    have HC2 := Lib.hid (show cMay q2 = true by rw [← hq2]; exact HG.out (128 + z) (by omega))
    have Lb2 := Lib.hid (La2.out.set hs3 (128 + z) (cUp q2 bit))
    clear hq2 La2
    go_wp2_with (go_at_call 191; refine (next_ok q2 bit _ HC2.out hb0 hb1).mono ?_; rintro e w7 ⟨rfl, rfl⟩)
    generalize (World.setCell _ ⟨w.heap.size, (128 + z), none⟩ (.int .i64 (cUp q2 bit))) = Wb2 at Lb2 ⊢
    clear ca fa
    have LF : Hid (LState w Wb2 sg (lM M x y z bit) x y z) := by
      unfold lM
      rw [HQ0.out, HQ1.out, HQ2.out]
      exact Lb2.out
    have hszF : (Tryz.prog.info? 63).map (·.size) = some (ints (lM M x y z bit)).length := by rw [ints_length, lM_length, HM.out]; exact info_model
    have hszA : (Tryz.prog.info? 63).map (·.size) = some (ints (lM M x y z bit)).toArray.size := hszF
    have hth : Wb2.there (w.heap.size + 1 + 1) 0 (ints (lM M x y z bit)).toArray.size := by
      have e : (ints (lM M x y z bit)).toArray.size = 195 := by simp [ints_length, lM_length, HM.out]
      rw [e]
      exact blk_there LF.out.ho (by rw [nm_length (by omega) (by omega)]; omega)
    have HSF := Lib.hid hszF
    have HSA := Lib.hid hszA
    have HTH := Lib.hid hth
    clear hszF hszA hth Lb2
    rw [rounds_succ]
    go_wp2_with (first
      | (with_reducible refine wpList_load_mid rfl 63 (.tmp 3) rfl w.heap.size 0 ?_ (ints (lM M x y z bit)) _ (blk_range LF.out.hm) Tryz.underlying63 rfl HSF.out ?_)
      | (with_reducible refine wpList_store_mid rfl 63 (.tmp 6) (.tmp 56) rfl (w.heap.size + 1 + 1) 0 (ints (lM M x y z bit)).toArray ?_ ?_ HTH.out HSA.out (all_oneCell_toArray (ints_one _)) ?_))
    all_goals first | (show _ = Value.pointer _; rfl) | (show _ = Value.agg _; rfl) | skip
    have hrs := World.rangeAt_setCells_same Wb2 (w.heap.size + 1 + 1) 0 (ints (lM M x y z bit)) HTH.out
    trace_state
    refine bodyPost_ret (results_cellt (P := Tryz.prog) Tryz.results163 _ _ (w.heap.size + 1 + 1) (ints (lM M x y z bit)) _ ?_ hrs Tryz.underlying63 rfl HSF.out) ?_ ⟨rfl, below_setCells (by omega) _ _ _ LF.out.hb⟩
    all_goals first | rfl | go_simp
end Go.Proofs.YtiokfaiioealdaaGreatDoor
