/- What the counter's, the table's and the search's functions of the program, and of the document's answer, come to. -/
import Derived.Test.YtiokfaiioealdaaGreatDoorProg
import Derived.Test.YtiokfaiioealdaaGreatDoorLib
import Derived.Test.YtiokfaiioealdaaGreatDoorNum
namespace Go.Proofs.YtiokfaiioealdaaGreatDoor
open Go.RowKit Go.Proofs.YtiokfaiioealdaaGreatDoor.L
set_option linter.unusedVariables false
set_option linter.unusedSimpArgs false

/-! ### Counters -/
theorem count_may (c : Int) (w : World) : Calls Tryz.prog 203 #[.int .i64 c] w fun e w' => e = .returned (.bool (cMay c)) ∧ w = w' := by
  by_cases h : 0 ≤ c
  all_goals
    go_enter Tryz.func203, Tryz.ntmps203
    go_wp2
    go_ret
    exact ⟨ret_bool (by rw [Bool.eq_iff_iff]; simp [cMay]; omega), rfl⟩
theorem rcount_may (c : Int) (w : World) : Calls Tryz.prog 125 #[.int .i64 c] w fun e w' => e = .returned (.bool (cMay c)) ∧ w = w' := by
  by_cases h : 0 ≤ c
  all_goals
    go_enter Tryz.func125, Tryz.ntmps125
    go_wp2
    go_ret
    exact ⟨ret_bool (by rw [Bool.eq_iff_iff]; simp [cMay]; omega), rfl⟩
theorem count_new (w : World) : Calls Tryz.prog 72 #[] w fun e w' => e = .returned (.int .i64 32768) ∧ w = w' := by
  go_enter Tryz.func72, Tryz.ntmps72
  go_wp2
  go_ret
  exact ⟨rfl, rfl⟩
theorem bit_may (b : Int) (w : World) : Calls Tryz.prog 79 #[.int .i64 b] w fun e w' => e = .returned (.bool (decide (0 ≤ b) && decide (b ≤ 1))) ∧ w = w' := by
  by_cases h : b = 0
  · subst h
    go_enter Tryz.func79, Tryz.ntmps79
    go_wp2
    go_ret
    exact ⟨rfl, rfl⟩
  · have h0 : (b == 0) = false := by simp [h]
    go_enter Tryz.func79, Tryz.ntmps79
    go_wp2
    go_ret
    exact ⟨ret_bool (by rw [Bool.eq_iff_iff]; simp; omega), rfl⟩
def num2 (ok : Bool) (v e : Int) : Value := .tuple #[.int .i64 (if ok then v else 0), .int .i64 (if ok then 0 else e)]
attribute [go_sem] num2
theorem count_next (c b : Int) (w : World) : Calls Tryz.prog 191 #[.int .i64 c, .int .i64 b] w fun e w' => e = .returned (num2 (cOk c b) (cUp c b) 700) ∧ w = w' := by
  cases hc : cMay c
  · rw [show cOk c b = false by simp [cOk, hc]]
    go_enter Tryz.func191, Tryz.ntmps191
    go_wp2_with (go_at_call 203; refine (count_may c _).mono ?_; rintro e w' ⟨rfl, rfl⟩)
    go_ret2
    exact ⟨rfl, rfl⟩
  · have hb := cMay_iff.1 hc
    obtain ⟨hb0, hb1⟩ := hb
    rw [show cOk c b = (decide (0 ≤ b) && decide (b ≤ 1)) by simp [cOk, hc]]
    by_cases h0 : b < 0
    · rw [show (decide (0 ≤ b) && decide (b ≤ 1)) = false by simp; omega]
      go_enter Tryz.func191, Tryz.ntmps191
      go_wp2_with (go_at_call 203; refine (count_may c _).mono ?_; rintro e w' ⟨rfl, rfl⟩)
      go_ret2
      exact ⟨rfl, rfl⟩
    · have h0' : decide (b < 0) = false := by simp; omega
      by_cases h1 : 1 < b
      · rw [show (decide (0 ≤ b) && decide (b ≤ 1)) = false by simp; omega]
        go_enter Tryz.func191, Tryz.ntmps191
        go_wp2_with (go_at_call 203; refine (count_may c _).mono ?_; rintro e w' ⟨rfl, rfl⟩)
        go_ret2
        exact ⟨rfl, rfl⟩
      · have e : b = 0 ∨ b = 1 := by omega
        clear h0 h0' h1
        rcases e with rfl | rfl
        all_goals
          go_enter Tryz.func191, Tryz.ntmps191
          go_wp2_with (go_at_call 203; refine (count_may c _).mono ?_; rintro e w' ⟨rfl, rfl⟩)
          go_ret2
          exact ⟨rfl, rfl⟩
theorem up_to (x lo hi : Int) (w : World) : Calls Tryz.prog 78 #[.int .i64 x, .int .i64 lo, .int .i64 hi] w fun e w' => e = .returned (.bool (decide (lo ≤ x) && decide (x ≤ hi))) ∧ w = w' := by
  by_cases h : lo ≤ x
  all_goals
    go_enter Tryz.func78, Tryz.ntmps78
    go_wp2
    go_ret
    exact ⟨ret_bool (by rw [Bool.eq_iff_iff]; simp; try omega), rfl⟩
theorem rwithin (x lo hi : Int) (w : World) (hl : lo ≤ hi) : Calls Tryz.prog 127 #[.int .i64 x, .int .i64 lo, .int .i64 hi] w fun e w' => e = .returned (.int .i64 (bound x lo hi)) ∧ w = w' := by
  go_enter Tryz.func127, Tryz.ntmps127
  go_wp2
  all_goals (go_ret; exact ⟨ret_int (by unfold bound; (repeat' split) <;> omega), rfl⟩)
theorem rcount_next (c b : Int) (w : World) : Calls Tryz.prog 88 #[.int .i64 c, .int .i64 b] w fun e w' => e = .returned (num2 (cOk c b) (cUp c b) 700) ∧ w = w' := by
  cases hc : cMay c
  · rw [show cOk c b = false by simp [cOk, hc]]
    go_enter Tryz.func88, Tryz.ntmps88
    go_wp2_with (first | (go_at_call 125; refine (rcount_may c _).mono ?_; rintro e w' ⟨rfl, rfl⟩) | (go_at_call 79; refine (bit_may b _).mono ?_; rintro e w' ⟨rfl, rfl⟩))
    go_ret2
    exact ⟨rfl, rfl⟩
  · have hb := cMay_iff.1 hc
    obtain ⟨hb0, hb1⟩ := hb
    rw [show cOk c b = (decide (0 ≤ b) && decide (b ≤ 1)) by simp [cOk, hc]]
    by_cases h0 : 0 ≤ b ∧ b ≤ 1
    · have e : b = 0 ∨ b = 1 := by omega
      clear h0
      rcases e with rfl | rfl
      all_goals
        go_enter Tryz.func88, Tryz.ntmps88
        go_wp2_with (first | (go_at_call 125; refine (rcount_may c _).mono ?_; rintro e w' ⟨rfl, rfl⟩) | (go_at_call 79; refine (bit_may _ _).mono ?_; rintro e w' ⟨rfl, rfl⟩))
        go_ret2
        exact ⟨rfl, rfl⟩
    · have h1 : (decide (0 ≤ b) && decide (b ≤ 1)) = false := by rw [Bool.and_eq_false_iff]; simp only [decide_eq_false_iff_not]; omega
      rw [h1]
      go_enter Tryz.func88, Tryz.ntmps88
      go_wp2_with (first | (go_at_call 125; refine (rcount_may c _).mono ?_; rintro e w' ⟨rfl, rfl⟩) | (go_at_call 79; refine (bit_may _ _).mono ?_; rw [h1]; rintro e w' ⟨rfl, rfl⟩))
      go_ret2
      exact ⟨rfl, rfl⟩
theorem count_p (c : Int) (w : World) : Calls Tryz.prog 208 #[.int .i64 c] w fun e w' => e = .returned (num2 (cMay c) (cCh c) 700) ∧ w = w' := by
  cases hc : cMay c
  · go_enter Tryz.func208, Tryz.ntmps208
    go_wp2_with (go_at_call 203; refine (count_may c _).mono ?_; rintro e w' ⟨rfl, rfl⟩)
    go_ret2
    exact ⟨rfl, rfl⟩
  · have hb := cMay_iff.1 hc
    obtain ⟨hb0, hb1⟩ := hb
    go_enter Tryz.func208, Tryz.ntmps208
    go_wp2_with (go_at_call 203; refine (count_may c _).mono ?_; rintro e w' ⟨rfl, rfl⟩)
    all_goals (go_ret2; exact ⟨ret_two (by simp only [cCh, if_true]; split <;> omega) rfl, rfl⟩)
theorem rcount_p (c : Int) (w : World) : Calls Tryz.prog 129 #[.int .i64 c] w fun e w' => e = .returned (num2 (cMay c) (cCh c) 700) ∧ w = w' := by
  cases hc : cMay c
  · go_enter Tryz.func129, Tryz.ntmps129
    go_wp2_with (go_at_call 125; refine (rcount_may c _).mono ?_; rintro e w' ⟨rfl, rfl⟩)
    go_ret2
    exact ⟨rfl, rfl⟩
  · have hb := cMay_iff.1 hc
    obtain ⟨hb0, hb1⟩ := hb
    go_enter Tryz.func129, Tryz.ntmps129
    go_wp2_with (first | (go_at_call 125; refine (rcount_may c _).mono ?_; rintro e w' ⟨rfl, rfl⟩) | (go_at_call 127; refine (rwithin _ _ _ _ (by decide)).mono ?_; rintro e w' ⟨rfl, rfl⟩))
    go_ret2
    exact ⟨ret_two (by simp only [cCh, if_true, bound]; (repeat' split) <;> omega) rfl, rfl⟩

/-! ### The table's chances -/
/-- The program's table lies where its variable is. -/
structure Tab (w : World) : Prop where mk :: (out : ∀ j, j < 33 → w.cell? ⟨3, j, none⟩ = some (.int .i64 (tab.getD j 0)))
theorem Tab.drewN {w : World} (h : Tab w) (n : Nat) : Tab (w.drewN n) := ⟨h.out⟩
theorem Tab.below {w w1 : World} (h : Tab w) (hb : Below w.heap.size w w1) : Tab w1 := ⟨fun j hj => cell_below hb (h.out j hj)⟩
theorem Tab.alloc {w : World} (h : Tab w) (o : Obj) : Tab (w.alloc o) := h.below ((Below.refl _ _).alloc (Nat.le_refl _) o)
theorem squash_in (x : Int) (w : World) (hx : -2047 ≤ x) (hy : x ≤ 2047) (ht : Tab w) :
   Calls Tryz.prog 207 #[.int .i64 x] w fun e w' => e = .returned (.int .i64 (sqAt ((x + 2048) / 128) (x % 128))) ∧ ∃ n, w' = w.drewN n := by
  obtain ⟨d, hd⟩ : ∃ d : Nat, (x + 2047 + 1) / 128 = (d : Int) := ⟨((x + 2048) / 128).toNat, by omega⟩
  have c0 := ht.out d (by omega)
  have c1 := ht.out (d + 1) (by omega)
  have hb1 : (d : Int) < 32 := by omega
  have e0 := tb_le d (by omega)
  have e1 := tb_le (d + 1) (by omega)
  obtain ⟨m, hm⟩ : ∃ m, bits BinOp.and IntKind.i64 x 127 = m := ⟨_, rfl⟩
  have hm' : m = x % 128 := by rw [← hm, i64_and127]
  have hm0 : 0 ≤ m := by omega
  have hm1 : m < 128 := by omega
  have HM := Lib.hid hm'
  clear hm'
  obtain ⟨A, hA⟩ : ∃ A, tab.getD d 0 = A := ⟨_, rfl⟩
  obtain ⟨B, hB⟩ : ∃ B, tab.getD (d + 1) 0 = B := ⟨_, rfl⟩
  rw [hA] at c0 e0
  rw [hB] at c1 e1
  have HA := Lib.hid hA
  have HB := Lib.hid hB
  clear hA hB ht
  obtain ⟨p00, p01⟩ := mul_bd (a := A) (b := 128 - m) (m := 4094) (n := 128) e0.1 e0.2 (by omega) (by omega)
  obtain ⟨p10, p11⟩ := mul_bd (a := B) (b := m) (m := 4094) (n := 128) e1.1 e1.2 (by omega) (by omega)
  obtain ⟨e00, e01⟩ := e0
  obtain ⟨e10, e11⟩ := e1
  go_enter Tryz.func207, Tryz.ntmps207
  go_wp2
  go_quiet (fail)
  go_wp2
  go_ret
  refine ⟨ret_int ?_, nq, rfl⟩
  have h1 : (x + 2048) / 128 = (d : Int) := by omega
  have h2 : (d : Int) + 1 = ((d + 1 : Nat) : Int) := by omega
  rw [h1]
  simp only [sqAt, tb, h2, Int.toNat_natCast, HA.out, HB.out, ← HM.out]
theorem squash_any (x : Int) (w : World) (ht : Tab w) :
   Calls Tryz.prog 207 #[.int .i64 x] w fun e w' => e = .returned (.int .i64 (sq x)) ∧ ∃ n, w' = w.drewN n := by
  by_cases h1 : 2047 < x
  · rw [show sq x = 4095 by simp [sq, h1]]
    go_enter Tryz.func207, Tryz.ntmps207
    go_wp2
    go_ret
    exact ⟨rfl, 0, rfl⟩
  · by_cases h2 : x < -2047
    · rw [show sq x = 0 by simp [sq, h1, h2]]
      go_enter Tryz.func207, Tryz.ntmps207
      go_wp2
      go_ret
      exact ⟨rfl, 0, rfl⟩
    · rw [show sq x = _ by simp only [sq, if_neg h1, if_neg h2]; exact rfl]
      exact squash_in x w (by omega) (by omega) ht
theorem clo_any (i p : Int) (g : Nat) (w : World) (hi : 0 ≤ i) (hj : i ≤ 4094) (hg : w.cell? ⟨g, 0, none⟩ = some (.int .i64 p)) (ht : Tab w) :
   Calls Tryz.prog 216 #[.int .i64 i, .pointer (some ⟨g, 0, none⟩)] w fun e w' => e = .returned (.bool (decide (p ≤ sq (i - 2047)))) ∧ ∃ n, w' = w.drewN n := by
  have W1 : IntKind.i64.wrap (i - 2047) = i - 2047 := IntWalk.i64_in _ (by omega)
  go_enter Tryz.func216, Tryz.ntmps216
  go_wp2
  go_quiet ((go_at_call 207; exact Calls.quiet_of (squash_any _ _ (ht.drewN _))))
  go_wp2
  go_ret
  exact ⟨rfl, nq, rfl⟩
theorem bs_end {k : Nat} {p i j R : Int} (h : bs k p i j = R) (hij : ¬ i < j) : i = R := by
  cases k with
  | zero => exact h
  | succ k => simp only [bs] at h; rw [if_neg hij] at h; exact h
theorem fuel_pos {a k : Nat} (h : a < 2 ^ k) (ha : 0 < a) : ∃ m, k = m + 1 := by
  cases k with
  | zero => simp at h; omega
  | succ m => exact ⟨m, rfl⟩
theorem fuel_half {a k : Nat} (h : a < 2 ^ (k + 1)) : a < 2 * 2 ^ k := by rw [Nat.pow_succ] at h; omega
theorem search_any (p : Int) (g : Nat) (w : World) (hg : w.cell? ⟨g, 0, none⟩ = some (.int .i64 p)) (ht : Tab w) :
   Calls Tryz.prog 215 #[.int .i64 4094, .func (.func 216) #[] #[.pointer (some ⟨g, 0, none⟩)]] w fun e w' => e = .returned (.int .i64 (bs 13 p 0 4094)) ∧ ∃ n, w' = w.drewN n := by
  obtain ⟨R, hR⟩ : ∃ R, bs 13 p 0 4094 = R := ⟨_, rfl⟩
  rw [hR]
  have HR := Lib.hid hR
  clear hR
  go_enter Tryz.func215, Tryz.ntmps215
  go_wp2
  go_loopw [5, 6] (fun v u wr => ∃ i j : Nat, v = .int .i64 i ∧ u = .int .i64 j ∧ i ≤ j ∧ j ≤ 4094 ∧ (∃ k, Hid (bs k p i j = R) ∧ Hid (j - i < 2 ^ k)) ∧ ∃ n, wr = w.drewN n) (fun v u _ => (intOf u - intOf v).toNat)
  case atStart => exact ⟨0, 4094, rfl, rfl, by omega, by omega, ⟨13, HR, Lib.hid (by decide)⟩, 0, rfl⟩
  case round =>
    obtain ⟨i, j, rfl, rfl, hij, hj, ⟨k, HB, HK⟩, n, rfl⟩ := hrel
    by_cases hlt : i < j
    · obtain ⟨k, rfl⟩ := fuel_pos HK.out (by omega)
      have HK2 := Lib.hid (fuel_half HK.out)
      cases hc : decide (p ≤ sq (((i : Int) + j) / 2 - 2047))
      · go_wp2_with fail
        refine (clo_any (((i : Int) + j) / 2) p g (w.drewN n) (by omega) (by omega) hg (ht.drewN n)).mono ?_
        rintro e w1 ⟨rfl, m, rfl⟩
        go_wp2
        go_roundw
        case rel =>
          refine ⟨(i + j) / 2 + 1, j, by go_num, rfl, by omega, hj, ⟨k, Lib.hid ?_, Lib.hid (by have := HK2.out; omega)⟩, n + m, by simp⟩
          have hb := HB.out
          simp only [bs] at hb
          rw [if_pos (by omega), if_neg (by simpa using hc)] at hb
          rw [← hb]; congr 1
        case measure => simp [intOf]; omega
      · go_wp2_with fail
        refine (clo_any (((i : Int) + j) / 2) p g (w.drewN n) (by omega) (by omega) hg (ht.drewN n)).mono ?_
        rintro e w1 ⟨rfl, m, rfl⟩
        go_wp2
        go_roundw
        case rel =>
          refine ⟨i, (i + j) / 2, rfl, by go_num, by omega, by omega, ⟨k, Lib.hid ?_, Lib.hid (by have := HK2.out; omega)⟩, n + m, by simp⟩
          have hb := HB.out
          simp only [bs] at hb
          rw [if_pos (by omega), if_pos (by simpa using hc)] at hb
          rw [← hb]; congr 1
        case measure => simp [intOf]; omega
    · go_wp2
      go_ret
      exact ⟨ret_int (bs_end HB.out (by omega)), n, rfl⟩
theorem stretch_yes (p : Int) (w : World) (h0 : 0 ≤ p) (h1 : p ≤ 4095) (ht : Tab w) :
   Calls Tryz.prog 209 #[.int .i64 p] w fun e w' => e = .returned (.tuple #[.int .i64 (st p), .int .i64 0]) ∧ Below w.heap.size w w' := by
  have hr := bs_range p 13 0 4094 (by omega) (by omega) (by omega)
  obtain ⟨hr0, hr1⟩ := hr
  unfold st
  go_enter Tryz.func209, Tryz.ntmps209
  go_wp2_with fail
  refine (search_any p w.heap.size _ (by simp) (ht.alloc _)).mono ?_
  rintro e w1 ⟨rfl, m, rfl⟩
  go_wp2
  go_ret2
  exact ⟨rfl, below_drewN (below_alloc (Below.refl _ _) _) _⟩
theorem stretch_no (p : Int) (w : World) (h : p < 0 ∨ 4095 < p) :
   Calls Tryz.prog 209 #[.int .i64 p] w fun e w' => e = .returned (.tuple #[.int .i64 0, .int .i64 600]) ∧ Below w.heap.size w w' := by
  rcases h with h | h
  all_goals
    go_enter Tryz.func209, Tryz.ntmps209
    by_cases h0 : p < 0
    all_goals
      go_wp2
      go_ret2
      exact ⟨rfl, below_alloc (Below.refl _ _) _⟩
def stOk (p : Int) : Bool := decide (0 ≤ p) && decide (p ≤ 4095)
theorem stretch_any (p : Int) (w : World) (ht : Tab w) :
   Calls Tryz.prog 209 #[.int .i64 p] w fun e w' => e = .returned (num2 (stOk p) (st p) 600) ∧ Below w.heap.size w w' := by
  by_cases h : 0 ≤ p ∧ p ≤ 4095
  · rw [show stOk p = true by simp [stOk, h]]
    exact stretch_yes p w h.1 h.2 ht
  · rw [show stOk p = false by simp only [stOk, Bool.and_eq_false_iff, decide_eq_false_iff_not]; omega]
    exact stretch_no p w (by omega)

/-! ### The document's own answer: its table lies in a slice that each call makes -/
theorem row_cell (w : World) (t : TypeId) (xs : List Int) (j : Nat) (hj : j < xs.length) : (w.alloc (.cells ((xs.map (Value.int .i64)).toArray) t)).cell? ⟨w.heap.size, j, none⟩ = some (.int .i64 (xs.getD j 0)) := by
  unfold World.cell?
  rw [show (w.alloc (.cells ((xs.map (Value.int .i64)).toArray) t)).heap[(⟨w.heap.size, j, none⟩ : Addr).block]? = _ from heap_alloc_new w _]
  simp [List.getD, List.getElem?_eq_getElem hj]
theorem tab_cells (w : World) (t : TypeId) (j : Nat) (hj : j < 33) : (w.alloc (.cells ((tab.map (Value.int .i64)).toArray) t)).cell? ⟨w.heap.size, j, none⟩ = some (.int .i64 (tab.getD j 0)) := row_cell w t tab j hj
theorem rsquash_in (x : Int) (w : World) (hx : -2047 ≤ x) (hy : x ≤ 2047) :
   Calls Tryz.prog 128 #[.int .i64 x] w fun e w' => e = .returned (.int .i64 (sqAt ((x + 2048) / 128) (x % 128))) ∧ Below w.heap.size w w' := by
  obtain ⟨d, hd⟩ : ∃ d : Nat, x / 128 + 16 = (d : Int) := ⟨((x + 2048) / 128).toNat, by omega⟩
  have c0 := fun w => tab_cells w 3 d (by omega)
  have c1 := fun w => tab_cells w 3 (d + 1) (by omega)
  have hb1 : (d : Int) < 32 := by omega
  have hd1 := Lib.hid (show (x + 2048) / 128 = (d : Int) by omega)
  have e0 := tb_le d (by omega)
  have e1 := tb_le (d + 1) (by omega)
  obtain ⟨m, hm⟩ : ∃ m, bits BinOp.and IntKind.i64 x 127 = m := ⟨_, rfl⟩
  have hm' : m = x % 128 := by rw [← hm, i64_and127]
  have hm0 : 0 ≤ m := by omega
  have hm1 : m < 128 := by omega
  have HM := Lib.hid hm'
  clear hm'
  obtain ⟨A, hA⟩ : ∃ A, tab.getD d 0 = A := ⟨_, rfl⟩
  obtain ⟨B, hB⟩ : ∃ B, tab.getD (d + 1) 0 = B := ⟨_, rfl⟩
  rw [hA] at c0 e0
  rw [hB] at c1 e1
  have HA := Lib.hid hA
  have HB := Lib.hid hB
  clear hA hB
  obtain ⟨p00, p01⟩ := mul_bd (a := A) (b := 128 - m) (m := 4094) (n := 128) e0.1 e0.2 (by omega) (by omega)
  obtain ⟨p10, p11⟩ := mul_bd (a := B) (b := m) (m := 4094) (n := 128) e1.1 e1.2 (by omega) (by omega)
  obtain ⟨e00, e01⟩ := e0
  obtain ⟨e10, e11⟩ := e1
  have C0 := Lib.hid (c0 w)
  have C1 := Lib.hid (c1 w)
  clear c0 c1
  go_enter Tryz.func128, Tryz.ntmps128
  go_wp2
  generalize hW : w.alloc _ = W
  have hb : Below w.heap.size w W := hW ▸ below_alloc (Below.refl _ _) _
  have c0 := C0.out
  have c1 := C1.out
  rw [show w.alloc (.cells ((tab.map (Value.int .i64)).toArray) 3) = W from hW] at c0 c1
  clear hW C0 C1
  have HBel := Lib.hid hb
  clear hb
  go_quiet (fail)
  go_wp2
  go_ret
  refine ⟨ret_int ?_, below_drewN HBel.out _⟩
  have h2 : (d : Int) + 1 = ((d + 1 : Nat) : Int) := by omega
  rw [hd1.out]
  simp only [sqAt, tb, h2, Int.toNat_natCast, HA.out, HB.out, ← HM.out]
theorem rsquash_any (x : Int) (w : World) :
   Calls Tryz.prog 128 #[.int .i64 x] w fun e w' => e = .returned (.int .i64 (sq x)) ∧ Below w.heap.size w w' := by
  by_cases h1 : 2047 < x
  · rw [show sq x = 4095 by simp [sq, h1]]
    go_enter Tryz.func128, Tryz.ntmps128
    go_wp2
    go_ret
    exact ⟨rfl, Below.refl _ _⟩
  · by_cases h2 : x < -2047
    · rw [show sq x = 0 by simp [sq, h1, h2]]
      go_enter Tryz.func128, Tryz.ntmps128
      go_wp2
      go_ret
      exact ⟨rfl, Below.refl _ _⟩
    · rw [show sq x = _ by simp only [sq, if_neg h1, if_neg h2]; exact rfl]
      exact rsquash_in x w (by omega) (by omega)
theorem rstretch_any (p : Int) (w : World) :
   Calls Tryz.prog 130 #[.int .i64 p] w fun e w' => e = .returned (num2 (stOk p) (st p) 600) ∧ Below w.heap.size w w' := by
  cases h : stOk p
  · have h' : (decide (0 ≤ p) && decide (p ≤ 4095)) = false := h
    go_enter Tryz.func130, Tryz.ntmps130
    go_wp2_with (go_at_call 78; refine (up_to _ _ _ _).mono ?_; rw [h']; rintro e w' ⟨rfl, rfl⟩)
    go_ret2
    exact ⟨rfl, Below.refl _ _⟩
  · have h' : (decide (0 ≤ p) && decide (p ≤ 4095)) = true := h
    obtain ⟨R, hR⟩ : ∃ R, bs 13 p 0 4094 = R := ⟨_, rfl⟩
    rw [show st p = R - 2047 by rw [← hR]; rfl]
    have HR := Lib.hid hR
    clear hR
    go_enter Tryz.func130, Tryz.ntmps130
    go_wp2_with (go_at_call 78; refine (up_to _ _ _ _).mono ?_; rw [h']; rintro e w' ⟨rfl, rfl⟩)
    go_loopw [4, 5] (fun v u wr => ∃ i j : Nat, v = .int .i64 ((i : Int) - 2047) ∧ u = .int .i64 ((j : Int) - 2047) ∧ i ≤ j ∧ j ≤ 4094 ∧ (∃ k, Hid (bs k p i j = R) ∧ Hid (j - i < 2 ^ k)) ∧ Hid (Below w.heap.size w wr)) (fun v u _ => (intOf u - intOf v).toNat)
    case atStart => exact ⟨0, 4094, rfl, rfl, by omega, by omega, ⟨13, HR, Lib.hid (by decide)⟩, Lib.hid (Below.refl _ _)⟩
    case round =>
      obtain ⟨i, j, rfl, rfl, hij, hj, ⟨k, HB, HK⟩, HBel⟩ := hrel
      by_cases hlt : i < j
      · obtain ⟨k, rfl⟩ := fuel_pos HK.out (by omega)
        have HK2 := Lib.hid (fuel_half HK.out)
        obtain ⟨m, hm⟩ : ∃ m : Int, ((i : Int) - 2047 + ((j : Int) - 2047)) / 2 = m := ⟨_, rfl⟩
        have HM := Lib.hid (show m = ((i : Int) + j) / 2 - 2047 by omega)
        cases hc : decide (p ≤ sq m)
        · go_wp2_with (go_at_call 128; refine (rsquash_any m _).mono ?_; rintro e w1 ⟨rfl, hb1⟩)
          have HB1 := Lib.hid hb1
          clear hb1 hm
          go_wp2
          go_roundw
          case rel =>
            refine ⟨(i + j) / 2 + 1, j, by rw [HM.out]; go_num, rfl, by omega, hj, ⟨k, Lib.hid ?_, Lib.hid (by have := HK2.out; omega)⟩, Lib.hid (below_next HBel.out HB1.out)⟩
            have hb := HB.out
            simp only [bs] at hb
            rw [if_pos (by omega), if_neg (by rw [← HM.out]; simpa using hc)] at hb
            rw [← hb]; congr 1
          case measure => have := HM.out; simp [intOf]; omega
        · go_wp2_with (go_at_call 128; refine (rsquash_any m _).mono ?_; rintro e w1 ⟨rfl, hb1⟩)
          have HB1 := Lib.hid hb1
          clear hb1 hm
          go_wp2
          go_roundw
          case rel =>
            refine ⟨i, (i + j) / 2, rfl, by rw [HM.out]; go_num, by omega, by omega, ⟨k, Lib.hid ?_, Lib.hid (by have := HK2.out; omega)⟩, Lib.hid (below_next HBel.out HB1.out)⟩
            have hb := HB.out
            simp only [bs] at hb
            rw [if_pos (by omega), if_pos (by rw [← HM.out]; simpa using hc)] at hb
            rw [← hb]; congr 1
          case measure => have := HM.out; simp [intOf]; omega
      · have hge : ¬ ((i : Int) - 2047 < (j : Int) - 2047) := by omega
        clear hlt
        go_wp2
        go_ret2
        exact ⟨ret_two (by have := bs_end HB.out (by omega); simp; omega) rfl, HBel.out⟩
end Go.Proofs.YtiokfaiioealdaaGreatDoor
