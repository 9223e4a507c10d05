/- The texts behind the row, joined: WLms WLmsL WChn WChnL. -/
import Derived.Test.YtiokfaiioealdaaGreatDoorQ14
import Derived.Test.YtiokfaiioealdaaGreatDoorQ16
namespace Go.Proofs.YtiokfaiioealdaaGreatDoor
open Go.RowKit Go.Proofs.YtiokfaiioealdaaGreatDoorW.PrintWords Go.Proofs.YtiokfaiioealdaaGreatDoorW.PrintLast Go.Proofs.YtiokfaiioealdaaGreatDoorW.PrintMore Go.Proofs.YtiokfaiioealdaaGreatDoor.L
set_option linter.unusedVariables false
set_option linter.unusedSimpArgs false
theorem lms_in (x m : Int) (w : World) (h0 : 0 ≤ m) (h1 : m ≤ 1000000000) : Calls Tryz.prog 212 #[.int .i64 x, .int .i64 m] w fun e w' => e = .returned (.bool (ins m x)) ∧ ∃ k, w' = w.drewN k := by
  have wm : IntKind.i64.wrap (-m) = -m := IntWalk.i64_in _ (by omega)
  unfold ins
  by_cases c : -m ≤ x
  · rw [decide_eq_true c, Bool.true_and]
    have c1 := eq_true c
    go_enter Tryz.func212, Tryz.ntmps212
    go_wp2_with (fail)
    go_ret
    exact ⟨rfl, 0, rfl⟩
  · rw [decide_eq_false c, Bool.false_and]
    have c1 := eq_false c
    go_enter Tryz.func212, Tryz.ntmps212
    go_wp2_with (fail)
    go_ret
    exact ⟨rfl, 0, rfl⟩
theorem lms_bound (x m : Int) (w : World) (h0 : 0 ≤ m) (h1 : m ≤ 1000000000) : Calls Tryz.prog 211 #[.int .i64 x, .int .i64 m] w fun e w' => e = .returned (.int .i64 (bnd x m)) ∧ ∃ k, w' = w.drewN k := by
  have wm : IntKind.i64.wrap (-m) = -m := IntWalk.i64_in _ (by omega)
  unfold bnd
  go_enter Tryz.func211, Tryz.ntmps211
  go_wp2_with (fail)
  go_ret
  exact ⟨rfl, 0, rfl⟩
theorem lms_sign (x : Int) (w : World) : Calls Tryz.prog 213 #[.int .i64 x] w fun e w' => e = .returned (.int .i64 (sgn x)) ∧ ∃ k, w' = w.drewN k := by
  unfold sgn
  by_cases c : 0 < x
  · rw [if_pos c]
    have c1 := eq_true c
    go_enter Tryz.func213, Tryz.ntmps213
    go_wp2_with (fail)
    go_ret
    exact ⟨rfl, 0, rfl⟩
  · rw [if_neg c]
    have c1 := eq_false c
    by_cases d : x < 0
    · rw [if_pos d]
      have d1 := eq_true d
      go_enter Tryz.func213, Tryz.ntmps213
      go_wp2_with (fail)
      go_ret
      exact ⟨rfl, 0, rfl⟩
    · rw [if_neg d]
      have d1 := eq_false d
      go_enter Tryz.func213, Tryz.ntmps213
      go_wp2_with (fail)
      go_ret
      exact ⟨rfl, 0, rfl⟩
theorem info8 : (Tryz.prog.info? 178).map (·.size) = some 8 := by kernel_rfl
theorem info16 : (Tryz.prog.info? 180).map (·.size) = some 16 := by kernel_rfl
def lmC (l : Lm) : List Value := ints (l.ws ++ l.hs)
theorem getD_mem {L : List Int} {i : Nat} (h : i < L.length) : L.getD i 0 ∈ L := by rw [List.getD_eq_getElem?_getD, List.getElem?_eq_getElem h]; exact List.getElem_mem h
theorem range_first {w : World} {g : Nat} {ws hs : List Int} (h : w.rangeAt g 0 (ints (ws ++ hs))) : w.rangeAt g 0 (ints ws) := by
  have := range_cut h 0 ws.length
  rw [show cut (ws ++ hs) 0 ws.length = ws by unfold cut; simp] at this
  exact this
set_option maxHeartbeats 8000000 in
set_option maxRecDepth 100000 in
theorem lms_may (l : Lm) (h : LmOk l) (w : World) : Calls Tryz.prog 210 #[.agg (lmC l).toArray] w fun e w' => e = .returned (.bool true) ∧ Below w.heap.size w w' := by
  obtain ⟨ws, hs⟩ := l
  obtain ⟨wl, hl, wb, hb⟩ := h
  simp only [] at wl hl wb hb
  unfold lmC
  simp only []
  have hX0 := L.BC.new w (ints (ws ++ hs)) 180
  have hB0 := L.below_alloc (Below.refl w.heap.size w) (.cells (ints (ws ++ hs)).toArray 180)
  have hRg := range_first hX0.range
  have hi8 : (Tryz.prog.info? 178).map (·.size) = some (ints ws).length := by rw [ints_length, wl]; exact info8
  have HI8 := Lib.hid hi8
  have HWL := Lib.hid wl
  have HHL := Lib.hid hl
  clear wl hl hi8
  go_enter Tryz.func210, Tryz.ntmps210
  go_wp2_with ((with_reducible refine wpList_load_mid rfl 178 (.tmp 5) rfl w.heap.size 0 ?hx (ints ws) _ hRg Tryz.underlying178 rfl HI8.out ?_); (case hx => show _ = Value.pointer _; rfl))
  generalize w.alloc (.cells (ints (ws ++ hs)).toArray 180) = w1 at hX0 hB0 hRg ⊢
  go_loopg [7] 8 (fun kq v7 W => ∃ (i : Nat), v7 = .int .i64 (i : Int) ∧ i + kq = 8 ∧ L.BC W w.heap.size 180 (ints (ws ++ hs)) ∧ Below w.heap.size w W)
  case atStart => exact ⟨0, by simp, by omega, hX0, hB0⟩
  case round =>
    clear hX0 hB0 hRg
    obtain ⟨i, rfl, hi, hX, hB⟩ := hrel
    by_cases c1 : i < 8
    · have c1d : decide ((i : Int) < 8) = true := decide_eq_true (by omega)
      have hix := fun W => run_index_ints (P := Tryz.prog) 178 3 8 Tryz.underlying178 Tryz.underlying3 size_int1 ws HWL.out .i64 i c1 W
      have hwl := HWL.out
      have hhl := HHL.out
      have ha := wb _ (getD_mem (show i < ws.length by omega))
      have hb1 := hb _ (getD_mem (show i < hs.length by omega))
      have hc : wr.cell? ⟨w.heap.size, 8 + i, none⟩ = some (.int .i64 (hs.getD i 0)) := by
        have := L.BC.at_ hX (ints_get (M := ws ++ hs) (j := 8 + i) (by rw [List.length_append]; omega))
        rw [List.getD_eq_getElem?_getD, List.getElem?_append_right (by omega), hwl, Nat.add_sub_cancel_left, ← List.getD_eq_getElem?_getD] at this
        exact this
      clear hwl hhl
      generalize ws.getD i 0 = a at *
      generalize hs.getD i 0 = b at *
      have h1 := fun W => lms_in a 1048576 W (by decide) (by decide)
      have h2 := fun W => lms_in b 4194304 W (by decide) (by decide)
      rw [ha] at h1
      rw [hb1] at h2
      replace h1 := Lib.hid h1
      replace h2 := Lib.hid h2
      clear ha hb1
      have p3 := eq_true (show (0 : Int) ≤ (i : Int) by omega)
      have q3 := eq_true (show (i : Int) < 8 by omega)
      have hcs : ∀ n, (wr.drewN n).cell? ⟨w.heap.size, 8 + i, none⟩ = some (.int .i64 b) := fun n => hc
      go_wp2_with (fail)
      refine (h1.out _).mono ?_
      rintro e w3 ⟨rfl, m3, rfl⟩
      go_wp2_with (fail)
      refine (h2.out _).mono ?_
      rintro e w5 ⟨rfl, m5, rfl⟩
      replace hX := L.BC.drewN (L.BC.drewN hX m3) m5
      replace hB := L.below_drewN (L.below_drewN hB m3) m5
      clear hc hcs
      generalize (wr.drewN m3).drewN m5 = w6 at hX hB ⊢
      go_wp2_with (fail)
      obtain ⟨j, rfl⟩ : ∃ j, gk = j + 1 := ⟨gk - 1, by omega⟩
      go_roundg j
      case measure => omega
      case rel => exact ⟨i + 1, by simp, by omega, hX, hB⟩
    · have c1d : decide ((i : Int) < 8) = false := decide_eq_false (by omega)
      go_wp2_with (fail)
      go_ret
      exact ⟨rfl, hB⟩
theorem mul_in {a b : Int} (ha : ins 1048576 a = true) (hb : ins 4194304 b = true) : -4398046511104 ≤ a * b ∧ a * b ≤ 4398046511104 := by
  obtain ⟨a1, a2⟩ := ins_iff.1 ha
  obtain ⟨b1, b2⟩ := ins_iff.1 hb
  have h : (a * b).natAbs ≤ 1048576 * 4194304 := by
    rw [Int.natAbs_mul]
    exact Nat.mul_le_mul (by omega) (by omega)
  omega
theorem ldot_drop {ws hs : List Int} {i : Nat} (h1 : i < ws.length) (h2 : i < hs.length) : ldot (ws.drop i) (hs.drop i) = ws.getD i 0 * hs.getD i 0 + ldot (ws.drop (i + 1)) (hs.drop (i + 1)) := by
  rw [List.drop_eq_getElem_cons h1, List.drop_eq_getElem_cons h2]
  show _ * _ + _ = _
  rw [List.getD_eq_getElem?_getD, List.getElem?_eq_getElem h1, List.getD_eq_getElem?_getD, List.getElem?_eq_getElem h2]
  rfl
set_option maxHeartbeats 8000000 in
set_option maxRecDepth 100000 in
theorem lms_guess (l : Lm) (h : LmOk l) (w : World) : Calls Tryz.prog 198 #[.agg (lmC l).toArray] w fun e w' => e = .returned (.tuple #[.int .i64 (lmG l), .int .i64 0]) ∧ Below w.heap.size w w' := by
  have hmay := fun W => lms_may l h W
  obtain ⟨ws, hs⟩ := l
  obtain ⟨wl, hl, wb, hb⟩ := h
  simp only [] at wl hl wb hb
  unfold lmC at hmay ⊢
  unfold lmG
  simp only [] at hmay ⊢
  have hX0 := L.BC.new w (ints (ws ++ hs)) 180
  have hB0 := L.below_alloc (Below.refl w.heap.size w) (.cells (ints (ws ++ hs)).toArray 180)
  have hi8 : (Tryz.prog.info? 178).map (·.size) = some (ints ws).length := by rw [ints_length, wl]; exact info8
  have hi16 : (Tryz.prog.info? 180).map (·.size) = some (ints (ws ++ hs)).length := by rw [ints_length, List.length_append, wl, hl]; exact info16
  have HI8 := Lib.hid hi8
  have HI16 := Lib.hid hi16
  have HWL := Lib.hid wl
  have HHL := Lib.hid hl
  replace hmay := Lib.hid hmay
  obtain ⟨G, hG⟩ : ∃ G, ldot ws hs = G := ⟨_, rfl⟩
  rw [hG]
  replace hG := Lib.hid hG
  clear wl hl hi8 hi16
  go_enter Tryz.func198, Tryz.ntmps198
  go_wp2_with ((with_reducible refine wpList_load_mid rfl 180 (.tmp 1) rfl w.heap.size 0 ?hx (ints (ws ++ hs)) _ hX0.range Tryz.underlying180 rfl HI16.out ?_); (case hx => show _ = Value.pointer _; rfl))
  generalize w.alloc (.cells (ints (ws ++ hs)).toArray 180) = w1 at hX0 hB0 ⊢
  refine (hmay.out _).mono ?_
  rintro e w2 ⟨rfl, hb2⟩
  replace hX0 := L.BC.below hX0 hb2
  replace hB0 := below_next hB0 hb2
  have hRg := range_first hX0.range
  clear hb2 hmay
  go_wp2_with ((with_reducible refine wpList_load_mid rfl 178 (.tmp 10) rfl w.heap.size 0 ?hx (ints ws) _ hRg Tryz.underlying178 rfl HI8.out ?_); (case hx => show _ = Value.pointer _; rfl))
  go_loopg [4, 12] 8 (fun kq v4 v12 W => ∃ (i : Nat) (sm : Int), v4 = .int .i64 sm ∧ v12 = .int .i64 (i : Int) ∧ i + kq = 8 ∧ sm + ldot (ws.drop i) (hs.drop i) = G ∧ -(4398046511104 * (i : Int)) ≤ sm ∧ sm ≤ 4398046511104 * (i : Int) ∧ L.BC W w.heap.size 180 (ints (ws ++ hs)) ∧ Below w.heap.size w W)
  case atStart => exact ⟨0, 0, rfl, by simp, by omega, by rw [List.drop_zero, List.drop_zero, hG.out]; omega, by simp, by simp, hX0, hB0⟩
  case round =>
    clear hX0 hB0 hRg
    obtain ⟨i, sm, rfl, rfl, hi, hsum, hs1, hs2, hX, hB⟩ := hrel
    by_cases c1 : i < 8
    · have c1d : decide ((i : Int) < 8) = true := decide_eq_true (by omega)
      have hix := fun W => run_index_ints (P := Tryz.prog) 178 3 8 Tryz.underlying178 Tryz.underlying3 size_int1 ws HWL.out .i64 i c1 W
      have hwl := HWL.out
      have hhl := HHL.out
      have ha := wb _ (getD_mem (show i < ws.length by omega))
      have hb1 := hb _ (getD_mem (show i < hs.length by omega))
      have hm := mul_in ha hb1
      have hc : wr.cell? ⟨w.heap.size, 8 + i, none⟩ = some (.int .i64 (hs.getD i 0)) := by
        have := L.BC.at_ hX (ints_get (M := ws ++ hs) (j := 8 + i) (by rw [List.length_append]; omega))
        rw [List.getD_eq_getElem?_getD, List.getElem?_append_right (by omega), hwl, Nat.add_sub_cancel_left, ← List.getD_eq_getElem?_getD] at this
        exact this
      rw [ldot_drop (by omega) (by omega)] at hsum
      clear hwl hhl ha hb1
      generalize ws.getD i 0 = a at *
      generalize hs.getD i 0 = b at *
      obtain ⟨ab, hab⟩ : ∃ ab, a * b = ab := ⟨_, rfl⟩
      rw [hab] at hm hsum
      have wab : IntKind.i64.wrap ab = ab := IntWalk.i64_in _ (by omega)
      have wsm : IntKind.i64.wrap (sm + ab) = sm + ab := IntWalk.i64_in _ (by omega)
      replace hsum := Lib.hid hsum
      have p3 := eq_true (show (0 : Int) ≤ (i : Int) by omega)
      have q3 := eq_true (show (i : Int) < 8 by omega)
      go_wp2_with (fail)
      obtain ⟨j, rfl⟩ : ∃ j, gk = j + 1 := ⟨gk - 1, by omega⟩
      go_roundg j
      case measure => omega
      case rel => exact ⟨i + 1, sm + ab, rfl, by simp, by omega, by have := hsum.out; omega, by omega, by omega, hX, hB⟩
    · have c1d : decide ((i : Int) < 8) = false := decide_eq_false (by omega)
      have hwl := HWL.out
      have hhl := HHL.out
      rw [List.drop_eq_nil_of_le (by omega), List.drop_eq_nil_of_le (by omega)] at hsum
      have hsG : sm = G := by have : sm + 0 = G := hsum; omega
      subst hsG
      clear hwl hhl hsum
      have hbd := fun W => lms_bound (sm / 4096) 1048576 W (by decide) (by decide)
      replace hbd := Lib.hid hbd
      go_wp2_with (fail)
      refine (hbd.out _).mono ?_
      rintro e w3 ⟨rfl, m3, rfl⟩
      replace hB := L.below_drewN hB m3
      go_wp2_with (fail)
      go_ret2
      exact ⟨rfl, hB⟩
end Go.Proofs.YtiokfaiioealdaaGreatDoor
namespace Go.Proofs.YtiokfaiioealdaaGreatDoor
open Go.RowKit Go.Proofs.YtiokfaiioealdaaGreatDoorW.PrintWords Go.Proofs.YtiokfaiioealdaaGreatDoorW.PrintLast Go.Proofs.YtiokfaiioealdaaGreatDoorW.PrintMore Go.Proofs.YtiokfaiioealdaaGreatDoor.L
set_option linter.unusedVariables false
set_option linter.unusedSimpArgs false
theorem sgn_in (x : Int) : -1 ≤ sgn x ∧ sgn x ≤ 1 := by unfold sgn; split; decide; split <;> decide
theorem sgn_mul (x y : Int) : -16 ≤ 16 * sgn x * sgn y ∧ 16 * sgn x * sgn y ≤ 16 := by
  unfold sgn
  split <;> split <;> (try split) <;> (try split) <;> decide
def wUp (d : Int) (ws hs : List Int) : List Int := List.zipWith (fun w h => bnd (w + 16 * sgn d * sgn h) 1048576) ws hs
theorem wUp_step {d : Int} {ws hs : List Int} {i : Nat} (h1 : ws.length = 8) (h2 : hs.length = 8) (hi : i < 8) : ((wUp d ws hs).take i ++ ws.drop i ++ hs).set i (bnd (ws.getD i 0 + 16 * sgn d * sgn (hs.getD i 0)) 1048576) = (wUp d ws hs).take (i + 1) ++ ws.drop (i + 1) ++ hs := by
  have hz : (wUp d ws hs).length = 8 := by unfold wUp; rw [List.length_zipWith, h1, h2]; rfl
  rw [List.drop_eq_getElem_cons (show i < ws.length by omega), List.take_succ_eq_append_getElem (show i < (wUp d ws hs).length by omega)]
  rw [List.append_assoc, List.set_append_right _ _ (by rw [List.length_take]; omega), List.length_take, Nat.min_eq_left (by omega), Nat.sub_self]
  rw [List.cons_append, List.set_cons_zero]
  unfold wUp
  rw [List.getElem_zipWith, List.getD_eq_getElem?_getD, List.getElem?_eq_getElem (show i < ws.length by omega), List.getD_eq_getElem?_getD, List.getElem?_eq_getElem (show i < hs.length by omega)]
  simp
theorem part_get {d : Int} {ws hs : List Int} {i : Nat} (h1 : ws.length = 8) (h2 : hs.length = 8) (hi : i < 8) : (ints ((wUp d ws hs).take i ++ ws.drop i ++ hs))[i]? = some (.int .i64 (ws.getD i 0)) ∧ (ints ((wUp d ws hs).take i ++ ws.drop i ++ hs))[8 + i]? = some (.int .i64 (hs.getD i 0)) := by
  have hz : (wUp d ws hs).length = 8 := by unfold wUp; rw [List.length_zipWith, h1, h2]; rfl
  have hl : ((wUp d ws hs).take i ++ ws.drop i).length = 8 := by rw [List.length_append, List.length_take, List.length_drop]; omega
  constructor
  · rw [ints_get (by rw [List.length_append, hl]; omega), List.getD_eq_getElem?_getD, List.getElem?_append_left (by rw [hl]; exact hi), List.getElem?_append_right (by rw [List.length_take]; omega), List.length_take, Nat.min_eq_left (by omega), Nat.sub_self, List.getElem?_drop, Nat.add_zero, List.getD_eq_getElem?_getD]
  · rw [ints_get (by rw [List.length_append, hl]; omega), List.getD_eq_getElem?_getD, List.getElem?_append_right (by rw [hl]; omega), hl, Nat.add_sub_cancel_left, List.getD_eq_getElem?_getD]
theorem bc_other {w : World} {g k t : Nat} {cs : List Value} (h : L.BC w g t cs) (hk : k ≠ g) : ∀ (vs : List Value) (o : Nat), L.BC (w.setCells k o vs) g t cs := fun vs o => by
  induction vs generalizing o w with
  | nil => exact h
  | cons v r ih => rw [World.setCells]; exact ih (L.BC.far h (p := ⟨k, o, none⟩) hk v) (o + 1)
set_option maxHeartbeats 8000000 in
set_option maxRecDepth 100000 in
theorem lms_learn (l : Lm) (h : LmOk l) (x : Int) (hx : ins 4194304 x = true) (w : World) : Calls Tryz.prog 199 #[.agg (lmC l).toArray, .int .i64 x] w fun e w' => e = .returned (.tuple #[.agg (lmC (lmL l x)).toArray, .int .i64 0]) ∧ Below w.heap.size w w' := by
  have hgs := fun W => lms_guess l h W
  have hGin := lmG_in l
  have hxin := ins_iff.1 hx
  unfold lmC lmL at *
  obtain ⟨ws, hs⟩ := l
  obtain ⟨wl, hl, wb, hb⟩ := h
  simp only [] at wl hl wb hb hgs ⊢
  obtain ⟨G, hG⟩ : ∃ G, lmG ⟨ws, hs⟩ = G := ⟨_, rfl⟩
  rw [hG] at hgs hGin ⊢
  obtain ⟨us, hus⟩ : ∃ us, List.zipWith (fun w h => bnd (w + 16 * sgn (x - G) * sgn h) 1048576) ws hs = us := ⟨_, rfl⟩
  rw [hus]
  have hU : wUp (x - G) ws hs = us := hus
  replace hU := Lib.hid hU
  replace hus := Lib.hid hus
  have hin := fun W => lms_in x 4194304 W (by decide) (by decide)
  rw [hx] at hin
  have hsg := fun W => lms_sign (x - G) W
  have hwv := sgn_in (x - G)
  have wxg : IntKind.i64.wrap (x - G) = x - G := IntWalk.i64_in _ (by omega)
  have hX0 := L.BC.new w (ints (ws ++ hs)) 180
  have hB0 := L.below_alloc (Below.refl w.heap.size w) (.cells (ints (ws ++ hs)).toArray 180)
  have hi16 : (Tryz.prog.info? 180).map (·.size) = some (ints (ws ++ hs)).length := by rw [ints_length, List.length_append, wl, hl]; exact info16
  have HI16 := Lib.hid hi16
  have HWL := Lib.hid wl
  have HHL := Lib.hid hl
  replace hgs := Lib.hid hgs
  replace hin := Lib.hid hin
  replace hsg := Lib.hid hsg
  clear wl hl hi16 hG hx
  go_enter Tryz.func199, Tryz.ntmps199
  go_wp2_with ((with_reducible refine wpList_load_mid rfl 180 (.tmp 2) rfl w.heap.size 0 ?hx (ints (ws ++ hs)) _ (L.BC.alloc hX0 _).range Tryz.underlying180 rfl HI16.out ?_); (case hx => show _ = Value.pointer _; rfl))
  have hX := L.BC.alloc hX0 (.cells #[.int .i64 0, .int .i64 0, .int .i64 0, .int .i64 0, .int .i64 0, .int .i64 0, .int .i64 0, .int .i64 0, .int .i64 0, .int .i64 0, .int .i64 0, .int .i64 0, .int .i64 0, .int .i64 0, .int .i64 0, .int .i64 0] 180)
  have hB := L.below_alloc hB0 (.cells #[.int .i64 0, .int .i64 0, .int .i64 0, .int .i64 0, .int .i64 0, .int .i64 0, .int .i64 0, .int .i64 0, .int .i64 0, .int .i64 0, .int .i64 0, .int .i64 0, .int .i64 0, .int .i64 0, .int .i64 0, .int .i64 0] 180)
  have hZ : L.BC ((w.alloc (.cells (ints (ws ++ hs)).toArray 180)).alloc (.cells #[.int .i64 0, .int .i64 0, .int .i64 0, .int .i64 0, .int .i64 0, .int .i64 0, .int .i64 0, .int .i64 0, .int .i64 0, .int .i64 0, .int .i64 0, .int .i64 0, .int .i64 0, .int .i64 0, .int .i64 0, .int .i64 0] 180)) (w.heap.size + 1) 180 (ints [0, 0, 0, 0, 0, 0, 0, 0, 0, 0, 0, 0, 0, 0, 0, 0]) := by
    have := L.BC.new (w.alloc (.cells (ints (ws ++ hs)).toArray 180)) (ints [0, 0, 0, 0, 0, 0, 0, 0, 0, 0, 0, 0, 0, 0, 0, 0]) 180
    rw [show (w.alloc (.cells (ints (ws ++ hs)).toArray 180)).heap.size = w.heap.size + 1 by simp] at this
    exact this
  clear hX0 hB0
  generalize (w.alloc (.cells (ints (ws ++ hs)).toArray 180)).alloc (.cells #[.int .i64 0, .int .i64 0, .int .i64 0, .int .i64 0, .int .i64 0, .int .i64 0, .int .i64 0, .int .i64 0, .int .i64 0, .int .i64 0, .int .i64 0, .int .i64 0, .int .i64 0, .int .i64 0, .int .i64 0, .int .i64 0] 180) = w1 at hX hB hZ ⊢
  refine (hgs.out _).mono ?_
  rintro e w2 ⟨rfl, hb2⟩
  replace hX := L.BC.below hX hb2
  replace hZ := L.BC.below hZ hb2
  replace hB := below_next hB hb2
  clear hb2 hgs
  go_wp2_with (fail)
  refine (hin.out _).mono ?_
  rintro e w3 ⟨rfl, m3, rfl⟩
  go_wp2_with (fail)
  refine (hsg.out _).mono ?_
  rintro e w4 ⟨rfl, m4, rfl⟩
  replace hX := L.BC.drewN (L.BC.drewN hX m3) m4
  replace hZ := L.BC.drewN (L.BC.drewN hZ m3) m4
  replace hB := L.below_drewN (L.below_drewN hB m3) m4
  generalize (w2.drewN m3).drewN m4 = w5 at hX hZ hB ⊢
  clear hin hsg
  obtain ⟨dd, hdd⟩ : ∃ dd, x - G = dd := ⟨_, rfl⟩
  rw [hdd] at hwv wxg hU ⊢
  replace hdd := Lib.hid hdd
  have hmulw := sgn_mul dd
  obtain ⟨way, hway⟩ : ∃ way, sgn dd = way := ⟨_, rfl⟩
  have hstep : ∀ i, i < 8 → ((wUp dd ws hs).take i ++ ws.drop i ++ hs).set i (bnd (ws.getD i 0 + 16 * way * sgn (hs.getD i 0)) 1048576) = (wUp dd ws hs).take (i + 1) ++ ws.drop (i + 1) ++ hs := fun i hi => by rw [← hway]; exact wUp_step HWL.out HHL.out hi
  rw [hway] at hwv hmulw ⊢
  replace hway := Lib.hid hway
  replace hstep := Lib.hid hstep
  replace hmulw := Lib.hid hmulw
  have ww1 : IntKind.i64.wrap (16 * way) = 16 * way := IntWalk.i64_in _ (by omega)
  go_wp2_with (fail)
  go_loopg [27] 8 (fun kq v27 W => ∃ (i : Nat), v27 = .int .i64 (i : Int) ∧ i + kq = 8 ∧ L.BC W w.heap.size 180 (ints ((wUp dd ws hs).take i ++ ws.drop i ++ hs)) ∧ L.BC W (w.heap.size + 1) 180 (ints [0, 0, 0, 0, 0, 0, 0, 0, 0, 0, 0, 0, 0, 0, 0, 0]) ∧ Below w.heap.size w W)
  case atStart => exact ⟨0, by simp, by omega, by rw [List.take_zero, List.drop_zero, List.nil_append]; exact hX, hZ, hB⟩
  case round =>
    clear hX hZ hB
    obtain ⟨i, rfl, hi, hX, hZ, hB⟩ := hrel
    by_cases c1 : i < 8
    · have c1d : decide ((i : Int) < 8) = true := decide_eq_true (by omega)
      obtain ⟨k1, k2⟩ := part_get (d := dd) HWL.out HHL.out c1
      have hst := hstep.out i c1
      have hwl := HWL.out
      have hhl := HHL.out
      have ha := ins_iff.1 (wb _ (getD_mem (show i < ws.length by omega)))
      clear hwl hhl
      generalize ws.getD i 0 = a at *
      generalize hs.getD i 0 = b at *
      have hsb := sgn_in b
      have hmb := hmulw.out b
      obtain ⟨sb, hsbd⟩ : ∃ sb, sgn b = sb := ⟨_, rfl⟩
      have hsgb := fun W => lms_sign b W
      rw [hsbd] at hsb hmb hst hsgb
      obtain ⟨pr, hpr⟩ : ∃ pr, 16 * way * sb = pr := ⟨_, rfl⟩
      rw [hpr] at hmb hst
      have ww2 : IntKind.i64.wrap (16 * way * sb) = pr := by rw [hpr]; exact IntWalk.i64_in _ (by omega)
      have ww3 : IntKind.i64.wrap (a + pr) = a + pr := IntWalk.i64_in _ (by omega)
      have hbd := fun W => lms_bound (a + pr) 1048576 W (by decide) (by decide)
      obtain ⟨nv, hnv⟩ : ∃ nv, bnd (a + pr) 1048576 = nv := ⟨_, rfl⟩
      rw [hnv] at hbd hst
      replace hbd := Lib.hid hbd
      replace hsgb := Lib.hid hsgb
      replace hst := Lib.hid hst
      replace hnv := Lib.hid hnv
      replace hpr := Lib.hid hpr
      replace hsbd := Lib.hid hsbd
      have p3 := eq_true (show (0 : Int) ≤ (i : Int) by omega)
      have q3 := eq_true (show (i : Int) < 8 by omega)
      have hgl : w.heap.size ≠ w.heap.size + 1 := by omega
      go_wp2_with (fail)
      replace hX := L.BC.drew hX
      replace hZ := L.BC.drew hZ
      replace hB := L.below_drew hB
      refine start_ (n := 18) (S := fun w' => w'.cell? ⟨w.heap.size, i, none⟩ = some (.int .i64 a) ∧ w'.cell? ⟨w.heap.size, 8 + i, none⟩ = some (.int .i64 b)) (ds := [17]) #[false, false, false, false, false, false, false, false, false, false, false, false, false, false, false, false, false, false] (by kernel_rfl) rfl rfl ⟨L.BC.at_ hX k1, L.BC.at_ hX k2⟩ (fun hHeld => ?_)
      generalize wr.drew = wa at hX hZ hB hHeld ⊢
      refine pure_ (i := 0) (N := (some 30)) (v := ?_) (a' := ?_) #[true, false, false, false, false, false, false, false, false, false, false, false, false, false, false, false, false, false] rfl rfl (by kernel_rfl) (fun _ _ _ h => h) (Or.inl ⟨by rfl, ?_⟩) ?_ ?_
      rotate_left
      · intro w'
        go_simp
        with_reducible rfl
      rotate_left
      · simp only [Act.put, List.setIfInBounds_toArray, List.set_cons_zero, List.set_cons_succ, i64_w, i32_w]
        rfl
      refine pure_ (i := 1) (N := (some 31)) (v := ?_) (a' := ?_) #[true, true, false, false, false, false, false, false, false, false, false, false, false, false, false, false, false, false] rfl rfl (by kernel_rfl) (fun _ _ _ h => h) (Or.inl ⟨by rfl, ?_⟩) ?_ ?_
      rotate_left
      · intro w'
        go_simp
        with_reducible rfl
      rotate_left
      · simp only [Act.put, List.setIfInBounds_toArray, List.set_cons_zero, List.set_cons_succ, i64_w, i32_w]
        rfl
      refine pure_ (i := 2) (N := (some 32)) (v := ?_) (a' := ?_) #[true, true, true, false, false, false, false, false, false, false, false, false, false, false, false, false, false, false] rfl rfl (by kernel_rfl) (fun _ _ _ h => h) (Or.inl ⟨by rfl, ?_⟩) ?_ ?_
      rotate_left
      · intro w'
        go_simp
        with_reducible rfl
      rotate_left
      · simp only [Act.put, List.setIfInBounds_toArray, List.set_cons_zero, List.set_cons_succ, i64_w, i32_w]
        rfl
      refine pure_ (i := 5) (N := (some 35)) (v := ?_) (a' := ?_) #[true, true, true, false, false, true, false, false, false, false, false, false, false, false, false, false, false, false] rfl rfl (by kernel_rfl) (fun _ _ _ h => h) (Or.inl ⟨by rfl, ?_⟩) ?_ ?_
      rotate_left
      · intro w'
        go_simp
        with_reducible rfl
      rotate_left
      · simp only [Act.put, List.setIfInBounds_toArray, List.set_cons_zero, List.set_cons_succ, i64_w, i32_w]
        rfl
      refine pure_ (i := 7) (N := (some 37)) (v := ?_) (a' := ?_) #[true, true, true, false, false, true, false, true, false, false, false, false, false, false, false, false, false, false] rfl rfl (by kernel_rfl) (fun _ _ _ h => h) (Or.inl ⟨by rfl, ?_⟩) ?_ ?_
      rotate_left
      · intro w'
        go_simp
        with_reducible rfl
      rotate_left
      · simp only [Act.put, List.setIfInBounds_toArray, List.set_cons_zero, List.set_cons_succ, i64_w, i32_w]
        rfl
      refine pure_ (i := 8) (N := (some 38)) (v := ?_) (a' := ?_) #[true, true, true, false, false, true, false, true, true, false, false, false, false, false, false, false, false, false] rfl rfl (by kernel_rfl) (fun _ _ _ h => h) (Or.inl ⟨by rfl, ?_⟩) ?_ ?_
      rotate_left
      · intro w'
        go_simp
        with_reducible rfl
      rotate_left
      · simp only [Act.put, List.setIfInBounds_toArray, List.set_cons_zero, List.set_cons_succ, i64_w, i32_w]
        rfl
      refine pure_ (i := 15) (N := (some 45)) (v := ?_) (a' := ?_) #[true, true, true, false, false, true, false, true, true, false, false, false, false, false, false, true, false, false] rfl rfl (by kernel_rfl) (fun _ _ _ h => h) (Or.inl ⟨by rfl, ?_⟩) ?_ ?_
      rotate_left
      · intro w'
        go_simp
        with_reducible rfl
      rotate_left
      · simp only [Act.put, List.setIfInBounds_toArray, List.set_cons_zero, List.set_cons_succ, i64_w, i32_w]
        rfl
      refine pure_ (i := 3) (N := (some 33)) (v := ?_) (a' := ?_) #[true, true, true, true, false, true, false, true, true, false, false, false, false, false, false, true, false, false] rfl rfl (by kernel_rfl) (fun _ _ _ h => h) (Or.inl ⟨by rfl, ?_⟩) ?_ ?_
      rotate_left
      · intro w'
        go_simp
        with_reducible rfl
      rotate_left
      · simp only [Act.put, List.setIfInBounds_toArray, List.set_cons_zero, List.set_cons_succ, i64_w, i32_w]
        rfl
      refine pure_ (i := 9) (N := (some 39)) (v := ?_) (a' := ?_) #[true, true, true, true, false, true, false, true, true, true, false, false, false, false, false, true, false, false] rfl rfl (by kernel_rfl) (fun _ _ _ h => h) (Or.inl ⟨by rfl, ?_⟩) ?_ ?_
      rotate_left
      · intro w'
        go_simp
        with_reducible rfl
      rotate_left
      · simp only [Act.put, List.setIfInBounds_toArray, List.set_cons_zero, List.set_cons_succ, i64_w, i32_w]
        rfl
      refine take_ (i := 4) (N := (some 34)) (v := ?_) (a' := ?_) #[true, true, true, true, true, true, false, true, true, true, false, false, false, false, false, true, false, false] rfl rfl (by kernel_rfl) (fun _ _ _ h => h) (Or.inl ⟨by rfl, ?_⟩) hHeld ?_ ?_
      rotate_left
      · rintro w' ⟨s0, s1⟩
        go_simp
        with_reducible rfl
      rotate_left
      · simp only [Act.put, List.setIfInBounds_toArray, List.set_cons_zero, List.set_cons_succ, i64_w, i32_w]
        rfl
      refine take_ (i := 10) (N := (some 40)) (v := ?_) (a' := ?_) #[true, true, true, true, true, true, false, true, true, true, true, false, false, false, false, true, false, false] rfl rfl (by kernel_rfl) (fun _ _ _ h => h) (Or.inl ⟨by rfl, ?_⟩) hHeld ?_ ?_
      rotate_left
      · rintro w' ⟨s0, s1⟩
        go_simp
        with_reducible rfl
      rotate_left
      · simp only [Act.put, List.setIfInBounds_toArray, List.set_cons_zero, List.set_cons_succ, i64_w, i32_w]
        rfl
      refine pure_ (i := 6) (N := (some 36)) (v := ?_) (a' := ?_) #[true, true, true, true, true, true, true, true, true, true, true, false, false, false, false, true, false, false] rfl rfl (by kernel_rfl) (fun _ _ _ h => h) (Or.inl ⟨by rfl, ?_⟩) ?_ ?_
      rotate_left
      · intro w'
        go_simp
        with_reducible rfl
      rotate_left
      · simp only [Act.put, List.setIfInBounds_toArray, List.set_cons_zero, List.set_cons_succ, i64_w, i32_w]
        rfl
      refine one_ (i := 11) (N := (some 41)) #[true, true, true, true, true, true, true, true, true, true, true, true, false, false, false, true, false, false] rfl rfl (by kernel_rfl) (by decide) (fun K hK => ?_)
      refine goes_ Tryz.func213 (by kernel_rfl) rfl #[.int .i64 b] (by rfl) rfl rfl (by (try simp only [List.map_toArray, List.map_cons, List.map_nil]); first | done | rfl) ?_
      refine (hsgb.out _).mono ?_
      rintro e we ⟨rfl, mm, rfl⟩
      refine ⟨_, rfl, ?_⟩
      replace hX := L.BC.drewN hX mm
      replace hZ := L.BC.drewN hZ mm
      replace hB := L.below_drewN hB mm
      clear hHeld
      refine hK.out _ _ ⟨L.BC.at_ hX k1, L.BC.at_ hX k2⟩ (fun hHeld => ?_)
      clear hK K
      generalize wa.drewN mm = w_c at hX hZ hB hHeld ⊢
      refine norm_ (a' := ?_) ?_ ?_
      rotate_left
      · show Act.put _ (some 41) _ = _
        simp only [Act.put, List.setIfInBounds_toArray, List.set_cons_zero, List.set_cons_succ, i64_w, i32_w]
        rfl
      refine pure_ (i := 12) (N := (some 42)) (v := ?_) (a' := ?_) #[true, true, true, true, true, true, true, true, true, true, true, true, true, false, false, true, false, false] rfl rfl (by kernel_rfl) (fun _ _ _ h => h) (Or.inl ⟨by rfl, ?_⟩) ?_ ?_
      rotate_left
      · intro w'
        go_simp
        with_reducible rfl
      rotate_left
      · simp only [Act.put, List.setIfInBounds_toArray, List.set_cons_zero, List.set_cons_succ, i64_w, i32_w]
        rfl
      refine pure_ (i := 13) (N := (some 43)) (v := ?_) (a' := ?_) #[true, true, true, true, true, true, true, true, true, true, true, true, true, true, false, true, false, false] rfl rfl (by kernel_rfl) (fun _ _ _ h => h) (Or.inl ⟨by rfl, ?_⟩) ?_ ?_
      rotate_left
      · intro w'
        go_simp
        with_reducible rfl
      rotate_left
      · simp only [Act.put, List.setIfInBounds_toArray, List.set_cons_zero, List.set_cons_succ, i64_w, i32_w]
        rfl
      refine one_ (i := 14) (N := (some 44)) #[true, true, true, true, true, true, true, true, true, true, true, true, true, true, true, true, false, false] rfl rfl (by kernel_rfl) (by decide) (fun K hK => ?_)
      refine goes_ Tryz.func211 (by kernel_rfl) rfl #[.int .i64 (a + pr), .int .i64 1048576] (by rfl) rfl rfl (by (try simp only [List.map_toArray, List.map_cons, List.map_nil]); first | done | rfl) ?_
      refine (hbd.out _).mono ?_
      rintro e we ⟨rfl, mn, rfl⟩
      refine ⟨_, rfl, ?_⟩
      replace hX := L.BC.drewN hX mn
      replace hZ := L.BC.drewN hZ mn
      replace hB := L.below_drewN hB mn
      clear hHeld
      refine hK.out _ _ ⟨L.BC.at_ hX k1, L.BC.at_ hX k2⟩ (fun hHeld => ?_)
      clear hK K
      generalize w_c.drewN mn = w_d at hX hZ hB hHeld ⊢
      refine norm_ (a' := ?_) ?_ ?_
      rotate_left
      · show Act.put _ (some 44) _ = _
        simp only [Act.put, List.setIfInBounds_toArray, List.set_cons_zero, List.set_cons_succ, i64_w, i32_w]
        rfl
      refine pure_ (i := 16) (N := (some 46)) (v := ?_) (a' := ?_) #[true, true, true, true, true, true, true, true, true, true, true, true, true, true, true, true, true, false] rfl rfl (by kernel_rfl) (fun _ _ _ h => h) (Or.inl ⟨by rfl, ?_⟩) ?_ ?_
      rotate_left
      · intro w'
        go_simp
        with_reducible rfl
      rotate_left
      · simp only [Act.put, List.setIfInBounds_toArray, List.set_cons_zero, List.set_cons_succ, i64_w, i32_w]
        rfl
      refine last_ (i := 17) (N := none) #[true, true, true, true, true, true, true, true, true, true, true, true, true, true, true, true, true, true] rfl rfl (by kernel_rfl) (by decide) (fun K hK => ?_)
      have y0 := L.BC.at_ hX k1
      have f0 := L.BC.frozen hX i
      refine skip_ (w1 := w_d.setCell ⟨w.heap.size, i, none⟩ (.int .i64 nv)) (by rfl) rfl ?_ ?_
      · go_simp
      have hX2 := L.BC.set hX i (.int .i64 nv)
      rw [ints_set, hst.out] at hX2
      replace hZ := L.BC.far hZ (p := ⟨w.heap.size, i, none⟩) hgl (.int .i64 nv)
      replace hB := hB.setCell (p := ⟨w.heap.size, i, none⟩) (Nat.le_refl _) (.int .i64 nv)
      clear y0 f0 hX hHeld
      refine hK.out _ _ ?_
      clear hK K
      generalize w_d.setCell ⟨w.heap.size, i, none⟩ (.int .i64 nv) = w_e at hX2 hZ hB ⊢
      refine done_ (by kernel_rfl) ?_
      go_wp2_with (fail)
      obtain ⟨j, rfl⟩ : ∃ j, gk = j + 1 := ⟨gk - 1, by omega⟩
      go_roundg j
      case measure => omega
      case rel => exact ⟨i + 1, by simp, by omega, hX2, hZ, hB⟩
    · have c1d : decide ((i : Int) < 8) = false := decide_eq_false (by omega)
      obtain rfl : i = 8 := by omega
      have hz8 : (wUp dd ws hs).length = 8 := by unfold wUp; rw [List.length_zipWith, HWL.out, HHL.out]; rfl
      rw [List.take_of_length_le (by omega), List.drop_eq_nil_of_le (by rw [HWL.out]; omega), List.append_nil] at hX
      rw [hU.out] at hX hz8
      go_wp2_with (fail)
      replace hX := L.BC.drew hX
      replace hZ := L.BC.drew hZ
      replace hB := L.below_drew hB
      refine start_ (n := 5) (S := fun _ => True) (ds := []) #[false, false, false, false, false] (by kernel_rfl) rfl rfl trivial (fun hHeld => ?_)
      generalize wr.drew = wa at hX hZ hB hHeld ⊢
      refine pure_ (i := 0) (N := (some 48)) (v := ?_) (a' := ?_) #[true, false, false, false, false] rfl rfl (by kernel_rfl) (fun _ _ _ h => h) (Or.inl ⟨by rfl, ?_⟩) ?_ ?_
      rotate_left
      · intro w'
        go_simp
        with_reducible rfl
      rotate_left
      · simp only [Act.put, List.setIfInBounds_toArray, List.set_cons_zero, List.set_cons_succ, i64_w, i32_w]
        rfl
      refine pure_ (i := 2) (N := (some 50)) (v := ?_) (a' := ?_) #[true, false, true, false, false] rfl rfl (by kernel_rfl) (fun _ _ _ h => h) (Or.inl ⟨by rfl, ?_⟩) ?_ ?_
      rotate_left
      · intro w'
        go_simp
        with_reducible rfl
      rotate_left
      · simp only [Act.put, List.setIfInBounds_toArray, List.set_cons_zero, List.set_cons_succ, i64_w, i32_w]
        rfl
      refine pure_ (i := 1) (N := (some 49)) (v := ?_) (a' := ?_) #[true, true, true, false, false] rfl rfl (by kernel_rfl) (fun _ _ _ h => h) (Or.inl ⟨by rfl, ?_⟩) ?_ ?_
      rotate_left
      · intro w'
        go_simp
        with_reducible rfl
      rotate_left
      · simp only [Act.put, List.setIfInBounds_toArray, List.set_cons_zero, List.set_cons_succ, i64_w, i32_w]
        rfl
      refine pure_ (i := 3) (N := (some 51)) (v := ?_) (a' := ?_) #[true, true, true, true, false] rfl rfl (by kernel_rfl) (fun _ _ _ h => h) (Or.inl ⟨by rfl, ?_⟩) ?_ ?_
      rotate_left
      · intro w'
        go_simp
        with_reducible rfl
      rotate_left
      · simp only [Act.put, List.setIfInBounds_toArray, List.set_cons_zero, List.set_cons_succ, i64_w, i32_w]
        rfl
      refine one_ (i := 4) (N := (some 52)) #[true, true, true, true, true] rfl rfl (by kernel_rfl) (by decide) (fun K hK => ?_)
      have hl16 : (us ++ hs).length = 16 := by rw [List.length_append, hz8, HHL.out]
      have hlt : ∀ j, j < 16 → wa.cell? ⟨w.heap.size, j, none⟩ = some (.int .i64 ((us ++ hs).getD j 0)) := fun j hj => L.BC.at_ hX (ints_get (by rw [hl16]; exact hj))
      have hcopy := run_copy_cells (P := Tryz.prog) wa 22 22 3 3 w.heap.size 9 7 7 ⟨w.heap.size, 8, none⟩ 7 8 (ints (hs.take 7)) Tryz.underlying22 (by kernel_rfl) (by rw [ints_length, List.length_take, HHL.out]; rfl)
        (fun j v hv => by
          have hj : j < 7 := by have := (List.getElem?_eq_some_iff.1 hv).1; rw [ints_length, List.length_take] at this; omega
          rw [ints_get (by rw [List.length_take, HHL.out]; exact hj), Option.some.injEq] at hv
          rw [← hv]
          have := hlt (8 + j) (by omega)
          rw [List.getD_eq_getElem?_getD, List.getElem?_append_right (by omega), hz8, Nat.add_sub_cancel_left] at this
          rw [List.getD_eq_getElem?_getD, List.getElem?_take_of_lt hj]
          cases j with
          | zero => simpa [Addr.add] using this
          | succ j => simpa [Addr.add] using this)
        (fun j hj => by rw [ints_length, List.length_take] at hj; rw [hlt (9 + j) (by omega)]; rfl)
        (fun j hj => L.BC.frozen hX (9 + j)) (ints_one _)
      rw [show (ints (hs.take 7)).length = 7 by rw [ints_length, List.length_take, HHL.out]; rfl] at hcopy
      refine event_step (w1 := wa.setCells w.heap.size 9 (ints (hs.take 7))) (v := .int .i64 7) (by rfl) ?_ ?_
      · go_simp
      have hX2 := L.bc_setCells (ints (hs.take 7)) 9 wa w.heap.size _ _ hX
      have hh : hs = [hs.getD 0 0] ++ hs.drop 1 := by
        have h8 := HHL.out
        cases hs with
        | nil => cases h8
        | cons a r => rfl
      have hlaid : bcLaid (ints (us ++ hs)) 9 (ints (hs.take 7)) = ints (us ++ ([hs.getD 0 0] ++ hs.take 7)) := by
        have h8 := HHL.out
        have := bcLaid_pre (ints (hs.take 7)) (ints (us ++ [hs.getD 0 0])) (ints (hs.drop 1)) [] (by rw [ints_length, ints_length, List.length_drop, List.length_take, h8]; rfl)
        rw [ints_length, List.length_append, hz8] at this
        have e1 : ints (us ++ hs) = ints (us ++ [hs.getD 0 0]) ++ ints (hs.drop 1) ++ [] := by
          rw [List.append_nil]
          unfold ints
          rw [← List.map_append, List.append_assoc, ← hh]
        have e2 : ints (us ++ ([hs.getD 0 0] ++ hs.take 7)) = ints (us ++ [hs.getD 0 0]) ++ ints (hs.take 7) ++ [] := by
          rw [List.append_nil]
          unfold ints
          rw [← List.map_append, List.append_assoc]
        rw [e1, e2]
        exact this
      rw [hlaid] at hX2
      have hZ2 := bc_other hZ (show w.heap.size ≠ w.heap.size + 1 by omega) (ints (hs.take 7)) 9
      have hB2 := L.bc_below_setCells (Nat.le_refl _) (ints (hs.take 7)) 9 _ hB
      clear hX hZ hB hlt hcopy hlaid hh
      generalize wa.setCells w.heap.size 9 (ints (hs.take 7)) = w8 at hX2 hZ2 hB2 ⊢
      refine hK.out _ _ trivial (fun hHeld => ?_)
      clear hK K
      refine norm_ (a' := ?_) ?_ ?_
      rotate_left
      · show Act.put _ (some 52) _ = _
        simp only [Act.put, List.setIfInBounds_toArray, List.set_cons_zero, List.set_cons_succ, i64_w, i32_w]
        rfl
      refine done_ (by kernel_rfl) ?_
      have hset : (us ++ ([hs.getD 0 0] ++ hs.take 7)).set 8 x = us ++ x :: hs.take 7 := by
        rw [List.set_append_right _ _ (by omega), hz8]; rfl
      have hX3 := L.BC.set hX2 8 (.int .i64 x)
      rw [ints_set, hset] at hX3
      have hZ3 := L.BC.far hZ2 (p := ⟨w.heap.size, 8, none⟩) (show w.heap.size ≠ w.heap.size + 1 by omega) (.int .i64 x)
      have hB3 := hB2.setCell (p := ⟨w.heap.size, 8, none⟩) (Nat.le_refl _) (.int .i64 x)
      have hn16 : (us ++ x :: hs.take 7).length = 16 := by rw [List.length_append, List.length_cons, List.length_take, hz8, HHL.out]; rfl
      have y8 := L.BC.at_ hX2 (ints_get (M := us ++ ([hs.getD 0 0] ++ hs.take 7)) (j := 8) (by rw [List.length_append, hz8]; simp))
      have f8 := L.BC.frozen hX2 8
      have hi16b : (Tryz.prog.info? 180).map (·.size) = some (ints (us ++ x :: hs.take 7)).length := by rw [ints_length, hn16]; exact info16
      have HI16b := Lib.hid hi16b
      have hsz : (ints (us ++ x :: hs.take 7)).toArray.size = 16 := by rw [List.size_toArray, ints_length, hn16]
      have hth : (w8.setCell ⟨w.heap.size, 8, none⟩ (.int .i64 x)).there (w.heap.size + 1) 0 (ints (us ++ x :: hs.take 7)).toArray.size := by rw [hsz]; exact hZ3.there (n := 16) (by decide)
      have HTH := Lib.hid hth
      have hia : (Tryz.prog.info? 180).map (·.size) = some (ints (us ++ x :: hs.take 7)).toArray.size := by rw [hsz]; exact info16
      have HIA := Lib.hid hia
      have hov := L.BC.over (R := ints (us ++ x :: hs.take 7)) hZ3 (show (ints [0, 0, 0, 0, 0, 0, 0, 0, 0, 0, 0, 0, 0, 0, 0, 0]).length = (ints (us ++ x :: hs.take 7)).length by rw [ints_length, ints_length, hn16]; rfl)
      have hbo := L.bc_below_setCells (Nat.le_succ _) (ints (us ++ x :: hs.take 7)) 0 _ hB3
      clear hth hia hsz hn16
      clear hi16b hset hZ2 hB2 hZ3 hB3
      go_wp2_with (first | ((with_reducible refine wpList_load_mid rfl 180 (.tmp 2) rfl w.heap.size 0 ?hx (ints (us ++ x :: hs.take 7)) _ hX3.range Tryz.underlying180 rfl HI16b.out ?_); (case hx => show _ = Value.pointer _; rfl)) | ((with_reducible refine wpList_store_mid rfl 180 (.tmp 4) (.tmp 56) rfl (w.heap.size + 1) 0 (ints (us ++ x :: hs.take 7)).toArray ?hx ?hy HTH.out HIA.out (all_oneCell_toArray (ints_one _)) ?_); (case hx => rfl); (case hy => rfl)))
      exact bodyPost_ret (L.bc_resultst (P := Tryz.prog) Tryz.results199 _ _ (w.heap.size + 1) _ _ rfl hov.range Tryz.underlying180 rfl HI16b.out) rfl ⟨rfl, hbo⟩
end Go.Proofs.YtiokfaiioealdaaGreatDoor
namespace Go.Proofs.YtiokfaiioealdaaGreatDoor
open Go.RowKit Go.Proofs.YtiokfaiioealdaaGreatDoorW.PrintWords Go.Proofs.YtiokfaiioealdaaGreatDoorW.PrintLast Go.Proofs.YtiokfaiioealdaaGreatDoorW.PrintMore Go.Proofs.YtiokfaiioealdaaGreatDoor.L
set_option linter.unusedVariables false
set_option linter.unusedSimpArgs false
theorem chn_sample (x : Int) (w : World) : Calls Tryz.prog 174 #[.int .i64 x] w fun e w' => e = .returned (.bool (smpOk x)) ∧ ∃ k, w' = w.drewN k := by
  unfold smpOk ins
  by_cases c : -131072 ≤ x
  · rw [decide_eq_true c, Bool.true_and]
    have c1 := eq_true c
    go_enter Tryz.func174, Tryz.ntmps174
    go_wp2_with (fail)
    go_ret
    exact ⟨rfl, 0, rfl⟩
  · rw [decide_eq_false c, Bool.false_and]
    have c1 := eq_false c
    go_enter Tryz.func174, Tryz.ntmps174
    go_wp2_with (fail)
    go_ret
    exact ⟨rfl, 0, rfl⟩
theorem info33 : (Tryz.prog.info? 182).map (·.size) = some 33 := by kernel_rfl
/-- A chain's numbers, laid out. -/
def chN (c : Ch) : List Int := c.last :: ((c.a.ws ++ c.a.hs) ++ (c.b.ws ++ c.b.hs))
def chC (c : Ch) : List Value := ints (chN c)
theorem chN_len {c : Ch} (h : ChOk c) : (chN c).length = 33 := by
  unfold chN
  rw [List.length_cons, List.length_append, List.length_append, List.length_append, h.a.wl, h.a.hl, h.b.wl, h.b.hl]
theorem cut_a {c : Ch} (h : ChOk c) : cut (chN c) 1 16 = c.a.ws ++ c.a.hs := by
  unfold cut chN
  rw [List.drop_succ_cons, List.drop_zero, List.take_append_of_le_length (by rw [List.length_append, h.a.wl, h.a.hl]; decide), List.take_of_length_le (by rw [List.length_append, h.a.wl, h.a.hl]; decide)]
theorem cut_b {c : Ch} (h : ChOk c) : cut (chN c) 17 16 = c.b.ws ++ c.b.hs := by
  unfold cut chN
  have hl : (c.a.ws ++ c.a.hs).length = 16 := by rw [List.length_append, h.a.wl, h.a.hl]
  rw [List.drop_succ_cons, ← hl, List.drop_left, hl, List.take_of_length_le (by rw [List.length_append, h.b.wl, h.b.hl]; decide)]
theorem range_a {w : World} {g : Nat} {c : Ch} (h : ChOk c) (hr : w.rangeAt g 0 (chC c)) : w.rangeAt g 1 (lmC c.a) := by
  have := range_cut hr 1 16
  rw [cut_a h] at this
  exact this
theorem range_b {w : World} {g : Nat} {c : Ch} (h : ChOk c) (hr : w.rangeAt g 0 (chC c)) : w.rangeAt g 17 (lmC c.b) := by
  have := range_cut hr 17 16
  rw [cut_b h] at this
  exact this
theorem lmC_info {l : Lm} (h : LmOk l) : (Tryz.prog.info? 180).map (·.size) = some (lmC l).length := by
  unfold lmC; rw [ints_length, List.length_append, h.wl, h.hl]; exact info16
theorem chC_info {c : Ch} (h : ChOk c) : (Tryz.prog.info? 182).map (·.size) = some (chC c).length := by
  unfold chC; rw [ints_length, chN_len h]; exact info33
set_option maxHeartbeats 8000000 in
set_option maxRecDepth 100000 in
theorem chn_may (c : Ch) (h : ChOk c) (w : World) : Calls Tryz.prog 197 #[.agg (chC c).toArray] w fun e w' => e = .returned (.bool true) ∧ Below w.heap.size w w' := by
  have hs := fun W => chn_sample c.last W
  rw [h.last] at hs
  have ha := fun W => lms_may c.a h.a W
  have hb := fun W => lms_may c.b h.b W
  have hX := L.BC.new w (chC c) 182
  have hB := L.below_alloc (Below.refl w.heap.size w) (.cells (chC c).toArray 182)
  have HIA := Lib.hid (lmC_info h.a)
  have HIB := Lib.hid (lmC_info h.b)
  have x0 : (w.alloc (.cells (chC c).toArray 182)).cell? ⟨w.heap.size, 0, none⟩ = some (.int .i64 c.last) := L.BC.at_ hX (o := 0) rfl
  replace hs := Lib.hid hs
  replace ha := Lib.hid ha
  replace hb := Lib.hid hb
  have H := Lib.hid h
  clear h
  go_enter Tryz.func197, Tryz.ntmps197
  go_wp2_with (fail)
  generalize w.alloc (.cells (chC c).toArray 182) = w1 at hX hB x0 ⊢
  refine (hs.out _).mono ?_
  rintro e w2 ⟨rfl, m2, rfl⟩
  replace hX := L.BC.drewN hX m2
  replace hB := L.below_drewN hB m2
  clear x0 hs
  generalize w1.drewN m2 = w3 at hX hB ⊢
  have hra := range_a H.out hX.range
  go_wp2_with (refine gate_guard (by rfl) ?_; (with_reducible refine wpList_load_mid rfl 180 (.tmp 7) rfl w.heap.size 1 ?hx (lmC c.a) _ hra Tryz.underlying180 rfl HIA.out ?_); (case hx => show _ = Value.pointer _; rfl))
  refine (ha.out _).mono ?_
  rintro e w4 ⟨rfl, hb4⟩
  replace hX := L.BC.below hX hb4
  replace hB := below_next hB hb4
  clear hb4 ha hra
  have hrb := range_b H.out hX.range
  go_wp2_with (refine gate_guard (by rfl) ?_; (with_reducible refine wpList_load_mid rfl 180 (.tmp 12) rfl w.heap.size 17 ?hx (lmC c.b) _ hrb Tryz.underlying180 rfl HIB.out ?_); (case hx => show _ = Value.pointer _; rfl))
  refine (hb.out _).mono ?_
  rintro e w5 ⟨rfl, hb5⟩
  replace hB := below_next hB hb5
  go_wp2_with (fail)
  go_ret
  exact ⟨rfl, hB⟩
set_option maxHeartbeats 8000000 in
set_option maxRecDepth 100000 in
theorem chn_guess (c : Ch) (h : ChOk c) (w : World) : Calls Tryz.prog 176 #[.agg (chC c).toArray] w fun e w' => e = .returned (.tuple #[.int .i64 (chG c), .int .i64 0]) ∧ Below w.heap.size w w' := by
  have hm := fun W => chn_may c h W
  have ha := fun W => lms_guess c.a h.a W
  have hb := fun W => lms_guess c.b h.b W
  have hX := L.BC.new w (chC c) 182
  have hB := L.below_alloc (Below.refl w.heap.size w) (.cells (chC c).toArray 182)
  have HIA := Lib.hid (lmC_info h.a)
  have HIB := Lib.hid (lmC_info h.b)
  have HIC := Lib.hid (chC_info h)
  have l1 := ins_iff.1 h.last
  have l2 := lmG_in c.a
  have l3 := lmG_in c.b
  have w1' : IntKind.i64.wrap (c.last + lmG c.a) = c.last + lmG c.a := IntWalk.i64_in _ (by omega)
  have w2' : IntKind.i64.wrap (c.last + lmG c.a + lmG c.b) = c.last + lmG c.a + lmG c.b := IntWalk.i64_in _ (by omega)
  replace hm := Lib.hid hm
  replace ha := Lib.hid ha
  replace hb := Lib.hid hb
  have H := Lib.hid h
  clear h
  unfold chG
  go_enter Tryz.func176, Tryz.ntmps176
  go_wp2_with ((with_reducible refine wpList_load_mid rfl 182 (.tmp 1) rfl w.heap.size 0 ?hx (chC c) _ hX.range Tryz.underlying182 rfl HIC.out ?_); (case hx => show _ = Value.pointer _; rfl))
  generalize w.alloc (.cells (chC c).toArray 182) = w1 at hX hB ⊢
  refine (hm.out _).mono ?_
  rintro e w4 ⟨rfl, hb4⟩
  replace hX := L.BC.below hX hb4
  replace hB := below_next hB hb4
  clear hb4 hm
  have hra := range_a H.out hX.range
  go_wp2_with ((with_reducible refine wpList_load_mid rfl 180 (.tmp 12) rfl w.heap.size 1 ?hx (lmC c.a) _ hra Tryz.underlying180 rfl HIA.out ?_); (case hx => show _ = Value.pointer _; rfl))
  refine (ha.out _).mono ?_
  rintro e w5 ⟨rfl, hb5⟩
  replace hX := L.BC.below hX hb5
  replace hB := below_next hB hb5
  clear hb5 ha hra
  have hrb := range_b H.out hX.range
  go_wp2_with ((with_reducible refine wpList_load_mid rfl 180 (.tmp 18) rfl w.heap.size 17 ?hx (lmC c.b) _ hrb Tryz.underlying180 rfl HIB.out ?_); (case hx => show _ = Value.pointer _; rfl))
  refine (hb.out _).mono ?_
  rintro e w6 ⟨rfl, hb6⟩
  replace hX := L.BC.below hX hb6
  replace hB := below_next hB hb6
  clear hb6 hb hrb
  have x0 : w6.cell? ⟨w.heap.size, 0, none⟩ = some (.int .i64 c.last) := L.BC.at_ hX (o := 0) rfl
  go_wp2_with (fail)
  go_ret2
  exact ⟨rfl, hB⟩
theorem bcLaid_at (L R : List Int) (o : Nat) (P S T : List Int) (hL : L = P ++ S ++ T) (ho : P.length = o) (hS : S.length = R.length) : bcLaid (ints L) o (ints R) = ints (P ++ R ++ T) := by
  subst hL ho
  have := bcLaid_pre (ints R) (ints P) (ints S) (ints T) (by rw [ints_length, ints_length, hS])
  rw [ints_length] at this
  unfold ints at this ⊢
  rw [List.map_append, List.map_append, List.map_append, List.map_append]
  exact this
theorem there_at {w : World} {g t o n : Nat} {cs : List Value} (h : L.BC w g t cs) (hn : o + n ≤ cs.length) : w.there g o n := fun j hj => by
  have hl : o + j < cs.length := by omega
  exact ⟨by rw [L.BC.at_ h (List.getElem?_eq_getElem hl)]; rfl, L.BC.frozen h (o + j)⟩
end Go.Proofs.YtiokfaiioealdaaGreatDoor
namespace Go.Proofs.YtiokfaiioealdaaGreatDoor
open Go.RowKit Go.Proofs.YtiokfaiioealdaaGreatDoorW.PrintWords Go.Proofs.YtiokfaiioealdaaGreatDoorW.PrintLast Go.Proofs.YtiokfaiioealdaaGreatDoorW.PrintMore Go.Proofs.YtiokfaiioealdaaGreatDoor.L
set_option linter.unusedVariables false
set_option linter.unusedSimpArgs false
theorem lmC_one (l : Lm) : ∀ v ∈ lmC l, v.oneCell' = true := ints_one _
theorem chC_one (c : Ch) : ∀ v ∈ chC c, v.oneCell' = true := ints_one _
theorem lm_len {l : Lm} (h : LmOk l) : (l.ws ++ l.hs).length = 16 := by rw [List.length_append, h.wl, h.hl]
theorem ch_put_b {w : World} {g t : Nat} {c : Ch} {l : Lm} (h : L.BC w g t (chC c)) (hc : ChOk c) (hl : LmOk l) : L.BC (w.setCells g 17 (lmC l)) g t (chC ⟨c.last, c.a, l⟩) := by
  have := L.bc_setCells (lmC l) 17 w g _ _ h
  unfold chC lmC at this ⊢
  rw [bcLaid_at (chN c) (l.ws ++ l.hs) 17 (c.last :: (c.a.ws ++ c.a.hs)) (c.b.ws ++ c.b.hs) [] (by unfold chN; simp) (by rw [List.length_cons, lm_len hc.a]) (by rw [lm_len hc.b, lm_len hl])] at this
  rw [List.append_nil] at this
  exact this
theorem ch_put_a {w : World} {g t : Nat} {c : Ch} {l : Lm} (h : L.BC w g t (chC c)) (hc : ChOk c) (hl : LmOk l) : L.BC (w.setCells g 1 (lmC l)) g t (chC ⟨c.last, l, c.b⟩) := by
  have := L.bc_setCells (lmC l) 1 w g _ _ h
  unfold chC lmC at this ⊢
  rw [bcLaid_at (chN c) (l.ws ++ l.hs) 1 [c.last] (c.a.ws ++ c.a.hs) (c.b.ws ++ c.b.hs) (by unfold chN; simp) rfl (by rw [lm_len hc.a, lm_len hl])] at this
  have e : chN ⟨c.last, l, c.b⟩ = [c.last] ++ (l.ws ++ l.hs) ++ (c.b.ws ++ c.b.hs) := by unfold chN; simp
  rw [e]
  exact this
theorem ch_put_x {w : World} {g t : Nat} {c : Ch} (h : L.BC w g t (chC c)) (x : Int) : L.BC (w.setCell ⟨g, 0, none⟩ (.int .i64 x)) g t (chC ⟨x, c.a, c.b⟩) := L.BC.set h 0 (.int .i64 x)
set_option maxHeartbeats 8000000 in
set_option maxRecDepth 100000 in
theorem chn_learn (c : Ch) (h : ChOk c) (x : Int) (hx : smpOk x = true) (w : World) : Calls Tryz.prog 177 #[.agg (chC c).toArray, .int .i64 x] w fun e w' => e = .returned (.tuple #[.agg (chC (chL c x)).toArray, .int .i64 0]) ∧ Below w.heap.size w w' := by
  have l1 := ins_iff.1 h.last
  have l2 := lmG_in c.a
  have l4 := ins_iff.1 hx
  have hm := fun W => chn_may c h W
  have hs := fun W => chn_sample x W
  rw [hx] at hs
  have hg := fun W => lms_guess c.a h.a W
  have hlb := fun W => lms_learn c.b h.b (x - c.last - lmG c.a) (ins_iff.2 (by omega)) W
  have hla := fun W => lms_learn c.a h.a (x - c.last) (ins_iff.2 (by omega)) W
  have hob := lmL_ok h.b (x := x - c.last - lmG c.a) (ins_iff.2 (by omega))
  have hoa := lmL_ok h.a (x := x - c.last) (ins_iff.2 (by omega))
  have wd : IntKind.i64.wrap (x - c.last) = x - c.last := IntWalk.i64_in _ (by omega)
  have wd2 : IntKind.i64.wrap (x - c.last - lmG c.a) = x - c.last - lmG c.a := IntWalk.i64_in _ (by omega)
  unfold chL
  generalize lmL c.b (x - c.last - lmG c.a) = B2 at *
  generalize lmL c.a (x - c.last) = A2 at *
  have ho1 : ChOk ⟨c.last, c.a, B2⟩ := ⟨h.last, h.a, hob⟩
  have ho3 : ChOk ⟨x, A2, B2⟩ := ⟨hx, hoa, hob⟩
  have hX0 := L.BC.new w (chC c) 182
  have hB0 := L.below_alloc (Below.refl w.heap.size w) (.cells (chC c).toArray 182)
  have hX := L.BC.alloc hX0 (.cells #[.int .i64 0, .int .i64 0, .int .i64 0, .int .i64 0, .int .i64 0, .int .i64 0, .int .i64 0, .int .i64 0, .int .i64 0, .int .i64 0, .int .i64 0, .int .i64 0, .int .i64 0, .int .i64 0, .int .i64 0, .int .i64 0, .int .i64 0, .int .i64 0, .int .i64 0, .int .i64 0, .int .i64 0, .int .i64 0, .int .i64 0, .int .i64 0, .int .i64 0, .int .i64 0, .int .i64 0, .int .i64 0, .int .i64 0, .int .i64 0, .int .i64 0, .int .i64 0, .int .i64 0] 182)
  have hB := L.below_alloc hB0 (.cells #[.int .i64 0, .int .i64 0, .int .i64 0, .int .i64 0, .int .i64 0, .int .i64 0, .int .i64 0, .int .i64 0, .int .i64 0, .int .i64 0, .int .i64 0, .int .i64 0, .int .i64 0, .int .i64 0, .int .i64 0, .int .i64 0, .int .i64 0, .int .i64 0, .int .i64 0, .int .i64 0, .int .i64 0, .int .i64 0, .int .i64 0, .int .i64 0, .int .i64 0, .int .i64 0, .int .i64 0, .int .i64 0, .int .i64 0, .int .i64 0, .int .i64 0, .int .i64 0, .int .i64 0] 182)
  have hZ : L.BC ((w.alloc (.cells (chC c).toArray 182)).alloc (.cells #[.int .i64 0, .int .i64 0, .int .i64 0, .int .i64 0, .int .i64 0, .int .i64 0, .int .i64 0, .int .i64 0, .int .i64 0, .int .i64 0, .int .i64 0, .int .i64 0, .int .i64 0, .int .i64 0, .int .i64 0, .int .i64 0, .int .i64 0, .int .i64 0, .int .i64 0, .int .i64 0, .int .i64 0, .int .i64 0, .int .i64 0, .int .i64 0, .int .i64 0, .int .i64 0, .int .i64 0, .int .i64 0, .int .i64 0, .int .i64 0, .int .i64 0, .int .i64 0, .int .i64 0] 182)) (w.heap.size + 1) 182 (ints [0, 0, 0, 0, 0, 0, 0, 0, 0, 0, 0, 0, 0, 0, 0, 0, 0, 0, 0, 0, 0, 0, 0, 0, 0, 0, 0, 0, 0, 0, 0, 0, 0]) := by
    have := L.BC.new (w.alloc (.cells (chC c).toArray 182)) (ints [0, 0, 0, 0, 0, 0, 0, 0, 0, 0, 0, 0, 0, 0, 0, 0, 0, 0, 0, 0, 0, 0, 0, 0, 0, 0, 0, 0, 0, 0, 0, 0, 0]) 182
    rw [show (w.alloc (.cells (chC c).toArray 182)).heap.size = w.heap.size + 1 by simp] at this
    exact this
  have HIC := Lib.hid (chC_info h)
  have HI3 := Lib.hid (chC_info ho3)
  have HIA := Lib.hid (lmC_info h.a)
  have HIB := Lib.hid (lmC_info h.b)
  have HIA2 := Lib.hid (lmC_info hoa)
  have HIB2 := Lib.hid (lmC_info hob)
  replace hm := Lib.hid hm
  replace hs := Lib.hid hs
  replace hg := Lib.hid hg
  replace hla := Lib.hid hla
  replace hlb := Lib.hid hlb
  have H := Lib.hid h
  clear h hX0 hB0
  go_enter Tryz.func177, Tryz.ntmps177
  go_wp2_with ((with_reducible refine wpList_load_mid rfl 182 (.tmp 2) rfl w.heap.size 0 ?hx (chC c) _ hX.range Tryz.underlying182 rfl HIC.out ?_); (case hx => show _ = Value.pointer _; rfl))
  generalize (w.alloc (.cells (chC c).toArray 182)).alloc _ = w1 at hX hB hZ ⊢
  refine (hm.out _).mono ?_
  rintro e w2 ⟨rfl, hb2⟩
  replace hX := L.BC.below hX hb2
  replace hZ := L.BC.below hZ hb2
  replace hB := below_next hB hb2
  clear hb2 hm
  go_wp2_with (fail)
  refine (hs.out _).mono ?_
  rintro e w3 ⟨rfl, m3, rfl⟩
  replace hX := L.BC.drewN hX m3
  replace hZ := L.BC.drewN hZ m3
  replace hB := L.below_drewN hB m3
  clear hs
  generalize w2.drewN m3 = w4 at hX hZ hB ⊢
  have x0 : w4.cell? ⟨w.heap.size, 0, none⟩ = some (.int .i64 c.last) := L.BC.at_ hX (o := 0) rfl
  have hra := range_a H.out hX.range
  go_wp2_with ((with_reducible refine wpList_load_mid rfl 180 (.tmp 23) rfl w.heap.size 1 ?hx (lmC c.a) _ hra Tryz.underlying180 rfl HIA.out ?_); (case hx => show _ = Value.pointer _; rfl))
  refine (hg.out _).mono ?_
  rintro e w5 ⟨rfl, hb5⟩
  replace hX := L.BC.below hX hb5
  replace hZ := L.BC.below hZ hb5
  replace hB := below_next hB hb5
  clear hb5 hg hra x0
  have hrb := range_b H.out hX.range
  go_wp2_with ((with_reducible refine wpList_load_mid rfl 180 (.tmp 29) rfl w.heap.size 17 ?hx (lmC c.b) _ hrb Tryz.underlying180 rfl HIB.out ?_); (case hx => show _ = Value.pointer _; rfl))
  refine (hlb.out _).mono ?_
  rintro e w6 ⟨rfl, hb6⟩
  replace hX := L.BC.below hX hb6
  replace hZ := L.BC.below hZ hb6
  replace hB := below_next hB hb6
  clear hb6 hlb hrb
  have hXb := ch_put_b hX H.out hob
  have hZb := bc_other hZ (show w.heap.size ≠ w.heap.size + 1 by omega) (lmC B2) 17
  have hBb := L.bc_below_setCells (Nat.le_refl _) (lmC B2) 17 _ hB
  have htb := Lib.hid (there_at (o := 17) (n := (lmC B2).toArray.size) hX (by unfold chC lmC; rw [List.size_toArray, ints_length, ints_length, chN_len H.out, lm_len hob]; decide))
  have hib : (Tryz.prog.info? 180).map (·.size) = some (lmC B2).toArray.size := by rw [List.size_toArray]; exact HIB2.out
  have HIB3 := Lib.hid hib
  have hra := range_a ho1 hXb.range
  clear hib
  go_wp2_with (first | ((with_reducible refine wpList_store_mid rfl 180 (.tmp 37) (.tmp 35) rfl w.heap.size 17 (lmC B2).toArray ?hx ?hy htb.out HIB3.out (all_oneCell_toArray (lmC_one B2)) ?_); (case hx => rfl); (case hy => rfl)) | ((with_reducible refine wpList_load_mid rfl 180 (.tmp 39) rfl w.heap.size 1 ?hx (lmC c.a) _ hra Tryz.underlying180 rfl HIA.out ?_); (case hx => show _ = Value.pointer _; rfl)))
  have e1 : (lmC B2).toArray.toList = lmC B2 := rfl
  generalize hW7 : World.setCells w6 w.heap.size 17 _ = w7
  have hW7' : w6.setCells w.heap.size 17 (lmC B2) = w7 := hW7
  rw [hW7'] at hXb hZb hBb
  clear hX hZ hB htb HIB3 hra hW7 hW7' e1
  refine (hla.out _).mono ?_
  rintro e w8 ⟨rfl, hb8⟩
  replace hXb := L.BC.below hXb hb8
  replace hZb := L.BC.below hZb hb8
  replace hBb := below_next hBb hb8
  clear hb8 hla
  have hXa := ch_put_a hXb ho1 hoa
  have hZa := bc_other hZb (show w.heap.size ≠ w.heap.size + 1 by omega) (lmC A2) 1
  have hBa := L.bc_below_setCells (Nat.le_refl _) (lmC A2) 1 _ hBb
  have hta := Lib.hid (there_at (o := 1) (n := (lmC A2).toArray.size) hXb (by unfold chC lmC; rw [List.size_toArray, ints_length, ints_length, chN_len ho1, lm_len hoa]; decide))
  have hia : (Tryz.prog.info? 180).map (·.size) = some (lmC A2).toArray.size := by rw [List.size_toArray]; exact HIA2.out
  have HIA3 := Lib.hid hia
  clear hia
  have hX3 := ch_put_x hXa x
  have hZ3 := L.BC.far hZa (p := ⟨w.heap.size, 0, none⟩) (show w.heap.size ≠ w.heap.size + 1 by omega) (.int .i64 x)
  have hB3 := hBa.setCell (p := ⟨w.heap.size, 0, none⟩) (Nat.le_refl _) (.int .i64 x)
  have y0 : (w8.setCells w.heap.size 1 (lmC A2)).cell? ⟨w.heap.size, 0, none⟩ = some (.int .i64 c.last) := L.BC.at_ hXa (o := 0) rfl
  have f0 : (w8.setCells w.heap.size 1 (lmC A2)).frozen? ⟨w.heap.size, 0, none⟩ = false := L.BC.frozen hXa 0
  simp only [] at hX3
  have hsz : (chC ⟨x, A2, B2⟩).toArray.size = 33 := by unfold chC; rw [List.size_toArray, ints_length, chN_len ho3]
  have hth : ((w8.setCells w.heap.size 1 (lmC A2)).setCell ⟨w.heap.size, 0, none⟩ (.int .i64 x)).there (w.heap.size + 1) 0 (chC ⟨x, A2, B2⟩).toArray.size := by rw [hsz]; exact hZ3.there (n := 33) (by decide)
  have HTH := Lib.hid hth
  have hi3 : (Tryz.prog.info? 182).map (·.size) = some (chC ⟨x, A2, B2⟩).toArray.size := by rw [hsz]; exact info33
  have HI3b := Lib.hid hi3
  have hov := L.BC.over (R := chC ⟨x, A2, B2⟩) hZ3 (by unfold chC; rw [ints_length, ints_length, chN_len ho3]; rfl)
  have hbo := L.bc_below_setCells (Nat.le_succ _) (chC ⟨x, A2, B2⟩) 0 _ hB3
  clear hth hi3 hsz hXb hZb hBb hXa hZa hBa hZ3 hB3
  go_wp2_with (first | ((with_reducible refine wpList_store_mid rfl 180 (.tmp 45) (.tmp 43) rfl w.heap.size 1 (lmC A2).toArray ?hx ?hy hta.out HIA3.out (all_oneCell_toArray (lmC_one A2)) ?_); (case hx => rfl); (case hy => rfl); (show wpList _ _ _ _ _ (w8.setCells w.heap.size 1 (lmC A2)))) | ((with_reducible refine wpList_load_mid rfl 182 (.tmp 2) rfl w.heap.size 0 ?hx (chC ⟨x, A2, B2⟩) _ hX3.range Tryz.underlying182 rfl HI3.out ?_); (case hx => show _ = Value.pointer _; rfl)) | ((with_reducible refine wpList_store_mid rfl 182 (.tmp 4) (.tmp 48) rfl (w.heap.size + 1) 0 (chC ⟨x, A2, B2⟩).toArray ?hx ?hy HTH.out HI3b.out (all_oneCell_toArray (chC_one _)) ?_); (case hx => rfl); (case hy => rfl)))
  exact bodyPost_ret (L.bc_resultst (P := Tryz.prog) Tryz.results177 _ _ (w.heap.size + 1) _ _ rfl hov.range Tryz.underlying182 rfl HI3.out) rfl ⟨rfl, hbo⟩
def zeroC : List Value := ints [0, 0, 0, 0, 0, 0, 0, 0, 0, 0, 0, 0, 0, 0, 0, 0, 0, 0, 0, 0, 0, 0, 0, 0, 0, 0, 0, 0, 0, 0, 0, 0, 0]
theorem zeroC_one : ∀ v ∈ zeroC, v.oneCell' = true := ints_one _
set_option maxHeartbeats 8000000 in
set_option maxRecDepth 100000 in
theorem chn_learn_no (c : Ch) (h : ChOk c) (x : Int) (hx : smpOk x = false) (w : World) : Calls Tryz.prog 177 #[.agg (chC c).toArray, .int .i64 x] w fun e w' => e = .returned (.tuple #[.agg zeroC.toArray, .int .i64 1500]) ∧ Below w.heap.size w w' := by
  obtain ⟨res, hres⟩ : ∃ r, Value.tuple #[.agg zeroC.toArray, .int .i64 1500] = r := ⟨_, rfl⟩
  rw [hres]
  have hm := fun W => chn_may c h W
  have hs := fun W => chn_sample x W
  rw [hx] at hs
  have hX0 := L.BC.new w (chC c) 182
  have hB0 := L.below_alloc (Below.refl w.heap.size w) (.cells (chC c).toArray 182)
  have hX := L.BC.alloc hX0 (.cells #[.int .i64 0, .int .i64 0, .int .i64 0, .int .i64 0, .int .i64 0, .int .i64 0, .int .i64 0, .int .i64 0, .int .i64 0, .int .i64 0, .int .i64 0, .int .i64 0, .int .i64 0, .int .i64 0, .int .i64 0, .int .i64 0, .int .i64 0, .int .i64 0, .int .i64 0, .int .i64 0, .int .i64 0, .int .i64 0, .int .i64 0, .int .i64 0, .int .i64 0, .int .i64 0, .int .i64 0, .int .i64 0, .int .i64 0, .int .i64 0, .int .i64 0, .int .i64 0, .int .i64 0] 182)
  have hB := L.below_alloc hB0 (.cells #[.int .i64 0, .int .i64 0, .int .i64 0, .int .i64 0, .int .i64 0, .int .i64 0, .int .i64 0, .int .i64 0, .int .i64 0, .int .i64 0, .int .i64 0, .int .i64 0, .int .i64 0, .int .i64 0, .int .i64 0, .int .i64 0, .int .i64 0, .int .i64 0, .int .i64 0, .int .i64 0, .int .i64 0, .int .i64 0, .int .i64 0, .int .i64 0, .int .i64 0, .int .i64 0, .int .i64 0, .int .i64 0, .int .i64 0, .int .i64 0, .int .i64 0, .int .i64 0, .int .i64 0] 182)
  have hZ : L.BC ((w.alloc (.cells (chC c).toArray 182)).alloc (.cells #[.int .i64 0, .int .i64 0, .int .i64 0, .int .i64 0, .int .i64 0, .int .i64 0, .int .i64 0, .int .i64 0, .int .i64 0, .int .i64 0, .int .i64 0, .int .i64 0, .int .i64 0, .int .i64 0, .int .i64 0, .int .i64 0, .int .i64 0, .int .i64 0, .int .i64 0, .int .i64 0, .int .i64 0, .int .i64 0, .int .i64 0, .int .i64 0, .int .i64 0, .int .i64 0, .int .i64 0, .int .i64 0, .int .i64 0, .int .i64 0, .int .i64 0, .int .i64 0, .int .i64 0] 182)) (w.heap.size + 1) 182 zeroC := by
    have := L.BC.new (w.alloc (.cells (chC c).toArray 182)) zeroC 182
    rw [show (w.alloc (.cells (chC c).toArray 182)).heap.size = w.heap.size + 1 by simp] at this
    exact this
  have HIC := Lib.hid (chC_info h)
  replace hm := Lib.hid hm
  replace hs := Lib.hid hs
  clear h hX0 hB0
  go_enter Tryz.func177, Tryz.ntmps177
  go_wp2_with ((with_reducible refine wpList_load_mid rfl 182 (.tmp 2) rfl w.heap.size 0 ?hx (chC c) _ hX.range Tryz.underlying182 rfl HIC.out ?_); (case hx => show _ = Value.pointer _; rfl))
  generalize (w.alloc (.cells (chC c).toArray 182)).alloc _ = w1 at hX hB hZ ⊢
  refine (hm.out _).mono ?_
  rintro e w2 ⟨rfl, hb2⟩
  replace hZ := L.BC.below hZ hb2
  replace hB := below_next hB hb2
  clear hb2 hm hX
  go_wp2_with (fail)
  refine (hs.out _).mono ?_
  rintro e w3 ⟨rfl, m3, rfl⟩
  replace hZ := L.BC.drewN hZ m3
  replace hB := L.below_drewN hB m3
  clear hs
  generalize w2.drewN m3 = w4 at hZ hB ⊢
  obtain ⟨Z, hZd⟩ : ∃ Z : List Value, zeroC = Z := ⟨_, rfl⟩
  have hlen : Z.length = 33 := by rw [← hZd]; rfl
  have hone : ∀ v ∈ Z, v.oneCell' = true := by rw [← hZd]; exact zeroC_one
  rw [hZd] at hZ hres
  replace hres := Lib.hid hres
  have hth : w4.there (w.heap.size + 1) 0 Z.toArray.size := hZ.there (n := Z.toArray.size) (by rw [List.size_toArray]; exact Nat.le_refl _)
  have hi3 : (Tryz.prog.info? 182).map (·.size) = some Z.toArray.size := by rw [List.size_toArray, hlen]; exact info33
  have hi4 : (Tryz.prog.info? 182).map (·.size) = some Z.length := by rw [hlen]; exact info33
  have hov := L.BC.over (R := Z) hZ rfl
  have hbo := L.bc_below_setCells (Nat.le_succ _) Z 0 _ hB
  replace hZd := Lib.hid hZd
  replace hlen := Lib.hid hlen
  replace hi4 := Lib.hid hi4
  have hi3' := Lib.hid hi3
  clear hi3
  go_wp2_with ((with_reducible refine wpList_store_mid rfl 182 (.tmp 4) (.tmp 17) rfl (w.heap.size + 1) 0 Z.toArray ?hx ?hy hth hi3'.out (all_oneCell_toArray hone) ?_); (case hx => rfl); (case hy => rw [← hZd.out]; rfl))
  refine bodyPost_ret (L.bc_resultst (P := Tryz.prog) Tryz.results177 _ _ (w.heap.size + 1) _ _ rfl hov.range Tryz.underlying182 rfl hi4.out) rfl ⟨?_, hbo⟩
  rw [← hres.out]
  rfl
end Go.Proofs.YtiokfaiioealdaaGreatDoor
