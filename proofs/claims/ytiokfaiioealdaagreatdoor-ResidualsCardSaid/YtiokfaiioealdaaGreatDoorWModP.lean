/- What a model's chance, and a model that learns, come to (chapter 9), in the program. -/
import Derived.Test.YtiokfaiioealdaaGreatDoorWMod
namespace Go.Proofs.YtiokfaiioealdaaGreatDoor
open Go.RowKit Go.Proofs.YtiokfaiioealdaaGreatDoor.L
set_option linter.unusedVariables false
set_option linter.unusedSimpArgs false

def in64 (x : Int) : Bool := decide (0 ≤ x) && decide (x ≤ 63)
theorem in64_iff {x : Int} : in64 x = true ↔ 0 ≤ x ∧ x ≤ 63 := by simp [in64]
theorem in64_no {x : Int} : in64 x = false ↔ (x < 0 ∨ 64 ≤ x) := by simp only [in64, Bool.and_eq_false_iff, decide_eq_false_iff_not]; omega
def xOk (x y z : Int) : Bool := in64 x && (in64 y && in64 z)
theorem xOk_iff {x y z : Int} : xOk x y z = true ↔ (0 ≤ x ∧ x ≤ 63) ∧ (0 ≤ y ∧ y ≤ 63) ∧ (0 ≤ z ∧ z ≤ 63) := by simp [xOk, in64]
theorem xOk_no {x y z : Int} (h : (x < 0 ∨ 63 < x) ∨ (y < 0 ∨ 63 < y) ∨ (z < 0 ∨ 63 < z)) : xOk x y z = false := by
  cases e : xOk x y z
  · rfl
  · have := xOk_iff.1 e; omega
theorem there_any (b o : Nat) (x y z : Int) (w : World) (h0 : w.cell? ⟨b, o, none⟩ = some (.int .i64 x)) (h1 : w.cell? ⟨b, o+1, none⟩ = some (.int .i64 y)) (h2 : w.cell? ⟨b, o+2, none⟩ = some (.int .i64 z)) :
   Calls Tryz.prog 186 #[.pointer (some ⟨b, o, none⟩)] w fun e w' => e = .returned (.bool (xOk x y z)) ∧ w = w' := by
  go_enter Tryz.func186, Tryz.ntmps186
  go_wp2
  go_rounds 4
  all_goals (go_ret; exact ⟨ret_bool (by symm; first | exact xOk_no (by omega) | exact xOk_iff.2 (by omega)), rfl⟩)
theorem counter_0 (b x : Nat) (y z : Int) (w : World) (hx : x < 64) : Calls Tryz.prog 190 #[.agg #[.pointer (some ⟨b, 0, none⟩), .int .i64 x, .int .i64 y, .int .i64 z], .int .i64 0] w fun e w' => e = .returned (.pointer (some ⟨b, x, none⟩)) ∧ Below w.heap.size w w' := by
  have h0 : (0 : Int) ≤ x := by omega
  have h1 : (x : Int) < 64 := by omega
  go_enter Tryz.func190, Tryz.ntmps190
  go_wp2
  go_quiet (fail)
  go_wp2
  go_ret
  exact ⟨rfl, below_drewN (below_alloc (Below.refl _ _) _) _⟩
theorem counter_1 (b y : Nat) (x z : Int) (w : World) (hx : y < 64) : Calls Tryz.prog 190 #[.agg #[.pointer (some ⟨b, 0, none⟩), .int .i64 x, .int .i64 y, .int .i64 z], .int .i64 1] w fun e w' => e = .returned (.pointer (some ⟨b, 64 + y, none⟩)) ∧ Below w.heap.size w w' := by
  have h0 : (0 : Int) ≤ y := by omega
  have h1 : (y : Int) < 64 := by omega
  go_enter Tryz.func190, Tryz.ntmps190
  go_wp2
  go_quiet (fail)
  go_wp2
  go_ret
  exact ⟨rfl, below_drewN (below_alloc (Below.refl _ _) _) _⟩
theorem counter_2 (b z : Nat) (x y : Int) (w : World) (hx : z < 64) : Calls Tryz.prog 190 #[.agg #[.pointer (some ⟨b, 0, none⟩), .int .i64 x, .int .i64 y, .int .i64 z], .int .i64 2] w fun e w' => e = .returned (.pointer (some ⟨b, 128 + z, none⟩)) ∧ Below w.heap.size w w' := by
  have h0 : (0 : Int) ≤ z := by omega
  have h1 : (z : Int) < 64 := by omega
  go_enter Tryz.func190, Tryz.ntmps190
  go_wp2
  go_quiet (fail)
  go_wp2
  go_ret
  exact ⟨rfl, below_drewN (below_alloc (Below.refl _ _) _) _⟩
/-- What a counter of a model says. -/
def mi (M : List Int) (o : Nat) : Int := st (cCh (M.getD o 0))
theorem mi_range (M : List Int) (o : Nat) : -2047 ≤ mi M o ∧ mi M o ≤ 2047 := st_range _
def seenV (b x y z : Nat) : List Value := [.pointer (some ⟨b, 0, none⟩), .int .i64 x, .int .i64 y, .int .i64 z]
theorem seen_cells {w : World} {g b x y z : Nat} (h : w.rangeAt g 0 (seenV b x y z)) : w.cell? ⟨g, 0, none⟩ = some (.pointer (some ⟨b, 0, none⟩)) ∧ w.cell? ⟨g, 1, none⟩ = some (.int .i64 x) ∧ w.cell? ⟨g, 2, none⟩ = some (.int .i64 y) ∧ w.cell? ⟨g, 3, none⟩ = some (.int .i64 z) :=
  ⟨h 0 _ rfl, h 1 _ rfl, h 2 _ rfl, h 3 _ rfl⟩
theorem seen_new (w : World) (b x y z : Nat) (t : TypeId) : (w.alloc (.cells (seenV b x y z).toArray t)).rangeAt w.heap.size 0 (seenV b x y z) := by
  intro j v hv
  rw [Nat.zero_add, cell_of_row _ w.heap.size j _ _ _ (heap_alloc_new w _)]
  simpa using hv
theorem C3.below {W w1 : World} {b : Nat} {x y z : Int} (h : C3 W b x y z) (hb : Below W.heap.size W w1) : C3 w1 b x y z := by
  obtain ⟨a, b', c, d, e, f, -⟩ := own3 hb h.e0 h.e1 h.e2 h.f0 h.f1 h.f2
  exact ⟨a, b', c, d, e, f⟩
theorem C3.all {W : World} {b : Nat} {x y z : Int} (h : C3 W b x y z) : W.cell? ⟨b, 0, none⟩ = some (.int .i64 x) ∧ W.cell? ⟨b, 1, none⟩ = some (.int .i64 y) ∧ W.cell? ⟨b, 2, none⟩ = some (.int .i64 z) ∧ W.frozen? ⟨b, 0, none⟩ = false ∧ W.frozen? ⟨b, 1, none⟩ = false ∧ W.frozen? ⟨b, 2, none⟩ = false ∧ b < W.heap.size :=
  ⟨h.e0, h.e1, h.e2, h.f0, h.f1, h.f2, World.block_lt_of_cell? W _ h.e0⟩
theorem st_ok (c : Int) (h : cMay c = true) : stOk (cCh c) = true := by
  obtain ⟨h0, h1⟩ := cMay_iff.1 h
  obtain ⟨a, b⟩ := cCh_range h1
  simp [stOk]; omega
/-- The chance of a counter that may be, stretched: what the two calls hand on. -/
theorem count_p_yes (c : Int) (w : World) (h : cMay c = true) : Calls Tryz.prog 208 #[.int .i64 c] w fun e w' => e = .returned (.tuple #[.int .i64 (cCh c), .int .i64 0]) ∧ w = w' := by
  refine (count_p c w).mono fun e w' he => ?_
  rw [h] at he; exact he
theorem stretch_ok (c : Int) (w : World) (ht : Tab w) (h : cMay c = true) : Calls Tryz.prog 209 #[.int .i64 (cCh c)] w fun e w' => e = .returned (.tuple #[.int .i64 (st (cCh c)), .int .i64 0]) ∧ Below w.heap.size w w' := by
  refine (stretch_any _ w ht).mono fun e w' he => ?_
  rw [st_ok c h] at he; exact he
theorem below_then {B : Nat} {w w1 w2 : World} (h : Below B w w1) (hB : B ≤ w.heap.size) (k : Below w1.heap.size w1 w2) : Below B w w2 :=
  h.trans ⟨k.os, k.tape, k.output, k.size, fun i hi => k.block i (by have := h.size; omega)⟩
theorem below_less {B B' : Nat} {w w1 : World} (h : Below B w w1) (hB : B' ≤ B) : Below B' w w1 := ⟨h.os, h.tape, h.output, h.size, fun i hi => h.block i (by omega)⟩
theorem range_blw {B : Nat} {w w1 : World} {g o : Nat} {cs : List Value} (h : w.rangeAt g o cs) (hb : Below B w w1) (hg : g < B) : w1.rangeAt g o cs := fun j v hv => (hb.cell (p := ⟨g, o + j, none⟩) hg).trans (h j v hv)
theorem C3.blw {B : Nat} {w w1 : World} {b : Nat} {x y z : Int} (h : C3 w b x y z) (hb : Below B w w1) (hg : b < B) : C3 w1 b x y z :=
  ⟨(hb.cell (p := ⟨b, 0, none⟩) hg).trans h.e0, (hb.cell (p := ⟨b, 1, none⟩) hg).trans h.e1, (hb.cell (p := ⟨b, 2, none⟩) hg).trans h.e2, (hb.frozen (p := ⟨b, 0, none⟩) hg).trans h.f0, (hb.frozen (p := ⟨b, 1, none⟩) hg).trans h.f1, (hb.frozen (p := ⟨b, 2, none⟩) hg).trans h.f2⟩
theorem C3.new (w : World) (x y z : Int) (t : TypeId) : C3 (w.alloc (.cells #[.int .i64 x, .int .i64 y, .int .i64 z] t)) w.heap.size x y z := by constructor <;> go_simp
set_option maxHeartbeats 2000000 in
theorem model_inputs (b x y z : Nat) (M : List Int) (w : World) (ht : Tab w) (hM : M.length = 195) (hg : Good M 192) (hr : w.rangeAt b 0 (ints M)) (hx : x < 64) (hy : y < 64) (hz : z < 64) :
   Calls Tryz.prog 188 #[.agg (seenV b x y z).toArray] w fun e w' => e = .returned (v3 (mi M x) (mi M (64 + y)) (mi M (128 + z))) ∧ Below w.heap.size w w' := by
  have g0 := Lib.hid (hg x (by omega))
  have g1 := Lib.hid (hg (64 + y) (by omega))
  have g2 := Lib.hid (hg (128 + z) (by omega))
  obtain ⟨A, hA⟩ : ∃ A, mi M x = A := ⟨_, rfl⟩
  obtain ⟨B, hB⟩ : ∃ A, mi M (64 + y) = A := ⟨_, rfl⟩
  obtain ⟨C, hC⟩ : ∃ A, mi M (128 + z) = A := ⟨_, rfl⟩
  rw [hA, hB, hC]
  have HA := Lib.hid hA
  have HB := Lib.hid hB
  have HC := Lib.hid hC
  have HR := Lib.hid hr
  have hHM := Lib.hid hM
  clear hA hB hC hr hg hM
  have htt := ht
  go_enter Tryz.func188, Tryz.ntmps188
  go_wp2_with fail
  have HS0 := Lib.hid (range_blw (range_blw (seen_new w b x y z 214) (below_alloc (Below.refl _ _) (.cells #[.int .i64 0, .int .i64 0, .int .i64 0] 61)) (by simp)) (below_alloc (Below.refl _ _) (.cells #[.int .i64 0, .int .i64 0, .int .i64 0] 61)) (by simp; omega))
  have HO0 := Lib.hid ((C3.new (w.alloc (.cells (seenV b x y z).toArray 214)) 0 0 0 61).below (below_alloc (Below.refl _ _) (.cells #[.int .i64 0, .int .i64 0, .int .i64 0] 61)))
  have HL0 := Lib.hid (C3.new ((w.alloc (.cells (seenV b x y z).toArray 214)).alloc (.cells #[.int .i64 0, .int .i64 0, .int .i64 0] 61)) 0 0 0 61)
  have HB0 := Lib.hid (below_alloc (below_alloc (below_alloc (Below.refl w.heap.size w) (.cells (seenV b x y z).toArray 214)) (.cells #[.int .i64 0, .int .i64 0, .int .i64 0] 61)) (.cells #[.int .i64 0, .int .i64 0, .int .i64 0] 61))
  have hsz : (((w.alloc (.cells (seenV b x y z).toArray 214)).alloc (.cells #[.int .i64 0, .int .i64 0, .int .i64 0] 61)).alloc (.cells #[.int .i64 0, .int .i64 0, .int .i64 0] 61)).heap.size = w.heap.size + 3 := by simp
  generalize ((w.alloc (.cells (seenV b x y z).toArray 214)).alloc (.cells #[.int .i64 0, .int .i64 0, .int .i64 0] 61)).alloc (.cells #[.int .i64 0, .int .i64 0, .int .i64 0] 61) = W0 at HS0 HO0 HL0 HB0 hsz ⊢
  simp only [World.size_alloc] at HO0 HL0
  have hge : w.heap.size + 1 + 1 ≤ W0.heap.size := by omega
  have HSZ := Lib.hid hsz
  have HC0 := Lib.hid (Below.refl (w.heap.size + 1 + 1) W0)
  clear hsz ht
  obtain ⟨l0, l1, l2, m0, m1, m2, mlt⟩ := HL0.out.all
  clear HL0
  refine wp_loop_rounds 4 ?_
  rw [rounds_succ]
  obtain ⟨s0, s1, s2, s3⟩ := seen_cells (range_blw HS0.out HC0.out (by omega))
  go_wp2_with fail
  refine (counter_0 b x (y : Int) (z : Int) _ hx).mono ?_
  rintro e wa0 ⟨rfl, hb⟩
  obtain ⟨ep, eq, es, fp, fq, fs, lp⟩ := own3 hb (b := w.heap.size + 1 + 1) (x := .int .i64 (0)) (y := .int .i64 (0)) (z := .int .i64 (0)) (by go_simp) (by go_simp) (by go_simp) (by go_simp) (by go_simp) (by go_simp)
  have HCa0 : Hid (Below (w.heap.size + 1 + 1) W0 wa0) := Lib.hid (below_then HC0.out hge hb)
  clear s0 s1 s2 s3 hb l0 l1 l2 m0 m1 m2 mlt
  have ca := range_cell (range_below HR.out (HB0.out.trans (below_less HCa0.out (by omega)))) (i := x) (by rw [hHM.out]; omega)
  go_wp2_with (go_at_call 208; refine (count_p_yes _ _ g0.out).mono ?_; rintro e w9 ⟨rfl, rfl⟩)
  clear ca
  refine (stretch_ok _ _ (htt.below (HB0.out.trans (below_less HCa0.out (by omega)))) g0.out).mono ?_
  rintro e wb0 ⟨rfl, hb⟩
  rw [show st (cCh (M.getD x 0)) = A from HA.out]
  have HCb0 : Hid (Below (w.heap.size + 1 + 1) W0 wb0) := Lib.hid (below_then HCa0.out hge hb)
  obtain ⟨l0, l1, l2, m0, m1, m2, mlt⟩ := own3 hb ep eq es fp fq fs
  clear hb ep eq es fp fq fs lp
  go_wp2_with fail
  rw [rounds_succ]
  obtain ⟨s0, s1, s2, s3⟩ := seen_cells (range_blw HS0.out HCb0.out (by omega))
  go_wp2_with fail
  refine (counter_1 b y (x : Int) (z : Int) _ hy).mono ?_
  rintro e wa1 ⟨rfl, hb⟩
  obtain ⟨ep, eq, es, fp, fq, fs, lp⟩ := own3 hb (b := w.heap.size + 1 + 1) (x := .int .i64 (A)) (y := .int .i64 (0)) (z := .int .i64 (0)) (by go_simp) (by go_simp) (by go_simp) (by go_simp) (by go_simp) (by go_simp)
  have HCa1 : Hid (Below (w.heap.size + 1 + 1) W0 wa1) := Lib.hid (below_then (below_set (p := ⟨w.heap.size + 1 + 1, 0, none⟩) (Nat.le_refl _) HCb0.out (.int .i64 A)) hge hb)
  clear s0 s1 s2 s3 hb l0 l1 l2 m0 m1 m2 mlt
  have ca := range_cell (range_below HR.out (HB0.out.trans (below_less HCa1.out (by omega)))) (i := (64 + y)) (by rw [hHM.out]; omega)
  go_wp2_with (go_at_call 208; refine (count_p_yes _ _ g1.out).mono ?_; rintro e w9 ⟨rfl, rfl⟩)
  clear ca
  refine (stretch_ok _ _ (htt.below (HB0.out.trans (below_less HCa1.out (by omega)))) g1.out).mono ?_
  rintro e wb1 ⟨rfl, hb⟩
  rw [show st (cCh (M.getD (64 + y) 0)) = B from HB.out]
  have HCb1 : Hid (Below (w.heap.size + 1 + 1) W0 wb1) := Lib.hid (below_then HCa1.out hge hb)
  obtain ⟨l0, l1, l2, m0, m1, m2, mlt⟩ := own3 hb ep eq es fp fq fs
  clear hb ep eq es fp fq fs lp
  go_wp2_with fail
  rw [rounds_succ]
  obtain ⟨s0, s1, s2, s3⟩ := seen_cells (range_blw HS0.out HCb1.out (by omega))
  go_wp2_with fail
  refine (counter_2 b z (x : Int) (y : Int) _ hz).mono ?_
  rintro e wa2 ⟨rfl, hb⟩
  obtain ⟨ep, eq, es, fp, fq, fs, lp⟩ := own3 hb (b := w.heap.size + 1 + 1) (x := .int .i64 (A)) (y := .int .i64 (B)) (z := .int .i64 (0)) (by go_simp) (by go_simp) (by go_simp) (by go_simp) (by go_simp) (by go_simp)
  have HCa2 : Hid (Below (w.heap.size + 1 + 1) W0 wa2) := Lib.hid (below_then (below_set (p := ⟨w.heap.size + 1 + 1, 1, none⟩) (Nat.le_refl _) HCb1.out (.int .i64 B)) hge hb)
  clear s0 s1 s2 s3 hb l0 l1 l2 m0 m1 m2 mlt
  have ca := range_cell (range_below HR.out (HB0.out.trans (below_less HCa2.out (by omega)))) (i := (128 + z)) (by rw [hHM.out]; omega)
  go_wp2_with (go_at_call 208; refine (count_p_yes _ _ g2.out).mono ?_; rintro e w9 ⟨rfl, rfl⟩)
  clear ca
  refine (stretch_ok _ _ (htt.below (HB0.out.trans (below_less HCa2.out (by omega)))) g2.out).mono ?_
  rintro e wb2 ⟨rfl, hb⟩
  rw [show st (cCh (M.getD (128 + z) 0)) = C from HC.out]
  have HCb2 : Hid (Below (w.heap.size + 1 + 1) W0 wb2) := Lib.hid (below_then HCa2.out hge hb)
  obtain ⟨l0, l1, l2, m0, m1, m2, mlt⟩ := own3 hb ep eq es fp fq fs
  clear hb ep eq es fp fq fs lp
  go_wp2_with fail
  rw [rounds_succ]
  obtain ⟨o0, o1, o2, n0, n1, n2, nlt⟩ := (HO0.out.blw HCb2.out (by omega)).all
  go_wp2_with fail
  refine bodyPost_ret (v := v3 A B C) ?_ rfl ⟨rfl, ?_⟩
  · simp [results, Tryz.results188, go_sem, o0, o1, o2, n0, n1, n2, l0, l1, l2, m0, m1, m2]
  · refine below_set (by first | (simp; done) | (simp; omega)) (below_set (by first | (simp; done) | (simp; omega)) (below_set (by first | (simp; done) | (simp; omega)) (below_set (by first | (simp; done) | (simp; omega)) ?_ _) _) _) _
    exact HB0.out.trans (below_less HCb2.out (by omega))
end Go.Proofs.YtiokfaiioealdaaGreatDoor
