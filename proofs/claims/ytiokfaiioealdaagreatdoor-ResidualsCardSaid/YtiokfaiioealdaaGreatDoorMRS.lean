/- The document's model: may it be, its chance, what it learns. -/
import Derived.Test.YtiokfaiioealdaaGreatDoorWModV
import Derived.BigRegion
/- What the document's own answers on a model come to: may it be, may its context be, what its rows say (chapter 9). -/
namespace Go.Proofs.YtiokfaiioealdaaGreatDoor
open Go.RowKit Go.Proofs.YtiokfaiioealdaaGreatDoor.L
set_option linter.unusedVariables false
set_option linter.unusedSimpArgs false

set_option maxHeartbeats 1000000 in
theorem rmodel_may (M : List Int) (hM : M.length = 195) (w : World) :
   Calls Tryz.prog 80 #[.agg (ints M).toArray] w fun e w' => e = .returned (.bool (mMay M)) ∧ Below w.heap.size w w' := by
  have hno := fun (i : Nat) (hi : i < 192) (h : cMay (M.getD i 0) = false) => mMay_no hM hi h
  have hyes := fun h => mMay_yes hM h
  obtain ⟨B, hB⟩ : ∃ B, mMay M = B := ⟨_, rfl⟩
  rw [hB] at hno hyes ⊢
  have HNO := Lib.hid hno
  have HYES := Lib.hid hyes
  have HM := Lib.hid (MB.new w hM)
  have HB := Lib.hid (below_alloc (Below.refl w.heap.size w) (.cells (ints M).toArray 63))
  clear hno hyes hB
  go_enter Tryz.func80, Tryz.ntmps80
  go_wp2_with fail
  generalize w.alloc _ = W at HM HB ⊢
  clear hM
  go_loop [3] (fun v => ∃ i : Nat, v = .int .i64 i ∧ i ≤ 3 ∧ Hid (Good M (64 * i))) (fun v => (3 - intOf v).toNat)
  case atStart => exact ⟨0, rfl, by omega, by show Good M 0; intro j hj; omega⟩
  case round =>
    obtain ⟨i, rfl, hi, HG⟩ := hrel
    by_cases hlt : i < 3
    · go_wp2_with fail
      go_loop [4] (fun v => ∃ j : Nat, v = .int .i64 j ∧ j ≤ 64 ∧ Hid (Good M (64 * i + j))) (fun v => (64 - intOf v).toNat)
      case atStart => exact ⟨0, rfl, by omega, HG⟩
      case round =>
        obtain ⟨j, rfl, hj, HG2⟩ := hrel
        by_cases hlt2 : j < 64
        · have ck := HM.out.cell (o := i * 64 + j) (by omega)
          obtain ⟨c, hc⟩ : ∃ c, M.getD (i * 64 + j) 0 = c := ⟨_, rfl⟩
          rw [hc] at ck
          have bi : (i : Int) < 3 := by omega
          have bj : (j : Int) < 64 := by omega
          cases hcm : cMay c
          · have hBf := HNO.out (i * 64 + j) (by omega) (by rw [hc]; exact hcm)
            have HC := Lib.hid hcm
            have HBF := Lib.hid hBf
            clear hc hcm hBf
            go_wp2_with (go_at_call 125; refine (rcount_may c _).mono ?_; rw [HC.out]; rintro e w1 ⟨rfl, rfl⟩)
            go_ret
            exact ⟨ret_bool HBF.out.symm, HB.out⟩
          · have HG3 : Hid (Good M (64 * i + (j + 1))) := by
              intro l hl
              rcases Nat.lt_or_ge l (64 * i + j) with h | h
              · exact HG2.out l h
              · rw [show l = i * 64 + j by omega, hc]; exact hcm
            have HC := Lib.hid hcm
            clear hc hcm
            go_wp2_with (go_at_call 125; refine (rcount_may c _).mono ?_; rw [HC.out]; rintro e w1 ⟨rfl, rfl⟩)
            go_round
            case rel => exact ⟨j + 1, by go_num, by omega, HG3⟩
            case measure => simp [intOf]; omega
        · obtain rfl : j = 64 := by omega
          have HG3 : Hid (Good M (64 * (i + 1))) := HG2
          go_wp2
          go_round
          case rel => exact ⟨i + 1, by go_num, by omega, HG3⟩
          case measure => simp [intOf]; omega
    · obtain rfl : i = 3 := by omega
      have hBy := Lib.hid (HYES.out HG.out)
      have c0 := HM.out.cell (o := 192) (by omega)
      have c1 := HM.out.cell (o := 193) (by omega)
      have c2 := HM.out.cell (o := 194) (by omega)
      go_wp2_with (go_at_call 126; refine (three_may 1048576 _ _ _ _ (by decide) (by decide)).mono ?_; rintro e w1 ⟨rfl, hb⟩; have HB1 := Lib.hid (below_next HB.out hb); clear hb)
      go_ret
      exact ⟨ret_bool hBy.out.symm, HB1.out⟩
theorem rctx_may (x y z : Int) (w : World) :
   Calls Tryz.prog 81 #[v3 x y z] w fun e w' => e = .returned (.bool (xOk x y z)) ∧ Below w.heap.size w w' := by
  unfold v3
  rw [show xOk x y z = ((decide (0 ≤ x) && decide (x ≤ 63)) && ((decide (0 ≤ y) && decide (y ≤ 63)) && (decide (0 ≤ z) && decide (z ≤ 63)))) by rfl]
  cases p1 : (decide (0 ≤ x) && decide (x ≤ 63))
  · go_enter Tryz.func81, Tryz.ntmps81
    go_wp2
    refine wp_loop_rounds 4 ?_
    rw [rounds_succ]
    go_wp2_with ((go_at_call 78; refine (up_to _ _ _ _).mono ?_; rintro e w1 ⟨rfl, rfl⟩))
    go_ret
    exact ⟨rfl, (by repeat (first | (with_reducible exact Below.refl _ _) | (with_reducible exact Hid.out (by with_reducible assumption)) | (with_reducible apply below_drewN) | (with_reducible apply below_drew) | (with_reducible apply below_alloc) | (refine below_set ?_ ?_ _; (focus (first | (simp; done) | (simp; omega))))))⟩
  · cases p2 : (decide (0 ≤ y) && decide (y ≤ 63))
    · go_enter Tryz.func81, Tryz.ntmps81
      go_wp2
      refine wp_loop_rounds 4 ?_
      rw [rounds_succ]
      go_wp2_with ((go_at_call 78; refine (up_to _ _ _ _).mono ?_; rintro e w1 ⟨rfl, rfl⟩))
      rw [rounds_succ]
      go_wp2_with ((go_at_call 78; refine (up_to _ _ _ _).mono ?_; rintro e w1 ⟨rfl, rfl⟩))
      go_ret
      exact ⟨rfl, (by repeat (first | (with_reducible exact Below.refl _ _) | (with_reducible exact Hid.out (by with_reducible assumption)) | (with_reducible apply below_drewN) | (with_reducible apply below_drew) | (with_reducible apply below_alloc) | (refine below_set ?_ ?_ _; (focus (first | (simp; done) | (simp; omega))))))⟩
    · cases p3 : (decide (0 ≤ z) && decide (z ≤ 63))
      · go_enter Tryz.func81, Tryz.ntmps81
        go_wp2
        refine wp_loop_rounds 4 ?_
        rw [rounds_succ]
        go_wp2_with ((go_at_call 78; refine (up_to _ _ _ _).mono ?_; rintro e w1 ⟨rfl, rfl⟩))
        rw [rounds_succ]
        go_wp2_with ((go_at_call 78; refine (up_to _ _ _ _).mono ?_; rintro e w1 ⟨rfl, rfl⟩))
        rw [rounds_succ]
        go_wp2_with ((go_at_call 78; refine (up_to _ _ _ _).mono ?_; rintro e w1 ⟨rfl, rfl⟩))
        go_ret
        exact ⟨rfl, (by repeat (first | (with_reducible exact Below.refl _ _) | (with_reducible exact Hid.out (by with_reducible assumption)) | (with_reducible apply below_drewN) | (with_reducible apply below_drew) | (with_reducible apply below_alloc) | (refine below_set ?_ ?_ _; (focus (first | (simp; done) | (simp; omega))))))⟩
      · go_enter Tryz.func81, Tryz.ntmps81
        go_wp2
        refine wp_loop_rounds 4 ?_
        rw [rounds_succ]
        go_wp2_with ((go_at_call 78; refine (up_to _ _ _ _).mono ?_; rintro e w1 ⟨rfl, rfl⟩))
        rw [rounds_succ]
        go_wp2_with ((go_at_call 78; refine (up_to _ _ _ _).mono ?_; rintro e w1 ⟨rfl, rfl⟩))
        rw [rounds_succ]
        go_wp2_with ((go_at_call 78; refine (up_to _ _ _ _).mono ?_; rintro e w1 ⟨rfl, rfl⟩))
        rw [rounds_succ]
        go_wp2_with ((go_at_call 78; refine (up_to _ _ _ _).mono ?_; rintro e w1 ⟨rfl, rfl⟩))
        go_ret
        exact ⟨rfl, (by repeat (first | (with_reducible exact Below.refl _ _) | (with_reducible exact Hid.out (by with_reducible assumption)) | (with_reducible apply below_drewN) | (with_reducible apply below_drew) | (with_reducible apply below_alloc) | (refine below_set ?_ ?_ _; (focus (first | (simp; done) | (simp; omega))))))⟩
theorem rcount_p_yes (c : Int) (w : World) (h : cMay c = true) : Calls Tryz.prog 129 #[.int .i64 c] w fun e w' => e = .returned (.tuple #[.int .i64 (cCh c), .int .i64 0]) ∧ w = w' := by
  refine (rcount_p c w).mono fun e w' he => ?_
  rw [h] at he; exact he
theorem rstretch_ok (c : Int) (w : World) (h : cMay c = true) : Calls Tryz.prog 130 #[.int .i64 (cCh c)] w fun e w' => e = .returned (.tuple #[.int .i64 (st (cCh c)), .int .i64 0]) ∧ Below w.heap.size w w' := by
  refine (rstretch_any _ w).mono fun e w' he => ?_
  rw [st_ok c h] at he; exact he
/-- The document's 'inputs' under way. -/
structure RIn (w W : World) (M : List Int) (x y z : Nat) (a b c : Int) : Prop where
  hm : MB W w.heap.size M
  hx : C3 W (w.heap.size + 1) x y z
  ho : C3 W (w.heap.size + 1 + 1) 0 0 0
  hl : C3 W (w.heap.size + 1 + 1 + 1) a b c
  hb : Below w.heap.size w W
theorem C3.cells3 {W : World} {b : Nat} {x y z : Int} (h : C3 W b x y z) : W.cell? ⟨b, 0, none⟩ = some (.int .i64 x) ∧ W.cell? ⟨b, 1, none⟩ = some (.int .i64 y) ∧ W.cell? ⟨b, 2, none⟩ = some (.int .i64 z) := ⟨h.e0, h.e1, h.e2⟩
theorem C3.drewN {W : World} {b : Nat} {x y z : Int} (h : C3 W b x y z) (n : Nat) : C3 (W.drewN n) b x y z := ⟨h.e0, h.e1, h.e2, h.f0, h.f1, h.f2⟩
theorem C3.drew {W : World} {b : Nat} {x y z : Int} (h : C3 W b x y z) : C3 W.drew b x y z := ⟨h.e0, h.e1, h.e2, h.f0, h.f1, h.f2⟩
theorem C3.alloc {W : World} {b : Nat} {x y z : Int} (h : C3 W b x y z) (o : Obj) : C3 (W.alloc o) b x y z := h.below (below_alloc (Below.refl _ _) _)
theorem C3.far {W : World} {b : Nat} {x y z : Int} (h : C3 W b x y z) {p : Addr} (hp : p.block ≠ b) (v : Value) : C3 (W.setCell p v) b x y z := by
  constructor
  · rw [World.cell?_setCell_other W p _ v (by rintro rfl; exact hp rfl)]; exact h.e0
  · rw [World.cell?_setCell_other W p _ v (by rintro rfl; exact hp rfl)]; exact h.e1
  · rw [World.cell?_setCell_other W p _ v (by rintro rfl; exact hp rfl)]; exact h.e2
  · have := h.f0; go_simp
  · have := h.f1; go_simp
  · have := h.f2; go_simp
theorem C3.put0 {W : World} {b : Nat} {x y z : Int} (h : C3 W b x y z) (v : Int) : C3 (W.setCell ⟨b, 0, none⟩ (.int .i64 v)) b v y z := by
  obtain ⟨h0, h1, h2, f0, f1, f2⟩ := h
  constructor <;> go_simp
theorem C3.put1 {W : World} {b : Nat} {x y z : Int} (h : C3 W b x y z) (v : Int) : C3 (W.setCell ⟨b, 1, none⟩ (.int .i64 v)) b x v z := by
  obtain ⟨h0, h1, h2, f0, f1, f2⟩ := h
  constructor <;> go_simp
theorem C3.put2 {W : World} {b : Nat} {x y z : Int} (h : C3 W b x y z) (v : Int) : C3 (W.setCell ⟨b, 2, none⟩ (.int .i64 v)) b x y v := by
  obtain ⟨h0, h1, h2, f0, f1, f2⟩ := h
  constructor <;> go_simp
theorem C3.newAt {W : World} {b : Nat} {x y z : Int} {t : TypeId} (h : b = W.heap.size) : C3 (W.alloc (.cells #[.int .i64 x, .int .i64 y, .int .i64 z] t)) b x y z := by subst h; exact C3.new W x y z t
theorem RIn.ctx {w W : World} {M : List Int} {x y z : Nat} {a b c : Int} (h : RIn w W M x y z a b c) : W.cell? ⟨w.heap.size + 1, 0, none⟩ = some (.int .i64 x) ∧ W.cell? ⟨w.heap.size + 1, 1, none⟩ = some (.int .i64 y) ∧ W.cell? ⟨w.heap.size + 1, 2, none⟩ = some (.int .i64 z) := h.hx.cells3
theorem RIn.drewN {w W : World} {M : List Int} {x y z : Nat} {a b c : Int} (h : RIn w W M x y z a b c) (n : Nat) : RIn w (W.drewN n) M x y z a b c := ⟨h.hm.drewN n, h.hx.drewN n, h.ho.drewN n, h.hl.drewN n, below_drewN h.hb n⟩
theorem RIn.below {w W W1 : World} {M : List Int} {x y z : Nat} {a b c : Int} (h : RIn w W M x y z a b c) (hb : Below W.heap.size W W1) : RIn w W1 M x y z a b c := ⟨h.hm.below hb, h.hx.below hb, h.ho.below hb, h.hl.below hb, below_next h.hb hb⟩
theorem RIn.set0 {w W : World} {M : List Int} {x y z : Nat} {a b c : Int} (h : RIn w W M x y z a b c) (v : Int) : RIn w (W.setCell ⟨w.heap.size + 1 + 1 + 1, 0, none⟩ (.int .i64 v)) M x y z v b c :=
  ⟨h.hm.far (by simp; omega) _, h.hx.far (by simp; omega) _, h.ho.far (by simp) _, h.hl.put0 v, below_set (by simp; omega) h.hb _⟩
theorem RIn.set1 {w W : World} {M : List Int} {x y z : Nat} {a b c : Int} (h : RIn w W M x y z a b c) (v : Int) : RIn w (W.setCell ⟨w.heap.size + 1 + 1 + 1, 1, none⟩ (.int .i64 v)) M x y z a v c :=
  ⟨h.hm.far (by simp; omega) _, h.hx.far (by simp; omega) _, h.ho.far (by simp) _, h.hl.put1 v, below_set (by simp; omega) h.hb _⟩
theorem RIn.set2 {w W : World} {M : List Int} {x y z : Nat} {a b c : Int} (h : RIn w W M x y z a b c) (v : Int) : RIn w (W.setCell ⟨w.heap.size + 1 + 1 + 1, 2, none⟩ (.int .i64 v)) M x y z a b v :=
  ⟨h.hm.far (by simp; omega) _, h.hx.far (by simp; omega) _, h.ho.far (by simp) _, h.hl.put2 v, below_set (by simp; omega) h.hb _⟩
theorem RIn.start (w : World) {M : List Int} (hM : M.length = 195) (x y z : Nat) (t : TypeId) : RIn w ((((w.alloc (.cells (ints M).toArray 63)).alloc (.cells #[.int .i64 x, .int .i64 y, .int .i64 z] t)).alloc (.cells #[.int .i64 0, .int .i64 0, .int .i64 0] t)).alloc (.cells #[.int .i64 0, .int .i64 0, .int .i64 0] t)) M x y z 0 0 0 := by
  refine ⟨(((MB.new w hM).alloc _).alloc _).alloc _, ?_, ?_, ?_, below_alloc (below_alloc (below_alloc (below_alloc (Below.refl _ _) _) _) _) _⟩
  · exact ((C3.newAt (by simp)).alloc _).alloc _
  · exact (C3.newAt (by simp)).alloc _
  · exact C3.newAt (by simp)
set_option maxHeartbeats 2000000 in
theorem rmodel_inputs (x y z : Nat) (M : List Int) (w : World) (hM : M.length = 195) (hg : Good M 192) (hx : x < 64) (hy : y < 64) (hz : z < 64) :
   Calls Tryz.prog 83 #[.agg (ints M).toArray, v3 x y z] w fun e w' => e = .returned (v3 (mi M x) (mi M (64 + y)) (mi M (128 + z))) ∧ Below w.heap.size w w' := by
  have g0 := Lib.hid (hg x (by omega))
  have g1 := Lib.hid (hg (64 + y) (by omega))
  have g2 := Lib.hid (hg (128 + z) (by omega))
  obtain ⟨A, hA⟩ : ∃ A, mi M x = A := ⟨_, rfl⟩
  obtain ⟨B, hB⟩ : ∃ A, mi M (64 + y) = A := ⟨_, rfl⟩
  obtain ⟨C, hC⟩ : ∃ A, mi M (128 + z) = A := ⟨_, rfl⟩
  rw [hA, hB, hC]
  have HA := Lib.hid hA
  have HB := Lib.hid hB
  have HC := Lib.hid hC
  have HS0 := Lib.hid (RIn.start w hM x y z 61)
  clear hA hB hC hg hM
  unfold v3
  go_enter Tryz.func83, Tryz.ntmps83
  go_wp2_with fail
  generalize ((w.alloc _).alloc _).alloc _ = W0 at HS0 ⊢
  generalize W0.alloc _ = W0 at HS0 ⊢
  refine wp_loop_rounds 4 ?_
  rw [rounds_succ]
  obtain ⟨x0, x1, x2⟩ := HS0.out.ctx
  have cm := HS0.out.hm.cell (o := x) (by omega)
  go_wp2_with fail
  go_quiet ((go_at_call 129; exact Calls.quiet_of_same ((rcount_p_yes _ _ g0.out).mono fun _ _ h => ⟨h.1, h.2.symm⟩)))
  clear x0 x1 x2 cm
  go_wp2_with fail
  refine (rstretch_ok _ _ g0.out).mono ?_
  rintro e wb0 ⟨rfl, hb⟩
  rw [show st (cCh (M.getD (x) 0)) = A from HA.out]
  have HT0 := Lib.hid ((HS0.out.drewN _).below hb)
  obtain ⟨l0, l1, l2, m0, m1, m2, mlt⟩ := HT0.out.hl.all
  have HS1 := Lib.hid (HT0.out.set0 A)
  clear hb HS0 HT0
  go_wp2_with fail
  clear l0 l1 l2 m0 m1 m2 mlt
  generalize (World.setCell _ ⟨w.heap.size + 1 + 1 + 1, 0, none⟩ (.int .i64 A)) = W1 at HS1 ⊢
  rw [rounds_succ]
  obtain ⟨x0, x1, x2⟩ := HS1.out.ctx
  have cm := HS1.out.hm.cell (o := 64 + y) (by omega)
  go_wp2_with fail
  go_quiet ((go_at_call 129; exact Calls.quiet_of_same ((rcount_p_yes _ _ g1.out).mono fun _ _ h => ⟨h.1, h.2.symm⟩)))
  clear x0 x1 x2 cm
  go_wp2_with fail
  refine (rstretch_ok _ _ g1.out).mono ?_
  rintro e wb1 ⟨rfl, hb⟩
  rw [show st (cCh (M.getD (64 + y) 0)) = B from HB.out]
  have HT1 := Lib.hid ((HS1.out.drewN _).below hb)
  obtain ⟨l0, l1, l2, m0, m1, m2, mlt⟩ := HT1.out.hl.all
  have HS2 := Lib.hid (HT1.out.set1 B)
  clear hb HS1 HT1
  go_wp2_with fail
  clear l0 l1 l2 m0 m1 m2 mlt
  generalize (World.setCell _ ⟨w.heap.size + 1 + 1 + 1, 1, none⟩ (.int .i64 B)) = W2 at HS2 ⊢
  rw [rounds_succ]
  obtain ⟨x0, x1, x2⟩ := HS2.out.ctx
  have cm := HS2.out.hm.cell (o := 128 + z) (by omega)
  go_wp2_with fail
  go_quiet ((go_at_call 129; exact Calls.quiet_of_same ((rcount_p_yes _ _ g2.out).mono fun _ _ h => ⟨h.1, h.2.symm⟩)))
  clear x0 x1 x2 cm
  go_wp2_with fail
  refine (rstretch_ok _ _ g2.out).mono ?_
  rintro e wb2 ⟨rfl, hb⟩
  rw [show st (cCh (M.getD (128 + z) 0)) = C from HC.out]
  have HT2 := Lib.hid ((HS2.out.drewN _).below hb)
  obtain ⟨l0, l1, l2, m0, m1, m2, mlt⟩ := HT2.out.hl.all
  have HS3 := Lib.hid (HT2.out.set2 C)
  clear hb HS2 HT2
  go_wp2_with fail
  clear l0 l1 l2 m0 m1 m2 mlt
  generalize (World.setCell _ ⟨w.heap.size + 1 + 1 + 1, 2, none⟩ (.int .i64 C)) = W3 at HS3 ⊢
  rw [rounds_succ]
  obtain ⟨o0, o1, o2, n0, n1, n2, nlt⟩ := HS3.out.ho.all
  obtain ⟨l0, l1, l2, m0, m1, m2, mlt⟩ := HS3.out.hl.all
  go_wp2_with fail
  refine bodyPost_ret (v := v3 A B C) ?_ rfl ⟨rfl, ?_⟩
  · simp [results, Tryz.results83, go_sem, o0, o1, o2, n0, n1, n2, l0, l1, l2, m0, m1, m2]
  · exact below_set (by first | (simp; done) | (simp; omega)) (below_set (by first | (simp; done) | (simp; omega)) (below_set (by first | (simp; done) | (simp; omega)) HS3.out.hb _) _) _
end Go.Proofs.YtiokfaiioealdaaGreatDoor
/- A model's chance, and a model that learns, in the document's own answer (chapter 9). -/
namespace Go.Proofs.YtiokfaiioealdaaGreatDoor
open Go.RowKit Go.Proofs.YtiokfaiioealdaaGreatDoor.L
set_option linter.unusedVariables false
set_option linter.unusedSimpArgs false

theorem rdot_ok (a b c x y z : Int) (w : World) (h : mixOk a b c x y z = true) :
   Calls Tryz.prog 82 #[v3 a b c, v3 x y z] w fun e w' => e = .returned (.tuple #[.int .i64 (dot a b c x y z), .int .i64 0]) ∧ Below w.heap.size w w' := by
  refine (rdot_any a b c x y z w).mono fun e w' he => ?_
  rw [h] at he; exact he
set_option maxHeartbeats 2000000 in
theorem rmodel_p_no (M : List Int) (hM : M.length = 195) (x y z : Int) (w : World) (h : (mMay M && xOk x y z) = false) :
   Calls Tryz.prog 43 #[.agg (ints M).toArray, v3 x y z] w fun e w' => e = .returned (.tuple #[.int .i64 0, .int .i64 900]) ∧ Below w.heap.size w w' := by
  have HM := Lib.hid hM
  have HB := Lib.hid (MB.new w hM)
  clear hM
  unfold v3
  go_enter Tryz.func43, Tryz.ntmps43
  cases hm : mMay M
  · have HMM := Lib.hid hm
    clear hm h
    go_wp2_with (with_reducible refine wpList_load_mid rfl 63 (.tmp 2) rfl (w.heap.size) 0 ?_ (ints (M)) _ (MB.range (g := w.heap.size) (L := M) (by repeat (first | (with_reducible exact HB.out) | (with_reducible apply MB.alloc) | (with_reducible apply MB.drew) | (with_reducible apply MB.drewN)))) Tryz.underlying63 rfl (MB.info HB.out) ?_)
    all_goals first | (show _ = Value.pointer _; rfl) | skip
    refine (rmodel_may M HM.out _).mono ?_
    rw [HMM.out]
    rintro e w1 ⟨rfl, hb⟩
    have hq := Lib.hid (below_next (w := w) (by repeat (first | (with_reducible exact Below.refl _ _) | (with_reducible exact Hid.out (by with_reducible assumption)) | (with_reducible apply below_drewN) | (with_reducible apply below_drew) | (with_reducible apply below_alloc) | (refine below_set ?_ ?_ _; (focus (first | (simp; done) | (simp; omega)))))) hb)
    clear hb
    go_wp2
    go_ret2
    exact ⟨rfl, hq.out⟩
  · have hx : xOk x y z = false := by simpa [hm] using h
    have HMM := Lib.hid hm
    have HX := Lib.hid hx
    clear hm h hx
    go_wp2_with (with_reducible refine wpList_load_mid rfl 63 (.tmp 2) rfl (w.heap.size) 0 ?_ (ints (M)) _ (MB.range (g := w.heap.size) (L := M) (by repeat (first | (with_reducible exact HB.out) | (with_reducible apply MB.alloc) | (with_reducible apply MB.drew) | (with_reducible apply MB.drewN)))) Tryz.underlying63 rfl (MB.info HB.out) ?_)
    all_goals first | (show _ = Value.pointer _; rfl) | skip
    refine (rmodel_may M HM.out _).mono ?_
    rw [HMM.out]
    rintro e w1 ⟨rfl, hb⟩
    have hq := Lib.hid (below_next (w := w) (by repeat (first | (with_reducible exact Below.refl _ _) | (with_reducible exact Hid.out (by with_reducible assumption)) | (with_reducible apply below_drewN) | (with_reducible apply below_drew) | (with_reducible apply below_alloc) | (refine below_set ?_ ?_ _; (focus (first | (simp; done) | (simp; omega)))))) hb)
    obtain ⟨ep, eq, er, fp, fq, fr, lp⟩ := own3 hb (b := w.heap.size + 1) (x := .int .i64 (x)) (y := .int .i64 (y)) (z := .int .i64 (z)) (by go_simp) (by go_simp) (by go_simp) (by go_simp) (by go_simp) (by go_simp)
    clear hb
    go_wp2_with fail
    refine (rctx_may x y z _).mono ?_
    rw [HX.out]
    rintro e w2 ⟨rfl, hb⟩
    have hq2 := Lib.hid (below_next hq.out hb)
    clear hb
    go_wp2
    go_ret2
    exact ⟨rfl, hq2.out⟩
set_option maxHeartbeats 2000000 in
theorem rmodel_p_yes (M : List Int) (hM : M.length = 195) (x y z : Nat) (w : World) (hm : mMay M = true) (hx : x < 64) (hy : y < 64) (hz : z < 64) :
   Calls Tryz.prog 43 #[.agg (ints M).toArray, v3 x y z] w fun e w' => e = .returned (.tuple #[.int .i64 (dot (M.getD 192 0) (M.getD 193 0) (M.getD 194 0) (mi M x) (mi M (64 + y)) (mi M (128 + z))), .int .i64 0]) ∧ Below w.heap.size w w' := by
  have HM := Lib.hid hM
  have HB := Lib.hid (MB.new w hM)
  have HX := Lib.hid (show xOk x y z = true from xOk_iff.2 (by omega))
  have HMM := Lib.hid hm
  have HMX := Lib.hid (model_mix hM hm x (64 + y) (128 + z))
  have HG := Lib.hid (mMay_good hM hm)
  obtain ⟨A, hA⟩ : ∃ A, mi M x = A := ⟨_, rfl⟩
  obtain ⟨B, hB⟩ : ∃ A, mi M (64 + y) = A := ⟨_, rfl⟩
  obtain ⟨C, hC⟩ : ∃ A, mi M (128 + z) = A := ⟨_, rfl⟩
  obtain ⟨a, ha⟩ : ∃ A, M.getD 192 0 = A := ⟨_, rfl⟩
  obtain ⟨b, hb'⟩ : ∃ A, M.getD 193 0 = A := ⟨_, rfl⟩
  obtain ⟨c, hc⟩ : ∃ A, M.getD 194 0 = A := ⟨_, rfl⟩
  rw [hA, hB, hC, ha, hb', hc] at HMX ⊢
  have HABC := Lib.hid (show v3 (mi M x) (mi M (64 + y)) (mi M (128 + z)) = v3 A B C by rw [hA, hB, hC])
  have Ha := Lib.hid ha
  have Hb := Lib.hid hb'
  have Hc := Lib.hid hc
  clear hM hm hA hB hC ha hb' hc
  unfold v3
  go_enter Tryz.func43, Tryz.ntmps43
  go_wp2_with (with_reducible refine wpList_load_mid rfl 63 (.tmp 2) rfl (w.heap.size) 0 ?_ (ints (M)) _ (MB.range (g := w.heap.size) (L := M) (by repeat (first | (with_reducible exact HB.out) | (with_reducible apply MB.alloc) | (with_reducible apply MB.drew) | (with_reducible apply MB.drewN)))) Tryz.underlying63 rfl (MB.info HB.out) ?_)
  all_goals first | (show _ = Value.pointer _; rfl) | skip
  refine (rmodel_may M HM.out _).mono ?_
  rw [HMM.out]
  rintro e w1 ⟨rfl, hb⟩
  have hq1 := Lib.hid (below_next (w := w) (by repeat (first | (with_reducible exact Below.refl _ _) | (with_reducible exact Hid.out (by with_reducible assumption)) | (with_reducible apply below_drewN) | (with_reducible apply below_drew) | (with_reducible apply below_alloc) | (refine below_set ?_ ?_ _; (focus (first | (simp; done) | (simp; omega)))))) hb)
  have HB1 := Lib.hid ((HB.out.alloc (.cells #[.int .i64 (x : Int), .int .i64 (y : Int), .int .i64 (z : Int)] 61)).below hb)
  obtain ⟨ep, eq, er, fp, fq, fr, lp⟩ := own3 hb (b := w.heap.size + 1) (x := .int .i64 (x)) (y := .int .i64 (y)) (z := .int .i64 (z)) (by go_simp) (by go_simp) (by go_simp) (by go_simp) (by go_simp) (by go_simp)
  clear hb
  go_wp2_with fail
  refine (rctx_may x y z _).mono ?_
  rw [HX.out]
  rintro e w2 ⟨rfl, hb⟩
  have hq := Lib.hid (below_next hq1.out hb)
  have HB2 := HB1.out.below hb
  have ep2 := cell_below hb ep
  have eq2 := cell_below hb eq
  have er2 := cell_below hb er
  have m0 := HB2.cell (o := 192) (by omega)
  have m1 := HB2.cell (o := 193) (by omega)
  have m2 := HB2.cell (o := 194) (by omega)
  rw [Ha.out] at m0
  rw [Hb.out] at m1
  rw [Hc.out] at m2
  clear hb ep eq er fp fq fr lp HB1 hq1
  go_wp2_with fail
  have LD := fun (w' : World) (h : MB w' w.heap.size M) => run_loadM w.heap.size w' M h
  go_region_held3 (fun w' => MB w' w.heap.size M ∧ w'.cell? ⟨w.heap.size, 192, none⟩ = some (.int .i64 a) ∧ w'.cell? ⟨w.heap.size, 193, none⟩ = some (.int .i64 b) ∧ w'.cell? ⟨w.heap.size, 194, none⟩ = some (.int .i64 c) ∧ w'.cell? ⟨w.heap.size + 1, 0, none⟩ = some (.int .i64 x) ∧ w'.cell? ⟨w.heap.size + 1, 1, none⟩ = some (.int .i64 y) ∧ w'.cell? ⟨w.heap.size + 1, 2, none⟩ = some (.int .i64 z))
    (first | exact ⟨HB2.drew, m0, m1, m2, ep2, eq2, er2⟩ | exact ⟨HB2.drew.below hb8, cell_below hb8 m0, cell_below hb8 m1, cell_below hb8 m2, cell_below hb8 ep2, cell_below hb8 eq2, cell_below hb8 er2⟩ | exact ⟨(HB2.drew.below hb8).below hb9, cell_below hb9 (cell_below hb8 m0), cell_below hb9 (cell_below hb8 m1), cell_below hb9 (cell_below hb8 m2), cell_below hb9 (cell_below hb8 ep2), cell_below hb9 (cell_below hb8 eq2), cell_below hb9 (cell_below hb8 er2)⟩)
    (first | (go_at_call 83; refine (rmodel_inputs x y z M _ HM.out HG.out hx hy hz).mono ?_; rw [HABC.out]; rintro e w8 ⟨rfl, hb8⟩)
           | (go_at_call 82; refine (rdot_ok a b c A B C _ HMX.out).mono ?_; rintro e w9 ⟨rfl, hb9⟩))
  have hfin := Lib.hid (below_next (below_next (below_drew hq.out) hb8) hb9)
  clear LD
  go_wp2
  go_ret2
  exact ⟨rfl, hfin.out⟩
theorem rmodel_p (M : List Int) (hM : M.length = 195) (x y z : Int) (w : World) :
   Calls Tryz.prog 43 #[.agg (ints M).toArray, v3 x y z] w fun e w' => e = .returned (num2 (mMay M && xOk x y z) (mdot M x y z) 900) ∧ Below w.heap.size w w' := by
  cases h : (mMay M && xOk x y z)
  · exact rmodel_p_no M hM x y z w h
  · rw [Bool.and_eq_true] at h
    obtain ⟨hm, hx⟩ := h
    obtain ⟨h1, h2, h3⟩ := xOk_iff.1 hx
    obtain ⟨x, rfl⟩ := Int.eq_ofNat_of_zero_le h1.1
    obtain ⟨y, rfl⟩ := Int.eq_ofNat_of_zero_le h2.1
    obtain ⟨z, rfl⟩ := Int.eq_ofNat_of_zero_le h3.1
    exact rmodel_p_yes M hM x y z w hm (by omega) (by omega) (by omega)
end Go.Proofs.YtiokfaiioealdaaGreatDoor
/- A model that learns, in the document's own answer (chapter 9). -/
namespace Go.Proofs.YtiokfaiioealdaaGreatDoor
open Go.RowKit Go.Proofs.YtiokfaiioealdaaGreatDoor.L
set_option linter.unusedVariables false
set_option linter.unusedSimpArgs false

theorem info_L {L : List Int} (h : L.length = 195) : (Tryz.prog.info? 63).map (·.size) = some (ints L).length := info_M h
theorem rtrain_ok (a b c x y z bit : Int) (w : World) (h : mixOk a b c x y z = true) (h0 : 0 ≤ bit) (h1 : bit ≤ 1) :
   Calls Tryz.prog 87 #[v3 a b c, v3 x y z, .int .i64 bit] w fun e w' => e = .returned (.tuple #[.agg #[.int .i64 (tw a x (4096 * bit - dot a b c x y z)), .int .i64 (tw b y (4096 * bit - dot a b c x y z)), .int .i64 (tw c z (4096 * bit - dot a b c x y z))], .int .i64 0]) ∧ Below w.heap.size w w' := by
  refine (rtrain_any a b c x y z bit w).mono fun e w' he => ?_
  rw [show trOk a b c x y z bit = true by simp [trOk, h, h0, h1]] at he; exact he
theorem rnext_ok (c bit : Int) (w : World) (h : cMay c = true) (h0 : 0 ≤ bit) (h1 : bit ≤ 1) : Calls Tryz.prog 88 #[.int .i64 c, .int .i64 bit] w fun e w' => e = .returned (.tuple #[.int .i64 (cUp c bit), .int .i64 0]) ∧ w = w' := by
  refine (rcount_next c bit w).mono fun e w' he => ?_
  rw [show cOk c bit = true by simp [cOk, h, h0, h1]] at he; exact he
/-- The document's Learn under way. -/
structure LRs (w W : World) (L : List Int) (x y z : Int) : Prop where
  hm : MB W w.heap.size L
  hx : C3 W (w.heap.size + 1) x y z
  ho : MB W (w.heap.size + 1 + 1) zM
  hb : Below w.heap.size w W
theorem LRs.below {w W W1 : World} {L : List Int} {x y z : Int} (h : LRs w W L x y z) (hb : Below W.heap.size W W1) : LRs w W1 L x y z := ⟨h.hm.below hb, h.hx.below hb, h.ho.below hb, below_next h.hb hb⟩
theorem LRs.drewN {w W : World} {L : List Int} {x y z : Int} (h : LRs w W L x y z) (n : Nat) : LRs w (W.drewN n) L x y z := ⟨h.hm.drewN n, h.hx.drewN n, h.ho.drewN n, below_drewN h.hb n⟩
theorem LRs.drew {w W : World} {L : List Int} {x y z : Int} (h : LRs w W L x y z) : LRs w W.drew L x y z := ⟨h.hm.drew, h.hx.drew, h.ho.drew, below_drew h.hb⟩
theorem LRs.alloc {w W : World} {L : List Int} {x y z : Int} (h : LRs w W L x y z) (o : Obj) : LRs w (W.alloc o) L x y z := ⟨h.hm.alloc o, h.hx.alloc o, h.ho.alloc o, below_alloc h.hb o⟩
theorem LRs.set {w W : World} {L : List Int} {x y z : Int} (h : LRs w W L x y z) (o : Nat) (v : Int) : LRs w (W.setCell ⟨w.heap.size, o, none⟩ (.int .i64 v)) (L.set o v) x y z :=
  ⟨h.hm.set o v, h.hx.far (by simp) _, h.ho.far (by simp; omega) _, below_set (by simp) h.hb _⟩
theorem LRs.start (w : World) {M : List Int} (hM : M.length = 195) (x y z : Int) (t : TypeId) : LRs w (((w.alloc (.cells (ints M).toArray 63)).alloc (.cells #[.int .i64 x, .int .i64 y, .int .i64 z] t)).alloc (.cells (ints zM).toArray 63)) M x y z := by
  refine ⟨((MB.new w hM).alloc _).alloc _, (C3.newAt (by simp)).alloc _, ?_, below_alloc (below_alloc (below_alloc (Below.refl _ _) _) _) _⟩
  have := MB.new ((w.alloc (.cells (ints M).toArray 63)).alloc (.cells #[.int .i64 x, .int .i64 y, .int .i64 z] t)) zM_length
  simpa using this
set_option maxRecDepth 100000 in
set_option maxHeartbeats 2000000 in
theorem rlearn_no (M : List Int) (hM : M.length = 195) (x y z bit : Int) (w : World) (h : lOk M x y z bit = false) :
   Calls Tryz.prog 45 #[.agg (ints M).toArray, v3 x y z, .int .i64 bit] w fun e w' => e = .returned (.tuple #[.agg (ints zM).toArray, .int .i64 900]) ∧ Below w.heap.size w w' := by
  have HM := Lib.hid hM
  have HS := Lib.hid (LRs.start w hM x y z 61)
  have hz0 : Tryz.zeroCells63 = (ints zM).toArray := by kernel_rfl
  have HZ0 := Lib.hid hz0
  have HSA := Lib.hid (info_M zM_length)
  clear hM hz0
  unfold v3
  have key : mMay M = false ∨ (mMay M = true ∧ xOk x y z = false) ∨ (mMay M = true ∧ xOk x y z = true ∧ (decide (0 ≤ bit) && decide (bit ≤ 1)) = false) := by
    unfold lOk at h
    cases hm : mMay M
    · exact .inl rfl
    · cases hx : xOk x y z
      · exact .inr (.inl ⟨rfl, rfl⟩)
      · rw [hm, hx] at h
        exact .inr (.inr ⟨rfl, rfl, by simpa using h⟩)
  clear h
  go_enter Tryz.func45, Tryz.ntmps45
  go_wp2_with (with_reducible refine wpList_load_mid rfl 63 (.tmp 3) rfl w.heap.size 0 ?_ (ints M) _ (range_below (range_below (range_new w M 63) (below_alloc (Below.refl _ _) _)) (below_alloc (Below.refl _ _) _)) Tryz.underlying63 rfl (info_L HM.out) ?_)
  all_goals first | (show _ = Value.pointer _; rfl) | skip
  rw [HZ0.out]
  generalize ((w.alloc _).alloc _).alloc _ = W0 at HS ⊢
  rcases key with h1 | ⟨h1, h2⟩ | ⟨h1, h2, h3⟩
  · have H1 := Lib.hid h1
    clear h1
    refine (rmodel_may M HM.out _).mono ?_
    rw [H1.out]
    rintro e w1 ⟨rfl, hb⟩
    have HS1 := Lib.hid (HS.out.below hb)
    have HTH := Lib.hid (HS1.out.ho.there zM_length)
    clear hb
    go_wp2_with (with_reducible refine wpList_store_mid rfl 63 (.tmp 6) (.tmp 27) rfl (w.heap.size + 1 + 1) 0 (ints zM).toArray ?_ ?_ HTH.out HSA.out (all_oneCell_toArray (ints_one _)) ?_)
    all_goals first | (show _ = Value.pointer _; rfl) | (show _ = Value.agg _; rfl) | (show _ = Value.agg _; exact congrArg Value.agg HZ0.out) | skip
    have hrs := World.rangeAt_setCells_same w1 (w.heap.size + 1 + 1) 0 (ints zM) HTH.out
    refine bodyPost_ret (results_cellt (P := Tryz.prog) Tryz.results45 _ _ (w.heap.size + 1 + 1) (ints zM) _ ?_ hrs Tryz.underlying63 rfl (info_L zM_length)) ?_ ⟨rfl, below_setCells (by omega) _ _ _ HS1.out.hb⟩
    all_goals first | rfl | go_simp
  · have H1 := Lib.hid h1
    have H2 := Lib.hid h2
    clear h1 h2
    refine (rmodel_may M HM.out _).mono ?_
    rw [H1.out]
    rintro e w1 ⟨rfl, hb⟩
    have HS1 := Lib.hid (HS.out.below hb)
    obtain ⟨x0, x1, x2⟩ := HS1.out.hx.cells3
    clear hb
    go_wp2_with fail
    refine (rctx_may x y z _).mono ?_
    rw [H2.out]
    rintro e w2 ⟨rfl, hb⟩
    have HS2 := Lib.hid (HS1.out.below hb)
    have HTH := Lib.hid (HS2.out.ho.there zM_length)
    clear hb x0 x1 x2
    go_wp2_with (with_reducible refine wpList_store_mid rfl 63 (.tmp 6) (.tmp 27) rfl (w.heap.size + 1 + 1) 0 (ints zM).toArray ?_ ?_ HTH.out HSA.out (all_oneCell_toArray (ints_one _)) ?_)
    all_goals first | (show _ = Value.pointer _; rfl) | (show _ = Value.agg _; rfl) | (show _ = Value.agg _; exact congrArg Value.agg HZ0.out) | skip
    have hrs := World.rangeAt_setCells_same w2 (w.heap.size + 1 + 1) 0 (ints zM) HTH.out
    refine bodyPost_ret (results_cellt (P := Tryz.prog) Tryz.results45 _ _ (w.heap.size + 1 + 1) (ints zM) _ ?_ hrs Tryz.underlying63 rfl (info_L zM_length)) ?_ ⟨rfl, below_setCells (by omega) _ _ _ HS2.out.hb⟩
    all_goals first | rfl | go_simp
  · have H1 := Lib.hid h1
    have H2 := Lib.hid h2
    have H3 := Lib.hid h3
    clear h1 h2 h3
    refine (rmodel_may M HM.out _).mono ?_
    rw [H1.out]
    rintro e w1 ⟨rfl, hb⟩
    have HS1 := Lib.hid (HS.out.below hb)
    obtain ⟨x0, x1, x2⟩ := HS1.out.hx.cells3
    clear hb
    go_wp2_with fail
    refine (rctx_may x y z _).mono ?_
    rw [H2.out]
    rintro e w2 ⟨rfl, hb⟩
    have HS2 := Lib.hid (HS1.out.below hb)
    have HTH := Lib.hid (HS2.out.ho.there zM_length)
    clear hb x0 x1 x2
    go_wp2_with (first | (go_at_call 79; refine (bit_may _ _).mono ?_; rw [H3.out]; rintro e w3 ⟨rfl, rfl⟩) | (with_reducible refine wpList_store_mid rfl 63 (.tmp 6) (.tmp 27) rfl (w.heap.size + 1 + 1) 0 (ints zM).toArray ?_ ?_ HTH.out HSA.out (all_oneCell_toArray (ints_one _)) ?_))
    all_goals first | (show _ = Value.pointer _; rfl) | (show _ = Value.agg _; rfl) | (show _ = Value.agg _; exact congrArg Value.agg HZ0.out) | skip
    have hrs := World.rangeAt_setCells_same w2 (w.heap.size + 1 + 1) 0 (ints zM) HTH.out
    refine bodyPost_ret (results_cellt (P := Tryz.prog) Tryz.results45 _ _ (w.heap.size + 1 + 1) (ints zM) _ ?_ hrs Tryz.underlying63 rfl (info_L zM_length)) ?_ ⟨rfl, below_setCells (by omega) _ _ _ HS2.out.hb⟩
    all_goals first | rfl | go_simp
set_option maxRecDepth 100000 in
set_option maxHeartbeats 4000000 in
theorem rlearn_yes (M : List Int) (hM : M.length = 195) (x y z : Nat) (bit : Int) (w : World) (hm : mMay M = true) (hx : x < 64) (hy : y < 64) (hz : z < 64) (hb0 : 0 ≤ bit) (hb1 : bit ≤ 1) :
   Calls Tryz.prog 45 #[.agg (ints M).toArray, v3 x y z, .int .i64 bit] w fun e w' => e = .returned (.tuple #[.agg (ints (lM M x y z bit)).toArray, .int .i64 0]) ∧ Below w.heap.size w w' := by
  have HM := Lib.hid hM
  have HS := Lib.hid (LRs.start w hM x y z 61)
  have HX := Lib.hid (show xOk x y z = true from xOk_iff.2 (by omega))
  have HMM := Lib.hid hm
  have HMX := Lib.hid (model_mix hM hm x (64 + y) (128 + z))
  have HG := Lib.hid (mMay_good hM hm)
  have hz0 : Tryz.zeroCells63 = (ints zM).toArray := by kernel_rfl
  have HZ0 := Lib.hid hz0
  have tb : (decide (0 ≤ bit) && decide (bit ≤ 1)) = true := by simp; omega
  have TB := Lib.hid tb
  clear hM hm hz0 tb
  obtain ⟨A, hA⟩ : ∃ A, mi M x = A := ⟨_, rfl⟩
  obtain ⟨B, hB⟩ : ∃ A, mi M (64 + y) = A := ⟨_, rfl⟩
  obtain ⟨C, hC⟩ : ∃ A, mi M (128 + z) = A := ⟨_, rfl⟩
  obtain ⟨a, ha⟩ : ∃ A, M.getD 192 0 = A := ⟨_, rfl⟩
  obtain ⟨b, hb'⟩ : ∃ A, M.getD 193 0 = A := ⟨_, rfl⟩
  obtain ⟨c, hc⟩ : ∃ A, M.getD 194 0 = A := ⟨_, rfl⟩
  have hok := HMX.out
  rw [hA, hB, hC, ha, hb', hc] at hok
  have HOK := Lib.hid hok
  have HABC := Lib.hid (show v3 (mi M x) (mi M (64 + y)) (mi M (128 + z)) = v3 A B C by rw [hA, hB, hC])
  obtain ⟨U, hU⟩ : ∃ A', tw a A (4096 * bit - dot a b c A B C) = A' := ⟨_, rfl⟩
  obtain ⟨V, hV⟩ : ∃ A', tw b B (4096 * bit - dot a b c A B C) = A' := ⟨_, rfl⟩
  obtain ⟨X, hX⟩ : ∃ A', tw c C (4096 * bit - dot a b c A B C) = A' := ⟨_, rfl⟩
  have HTR := Lib.hid (show (Value.tuple #[.agg #[.int .i64 (tw a A (4096 * bit - dot a b c A B C)), .int .i64 (tw b B (4096 * bit - dot a b c A B C)), .int .i64 (tw c C (4096 * bit - dot a b c A B C))], .int .i64 0]) = .tuple #[.agg #[.int .i64 U, .int .i64 V, .int .i64 X], .int .i64 0] by rw [hU, hV, hX])
  have HLA : Hid (lA M x y z bit = ((M.set 192 U).set 193 V).set 194 X) := by
    show _ = _
    unfold lA lW
    simp only [Nat.add_zero, Nat.reduceAdd]
    rw [hA, hB, hC, ha, hb', hc, hU, hV, hX]
  have Ha := Lib.hid ha
  have Hb := Lib.hid hb'
  have Hc := Lib.hid hc
  clear hA hB hC ha hb' hc hU hV hX hok HMX
  unfold v3
  go_enter Tryz.func45, Tryz.ntmps45
  go_wp2_with (with_reducible refine wpList_load_mid rfl 63 (.tmp 3) rfl w.heap.size 0 ?_ (ints M) _ (range_below (range_below (range_new w M 63) (below_alloc (Below.refl _ _) _)) (below_alloc (Below.refl _ _) _)) Tryz.underlying63 rfl (info_L HM.out) ?_)
  all_goals first | (show _ = Value.pointer _; rfl) | skip
  rw [HZ0.out]
  generalize ((w.alloc _).alloc _).alloc _ = W0 at HS ⊢
  refine (rmodel_may M HM.out _).mono ?_
  rw [HMM.out]
  rintro e w1 ⟨rfl, hb⟩
  have HS1 := Lib.hid (HS.out.below hb)
  obtain ⟨x0, x1, x2⟩ := HS1.out.hx.cells3
  clear hb HS
  go_wp2_with fail
  refine (rctx_may x y z _).mono ?_
  rw [HX.out]
  rintro e w2 ⟨rfl, hb⟩
  have HS2 := Lib.hid (HS1.out.below hb)
  clear hb x0 x1 x2 HS1
  obtain ⟨x0, x1, x2⟩ := HS2.out.hx.cells3
  go_wp2_with (first | (go_at_call 79; refine (bit_may _ _).mono ?_; rw [TB.out]; rintro e w3 ⟨rfl, rfl⟩) | (with_reducible refine wpList_load_mid rfl 63 (.tmp 3) rfl w.heap.size 0 ?_ (ints M) _ HS2.out.hm.range Tryz.underlying63 rfl (info_L HM.out) ?_))
  all_goals first | (show _ = Value.pointer _; rfl) | skip
  refine (rmodel_inputs x y z M _ HM.out HG.out hx hy hz).mono ?_
  rw [HABC.out]
  rintro e w3 ⟨rfl, hb⟩
  have HS3 := Lib.hid (HS2.out.below hb)
  clear hb x0 x1 x2 HS2
  have m0 := HS3.out.hm.cell (o := 192) (by omega)
  have m1 := HS3.out.hm.cell (o := 193) (by omega)
  have m2 := HS3.out.hm.cell (o := 194) (by omega)
  rw [Ha.out] at m0
  rw [Hb.out] at m1
  rw [Hc.out] at m2
  have hlt3 := HS3.out.hm.lt
  go_wp2_with fail
  refine (rtrain_ok a b c A B C bit _ HOK.out hb0 hb1).mono ?_
  rw [HTR.out]
  rintro e w4 ⟨rfl, hb⟩
  have HS4 := Lib.hid ((HS3.out.alloc (.cells #[.int .i64 A, .int .i64 B, .int .i64 C] 61)).below hb)
  clear hb HS3 m0 m1 m2
  have m0 := HS4.out.hm.cell (o := 192) (by omega)
  have m1 := HS4.out.hm.cell (o := 193) (by omega)
  have m2 := HS4.out.hm.cell (o := 194) (by omega)
  have f0 := HS4.out.hm.frozen 192
  have f1 := HS4.out.hm.frozen 193
  have f2 := HS4.out.hm.frozen 194
  have HS5 := Lib.hid ((((HS4.out.set 192 U).set 193 V).set 194 X).alloc (.cells #[.int .i64 U, .int .i64 V, .int .i64 X] 61))
  rw [← HLA.out] at HS5
  have hlt := HS4.out.hm.lt
  go_wp2_with fail
  clear m0 m1 m2 f0 f1 f2 HS4
  generalize World.alloc _ _ = W0 at HS5 ⊢
  have HS0 := HS5
  clear HS5
  refine wp_loop_rounds 4 ?_
  rw [rounds_succ]
  obtain ⟨x0, x1, x2⟩ := HS0.out.hx.cells3
  have cm := HS0.out.hm.cell (o := x) (by omega)
  have fm := HS0.out.hm.frozen (x)
  obtain ⟨q0, hq0⟩ : ∃ q, M.getD (x) 0 = q := ⟨_, rfl⟩
  rw [lA_get (by omega), hq0] at cm
  have HQ0 := Lib.hid hq0
  have HC0 := Lib.hid (show cMay q0 = true by rw [← hq0]; exact HG.out (x) (by omega))
  clear hq0
  go_wp2_with fail
  go_quiet ((go_at_call 88; exact Calls.quiet_of_same ((rnext_ok q0 bit _ HC0.out hb0 hb1).mono fun _ _ h => ⟨h.1, h.2.symm⟩)))
  go_wp2_with fail
  go_region
  generalize hWW : World.setCell _ ⟨w.heap.size, x, none⟩ _ = W1
  have HS1 := Lib.hid (show LRs w W1 _ x y z by rw [← hWW]; exact (HS0.out.drewN _).set (x) (cUp q0 bit))
  clear x0 x1 x2 cm fm hWW HS0
  go_wp2_with fail
  rw [rounds_succ]
  obtain ⟨x0, x1, x2⟩ := HS1.out.hx.cells3
  have cm := HS1.out.hm.cell (o := 64 + y) (by omega)
  have fm := HS1.out.hm.frozen (64 + y)
  obtain ⟨q1, hq1⟩ : ∃ q, M.getD (64 + y) 0 = q := ⟨_, rfl⟩
  rw [getD_set_ne (by omega), lA_get (by omega), hq1] at cm
  have HQ1 := Lib.hid hq1
  have HC1 := Lib.hid (show cMay q1 = true by rw [← hq1]; exact HG.out (64 + y) (by omega))
  clear hq1
  go_wp2_with fail
  go_quiet ((go_at_call 88; exact Calls.quiet_of_same ((rnext_ok q1 bit _ HC1.out hb0 hb1).mono fun _ _ h => ⟨h.1, h.2.symm⟩)))
  go_wp2_with fail
  go_region
  generalize hWW : World.setCell _ ⟨w.heap.size, 64 + y, none⟩ _ = W2
  have HS2 := Lib.hid (show LRs w W2 _ x y z by rw [← hWW]; exact (HS1.out.drewN _).set (64 + y) (cUp q1 bit))
  clear x0 x1 x2 cm fm hWW HS1
  go_wp2_with fail
  rw [rounds_succ]
  obtain ⟨x0, x1, x2⟩ := HS2.out.hx.cells3
  have cm := HS2.out.hm.cell (o := 128 + z) (by omega)
  have fm := HS2.out.hm.frozen (128 + z)
  obtain ⟨q2, hq2⟩ : ∃ q, M.getD (128 + z) 0 = q := ⟨_, rfl⟩
  rw [getD_set_ne (by omega), getD_set_ne (by omega), lA_get (by omega), hq2] at cm
  have HQ2 := Lib.hid hq2
  have HC2 := Lib.hid (show cMay q2 = true by rw [← hq2]; exact HG.out (128 + z) (by omega))
  clear hq2
  go_wp2_with fail
  go_quiet ((go_at_call 88; exact Calls.quiet_of_same ((rnext_ok q2 bit _ HC2.out hb0 hb1).mono fun _ _ h => ⟨h.1, h.2.symm⟩)))
  go_wp2_with fail
  go_region
  generalize hWW : World.setCell _ ⟨w.heap.size, 128 + z, none⟩ _ = W3
  have HS3 := Lib.hid (show LRs w W3 _ x y z by rw [← hWW]; exact (HS2.out.drewN _).set (128 + z) (cUp q2 bit))
  clear x0 x1 x2 cm fm hWW HS2
  go_wp2_with fail
  have HF : Hid (LRs w W3 (lM M x y z bit) x y z) := by
    unfold lM
    rw [HQ0.out, HQ1.out, HQ2.out]
    exact HS3.out
  clear HS3
  have HLF := Lib.hid (show (lM M x y z bit).length = 195 by rw [lM_length]; exact HM.out)
  have HTH := Lib.hid (HF.out.ho.there HLF.out)
  rw [rounds_succ]
  go_wp2_with (first
    | (with_reducible refine wpList_load_mid rfl 63 (.tmp 3) rfl w.heap.size 0 ?_ (ints (lM M x y z bit)) _ HF.out.hm.range Tryz.underlying63 rfl (info_L HLF.out) ?_)
    | (with_reducible refine wpList_store_mid rfl 63 (.tmp 6) (.tmp 66) rfl (w.heap.size + 1 + 1) 0 (ints (lM M x y z bit)).toArray ?_ ?_ HTH.out (info_M HLF.out) (all_oneCell_toArray (ints_one _)) ?_))
  all_goals first | (show _ = Value.pointer _; rfl) | (show _ = Value.agg _; rfl) | skip
  have hrs := World.rangeAt_setCells_same W3 (w.heap.size + 1 + 1) 0 (ints (lM M x y z bit)) HTH.out
  refine bodyPost_ret (results_cellt (P := Tryz.prog) Tryz.results45 _ _ (w.heap.size + 1 + 1) (ints (lM M x y z bit)) _ ?_ hrs Tryz.underlying63 rfl (info_L HLF.out)) ?_ ⟨rfl, below_setCells (by omega) _ _ _ HF.out.hb⟩
  all_goals first | rfl | go_simp
theorem rmodel_learn (M : List Int) (hM : M.length = 195) (x y z bit : Int) (w : World) :
   Calls Tryz.prog 45 #[.agg (ints M).toArray, v3 x y z, .int .i64 bit] w fun e w' => e = .returned (.tuple #[.agg (ints (lR M x y z bit)).toArray, .int .i64 (if lOk M x y z bit then 0 else 900)]) ∧ Below w.heap.size w w' := by
  unfold lR
  cases h : lOk M x y z bit
  · exact rlearn_no M hM x y z bit w h
  · obtain ⟨hm, ⟨h1, h2, h3⟩, hb0, hb1⟩ := lOk_iff.1 h
    obtain ⟨x, rfl⟩ := Int.eq_ofNat_of_zero_le h1.1
    obtain ⟨y, rfl⟩ := Int.eq_ofNat_of_zero_le h2.1
    obtain ⟨z, rfl⟩ := Int.eq_ofNat_of_zero_le h3.1
    exact rlearn_yes M hM x y z bit w hm (by omega) (by omega) (by omega) hb0 hb1
end Go.Proofs.YtiokfaiioealdaaGreatDoor
