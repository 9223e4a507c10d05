/- What the document's own answers on a model come to: may it be, may its context be, what its rows say (chapter 9). -/
import Derived.Test.YtlabpfebdhbgiaaDoorWModV
namespace Go.Proofs.YtlabpfebdhbgiaaDoor
open Go.RowKit
set_option linter.unusedVariables false
set_option linter.unusedSimpArgs false

set_option maxHeartbeats 1000000 in
theorem rmodel_may (M : List Int) (hM : M.length = 195) (w : World) :
   Calls Tryd.prog 36 #[.agg (ints M).toArray] w fun e w' => e = .returned (.bool (mMay M)) ∧ Below w.heap.size w w' := by
  have hno := fun (i : Nat) (hi : i < 192) (h : cMay (M.getD i 0) = false) => mMay_no hM hi h
  have hyes := fun h => mMay_yes hM h
  obtain ⟨B, hB⟩ : ∃ B, mMay M = B := ⟨_, rfl⟩
  rw [hB] at hno hyes ⊢
  have HNO := Lib.hid hno
  have HYES := Lib.hid hyes
  have HM := Lib.hid (MB.new w hM)
  have HB := Lib.hid (below_alloc (Below.refl w.heap.size w) (.cells (ints M).toArray 48))
  clear hno hyes hB
  go_enter Tryd.func36, Tryd.ntmps36
  go_wp2_with fail
  generalize w.alloc _ = W at HM HB ⊢
  clear hM
  go_loop [3] (fun v => ∃ i : Nat, v = .int .i64 i ∧ i ≤ 3 ∧ Hid (Good M (64 * i))) (fun v => (3 - intOf v).toNat)
  case atStart => exact ⟨0, rfl, by omega, by show Good M 0; intro j hj; omega⟩
  case round =>
    obtain ⟨i, rfl, hi, HG⟩ := hrel
    by_cases hlt : i < 3
    · go_wp2_with fail
      go_loop [4] (fun v => ∃ j : Nat, v = .int .i64 j ∧ j ≤ 64 ∧ Hid (Good M (64 * i + j))) (fun v => (64 - intOf v).toNat)
      case atStart => exact ⟨0, rfl, by omega, HG⟩
      case round =>
        obtain ⟨j, rfl, hj, HG2⟩ := hrel
        by_cases hlt2 : j < 64
        · have ck := HM.out.cell (o := i * 64 + j) (by omega)
          obtain ⟨c, hc⟩ : ∃ c, M.getD (i * 64 + j) 0 = c := ⟨_, rfl⟩
          rw [hc] at ck
          have bi : (i : Int) < 3 := by omega
          have bj : (j : Int) < 64 := by omega
          cases hcm : cMay c
          · have hBf := HNO.out (i * 64 + j) (by omega) (by rw [hc]; exact hcm)
            have HC := Lib.hid hcm
            have HBF := Lib.hid hBf
            clear hc hcm hBf
            go_wp2_with (go_at_call 57; refine (rcount_may c _).mono ?_; rw [HC.out]; rintro e w1 ⟨rfl, rfl⟩)
            go_ret
            exact ⟨ret_bool HBF.out.symm, HB.out⟩
          · have HG3 : Hid (Good M (64 * i + (j + 1))) := by
              intro l hl
              rcases Nat.lt_or_ge l (64 * i + j) with h | h
              · exact HG2.out l h
              · rw [show l = i * 64 + j by omega, hc]; exact hcm
            have HC := Lib.hid hcm
            clear hc hcm
            go_wp2_with (go_at_call 57; refine (rcount_may c _).mono ?_; rw [HC.out]; rintro e w1 ⟨rfl, rfl⟩)
            go_round
            case rel => exact ⟨j + 1, by go_num, by omega, HG3⟩
            case measure => simp [intOf]; omega
        · obtain rfl : j = 64 := by omega
          have HG3 : Hid (Good M (64 * (i + 1))) := HG2
          go_wp2
          go_round
          case rel => exact ⟨i + 1, by go_num, by omega, HG3⟩
          case measure => simp [intOf]; omega
    · obtain rfl : i = 3 := by omega
      have hBy := Lib.hid (HYES.out HG.out)
      have c0 := HM.out.cell (o := 192) (by omega)
      have c1 := HM.out.cell (o := 193) (by omega)
      have c2 := HM.out.cell (o := 194) (by omega)
      go_wp2_with (go_at_call 46; refine (three_may 1048576 _ _ _ _ (by decide) (by decide)).mono ?_; rintro e w1 ⟨rfl, hb⟩; have HB1 := Lib.hid (below_next HB.out hb); clear hb)
      go_ret
      exact ⟨ret_bool hBy.out.symm, HB1.out⟩
theorem rctx_may (x y z : Int) (w : World) :
   Calls Tryd.prog 51 #[v3 x y z] w fun e w' => e = .returned (.bool (xOk x y z)) ∧ Below w.heap.size w w' := by
  unfold v3
  rw [show xOk x y z = ((decide (0 ≤ x) && decide (x ≤ 63)) && ((decide (0 ≤ y) && decide (y ≤ 63)) && (decide (0 ≤ z) && decide (z ≤ 63)))) by rfl]
  cases p1 : (decide (0 ≤ x) && decide (x ≤ 63))
  · go_enter Tryd.func51, Tryd.ntmps51
    go_wp2
    refine wp_loop_rounds 4 ?_
    rw [rounds_succ]
    go_wp2_with ((go_at_call 42; refine (up_to _ _ _ _).mono ?_; rintro e w1 ⟨rfl, rfl⟩))
    go_ret
    exact ⟨rfl, (by repeat (first | (with_reducible exact Below.refl _ _) | (with_reducible exact Hid.out (by with_reducible assumption)) | (with_reducible apply below_drewN) | (with_reducible apply below_drew) | (with_reducible apply below_alloc) | (refine below_set ?_ ?_ _; (focus (first | (simp; done) | (simp; omega))))))⟩
  · cases p2 : (decide (0 ≤ y) && decide (y ≤ 63))
    · go_enter Tryd.func51, Tryd.ntmps51
      go_wp2
      refine wp_loop_rounds 4 ?_
      rw [rounds_succ]
      go_wp2_with ((go_at_call 42; refine (up_to _ _ _ _).mono ?_; rintro e w1 ⟨rfl, rfl⟩))
      rw [rounds_succ]
      go_wp2_with ((go_at_call 42; refine (up_to _ _ _ _).mono ?_; rintro e w1 ⟨rfl, rfl⟩))
      go_ret
      exact ⟨rfl, (by repeat (first | (with_reducible exact Below.refl _ _) | (with_reducible exact Hid.out (by with_reducible assumption)) | (with_reducible apply below_drewN) | (with_reducible apply below_drew) | (with_reducible apply below_alloc) | (refine below_set ?_ ?_ _; (focus (first | (simp; done) | (simp; omega))))))⟩
    · cases p3 : (decide (0 ≤ z) && decide (z ≤ 63))
      · go_enter Tryd.func51, Tryd.ntmps51
        go_wp2
        refine wp_loop_rounds 4 ?_
        rw [rounds_succ]
        go_wp2_with ((go_at_call 42; refine (up_to _ _ _ _).mono ?_; rintro e w1 ⟨rfl, rfl⟩))
        rw [rounds_succ]
        go_wp2_with ((go_at_call 42; refine (up_to _ _ _ _).mono ?_; rintro e w1 ⟨rfl, rfl⟩))
        rw [rounds_succ]
        go_wp2_with ((go_at_call 42; refine (up_to _ _ _ _).mono ?_; rintro e w1 ⟨rfl, rfl⟩))
        go_ret
        exact ⟨rfl, (by repeat (first | (with_reducible exact Below.refl _ _) | (with_reducible exact Hid.out (by with_reducible assumption)) | (with_reducible apply below_drewN) | (with_reducible apply below_drew) | (with_reducible apply below_alloc) | (refine below_set ?_ ?_ _; (focus (first | (simp; done) | (simp; omega))))))⟩
      · go_enter Tryd.func51, Tryd.ntmps51
        go_wp2
        refine wp_loop_rounds 4 ?_
        rw [rounds_succ]
        go_wp2_with ((go_at_call 42; refine (up_to _ _ _ _).mono ?_; rintro e w1 ⟨rfl, rfl⟩))
        rw [rounds_succ]
        go_wp2_with ((go_at_call 42; refine (up_to _ _ _ _).mono ?_; rintro e w1 ⟨rfl, rfl⟩))
        rw [rounds_succ]
        go_wp2_with ((go_at_call 42; refine (up_to _ _ _ _).mono ?_; rintro e w1 ⟨rfl, rfl⟩))
        rw [rounds_succ]
        go_wp2_with ((go_at_call 42; refine (up_to _ _ _ _).mono ?_; rintro e w1 ⟨rfl, rfl⟩))
        go_ret
        exact ⟨rfl, (by repeat (first | (with_reducible exact Below.refl _ _) | (with_reducible exact Hid.out (by with_reducible assumption)) | (with_reducible apply below_drewN) | (with_reducible apply below_drew) | (with_reducible apply below_alloc) | (refine below_set ?_ ?_ _; (focus (first | (simp; done) | (simp; omega))))))⟩
theorem rcount_p_yes (c : Int) (w : World) (h : cMay c = true) : Calls Tryd.prog 60 #[.int .i64 c] w fun e w' => e = .returned (.tuple #[.int .i64 (cCh c), .int .i64 0]) ∧ w = w' := by
  refine (rcount_p c w).mono fun e w' he => ?_
  rw [h] at he; exact he
theorem rstretch_ok (c : Int) (w : World) (h : cMay c = true) : Calls Tryd.prog 21 #[.int .i64 (cCh c)] w fun e w' => e = .returned (.tuple #[.int .i64 (st (cCh c)), .int .i64 0]) ∧ Below w.heap.size w w' := by
  refine (rstretch_any _ w).mono fun e w' he => ?_
  rw [st_ok c h] at he; exact he
/-- The document's 'inputs' under way. -/
structure RIn (w W : World) (M : List Int) (x y z : Nat) (a b c : Int) : Prop where
  hm : MB W w.heap.size M
  hx : C3 W (w.heap.size + 1) x y z
  ho : C3 W (w.heap.size + 1 + 1) 0 0 0
  hl : C3 W (w.heap.size + 1 + 1 + 1) a b c
  hb : Below w.heap.size w W
theorem C3.cells3 {W : World} {b : Nat} {x y z : Int} (h : C3 W b x y z) : W.cell? ⟨b, 0, none⟩ = some (.int .i64 x) ∧ W.cell? ⟨b, 1, none⟩ = some (.int .i64 y) ∧ W.cell? ⟨b, 2, none⟩ = some (.int .i64 z) := ⟨h.e0, h.e1, h.e2⟩
theorem C3.drewN {W : World} {b : Nat} {x y z : Int} (h : C3 W b x y z) (n : Nat) : C3 (W.drewN n) b x y z := ⟨h.e0, h.e1, h.e2, h.f0, h.f1, h.f2⟩
theorem C3.drew {W : World} {b : Nat} {x y z : Int} (h : C3 W b x y z) : C3 W.drew b x y z := ⟨h.e0, h.e1, h.e2, h.f0, h.f1, h.f2⟩
theorem C3.alloc {W : World} {b : Nat} {x y z : Int} (h : C3 W b x y z) (o : Obj) : C3 (W.alloc o) b x y z := h.below (below_alloc (Below.refl _ _) _)
theorem C3.far {W : World} {b : Nat} {x y z : Int} (h : C3 W b x y z) {p : Addr} (hp : p.block ≠ b) (v : Value) : C3 (W.setCell p v) b x y z := by
  constructor
  · rw [World.cell?_setCell_other W p _ v (by rintro rfl; exact hp rfl)]; exact h.e0
  · rw [World.cell?_setCell_other W p _ v (by rintro rfl; exact hp rfl)]; exact h.e1
  · rw [World.cell?_setCell_other W p _ v (by rintro rfl; exact hp rfl)]; exact h.e2
  · have := h.f0; go_simp
  · have := h.f1; go_simp
  · have := h.f2; go_simp
theorem C3.put0 {W : World} {b : Nat} {x y z : Int} (h : C3 W b x y z) (v : Int) : C3 (W.setCell ⟨b, 0, none⟩ (.int .i64 v)) b v y z := by
  obtain ⟨h0, h1, h2, f0, f1, f2⟩ := h
  constructor <;> go_simp
theorem C3.put1 {W : World} {b : Nat} {x y z : Int} (h : C3 W b x y z) (v : Int) : C3 (W.setCell ⟨b, 1, none⟩ (.int .i64 v)) b x v z := by
  obtain ⟨h0, h1, h2, f0, f1, f2⟩ := h
  constructor <;> go_simp
theorem C3.put2 {W : World} {b : Nat} {x y z : Int} (h : C3 W b x y z) (v : Int) : C3 (W.setCell ⟨b, 2, none⟩ (.int .i64 v)) b x y v := by
  obtain ⟨h0, h1, h2, f0, f1, f2⟩ := h
  constructor <;> go_simp
theorem C3.newAt {W : World} {b : Nat} {x y z : Int} {t : TypeId} (h : b = W.heap.size) : C3 (W.alloc (.cells #[.int .i64 x, .int .i64 y, .int .i64 z] t)) b x y z := by subst h; exact C3.new W x y z t
theorem RIn.ctx {w W : World} {M : List Int} {x y z : Nat} {a b c : Int} (h : RIn w W M x y z a b c) : W.cell? ⟨w.heap.size + 1, 0, none⟩ = some (.int .i64 x) ∧ W.cell? ⟨w.heap.size + 1, 1, none⟩ = some (.int .i64 y) ∧ W.cell? ⟨w.heap.size + 1, 2, none⟩ = some (.int .i64 z) := h.hx.cells3
theorem RIn.drewN {w W : World} {M : List Int} {x y z : Nat} {a b c : Int} (h : RIn w W M x y z a b c) (n : Nat) : RIn w (W.drewN n) M x y z a b c := ⟨h.hm.drewN n, h.hx.drewN n, h.ho.drewN n, h.hl.drewN n, below_drewN h.hb n⟩
theorem RIn.below {w W W1 : World} {M : List Int} {x y z : Nat} {a b c : Int} (h : RIn w W M x y z a b c) (hb : Below W.heap.size W W1) : RIn w W1 M x y z a b c := ⟨h.hm.below hb, h.hx.below hb, h.ho.below hb, h.hl.below hb, below_next h.hb hb⟩
theorem RIn.set0 {w W : World} {M : List Int} {x y z : Nat} {a b c : Int} (h : RIn w W M x y z a b c) (v : Int) : RIn w (W.setCell ⟨w.heap.size + 1 + 1 + 1, 0, none⟩ (.int .i64 v)) M x y z v b c :=
  ⟨h.hm.far (by simp; omega) _, h.hx.far (by simp; omega) _, h.ho.far (by simp) _, h.hl.put0 v, below_set (by simp; omega) h.hb _⟩
theorem RIn.set1 {w W : World} {M : List Int} {x y z : Nat} {a b c : Int} (h : RIn w W M x y z a b c) (v : Int) : RIn w (W.setCell ⟨w.heap.size + 1 + 1 + 1, 1, none⟩ (.int .i64 v)) M x y z a v c :=
  ⟨h.hm.far (by simp; omega) _, h.hx.far (by simp; omega) _, h.ho.far (by simp) _, h.hl.put1 v, below_set (by simp; omega) h.hb _⟩
theorem RIn.set2 {w W : World} {M : List Int} {x y z : Nat} {a b c : Int} (h : RIn w W M x y z a b c) (v : Int) : RIn w (W.setCell ⟨w.heap.size + 1 + 1 + 1, 2, none⟩ (.int .i64 v)) M x y z a b v :=
  ⟨h.hm.far (by simp; omega) _, h.hx.far (by simp; omega) _, h.ho.far (by simp) _, h.hl.put2 v, below_set (by simp; omega) h.hb _⟩
theorem RIn.start (w : World) {M : List Int} (hM : M.length = 195) (x y z : Nat) (t : TypeId) : RIn w ((((w.alloc (.cells (ints M).toArray 48)).alloc (.cells #[.int .i64 x, .int .i64 y, .int .i64 z] t)).alloc (.cells #[.int .i64 0, .int .i64 0, .int .i64 0] t)).alloc (.cells #[.int .i64 0, .int .i64 0, .int .i64 0] t)) M x y z 0 0 0 := by
  refine ⟨(((MB.new w hM).alloc _).alloc _).alloc _, ?_, ?_, ?_, below_alloc (below_alloc (below_alloc (below_alloc (Below.refl _ _) _) _) _) _⟩
  · exact ((C3.newAt (by simp)).alloc _).alloc _
  · exact (C3.newAt (by simp)).alloc _
  · exact C3.newAt (by simp)
set_option maxHeartbeats 2000000 in
theorem rmodel_inputs (x y z : Nat) (M : List Int) (w : World) (hM : M.length = 195) (hg : Good M 192) (hx : x < 64) (hy : y < 64) (hz : z < 64) :
   Calls Tryd.prog 52 #[.agg (ints M).toArray, v3 x y z] w fun e w' => e = .returned (v3 (mi M x) (mi M (64 + y)) (mi M (128 + z))) ∧ Below w.heap.size w w' := by
  have g0 := Lib.hid (hg x (by omega))
  have g1 := Lib.hid (hg (64 + y) (by omega))
  have g2 := Lib.hid (hg (128 + z) (by omega))
  obtain ⟨A, hA⟩ : ∃ A, mi M x = A := ⟨_, rfl⟩
  obtain ⟨B, hB⟩ : ∃ A, mi M (64 + y) = A := ⟨_, rfl⟩
  obtain ⟨C, hC⟩ : ∃ A, mi M (128 + z) = A := ⟨_, rfl⟩
  rw [hA, hB, hC]
  have HA := Lib.hid hA
  have HB := Lib.hid hB
  have HC := Lib.hid hC
  have HS0 := Lib.hid (RIn.start w hM x y z 34)
  clear hA hB hC hg hM
  unfold v3
  go_enter Tryd.func52, Tryd.ntmps52
  go_wp2_with fail
  generalize ((w.alloc _).alloc _).alloc _ = W0 at HS0 ⊢
  generalize W0.alloc _ = W0 at HS0 ⊢
  refine wp_loop_rounds 4 ?_
  rw [rounds_succ]
  obtain ⟨x0, x1, x2⟩ := HS0.out.ctx
  have cm := HS0.out.hm.cell (o := x) (by omega)
  go_wp2_with fail
  go_quiet ((go_at_call 60; exact Calls.quiet_of_same ((rcount_p_yes _ _ g0.out).mono fun _ _ h => ⟨h.1, h.2.symm⟩)))
  clear x0 x1 x2 cm
  go_wp2_with fail
  refine (rstretch_ok _ _ g0.out).mono ?_
  rintro e wb0 ⟨rfl, hb⟩
  rw [show st (cCh (M.getD (x) 0)) = A from HA.out]
  have HT0 := Lib.hid ((HS0.out.drewN _).below hb)
  obtain ⟨l0, l1, l2, m0, m1, m2, mlt⟩ := HT0.out.hl.all
  have HS1 := Lib.hid (HT0.out.set0 A)
  clear hb HS0 HT0
  go_wp2_with fail
  clear l0 l1 l2 m0 m1 m2 mlt
  generalize (World.setCell _ ⟨w.heap.size + 1 + 1 + 1, 0, none⟩ (.int .i64 A)) = W1 at HS1 ⊢
  rw [rounds_succ]
  obtain ⟨x0, x1, x2⟩ := HS1.out.ctx
  have cm := HS1.out.hm.cell (o := 64 + y) (by omega)
  go_wp2_with fail
  go_quiet ((go_at_call 60; exact Calls.quiet_of_same ((rcount_p_yes _ _ g1.out).mono fun _ _ h => ⟨h.1, h.2.symm⟩)))
  clear x0 x1 x2 cm
  go_wp2_with fail
  refine (rstretch_ok _ _ g1.out).mono ?_
  rintro e wb1 ⟨rfl, hb⟩
  rw [show st (cCh (M.getD (64 + y) 0)) = B from HB.out]
  have HT1 := Lib.hid ((HS1.out.drewN _).below hb)
  obtain ⟨l0, l1, l2, m0, m1, m2, mlt⟩ := HT1.out.hl.all
  have HS2 := Lib.hid (HT1.out.set1 B)
  clear hb HS1 HT1
  go_wp2_with fail
  clear l0 l1 l2 m0 m1 m2 mlt
  generalize (World.setCell _ ⟨w.heap.size + 1 + 1 + 1, 1, none⟩ (.int .i64 B)) = W2 at HS2 ⊢
  rw [rounds_succ]
  obtain ⟨x0, x1, x2⟩ := HS2.out.ctx
  have cm := HS2.out.hm.cell (o := 128 + z) (by omega)
  go_wp2_with fail
  go_quiet ((go_at_call 60; exact Calls.quiet_of_same ((rcount_p_yes _ _ g2.out).mono fun _ _ h => ⟨h.1, h.2.symm⟩)))
  clear x0 x1 x2 cm
  go_wp2_with fail
  refine (rstretch_ok _ _ g2.out).mono ?_
  rintro e wb2 ⟨rfl, hb⟩
  rw [show st (cCh (M.getD (128 + z) 0)) = C from HC.out]
  have HT2 := Lib.hid ((HS2.out.drewN _).below hb)
  obtain ⟨l0, l1, l2, m0, m1, m2, mlt⟩ := HT2.out.hl.all
  have HS3 := Lib.hid (HT2.out.set2 C)
  clear hb HS2 HT2
  go_wp2_with fail
  clear l0 l1 l2 m0 m1 m2 mlt
  generalize (World.setCell _ ⟨w.heap.size + 1 + 1 + 1, 2, none⟩ (.int .i64 C)) = W3 at HS3 ⊢
  rw [rounds_succ]
  obtain ⟨o0, o1, o2, n0, n1, n2, nlt⟩ := HS3.out.ho.all
  obtain ⟨l0, l1, l2, m0, m1, m2, mlt⟩ := HS3.out.hl.all
  go_wp2_with fail
  refine bodyPost_ret (v := v3 A B C) ?_ rfl ⟨rfl, ?_⟩
  · simp [results, Tryd.results52, go_sem, o0, o1, o2, n0, n1, n2, l0, l1, l2, m0, m1, m2]
  · exact below_set (by first | (simp; done) | (simp; omega)) (below_set (by first | (simp; done) | (simp; omega)) (below_set (by first | (simp; done) | (simp; omega)) HS3.out.hb _) _) _
end Go.Proofs.YtlabpfebdhbgiaaDoor
