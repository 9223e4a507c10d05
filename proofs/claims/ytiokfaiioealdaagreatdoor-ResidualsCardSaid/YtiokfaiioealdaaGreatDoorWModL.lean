/- A model that learns (chapter 9), in the program. -/
import Derived.Test.YtiokfaiioealdaaGreatDoorWModN
import Derived.Test.YtiokfaiioealdaaGreatDoorWModQ
import Derived.Deep.RegionHeld3
import Derived.BigRegion
namespace Go.Proofs.YtiokfaiioealdaaGreatDoor
open Go.RowKit Go.Proofs.YtiokfaiioealdaaGreatDoor.L
set_option linter.unusedVariables false
set_option linter.unusedSimpArgs false

/-- The weights of a model that learned a bit. -/
def lW (M : List Int) (x y z : Nat) (bit : Int) (i : Nat) (xi : Nat) : Int :=
  tw (M.getD (192 + i) 0) (mi M xi) (4096 * bit - dot (M.getD 192 0) (M.getD 193 0) (M.getD 194 0) (mi M x) (mi M (64 + y)) (mi M (128 + z)))
def lA (M : List Int) (x y z : Nat) (bit : Int) : List Int := ((M.set 192 (lW M x y z bit 0 x)).set 193 (lW M x y z bit 1 (64 + y))).set 194 (lW M x y z bit 2 (128 + z))
/-- A model that learned a bit. -/
def lM (M : List Int) (x y z : Nat) (bit : Int) : List Int :=
  (((lA M x y z bit).set x (cUp (M.getD x 0) bit)).set (64 + y) (cUp (M.getD (64 + y) 0) bit)).set (128 + z) (cUp (M.getD (128 + z) 0) bit)
theorem train_ok (a b c x y z bit : Int) (w : World) (ht : Tab w) (h : mixOk a b c x y z = true) (h0 : 0 ≤ bit) (h1 : bit ≤ 1) :
   Calls Tryz.prog 189 #[v3 a b c, v3 x y z, .int .i64 bit] w fun e w' => e = .returned (.tuple #[.agg #[.int .i64 (tw a x (4096 * bit - dot a b c x y z)), .int .i64 (tw b y (4096 * bit - dot a b c x y z)), .int .i64 (tw c z (4096 * bit - dot a b c x y z))], .int .i64 0]) ∧ Below w.heap.size w w' := by
  refine (train_any a b c x y z bit w ht).mono fun e w' he => ?_
  rw [show trOk a b c x y z bit = true by simp [trOk, h, h0, h1]] at he; exact he
theorem next_ok (c bit : Int) (w : World) (h : cMay c = true) (h0 : 0 ≤ bit) (h1 : bit ≤ 1) : Calls Tryz.prog 191 #[.int .i64 c, .int .i64 bit] w fun e w' => e = .returned (.tuple #[.int .i64 (cUp c bit), .int .i64 0]) ∧ w = w' := by
  refine (count_next c bit w).mono fun e w' he => ?_
  rw [show cOk c bit = true by simp [cOk, h, h0, h1]] at he; exact he
theorem hm_below {w w1 : World} {g : Nat} {o : Obj} (h : w.heap[g]? = some o) (hb : Below w.heap.size w w1) : w1.heap[g]? = some o := (hb.block g (blk_lt h)).trans h
theorem hm_alloc {w : World} {g : Nat} {o : Obj} (h : w.heap[g]? = some o) (p : Obj) : (w.alloc p).heap[g]? = some o := (Below.heap_alloc w p g (blk_lt h)).trans h
theorem range_far {w : World} {g o : Nat} {cs : List Value} {p : Addr} (h : w.rangeAt g o cs) (hne : p.block ≠ g) (u : Value) : (w.setCell p u).rangeAt g o cs := fun j v hv => by
  rw [World.cell?_setCell_other w p _ u (by rintro rfl; exact hne rfl)]; exact h j v hv
/-- Where a model that learns stands: its own block, what was seen, the answer's place. -/
structure LState (w W : World) (sg : Nat) (L : List Int) (x y z : Nat) : Prop where
  hm : W.heap[w.heap.size]? = some (.cells (ints L).toArray 63 (0, 0))
  hs : W.rangeAt sg 0 (seenV w.heap.size x y z)
  ho : W.heap[w.heap.size + 1 + 1]? = some (.cells (ints (nm 0 0)).toArray 63 (0, 0))
  hb : Below w.heap.size w W
theorem LState.below {w W W1 : World} {sg : Nat} {L : List Int} {x y z : Nat} (h : LState w W sg L x y z) (hb : Below W.heap.size W W1) : LState w W1 sg L x y z :=
  ⟨hm_below h.hm hb, range_below h.hs hb, hm_below h.ho hb, below_next h.hb hb⟩
theorem LState.drew {w W : World} {sg : Nat} {L : List Int} {x y z : Nat} (h : LState w W sg L x y z) : LState w W.drew sg L x y z := ⟨h.hm, h.hs, h.ho, below_drew h.hb⟩
theorem LState.set {w W : World} {sg : Nat} {L : List Int} {x y z : Nat} (h : LState w W sg L x y z) (hs : w.heap.size + 3 ≤ sg) (o : Nat) (v : Int) : LState w (W.setCell ⟨w.heap.size, o, none⟩ (.int .i64 v)) sg (L.set o v) x y z :=
  ⟨blk_set h.hm v, range_far h.hs (by show w.heap.size ≠ sg; omega) _, (Below.heap_setCell W _ _ _ (by simp; omega)).trans h.ho, below_set (by simp) h.hb _⟩
theorem getD_set_ne {L : List Int} {i j : Nat} {v : Int} (h : i ≠ j) : (L.set i v).getD j 0 = L.getD j 0 := by
  simp [List.getD_eq_getElem?_getD, List.getElem?_set_ne h]
theorem lA_get {M : List Int} {x y z : Nat} {bit : Int} {j : Nat} (h : j < 192) : (lA M x y z bit).getD j 0 = M.getD j 0 := by
  unfold lA; rw [getD_set_ne (by omega), getD_set_ne (by omega), getD_set_ne (by omega)]
theorem lA_length (M : List Int) (x y z : Nat) (bit : Int) : (lA M x y z bit).length = M.length := by simp [lA]
theorem lM_length (M : List Int) (x y z : Nat) (bit : Int) : (lM M x y z bit).length = M.length := by simp [lM, lA_length]
set_option maxRecDepth 100000 in
set_option maxHeartbeats 4000000 in
theorem learn_yes (M : List Int) (hM : M.length = 195) (x y z : Nat) (bit : Int) (w : World) (ht : Tab w) (hm : mMay M = true) (hx : x < 64) (hy : y < 64) (hz : z < 64) (hb0 : 0 ≤ bit) (hb1 : bit ≤ 1) :
   Calls Tryz.prog 163 #[.agg (ints M).toArray, v3 x y z, .int .i64 bit] w fun e w' => e = .returned (.tuple #[.agg (ints (lM M x y z bit)).toArray, .int .i64 0]) ∧ Below w.heap.size w w' := by
  have HM := Lib.hid hM
  have hsz : (Tryz.prog.info? 63).map (·.size) = some (ints M).length := by rw [ints_length, hM]; exact info_model
  have HSZ := Lib.hid hsz
  have HX := Lib.hid (show xOk x y z = true from xOk_iff.2 (by omega))
  have HMM := Lib.hid hm
  have HMX := Lib.hid (model_mix hM hm x (64 + y) (128 + z))
  have HG := Lib.hid (mMay_good hM hm)
  have hz0 : Tryz.zeroCells63 = (ints (nm 0 0)).toArray := by kernel_rfl
  have HZ0 := Lib.hid hz0
  have t1 : decide (bit < 0) = false := by simp; omega
  have t2 : decide (1 < bit) = false := by simp; omega
  clear hM hsz hm hz0
  unfold v3
  go_enter Tryz.func163, Tryz.ntmps163
  go_wp2_with (with_reducible refine wpList_load_mid rfl 63 (.tmp 3) rfl w.heap.size 0 ?_ (ints M) _ (range_below (range_below (range_new w M 63) (below_alloc (Below.refl _ _) _)) (below_alloc (Below.refl _ _) _)) Tryz.underlying63 rfl HSZ.out ?_)
  all_goals first | (show _ = Value.pointer _; rfl) | skip
  rw [HZ0.out]
  refine (model_may M HM.out _).mono ?_
  rw [HMM.out]
  rintro e w1 ⟨rfl, hb⟩
  have hq := Lib.hid (below_next (w := w) (by repeat (first | (with_reducible exact Below.refl _ _) | (with_reducible exact Hid.out (by with_reducible assumption)) | (with_reducible apply below_drewN) | (with_reducible apply below_drew) | (with_reducible apply below_alloc) | (refine below_set ?_ ?_ _; (focus (first | (simp; done) | (simp; omega)))))) hb)
  have HM1 := Lib.hid (hm_below (hm_alloc (hm_alloc (heap_alloc_new w (.cells (ints M).toArray 63)) (.cells #[.int .i64 (x : Int), .int .i64 (y : Int), .int .i64 (z : Int)] 61)) (.cells (ints (nm 0 0)).toArray 63)) hb)
  have HO1 := Lib.hid (hm_below (heap_alloc_new ((w.alloc (.cells (ints M).toArray 63)).alloc (.cells #[.int .i64 (x : Int), .int .i64 (y : Int), .int .i64 (z : Int)] 61)) (.cells (ints (nm 0 0)).toArray 63)) hb)
  obtain ⟨ep, eq, er, fp, fq, fr, lp⟩ := own3 hb (b := w.heap.size + 1) (x := .int .i64 (x)) (y := .int .i64 (y)) (z := .int .i64 (z)) (by go_simp) (by go_simp) (by go_simp) (by go_simp) (by go_simp) (by go_simp)
  have hs1 := hb.size
  simp only [World.size_alloc] at HO1 hs1
  clear hb
  go_wp2_with (go_at_call 186; refine (there_any _ 0 x y z _ ep eq er).mono ?_; rw [HX.out]; rintro e w2 ⟨rfl, rfl⟩)
  have htw := (ht.below hq.out)
  have HS2 := Lib.hid (seen_new w1 w.heap.size x y z 214)
  have HM2 := Lib.hid (hm_alloc HM1.out (.cells (seenV w.heap.size x y z).toArray 214))
  have HO2 := Lib.hid (hm_alloc HO1.out (.cells (seenV w.heap.size x y z).toArray 214))
  have HB2 := Lib.hid (below_alloc hq.out (.cells (seenV w.heap.size x y z).toArray 214))
  have ht2 := htw.alloc (.cells (seenV w.heap.size x y z).toArray 214)
  have hs2 : (w1.alloc (.cells (seenV w.heap.size x y z).toArray 214)).heap.size = w1.heap.size + 1 := by simp
  rw [show w1.alloc (.cells #[.pointer (some ⟨w.heap.size, 0, none⟩), .int .i64 (x : Int), .int .i64 (y : Int), .int .i64 (z : Int)] 214) = w1.alloc (.cells (seenV w.heap.size x y z).toArray 214) from rfl]
  generalize w1.alloc (.cells (seenV w.heap.size x y z).toArray 214) = W2 at HS2 HM2 HO2 HB2 ht2 hs2 ⊢
  obtain ⟨sg, hsg⟩ : ∃ sg, w1.heap.size = sg := ⟨_, rfl⟩
  rw [hsg] at HS2 hs2 hs1 ⊢
  have HS2s := Lib.hid hs2
  have hs3 : w.heap.size + 3 ≤ sg := by omega
  have hs4 : sg < W2.heap.size := by omega
  clear hsg hs1 hs2 ep eq er fp fq fr lp HM1 HO1 hq htw
  obtain ⟨s0, s1, s2, s3⟩ := seen_cells HS2.out
  obtain ⟨A, hA⟩ : ∃ A, mi M x = A := ⟨_, rfl⟩
  obtain ⟨B, hB⟩ : ∃ A, mi M (64 + y) = A := ⟨_, rfl⟩
  obtain ⟨C, hC⟩ : ∃ A, mi M (128 + z) = A := ⟨_, rfl⟩
  obtain ⟨a, ha⟩ : ∃ A, M.getD 192 0 = A := ⟨_, rfl⟩
  obtain ⟨b, hb'⟩ : ∃ A, M.getD 193 0 = A := ⟨_, rfl⟩
  obtain ⟨c, hc⟩ : ∃ A, M.getD 194 0 = A := ⟨_, rfl⟩
  have m0 := blk_cell HM2.out (o := 192) (by rw [HM.out]; omega)
  have m1 := blk_cell HM2.out (o := 193) (by rw [HM.out]; omega)
  have m2 := blk_cell HM2.out (o := 194) (by rw [HM.out]; omega)
  rw [ha] at m0
  rw [hb'] at m1
  rw [hc] at m2
  have f0 := blk_frozen HM2.out 192
  have f1 := blk_frozen HM2.out 193
  have f2 := blk_frozen HM2.out 194
  have hok := HMX.out
  rw [hA, hB, hC, ha, hb', hc] at hok
  have HOK := Lib.hid hok
  have HABC := Lib.hid (show v3 (mi M x) (mi M (64 + y)) (mi M (128 + z)) = v3 A B C by rw [hA, hB, hC])
  obtain ⟨U, hU⟩ : ∃ A', tw a A (4096 * bit - dot a b c A B C) = A' := ⟨_, rfl⟩
  obtain ⟨V, hV⟩ : ∃ A', tw b B (4096 * bit - dot a b c A B C) = A' := ⟨_, rfl⟩
  obtain ⟨X, hX⟩ : ∃ A', tw c C (4096 * bit - dot a b c A B C) = A' := ⟨_, rfl⟩
  have HTR := Lib.hid (show (Value.tuple #[.agg #[.int .i64 (tw a A (4096 * bit - dot a b c A B C)), .int .i64 (tw b B (4096 * bit - dot a b c A B C)), .int .i64 (tw c C (4096 * bit - dot a b c A B C))], .int .i64 0]) = .tuple #[.agg #[.int .i64 U, .int .i64 V, .int .i64 X], .int .i64 0] by rw [hU, hV, hX])
  have HLA : Hid (lA M x y z bit = ((M.set 192 U).set 193 V).set 194 X) := by
    show _ = _
    unfold lA lW
    simp only [Nat.add_zero, Nat.reduceAdd]
    rw [hA, hB, hC, ha, hb', hc, hU, hV, hX]
  clear hA hB hC ha hb' hc hok hU hV hX HMX
  have ne0 : (w.heap.size = sg) = False := by simp; omega
  have ne1 : (sg = w.heap.size) = False := by simp; omega
  go_region_with ((first | (go_at_call 188; refine (model_inputs w.heap.size x y z M _ (by exact ⟨ht2.out⟩) HM.out HG.out (by exact blk_range HM2.out) hx hy hz).mono ?_; rw [HABC.out]; rintro e w8 ⟨rfl, hb8⟩; have n0 : w8.cell? ⟨w.heap.size, 192, none⟩ = some (.int .i64 a) := cell_below hb8 (by exact m0); have n1 : w8.cell? ⟨w.heap.size, 193, none⟩ = some (.int .i64 b) := cell_below hb8 (by exact m1); have n2 : w8.cell? ⟨w.heap.size, 194, none⟩ = some (.int .i64 c) := cell_below hb8 (by exact m2)) | (go_at_call 189; refine (train_ok a b c A B C bit _ (by exact Tab.below (w := W2.drew) ⟨ht2.out⟩ hb8) HOK.out hb0 hb1).mono ?_; rw [HTR.out]; rintro e w9 ⟨rfl, hb9⟩; have k0 := cell_below hb9 n0; have k1 := cell_below hb9 n1; have k2 := cell_below hb9 n2; have g0 : w9.frozen? ⟨w.heap.size, 192, none⟩ = false := (hb9.frozen (p := ⟨w.heap.size, 192, none⟩) (World.block_lt_of_cell? _ _ n0)).trans ((hb8.frozen (p := ⟨w.heap.size, 192, none⟩) (World.block_lt_of_cell? W2 _ m0)).trans f0); have g1 : w9.frozen? ⟨w.heap.size, 193, none⟩ = false := (hb9.frozen (p := ⟨w.heap.size, 193, none⟩) (World.block_lt_of_cell? _ _ n1)).trans ((hb8.frozen (p := ⟨w.heap.size, 193, none⟩) (World.block_lt_of_cell? W2 _ m1)).trans f1); have g2 : w9.frozen? ⟨w.heap.size, 194, none⟩ = false := (hb9.frozen (p := ⟨w.heap.size, 194, none⟩) (World.block_lt_of_cell? _ _ n2)).trans ((hb8.frozen (p := ⟨w.heap.size, 194, none⟩) (World.block_lt_of_cell? W2 _ m2)).trans f2))))
  all_goals
    have L3 : Hid (LState w (((w9.setCell ⟨w.heap.size, 192, none⟩ (.int .i64 U)).setCell ⟨w.heap.size, 193, none⟩ (.int .i64 V)).setCell ⟨w.heap.size, 194, none⟩ (.int .i64 X)) sg (lA M x y z bit) x y z) := by
      rw [HLA.out]
      have L2 : LState w W2 sg M x y z := ⟨HM2.out, HS2.out, HO2.out, HB2.out⟩
      exact ((((L2.drew.below hb8).below hb9).set hs3 192 U).set hs3 193 V).set hs3 194 X
    generalize (((w9.setCell ⟨w.heap.size, 192, none⟩ (.int .i64 U)).setCell ⟨w.heap.size, 193, none⟩ (.int .i64 V)).setCell ⟨w.heap.size, 194, none⟩ (.int .i64 X)) = W3 at L3 ⊢
    clear hb8 hb9 n0 n1 n2 k0 k1 k2 g0 g1 g2 m0 m1 m2 f0 f1 f2 s0 s1 s2 s3 HM2 HS2 HO2 HB2 ht2
    go_wp2_with fail
    refine wp_loop_rounds 4 ?_
    rw [rounds_succ]
    obtain ⟨s0, s1, s2, s3⟩ := seen_cells L3.out.hs
    go_wp2_with fail
    refine (counter_0 w.heap.size x (y : Int) (z : Int) _ hx).mono ?_
    rintro e wa0 ⟨rfl, hb⟩
    have La0 := Lib.hid (L3.out.below hb)
    clear s0 s1 s2 s3 hb L3
    have ca := blk_cell La0.out.hm (o := x) (by simp only [List.length_set, lA_length, HM.out]; omega)
    have fa := blk_frozen La0.out.hm x
    obtain ⟨q0, hq0⟩ : ∃ q, M.getD x 0 = q := ⟨_, rfl⟩
    rw [lA_get (by omega), hq0] at ca
    have HQ0 := Lib.hid hq0
    have HC0 := Lib.hid (show cMay q0 = true by rw [← hq0]; exact HG.out x (by omega))
    have Lb0 := Lib.hid (La0.out.set hs3 x (cUp q0 bit))
    clear hq0 La0
    go_wp2_with (go_at_call 191; refine (next_ok q0 bit _ HC0.out hb0 hb1).mono ?_; rintro e w7 ⟨rfl, rfl⟩)
    generalize (World.setCell _ ⟨w.heap.size, x, none⟩ (.int .i64 (cUp q0 bit))) = Wb0 at Lb0 ⊢
    clear ca fa
    rw [rounds_succ]
    obtain ⟨s0, s1, s2, s3⟩ := seen_cells Lb0.out.hs
    go_wp2_with fail
    refine (counter_1 w.heap.size y (x : Int) (z : Int) _ hy).mono ?_
    rintro e wa1 ⟨rfl, hb⟩
    have La1 := Lib.hid (Lb0.out.below hb)
    clear s0 s1 s2 s3 hb Lb0
    have ca := blk_cell La1.out.hm (o := (64 + y)) (by simp only [List.length_set, lA_length, HM.out]; omega)
    have fa := blk_frozen La1.out.hm (64 + y)
    obtain ⟨q1, hq1⟩ : ∃ q, M.getD (64 + y) 0 = q := ⟨_, rfl⟩
    rw [getD_set_ne (by omega), lA_get (by omega), hq1] at ca
    have HQ1 := Lib.hid hq1
    have HC1 := Lib.hid (show cMay q1 = true by rw [← hq1]; exact HG.out (64 + y) (by omega))
    have Lb1 := Lib.hid (La1.out.set hs3 (64 + y) (cUp q1 bit))
    clear hq1 La1
    go_wp2_with (go_at_call 191; refine (next_ok q1 bit _ HC1.out hb0 hb1).mono ?_; rintro e w7 ⟨rfl, rfl⟩)
    generalize (World.setCell _ ⟨w.heap.size, (64 + y), none⟩ (.int .i64 (cUp q1 bit))) = Wb1 at Lb1 ⊢
    clear ca fa
    rw [rounds_succ]
    obtain ⟨s0, s1, s2, s3⟩ := seen_cells Lb1.out.hs
    go_wp2_with fail
    refine (counter_2 w.heap.size z (x : Int) (y : Int) _ hz).mono ?_
    rintro e wa2 ⟨rfl, hb⟩
    have La2 := Lib.hid (Lb1.out.below hb)
    clear s0 s1 s2 s3 hb Lb1
    have ca := blk_cell La2.out.hm (o := (128 + z)) (by simp only [List.length_set, lA_length, HM.out]; omega)
    have fa := blk_frozen La2.out.hm (128 + z)
    obtain ⟨q2, hq2⟩ : ∃ q, M.getD (128 + z) 0 = q := ⟨_, rfl⟩
    rw [getD_set_ne (by omega), getD_set_ne (by omega), lA_get (by omega), hq2] at ca
    have HQ2 := Lib.hid hq2
    have HC2 := Lib.hid (show cMay q2 = true by rw [← hq2]; exact HG.out (128 + z) (by omega))
    have Lb2 := Lib.hid (La2.out.set hs3 (128 + z) (cUp q2 bit))
    clear hq2 La2
    go_wp2_with (go_at_call 191; refine (next_ok q2 bit _ HC2.out hb0 hb1).mono ?_; rintro e w7 ⟨rfl, rfl⟩)
    generalize (World.setCell _ ⟨w.heap.size, (128 + z), none⟩ (.int .i64 (cUp q2 bit))) = Wb2 at Lb2 ⊢
    clear ca fa
    have LF : Hid (LState w Wb2 sg (lM M x y z bit) x y z) := by
      unfold lM
      rw [HQ0.out, HQ1.out, HQ2.out]
      exact Lb2.out
    have hszF : (Tryz.prog.info? 63).map (·.size) = some (ints (lM M x y z bit)).length := by rw [ints_length, lM_length, HM.out]; exact info_model
    have hszA : (Tryz.prog.info? 63).map (·.size) = some (ints (lM M x y z bit)).toArray.size := hszF
    have hth : Wb2.there (w.heap.size + 1 + 1) 0 (ints (lM M x y z bit)).toArray.size := by
      have e : (ints (lM M x y z bit)).toArray.size = 195 := by simp [ints_length, lM_length, HM.out]
      rw [e]
      exact blk_there LF.out.ho (by rw [nm_length (by omega) (by omega)]; omega)
    have HSF := Lib.hid hszF
    have HSA := Lib.hid hszA
    have HTH := Lib.hid hth
    clear hszF hszA hth Lb2
    rw [rounds_succ]
    go_wp2_with (first
      | (with_reducible refine wpList_load_mid rfl 63 (.tmp 3) rfl w.heap.size 0 ?_ (ints (lM M x y z bit)) _ (blk_range LF.out.hm) Tryz.underlying63 rfl HSF.out ?_)
      | (with_reducible refine wpList_store_mid rfl 63 (.tmp 6) (.tmp 56) rfl (w.heap.size + 1 + 1) 0 (ints (lM M x y z bit)).toArray ?_ ?_ HTH.out HSA.out (all_oneCell_toArray (ints_one _)) ?_))
    all_goals first | (show _ = Value.pointer _; rfl) | (show _ = Value.agg _; rfl) | skip
    have hrs := World.rangeAt_setCells_same Wb2 (w.heap.size + 1 + 1) 0 (ints (lM M x y z bit)) HTH.out
    trace_state
    refine bodyPost_ret (results_cellt (P := Tryz.prog) Tryz.results163 _ _ (w.heap.size + 1 + 1) (ints (lM M x y z bit)) _ ?_ hrs Tryz.underlying63 rfl HSF.out) ?_ ⟨rfl, below_setCells (by omega) _ _ _ LF.out.hb⟩
    all_goals first | rfl | go_simp
end Go.Proofs.YtiokfaiioealdaaGreatDoor
