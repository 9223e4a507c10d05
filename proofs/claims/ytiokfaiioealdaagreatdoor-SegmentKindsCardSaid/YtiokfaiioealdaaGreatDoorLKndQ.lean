/- SegmentKinds: a segment tells its kind, its frames, its length; walked. -/
import Derived.Test.YtiokfaiioealdaaGreatDoorQ28
import Derived.BigQuiet
namespace Go.Proofs.YtiokfaiioealdaaGreatDoor
open Go.RowKit Go.Proofs.YtiokfaiioealdaaGreatDoorW.PrintWords Go.Proofs.YtiokfaiioealdaaGreatDoorW.PrintLast Go.Proofs.YtiokfaiioealdaaGreatDoorW.PrintMore Go.Proofs.YtiokfaiioealdaaGreatDoor.L
set_option linter.unusedVariables false
set_option linter.unusedSimpArgs false
theorem w256 {b : Nat} (h : b ≤ 256) : wrap64 (256 * (b : Int)) = 256 * (b : Int) := IntWalk.wrap64_in _ (by omega)
theorem nat_w9 {q : Nat} (h : q ≤ 1000) : wrap64 (q : Int) = q := IntWalk.wrap64_in _ (by omega)
/-- What a segment's bytes tell. -/
theorem seg_bytes {c b : Int} {l : List UInt8} (h : segOk c b l = true) : ((segP c b l).getD 0 0).toNat = segK c b l ∧ ((segP c b l).getD 1 0).toNat = segY c b l ∧ ((segP c b l).getD 2 0).toNat = l.length / fsz c b ∧
    ((segP c b l).getD 3 0).toNat + 256 * ((segP c b l).getD 4 0).toNat = (segO c b l).length ∧ ((segP c b l).take (5 + (segO c b l).length)).drop 5 = segO c b l ∧ (segP c b l).length = 9 + (segO c b l).length := by
  have hk := segK_in c b l
  have hy := segY_in c b l
  obtain ⟨m1, m64, -, h256⟩ := seg_many h
  have ho := segO_in h
  obtain ⟨p1, p2, p3, p4, p5, p6⟩ := told_parse (k := segK c b l) (y := segY c b l) (m := l.length / fsz c b) (own := segO c b l) (by omega) (by omega) (by omega) (by omega)
  rw [seg_told]
  refine ⟨p4, p5, p6, ?_, ?_, told_len _ _ _ _⟩
  · rw [told_cons]
    show (by8 ((segO c b l).length : Nat)).toNat + 256 * (by8 (((segO c b l).length : Nat) / 256 : Int)).toNat = _
    have h1 := by8_val ((segO c b l).length : Nat)
    have h2 := by8_val (((segO c b l).length : Nat) / 256 : Int)
    omega
  · have := p2
    unfold ownS at this
    rw [p1] at this
    exact this
theorem mul_fs {c b : Int} (h : fOk c b = true) : wrap64 (c * b) = 8 * (fsz c b : Nat) ∧ wrap64 (Int.tdiv (8 * ((fsz c b : Nat) : Int)) 8) = (fsz c b : Nat) ∧ Int.tdiv (8 * ((fsz c b : Nat) : Int)) 8 = (fsz c b : Nat) := by
  obtain ⟨rfl | rfl, rfl | rfl⟩ := fOk_iff.1 h <;> decide +kernel
set_option maxHeartbeats 8000000 in
set_option maxRecDepth 100000 in
theorem segmentKinds_walk (d : ByteArray) (c b : Int) (w : World) (ht : Tab w) (ht6 : Tab6 w) (hs : d.size ≤ 140737488351232) :
    Calls Tryz.prog 8 #[.string d, .agg #[.int .i64 c, .int .i64 b]] w fun e w' => e = .returned (.bool true) ∧ Below w.heap.size w w' := by
  have ht0 := Lib.hid ht
  have ht60 := Lib.hid ht6
  clear ht ht6
  have hA := fun W (a : Tab W) (b : Tab6 W) => awake22 W a b
  have hX := L.BC.new w [.int .i64 c, .int .i64 b] 39
  have hB := L.below_alloc (Below.refl w.heap.size w) (.cells #[.int .i64 c, .int .i64 b] 39)
  replace hA := Lib.hid hA
  cases hok : segOk c b d.data.toList with
  | false =>
    have hP := fun W (t : Tab W) (u : Tab6 W) => put_bad d c b W hok t u
    replace hP := Lib.hid hP
    clear hok
    go_enter Tryz.func8, Tryz.ntmps8
    go_wp2_with (fail)
    refine (hA.out _ (ht0.out.below hB) (ht60.out.below hB)).mono ?_
    rintro e w1 ⟨rfl, hb⟩
    replace hX := L.BC.below hX hb
    replace hB := below_trans hB hb
    clear hb
    have x0 := L.BC.at_ hX (o := 0) rfl; have x1 := L.BC.at_ hX (o := 1) rfl
    go_wp2_with (fail)
    refine (hP.out _ (ht0.out.below hB) (ht60.out.below hB)).mono ?_
    rintro e w2 ⟨rfl, hb⟩
    replace hB := below_trans hB hb
    clear hb x0 x1 hX
    go_wp2_with (first | (go_at_call 18; refine (num_any _ _).mono ?_; rintro e w1 ⟨rfl, rfl⟩))
    go_ret
    exact ⟨rfl, hB⟩
  | true =>
    have hP := fun W (t : Tab W) (u : Tab6 W) => put_yes d c b W hok t u
    have hf := (segOk_iff.1 hok).1
    have hFm := fun W => PQ.descantref13_FormatMay.calls c b true W (by rw [may13_q, hf])
    have hz := mul_fs hf
    replace hz := Lib.hid hz
    obtain ⟨m1, m64, hmf, h256⟩ := seg_many hok
    rw [size_list] at m1 m64 hmf h256
    obtain ⟨g0, g1, g2, g34, g5, gl⟩ := seg_bytes hok
    rw [size_list] at g2
    have hle := same_len hok
    rw [size_list] at hle
    have hk2 := segK_in c b d.data.toList
    have hy2 := segY_in c b d.data.toList
    have ho2 := segO_in hok
    rw [size_list] at ho2
    obtain ⟨fs, hfs⟩ : ∃ n, fsz c b = n := ⟨_, rfl⟩
    obtain ⟨mn, hmn⟩ : ∃ n, d.size / fsz c b = n := ⟨_, rfl⟩
    rw [hmn] at m1 m64 hmf g2
    have hz2 := hz.out
    rw [hfs] at hz2 hmf hle
    replace hz2 := Lib.hid hz2
    clear hz
    have hmw : wrap64 ((mn : Int) * (fs : Int)) = (d.size : Int) := by
      rw [← Int.natCast_mul, hmf]
      exact nat_w9 (Nat.le_trans h256 (by decide))
    replace hmw := Lib.hid hmw
    replace hP := Lib.hid hP
    replace hFm := Lib.hid hFm
    replace hfs := Lib.hid hfs
    replace hmn := Lib.hid hmn
    replace hmf := Lib.hid hmf
    obtain ⟨K, hK⟩ : ∃ k, segK c b d.data.toList = k := ⟨_, rfl⟩
    obtain ⟨Y, hY⟩ : ∃ k, segY c b d.data.toList = k := ⟨_, rfl⟩
    obtain ⟨O, hO⟩ : ∃ k, segO c b d.data.toList = k := ⟨_, rfl⟩
    obtain ⟨ol, hol⟩ : ∃ k, O.length = k := ⟨_, rfl⟩
    have hY0 : K ≠ 1 → Y = 0 := fun h1 => by rw [← hY, segY, if_neg (by rw [hK]; exact h1)]
    have hO0 : K = 0 → O = d.data.toList := fun h1 => by rw [← hO, segO, if_neg (by omega), if_neg (by omega)]
    have hO2 : K = 2 → O = d.data.toList.take fs := fun h1 => by rw [← hO, segO, if_pos (by omega), hfs.out]
    have hO1 : K = 1 → ol < d.size := fun h1 => by
      have h2 : segO c b d.data.toList = ownOf c b d.data.toList := by rw [segO, if_neg (by omega), if_pos (by omega)]
      rw [← hol, ← hO, h2]
      have h3 := hK
      rw [h1, segK] at h3
      split at h3
      · cases h3
      · split at h3
        · rename_i h4
          rw [size_list] at h4
          exact h4
        · cases h3
    rw [hK] at g0 hk2
    rw [hY] at g1 hy2
    rw [hO] at g34 g5 gl ho2
    rw [hol] at g34 g5 gl ho2
    replace hK := Lib.hid hK
    replace hY := Lib.hid hY
    replace hO := Lib.hid hO
    replace hol := Lib.hid hol
    replace hok := Lib.hid hok
    replace g0 := Lib.hid g0
    replace g1 := Lib.hid g1
    replace g2 := Lib.hid g2
    replace g34 := Lib.hid g34
    replace g5 := Lib.hid g5
    replace gl := Lib.hid gl
    replace hf := Lib.hid hf
    go_enter Tryz.func8, Tryz.ntmps8
    go_wp2_with (fail)
    refine (hA.out _ (ht0.out.below hB) (ht60.out.below hB)).mono ?_
    rintro e w1 ⟨rfl, hb⟩
    replace hX := L.BC.below hX hb
    replace hB := below_trans hB hb
    clear hb
    have x0 := L.BC.at_ hX (o := 0) rfl; have x1 := L.BC.at_ hX (o := 1) rfl
    go_wp2_with (fail)
    refine (hP.out _ (ht0.out.below hB) (ht60.out.below hB)).mono ?_
    rintro e w2 ⟨t, rfl, htd, hb⟩
    replace hX := L.BC.below hX hb
    replace hB := below_trans hB hb
    clear hb x0 x1
    have hts : t.size = 9 + ol := by rw [← size_list, htd, gl.out]
    have i0 : 0 < t.size := by omega
    have i1 : 1 < t.size := by omega
    have i2 : 2 < t.size := by omega
    have i3 : 3 < t.size := by omega
    have i4 : 4 < t.size := by omega
    have hb0 : (t[0]'i0).toNat = K := by rw [← byte_at t 0 i0, htd, g0.out]
    have hb1 : (t[1]'i1).toNat = Y := by rw [← byte_at t 1 i1, htd, g1.out]
    have hb2 : (t[2]'i2).toNat = mn := by rw [← byte_at t 2 i2, htd, g2.out]
    have hb34 : (t[3]'i3).toNat + 256 * (t[4]'i4).toNat = ol := by rw [← byte_at t 3 i3, ← byte_at t 4 i4, htd, g34.out]
    have b3lt := (t[3]'i3).toNat_lt
    have b4lt := (t[4]'i4).toNat_lt
    obtain ⟨b3, hb3⟩ : ∃ x, (t[3]'i3).toNat = x := ⟨_, rfl⟩
    obtain ⟨b4, hb4⟩ : ∃ x, (t[4]'i4).toNat = x := ⟨_, rfl⟩
    rw [hb3, hb4] at hb34
    rw [hb3] at b3lt
    rw [hb4] at b4lt
    obtain ⟨E, hE⟩ : ∃ e, 5 + ol = e := ⟨_, rfl⟩
    obtain ⟨tx, htx⟩ : ∃ x : ByteArray, t.extract 5 E = x := ⟨_, rfl⟩
    have htxd : tx.data.toList = O := by rw [← htx, ext_list, htd, ← hE, g5.out]
    have htxs : tx.size = ol := by rw [← size_list, htxd, hol.out]
    have r4 : (t.size : Int) - 4 = (E : Int) := by omega
    have r34 : (b3 : Int) + 256 * (b4 : Int) = (ol : Int) := by omega
    have p1 := eq_true (show (5 : Int) ≤ (E : Int) by omega)
    have p2 := eq_true (show 5 ≤ E by omega)
    have p3 := eq_true (show (E : Int) ≤ (t.size : Int) by omega)
    have p4 := eq_true (show E ≤ t.size by omega)
    have j0 := eq_true (show (0 : Int) < (t.size : Int) by omega)
    have j1 := eq_true (show (1 : Int) < (t.size : Int) by omega)
    have j2 := eq_true (show (2 : Int) < (t.size : Int) by omega)
    have j3 := eq_true (show (3 : Int) < (t.size : Int) by omega)
    have j4 := eq_true (show (4 : Int) < (t.size : Int) by omega)
    have l9 : decide ((t.size : Int) < 9) = false := decide_eq_false (by omega)
    have l92 := eq_false (show ¬ t.size < 9 by omega)
    have k2 : decide (2 < (K : Int)) = false := decide_eq_false (by omega)
    have k22 := eq_false (show ¬ 2 < K by omega)
    have y2 : decide (15 < (Y : Int)) = false := decide_eq_false (by omega)
    have y22 := eq_false (show ¬ 15 < Y by omega)
    have e0 : K ≤ 1000 := by omega
    have e1 : Y ≤ 1000 := by omega
    have e2 : mn ≤ 1000 := by omega
    have e3 : b3 ≤ 1000 := by omega
    have e4 : b4 ≤ 256 := by omega
    have e5 : ol ≤ 1000 := by omega
    have e6 : E ≤ 1000 := by omega
    have hwE := Lib.hid (nat_w9 e6)
    have w34 : wrap64 ((b3 : Int) + 256 * (b4 : Int)) = (ol : Int) := by rw [r34]; exact nat_w9 e5
    have w4 := w256 e4
    have v0 := nat_w9 e0
    have v1 := nat_w9 e1
    have v2 := nat_w9 e2
    have v3 := nat_w9 e3
    have v50 := Lib.hid (nat_w9 e5)
    have v4 := nat_w9 (Nat.le_trans e4 (by decide) : b4 ≤ 1000)
    obtain ⟨z0, z1, z2⟩ := hz2.out
    have hmw := hmw.out
    replace htd := Lib.hid htd
    replace hts := Lib.hid hts
    replace hE := Lib.hid hE
    replace htxd := Lib.hid htxd
    replace hb34 := Lib.hid hb34
    have x0 := L.BC.at_ hX (o := 0) rfl; have x1 := L.BC.at_ hX (o := 1) rfl
    go_wp2_with (first | (go_at_call 18; refine (num_any _ _).mono ?_; rintro e w1 ⟨rfl, rfl⟩))
    refine (hFm.out _).mono ?_
    rintro e w3 ⟨rfl, hb⟩
    replace hX := L.BC.below hX hb
    replace hB := below_trans hB hb
    clear hb x0 x1
    have x0 := L.BC.at_ hX (o := 0) rfl; have x1 := L.BC.at_ hX (o := 1) rfl
    have z10 := Lib.hid z1
    have hmw0 := Lib.hid hmw
    have w340 := Lib.hid w34
    have w40 := Lib.hid w4
    clear z1 hmw w34 w4
    go_wp2_with (fail)
    have hwe := hwE.out
    refine start_ (n := 10) (S := fun w' => True) (ds := []) #[false, false, false, false, false, false, false, false, false, false] (by kernel_rfl) rfl rfl trivial (fun hHeld => ?_)
    refine pure_ (i := 0) (N := (some 39)) (v := ?_) (a' := ?_) #[true, false, false, false, false, false, false, false, false, false] rfl rfl (by kernel_rfl) (fun _ _ _ h => h) (Or.inl ⟨by rfl, ?_⟩) ?_ ?_
    rotate_left
    · intro w'
      go_simp
      with_reducible rfl
    rotate_left
    · simp only [Act.put, List.setIfInBounds_toArray, List.set_cons_zero, List.set_cons_succ, i64_w, i32_w, hwe, v0]
      rfl
    refine pure_ (i := 1) (N := (some 40)) (v := ?_) (a' := ?_) #[true, true, false, false, false, false, false, false, false, false] rfl rfl (by kernel_rfl) (fun _ _ _ h => h) (Or.inl ⟨by rfl, ?_⟩) ?_ ?_
    rotate_left
    · intro w'
      go_simp
      with_reducible rfl
    rotate_left
    · simp only [Act.put, List.setIfInBounds_toArray, List.set_cons_zero, List.set_cons_succ, i64_w, i32_w, hwe, v0]
      rfl
    refine pure_ (i := 2) (N := (some 41)) (v := ?_) (a' := ?_) #[true, true, true, false, false, false, false, false, false, false] rfl rfl (by kernel_rfl) (fun _ _ _ h => h) (Or.inl ⟨by rfl, ?_⟩) ?_ ?_
    rotate_left
    · intro w'
      go_simp
      with_reducible rfl
    rotate_left
    · simp only [Act.put, List.setIfInBounds_toArray, List.set_cons_zero, List.set_cons_succ, i64_w, i32_w, hwe, v0]
      rfl
    refine pure_ (i := 3) (N := (some 42)) (v := ?_) (a' := ?_) #[true, true, true, true, false, false, false, false, false, false] rfl rfl (by kernel_rfl) (fun _ _ _ h => h) (Or.inl ⟨by rfl, ?_⟩) ?_ ?_
    rotate_left
    · intro w'
      go_simp
      with_reducible rfl
    rotate_left
    · simp only [Act.put, List.setIfInBounds_toArray, List.set_cons_zero, List.set_cons_succ, i64_w, i32_w, hwe, v0]
      rfl
    refine pure_ (i := 4) (N := (some 43)) (v := ?_) (a' := ?_) #[true, true, true, true, true, false, false, false, false, false] rfl rfl (by kernel_rfl) (fun _ _ _ h => h) (Or.inl ⟨by rfl, ?_⟩) ?_ ?_
    rotate_left
    · intro w'
      go_simp
      with_reducible rfl
    rotate_left
    · simp only [Act.put, List.setIfInBounds_toArray, List.set_cons_zero, List.set_cons_succ, i64_w, i32_w, hwe, v0]
      rfl
    refine pure_ (i := 5) (N := (some 44)) (v := ?_) (a' := ?_) #[true, true, true, true, true, true, false, false, false, false] rfl rfl (by kernel_rfl) (fun _ _ _ h => h) (Or.inl ⟨by rfl, ?_⟩) ?_ ?_
    rotate_left
    · intro w'
      go_simp
      with_reducible rfl
    rotate_left
    · simp only [Act.put, List.setIfInBounds_toArray, List.set_cons_zero, List.set_cons_succ, i64_w, i32_w, hwe, v0]
      rfl
    refine pure_ (i := 6) (N := (some 45)) (v := ?_) (a' := ?_) #[true, true, true, true, true, true, true, false, false, false] rfl rfl (by kernel_rfl) (fun _ _ _ h => h) (Or.inl ⟨by rfl, ?_⟩) ?_ ?_
    rotate_left
    · intro w'
      go_simp
      with_reducible rfl
    rotate_left
    · simp only [Act.put, List.setIfInBounds_toArray, List.set_cons_zero, List.set_cons_succ, i64_w, i32_w, hwe, v0]
      rfl
    refine pure_ (i := 7) (N := (some 46)) (v := ?_) (a' := ?_) #[true, true, true, true, true, true, true, true, false, false] rfl rfl (by kernel_rfl) (fun _ _ _ h => h) (Or.inl ⟨by rfl, ?_⟩) ?_ ?_
    rotate_left
    · intro w'
      go_simp
      with_reducible rfl
    rotate_left
    · simp only [Act.put, List.setIfInBounds_toArray, List.set_cons_zero, List.set_cons_succ, i64_w, i32_w, hwe, v0]
      rfl
    refine pure_ (i := 8) (N := (some 8)) (v := ?_) (a' := ?_) #[true, true, true, true, true, true, true, true, true, false] rfl rfl (by kernel_rfl) (fun _ _ _ h => h) (Or.inl ⟨by rfl, ?_⟩) ?_ ?_
    rotate_left
    · intro w'
      go_simp
      with_reducible rfl
    rotate_left
    · simp only [Act.put, List.setIfInBounds_toArray, List.set_cons_zero, List.set_cons_succ, i64_w, i32_w, hwe, v0]
      rfl
    refine pure_ (i := 9) (N := (some 9)) (v := ?_) (a' := ?_) #[true, true, true, true, true, true, true, true, true, true] rfl rfl (by kernel_rfl) (fun _ _ _ h => h) (Or.inl ⟨by rfl, ?_⟩) ?_ ?_
    rotate_left
    · intro w'
      go_simp
      with_reducible rfl
    rotate_left
    · simp only [Act.put, List.setIfInBounds_toArray, List.set_cons_zero, List.set_cons_succ, i64_w, i32_w, hwe, v0]
      rfl
    refine done_ (by kernel_rfl) ?_
    go_wp2_with (fail)
    have hmw := hmw0.out
    have w34 := w340.out
    have w4 := w40.out
    have v5 := v50.out
    have dd : ((d.size : Int) != (d.size : Int)) = false := bne_self_eq_false' _
    have oo : ((ol : Int) != (ol : Int)) = false := bne_self_eq_false' _
    by_cases hK1 : K = 1
    · have kn : ((K : Int) != 1) = false := by rw [hK1]; rfl
      have lt1 : decide ((ol : Int) < (d.size : Int)) = true := decide_eq_true (Int.ofNat_lt.2 (hO1 hK1))
      have lt2 := eq_true (hO1 hK1)
      have ka : ((K : Int) == 0) = false := by rw [hK1]; rfl
      have kb : ((K : Int) == 1) = true := by rw [hK1]; rfl
      have kc : ((K : Int) == 2) = false := by rw [hK1]; rfl
      replace hK1 := Lib.hid hK1
      clear hO0 hO1 hO2 hY0
      refine start_ (n := 39) (S := fun w' => True) (ds := []) (L.B 39 0) (by kernel_rfl) rfl (by kernel_rfl) trivial (fun hHeld => ?_)
      refine pure_ (i := 0) (N := (some 47)) (v := ?_) (a' := ?_) (L.B 39 1) rfl rfl (by kernel_rfl) (fun _ _ _ h => h) (Or.inl ⟨by rfl, ?_⟩) ?_ ?_
      rotate_left
      · intro w'
        go_simp
        with_reducible rfl
      rotate_left
      · simp only [Act.put, List.setIfInBounds_toArray, List.set_cons_zero, List.set_cons_succ, i64_w, i32_w, hmw, w4, w34, v0, v1, v2, v3, v4, v5, r34]
        rfl
      refine pure_ (i := 1) (N := (some 48)) (v := ?_) (a' := ?_) (L.B 39 3) rfl rfl (by kernel_rfl) (fun _ _ _ h => h) (Or.inl ⟨by rfl, ?_⟩) ?_ ?_
      rotate_left
      · intro w'
        go_simp
        with_reducible rfl
      rotate_left
      · simp only [Act.put, List.setIfInBounds_toArray, List.set_cons_zero, List.set_cons_succ, i64_w, i32_w, hmw, w4, w34, v0, v1, v2, v3, v4, v5, r34]
        rfl
      refine pure_ (i := 2) (N := (some 49)) (v := ?_) (a' := ?_) (L.B 39 7) rfl rfl (by kernel_rfl) (fun _ _ _ h => h) (Or.inl ⟨by rfl, ?_⟩) ?_ ?_
      rotate_left
      · intro w'
        go_simp
        with_reducible rfl
      rotate_left
      · simp only [Act.put, List.setIfInBounds_toArray, List.set_cons_zero, List.set_cons_succ, i64_w, i32_w, hmw, w4, w34, v0, v1, v2, v3, v4, v5, r34]
        rfl
      refine pure_ (i := 3) (N := (some 50)) (v := ?_) (a' := ?_) (L.B 39 15) rfl rfl (by kernel_rfl) (fun _ _ _ h => h) (Or.inl ⟨by rfl, ?_⟩) ?_ ?_
      rotate_left
      · intro w'
        go_simp
        with_reducible rfl
      rotate_left
      · simp only [Act.put, List.setIfInBounds_toArray, List.set_cons_zero, List.set_cons_succ, i64_w, i32_w, hmw, w4, w34, v0, v1, v2, v3, v4, v5, r34]
        rfl
      refine pure_ (i := 4) (N := (some 51)) (v := ?_) (a' := ?_) (L.B 39 31) rfl rfl (by kernel_rfl) (fun _ _ _ h => h) (Or.inl ⟨by rfl, ?_⟩) ?_ ?_
      rotate_left
      · intro w'
        go_simp
        with_reducible rfl
      rotate_left
      · simp only [Act.put, List.setIfInBounds_toArray, List.set_cons_zero, List.set_cons_succ, i64_w, i32_w, hmw, w4, w34, v0, v1, v2, v3, v4, v5, r34]
        rfl
      refine pure_ (i := 5) (N := (some 52)) (v := ?_) (a' := ?_) (L.B 39 63) rfl rfl (by kernel_rfl) (fun _ _ _ h => h) (Or.inl ⟨by rfl, ?_⟩) ?_ ?_
      rotate_left
      · intro w'
        go_simp
        with_reducible rfl
      rotate_left
      · simp only [Act.put, List.setIfInBounds_toArray, List.set_cons_zero, List.set_cons_succ, i64_w, i32_w, hmw, w4, w34, v0, v1, v2, v3, v4, v5, r34]
        rfl
      refine pure_ (i := 6) (N := (some 53)) (v := ?_) (a' := ?_) (L.B 39 127) rfl rfl (by kernel_rfl) (fun _ _ _ h => h) (Or.inl ⟨by rfl, ?_⟩) ?_ ?_
      rotate_left
      · intro w'
        go_simp
        with_reducible rfl
      rotate_left
      · simp only [Act.put, List.setIfInBounds_toArray, List.set_cons_zero, List.set_cons_succ, i64_w, i32_w, hmw, w4, w34, v0, v1, v2, v3, v4, v5, r34]
        rfl
      refine pure_ (i := 7) (N := (some 54)) (v := ?_) (a' := ?_) (L.B 39 255) rfl rfl (by kernel_rfl) (fun _ _ _ h => h) (Or.inl ⟨by rfl, ?_⟩) ?_ ?_
      rotate_left
      · intro w'
        go_simp
        with_reducible rfl
      rotate_left
      · simp only [Act.put, List.setIfInBounds_toArray, List.set_cons_zero, List.set_cons_succ, i64_w, i32_w, hmw, w4, w34, v0, v1, v2, v3, v4, v5, r34]
        rfl
      refine pure_ (i := 8) (N := (some 55)) (v := ?_) (a' := ?_) (L.B 39 511) rfl rfl (by kernel_rfl) (fun _ _ _ h => h) (Or.inl ⟨by rfl, ?_⟩) ?_ ?_
      rotate_left
      · intro w'
        go_simp
        with_reducible rfl
      rotate_left
      · simp only [Act.put, List.setIfInBounds_toArray, List.set_cons_zero, List.set_cons_succ, i64_w, i32_w, hmw, w4, w34, v0, v1, v2, v3, v4, v5, r34]
        rfl
      refine pure_ (i := 9) (N := (some 56)) (v := ?_) (a' := ?_) (L.B 39 1023) rfl rfl (by kernel_rfl) (fun _ _ _ h => h) (Or.inl ⟨by rfl, ?_⟩) ?_ ?_
      rotate_left
      · intro w'
        go_simp
        with_reducible rfl
      rotate_left
      · simp only [Act.put, List.setIfInBounds_toArray, List.set_cons_zero, List.set_cons_succ, i64_w, i32_w, hmw, w4, w34, v0, v1, v2, v3, v4, v5, r34]
        rfl
      refine pure_ (i := 10) (N := (some 57)) (v := ?_) (a' := ?_) (L.B 39 2047) rfl rfl (by kernel_rfl) (fun _ _ _ h => h) (Or.inl ⟨by rfl, ?_⟩) ?_ ?_
      rotate_left
      · intro w'
        go_simp
        with_reducible rfl
      rotate_left
      · simp only [Act.put, List.setIfInBounds_toArray, List.set_cons_zero, List.set_cons_succ, i64_w, i32_w, hmw, w4, w34, v0, v1, v2, v3, v4, v5, r34]
        rfl
      refine pure_ (i := 11) (N := (some 58)) (v := ?_) (a' := ?_) (L.B 39 4095) rfl rfl (by kernel_rfl) (fun _ _ _ h => h) (Or.inl ⟨by rfl, ?_⟩) ?_ ?_
      rotate_left
      · intro w'
        go_simp
        with_reducible rfl
      rotate_left
      · simp only [Act.put, List.setIfInBounds_toArray, List.set_cons_zero, List.set_cons_succ, i64_w, i32_w, hmw, w4, w34, v0, v1, v2, v3, v4, v5, r34]
        rfl
      refine pure_ (i := 12) (N := (some 59)) (v := ?_) (a' := ?_) (L.B 39 8191) rfl rfl (by kernel_rfl) (fun _ _ _ h => h) (Or.inl ⟨by rfl, ?_⟩) ?_ ?_
      rotate_left
      · intro w'
        go_simp
        with_reducible rfl
      rotate_left
      · simp only [Act.put, List.setIfInBounds_toArray, List.set_cons_zero, List.set_cons_succ, i64_w, i32_w, hmw, w4, w34, v0, v1, v2, v3, v4, v5, r34]
        rfl
      refine pure_ (i := 13) (N := (some 60)) (v := ?_) (a' := ?_) (L.B 39 16383) rfl rfl (by kernel_rfl) (fun _ _ _ h => h) (Or.inl ⟨by rfl, ?_⟩) ?_ ?_
      rotate_left
      · intro w'
        go_simp
        with_reducible rfl
      rotate_left
      · simp only [Act.put, List.setIfInBounds_toArray, List.set_cons_zero, List.set_cons_succ, i64_w, i32_w, hmw, w4, w34, v0, v1, v2, v3, v4, v5, r34]
        rfl
      refine pure_ (i := 14) (N := (some 61)) (v := ?_) (a' := ?_) (L.B 39 32767) rfl rfl (by kernel_rfl) (fun _ _ _ h => h) (Or.inl ⟨by rfl, ?_⟩) ?_ ?_
      rotate_left
      · intro w'
        go_simp
        with_reducible rfl
      rotate_left
      · simp only [Act.put, List.setIfInBounds_toArray, List.set_cons_zero, List.set_cons_succ, i64_w, i32_w, hmw, w4, w34, v0, v1, v2, v3, v4, v5, r34]
        rfl
      refine pure_ (i := 15) (N := (some 62)) (v := ?_) (a' := ?_) (L.B 39 65535) rfl rfl (by kernel_rfl) (fun _ _ _ h => h) (Or.inl ⟨by rfl, ?_⟩) ?_ ?_
      rotate_left
      · intro w'
        go_simp
        with_reducible rfl
      rotate_left
      · simp only [Act.put, List.setIfInBounds_toArray, List.set_cons_zero, List.set_cons_succ, i64_w, i32_w, hmw, w4, w34, v0, v1, v2, v3, v4, v5, r34]
        rfl
      refine pure_ (i := 16) (N := (some 63)) (v := ?_) (a' := ?_) (L.B 39 131071) rfl rfl (by kernel_rfl) (fun _ _ _ h => h) (Or.inl ⟨by rfl, ?_⟩) ?_ ?_
      rotate_left
      · intro w'
        go_simp
        with_reducible rfl
      rotate_left
      · simp only [Act.put, List.setIfInBounds_toArray, List.set_cons_zero, List.set_cons_succ, i64_w, i32_w, hmw, w4, w34, v0, v1, v2, v3, v4, v5, r34]
        rfl
      refine pure_ (i := 17) (N := (some 64)) (v := ?_) (a' := ?_) (L.B 39 262143) rfl rfl (by kernel_rfl) (fun _ _ _ h => h) (Or.inl ⟨by rfl, ?_⟩) ?_ ?_
      rotate_left
      · intro w'
        go_simp
        with_reducible rfl
      rotate_left
      · simp only [Act.put, List.setIfInBounds_toArray, List.set_cons_zero, List.set_cons_succ, i64_w, i32_w, hmw, w4, w34, v0, v1, v2, v3, v4, v5, r34]
        rfl
      refine pure_ (i := 18) (N := (some 65)) (v := ?_) (a' := ?_) (L.B 39 524287) rfl rfl (by kernel_rfl) (fun _ _ _ h => h) (Or.inl ⟨by rfl, ?_⟩) ?_ ?_
      rotate_left
      · intro w'
        go_simp
        with_reducible rfl
      rotate_left
      · simp only [Act.put, List.setIfInBounds_toArray, List.set_cons_zero, List.set_cons_succ, i64_w, i32_w, hmw, w4, w34, v0, v1, v2, v3, v4, v5, r34]
        rfl
      refine pure_ (i := 19) (N := (some 66)) (v := ?_) (a' := ?_) (L.B 39 1048575) rfl rfl (by kernel_rfl) (fun _ _ _ h => h) (Or.inl ⟨by rfl, ?_⟩) ?_ ?_
      rotate_left
      · intro w'
        go_simp
        with_reducible rfl
      rotate_left
      · simp only [Act.put, List.setIfInBounds_toArray, List.set_cons_zero, List.set_cons_succ, i64_w, i32_w, hmw, w4, w34, v0, v1, v2, v3, v4, v5, r34]
        rfl
      refine pure_ (i := 20) (N := (some 67)) (v := ?_) (a' := ?_) (L.B 39 2097151) rfl rfl (by kernel_rfl) (fun _ _ _ h => h) (Or.inl ⟨by rfl, ?_⟩) ?_ ?_
      rotate_left
      · intro w'
        go_simp
        with_reducible rfl
      rotate_left
      · simp only [Act.put, List.setIfInBounds_toArray, List.set_cons_zero, List.set_cons_succ, i64_w, i32_w, hmw, w4, w34, v0, v1, v2, v3, v4, v5, r34]
        rfl
      refine pure_ (i := 21) (N := (some 68)) (v := ?_) (a' := ?_) (L.B 39 4194303) rfl rfl (by kernel_rfl) (fun _ _ _ h => h) (Or.inl ⟨by rfl, ?_⟩) ?_ ?_
      rotate_left
      · intro w'
        go_simp
        with_reducible rfl
      rotate_left
      · simp only [Act.put, List.setIfInBounds_toArray, List.set_cons_zero, List.set_cons_succ, i64_w, i32_w, hmw, w4, w34, v0, v1, v2, v3, v4, v5, r34]
        rfl
      refine pure_ (i := 22) (N := (some 69)) (v := ?_) (a' := ?_) (L.B 39 8388607) rfl rfl (by kernel_rfl) (fun _ _ _ h => h) (Or.inl ⟨by rfl, ?_⟩) ?_ ?_
      rotate_left
      · intro w'
        go_simp
        with_reducible rfl
      rotate_left
      · simp only [Act.put, List.setIfInBounds_toArray, List.set_cons_zero, List.set_cons_succ, i64_w, i32_w, hmw, w4, w34, v0, v1, v2, v3, v4, v5, r34]
        rfl
      refine pure_ (i := 23) (N := (some 70)) (v := ?_) (a' := ?_) (L.B 39 16777215) rfl rfl (by kernel_rfl) (fun _ _ _ h => h) (Or.inl ⟨by rfl, ?_⟩) ?_ ?_
      rotate_left
      · intro w'
        go_simp
        with_reducible rfl
      rotate_left
      · simp only [Act.put, List.setIfInBounds_toArray, List.set_cons_zero, List.set_cons_succ, i64_w, i32_w, hmw, w4, w34, v0, v1, v2, v3, v4, v5, r34]
        rfl
      refine pure_ (i := 24) (N := (some 71)) (v := ?_) (a' := ?_) (L.B 39 33554431) rfl rfl (by kernel_rfl) (fun _ _ _ h => h) (Or.inl ⟨by rfl, ?_⟩) ?_ ?_
      rotate_left
      · intro w'
        go_simp
        with_reducible rfl
      rotate_left
      · simp only [Act.put, List.setIfInBounds_toArray, List.set_cons_zero, List.set_cons_succ, i64_w, i32_w, hmw, w4, w34, v0, v1, v2, v3, v4, v5, r34]
        rfl
      refine pure_ (i := 25) (N := (some 72)) (v := ?_) (a' := ?_) (L.B 39 67108863) rfl rfl (by kernel_rfl) (fun _ _ _ h => h) (Or.inl ⟨by rfl, ?_⟩) ?_ ?_
      rotate_left
      · intro w'
        go_simp
        with_reducible rfl
      rotate_left
      · simp only [Act.put, List.setIfInBounds_toArray, List.set_cons_zero, List.set_cons_succ, i64_w, i32_w, hmw, w4, w34, v0, v1, v2, v3, v4, v5, r34]
        rfl
      refine pure_ (i := 26) (N := (some 73)) (v := ?_) (a' := ?_) (L.B 39 134217727) rfl rfl (by kernel_rfl) (fun _ _ _ h => h) (Or.inl ⟨by rfl, ?_⟩) ?_ ?_
      rotate_left
      · intro w'
        go_simp
        with_reducible rfl
      rotate_left
      · simp only [Act.put, List.setIfInBounds_toArray, List.set_cons_zero, List.set_cons_succ, i64_w, i32_w, hmw, w4, w34, v0, v1, v2, v3, v4, v5, r34]
        rfl
      refine pure_ (i := 27) (N := (some 74)) (v := ?_) (a' := ?_) (L.B 39 268435455) rfl rfl (by kernel_rfl) (fun _ _ _ h => h) (Or.inl ⟨by rfl, ?_⟩) ?_ ?_
      rotate_left
      · intro w'
        go_simp
        with_reducible rfl
      rotate_left
      · simp only [Act.put, List.setIfInBounds_toArray, List.set_cons_zero, List.set_cons_succ, i64_w, i32_w, hmw, w4, w34, v0, v1, v2, v3, v4, v5, r34]
        rfl
      refine pure_ (i := 28) (N := (some 75)) (v := ?_) (a' := ?_) (L.B 39 536870911) rfl rfl (by kernel_rfl) (fun _ _ _ h => h) (Or.inl ⟨by rfl, ?_⟩) ?_ ?_
      rotate_left
      · intro w'
        go_simp
        with_reducible rfl
      rotate_left
      · simp only [Act.put, List.setIfInBounds_toArray, List.set_cons_zero, List.set_cons_succ, i64_w, i32_w, hmw, w4, w34, v0, v1, v2, v3, v4, v5, r34]
        rfl
      refine pure_ (i := 29) (N := (some 76)) (v := undef) (a' := ?_) (L.B 39 1073741823) rfl rfl (by kernel_rfl) (fun _ _ _ h => h) (Or.inr ⟨by rfl, rfl⟩) ?_ ?_
      rotate_left
      · simp only [Act.put, List.setIfInBounds_toArray, List.set_cons_zero, List.set_cons_succ, i64_w, i32_w, hmw, w4, w34, v0, v1, v2, v3, v4, v5, r34]
        rfl
      refine pure_ (i := 30) (N := (some 77)) (v := undef) (a' := ?_) (L.B 39 2147483647) rfl rfl (by kernel_rfl) (fun _ _ _ h => h) (Or.inr ⟨by rfl, rfl⟩) ?_ ?_
      rotate_left
      · simp only [Act.put, List.setIfInBounds_toArray, List.set_cons_zero, List.set_cons_succ, i64_w, i32_w, hmw, w4, w34, v0, v1, v2, v3, v4, v5, r34]
        rfl
      refine pure_ (i := 31) (N := (some 78)) (v := undef) (a' := ?_) (L.B 39 4294967295) rfl rfl (by kernel_rfl) (fun _ _ _ h => h) (Or.inr ⟨by rfl, rfl⟩) ?_ ?_
      rotate_left
      · simp only [Act.put, List.setIfInBounds_toArray, List.set_cons_zero, List.set_cons_succ, i64_w, i32_w, hmw, w4, w34, v0, v1, v2, v3, v4, v5, r34]
        rfl
      refine pure_ (i := 32) (N := (some 79)) (v := ?_) (a' := ?_) (L.B 39 8589934591) rfl rfl (by kernel_rfl) (fun _ _ _ h => h) (Or.inl ⟨by rfl, ?_⟩) ?_ ?_
      rotate_left
      · intro w'
        go_simp
        with_reducible rfl
      rotate_left
      · simp only [Act.put, List.setIfInBounds_toArray, List.set_cons_zero, List.set_cons_succ, i64_w, i32_w, hmw, w4, w34, v0, v1, v2, v3, v4, v5, r34]
        rfl
      refine pure_ (i := 33) (N := (some 80)) (v := ?_) (a' := ?_) (L.B 39 17179869183) rfl rfl (by kernel_rfl) (fun _ _ _ h => h) (Or.inl ⟨by rfl, ?_⟩) ?_ ?_
      rotate_left
      · intro w'
        go_simp
        with_reducible rfl
      rotate_left
      · simp only [Act.put, List.setIfInBounds_toArray, List.set_cons_zero, List.set_cons_succ, i64_w, i32_w, hmw, w4, w34, v0, v1, v2, v3, v4, v5, r34]
        rfl
      refine pure_ (i := 34) (N := (some 81)) (v := ?_) (a' := ?_) (L.B 39 34359738367) rfl rfl (by kernel_rfl) (fun _ _ _ h => h) (Or.inl ⟨by rfl, ?_⟩) ?_ ?_
      rotate_left
      · intro w'
        go_simp
        with_reducible rfl
      rotate_left
      · simp only [Act.put, List.setIfInBounds_toArray, List.set_cons_zero, List.set_cons_succ, i64_w, i32_w, hmw, w4, w34, v0, v1, v2, v3, v4, v5, r34]
        rfl
      refine pure_ (i := 35) (N := (some 82)) (v := ?_) (a' := ?_) (L.B 39 68719476735) rfl rfl (by kernel_rfl) (fun _ _ _ h => h) (Or.inl ⟨by rfl, ?_⟩) ?_ ?_
      rotate_left
      · intro w'
        go_simp
        with_reducible rfl
      rotate_left
      · simp only [Act.put, List.setIfInBounds_toArray, List.set_cons_zero, List.set_cons_succ, i64_w, i32_w, hmw, w4, w34, v0, v1, v2, v3, v4, v5, r34]
        rfl
      refine pure_ (i := 36) (N := (some 83)) (v := ?_) (a' := ?_) (L.B 39 137438953471) rfl rfl (by kernel_rfl) (fun _ _ _ h => h) (Or.inl ⟨by rfl, ?_⟩) ?_ ?_
      rotate_left
      · intro w'
        go_simp
        with_reducible rfl
      rotate_left
      · simp only [Act.put, List.setIfInBounds_toArray, List.set_cons_zero, List.set_cons_succ, i64_w, i32_w, hmw, w4, w34, v0, v1, v2, v3, v4, v5, r34]
        rfl
      refine pure_ (i := 37) (N := (some 84)) (v := ?_) (a' := ?_) (L.B 39 274877906943) rfl rfl (by kernel_rfl) (fun _ _ _ h => h) (Or.inl ⟨by rfl, ?_⟩) ?_ ?_
      rotate_left
      · intro w'
        go_simp
        with_reducible rfl
      rotate_left
      · simp only [Act.put, List.setIfInBounds_toArray, List.set_cons_zero, List.set_cons_succ, i64_w, i32_w, hmw, w4, w34, v0, v1, v2, v3, v4, v5, r34]
        rfl
      refine pure_ (i := 38) (N := (some 85)) (v := ?_) (a' := ?_) (L.B 39 549755813887) rfl rfl (by kernel_rfl) (fun _ _ _ h => h) (Or.inl ⟨by rfl, ?_⟩) ?_ ?_
      rotate_left
      · intro w'
        go_simp
        with_reducible rfl
      rotate_left
      · simp only [Act.put, List.setIfInBounds_toArray, List.set_cons_zero, List.set_cons_succ, i64_w, i32_w, hmw, w4, w34, v0, v1, v2, v3, v4, v5, r34]
        rfl
      refine done_ (by kernel_rfl) ?_
      clear hmw w34 w4
      go_wp2_with (fail)
      go_ret
      exact ⟨rfl, L.below_drew (L.below_drew hB)⟩
    · have kn : ((K : Int) != 1) = true := bne_iff_ne.2 (fun e => hK1 (Int.ofNat_inj.1 e))
      have hy0 := hY0 hK1
      subst hy0
      have kb : ((K : Int) == 1) = false := beq_eq_false_iff_ne.2 (fun e => hK1 (Int.ofNat_inj.1 e))
      by_cases hK0 : K = 0
      · have ka : ((K : Int) == 0) = true := by rw [hK0]; rfl
        have te : (tx.toList == d.toList) = true := by rw [ByteArray.toList_eq, ByteArray.toList_eq, htxd.out, hO0 hK0]; exact beq_self_eq_true _
        replace hK0 := Lib.hid hK0
        clear hO0 hO1 hO2 hY0
        refine start_ (n := 39) (S := fun w' => True) (ds := []) (L.B 39 0) (by kernel_rfl) rfl (by kernel_rfl) trivial (fun hHeld => ?_)
        refine pure_ (i := 0) (N := (some 47)) (v := ?_) (a' := ?_) (L.B 39 1) rfl rfl (by kernel_rfl) (fun _ _ _ h => h) (Or.inl ⟨by rfl, ?_⟩) ?_ ?_
        rotate_left
        · intro w'
          go_simp
          with_reducible rfl
        rotate_left
        · simp only [Act.put, List.setIfInBounds_toArray, List.set_cons_zero, List.set_cons_succ, i64_w, i32_w, hmw, w4, w34, v0, v1, v2, v3, v4, v5, r34]
          rfl
        refine pure_ (i := 1) (N := (some 48)) (v := ?_) (a' := ?_) (L.B 39 3) rfl rfl (by kernel_rfl) (fun _ _ _ h => h) (Or.inl ⟨by rfl, ?_⟩) ?_ ?_
        rotate_left
        · intro w'
          go_simp
          with_reducible rfl
        rotate_left
        · simp only [Act.put, List.setIfInBounds_toArray, List.set_cons_zero, List.set_cons_succ, i64_w, i32_w, hmw, w4, w34, v0, v1, v2, v3, v4, v5, r34]
          rfl
        refine pure_ (i := 2) (N := (some 49)) (v := ?_) (a' := ?_) (L.B 39 7) rfl rfl (by kernel_rfl) (fun _ _ _ h => h) (Or.inl ⟨by rfl, ?_⟩) ?_ ?_
        rotate_left
        · intro w'
          go_simp
          with_reducible rfl
        rotate_left
        · simp only [Act.put, List.setIfInBounds_toArray, List.set_cons_zero, List.set_cons_succ, i64_w, i32_w, hmw, w4, w34, v0, v1, v2, v3, v4, v5, r34]
          rfl
        refine pure_ (i := 3) (N := (some 50)) (v := ?_) (a' := ?_) (L.B 39 15) rfl rfl (by kernel_rfl) (fun _ _ _ h => h) (Or.inl ⟨by rfl, ?_⟩) ?_ ?_
        rotate_left
        · intro w'
          go_simp
          with_reducible rfl
        rotate_left
        · simp only [Act.put, List.setIfInBounds_toArray, List.set_cons_zero, List.set_cons_succ, i64_w, i32_w, hmw, w4, w34, v0, v1, v2, v3, v4, v5, r34]
          rfl
        refine pure_ (i := 4) (N := (some 51)) (v := ?_) (a' := ?_) (L.B 39 31) rfl rfl (by kernel_rfl) (fun _ _ _ h => h) (Or.inl ⟨by rfl, ?_⟩) ?_ ?_
        rotate_left
        · intro w'
          go_simp
          with_reducible rfl
        rotate_left
        · simp only [Act.put, List.setIfInBounds_toArray, List.set_cons_zero, List.set_cons_succ, i64_w, i32_w, hmw, w4, w34, v0, v1, v2, v3, v4, v5, r34]
          rfl
        refine pure_ (i := 5) (N := (some 52)) (v := ?_) (a' := ?_) (L.B 39 63) rfl rfl (by kernel_rfl) (fun _ _ _ h => h) (Or.inl ⟨by rfl, ?_⟩) ?_ ?_
        rotate_left
        · intro w'
          go_simp
          with_reducible rfl
        rotate_left
        · simp only [Act.put, List.setIfInBounds_toArray, List.set_cons_zero, List.set_cons_succ, i64_w, i32_w, hmw, w4, w34, v0, v1, v2, v3, v4, v5, r34]
          rfl
        refine pure_ (i := 6) (N := (some 53)) (v := ?_) (a' := ?_) (L.B 39 127) rfl rfl (by kernel_rfl) (fun _ _ _ h => h) (Or.inl ⟨by rfl, ?_⟩) ?_ ?_
        rotate_left
        · intro w'
          go_simp
          with_reducible rfl
        rotate_left
        · simp only [Act.put, List.setIfInBounds_toArray, List.set_cons_zero, List.set_cons_succ, i64_w, i32_w, hmw, w4, w34, v0, v1, v2, v3, v4, v5, r34]
          rfl
        refine pure_ (i := 7) (N := (some 54)) (v := ?_) (a' := ?_) (L.B 39 255) rfl rfl (by kernel_rfl) (fun _ _ _ h => h) (Or.inl ⟨by rfl, ?_⟩) ?_ ?_
        rotate_left
        · intro w'
          go_simp
          with_reducible rfl
        rotate_left
        · simp only [Act.put, List.setIfInBounds_toArray, List.set_cons_zero, List.set_cons_succ, i64_w, i32_w, hmw, w4, w34, v0, v1, v2, v3, v4, v5, r34]
          rfl
        refine pure_ (i := 8) (N := (some 55)) (v := ?_) (a' := ?_) (L.B 39 511) rfl rfl (by kernel_rfl) (fun _ _ _ h => h) (Or.inl ⟨by rfl, ?_⟩) ?_ ?_
        rotate_left
        · intro w'
          go_simp
          with_reducible rfl
        rotate_left
        · simp only [Act.put, List.setIfInBounds_toArray, List.set_cons_zero, List.set_cons_succ, i64_w, i32_w, hmw, w4, w34, v0, v1, v2, v3, v4, v5, r34]
          rfl
        refine pure_ (i := 9) (N := (some 56)) (v := ?_) (a' := ?_) (L.B 39 1023) rfl rfl (by kernel_rfl) (fun _ _ _ h => h) (Or.inl ⟨by rfl, ?_⟩) ?_ ?_
        rotate_left
        · intro w'
          go_simp
          with_reducible rfl
        rotate_left
        · simp only [Act.put, List.setIfInBounds_toArray, List.set_cons_zero, List.set_cons_succ, i64_w, i32_w, hmw, w4, w34, v0, v1, v2, v3, v4, v5, r34]
          rfl
        refine pure_ (i := 10) (N := (some 57)) (v := ?_) (a' := ?_) (L.B 39 2047) rfl rfl (by kernel_rfl) (fun _ _ _ h => h) (Or.inl ⟨by rfl, ?_⟩) ?_ ?_
        rotate_left
        · intro w'
          go_simp
          with_reducible rfl
        rotate_left
        · simp only [Act.put, List.setIfInBounds_toArray, List.set_cons_zero, List.set_cons_succ, i64_w, i32_w, hmw, w4, w34, v0, v1, v2, v3, v4, v5, r34]
          rfl
        refine pure_ (i := 11) (N := (some 58)) (v := ?_) (a' := ?_) (L.B 39 4095) rfl rfl (by kernel_rfl) (fun _ _ _ h => h) (Or.inl ⟨by rfl, ?_⟩) ?_ ?_
        rotate_left
        · intro w'
          go_simp
          with_reducible rfl
        rotate_left
        · simp only [Act.put, List.setIfInBounds_toArray, List.set_cons_zero, List.set_cons_succ, i64_w, i32_w, hmw, w4, w34, v0, v1, v2, v3, v4, v5, r34]
          rfl
        refine pure_ (i := 12) (N := (some 59)) (v := ?_) (a' := ?_) (L.B 39 8191) rfl rfl (by kernel_rfl) (fun _ _ _ h => h) (Or.inl ⟨by rfl, ?_⟩) ?_ ?_
        rotate_left
        · intro w'
          go_simp
          with_reducible rfl
        rotate_left
        · simp only [Act.put, List.setIfInBounds_toArray, List.set_cons_zero, List.set_cons_succ, i64_w, i32_w, hmw, w4, w34, v0, v1, v2, v3, v4, v5, r34]
          rfl
        refine pure_ (i := 13) (N := (some 60)) (v := ?_) (a' := ?_) (L.B 39 16383) rfl rfl (by kernel_rfl) (fun _ _ _ h => h) (Or.inl ⟨by rfl, ?_⟩) ?_ ?_
        rotate_left
        · intro w'
          go_simp
          with_reducible rfl
        rotate_left
        · simp only [Act.put, List.setIfInBounds_toArray, List.set_cons_zero, List.set_cons_succ, i64_w, i32_w, hmw, w4, w34, v0, v1, v2, v3, v4, v5, r34]
          rfl
        refine pure_ (i := 14) (N := (some 61)) (v := ?_) (a' := ?_) (L.B 39 32767) rfl rfl (by kernel_rfl) (fun _ _ _ h => h) (Or.inl ⟨by rfl, ?_⟩) ?_ ?_
        rotate_left
        · intro w'
          go_simp
          with_reducible rfl
        rotate_left
        · simp only [Act.put, List.setIfInBounds_toArray, List.set_cons_zero, List.set_cons_succ, i64_w, i32_w, hmw, w4, w34, v0, v1, v2, v3, v4, v5, r34]
          rfl
        refine pure_ (i := 15) (N := (some 62)) (v := ?_) (a' := ?_) (L.B 39 65535) rfl rfl (by kernel_rfl) (fun _ _ _ h => h) (Or.inl ⟨by rfl, ?_⟩) ?_ ?_
        rotate_left
        · intro w'
          go_simp
          with_reducible rfl
        rotate_left
        · simp only [Act.put, List.setIfInBounds_toArray, List.set_cons_zero, List.set_cons_succ, i64_w, i32_w, hmw, w4, w34, v0, v1, v2, v3, v4, v5, r34]
          rfl
        refine pure_ (i := 16) (N := (some 63)) (v := ?_) (a' := ?_) (L.B 39 131071) rfl rfl (by kernel_rfl) (fun _ _ _ h => h) (Or.inl ⟨by rfl, ?_⟩) ?_ ?_
        rotate_left
        · intro w'
          go_simp
          with_reducible rfl
        rotate_left
        · simp only [Act.put, List.setIfInBounds_toArray, List.set_cons_zero, List.set_cons_succ, i64_w, i32_w, hmw, w4, w34, v0, v1, v2, v3, v4, v5, r34]
          rfl
        refine pure_ (i := 17) (N := (some 64)) (v := ?_) (a' := ?_) (L.B 39 262143) rfl rfl (by kernel_rfl) (fun _ _ _ h => h) (Or.inl ⟨by rfl, ?_⟩) ?_ ?_
        rotate_left
        · intro w'
          go_simp
          with_reducible rfl
        rotate_left
        · simp only [Act.put, List.setIfInBounds_toArray, List.set_cons_zero, List.set_cons_succ, i64_w, i32_w, hmw, w4, w34, v0, v1, v2, v3, v4, v5, r34]
          rfl
        refine pure_ (i := 18) (N := (some 65)) (v := ?_) (a' := ?_) (L.B 39 524287) rfl rfl (by kernel_rfl) (fun _ _ _ h => h) (Or.inl ⟨by rfl, ?_⟩) ?_ ?_
        rotate_left
        · intro w'
          go_simp
          with_reducible rfl
        rotate_left
        · simp only [Act.put, List.setIfInBounds_toArray, List.set_cons_zero, List.set_cons_succ, i64_w, i32_w, hmw, w4, w34, v0, v1, v2, v3, v4, v5, r34]
          rfl
        refine pure_ (i := 19) (N := (some 66)) (v := ?_) (a' := ?_) (L.B 39 1048575) rfl rfl (by kernel_rfl) (fun _ _ _ h => h) (Or.inl ⟨by rfl, ?_⟩) ?_ ?_
        rotate_left
        · intro w'
          go_simp
          with_reducible rfl
        rotate_left
        · simp only [Act.put, List.setIfInBounds_toArray, List.set_cons_zero, List.set_cons_succ, i64_w, i32_w, hmw, w4, w34, v0, v1, v2, v3, v4, v5, r34]
          rfl
        refine pure_ (i := 20) (N := (some 67)) (v := ?_) (a' := ?_) (L.B 39 2097151) rfl rfl (by kernel_rfl) (fun _ _ _ h => h) (Or.inl ⟨by rfl, ?_⟩) ?_ ?_
        rotate_left
        · intro w'
          go_simp
          with_reducible rfl
        rotate_left
        · simp only [Act.put, List.setIfInBounds_toArray, List.set_cons_zero, List.set_cons_succ, i64_w, i32_w, hmw, w4, w34, v0, v1, v2, v3, v4, v5, r34]
          rfl
        refine pure_ (i := 21) (N := (some 68)) (v := ?_) (a' := ?_) (L.B 39 4194303) rfl rfl (by kernel_rfl) (fun _ _ _ h => h) (Or.inl ⟨by rfl, ?_⟩) ?_ ?_
        rotate_left
        · intro w'
          go_simp
          with_reducible rfl
        rotate_left
        · simp only [Act.put, List.setIfInBounds_toArray, List.set_cons_zero, List.set_cons_succ, i64_w, i32_w, hmw, w4, w34, v0, v1, v2, v3, v4, v5, r34]
          rfl
        refine pure_ (i := 22) (N := (some 69)) (v := ?_) (a' := ?_) (L.B 39 8388607) rfl rfl (by kernel_rfl) (fun _ _ _ h => h) (Or.inl ⟨by rfl, ?_⟩) ?_ ?_
        rotate_left
        · intro w'
          go_simp
          with_reducible rfl
        rotate_left
        · simp only [Act.put, List.setIfInBounds_toArray, List.set_cons_zero, List.set_cons_succ, i64_w, i32_w, hmw, w4, w34, v0, v1, v2, v3, v4, v5, r34]
          rfl
        refine pure_ (i := 23) (N := (some 70)) (v := ?_) (a' := ?_) (L.B 39 16777215) rfl rfl (by kernel_rfl) (fun _ _ _ h => h) (Or.inl ⟨by rfl, ?_⟩) ?_ ?_
        rotate_left
        · intro w'
          go_simp
          with_reducible rfl
        rotate_left
        · simp only [Act.put, List.setIfInBounds_toArray, List.set_cons_zero, List.set_cons_succ, i64_w, i32_w, hmw, w4, w34, v0, v1, v2, v3, v4, v5, r34]
          rfl
        refine pure_ (i := 24) (N := (some 71)) (v := ?_) (a' := ?_) (L.B 39 33554431) rfl rfl (by kernel_rfl) (fun _ _ _ h => h) (Or.inl ⟨by rfl, ?_⟩) ?_ ?_
        rotate_left
        · intro w'
          go_simp
          with_reducible rfl
        rotate_left
        · simp only [Act.put, List.setIfInBounds_toArray, List.set_cons_zero, List.set_cons_succ, i64_w, i32_w, hmw, w4, w34, v0, v1, v2, v3, v4, v5, r34]
          rfl
        refine pure_ (i := 25) (N := (some 72)) (v := ?_) (a' := ?_) (L.B 39 67108863) rfl rfl (by kernel_rfl) (fun _ _ _ h => h) (Or.inl ⟨by rfl, ?_⟩) ?_ ?_
        rotate_left
        · intro w'
          go_simp
          with_reducible rfl
        rotate_left
        · simp only [Act.put, List.setIfInBounds_toArray, List.set_cons_zero, List.set_cons_succ, i64_w, i32_w, hmw, w4, w34, v0, v1, v2, v3, v4, v5, r34]
          rfl
        refine pure_ (i := 26) (N := (some 73)) (v := ?_) (a' := ?_) (L.B 39 134217727) rfl rfl (by kernel_rfl) (fun _ _ _ h => h) (Or.inl ⟨by rfl, ?_⟩) ?_ ?_
        rotate_left
        · intro w'
          go_simp
          with_reducible rfl
        rotate_left
        · simp only [Act.put, List.setIfInBounds_toArray, List.set_cons_zero, List.set_cons_succ, i64_w, i32_w, hmw, w4, w34, v0, v1, v2, v3, v4, v5, r34]
          rfl
        refine pure_ (i := 27) (N := (some 74)) (v := ?_) (a' := ?_) (L.B 39 268435455) rfl rfl (by kernel_rfl) (fun _ _ _ h => h) (Or.inl ⟨by rfl, ?_⟩) ?_ ?_
        rotate_left
        · intro w'
          go_simp
          with_reducible rfl
        rotate_left
        · simp only [Act.put, List.setIfInBounds_toArray, List.set_cons_zero, List.set_cons_succ, i64_w, i32_w, hmw, w4, w34, v0, v1, v2, v3, v4, v5, r34]
          rfl
        refine pure_ (i := 28) (N := (some 75)) (v := ?_) (a' := ?_) (L.B 39 536870911) rfl rfl (by kernel_rfl) (fun _ _ _ h => h) (Or.inl ⟨by rfl, ?_⟩) ?_ ?_
        rotate_left
        · intro w'
          go_simp
          with_reducible rfl
        rotate_left
        · simp only [Act.put, List.setIfInBounds_toArray, List.set_cons_zero, List.set_cons_succ, i64_w, i32_w, hmw, w4, w34, v0, v1, v2, v3, v4, v5, r34]
          rfl
        refine pure_ (i := 29) (N := (some 76)) (v := ?_) (a' := ?_) (L.B 39 1073741823) rfl rfl (by kernel_rfl) (fun _ _ _ h => h) (Or.inl ⟨by rfl, ?_⟩) ?_ ?_
        rotate_left
        · intro w'
          go_simp
          with_reducible rfl
        rotate_left
        · simp only [Act.put, List.setIfInBounds_toArray, List.set_cons_zero, List.set_cons_succ, i64_w, i32_w, hmw, w4, w34, v0, v1, v2, v3, v4, v5, r34]
          rfl
        refine pure_ (i := 30) (N := (some 77)) (v := ?_) (a' := ?_) (L.B 39 2147483647) rfl rfl (by kernel_rfl) (fun _ _ _ h => h) (Or.inl ⟨by rfl, ?_⟩) ?_ ?_
        rotate_left
        · intro w'
          go_simp
          with_reducible rfl
        rotate_left
        · simp only [Act.put, List.setIfInBounds_toArray, List.set_cons_zero, List.set_cons_succ, i64_w, i32_w, hmw, w4, w34, v0, v1, v2, v3, v4, v5, r34]
          rfl
        refine pure_ (i := 31) (N := (some 78)) (v := ?_) (a' := ?_) (L.B 39 4294967295) rfl rfl (by kernel_rfl) (fun _ _ _ h => h) (Or.inl ⟨by rfl, ?_⟩) ?_ ?_
        rotate_left
        · intro w'
          go_simp
          with_reducible rfl
        rotate_left
        · simp only [Act.put, List.setIfInBounds_toArray, List.set_cons_zero, List.set_cons_succ, i64_w, i32_w, hmw, w4, w34, v0, v1, v2, v3, v4, v5, r34]
          rfl
        refine pure_ (i := 32) (N := (some 79)) (v := ?_) (a' := ?_) (L.B 39 8589934591) rfl rfl (by kernel_rfl) (fun _ _ _ h => h) (Or.inl ⟨by rfl, ?_⟩) ?_ ?_
        rotate_left
        · intro w'
          go_simp
          with_reducible rfl
        rotate_left
        · simp only [Act.put, List.setIfInBounds_toArray, List.set_cons_zero, List.set_cons_succ, i64_w, i32_w, hmw, w4, w34, v0, v1, v2, v3, v4, v5, r34]
          rfl
        refine pure_ (i := 33) (N := (some 80)) (v := ?_) (a' := ?_) (L.B 39 17179869183) rfl rfl (by kernel_rfl) (fun _ _ _ h => h) (Or.inl ⟨by rfl, ?_⟩) ?_ ?_
        rotate_left
        · intro w'
          go_simp
          with_reducible rfl
        rotate_left
        · simp only [Act.put, List.setIfInBounds_toArray, List.set_cons_zero, List.set_cons_succ, i64_w, i32_w, hmw, w4, w34, v0, v1, v2, v3, v4, v5, r34]
          rfl
        refine pure_ (i := 34) (N := (some 81)) (v := ?_) (a' := ?_) (L.B 39 34359738367) rfl rfl (by kernel_rfl) (fun _ _ _ h => h) (Or.inl ⟨by rfl, ?_⟩) ?_ ?_
        rotate_left
        · intro w'
          go_simp
          with_reducible rfl
        rotate_left
        · simp only [Act.put, List.setIfInBounds_toArray, List.set_cons_zero, List.set_cons_succ, i64_w, i32_w, hmw, w4, w34, v0, v1, v2, v3, v4, v5, r34]
          rfl
        refine pure_ (i := 35) (N := (some 82)) (v := ?_) (a' := ?_) (L.B 39 68719476735) rfl rfl (by kernel_rfl) (fun _ _ _ h => h) (Or.inl ⟨by rfl, ?_⟩) ?_ ?_
        rotate_left
        · intro w'
          go_simp
          with_reducible rfl
        rotate_left
        · simp only [Act.put, List.setIfInBounds_toArray, List.set_cons_zero, List.set_cons_succ, i64_w, i32_w, hmw, w4, w34, v0, v1, v2, v3, v4, v5, r34]
          rfl
        refine pure_ (i := 36) (N := (some 83)) (v := ?_) (a' := ?_) (L.B 39 137438953471) rfl rfl (by kernel_rfl) (fun _ _ _ h => h) (Or.inl ⟨by rfl, ?_⟩) ?_ ?_
        rotate_left
        · intro w'
          go_simp
          with_reducible rfl
        rotate_left
        · simp only [Act.put, List.setIfInBounds_toArray, List.set_cons_zero, List.set_cons_succ, i64_w, i32_w, hmw, w4, w34, v0, v1, v2, v3, v4, v5, r34]
          rfl
        refine pure_ (i := 37) (N := (some 84)) (v := ?_) (a' := ?_) (L.B 39 274877906943) rfl rfl (by kernel_rfl) (fun _ _ _ h => h) (Or.inl ⟨by rfl, ?_⟩) ?_ ?_
        rotate_left
        · intro w'
          go_simp
          with_reducible rfl
        rotate_left
        · simp only [Act.put, List.setIfInBounds_toArray, List.set_cons_zero, List.set_cons_succ, i64_w, i32_w, hmw, w4, w34, v0, v1, v2, v3, v4, v5, r34]
          rfl
        refine pure_ (i := 38) (N := (some 85)) (v := ?_) (a' := ?_) (L.B 39 549755813887) rfl rfl (by kernel_rfl) (fun _ _ _ h => h) (Or.inl ⟨by rfl, ?_⟩) ?_ ?_
        rotate_left
        · intro w'
          go_simp
          with_reducible rfl
        rotate_left
        · simp only [Act.put, List.setIfInBounds_toArray, List.set_cons_zero, List.set_cons_succ, i64_w, i32_w, hmw, w4, w34, v0, v1, v2, v3, v4, v5, r34]
          rfl
        refine done_ (by kernel_rfl) ?_
        clear hmw w34 w4
        go_wp2_with (fail)
        go_ret
        exact ⟨rfl, L.below_drew (L.below_drew hB)⟩
      · have hK2 : K = 2 := by
          rcases Nat.lt_or_ge K 2 with h | h
          · exact absurd (Nat.le_antisymm (Nat.le_of_lt_succ h) (Nat.pos_of_ne_zero hK0)) hK1
          · exact Nat.le_antisymm hk2 h
        have ka : ((K : Int) == 0) = false := by rw [hK2]; rfl
        have kc : ((K : Int) == 2) = true := by rw [hK2]; rfl
        have te : (tx.toList == (d.extract 0 fs).toList) = true := by rw [ByteArray.toList_eq, ByteArray.toList_eq, htxd.out, hO2 hK2, ext_list, List.drop_zero]; exact beq_self_eq_true _
        have f1 := eq_true (Int.natCast_nonneg fs)
        have f2 := eq_true (Int.ofNat_le.2 hle)
        have f3 := eq_true hle
        replace hK2 := Lib.hid hK2
        replace hK0 := Lib.hid hK0
        clear hO0 hO1 hO2 hY0
        refine start_ (n := 39) (S := fun w' => True) (ds := []) (L.B 39 0) (by kernel_rfl) rfl (by kernel_rfl) trivial (fun hHeld => ?_)
        refine pure_ (i := 0) (N := (some 47)) (v := ?_) (a' := ?_) (L.B 39 1) rfl rfl (by kernel_rfl) (fun _ _ _ h => h) (Or.inl ⟨by rfl, ?_⟩) ?_ ?_
        rotate_left
        · intro w'
          go_simp
          with_reducible rfl
        rotate_left
        · simp only [Act.put, List.setIfInBounds_toArray, List.set_cons_zero, List.set_cons_succ, i64_w, i32_w, hmw, w4, w34, v0, v1, v2, v3, v4, v5, r34]
          rfl
        refine pure_ (i := 1) (N := (some 48)) (v := ?_) (a' := ?_) (L.B 39 3) rfl rfl (by kernel_rfl) (fun _ _ _ h => h) (Or.inl ⟨by rfl, ?_⟩) ?_ ?_
        rotate_left
        · intro w'
          go_simp
          with_reducible rfl
        rotate_left
        · simp only [Act.put, List.setIfInBounds_toArray, List.set_cons_zero, List.set_cons_succ, i64_w, i32_w, hmw, w4, w34, v0, v1, v2, v3, v4, v5, r34]
          rfl
        refine pure_ (i := 2) (N := (some 49)) (v := ?_) (a' := ?_) (L.B 39 7) rfl rfl (by kernel_rfl) (fun _ _ _ h => h) (Or.inl ⟨by rfl, ?_⟩) ?_ ?_
        rotate_left
        · intro w'
          go_simp
          with_reducible rfl
        rotate_left
        · simp only [Act.put, List.setIfInBounds_toArray, List.set_cons_zero, List.set_cons_succ, i64_w, i32_w, hmw, w4, w34, v0, v1, v2, v3, v4, v5, r34]
          rfl
        refine pure_ (i := 3) (N := (some 50)) (v := ?_) (a' := ?_) (L.B 39 15) rfl rfl (by kernel_rfl) (fun _ _ _ h => h) (Or.inl ⟨by rfl, ?_⟩) ?_ ?_
        rotate_left
        · intro w'
          go_simp
          with_reducible rfl
        rotate_left
        · simp only [Act.put, List.setIfInBounds_toArray, List.set_cons_zero, List.set_cons_succ, i64_w, i32_w, hmw, w4, w34, v0, v1, v2, v3, v4, v5, r34]
          rfl
        refine pure_ (i := 4) (N := (some 51)) (v := ?_) (a' := ?_) (L.B 39 31) rfl rfl (by kernel_rfl) (fun _ _ _ h => h) (Or.inl ⟨by rfl, ?_⟩) ?_ ?_
        rotate_left
        · intro w'
          go_simp
          with_reducible rfl
        rotate_left
        · simp only [Act.put, List.setIfInBounds_toArray, List.set_cons_zero, List.set_cons_succ, i64_w, i32_w, hmw, w4, w34, v0, v1, v2, v3, v4, v5, r34]
          rfl
        refine pure_ (i := 5) (N := (some 52)) (v := ?_) (a' := ?_) (L.B 39 63) rfl rfl (by kernel_rfl) (fun _ _ _ h => h) (Or.inl ⟨by rfl, ?_⟩) ?_ ?_
        rotate_left
        · intro w'
          go_simp
          with_reducible rfl
        rotate_left
        · simp only [Act.put, List.setIfInBounds_toArray, List.set_cons_zero, List.set_cons_succ, i64_w, i32_w, hmw, w4, w34, v0, v1, v2, v3, v4, v5, r34]
          rfl
        refine pure_ (i := 6) (N := (some 53)) (v := ?_) (a' := ?_) (L.B 39 127) rfl rfl (by kernel_rfl) (fun _ _ _ h => h) (Or.inl ⟨by rfl, ?_⟩) ?_ ?_
        rotate_left
        · intro w'
          go_simp
          with_reducible rfl
        rotate_left
        · simp only [Act.put, List.setIfInBounds_toArray, List.set_cons_zero, List.set_cons_succ, i64_w, i32_w, hmw, w4, w34, v0, v1, v2, v3, v4, v5, r34]
          rfl
        refine pure_ (i := 7) (N := (some 54)) (v := ?_) (a' := ?_) (L.B 39 255) rfl rfl (by kernel_rfl) (fun _ _ _ h => h) (Or.inl ⟨by rfl, ?_⟩) ?_ ?_
        rotate_left
        · intro w'
          go_simp
          with_reducible rfl
        rotate_left
        · simp only [Act.put, List.setIfInBounds_toArray, List.set_cons_zero, List.set_cons_succ, i64_w, i32_w, hmw, w4, w34, v0, v1, v2, v3, v4, v5, r34]
          rfl
        refine pure_ (i := 8) (N := (some 55)) (v := ?_) (a' := ?_) (L.B 39 511) rfl rfl (by kernel_rfl) (fun _ _ _ h => h) (Or.inl ⟨by rfl, ?_⟩) ?_ ?_
        rotate_left
        · intro w'
          go_simp
          with_reducible rfl
        rotate_left
        · simp only [Act.put, List.setIfInBounds_toArray, List.set_cons_zero, List.set_cons_succ, i64_w, i32_w, hmw, w4, w34, v0, v1, v2, v3, v4, v5, r34]
          rfl
        refine pure_ (i := 9) (N := (some 56)) (v := ?_) (a' := ?_) (L.B 39 1023) rfl rfl (by kernel_rfl) (fun _ _ _ h => h) (Or.inl ⟨by rfl, ?_⟩) ?_ ?_
        rotate_left
        · intro w'
          go_simp
          with_reducible rfl
        rotate_left
        · simp only [Act.put, List.setIfInBounds_toArray, List.set_cons_zero, List.set_cons_succ, i64_w, i32_w, hmw, w4, w34, v0, v1, v2, v3, v4, v5, r34]
          rfl
        refine pure_ (i := 10) (N := (some 57)) (v := ?_) (a' := ?_) (L.B 39 2047) rfl rfl (by kernel_rfl) (fun _ _ _ h => h) (Or.inl ⟨by rfl, ?_⟩) ?_ ?_
        rotate_left
        · intro w'
          go_simp
          with_reducible rfl
        rotate_left
        · simp only [Act.put, List.setIfInBounds_toArray, List.set_cons_zero, List.set_cons_succ, i64_w, i32_w, hmw, w4, w34, v0, v1, v2, v3, v4, v5, r34]
          rfl
        refine pure_ (i := 11) (N := (some 58)) (v := ?_) (a' := ?_) (L.B 39 4095) rfl rfl (by kernel_rfl) (fun _ _ _ h => h) (Or.inl ⟨by rfl, ?_⟩) ?_ ?_
        rotate_left
        · intro w'
          go_simp
          with_reducible rfl
        rotate_left
        · simp only [Act.put, List.setIfInBounds_toArray, List.set_cons_zero, List.set_cons_succ, i64_w, i32_w, hmw, w4, w34, v0, v1, v2, v3, v4, v5, r34]
          rfl
        refine pure_ (i := 12) (N := (some 59)) (v := ?_) (a' := ?_) (L.B 39 8191) rfl rfl (by kernel_rfl) (fun _ _ _ h => h) (Or.inl ⟨by rfl, ?_⟩) ?_ ?_
        rotate_left
        · intro w'
          go_simp
          with_reducible rfl
        rotate_left
        · simp only [Act.put, List.setIfInBounds_toArray, List.set_cons_zero, List.set_cons_succ, i64_w, i32_w, hmw, w4, w34, v0, v1, v2, v3, v4, v5, r34]
          rfl
        refine pure_ (i := 13) (N := (some 60)) (v := ?_) (a' := ?_) (L.B 39 16383) rfl rfl (by kernel_rfl) (fun _ _ _ h => h) (Or.inl ⟨by rfl, ?_⟩) ?_ ?_
        rotate_left
        · intro w'
          go_simp
          with_reducible rfl
        rotate_left
        · simp only [Act.put, List.setIfInBounds_toArray, List.set_cons_zero, List.set_cons_succ, i64_w, i32_w, hmw, w4, w34, v0, v1, v2, v3, v4, v5, r34]
          rfl
        refine pure_ (i := 14) (N := (some 61)) (v := ?_) (a' := ?_) (L.B 39 32767) rfl rfl (by kernel_rfl) (fun _ _ _ h => h) (Or.inl ⟨by rfl, ?_⟩) ?_ ?_
        rotate_left
        · intro w'
          go_simp
          with_reducible rfl
        rotate_left
        · simp only [Act.put, List.setIfInBounds_toArray, List.set_cons_zero, List.set_cons_succ, i64_w, i32_w, hmw, w4, w34, v0, v1, v2, v3, v4, v5, r34]
          rfl
        refine pure_ (i := 15) (N := (some 62)) (v := ?_) (a' := ?_) (L.B 39 65535) rfl rfl (by kernel_rfl) (fun _ _ _ h => h) (Or.inl ⟨by rfl, ?_⟩) ?_ ?_
        rotate_left
        · intro w'
          go_simp
          with_reducible rfl
        rotate_left
        · simp only [Act.put, List.setIfInBounds_toArray, List.set_cons_zero, List.set_cons_succ, i64_w, i32_w, hmw, w4, w34, v0, v1, v2, v3, v4, v5, r34]
          rfl
        refine pure_ (i := 16) (N := (some 63)) (v := ?_) (a' := ?_) (L.B 39 131071) rfl rfl (by kernel_rfl) (fun _ _ _ h => h) (Or.inl ⟨by rfl, ?_⟩) ?_ ?_
        rotate_left
        · intro w'
          go_simp
          with_reducible rfl
        rotate_left
        · simp only [Act.put, List.setIfInBounds_toArray, List.set_cons_zero, List.set_cons_succ, i64_w, i32_w, hmw, w4, w34, v0, v1, v2, v3, v4, v5, r34]
          rfl
        refine pure_ (i := 17) (N := (some 64)) (v := ?_) (a' := ?_) (L.B 39 262143) rfl rfl (by kernel_rfl) (fun _ _ _ h => h) (Or.inl ⟨by rfl, ?_⟩) ?_ ?_
        rotate_left
        · intro w'
          go_simp
          with_reducible rfl
        rotate_left
        · simp only [Act.put, List.setIfInBounds_toArray, List.set_cons_zero, List.set_cons_succ, i64_w, i32_w, hmw, w4, w34, v0, v1, v2, v3, v4, v5, r34]
          rfl
        refine pure_ (i := 18) (N := (some 65)) (v := ?_) (a' := ?_) (L.B 39 524287) rfl rfl (by kernel_rfl) (fun _ _ _ h => h) (Or.inl ⟨by rfl, ?_⟩) ?_ ?_
        rotate_left
        · intro w'
          go_simp
          with_reducible rfl
        rotate_left
        · simp only [Act.put, List.setIfInBounds_toArray, List.set_cons_zero, List.set_cons_succ, i64_w, i32_w, hmw, w4, w34, v0, v1, v2, v3, v4, v5, r34]
          rfl
        refine pure_ (i := 19) (N := (some 66)) (v := ?_) (a' := ?_) (L.B 39 1048575) rfl rfl (by kernel_rfl) (fun _ _ _ h => h) (Or.inl ⟨by rfl, ?_⟩) ?_ ?_
        rotate_left
        · intro w'
          go_simp
          with_reducible rfl
        rotate_left
        · simp only [Act.put, List.setIfInBounds_toArray, List.set_cons_zero, List.set_cons_succ, i64_w, i32_w, hmw, w4, w34, v0, v1, v2, v3, v4, v5, r34]
          rfl
        refine pure_ (i := 20) (N := (some 67)) (v := ?_) (a' := ?_) (L.B 39 2097151) rfl rfl (by kernel_rfl) (fun _ _ _ h => h) (Or.inl ⟨by rfl, ?_⟩) ?_ ?_
        rotate_left
        · intro w'
          go_simp
          with_reducible rfl
        rotate_left
        · simp only [Act.put, List.setIfInBounds_toArray, List.set_cons_zero, List.set_cons_succ, i64_w, i32_w, hmw, w4, w34, v0, v1, v2, v3, v4, v5, r34]
          rfl
        refine pure_ (i := 21) (N := (some 68)) (v := ?_) (a' := ?_) (L.B 39 4194303) rfl rfl (by kernel_rfl) (fun _ _ _ h => h) (Or.inl ⟨by rfl, ?_⟩) ?_ ?_
        rotate_left
        · intro w'
          go_simp
          with_reducible rfl
        rotate_left
        · simp only [Act.put, List.setIfInBounds_toArray, List.set_cons_zero, List.set_cons_succ, i64_w, i32_w, hmw, w4, w34, v0, v1, v2, v3, v4, v5, r34]
          rfl
        refine pure_ (i := 22) (N := (some 69)) (v := ?_) (a' := ?_) (L.B 39 8388607) rfl rfl (by kernel_rfl) (fun _ _ _ h => h) (Or.inl ⟨by rfl, ?_⟩) ?_ ?_
        rotate_left
        · intro w'
          go_simp
          with_reducible rfl
        rotate_left
        · simp only [Act.put, List.setIfInBounds_toArray, List.set_cons_zero, List.set_cons_succ, i64_w, i32_w, hmw, w4, w34, v0, v1, v2, v3, v4, v5, r34]
          rfl
        refine pure_ (i := 23) (N := (some 70)) (v := ?_) (a' := ?_) (L.B 39 16777215) rfl rfl (by kernel_rfl) (fun _ _ _ h => h) (Or.inl ⟨by rfl, ?_⟩) ?_ ?_
        rotate_left
        · intro w'
          go_simp
          with_reducible rfl
        rotate_left
        · simp only [Act.put, List.setIfInBounds_toArray, List.set_cons_zero, List.set_cons_succ, i64_w, i32_w, hmw, w4, w34, v0, v1, v2, v3, v4, v5, r34]
          rfl
        refine pure_ (i := 24) (N := (some 71)) (v := ?_) (a' := ?_) (L.B 39 33554431) rfl rfl (by kernel_rfl) (fun _ _ _ h => h) (Or.inl ⟨by rfl, ?_⟩) ?_ ?_
        rotate_left
        · intro w'
          go_simp
          with_reducible rfl
        rotate_left
        · simp only [Act.put, List.setIfInBounds_toArray, List.set_cons_zero, List.set_cons_succ, i64_w, i32_w, hmw, w4, w34, v0, v1, v2, v3, v4, v5, r34]
          rfl
        refine pure_ (i := 25) (N := (some 72)) (v := ?_) (a' := ?_) (L.B 39 67108863) rfl rfl (by kernel_rfl) (fun _ _ _ h => h) (Or.inl ⟨by rfl, ?_⟩) ?_ ?_
        rotate_left
        · intro w'
          go_simp
          with_reducible rfl
        rotate_left
        · simp only [Act.put, List.setIfInBounds_toArray, List.set_cons_zero, List.set_cons_succ, i64_w, i32_w, hmw, w4, w34, v0, v1, v2, v3, v4, v5, r34]
          rfl
        refine pure_ (i := 26) (N := (some 73)) (v := ?_) (a' := ?_) (L.B 39 134217727) rfl rfl (by kernel_rfl) (fun _ _ _ h => h) (Or.inl ⟨by rfl, ?_⟩) ?_ ?_
        rotate_left
        · intro w'
          go_simp
          with_reducible rfl
        rotate_left
        · simp only [Act.put, List.setIfInBounds_toArray, List.set_cons_zero, List.set_cons_succ, i64_w, i32_w, hmw, w4, w34, v0, v1, v2, v3, v4, v5, r34]
          rfl
        refine pure_ (i := 27) (N := (some 74)) (v := ?_) (a' := ?_) (L.B 39 268435455) rfl rfl (by kernel_rfl) (fun _ _ _ h => h) (Or.inl ⟨by rfl, ?_⟩) ?_ ?_
        rotate_left
        · intro w'
          go_simp
          with_reducible rfl
        rotate_left
        · simp only [Act.put, List.setIfInBounds_toArray, List.set_cons_zero, List.set_cons_succ, i64_w, i32_w, hmw, w4, w34, v0, v1, v2, v3, v4, v5, r34]
          rfl
        refine pure_ (i := 28) (N := (some 75)) (v := ?_) (a' := ?_) (L.B 39 536870911) rfl rfl (by kernel_rfl) (fun _ _ _ h => h) (Or.inl ⟨by rfl, ?_⟩) ?_ ?_
        rotate_left
        · intro w'
          go_simp
          with_reducible rfl
        rotate_left
        · simp only [Act.put, List.setIfInBounds_toArray, List.set_cons_zero, List.set_cons_succ, i64_w, i32_w, hmw, w4, w34, v0, v1, v2, v3, v4, v5, r34]
          rfl
        refine pure_ (i := 29) (N := (some 76)) (v := ?_) (a' := ?_) (L.B 39 1073741823) rfl rfl (by kernel_rfl) (fun _ _ _ h => h) (Or.inl ⟨by rfl, ?_⟩) ?_ ?_
        rotate_left
        · intro w'
          go_simp
          with_reducible rfl
        rotate_left
        · simp only [Act.put, List.setIfInBounds_toArray, List.set_cons_zero, List.set_cons_succ, i64_w, i32_w, hmw, w4, w34, v0, v1, v2, v3, v4, v5, r34]
          rfl
        refine pure_ (i := 30) (N := (some 77)) (v := ?_) (a' := ?_) (L.B 39 2147483647) rfl rfl (by kernel_rfl) (fun _ _ _ h => h) (Or.inl ⟨by rfl, ?_⟩) ?_ ?_
        rotate_left
        · intro w'
          go_simp
          with_reducible rfl
        rotate_left
        · simp only [Act.put, List.setIfInBounds_toArray, List.set_cons_zero, List.set_cons_succ, i64_w, i32_w, hmw, w4, w34, v0, v1, v2, v3, v4, v5, r34]
          rfl
        refine pure_ (i := 31) (N := (some 78)) (v := ?_) (a' := ?_) (L.B 39 4294967295) rfl rfl (by kernel_rfl) (fun _ _ _ h => h) (Or.inl ⟨by rfl, ?_⟩) ?_ ?_
        rotate_left
        · intro w'
          go_simp
          with_reducible rfl
        rotate_left
        · simp only [Act.put, List.setIfInBounds_toArray, List.set_cons_zero, List.set_cons_succ, i64_w, i32_w, hmw, w4, w34, v0, v1, v2, v3, v4, v5, r34]
          rfl
        refine pure_ (i := 32) (N := (some 79)) (v := ?_) (a' := ?_) (L.B 39 8589934591) rfl rfl (by kernel_rfl) (fun _ _ _ h => h) (Or.inl ⟨by rfl, ?_⟩) ?_ ?_
        rotate_left
        · intro w'
          go_simp
          with_reducible rfl
        rotate_left
        · simp only [Act.put, List.setIfInBounds_toArray, List.set_cons_zero, List.set_cons_succ, i64_w, i32_w, hmw, w4, w34, v0, v1, v2, v3, v4, v5, r34]
          rfl
        refine pure_ (i := 33) (N := (some 80)) (v := ?_) (a' := ?_) (L.B 39 17179869183) rfl rfl (by kernel_rfl) (fun _ _ _ h => h) (Or.inl ⟨by rfl, ?_⟩) ?_ ?_
        rotate_left
        · intro w'
          go_simp
          with_reducible rfl
        rotate_left
        · simp only [Act.put, List.setIfInBounds_toArray, List.set_cons_zero, List.set_cons_succ, i64_w, i32_w, hmw, w4, w34, v0, v1, v2, v3, v4, v5, r34]
          rfl
        refine pure_ (i := 34) (N := (some 81)) (v := ?_) (a' := ?_) (L.B 39 34359738367) rfl rfl (by kernel_rfl) (fun _ _ _ h => h) (Or.inl ⟨by rfl, ?_⟩) ?_ ?_
        rotate_left
        · intro w'
          go_simp
          with_reducible rfl
        rotate_left
        · simp only [Act.put, List.setIfInBounds_toArray, List.set_cons_zero, List.set_cons_succ, i64_w, i32_w, hmw, w4, w34, v0, v1, v2, v3, v4, v5, r34]
          rfl
        refine pure_ (i := 35) (N := (some 82)) (v := ?_) (a' := ?_) (L.B 39 68719476735) rfl rfl (by kernel_rfl) (fun _ _ _ h => h) (Or.inl ⟨by rfl, ?_⟩) ?_ ?_
        rotate_left
        · intro w'
          go_simp
          with_reducible rfl
        rotate_left
        · simp only [Act.put, List.setIfInBounds_toArray, List.set_cons_zero, List.set_cons_succ, i64_w, i32_w, hmw, w4, w34, v0, v1, v2, v3, v4, v5, r34]
          rfl
        refine pure_ (i := 36) (N := (some 83)) (v := ?_) (a' := ?_) (L.B 39 137438953471) rfl rfl (by kernel_rfl) (fun _ _ _ h => h) (Or.inl ⟨by rfl, ?_⟩) ?_ ?_
        rotate_left
        · intro w'
          go_simp
          with_reducible rfl
        rotate_left
        · simp only [Act.put, List.setIfInBounds_toArray, List.set_cons_zero, List.set_cons_succ, i64_w, i32_w, hmw, w4, w34, v0, v1, v2, v3, v4, v5, r34]
          rfl
        refine pure_ (i := 37) (N := (some 84)) (v := ?_) (a' := ?_) (L.B 39 274877906943) rfl rfl (by kernel_rfl) (fun _ _ _ h => h) (Or.inl ⟨by rfl, ?_⟩) ?_ ?_
        rotate_left
        · intro w'
          go_simp
          with_reducible rfl
        rotate_left
        · simp only [Act.put, List.setIfInBounds_toArray, List.set_cons_zero, List.set_cons_succ, i64_w, i32_w, hmw, w4, w34, v0, v1, v2, v3, v4, v5, r34]
          rfl
        refine pure_ (i := 38) (N := (some 85)) (v := ?_) (a' := ?_) (L.B 39 549755813887) rfl rfl (by kernel_rfl) (fun _ _ _ h => h) (Or.inl ⟨by rfl, ?_⟩) ?_ ?_
        rotate_left
        · intro w'
          go_simp
          with_reducible rfl
        rotate_left
        · simp only [Act.put, List.setIfInBounds_toArray, List.set_cons_zero, List.set_cons_succ, i64_w, i32_w, hmw, w4, w34, v0, v1, v2, v3, v4, v5, r34]
          rfl
        refine done_ (by kernel_rfl) ?_
        clear hmw w34 w4
        go_wp2_with (fail)
        go_ret
        exact ⟨rfl, L.below_drew (L.below_drew hB)⟩
end Go.Proofs.YtiokfaiioealdaaGreatDoor
