/- StreamTexts, walked. -/
import Derived.Test.YtokegkpbbhegpaaWForms
import Derived.Test.YtokegkpbbhegpaaPTexts
namespace Go.Proofs.Ytokegkpbbhegpaa.PS
open Go.RowKit Go.Proofs.YtokegkpbbhegpaaW.PrintWords Go.Proofs.YtokegkpbbhegpaaW.PrintLast Go.Proofs.YtokegkpbbhegpaaW.PrintMore Go.Proofs.Ytokegkpbbhegpaa.L
set_option linter.unusedVariables false
set_option linter.unusedSimpArgs false

theorem get_tuple (s : ByteArray) : ∃ r1 r2 r3 r4 r5 r6 r7, stream_Get.f s = some (r1, r2, r3, r4, r5, r6, r7, (getT s).2.2.2.2.2.2.2) := ⟨_, _, _, _, _, _, _, rfl⟩
theorem crc_empty (w : World) : Calls Try.prog 18 #[.string ⟨#[]⟩] w fun e w' => e = .returned (.int .i64 0) ∧ w = w' := rcrc ⟨#[]⟩ w (by decide)
set_option maxHeartbeats 4000000 in
set_option maxRecDepth 100000 in
theorem texts_at (which at_ by_ K X M E : Int) (kN xN : Nat) (w : World) (hK : Int.tmod (IntKind.u64.wrap at_) 10 = K) (hX : Int.tmod (IntKind.u64.wrap by_) 4294967295 = X) (hM : Int.tmod (IntKind.u64.wrap which) 42 = M) (hE : bits .and .i64 which 31 = E)
    (hkN : 10 + K = (kN : Int)) (hxN : 1 + X = (xN : Int)) (k0 : 10 ≤ kN) (k1 : kN ≤ 19) (x0 : 1 ≤ xN) (x1 : xN < 4294967296) (m0 : 0 ≤ M) (m1 : M < 42) (e0 : 0 ≤ E) (e1 : E ≤ 31) :
    Calls Try.prog 5 #[.int .i64 which, .int .i64 at_, .int .i64 by_] w fun e w' => e = .returned (.bool true) ∧ Below w.heap.size w w' := by
  obtain ⟨a0, a1, a2, a3, a4, a5, a6, hgA⟩ := get_tuple (ofNats (xr (nats A42) kN [xN % 256, xN / 256 % 256, xN / 65536 % 256, xN / 16777216 % 256]))
  obtain ⟨b0, b1, b2, b3, b4, b5, b6, hgB⟩ := get_tuple (A42.extract 0 M.toNat)
  obtain ⟨c0, c1, c2, c3, c4, c5, c6, hgC⟩ := get_tuple (A42 ++ A42.extract 0 (1 + E).toNat)
  obtain ⟨d0, d1, d2, d3, d4, d5, d6, hgD⟩ := get_tuple (⟨#[68, 83, 67, 85]⟩ ++ A42.extract 4 42)
  have hA0 := turned k0 k1 (a := xN % 256) (b := xN / 256 % 256) (c := xN / 65536 % 256) (d := xN / 16777216 % 256) (by omega) (by omega) (by omega) (by omega) (by rw [word4_of x1]; omega)
  have hA1 := get_err (ofNats (xr (nats A42) kN [xN % 256, xN / 256 % 256, xN / 65536 % 256, xN / 16777216 % 256]))
  generalize (getT (ofNats (xr (nats A42) kN [xN % 256, xN / 256 % 256, xN / 65536 % 256, xN / 16777216 % 256]))).2.2.2.2.2.2.2 = rA at *
  have hB0 := cut_err (m := M.toNat) (by omega)
  generalize (getT (A42.extract 0 M.toNat)).2.2.2.2.2.2.2 = rB at *
  rw [more_err (n := (1 + E).toNat) (by omega) (by omega)] at hgC
  rw [other_head] at hgD
  have hgiv := Lib.hid given_is
  have hput : stream_Put.f 1 8 4 7 headS tailS [segS0, segS1] = some (A42, 0) := by
    unfold stream_Put.f; rw [if_pos (by decide), if_pos may_given, if_pos may_given, put_given]
  have hsz : A42.size = 42 := by kernel_rfl
  have hlt := Lib.hid (nats_lt A42)
  have hln := Lib.hid (show (nats A42).length = 42 by decide +kernel)
  replace hput := Lib.hid hput
  replace hgA := Lib.hid hgA
  replace hgB := Lib.hid hgB
  replace hgC := Lib.hid hgC
  replace hgD := Lib.hid hgD
  generalize A42 = S at *
  generalize headS = HS at *
  generalize tailS = TS at *
  generalize [segS0, segS1] = L2 at *
  obtain ⟨ES, hES⟩ : ∃ ES, [xN % 256, xN / 256 % 256, xN / 65536 % 256, xN / 16777216 % 256] = ES := ⟨_, rfl⟩
  rw [hES] at hgA
  go_enter Try.func5, Try.ntmps5
  go_wp2_with (first
    | (go_at_call 16; refine (descantlaw23_awake.calls _ _ rfl).mono ?_; rintro e w0 ⟨rfl, hb0⟩)
    | (go_at_call 17; refine (descantlaw23_given.calls _ _ _ _ _ _ _ _ hgiv.out).mono ?_; rintro e w1 ⟨v6, rfl, hV1, hb1⟩; obtain ⟨A1, cc, e1⟩ := Kd.R_slice hV1; subst e1; have hB1 := below_next hb0 hb1; clear hb0 hb1)
    | (go_at_call 9; refine (stream_Put.calls _ _ _ _ _ _ A1 cc L2 _ _ _ (Kd.R_reads' hV1).2.2 (Kd.R_reads' hV1).2.1 hput.out).mono ?_; rintro e w2 ⟨rfl, hb2⟩; have hB2 := below_next hB1 hb2; clear hV1 hB1 hb2)
    | (go_at_call 13; have hguard := hB2; clear hguard; refine (descantlaw0_Num.calls _ _ _ rfl).mono ?_; rintro e w3 ⟨rfl, hd⟩; have hB3 := below_next hB2 hd.below; clear hd hB2)
    | ((with_reducible refine gate_dst (N := 37) rfl ?_); refine bytes_event rfl (N := 37) rfl 9 44 5 _ rfl S rfl Try.underlying9 Try.underlying44 Try.underlying5 ?_; intro g4 cap w4 hg4 hM4 hb4; have hB4 := below_next hB3 hb4; have hB3' := hg4 ▸ hB3.size; clear hg4 hb4 hB3))
  have hwl : w.heap.size ≤ g4 := hB3'
  go_loopg [12] 4 (fun kq v12 W => ∃ i : Nat, v12 = .int .i64 (i : Int) ∧ i + kq = 4 ∧ M8 W g4 (xr (nats S) kN (ES.take i)) ∧ Below w.heap.size w W)
  case atStart => exact ⟨0, by simp, by omega, hM4, hB4⟩
  case round =>
    clear hM4 hB4
    obtain ⟨i, rfl, hi, hMi, hBi⟩ := hrel
    have hi4 : i = 0 ∨ i = 1 ∨ i = 2 ∨ i = 3 ∨ i = 4 := by omega
    rcases hi4 with rfl | rfl | rfl | rfl | rfl
    · obtain ⟨x, hxe⟩ : ∃ x, (xr (nats S) kN (ES.take 0)).getD (kN + 0) 0 = x := ⟨_, rfl⟩
      have hl : (xr (nats S) kN (ES.take 0)).length = 42 := by rw [xr_length, hln.out]
      have hj : kN + 0 < (xr (nats S) kN (ES.take 0)).length := by omega
      have hxe' : (xr (nats S) kN (ES.take 0))[kN + 0]? = some x := by
        rw [List.getElem?_eq_getElem hj, ← hxe, List.getD_eq_getElem?_getD, List.getElem?_eq_getElem hj]; rfl
      have hx256 : x < 256 := xr_lt _ _ _ hlt.out (by intro e he; have he := List.mem_of_mem_take he; rw [← hES] at he; simp only [List.mem_cons, List.not_mem_nil, or_false] at he; rcases he with rfl | rfl | rfl | rfl <;> omega) x (List.mem_of_getElem? hxe')
      obtain ⟨y, hye⟩ : ∃ y, xN % 256 = y := ⟨_, rfl⟩
      have hy256 : y < 256 := by omega
      have hstep : xr (nats S) kN (ES.take (0 + 1)) = (xr (nats S) kN (ES.take 0)).set (kN + 0) (x ^^^ y) := by
        have e1 : ES.take (0 + 1) = ES.take 0 ++ [y] := by rw [← hES, ← hye]; rfl
        have e2 : (ES.take 0).length = 0 := by rw [← hES]; rfl
        rw [e1, xr_snoc, e2, hxe]
      obtain ⟨j, hjd⟩ : ∃ j, kN + 0 = j := ⟨_, rfl⟩
      have hjI : (kN : Int) = (j : Int) := by omega
      have hjI' : 10 + K = (j : Int) := by omega
      rw [hjd] at hxe' hj hstep
      have hxor : bits .xor .u8 (x : Int) (y : Int) = ((x ^^^ y : Nat) : Int) := xor8 x y hx256 hy256
      have hcell := hMi.cell hxe'
      have hfree := hMi.free hj
      have hset := hMi.set j (x ^^^ y)
      rw [← hstep] at hset
      have p0 : ((0 : Int) ≤ (j : Int)) = True := eq_true (by omega)
      have p1 : ((j : Int) < 42) = True := eq_true (by omega)
      have hBs := hBi.setCell (p := ⟨g4, j, none⟩) hwl (.int .u8 ((x ^^^ y : Nat) : Int))
      replace hxe := Lib.hid hxe
      replace hxe' := Lib.hid hxe'
      replace hl := Lib.hid hl
      replace hstep := Lib.hid hstep
      replace hye := Lib.hid hye
      replace hjd := Lib.hid hjd
      go_wp2
      have hMd := M8.drew hMi
      have hBd := L.below_drew hBi
      have hcd := hcell
      clear hMi hBi hcell hfree hset hBs
      have wj : wrap64 (j : Int) = (j : Int) := IntWalk.wrap64_in _ (by omega)
      have w8 : wrap64 0 = 0 := IntWalk.wrap64_in _ (by omega)
      have hyI : IntKind.u8.wrap (xN : Int) = (y : Int) := by rw [IntKind.wrap_u8]; have := hye.out; omega
      refine start_ (n := 18) (S := fun w' => w'.cell? ⟨g4, j, none⟩ = some (.int .u8 (x : Int))) (ds := [17]) #[false, false, false, false, false, false, false, false, false, false, false, false, false, false, false, false, false, false] (by kernel_rfl) rfl rfl hcd (fun hHeld => ?_)
      generalize wr.drew = w5 at hMd hBd hHeld ⊢
      refine pure_ (i := 0) (N := (some 52)) (v := ?_) (a' := ?_) #[true, false, false, false, false, false, false, false, false, false, false, false, false, false, false, false, false, false] rfl rfl (by kernel_rfl) (fun _ _ _ h => h) (Or.inl ⟨by rfl, ?_⟩) ?_ ?_
      rotate_left
      · intro w'
        go_simp
        with_reducible rfl
      rotate_left
      · simp only [Act.put, List.setIfInBounds_toArray, List.set_cons_zero, List.set_cons_succ, i64_w, i32_w, wj, w8]
        rfl
      refine pure_ (i := 1) (N := (some 53)) (v := ?_) (a' := ?_) #[true, true, false, false, false, false, false, false, false, false, false, false, false, false, false, false, false, false] rfl rfl (by kernel_rfl) (fun _ _ _ h => h) (Or.inl ⟨by rfl, ?_⟩) ?_ ?_
      rotate_left
      · intro w'
        go_simp
        with_reducible rfl
      rotate_left
      · simp only [Act.put, List.setIfInBounds_toArray, List.set_cons_zero, List.set_cons_succ, i64_w, i32_w, wj, w8]
        rfl
      refine pure_ (i := 2) (N := (some 54)) (v := ?_) (a' := ?_) #[true, true, true, false, false, false, false, false, false, false, false, false, false, false, false, false, false, false] rfl rfl (by kernel_rfl) (fun _ _ _ h => h) (Or.inl ⟨by rfl, ?_⟩) ?_ ?_
      rotate_left
      · intro w'
        go_simp
        with_reducible rfl
      rotate_left
      · simp only [Act.put, List.setIfInBounds_toArray, List.set_cons_zero, List.set_cons_succ, i64_w, i32_w, wj, w8]
        rfl
      refine pure_ (i := 3) (N := (some 55)) (v := ?_) (a' := ?_) #[true, true, true, true, false, false, false, false, false, false, false, false, false, false, false, false, false, false] rfl rfl (by kernel_rfl) (fun _ _ _ h => h) (Or.inl ⟨by rfl, ?_⟩) ?_ ?_
      rotate_left
      · intro w'
        go_simp
        with_reducible rfl
      rotate_left
      · simp only [Act.put, List.setIfInBounds_toArray, List.set_cons_zero, List.set_cons_succ, i64_w, i32_w, wj, w8]
        rfl
      refine pure_ (i := 4) (N := (some 56)) (v := ?_) (a' := ?_) #[true, true, true, true, true, false, false, false, false, false, false, false, false, false, false, false, false, false] rfl rfl (by kernel_rfl) (fun _ _ _ h => h) (Or.inl ⟨by rfl, ?_⟩) ?_ ?_
      rotate_left
      · intro w'
        go_simp
        with_reducible rfl
      rotate_left
      · simp only [Act.put, List.setIfInBounds_toArray, List.set_cons_zero, List.set_cons_succ, i64_w, i32_w, wj, w8]
        rfl
      refine pure_ (i := 5) (N := (some 57)) (v := ?_) (a' := ?_) #[true, true, true, true, true, true, false, false, false, false, false, false, false, false, false, false, false, false] rfl rfl (by kernel_rfl) (fun _ _ _ h => h) (Or.inl ⟨by rfl, ?_⟩) ?_ ?_
      rotate_left
      · intro w'
        go_simp
        with_reducible rfl
      rotate_left
      · simp only [Act.put, List.setIfInBounds_toArray, List.set_cons_zero, List.set_cons_succ, i64_w, i32_w, wj, w8]
        rfl
      refine pure_ (i := 6) (N := (some 58)) (v := ?_) (a' := ?_) #[true, true, true, true, true, true, true, false, false, false, false, false, false, false, false, false, false, false] rfl rfl (by kernel_rfl) (fun _ _ _ h => h) (Or.inl ⟨by rfl, ?_⟩) ?_ ?_
      rotate_left
      · intro w'
        go_simp
        with_reducible rfl
      rotate_left
      · simp only [Act.put, List.setIfInBounds_toArray, List.set_cons_zero, List.set_cons_succ, i64_w, i32_w, wj, w8]
        rfl
      refine pure_ (i := 7) (N := (some 59)) (v := ?_) (a' := ?_) #[true, true, true, true, true, true, true, true, false, false, false, false, false, false, false, false, false, false] rfl rfl (by kernel_rfl) (fun _ _ _ h => h) (Or.inl ⟨by rfl, ?_⟩) ?_ ?_
      rotate_left
      · intro w'
        go_simp
        with_reducible rfl
      rotate_left
      · simp only [Act.put, List.setIfInBounds_toArray, List.set_cons_zero, List.set_cons_succ, i64_w, i32_w, wj, w8]
        rfl
      refine pure_ (i := 8) (N := (some 60)) (v := ?_) (a' := ?_) #[true, true, true, true, true, true, true, true, true, false, false, false, false, false, false, false, false, false] rfl rfl (by kernel_rfl) (fun _ _ _ h => h) (Or.inl ⟨by rfl, ?_⟩) ?_ ?_
      rotate_left
      · intro w'
        go_simp
        with_reducible rfl
      rotate_left
      · simp only [Act.put, List.setIfInBounds_toArray, List.set_cons_zero, List.set_cons_succ, i64_w, i32_w, wj, w8]
        rfl
      refine pure_ (i := 10) (N := (some 62)) (v := ?_) (a' := ?_) #[true, true, true, true, true, true, true, true, true, false, true, false, false, false, false, false, false, false] rfl rfl (by kernel_rfl) (fun _ _ _ h => h) (Or.inl ⟨by rfl, ?_⟩) ?_ ?_
      rotate_left
      · intro w'
        go_simp
        with_reducible rfl
      rotate_left
      · simp only [Act.put, List.setIfInBounds_toArray, List.set_cons_zero, List.set_cons_succ, i64_w, i32_w, wj, w8]
        rfl
      refine pure_ (i := 11) (N := (some 63)) (v := ?_) (a' := ?_) #[true, true, true, true, true, true, true, true, true, false, true, true, false, false, false, false, false, false] rfl rfl (by kernel_rfl) (fun _ _ _ h => h) (Or.inl ⟨by rfl, ?_⟩) ?_ ?_
      rotate_left
      · intro w'
        go_simp
        with_reducible rfl
      rotate_left
      · simp only [Act.put, List.setIfInBounds_toArray, List.set_cons_zero, List.set_cons_succ, i64_w, i32_w, wj, w8]
        rfl
      refine pure_ (i := 12) (N := (some 64)) (v := ?_) (a' := ?_) #[true, true, true, true, true, true, true, true, true, false, true, true, true, false, false, false, false, false] rfl rfl (by kernel_rfl) (fun _ _ _ h => h) (Or.inl ⟨by rfl, ?_⟩) ?_ ?_
      rotate_left
      · intro w'
        go_simp
        with_reducible rfl
      rotate_left
      · simp only [Act.put, List.setIfInBounds_toArray, List.set_cons_zero, List.set_cons_succ, i64_w, i32_w, wj, w8]
        rfl
      refine pure_ (i := 13) (N := (some 65)) (v := ?_) (a' := ?_) #[true, true, true, true, true, true, true, true, true, false, true, true, true, true, false, false, false, false] rfl rfl (by kernel_rfl) (fun _ _ _ h => h) (Or.inl ⟨by rfl, ?_⟩) ?_ ?_
      rotate_left
      · intro w'
        go_simp
        with_reducible rfl
      rotate_left
      · simp only [Act.put, List.setIfInBounds_toArray, List.set_cons_zero, List.set_cons_succ, i64_w, i32_w, wj, w8]
        rfl
      refine pure_ (i := 14) (N := (some 66)) (v := ?_) (a' := ?_) #[true, true, true, true, true, true, true, true, true, false, true, true, true, true, true, false, false, false] rfl rfl (by kernel_rfl) (fun _ _ _ h => h) (Or.inl ⟨by rfl, ?_⟩) ?_ ?_
      rotate_left
      · intro w'
        go_simp
        with_reducible rfl
      rotate_left
      · simp only [Act.put, List.setIfInBounds_toArray, List.set_cons_zero, List.set_cons_succ, i64_w, i32_w, wj, w8]
        rfl
      refine take_ (i := 9) (N := (some 61)) (v := ?_) (a' := ?_) #[true, true, true, true, true, true, true, true, true, true, true, true, true, true, true, false, false, false] rfl rfl (by kernel_rfl) (fun _ _ _ h => h) (Or.inl ⟨by rfl, ?_⟩) hHeld ?_ ?_
      rotate_left
      · rintro w' s0
        go_simp
        with_reducible rfl
      rotate_left
      · simp only [Act.put, List.setIfInBounds_toArray, List.set_cons_zero, List.set_cons_succ, i64_w, i32_w, wj, w8]
        rfl
      refine pure_ (i := 15) (N := (some 67)) (v := ?_) (a' := ?_) #[true, true, true, true, true, true, true, true, true, true, true, true, true, true, true, true, false, false] rfl rfl (by kernel_rfl) (fun _ _ _ h => h) (Or.inl ⟨by rfl, ?_⟩) ?_ ?_
      rotate_left
      · intro w'
        go_simp
        with_reducible rfl
      rotate_left
      · simp only [Act.put, List.setIfInBounds_toArray, List.set_cons_zero, List.set_cons_succ, i64_w, i32_w, wj, w8]
        rfl
      refine pure_ (i := 16) (N := (some 68)) (v := ?_) (a' := ?_) #[true, true, true, true, true, true, true, true, true, true, true, true, true, true, true, true, true, false] rfl rfl (by kernel_rfl) (fun _ _ _ h => h) (Or.inl ⟨by rfl, ?_⟩) ?_ ?_
      rotate_left
      · intro w'
        go_simp
        with_reducible rfl
      rotate_left
      · simp only [Act.put, List.setIfInBounds_toArray, List.set_cons_zero, List.set_cons_succ, i64_w, i32_w, wj, w8]
        rfl
      refine last_ (i := 17) (N := none) #[true, true, true, true, true, true, true, true, true, true, true, true, true, true, true, true, true, true] rfl rfl (by kernel_rfl) (by decide) (fun K hK => ?_)
      have hfr := hMd.free hj
      refine skip_ (w1 := w5.setCell ⟨g4, j, none⟩ (.int .u8 ((x ^^^ y : Nat) : Int))) (by rfl) rfl ?_ ?_
      · go_simp
      have hMs := hMd.set j (x ^^^ y)
      rw [← hstep.out] at hMs
      have hBs := hBd.setCell (p := ⟨g4, j, none⟩) hwl (.int .u8 ((x ^^^ y : Nat) : Int))
      clear hMd hBd hfr hcd hHeld
      refine hK.out _ _ ?_
      clear hK K
      refine done_ (by kernel_rfl) ?_
      go_wp2
      obtain ⟨kk, rfl⟩ : ∃ kk, gk = kk + 1 := ⟨gk - 1, by omega⟩
      go_roundg kk
      case measure => omega
      case rel => exact ⟨1, by simp, by omega, hMs, hBs⟩
    · obtain ⟨x, hxe⟩ : ∃ x, (xr (nats S) kN (ES.take 1)).getD (kN + 1) 0 = x := ⟨_, rfl⟩
      have hl : (xr (nats S) kN (ES.take 1)).length = 42 := by rw [xr_length, hln.out]
      have hj : kN + 1 < (xr (nats S) kN (ES.take 1)).length := by omega
      have hxe' : (xr (nats S) kN (ES.take 1))[kN + 1]? = some x := by
        rw [List.getElem?_eq_getElem hj, ← hxe, List.getD_eq_getElem?_getD, List.getElem?_eq_getElem hj]; rfl
      have hx256 : x < 256 := xr_lt _ _ _ hlt.out (by intro e he; have he := List.mem_of_mem_take he; rw [← hES] at he; simp only [List.mem_cons, List.not_mem_nil, or_false] at he; rcases he with rfl | rfl | rfl | rfl <;> omega) x (List.mem_of_getElem? hxe')
      obtain ⟨y, hye⟩ : ∃ y, xN / 256 % 256 = y := ⟨_, rfl⟩
      have hy256 : y < 256 := by omega
      have hstep : xr (nats S) kN (ES.take (1 + 1)) = (xr (nats S) kN (ES.take 1)).set (kN + 1) (x ^^^ y) := by
        have e1 : ES.take (1 + 1) = ES.take 1 ++ [y] := by rw [← hES, ← hye]; rfl
        have e2 : (ES.take 1).length = 1 := by rw [← hES]; rfl
        rw [e1, xr_snoc, e2, hxe]
      obtain ⟨j, hjd⟩ : ∃ j, kN + 1 = j := ⟨_, rfl⟩
      have hjI : 10 + K + 1 = (j : Int) := by omega
      have hjI' : (kN : Int) + 1 = (j : Int) := by omega
      rw [hjd] at hxe' hj hstep
      have hxor : bits .xor .u8 (x : Int) (y : Int) = ((x ^^^ y : Nat) : Int) := xor8 x y hx256 hy256
      have hcell := hMi.cell hxe'
      have hfree := hMi.free hj
      have hset := hMi.set j (x ^^^ y)
      rw [← hstep] at hset
      have p0 : ((0 : Int) ≤ (j : Int)) = True := eq_true (by omega)
      have p1 : ((j : Int) < 42) = True := eq_true (by omega)
      have hBs := hBi.setCell (p := ⟨g4, j, none⟩) hwl (.int .u8 ((x ^^^ y : Nat) : Int))
      replace hxe := Lib.hid hxe
      replace hxe' := Lib.hid hxe'
      replace hl := Lib.hid hl
      replace hstep := Lib.hid hstep
      replace hye := Lib.hid hye
      replace hjd := Lib.hid hjd
      go_wp2
      have hMd := M8.drew hMi
      have hBd := L.below_drew hBi
      have hcd := hcell
      clear hMi hBi hcell hfree hset hBs
      have wj : wrap64 (j : Int) = (j : Int) := IntWalk.wrap64_in _ (by omega)
      have w8 : wrap64 8 = 8 := IntWalk.wrap64_in _ (by omega)
      have hyI : IntKind.u8.wrap ((xN : Int) / 256) = (y : Int) := by rw [IntKind.wrap_u8]; have := hye.out; omega
      refine start_ (n := 18) (S := fun w' => w'.cell? ⟨g4, j, none⟩ = some (.int .u8 (x : Int))) (ds := [17]) #[false, false, false, false, false, false, false, false, false, false, false, false, false, false, false, false, false, false] (by kernel_rfl) rfl rfl hcd (fun hHeld => ?_)
      generalize wr.drew = w5 at hMd hBd hHeld ⊢
      refine pure_ (i := 0) (N := (some 52)) (v := ?_) (a' := ?_) #[true, false, false, false, false, false, false, false, false, false, false, false, false, false, false, false, false, false] rfl rfl (by kernel_rfl) (fun _ _ _ h => h) (Or.inl ⟨by rfl, ?_⟩) ?_ ?_
      rotate_left
      · intro w'
        go_simp
        with_reducible rfl
      rotate_left
      · simp only [Act.put, List.setIfInBounds_toArray, List.set_cons_zero, List.set_cons_succ, i64_w, i32_w, wj, w8]
        rfl
      refine pure_ (i := 1) (N := (some 53)) (v := ?_) (a' := ?_) #[true, true, false, false, false, false, false, false, false, false, false, false, false, false, false, false, false, false] rfl rfl (by kernel_rfl) (fun _ _ _ h => h) (Or.inl ⟨by rfl, ?_⟩) ?_ ?_
      rotate_left
      · intro w'
        go_simp
        with_reducible rfl
      rotate_left
      · simp only [Act.put, List.setIfInBounds_toArray, List.set_cons_zero, List.set_cons_succ, i64_w, i32_w, wj, w8]
        rfl
      refine pure_ (i := 2) (N := (some 54)) (v := ?_) (a' := ?_) #[true, true, true, false, false, false, false, false, false, false, false, false, false, false, false, false, false, false] rfl rfl (by kernel_rfl) (fun _ _ _ h => h) (Or.inl ⟨by rfl, ?_⟩) ?_ ?_
      rotate_left
      · intro w'
        go_simp
        with_reducible rfl
      rotate_left
      · simp only [Act.put, List.setIfInBounds_toArray, List.set_cons_zero, List.set_cons_succ, i64_w, i32_w, wj, w8]
        rfl
      refine pure_ (i := 3) (N := (some 55)) (v := ?_) (a' := ?_) #[true, true, true, true, false, false, false, false, false, false, false, false, false, false, false, false, false, false] rfl rfl (by kernel_rfl) (fun _ _ _ h => h) (Or.inl ⟨by rfl, ?_⟩) ?_ ?_
      rotate_left
      · intro w'
        go_simp
        with_reducible rfl
      rotate_left
      · simp only [Act.put, List.setIfInBounds_toArray, List.set_cons_zero, List.set_cons_succ, i64_w, i32_w, wj, w8]
        rfl
      refine pure_ (i := 4) (N := (some 56)) (v := ?_) (a' := ?_) #[true, true, true, true, true, false, false, false, false, false, false, false, false, false, false, false, false, false] rfl rfl (by kernel_rfl) (fun _ _ _ h => h) (Or.inl ⟨by rfl, ?_⟩) ?_ ?_
      rotate_left
      · intro w'
        go_simp
        with_reducible rfl
      rotate_left
      · simp only [Act.put, List.setIfInBounds_toArray, List.set_cons_zero, List.set_cons_succ, i64_w, i32_w, wj, w8]
        rfl
      refine pure_ (i := 5) (N := (some 57)) (v := ?_) (a' := ?_) #[true, true, true, true, true, true, false, false, false, false, false, false, false, false, false, false, false, false] rfl rfl (by kernel_rfl) (fun _ _ _ h => h) (Or.inl ⟨by rfl, ?_⟩) ?_ ?_
      rotate_left
      · intro w'
        go_simp
        with_reducible rfl
      rotate_left
      · simp only [Act.put, List.setIfInBounds_toArray, List.set_cons_zero, List.set_cons_succ, i64_w, i32_w, wj, w8]
        rfl
      refine pure_ (i := 6) (N := (some 58)) (v := ?_) (a' := ?_) #[true, true, true, true, true, true, true, false, false, false, false, false, false, false, false, false, false, false] rfl rfl (by kernel_rfl) (fun _ _ _ h => h) (Or.inl ⟨by rfl, ?_⟩) ?_ ?_
      rotate_left
      · intro w'
        go_simp
        with_reducible rfl
      rotate_left
      · simp only [Act.put, List.setIfInBounds_toArray, List.set_cons_zero, List.set_cons_succ, i64_w, i32_w, wj, w8]
        rfl
      refine pure_ (i := 7) (N := (some 59)) (v := ?_) (a' := ?_) #[true, true, true, true, true, true, true, true, false, false, false, false, false, false, false, false, false, false] rfl rfl (by kernel_rfl) (fun _ _ _ h => h) (Or.inl ⟨by rfl, ?_⟩) ?_ ?_
      rotate_left
      · intro w'
        go_simp
        with_reducible rfl
      rotate_left
      · simp only [Act.put, List.setIfInBounds_toArray, List.set_cons_zero, List.set_cons_succ, i64_w, i32_w, wj, w8]
        rfl
      refine pure_ (i := 8) (N := (some 60)) (v := ?_) (a' := ?_) #[true, true, true, true, true, true, true, true, true, false, false, false, false, false, false, false, false, false] rfl rfl (by kernel_rfl) (fun _ _ _ h => h) (Or.inl ⟨by rfl, ?_⟩) ?_ ?_
      rotate_left
      · intro w'
        go_simp
        with_reducible rfl
      rotate_left
      · simp only [Act.put, List.setIfInBounds_toArray, List.set_cons_zero, List.set_cons_succ, i64_w, i32_w, wj, w8]
        rfl
      refine pure_ (i := 10) (N := (some 62)) (v := ?_) (a' := ?_) #[true, true, true, true, true, true, true, true, true, false, true, false, false, false, false, false, false, false] rfl rfl (by kernel_rfl) (fun _ _ _ h => h) (Or.inl ⟨by rfl, ?_⟩) ?_ ?_
      rotate_left
      · intro w'
        go_simp
        with_reducible rfl
      rotate_left
      · simp only [Act.put, List.setIfInBounds_toArray, List.set_cons_zero, List.set_cons_succ, i64_w, i32_w, wj, w8]
        rfl
      refine pure_ (i := 11) (N := (some 63)) (v := ?_) (a' := ?_) #[true, true, true, true, true, true, true, true, true, false, true, true, false, false, false, false, false, false] rfl rfl (by kernel_rfl) (fun _ _ _ h => h) (Or.inl ⟨by rfl, ?_⟩) ?_ ?_
      rotate_left
      · intro w'
        go_simp
        with_reducible rfl
      rotate_left
      · simp only [Act.put, List.setIfInBounds_toArray, List.set_cons_zero, List.set_cons_succ, i64_w, i32_w, wj, w8]
        rfl
      refine pure_ (i := 12) (N := (some 64)) (v := ?_) (a' := ?_) #[true, true, true, true, true, true, true, true, true, false, true, true, true, false, false, false, false, false] rfl rfl (by kernel_rfl) (fun _ _ _ h => h) (Or.inl ⟨by rfl, ?_⟩) ?_ ?_
      rotate_left
      · intro w'
        go_simp
        with_reducible rfl
      rotate_left
      · simp only [Act.put, List.setIfInBounds_toArray, List.set_cons_zero, List.set_cons_succ, i64_w, i32_w, wj, w8]
        rfl
      refine pure_ (i := 13) (N := (some 65)) (v := ?_) (a' := ?_) #[true, true, true, true, true, true, true, true, true, false, true, true, true, true, false, false, false, false] rfl rfl (by kernel_rfl) (fun _ _ _ h => h) (Or.inl ⟨by rfl, ?_⟩) ?_ ?_
      rotate_left
      · intro w'
        go_simp
        with_reducible rfl
      rotate_left
      · simp only [Act.put, List.setIfInBounds_toArray, List.set_cons_zero, List.set_cons_succ, i64_w, i32_w, wj, w8]
        rfl
      refine pure_ (i := 14) (N := (some 66)) (v := ?_) (a' := ?_) #[true, true, true, true, true, true, true, true, true, false, true, true, true, true, true, false, false, false] rfl rfl (by kernel_rfl) (fun _ _ _ h => h) (Or.inl ⟨by rfl, ?_⟩) ?_ ?_
      rotate_left
      · intro w'
        go_simp
        with_reducible rfl
      rotate_left
      · simp only [Act.put, List.setIfInBounds_toArray, List.set_cons_zero, List.set_cons_succ, i64_w, i32_w, wj, w8]
        rfl
      refine take_ (i := 9) (N := (some 61)) (v := ?_) (a' := ?_) #[true, true, true, true, true, true, true, true, true, true, true, true, true, true, true, false, false, false] rfl rfl (by kernel_rfl) (fun _ _ _ h => h) (Or.inl ⟨by rfl, ?_⟩) hHeld ?_ ?_
      rotate_left
      · rintro w' s0
        go_simp
        with_reducible rfl
      rotate_left
      · simp only [Act.put, List.setIfInBounds_toArray, List.set_cons_zero, List.set_cons_succ, i64_w, i32_w, wj, w8]
        rfl
      refine pure_ (i := 15) (N := (some 67)) (v := ?_) (a' := ?_) #[true, true, true, true, true, true, true, true, true, true, true, true, true, true, true, true, false, false] rfl rfl (by kernel_rfl) (fun _ _ _ h => h) (Or.inl ⟨by rfl, ?_⟩) ?_ ?_
      rotate_left
      · intro w'
        go_simp
        with_reducible rfl
      rotate_left
      · simp only [Act.put, List.setIfInBounds_toArray, List.set_cons_zero, List.set_cons_succ, i64_w, i32_w, wj, w8]
        rfl
      refine pure_ (i := 16) (N := (some 68)) (v := ?_) (a' := ?_) #[true, true, true, true, true, true, true, true, true, true, true, true, true, true, true, true, true, false] rfl rfl (by kernel_rfl) (fun _ _ _ h => h) (Or.inl ⟨by rfl, ?_⟩) ?_ ?_
      rotate_left
      · intro w'
        go_simp
        with_reducible rfl
      rotate_left
      · simp only [Act.put, List.setIfInBounds_toArray, List.set_cons_zero, List.set_cons_succ, i64_w, i32_w, wj, w8]
        rfl
      refine last_ (i := 17) (N := none) #[true, true, true, true, true, true, true, true, true, true, true, true, true, true, true, true, true, true] rfl rfl (by kernel_rfl) (by decide) (fun K hK => ?_)
      have hfr := hMd.free hj
      refine skip_ (w1 := w5.setCell ⟨g4, j, none⟩ (.int .u8 ((x ^^^ y : Nat) : Int))) (by rfl) rfl ?_ ?_
      · go_simp
      have hMs := hMd.set j (x ^^^ y)
      rw [← hstep.out] at hMs
      have hBs := hBd.setCell (p := ⟨g4, j, none⟩) hwl (.int .u8 ((x ^^^ y : Nat) : Int))
      clear hMd hBd hfr hcd hHeld
      refine hK.out _ _ ?_
      clear hK K
      refine done_ (by kernel_rfl) ?_
      go_wp2
      obtain ⟨kk, rfl⟩ : ∃ kk, gk = kk + 1 := ⟨gk - 1, by omega⟩
      go_roundg kk
      case measure => omega
      case rel => exact ⟨2, by simp, by omega, hMs, hBs⟩
    · obtain ⟨x, hxe⟩ : ∃ x, (xr (nats S) kN (ES.take 2)).getD (kN + 2) 0 = x := ⟨_, rfl⟩
      have hl : (xr (nats S) kN (ES.take 2)).length = 42 := by rw [xr_length, hln.out]
      have hj : kN + 2 < (xr (nats S) kN (ES.take 2)).length := by omega
      have hxe' : (xr (nats S) kN (ES.take 2))[kN + 2]? = some x := by
        rw [List.getElem?_eq_getElem hj, ← hxe, List.getD_eq_getElem?_getD, List.getElem?_eq_getElem hj]; rfl
      have hx256 : x < 256 := xr_lt _ _ _ hlt.out (by intro e he; have he := List.mem_of_mem_take he; rw [← hES] at he; simp only [List.mem_cons, List.not_mem_nil, or_false] at he; rcases he with rfl | rfl | rfl | rfl <;> omega) x (List.mem_of_getElem? hxe')
      obtain ⟨y, hye⟩ : ∃ y, xN / 65536 % 256 = y := ⟨_, rfl⟩
      have hy256 : y < 256 := by omega
      have hstep : xr (nats S) kN (ES.take (2 + 1)) = (xr (nats S) kN (ES.take 2)).set (kN + 2) (x ^^^ y) := by
        have e1 : ES.take (2 + 1) = ES.take 2 ++ [y] := by rw [← hES, ← hye]; rfl
        have e2 : (ES.take 2).length = 2 := by rw [← hES]; rfl
        rw [e1, xr_snoc, e2, hxe]
      obtain ⟨j, hjd⟩ : ∃ j, kN + 2 = j := ⟨_, rfl⟩
      have hjI : 10 + K + 2 = (j : Int) := by omega
      have hjI' : (kN : Int) + 2 = (j : Int) := by omega
      rw [hjd] at hxe' hj hstep
      have hxor : bits .xor .u8 (x : Int) (y : Int) = ((x ^^^ y : Nat) : Int) := xor8 x y hx256 hy256
      have hcell := hMi.cell hxe'
      have hfree := hMi.free hj
      have hset := hMi.set j (x ^^^ y)
      rw [← hstep] at hset
      have p0 : ((0 : Int) ≤ (j : Int)) = True := eq_true (by omega)
      have p1 : ((j : Int) < 42) = True := eq_true (by omega)
      have hBs := hBi.setCell (p := ⟨g4, j, none⟩) hwl (.int .u8 ((x ^^^ y : Nat) : Int))
      replace hxe := Lib.hid hxe
      replace hxe' := Lib.hid hxe'
      replace hl := Lib.hid hl
      replace hstep := Lib.hid hstep
      replace hye := Lib.hid hye
      replace hjd := Lib.hid hjd
      go_wp2
      have hMd := M8.drew hMi
      have hBd := L.below_drew hBi
      have hcd := hcell
      clear hMi hBi hcell hfree hset hBs
      have wj : wrap64 (j : Int) = (j : Int) := IntWalk.wrap64_in _ (by omega)
      have w8 : wrap64 16 = 16 := IntWalk.wrap64_in _ (by omega)
      have hyI : IntKind.u8.wrap ((xN : Int) / 65536) = (y : Int) := by rw [IntKind.wrap_u8]; have := hye.out; omega
      refine start_ (n := 18) (S := fun w' => w'.cell? ⟨g4, j, none⟩ = some (.int .u8 (x : Int))) (ds := [17]) #[false, false, false, false, false, false, false, false, false, false, false, false, false, false, false, false, false, false] (by kernel_rfl) rfl rfl hcd (fun hHeld => ?_)
      generalize wr.drew = w5 at hMd hBd hHeld ⊢
      refine pure_ (i := 0) (N := (some 52)) (v := ?_) (a' := ?_) #[true, false, false, false, false, false, false, false, false, false, false, false, false, false, false, false, false, false] rfl rfl (by kernel_rfl) (fun _ _ _ h => h) (Or.inl ⟨by rfl, ?_⟩) ?_ ?_
      rotate_left
      · intro w'
        go_simp
        with_reducible rfl
      rotate_left
      · simp only [Act.put, List.setIfInBounds_toArray, List.set_cons_zero, List.set_cons_succ, i64_w, i32_w, wj, w8]
        rfl
      refine pure_ (i := 1) (N := (some 53)) (v := ?_) (a' := ?_) #[true, true, false, false, false, false, false, false, false, false, false, false, false, false, false, false, false, false] rfl rfl (by kernel_rfl) (fun _ _ _ h => h) (Or.inl ⟨by rfl, ?_⟩) ?_ ?_
      rotate_left
      · intro w'
        go_simp
        with_reducible rfl
      rotate_left
      · simp only [Act.put, List.setIfInBounds_toArray, List.set_cons_zero, List.set_cons_succ, i64_w, i32_w, wj, w8]
        rfl
      refine pure_ (i := 2) (N := (some 54)) (v := ?_) (a' := ?_) #[true, true, true, false, false, false, false, false, false, false, false, false, false, false, false, false, false, false] rfl rfl (by kernel_rfl) (fun _ _ _ h => h) (Or.inl ⟨by rfl, ?_⟩) ?_ ?_
      rotate_left
      · intro w'
        go_simp
        with_reducible rfl
      rotate_left
      · simp only [Act.put, List.setIfInBounds_toArray, List.set_cons_zero, List.set_cons_succ, i64_w, i32_w, wj, w8]
        rfl
      refine pure_ (i := 3) (N := (some 55)) (v := ?_) (a' := ?_) #[true, true, true, true, false, false, false, false, false, false, false, false, false, false, false, false, false, false] rfl rfl (by kernel_rfl) (fun _ _ _ h => h) (Or.inl ⟨by rfl, ?_⟩) ?_ ?_
      rotate_left
      · intro w'
        go_simp
        with_reducible rfl
      rotate_left
      · simp only [Act.put, List.setIfInBounds_toArray, List.set_cons_zero, List.set_cons_succ, i64_w, i32_w, wj, w8]
        rfl
      refine pure_ (i := 4) (N := (some 56)) (v := ?_) (a' := ?_) #[true, true, true, true, true, false, false, false, false, false, false, false, false, false, false, false, false, false] rfl rfl (by kernel_rfl) (fun _ _ _ h => h) (Or.inl ⟨by rfl, ?_⟩) ?_ ?_
      rotate_left
      · intro w'
        go_simp
        with_reducible rfl
      rotate_left
      · simp only [Act.put, List.setIfInBounds_toArray, List.set_cons_zero, List.set_cons_succ, i64_w, i32_w, wj, w8]
        rfl
      refine pure_ (i := 5) (N := (some 57)) (v := ?_) (a' := ?_) #[true, true, true, true, true, true, false, false, false, false, false, false, false, false, false, false, false, false] rfl rfl (by kernel_rfl) (fun _ _ _ h => h) (Or.inl ⟨by rfl, ?_⟩) ?_ ?_
      rotate_left
      · intro w'
        go_simp
        with_reducible rfl
      rotate_left
      · simp only [Act.put, List.setIfInBounds_toArray, List.set_cons_zero, List.set_cons_succ, i64_w, i32_w, wj, w8]
        rfl
      refine pure_ (i := 6) (N := (some 58)) (v := ?_) (a' := ?_) #[true, true, true, true, true, true, true, false, false, false, false, false, false, false, false, false, false, false] rfl rfl (by kernel_rfl) (fun _ _ _ h => h) (Or.inl ⟨by rfl, ?_⟩) ?_ ?_
      rotate_left
      · intro w'
        go_simp
        with_reducible rfl
      rotate_left
      · simp only [Act.put, List.setIfInBounds_toArray, List.set_cons_zero, List.set_cons_succ, i64_w, i32_w, wj, w8]
        rfl
      refine pure_ (i := 7) (N := (some 59)) (v := ?_) (a' := ?_) #[true, true, true, true, true, true, true, true, false, false, false, false, false, false, false, false, false, false] rfl rfl (by kernel_rfl) (fun _ _ _ h => h) (Or.inl ⟨by rfl, ?_⟩) ?_ ?_
      rotate_left
      · intro w'
        go_simp
        with_reducible rfl
      rotate_left
      · simp only [Act.put, List.setIfInBounds_toArray, List.set_cons_zero, List.set_cons_succ, i64_w, i32_w, wj, w8]
        rfl
      refine pure_ (i := 8) (N := (some 60)) (v := ?_) (a' := ?_) #[true, true, true, true, true, true, true, true, true, false, false, false, false, false, false, false, false, false] rfl rfl (by kernel_rfl) (fun _ _ _ h => h) (Or.inl ⟨by rfl, ?_⟩) ?_ ?_
      rotate_left
      · intro w'
        go_simp
        with_reducible rfl
      rotate_left
      · simp only [Act.put, List.setIfInBounds_toArray, List.set_cons_zero, List.set_cons_succ, i64_w, i32_w, wj, w8]
        rfl
      refine pure_ (i := 10) (N := (some 62)) (v := ?_) (a' := ?_) #[true, true, true, true, true, true, true, true, true, false, true, false, false, false, false, false, false, false] rfl rfl (by kernel_rfl) (fun _ _ _ h => h) (Or.inl ⟨by rfl, ?_⟩) ?_ ?_
      rotate_left
      · intro w'
        go_simp
        with_reducible rfl
      rotate_left
      · simp only [Act.put, List.setIfInBounds_toArray, List.set_cons_zero, List.set_cons_succ, i64_w, i32_w, wj, w8]
        rfl
      refine pure_ (i := 11) (N := (some 63)) (v := ?_) (a' := ?_) #[true, true, true, true, true, true, true, true, true, false, true, true, false, false, false, false, false, false] rfl rfl (by kernel_rfl) (fun _ _ _ h => h) (Or.inl ⟨by rfl, ?_⟩) ?_ ?_
      rotate_left
      · intro w'
        go_simp
        with_reducible rfl
      rotate_left
      · simp only [Act.put, List.setIfInBounds_toArray, List.set_cons_zero, List.set_cons_succ, i64_w, i32_w, wj, w8]
        rfl
      refine pure_ (i := 12) (N := (some 64)) (v := ?_) (a' := ?_) #[true, true, true, true, true, true, true, true, true, false, true, true, true, false, false, false, false, false] rfl rfl (by kernel_rfl) (fun _ _ _ h => h) (Or.inl ⟨by rfl, ?_⟩) ?_ ?_
      rotate_left
      · intro w'
        go_simp
        with_reducible rfl
      rotate_left
      · simp only [Act.put, List.setIfInBounds_toArray, List.set_cons_zero, List.set_cons_succ, i64_w, i32_w, wj, w8]
        rfl
      refine pure_ (i := 13) (N := (some 65)) (v := ?_) (a' := ?_) #[true, true, true, true, true, true, true, true, true, false, true, true, true, true, false, false, false, false] rfl rfl (by kernel_rfl) (fun _ _ _ h => h) (Or.inl ⟨by rfl, ?_⟩) ?_ ?_
      rotate_left
      · intro w'
        go_simp
        with_reducible rfl
      rotate_left
      · simp only [Act.put, List.setIfInBounds_toArray, List.set_cons_zero, List.set_cons_succ, i64_w, i32_w, wj, w8]
        rfl
      refine pure_ (i := 14) (N := (some 66)) (v := ?_) (a' := ?_) #[true, true, true, true, true, true, true, true, true, false, true, true, true, true, true, false, false, false] rfl rfl (by kernel_rfl) (fun _ _ _ h => h) (Or.inl ⟨by rfl, ?_⟩) ?_ ?_
      rotate_left
      · intro w'
        go_simp
        with_reducible rfl
      rotate_left
      · simp only [Act.put, List.setIfInBounds_toArray, List.set_cons_zero, List.set_cons_succ, i64_w, i32_w, wj, w8]
        rfl
      refine take_ (i := 9) (N := (some 61)) (v := ?_) (a' := ?_) #[true, true, true, true, true, true, true, true, true, true, true, true, true, true, true, false, false, false] rfl rfl (by kernel_rfl) (fun _ _ _ h => h) (Or.inl ⟨by rfl, ?_⟩) hHeld ?_ ?_
      rotate_left
      · rintro w' s0
        go_simp
        with_reducible rfl
      rotate_left
      · simp only [Act.put, List.setIfInBounds_toArray, List.set_cons_zero, List.set_cons_succ, i64_w, i32_w, wj, w8]
        rfl
      refine pure_ (i := 15) (N := (some 67)) (v := ?_) (a' := ?_) #[true, true, true, true, true, true, true, true, true, true, true, true, true, true, true, true, false, false] rfl rfl (by kernel_rfl) (fun _ _ _ h => h) (Or.inl ⟨by rfl, ?_⟩) ?_ ?_
      rotate_left
      · intro w'
        go_simp
        with_reducible rfl
      rotate_left
      · simp only [Act.put, List.setIfInBounds_toArray, List.set_cons_zero, List.set_cons_succ, i64_w, i32_w, wj, w8]
        rfl
      refine pure_ (i := 16) (N := (some 68)) (v := ?_) (a' := ?_) #[true, true, true, true, true, true, true, true, true, true, true, true, true, true, true, true, true, false] rfl rfl (by kernel_rfl) (fun _ _ _ h => h) (Or.inl ⟨by rfl, ?_⟩) ?_ ?_
      rotate_left
      · intro w'
        go_simp
        with_reducible rfl
      rotate_left
      · simp only [Act.put, List.setIfInBounds_toArray, List.set_cons_zero, List.set_cons_succ, i64_w, i32_w, wj, w8]
        rfl
      refine last_ (i := 17) (N := none) #[true, true, true, true, true, true, true, true, true, true, true, true, true, true, true, true, true, true] rfl rfl (by kernel_rfl) (by decide) (fun K hK => ?_)
      have hfr := hMd.free hj
      refine skip_ (w1 := w5.setCell ⟨g4, j, none⟩ (.int .u8 ((x ^^^ y : Nat) : Int))) (by rfl) rfl ?_ ?_
      · go_simp
      have hMs := hMd.set j (x ^^^ y)
      rw [← hstep.out] at hMs
      have hBs := hBd.setCell (p := ⟨g4, j, none⟩) hwl (.int .u8 ((x ^^^ y : Nat) : Int))
      clear hMd hBd hfr hcd hHeld
      refine hK.out _ _ ?_
      clear hK K
      refine done_ (by kernel_rfl) ?_
      go_wp2
      obtain ⟨kk, rfl⟩ : ∃ kk, gk = kk + 1 := ⟨gk - 1, by omega⟩
      go_roundg kk
      case measure => omega
      case rel => exact ⟨3, by simp, by omega, hMs, hBs⟩
    · obtain ⟨x, hxe⟩ : ∃ x, (xr (nats S) kN (ES.take 3)).getD (kN + 3) 0 = x := ⟨_, rfl⟩
      have hl : (xr (nats S) kN (ES.take 3)).length = 42 := by rw [xr_length, hln.out]
      have hj : kN + 3 < (xr (nats S) kN (ES.take 3)).length := by omega
      have hxe' : (xr (nats S) kN (ES.take 3))[kN + 3]? = some x := by
        rw [List.getElem?_eq_getElem hj, ← hxe, List.getD_eq_getElem?_getD, List.getElem?_eq_getElem hj]; rfl
      have hx256 : x < 256 := xr_lt _ _ _ hlt.out (by intro e he; have he := List.mem_of_mem_take he; rw [← hES] at he; simp only [List.mem_cons, List.not_mem_nil, or_false] at he; rcases he with rfl | rfl | rfl | rfl <;> omega) x (List.mem_of_getElem? hxe')
      obtain ⟨y, hye⟩ : ∃ y, xN / 16777216 % 256 = y := ⟨_, rfl⟩
      have hy256 : y < 256 := by omega
      have hstep : xr (nats S) kN (ES.take (3 + 1)) = (xr (nats S) kN (ES.take 3)).set (kN + 3) (x ^^^ y) := by
        have e1 : ES.take (3 + 1) = ES.take 3 ++ [y] := by rw [← hES, ← hye]; rfl
        have e2 : (ES.take 3).length = 3 := by rw [← hES]; rfl
        rw [e1, xr_snoc, e2, hxe]
      obtain ⟨j, hjd⟩ : ∃ j, kN + 3 = j := ⟨_, rfl⟩
      have hjI : 10 + K + 3 = (j : Int) := by omega
      have hjI' : (kN : Int) + 3 = (j : Int) := by omega
      rw [hjd] at hxe' hj hstep
      have hxor : bits .xor .u8 (x : Int) (y : Int) = ((x ^^^ y : Nat) : Int) := xor8 x y hx256 hy256
      have hcell := hMi.cell hxe'
      have hfree := hMi.free hj
      have hset := hMi.set j (x ^^^ y)
      rw [← hstep] at hset
      have p0 : ((0 : Int) ≤ (j : Int)) = True := eq_true (by omega)
      have p1 : ((j : Int) < 42) = True := eq_true (by omega)
      have hBs := hBi.setCell (p := ⟨g4, j, none⟩) hwl (.int .u8 ((x ^^^ y : Nat) : Int))
      replace hxe := Lib.hid hxe
      replace hxe' := Lib.hid hxe'
      replace hl := Lib.hid hl
      replace hstep := Lib.hid hstep
      replace hye := Lib.hid hye
      replace hjd := Lib.hid hjd
      go_wp2
      have hMd := M8.drew hMi
      have hBd := L.below_drew hBi
      have hcd := hcell
      clear hMi hBi hcell hfree hset hBs
      have wj : wrap64 (j : Int) = (j : Int) := IntWalk.wrap64_in _ (by omega)
      have w8 : wrap64 24 = 24 := IntWalk.wrap64_in _ (by omega)
      have hyI : IntKind.u8.wrap ((xN : Int) / 16777216) = (y : Int) := by rw [IntKind.wrap_u8]; have := hye.out; omega
      refine start_ (n := 18) (S := fun w' => w'.cell? ⟨g4, j, none⟩ = some (.int .u8 (x : Int))) (ds := [17]) #[false, false, false, false, false, false, false, false, false, false, false, false, false, false, false, false, false, false] (by kernel_rfl) rfl rfl hcd (fun hHeld => ?_)
      generalize wr.drew = w5 at hMd hBd hHeld ⊢
      refine pure_ (i := 0) (N := (some 52)) (v := ?_) (a' := ?_) #[true, false, false, false, false, false, false, false, false, false, false, false, false, false, false, false, false, false] rfl rfl (by kernel_rfl) (fun _ _ _ h => h) (Or.inl ⟨by rfl, ?_⟩) ?_ ?_
      rotate_left
      · intro w'
        go_simp
        with_reducible rfl
      rotate_left
      · simp only [Act.put, List.setIfInBounds_toArray, List.set_cons_zero, List.set_cons_succ, i64_w, i32_w, wj, w8]
        rfl
      refine pure_ (i := 1) (N := (some 53)) (v := ?_) (a' := ?_) #[true, true, false, false, false, false, false, false, false, false, false, false, false, false, false, false, false, false] rfl rfl (by kernel_rfl) (fun _ _ _ h => h) (Or.inl ⟨by rfl, ?_⟩) ?_ ?_
      rotate_left
      · intro w'
        go_simp
        with_reducible rfl
      rotate_left
      · simp only [Act.put, List.setIfInBounds_toArray, List.set_cons_zero, List.set_cons_succ, i64_w, i32_w, wj, w8]
        rfl
      refine pure_ (i := 2) (N := (some 54)) (v := ?_) (a' := ?_) #[true, true, true, false, false, false, false, false, false, false, false, false, false, false, false, false, false, false] rfl rfl (by kernel_rfl) (fun _ _ _ h => h) (Or.inl ⟨by rfl, ?_⟩) ?_ ?_
      rotate_left
      · intro w'
        go_simp
        with_reducible rfl
      rotate_left
      · simp only [Act.put, List.setIfInBounds_toArray, List.set_cons_zero, List.set_cons_succ, i64_w, i32_w, wj, w8]
        rfl
      refine pure_ (i := 3) (N := (some 55)) (v := ?_) (a' := ?_) #[true, true, true, true, false, false, false, false, false, false, false, false, false, false, false, false, false, false] rfl rfl (by kernel_rfl) (fun _ _ _ h => h) (Or.inl ⟨by rfl, ?_⟩) ?_ ?_
      rotate_left
      · intro w'
        go_simp
        with_reducible rfl
      rotate_left
      · simp only [Act.put, List.setIfInBounds_toArray, List.set_cons_zero, List.set_cons_succ, i64_w, i32_w, wj, w8]
        rfl
      refine pure_ (i := 4) (N := (some 56)) (v := ?_) (a' := ?_) #[true, true, true, true, true, false, false, false, false, false, false, false, false, false, false, false, false, false] rfl rfl (by kernel_rfl) (fun _ _ _ h => h) (Or.inl ⟨by rfl, ?_⟩) ?_ ?_
      rotate_left
      · intro w'
        go_simp
        with_reducible rfl
      rotate_left
      · simp only [Act.put, List.setIfInBounds_toArray, List.set_cons_zero, List.set_cons_succ, i64_w, i32_w, wj, w8]
        rfl
      refine pure_ (i := 5) (N := (some 57)) (v := ?_) (a' := ?_) #[true, true, true, true, true, true, false, false, false, false, false, false, false, false, false, false, false, false] rfl rfl (by kernel_rfl) (fun _ _ _ h => h) (Or.inl ⟨by rfl, ?_⟩) ?_ ?_
      rotate_left
      · intro w'
        go_simp
        with_reducible rfl
      rotate_left
      · simp only [Act.put, List.setIfInBounds_toArray, List.set_cons_zero, List.set_cons_succ, i64_w, i32_w, wj, w8]
        rfl
      refine pure_ (i := 6) (N := (some 58)) (v := ?_) (a' := ?_) #[true, true, true, true, true, true, true, false, false, false, false, false, false, false, false, false, false, false] rfl rfl (by kernel_rfl) (fun _ _ _ h => h) (Or.inl ⟨by rfl, ?_⟩) ?_ ?_
      rotate_left
      · intro w'
        go_simp
        with_reducible rfl
      rotate_left
      · simp only [Act.put, List.setIfInBounds_toArray, List.set_cons_zero, List.set_cons_succ, i64_w, i32_w, wj, w8]
        rfl
      refine pure_ (i := 7) (N := (some 59)) (v := ?_) (a' := ?_) #[true, true, true, true, true, true, true, true, false, false, false, false, false, false, false, false, false, false] rfl rfl (by kernel_rfl) (fun _ _ _ h => h) (Or.inl ⟨by rfl, ?_⟩) ?_ ?_
      rotate_left
      · intro w'
        go_simp
        with_reducible rfl
      rotate_left
      · simp only [Act.put, List.setIfInBounds_toArray, List.set_cons_zero, List.set_cons_succ, i64_w, i32_w, wj, w8]
        rfl
      refine pure_ (i := 8) (N := (some 60)) (v := ?_) (a' := ?_) #[true, true, true, true, true, true, true, true, true, false, false, false, false, false, false, false, false, false] rfl rfl (by kernel_rfl) (fun _ _ _ h => h) (Or.inl ⟨by rfl, ?_⟩) ?_ ?_
      rotate_left
      · intro w'
        go_simp
        with_reducible rfl
      rotate_left
      · simp only [Act.put, List.setIfInBounds_toArray, List.set_cons_zero, List.set_cons_succ, i64_w, i32_w, wj, w8]
        rfl
      refine pure_ (i := 10) (N := (some 62)) (v := ?_) (a' := ?_) #[true, true, true, true, true, true, true, true, true, false, true, false, false, false, false, false, false, false] rfl rfl (by kernel_rfl) (fun _ _ _ h => h) (Or.inl ⟨by rfl, ?_⟩) ?_ ?_
      rotate_left
      · intro w'
        go_simp
        with_reducible rfl
      rotate_left
      · simp only [Act.put, List.setIfInBounds_toArray, List.set_cons_zero, List.set_cons_succ, i64_w, i32_w, wj, w8]
        rfl
      refine pure_ (i := 11) (N := (some 63)) (v := ?_) (a' := ?_) #[true, true, true, true, true, true, true, true, true, false, true, true, false, false, false, false, false, false] rfl rfl (by kernel_rfl) (fun _ _ _ h => h) (Or.inl ⟨by rfl, ?_⟩) ?_ ?_
      rotate_left
      · intro w'
        go_simp
        with_reducible rfl
      rotate_left
      · simp only [Act.put, List.setIfInBounds_toArray, List.set_cons_zero, List.set_cons_succ, i64_w, i32_w, wj, w8]
        rfl
      refine pure_ (i := 12) (N := (some 64)) (v := ?_) (a' := ?_) #[true, true, true, true, true, true, true, true, true, false, true, true, true, false, false, false, false, false] rfl rfl (by kernel_rfl) (fun _ _ _ h => h) (Or.inl ⟨by rfl, ?_⟩) ?_ ?_
      rotate_left
      · intro w'
        go_simp
        with_reducible rfl
      rotate_left
      · simp only [Act.put, List.setIfInBounds_toArray, List.set_cons_zero, List.set_cons_succ, i64_w, i32_w, wj, w8]
        rfl
      refine pure_ (i := 13) (N := (some 65)) (v := ?_) (a' := ?_) #[true, true, true, true, true, true, true, true, true, false, true, true, true, true, false, false, false, false] rfl rfl (by kernel_rfl) (fun _ _ _ h => h) (Or.inl ⟨by rfl, ?_⟩) ?_ ?_
      rotate_left
      · intro w'
        go_simp
        with_reducible rfl
      rotate_left
      · simp only [Act.put, List.setIfInBounds_toArray, List.set_cons_zero, List.set_cons_succ, i64_w, i32_w, wj, w8]
        rfl
      refine pure_ (i := 14) (N := (some 66)) (v := ?_) (a' := ?_) #[true, true, true, true, true, true, true, true, true, false, true, true, true, true, true, false, false, false] rfl rfl (by kernel_rfl) (fun _ _ _ h => h) (Or.inl ⟨by rfl, ?_⟩) ?_ ?_
      rotate_left
      · intro w'
        go_simp
        with_reducible rfl
      rotate_left
      · simp only [Act.put, List.setIfInBounds_toArray, List.set_cons_zero, List.set_cons_succ, i64_w, i32_w, wj, w8]
        rfl
      refine take_ (i := 9) (N := (some 61)) (v := ?_) (a' := ?_) #[true, true, true, true, true, true, true, true, true, true, true, true, true, true, true, false, false, false] rfl rfl (by kernel_rfl) (fun _ _ _ h => h) (Or.inl ⟨by rfl, ?_⟩) hHeld ?_ ?_
      rotate_left
      · rintro w' s0
        go_simp
        with_reducible rfl
      rotate_left
      · simp only [Act.put, List.setIfInBounds_toArray, List.set_cons_zero, List.set_cons_succ, i64_w, i32_w, wj, w8]
        rfl
      refine pure_ (i := 15) (N := (some 67)) (v := ?_) (a' := ?_) #[true, true, true, true, true, true, true, true, true, true, true, true, true, true, true, true, false, false] rfl rfl (by kernel_rfl) (fun _ _ _ h => h) (Or.inl ⟨by rfl, ?_⟩) ?_ ?_
      rotate_left
      · intro w'
        go_simp
        with_reducible rfl
      rotate_left
      · simp only [Act.put, List.setIfInBounds_toArray, List.set_cons_zero, List.set_cons_succ, i64_w, i32_w, wj, w8]
        rfl
      refine pure_ (i := 16) (N := (some 68)) (v := ?_) (a' := ?_) #[true, true, true, true, true, true, true, true, true, true, true, true, true, true, true, true, true, false] rfl rfl (by kernel_rfl) (fun _ _ _ h => h) (Or.inl ⟨by rfl, ?_⟩) ?_ ?_
      rotate_left
      · intro w'
        go_simp
        with_reducible rfl
      rotate_left
      · simp only [Act.put, List.setIfInBounds_toArray, List.set_cons_zero, List.set_cons_succ, i64_w, i32_w, wj, w8]
        rfl
      refine last_ (i := 17) (N := none) #[true, true, true, true, true, true, true, true, true, true, true, true, true, true, true, true, true, true] rfl rfl (by kernel_rfl) (by decide) (fun K hK => ?_)
      have hfr := hMd.free hj
      refine skip_ (w1 := w5.setCell ⟨g4, j, none⟩ (.int .u8 ((x ^^^ y : Nat) : Int))) (by rfl) rfl ?_ ?_
      · go_simp
      have hMs := hMd.set j (x ^^^ y)
      rw [← hstep.out] at hMs
      have hBs := hBd.setCell (p := ⟨g4, j, none⟩) hwl (.int .u8 ((x ^^^ y : Nat) : Int))
      clear hMd hBd hfr hcd hHeld
      refine hK.out _ _ ?_
      clear hK K
      refine done_ (by kernel_rfl) ?_
      go_wp2
      obtain ⟨kk, rfl⟩ : ∃ kk, gk = kk + 1 := ⟨gk - 1, by omega⟩
      go_roundg kk
      case measure => omega
      case rel => exact ⟨4, by simp, by omega, hMs, hBs⟩
    · have hE4 : ES.take 4 = ES := by rw [← hES]; rfl
      rw [hE4] at hMi
      obtain ⟨TX, hTX⟩ : ∃ TX, ofNats (xr (nats S) kN ES) = TX := ⟨_, rfl⟩
      have hcv := hMi.text (c := cap) (P := Try.prog) (src := 44) (dst := 9) Try.underlying44 Try.underlying5 Try.underlying9 (by rw [xr_length, hln.out]; omega)
      rw [hTX, xr_length, hln.out] at hcv
      rw [hTX] at hgA
      clear hTX hE4 hES
      have hB := hBi
      clear hBi hMi
      have tk1 : True := trivial
      have tk2 : True := trivial
      have tk3 : True := trivial
      have tk4 : True := trivial
      have q0 : (rB != 0) = true := by simpa using hB0
      have s1 : (M ≤ 42) = True := eq_true (by omega)
      have s2 : (1 + E ≤ 42) = True := eq_true (by omega)
      have s3 : (0 ≤ M) = True := eq_true m0
      have s4 : (0 ≤ 1 + E) = True := eq_true (by omega)
      have hA2 : rA = 2300 ∨ rA = 2301 := by rcases hA1 with h | h | h; exact absurd h hA0; exact .inl h; exact .inr h
      clear hA1 hA0 hB0
      rcases hA2 with rfl | rfl
      all_goals
        go_wp2_with (first
          | (go_at_call 11; have hguard := tk1; clear hguard tk1; refine (stream_Get.calls _ _ _ _ _ _ _ _ _ _ hgA.out).mono ?_; rintro e w6 ⟨v1, rfl, hW, hb⟩; obtain ⟨A1, q1, e1⟩ := Kd.R_slice hW; subst e1; replace hB := below_next hB hb; clear hW hb; replace hB := L.below_alloc hB (.cells #[.int .i64 a0, .int .i64 a1, .int .i64 a2, .int .i64 a3, .string a4, .string a5, .slice A1 a6.length q1] 26))
          | (go_at_call 11; have hguard := tk2; clear hguard tk2; refine (stream_Get.calls _ _ _ _ _ _ _ _ _ _ hgB.out).mono ?_; rintro e w7 ⟨v2, rfl, hW, hb⟩; obtain ⟨A2, q2, e2⟩ := Kd.R_slice hW; subst e2; replace hB := below_next hB hb; clear hW hb; replace hB := L.below_alloc hB (.cells #[.int .i64 b0, .int .i64 b1, .int .i64 b2, .int .i64 b3, .string b4, .string b5, .slice A2 b6.length q2] 26))
          | (go_at_call 11; have hguard := tk3; clear hguard tk3; refine (stream_Get.calls _ _ _ _ _ _ _ _ _ _ hgC.out).mono ?_; rintro e w8 ⟨v3, rfl, hW, hb⟩; obtain ⟨A3, q3, e3⟩ := Kd.R_slice hW; subst e3; replace hB := below_next hB hb; clear hW hb; replace hB := L.below_alloc hB (.cells #[.int .i64 c0, .int .i64 c1, .int .i64 c2, .int .i64 c3, .string c4, .string c5, .slice A3 c6.length q3] 26))
          | (go_at_call 11; have hguard := tk4; clear hguard tk4; refine (stream_Get.calls _ _ _ _ _ _ _ _ _ _ hgD.out).mono ?_; rintro e w9 ⟨v4, rfl, hW, hb⟩; obtain ⟨A4, q4, e4⟩ := Kd.R_slice hW; subst e4; replace hB := below_next hB hb; clear hW hb; replace hB := L.below_alloc hB (.cells #[.int .i64 d0, .int .i64 d1, .int .i64 d2, .int .i64 d3, .string d4, .string d5, .slice A4 d6.length q4] 26))
          | (go_at_call 13; refine (descantlaw0_Num.calls _ _ _ rfl).mono ?_; rintro e w3 ⟨rfl, hd⟩; replace hB := below_next hB hd.below; clear hd)
          | (go_at_call 18; refine (crc_empty _).mono ?_; rintro e w3 ⟨rfl, rfl⟩))
        go_ret
        exact ⟨rfl, hB⟩
theorem u64_mod (x : Int) {m : Int} (hm : 0 < m) : 0 ≤ Int.tmod (IntKind.u64.wrap x) m ∧ Int.tmod (IntKind.u64.wrap x) m < m := by
  have hu : 0 ≤ IntKind.u64.wrap x := by
    have : IntKind.u64.wrap x = x % 18446744073709551616 := by simp [IntKind.wrap, IntKind.bits, IntKind.signed]
    omega
  rw [Int.tmod_eq_emod_of_nonneg hu]
  exact ⟨Int.emod_nonneg _ (by omega), Int.emod_lt_of_pos _ hm⟩
theorem texts_walk (which at_ by_ : Int) (w : World) : Calls Try.prog 5 #[.int .i64 which, .int .i64 at_, .int .i64 by_] w fun e w' => e = .returned (.bool true) ∧ Below w.heap.size w w' := by
  obtain ⟨a0, a1⟩ := u64_mod at_ (m := 10) (by omega)
  obtain ⟨b0, b1⟩ := u64_mod by_ (m := 4294967295) (by omega)
  obtain ⟨c0, c1⟩ := u64_mod which (m := 42) (by omega)
  obtain ⟨d0, d1⟩ := and_k which 31 (by decide)
  exact texts_at which at_ by_ _ _ _ _ (10 + Int.tmod (IntKind.u64.wrap at_) 10).toNat (1 + Int.tmod (IntKind.u64.wrap by_) 4294967295).toNat w rfl rfl rfl rfl (by omega) (by omega) (by omega) (by omega) (by omega) (by omega) c0 c1 d0 d1
end Go.Proofs.Ytokegkpbbhegpaa.PS
