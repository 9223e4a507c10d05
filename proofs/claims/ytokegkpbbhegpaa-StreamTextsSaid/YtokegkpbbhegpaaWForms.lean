/- StreamForms, walked: one case of the switch at a time. -/
import Derived.Test.YtokegkpbbhegpaaWHead
namespace Go.Proofs.Ytokegkpbbhegpaa.PS
open Go.RowKit Go.Proofs.YtokegkpbbhegpaaW.PrintWords Go.Proofs.YtokegkpbbhegpaaW.PrintLast Go.Proofs.YtokegkpbbhegpaaW.PrintMore Go.Proofs.Ytokegkpbbhegpaa.L
set_option linter.unusedVariables false
set_option linter.unusedSimpArgs false

theorem and_k (x : Int) (m : Nat) (hm : m < 2 ^ 62) : 0 ≤ bits .and .i64 x (m : Int) ∧ bits .and .i64 x (m : Int) ≤ m := by
  have h : ((BitVec.ofInt 64 x &&& BitVec.ofInt 64 (m : Int)).toNat) ≤ m := by
    rw [BitVec.toNat_and]
    refine Nat.le_trans Nat.and_le_right ?_
    rw [BitVec.ofInt_natCast, BitVec.toNat_ofNat]
    exact Nat.mod_le _ _
  have e : bits .and .i64 x (m : Int) = IntKind.i64.wrap (((BitVec.ofInt 64 x &&& BitVec.ofInt 64 (m : Int)).toNat : Nat) : Int) := rfl
  rw [e, IntKind.wrap_i64]
  omega
theorem put_not {c b s f : Int} {h t : ByteArray} {l : List ByteArray} (hn : l.length < 281474976710656) (hm : mayOk c b s f h t l = false) : stream_Put.f c b s f h t l = some (⟨#[]⟩, 2300) := by
  unfold stream_Put.f; rw [if_pos hn, hm, if_neg (by decide), if_neg (by decide)]
theorem may_not {c b s f : Int} {h t : ByteArray} {l : List ByteArray} (hm : ¬ ((c = 1 ∨ c = 2) ∧ (b = 8 ∨ b = 16) ∧ 1 ≤ s ∧ s ≤ 64 ∧ 0 ≤ f ∧ f ≤ 4096 ∧ h.size ≤ 4096 ∧ t.size ≤ 4096)) : mayOk c b s f h t l = false := by
  have : headOk c b s f h t = false := decide_eq_false hm
  unfold mayOk; rw [this]; rfl
theorem zeros_size (n : Nat) : (strOfNums (List.replicate n 0)).size = n := by
  rw [size_list]; simp [strOfNums]
theorem info5 : (Try.prog.info? 5).map (fun i => (i.zero, i.size, i.bytes)) = some (some (.int .u8 0), 1, 1) := by kernel_rfl
set_option maxHeartbeats 4000000 in
set_option maxRecDepth 100000 in
theorem forms_0 (which x E : Int) (w : World) (hU : Int.tmod (IntKind.u64.wrap which) 13 = 0) (hE : bits .and .i64 x 1023 = E) (h0 : 0 ≤ E) (h1 : E ≤ 1023) :
    Calls Try.prog 4 #[.int .i64 which, .int .i64 x] w fun e w' => e = .returned (.bool true) ∧ Below w.heap.size w w' := by
  have hm : mayOk 3 8 4 7 headS tailS [segS0, segS1] = false := may_not (by omega)
  have hput := Lib.hid (put_not (by simp) hm)
  clear hm
  have hgiv := Lib.hid given_is
  generalize headS = HS at *
  generalize tailS = TS at *
  generalize [segS0, segS1] = L2 at *
  go_enter Try.func4, Try.ntmps4
  go_wp2_with (first
    | (go_at_call 16; refine (descantlaw23_awake.calls _ _ rfl).mono ?_; rintro e w0 ⟨rfl, hb0⟩)
    | (go_at_call 17; refine (descantlaw23_given.calls _ _ _ _ _ _ _ _ hgiv.out).mono ?_; rintro e w1 ⟨v6, rfl, hV1, hb1⟩; obtain ⟨A1, c1, e1⟩ := Kd.R_slice hV1; subst e1; have hB1 := below_next hb0 hb1; clear hb0 hb1)
    | (go_at_call 9; refine (stream_Put.calls _ _ _ _ _ _ A1 c1 L2 _ _ _ (Kd.C_alloc (Kd.R_reads' hV1).2.2 _) (Kd.R_reads' hV1).2.1 hput.out).mono ?_; rintro e w8 ⟨rfl, hb8⟩; have hB8 := below_next (L.below_alloc hB1 _) hb8; clear hb8 hV1 hB1)
    | (go_at_call 13; refine (descantlaw0_Num.calls _ _ _ rfl).mono ?_; rintro e w9 ⟨rfl, ⟨⟨m9, rfl⟩⟩⟩; have hB9 := L.below_drewN hB8 m9))
  go_ret
  exact ⟨rfl, hB9⟩
set_option maxHeartbeats 4000000 in
set_option maxRecDepth 100000 in
theorem forms_1 (which x E : Int) (w : World) (hU : Int.tmod (IntKind.u64.wrap which) 13 = 1) (hE : bits .and .i64 x 1023 = E) (h0 : 0 ≤ E) (h1 : E ≤ 1023) :
    Calls Try.prog 4 #[.int .i64 which, .int .i64 x] w fun e w' => e = .returned (.bool true) ∧ Below w.heap.size w w' := by
  have hm : mayOk 1 24 4 7 headS tailS [segS0, segS1] = false := may_not (by omega)
  have hput := Lib.hid (put_not (by simp) hm)
  clear hm
  have hgiv := Lib.hid given_is
  generalize headS = HS at *
  generalize tailS = TS at *
  generalize [segS0, segS1] = L2 at *
  go_enter Try.func4, Try.ntmps4
  go_wp2_with (first
    | (go_at_call 16; refine (descantlaw23_awake.calls _ _ rfl).mono ?_; rintro e w0 ⟨rfl, hb0⟩)
    | (go_at_call 17; refine (descantlaw23_given.calls _ _ _ _ _ _ _ _ hgiv.out).mono ?_; rintro e w1 ⟨v6, rfl, hV1, hb1⟩; obtain ⟨A1, c1, e1⟩ := Kd.R_slice hV1; subst e1; have hB1 := below_next hb0 hb1; clear hb0 hb1)
    | (go_at_call 9; refine (stream_Put.calls _ _ _ _ _ _ A1 c1 L2 _ _ _ (Kd.C_alloc (Kd.R_reads' hV1).2.2 _) (Kd.R_reads' hV1).2.1 hput.out).mono ?_; rintro e w8 ⟨rfl, hb8⟩; have hB8 := below_next (L.below_alloc hB1 _) hb8; clear hb8 hV1 hB1)
    | (go_at_call 13; refine (descantlaw0_Num.calls _ _ _ rfl).mono ?_; rintro e w9 ⟨rfl, ⟨⟨m9, rfl⟩⟩⟩; have hB9 := L.below_drewN hB8 m9))
  go_ret
  exact ⟨rfl, hB9⟩
set_option maxHeartbeats 4000000 in
set_option maxRecDepth 100000 in
theorem forms_2 (which x E : Int) (w : World) (hU : Int.tmod (IntKind.u64.wrap which) 13 = 2) (hE : bits .and .i64 x 1023 = E) (h0 : 0 ≤ E) (h1 : E ≤ 1023) :
    Calls Try.prog 4 #[.int .i64 which, .int .i64 x] w fun e w' => e = .returned (.bool true) ∧ Below w.heap.size w w' := by
  have hm : mayOk 1 8 (1 - (1 + E)) 7 headS tailS [segS0, segS1] = false := may_not (by omega)
  have hput := Lib.hid (put_not (by simp) hm)
  clear hm
  have hgiv := Lib.hid given_is
  generalize headS = HS at *
  generalize tailS = TS at *
  generalize [segS0, segS1] = L2 at *
  go_enter Try.func4, Try.ntmps4
  go_wp2_with (first
    | (go_at_call 16; refine (descantlaw23_awake.calls _ _ rfl).mono ?_; rintro e w0 ⟨rfl, hb0⟩)
    | (go_at_call 17; refine (descantlaw23_given.calls _ _ _ _ _ _ _ _ hgiv.out).mono ?_; rintro e w1 ⟨v6, rfl, hV1, hb1⟩; obtain ⟨A1, c1, e1⟩ := Kd.R_slice hV1; subst e1; have hB1 := below_next hb0 hb1; clear hb0 hb1)
    | (go_at_call 9; refine (stream_Put.calls _ _ _ _ _ _ A1 c1 L2 _ _ _ (Kd.C_alloc (Kd.R_reads' hV1).2.2 _) (Kd.R_reads' hV1).2.1 hput.out).mono ?_; rintro e w8 ⟨rfl, hb8⟩; have hB8 := below_next (L.below_alloc hB1 _) hb8; clear hb8 hV1 hB1)
    | (go_at_call 13; refine (descantlaw0_Num.calls _ _ _ rfl).mono ?_; rintro e w9 ⟨rfl, ⟨⟨m9, rfl⟩⟩⟩; have hB9 := L.below_drewN hB8 m9))
  go_ret
  exact ⟨rfl, hB9⟩
set_option maxHeartbeats 4000000 in
set_option maxRecDepth 100000 in
theorem forms_3 (which x E : Int) (w : World) (hU : Int.tmod (IntKind.u64.wrap which) 13 = 3) (hE : bits .and .i64 x 1023 = E) (h0 : 0 ≤ E) (h1 : E ≤ 1023) :
    Calls Try.prog 4 #[.int .i64 which, .int .i64 x] w fun e w' => e = .returned (.bool true) ∧ Below w.heap.size w w' := by
  have hm : mayOk 1 8 (64 + (1 + E)) 7 headS tailS [segS0, segS1] = false := may_not (by omega)
  have hput := Lib.hid (put_not (by simp) hm)
  clear hm
  have hgiv := Lib.hid given_is
  generalize headS = HS at *
  generalize tailS = TS at *
  generalize [segS0, segS1] = L2 at *
  go_enter Try.func4, Try.ntmps4
  go_wp2_with (first
    | (go_at_call 16; refine (descantlaw23_awake.calls _ _ rfl).mono ?_; rintro e w0 ⟨rfl, hb0⟩)
    | (go_at_call 17; refine (descantlaw23_given.calls _ _ _ _ _ _ _ _ hgiv.out).mono ?_; rintro e w1 ⟨v6, rfl, hV1, hb1⟩; obtain ⟨A1, c1, e1⟩ := Kd.R_slice hV1; subst e1; have hB1 := below_next hb0 hb1; clear hb0 hb1)
    | (go_at_call 9; refine (stream_Put.calls _ _ _ _ _ _ A1 c1 L2 _ _ _ (Kd.C_alloc (Kd.R_reads' hV1).2.2 _) (Kd.R_reads' hV1).2.1 hput.out).mono ?_; rintro e w8 ⟨rfl, hb8⟩; have hB8 := below_next (L.below_alloc hB1 _) hb8; clear hb8 hV1 hB1)
    | (go_at_call 13; refine (descantlaw0_Num.calls _ _ _ rfl).mono ?_; rintro e w9 ⟨rfl, ⟨⟨m9, rfl⟩⟩⟩; have hB9 := L.below_drewN hB8 m9))
  go_ret
  exact ⟨rfl, hB9⟩
set_option maxHeartbeats 4000000 in
set_option maxRecDepth 100000 in
theorem forms_4 (which x E : Int) (w : World) (hU : Int.tmod (IntKind.u64.wrap which) 13 = 4) (hE : bits .and .i64 x 1023 = E) (h0 : 0 ≤ E) (h1 : E ≤ 1023) :
    Calls Try.prog 4 #[.int .i64 which, .int .i64 x] w fun e w' => e = .returned (.bool true) ∧ Below w.heap.size w w' := by
  have hm : mayOk 1 8 4 9 headS tailS [segS0, segS1] = false := by decide +kernel
  have hput := Lib.hid (put_not (by simp) hm)
  clear hm
  have hgiv := Lib.hid given_is
  generalize headS = HS at *
  generalize tailS = TS at *
  generalize [segS0, segS1] = L2 at *
  go_enter Try.func4, Try.ntmps4
  go_wp2_with (first
    | (go_at_call 16; refine (descantlaw23_awake.calls _ _ rfl).mono ?_; rintro e w0 ⟨rfl, hb0⟩)
    | (go_at_call 17; refine (descantlaw23_given.calls _ _ _ _ _ _ _ _ hgiv.out).mono ?_; rintro e w1 ⟨v6, rfl, hV1, hb1⟩; obtain ⟨A1, c1, e1⟩ := Kd.R_slice hV1; subst e1; have hB1 := below_next hb0 hb1; clear hb0 hb1)
    | (go_at_call 9; refine (stream_Put.calls _ _ _ _ _ _ A1 c1 L2 _ _ _ (Kd.C_alloc (Kd.R_reads' hV1).2.2 _) (Kd.R_reads' hV1).2.1 hput.out).mono ?_; rintro e w8 ⟨rfl, hb8⟩; have hB8 := below_next (L.below_alloc hB1 _) hb8; clear hb8 hV1 hB1)
    | (go_at_call 13; refine (descantlaw0_Num.calls _ _ _ rfl).mono ?_; rintro e w9 ⟨rfl, ⟨⟨m9, rfl⟩⟩⟩; have hB9 := L.below_drewN hB8 m9))
  go_ret
  exact ⟨rfl, hB9⟩
set_option maxHeartbeats 4000000 in
set_option maxRecDepth 100000 in
theorem forms_5 (which x E : Int) (w : World) (hU : Int.tmod (IntKind.u64.wrap which) 13 = 5) (hE : bits .and .i64 x 1023 = E) (h0 : 0 ≤ E) (h1 : E ≤ 1023) :
    Calls Try.prog 4 #[.int .i64 which, .int .i64 x] w fun e w' => e = .returned (.bool true) ∧ Below w.heap.size w w' := by
  have hm : mayOk 1 8 4 4 headS tailS [segS0, segS1] = false := by decide +kernel
  have hput := Lib.hid (put_not (by simp) hm)
  clear hm
  have hgiv := Lib.hid given_is
  generalize headS = HS at *
  generalize tailS = TS at *
  generalize [segS0, segS1] = L2 at *
  go_enter Try.func4, Try.ntmps4
  go_wp2_with (first
    | (go_at_call 16; refine (descantlaw23_awake.calls _ _ rfl).mono ?_; rintro e w0 ⟨rfl, hb0⟩)
    | (go_at_call 17; refine (descantlaw23_given.calls _ _ _ _ _ _ _ _ hgiv.out).mono ?_; rintro e w1 ⟨v6, rfl, hV1, hb1⟩; obtain ⟨A1, c1, e1⟩ := Kd.R_slice hV1; subst e1; have hB1 := below_next hb0 hb1; clear hb0 hb1)
    | (go_at_call 9; refine (stream_Put.calls _ _ _ _ _ _ A1 c1 L2 _ _ _ (Kd.C_alloc (Kd.R_reads' hV1).2.2 _) (Kd.R_reads' hV1).2.1 hput.out).mono ?_; rintro e w8 ⟨rfl, hb8⟩; have hB8 := below_next (L.below_alloc hB1 _) hb8; clear hb8 hV1 hB1)
    | (go_at_call 13; refine (descantlaw0_Num.calls _ _ _ rfl).mono ?_; rintro e w9 ⟨rfl, ⟨⟨m9, rfl⟩⟩⟩; have hB9 := L.below_drewN hB8 m9))
  go_ret
  exact ⟨rfl, hB9⟩
set_option maxHeartbeats 4000000 in
set_option maxRecDepth 100000 in
theorem forms_6 (which x E : Int) (w : World) (hU : Int.tmod (IntKind.u64.wrap which) 13 = 6) (hE : bits .and .i64 x 1023 = E) (h0 : 0 ≤ E) (h1 : E ≤ 1023) :
    Calls Try.prog 4 #[.int .i64 which, .int .i64 x] w fun e w' => e = .returned (.bool true) ∧ Below w.heap.size w w' := by
  have hm : mayOk 1 8 4 (-(1 + E)) headS tailS [segS0, segS1] = false := may_not (by omega)
  have hput := Lib.hid (put_not (by simp) hm)
  clear hm
  have hgiv := Lib.hid given_is
  generalize headS = HS at *
  generalize tailS = TS at *
  generalize [segS0, segS1] = L2 at *
  go_enter Try.func4, Try.ntmps4
  go_wp2_with (first
    | (go_at_call 16; refine (descantlaw23_awake.calls _ _ rfl).mono ?_; rintro e w0 ⟨rfl, hb0⟩)
    | (go_at_call 17; refine (descantlaw23_given.calls _ _ _ _ _ _ _ _ hgiv.out).mono ?_; rintro e w1 ⟨v6, rfl, hV1, hb1⟩; obtain ⟨A1, c1, e1⟩ := Kd.R_slice hV1; subst e1; have hB1 := below_next hb0 hb1; clear hb0 hb1)
    | (go_at_call 9; refine (stream_Put.calls _ _ _ _ _ _ A1 c1 L2 _ _ _ (Kd.C_alloc (Kd.R_reads' hV1).2.2 _) (Kd.R_reads' hV1).2.1 hput.out).mono ?_; rintro e w8 ⟨rfl, hb8⟩; have hB8 := below_next (L.below_alloc hB1 _) hb8; clear hb8 hV1 hB1)
    | (go_at_call 13; refine (descantlaw0_Num.calls _ _ _ rfl).mono ?_; rintro e w9 ⟨rfl, ⟨⟨m9, rfl⟩⟩⟩; have hB9 := L.below_drewN hB8 m9))
  go_ret
  exact ⟨rfl, hB9⟩
set_option maxHeartbeats 4000000 in
set_option maxRecDepth 100000 in
theorem forms_7 (which x E : Int) (w : World) (hU : Int.tmod (IntKind.u64.wrap which) 13 = 7) (hE : bits .and .i64 x 1023 = E) (h0 : 0 ≤ E) (h1 : E ≤ 1023) :
    Calls Try.prog 4 #[.int .i64 which, .int .i64 x] w fun e w' => e = .returned (.bool true) ∧ Below w.heap.size w w' := by
  have hm : mayOk 1 8 4 (4096 + (1 + E)) headS tailS [segS0, segS1] = false := may_not (by omega)
  have hput := Lib.hid (put_not (by simp) hm)
  clear hm
  have hgiv := Lib.hid given_is
  generalize headS = HS at *
  generalize tailS = TS at *
  generalize [segS0, segS1] = L2 at *
  go_enter Try.func4, Try.ntmps4
  go_wp2_with (first
    | (go_at_call 16; refine (descantlaw23_awake.calls _ _ rfl).mono ?_; rintro e w0 ⟨rfl, hb0⟩)
    | (go_at_call 17; refine (descantlaw23_given.calls _ _ _ _ _ _ _ _ hgiv.out).mono ?_; rintro e w1 ⟨v6, rfl, hV1, hb1⟩; obtain ⟨A1, c1, e1⟩ := Kd.R_slice hV1; subst e1; have hB1 := below_next hb0 hb1; clear hb0 hb1)
    | (go_at_call 9; refine (stream_Put.calls _ _ _ _ _ _ A1 c1 L2 _ _ _ (Kd.C_alloc (Kd.R_reads' hV1).2.2 _) (Kd.R_reads' hV1).2.1 hput.out).mono ?_; rintro e w8 ⟨rfl, hb8⟩; have hB8 := below_next (L.below_alloc hB1 _) hb8; clear hb8 hV1 hB1)
    | (go_at_call 13; refine (descantlaw0_Num.calls _ _ _ rfl).mono ?_; rintro e w9 ⟨rfl, ⟨⟨m9, rfl⟩⟩⟩; have hB9 := L.below_drewN hB8 m9))
  go_ret
  exact ⟨rfl, hB9⟩
set_option maxHeartbeats 4000000 in
set_option maxRecDepth 100000 in
theorem forms_8 (which x E : Int) (w : World) (hU : Int.tmod (IntKind.u64.wrap which) 13 = 8) (hE : bits .and .i64 x 1023 = E) (h0 : 0 ≤ E) (h1 : E ≤ 1023) :
    Calls Try.prog 4 #[.int .i64 which, .int .i64 x] w fun e w' => e = .returned (.bool true) ∧ Below w.heap.size w w' := by
  obtain ⟨Z, hZ⟩ : ∃ Z : ByteArray, strOfNums (List.replicate (4096 + (1 + E)).toNat 0) = Z := ⟨_, rfl⟩
  have hZs : (Z.size : Int) = 4097 + E := by rw [← hZ, zeros_size]; omega
  have hm : mayOk 1 8 4 7 Z tailS [segS0, segS1] = false := may_not (by omega)
  have hput := Lib.hid (put_not (by simp) hm)
  clear hm
  replace hZ := Lib.hid hZ
  clear hZs
  have hgiv := Lib.hid given_is
  generalize headS = HS at *
  generalize tailS = TS at *
  generalize [segS0, segS1] = L2 at *
  go_enter Try.func4, Try.ntmps4
  go_wp2_with (first
    | (go_at_call 16; refine (descantlaw23_awake.calls _ _ rfl).mono ?_; rintro e w0 ⟨rfl, hb0⟩)
    | (go_at_call 17; refine (descantlaw23_given.calls _ _ _ _ _ _ _ _ hgiv.out).mono ?_; rintro e w1 ⟨v6, rfl, hV1, hb1⟩; obtain ⟨A1, c1, e1⟩ := Kd.R_slice hV1; subst e1; have hB1 := below_next hb0 hb1; clear hb0 hb1; have hle := hB1.size)
    | ((with_reducible refine gate_dst (N := 60) rfl ?_); refine Kd.R_make (Kd.int .u8) (w0 := w1.alloc (.cells #[.int .i64 1, .int .i64 8, .int .i64 4, .int .i64 7, .string HS, .string TS, .slice A1 L2.length c1] 26)) _ 5 rfl (N := 60) rfl 44 _ _ rfl (4096 + (1 + E)) rfl rfl Try.underlying44 (.int .u8 0) 1 info5 rfl (by decide) (by omega) 0 (ok := fun _ => True) (okp := fun _ => True) rfl (fun _ hk => hk) trivial (by omega) (by omega) (Below.refl _ _) (Nat.le_refl _) ?_; intro v3 w3 hO3 hb3 hg_ hnew_; clear hg_ hnew_; have hX3 := BC.below (BC.new w1 [.int .i64 1, .int .i64 8, .int .i64 4, .int .i64 7, .string HS, .string TS, .slice A1 L2.length c1] 26) hb3; have hV3 := Kd.R_below (Kd.R_alloc hV1 (.cells #[.int .i64 1, .int .i64 8, .int .i64 4, .int .i64 7, .string HS, .string TS, .slice A1 L2.length c1] 26)) hb3; have hB3 := below_next (L.below_alloc hB1 (.cells #[.int .i64 1, .int .i64 8, .int .i64 4, .int .i64 7, .string HS, .string TS, .slice A1 L2.length c1] 26)) hb3; clear hb3 hV1 hB1; have hcv := own_string (P := Try.prog) Try.underlying44 Try.underlying5 Try.underlying9 (Kd.own_of_R hO3); rw [hZ.out] at hcv; have k0 := BC.at_ hX3 (o := 0) rfl; have f0 := BC.frozen hX3 0; have k1 := BC.at_ hX3 (o := 1) rfl; have f1 := BC.frozen hX3 1; have k2 := BC.at_ hX3 (o := 2) rfl; have f2 := BC.frozen hX3 2; have k3 := BC.at_ hX3 (o := 3) rfl; have f3 := BC.frozen hX3 3; have k4 := BC.at_ hX3 (o := 4) rfl; have f4 := BC.frozen hX3 4; have k5 := BC.at_ hX3 (o := 5) rfl; have f5 := BC.frozen hX3 5; have k6 := BC.at_ hX3 (o := 6) rfl; have f6 := BC.frozen hX3 6)
    | (go_at_call 9; refine (stream_Put.calls _ _ _ _ _ _ A1 c1 L2 _ _ _ (Kd.R_reads' (R_setB hV3 hX3 (by decide) 4 (.string Z))).2.2 (Kd.R_reads' hV3).2.1 hput.out).mono ?_; rintro e w8 ⟨rfl, hb8⟩; have hB8 := below_next (hB3.setCell (p := ⟨w1.heap.size, 4, none⟩) (by show w.heap.size ≤ w1.heap.size; exact hle) (.string Z)) hb8; clear hb8 hV3 hB3 k0 k1 k2 k3 k4 k5 k6 f0 f1 f2 f3 f4 f5 f6 hcv)
    | (go_at_call 13; refine (descantlaw0_Num.calls _ _ _ rfl).mono ?_; rintro e w9 ⟨rfl, ⟨⟨m9, rfl⟩⟩⟩; have hB9 := L.below_drewN hB8 m9))
  go_ret
  exact ⟨rfl, hB9⟩
set_option maxHeartbeats 4000000 in
set_option maxRecDepth 100000 in
theorem forms_9 (which x E : Int) (w : World) (hU : Int.tmod (IntKind.u64.wrap which) 13 = 9) (hE : bits .and .i64 x 1023 = E) (h0 : 0 ≤ E) (h1 : E ≤ 1023) :
    Calls Try.prog 4 #[.int .i64 which, .int .i64 x] w fun e w' => e = .returned (.bool true) ∧ Below w.heap.size w w' := by
  obtain ⟨Z, hZ⟩ : ∃ Z : ByteArray, strOfNums (List.replicate (4096 + (1 + E)).toNat 0) = Z := ⟨_, rfl⟩
  have hZs : (Z.size : Int) = 4097 + E := by rw [← hZ, zeros_size]; omega
  have hm : mayOk 1 8 4 7 headS Z [segS0, segS1] = false := may_not (by omega)
  have hput := Lib.hid (put_not (by simp) hm)
  clear hm
  replace hZ := Lib.hid hZ
  clear hZs
  have hgiv := Lib.hid given_is
  generalize headS = HS at *
  generalize tailS = TS at *
  generalize [segS0, segS1] = L2 at *
  go_enter Try.func4, Try.ntmps4
  go_wp2_with (first
    | (go_at_call 16; refine (descantlaw23_awake.calls _ _ rfl).mono ?_; rintro e w0 ⟨rfl, hb0⟩)
    | (go_at_call 17; refine (descantlaw23_given.calls _ _ _ _ _ _ _ _ hgiv.out).mono ?_; rintro e w1 ⟨v6, rfl, hV1, hb1⟩; obtain ⟨A1, c1, e1⟩ := Kd.R_slice hV1; subst e1; have hB1 := below_next hb0 hb1; clear hb0 hb1; have hle := hB1.size)
    | ((with_reducible refine gate_dst (N := 67) rfl ?_); refine Kd.R_make (Kd.int .u8) (w0 := w1.alloc (.cells #[.int .i64 1, .int .i64 8, .int .i64 4, .int .i64 7, .string HS, .string TS, .slice A1 L2.length c1] 26)) _ 5 rfl (N := 67) rfl 44 _ _ rfl (4096 + (1 + E)) rfl rfl Try.underlying44 (.int .u8 0) 1 info5 rfl (by decide) (by omega) 0 (ok := fun _ => True) (okp := fun _ => True) rfl (fun _ hk => hk) trivial (by omega) (by omega) (Below.refl _ _) (Nat.le_refl _) ?_; intro v3 w3 hO3 hb3 hg_ hnew_; clear hg_ hnew_; have hX3 := BC.below (BC.new w1 [.int .i64 1, .int .i64 8, .int .i64 4, .int .i64 7, .string HS, .string TS, .slice A1 L2.length c1] 26) hb3; have hV3 := Kd.R_below (Kd.R_alloc hV1 (.cells #[.int .i64 1, .int .i64 8, .int .i64 4, .int .i64 7, .string HS, .string TS, .slice A1 L2.length c1] 26)) hb3; have hB3 := below_next (L.below_alloc hB1 (.cells #[.int .i64 1, .int .i64 8, .int .i64 4, .int .i64 7, .string HS, .string TS, .slice A1 L2.length c1] 26)) hb3; clear hb3 hV1 hB1; have hcv := own_string (P := Try.prog) Try.underlying44 Try.underlying5 Try.underlying9 (Kd.own_of_R hO3); rw [hZ.out] at hcv; have k0 := BC.at_ hX3 (o := 0) rfl; have f0 := BC.frozen hX3 0; have k1 := BC.at_ hX3 (o := 1) rfl; have f1 := BC.frozen hX3 1; have k2 := BC.at_ hX3 (o := 2) rfl; have f2 := BC.frozen hX3 2; have k3 := BC.at_ hX3 (o := 3) rfl; have f3 := BC.frozen hX3 3; have k4 := BC.at_ hX3 (o := 4) rfl; have f4 := BC.frozen hX3 4; have k5 := BC.at_ hX3 (o := 5) rfl; have f5 := BC.frozen hX3 5; have k6 := BC.at_ hX3 (o := 6) rfl; have f6 := BC.frozen hX3 6)
    | (go_at_call 9; refine (stream_Put.calls _ _ _ _ _ _ A1 c1 L2 _ _ _ (Kd.R_reads' (R_setB hV3 hX3 (by decide) 5 (.string Z))).2.2 (Kd.R_reads' hV3).2.1 hput.out).mono ?_; rintro e w8 ⟨rfl, hb8⟩; have hB8 := below_next (hB3.setCell (p := ⟨w1.heap.size, 5, none⟩) (by show w.heap.size ≤ w1.heap.size; exact hle) (.string Z)) hb8; clear hb8 hV3 hB3 k0 k1 k2 k3 k4 k5 k6 f0 f1 f2 f3 f4 f5 f6 hcv)
    | (go_at_call 13; refine (descantlaw0_Num.calls _ _ _ rfl).mono ?_; rintro e w9 ⟨rfl, ⟨⟨m9, rfl⟩⟩⟩; have hB9 := L.below_drewN hB8 m9))
  go_ret
  exact ⟨rfl, hB9⟩
set_option maxHeartbeats 4000000 in
set_option maxRecDepth 100000 in
theorem forms_10 (which x E : Int) (w : World) (hU : Int.tmod (IntKind.u64.wrap which) 13 = 10) (hE : bits .and .i64 x 1023 = E) (h0 : 0 ≤ E) (h1 : E ≤ 1023) :
    Calls Try.prog 4 #[.int .i64 which, .int .i64 x] w fun e w' => e = .returned (.bool true) ∧ Below w.heap.size w w' := by
  have hm : mayOk 1 8 4 7 headS tailS [segS0, ⟨#[115, 101, 103, 109, 101, 110, 116]⟩] = false := by decide +kernel
  have hput := Lib.hid (put_not (by simp) hm)
  clear hm
  have hgiv := Lib.hid given_is
  have hset := Lib.hid (show [segS0, segS1].set (1 : Int).toNat ⟨#[115, 101, 103, 109, 101, 110, 116]⟩ = [segS0, ⟨#[115, 101, 103, 109, 101, 110, 116]⟩] from rfl)
  have hlen := Lib.hid (show [segS0, segS1].length = 2 from rfl)
  obtain ⟨L3, hL3⟩ : ∃ L3, [segS0, ⟨#[115, 101, 103, 109, 101, 110, 116]⟩] = L3 := ⟨_, rfl⟩
  rw [hL3] at hput hset
  have hlen3 := Lib.hid (show L3.length = 2 by rw [← hL3]; rfl)
  clear hL3
  generalize headS = HS at *
  generalize tailS = TS at *
  generalize [segS0, segS1] = L2 at *
  go_enter Try.func4, Try.ntmps4
  go_wp2_with (first
    | (go_at_call 16; refine (descantlaw23_awake.calls _ _ rfl).mono ?_; rintro e w0 ⟨rfl, hb0⟩; have hle := hb0.size)
    | (go_at_call 17; refine (descantlaw23_given.calls _ _ _ _ _ _ _ _ hgiv.out).mono ?_; rintro e w1 ⟨v6, rfl, hV1, hb1⟩; obtain ⟨g1, c1, e1, hge, hgl, -⟩ := Kd.R_form hV1 (by rw [hlen.out]; omega); subst e1; have hB1 := below_next hb0 hb1; clear hb0 hb1; have q1 : ((1 : Int) < (L2.length : Int)) = True := eq_true (by rw [hlen.out]; omega); have qi : (1 < L2.length) = True := eq_true (by rw [hlen.out]; omega); have z1 : (g1 = w1.heap.size) = False := eq_false (by omega); have z2 : (w1.heap.size = g1) = False := eq_false (by omega); have hVa := Kd.R_alloc hV1 (.cells #[.int .i64 1, .int .i64 8, .int .i64 4, .int .i64 7, .string HS, .string TS, .slice (some ⟨g1, 0, none⟩) L2.length c1] 26); obtain ⟨hx1, hf1⟩ := Kd.R_celln (⟨#[]⟩ : ByteArray) hVa (1 : Int) (by omega) (by rw [hlen.out]; omega); rw [show (1 : Int).toNat = 1 from rfl] at hx1 hf1)
    | (go_at_call 9; have hP := stream_Put.calls 1 8 4 7 HS TS (some ⟨g1, 0, none⟩) c1 L3 _ _ ((w1.setCell ⟨g1, 1, none⟩ (.string ⟨#[115, 101, 103, 109, 101, 110, 116]⟩)).alloc (.cells #[.int .i64 1, .int .i64 8, .int .i64 4, .int .i64 7, .string HS, .string TS, .slice (some ⟨g1, 0, none⟩) L2.length c1] 26)) (by have h := (Kd.R_reads' (Kd.R_putn hV1 (1 : Int) ⟨#[115, 101, 103, 109, 101, 110, 116]⟩)).2.2; rw [hset.out] at h; exact Kd.C_alloc h _) (by have h := (Kd.R_reads' hV1).2.1; rw [hlen3.out]; rw [hlen.out] at h; exact h) hput.out; rw [hlen3.out, ← hlen.out] at hP; refine hP.mono ?_; rintro e w8 ⟨rfl, hb8⟩; have hB8 := below_next (L.below_alloc (hB1.setCell (p := ⟨g1, 1, none⟩) (by show w.heap.size ≤ g1; exact Nat.le_trans hle hge) _) _) hb8; clear hP hb8 hV1 hB1 hVa hx1 hf1)
    | (go_at_call 13; refine (descantlaw0_Num.calls _ _ _ rfl).mono ?_; rintro e w9 ⟨rfl, ⟨⟨m9, rfl⟩⟩⟩; have hB9 := L.below_drewN hB8 m9))
  go_ret
  exact ⟨rfl, hB9⟩
set_option maxHeartbeats 4000000 in
set_option maxRecDepth 100000 in
theorem forms_11 (which x E : Int) (w : World) (hU : Int.tmod (IntKind.u64.wrap which) 13 = 11) (hE : bits .and .i64 x 1023 = E) (h0 : 0 ≤ E) (h1 : E ≤ 1023) :
    Calls Try.prog 4 #[.int .i64 which, .int .i64 x] w fun e w' => e = .returned (.bool true) ∧ Below w.heap.size w w' := by
  obtain ⟨Z, hZ⟩ : ∃ Z : ByteArray, strOfNums (List.replicate (65535 + (1 + E)).toNat 0) = Z := ⟨_, rfl⟩
  have hZs : (Z.size : Int) = 65536 + E := by rw [← hZ, zeros_size]; omega
  have hm : mayOk 1 8 4 7 headS tailS [Z, segS1] = false := by
    unfold mayOk
    rw [List.all_cons, show sizeOk (Z.size : Int) = false from decide_eq_false (by omega)]
    simp
  have hput := Lib.hid (put_not (by simp) hm)
  clear hm
  replace hZ := Lib.hid hZ
  clear hZs
  have hgiv := Lib.hid given_is
  have hset := Lib.hid (show [segS0, segS1].set (0 : Int).toNat Z = [Z, segS1] from rfl)
  have hlen := Lib.hid (show [segS0, segS1].length = 2 from rfl)
  obtain ⟨L3, hL3⟩ : ∃ L3, [Z, segS1] = L3 := ⟨_, rfl⟩
  rw [hL3] at hput hset
  have hlen3 := Lib.hid (show L3.length = 2 by rw [← hL3]; rfl)
  clear hL3
  generalize headS = HS at *
  generalize tailS = TS at *
  generalize [segS0, segS1] = L2 at *
  go_enter Try.func4, Try.ntmps4
  go_wp2_with (first
    | (go_at_call 16; refine (descantlaw23_awake.calls _ _ rfl).mono ?_; rintro e w0 ⟨rfl, hb0⟩; have hle := hb0.size)
    | (go_at_call 17; refine (descantlaw23_given.calls _ _ _ _ _ _ _ _ hgiv.out).mono ?_; rintro e w1 ⟨v6, rfl, hV1, hb1⟩; obtain ⟨g1, c1, e1, hge, hgl, -⟩ := Kd.R_form hV1 (by rw [hlen.out]; omega); subst e1; have hB1 := below_next hb0 hb1; clear hb0 hb1))
  have hX2 := BC.drew (BC.new w1 [.int .i64 1, .int .i64 8, .int .i64 4, .int .i64 7, .string HS, .string TS, .slice (some ⟨g1, 0, none⟩) L2.length c1] 26)
  have hV2 := Kd.R_drew (Kd.R_alloc hV1 (.cells #[.int .i64 1, .int .i64 8, .int .i64 4, .int .i64 7, .string HS, .string TS, .slice (some ⟨g1, 0, none⟩) L2.length c1] 26))
  have hB2 := L.below_drew (L.below_alloc hB1 (.cells #[.int .i64 1, .int .i64 8, .int .i64 4, .int .i64 7, .string HS, .string TS, .slice (some ⟨g1, 0, none⟩) L2.length c1] 26))
  have hgne : g1 ≠ w1.heap.size := by omega
  have hwl : w.heap.size ≤ g1 := Nat.le_trans hle hge
  have hwg : w.heap.size ≤ w1.heap.size := by omega
  clear hV1 hB1 hge hle
  refine start_ (n := 8) (S := fun w' => L.BC w' w1.heap.size 26 [.int .i64 1, .int .i64 8, .int .i64 4, .int .i64 7, .string HS, .string TS, .slice (some ⟨g1, 0, none⟩) L2.length c1]) (ds := [7]) #[false, false, false, false, false, false, false, false] (by kernel_rfl) rfl rfl hX2 (fun hHeld => ?_)
  generalize (w1.alloc (.cells #[.int .i64 1, .int .i64 8, .int .i64 4, .int .i64 7, .string HS, .string TS, .slice (some ⟨g1, 0, none⟩) L2.length c1] 26)).drew = w2 at hX2 hV2 hB2 hHeld ⊢
  have q1 : ((0 : Int) < (L2.length : Int)) = True := eq_true (by rw [hlen.out]; omega)
  have qi : (0 < L2.length) = True := eq_true (by rw [hlen.out]; omega)
  refine pure_ (i := 0) (N := (some 77)) (v := ?_) (a' := ?_) #[true, false, false, false, false, false, false, false] rfl rfl (by kernel_rfl) (fun _ _ _ h => h) (Or.inl ⟨by rfl, ?_⟩) ?_ ?_
  rotate_left
  · intro w'
    go_simp
    with_reducible rfl
  rotate_left
  · simp only [Act.put, List.setIfInBounds_toArray, List.set_cons_zero, List.set_cons_succ, i64_w, i32_w]
    rfl
  refine pure_ (i := 2) (N := (some 79)) (v := ?_) (a' := ?_) #[true, false, true, false, false, false, false, false] rfl rfl (by kernel_rfl) (fun _ _ _ h => h) (Or.inl ⟨by rfl, ?_⟩) ?_ ?_
  rotate_left
  · intro w'
    go_simp
    with_reducible rfl
  rotate_left
  · simp only [Act.put, List.setIfInBounds_toArray, List.set_cons_zero, List.set_cons_succ, i64_w, i32_w]
    rfl
  refine pure_ (i := 3) (N := (some 80)) (v := ?_) (a' := ?_) #[true, false, true, true, false, false, false, false] rfl rfl (by kernel_rfl) (fun _ _ _ h => h) (Or.inl ⟨by rfl, ?_⟩) ?_ ?_
  rotate_left
  · intro w'
    go_simp
    with_reducible rfl
  rotate_left
  · simp only [Act.put, List.setIfInBounds_toArray, List.set_cons_zero, List.set_cons_succ, i64_w, i32_w]
    rfl
  refine take_ (i := 1) (N := some 78) (v := .slice (some ⟨g1, 0, none⟩) L2.length c1) (a' := ?_) #[true, true, true, true, false, false, false, false] rfl rfl (by kernel_rfl) (fun _ _ _ h => h) (Or.inl ⟨by rfl, fun w' hS => by have s6 := BC.at_ hS (o := 6) rfl; go_simp⟩) hHeld ?_ ?_
  rotate_left
  · simp only [Act.put, List.setIfInBounds_toArray, List.set_cons_zero, List.set_cons_succ, i64_w, i32_w]
    rfl
  rw [show wrap64 (65535 + (1 + E)) = 65535 + (1 + E) from IntWalk.wrap64_in _ (by omega)]
  refine one_ (i := 4) (N := (some 81)) #[true, true, true, true, true, false, false, false] rfl rfl (by kernel_rfl) (by decide) (fun K hK => ?_)
  refine Kd.R_make_step (Kd.int .u8) (w0 := w2) _ 5 (by rfl) (N := 81) rfl 44 _ _ rfl (65535 + (1 + E)) rfl rfl Try.underlying44 (.int .u8 0) 1 info5 rfl (by decide) (by omega) 0 (ok := fun _ => True) (okp := fun _ => True) rfl (fun _ hk => hk) trivial (by omega) (by omega) (Below.refl _ _) (Nat.le_refl _) ?_
  intro v3 w3 hO3 hb3 hg_ hnew_
  clear hg_ hnew_
  have hX3 := BC.below hX2 hb3
  have hV3 := Kd.R_below hV2 hb3
  have hB3 := below_next hB2 hb3
  clear hX2 hV2 hB2 hHeld hb3
  refine hK.out _ _ hX3 (fun hHeld => ?_)
  clear hK K
  refine norm_ (a' := ?_) ?_ ?_
  rotate_left
  · show Act.put _ (some 81) _ = _
    simp only [Act.put, List.setIfInBounds_toArray, List.set_cons_zero, List.set_cons_succ, i64_w, i32_w]
    rfl
  have hcv := own_string (P := Try.prog) Try.underlying44 Try.underlying5 Try.underlying9 (Kd.own_of_R hO3)
  rw [hZ.out] at hcv
  refine one_ (i := 5) (N := (some 82)) #[true, true, true, true, true, true, false, false] rfl rfl (by kernel_rfl) (by decide) (fun K hK => ?_)
  refine value_ (w1 := w3) (v := .string Z) (by rfl) rfl ?_ ?_
  · go_simp
  clear hcv
  refine hK.out _ _ hX3 (fun hHeld => ?_)
  clear hK K
  refine norm_ (a' := ?_) ?_ ?_
  rotate_left
  · show Act.put _ (some 82) _ = _
    simp only [Act.put, List.setIfInBounds_toArray, List.set_cons_zero, List.set_cons_succ, i64_w, i32_w]
    rfl
  refine pure_ (i := 6) (N := (some 83)) (v := ?_) (a' := ?_) #[true, true, true, true, true, true, true, false] rfl rfl (by kernel_rfl) (fun _ _ _ h => h) (Or.inl ⟨by rfl, ?_⟩) ?_ ?_
  rotate_left
  · intro w'
    go_simp
    with_reducible rfl
  rotate_left
  · simp only [Act.put, List.setIfInBounds_toArray, List.set_cons_zero, List.set_cons_succ, i64_w, i32_w]
    rfl
  refine last_ (i := 7) (N := none) #[true, true, true, true, true, true, true, true] rfl rfl (by kernel_rfl) (by decide) (fun K hK => ?_)
  obtain ⟨hx1, hf1⟩ := Kd.R_celln (⟨#[]⟩ : ByteArray) hV3 (0 : Int) (by omega) (by rw [hlen.out]; omega)
  rw [show (0 : Int).toNat = 0 from rfl] at hx1 hf1
  refine skip_ (w1 := w3.setCell ⟨g1, 0, none⟩ (.string Z)) (by rfl) rfl ?_ ?_
  · go_simp
  have hX4 := BC.far hX3 (p := ⟨g1, 0, none⟩) hgne (.string Z)
  have hV4 := Kd.R_putn hV3 (0 : Int) Z
  have hB4 := hB3.setCell (p := ⟨g1, 0, none⟩) hwl (.string Z)
  rw [hset.out, show (0 : Int).toNat = 0 from rfl] at hV4
  clear hX3 hV3 hB3 hx1 hf1 hHeld q1 qi
  refine hK.out _ _ ?_
  clear hK K
  refine done_ (by kernel_rfl) ?_
  generalize w3.setCell ⟨g1, 0, none⟩ (.string Z) = w5 at *
  have k0 := BC.at_ hX4 (o := 0) rfl
  have k1 := BC.at_ hX4 (o := 1) rfl
  have k2 := BC.at_ hX4 (o := 2) rfl
  have k3 := BC.at_ hX4 (o := 3) rfl
  have k4 := BC.at_ hX4 (o := 4) rfl
  have k5 := BC.at_ hX4 (o := 5) rfl
  have k6 := BC.at_ hX4 (o := 6) rfl
  go_wp2_with (first
    | (go_at_call 9; have hP := stream_Put.calls 1 8 4 7 HS TS (some ⟨g1, 0, none⟩) c1 L3 _ _ w5 (Kd.R_reads' hV4).2.2 (by have h := (Kd.R_reads' hV4).2.1; rw [hlen3.out]; rw [hlen.out] at h; exact h) hput.out; rw [hlen3.out, ← hlen.out] at hP; refine hP.mono ?_; rintro e w8 ⟨rfl, hb8⟩; have hB8 := below_next hB4 hb8; clear hP hb8 hV4 hB4 k0 k1 k2 k3 k4 k5 k6)
    | (go_at_call 13; refine (descantlaw0_Num.calls _ _ _ rfl).mono ?_; rintro e w9 ⟨rfl, ⟨⟨m9, rfl⟩⟩⟩; have hB9 := L.below_drewN hB8 m9))
  go_ret
  exact ⟨rfl, hB9⟩
set_option maxHeartbeats 4000000 in
set_option maxRecDepth 100000 in
theorem forms_12 (which x E : Int) (w : World) (hU : Int.tmod (IntKind.u64.wrap which) 13 = 12) (hE : bits .and .i64 x 1023 = E) (h0 : 0 ≤ E) (h1 : E ≤ 1023) :
    Calls Try.prog 4 #[.int .i64 which, .int .i64 x] w fun e w' => e = .returned (.bool true) ∧ Below w.heap.size w w' := by
  have hm : mayOk 1 8 4 7 headS tailS [segS0] = false := by decide +kernel
  have hput := Lib.hid (put_not (by simp) hm)
  clear hm
  have hgiv := Lib.hid given_is
  have htake := Lib.hid (show [segS0, segS1].take 1 = [segS0] from rfl)
  have hlen := Lib.hid (show [segS0, segS1].length = 2 from rfl)
  obtain ⟨L3, hL3⟩ : ∃ L3, [segS0] = L3 := ⟨_, rfl⟩
  rw [hL3] at hput htake
  have hlen3 := Lib.hid (show L3.length = 1 by rw [← hL3]; rfl)
  clear hL3
  generalize headS = HS at *
  generalize tailS = TS at *
  generalize [segS0, segS1] = L2 at *
  go_enter Try.func4, Try.ntmps4
  go_wp2_with (first
    | (go_at_call 16; refine (descantlaw23_awake.calls _ _ rfl).mono ?_; rintro e w0 ⟨rfl, hb0⟩)
    | (go_at_call 17; refine (descantlaw23_given.calls _ _ _ _ _ _ _ _ hgiv.out).mono ?_; rintro e w1 ⟨v6, rfl, hV1, hb1⟩; obtain ⟨A1, c1, e1⟩ := Kd.R_slice hV1; subst e1; have hB1 := below_next hb0 hb1; clear hb0 hb1; have hc1 : 1 ≤ c1 := (by have := (Kd.R_reads' hV1).2.1; rw [hlen.out] at this; omega); have hc2 : (1 : Int) ≤ (c1 : Int) := (by omega))
    | (go_at_call 9; have hP := stream_Put.calls 1 8 4 7 HS TS A1 c1 L3 _ _ (w1.alloc (.cells #[.int .i64 1, .int .i64 8, .int .i64 4, .int .i64 7, .string HS, .string TS, .slice A1 1 c1] 26)) (by rw [← htake.out]; exact Kd.C_take (Kd.C_alloc (Kd.R_reads' hV1).2.2 _) (by rw [hlen.out]; omega)) (by rw [hlen3.out]; exact hc1) hput.out; rw [hlen3.out] at hP; refine hP.mono ?_; rintro e w8 ⟨rfl, hb8⟩; have hB8 := below_next (L.below_alloc hB1 _) hb8; clear hP hb8 hV1 hB1)
    | (go_at_call 13; refine (descantlaw0_Num.calls _ _ _ rfl).mono ?_; rintro e w9 ⟨rfl, ⟨⟨m9, rfl⟩⟩⟩; have hB9 := L.below_drewN hB8 m9))
  go_ret
  exact ⟨rfl, hB9⟩
theorem forms_walk (which x : Int) (w : World) (hx : (Lit.int .i64 which).wf = true) : Calls Try.prog 4 #[.int .i64 which, .int .i64 x] w fun e w' => e = .returned (.bool true) ∧ Below w.heap.size w w' := by
  obtain ⟨h0, h1⟩ := and_k x 1023 (by decide)
  have hu : 0 ≤ IntKind.u64.wrap which := by
    have : IntKind.u64.wrap which = which % 18446744073709551616 := by simp [IntKind.wrap, IntKind.bits, IntKind.signed]
    omega
  have ht : Int.tmod (IntKind.u64.wrap which) 13 = IntKind.u64.wrap which % 13 := Int.tmod_eq_emod_of_nonneg hu
  have hc : Int.tmod (IntKind.u64.wrap which) 13 = 0 ∨ Int.tmod (IntKind.u64.wrap which) 13 = 1 ∨ Int.tmod (IntKind.u64.wrap which) 13 = 2 ∨ Int.tmod (IntKind.u64.wrap which) 13 = 3 ∨ Int.tmod (IntKind.u64.wrap which) 13 = 4 ∨ Int.tmod (IntKind.u64.wrap which) 13 = 5 ∨ Int.tmod (IntKind.u64.wrap which) 13 = 6 ∨ Int.tmod (IntKind.u64.wrap which) 13 = 7 ∨ Int.tmod (IntKind.u64.wrap which) 13 = 8 ∨ Int.tmod (IntKind.u64.wrap which) 13 = 9 ∨ Int.tmod (IntKind.u64.wrap which) 13 = 10 ∨ Int.tmod (IntKind.u64.wrap which) 13 = 11 ∨ Int.tmod (IntKind.u64.wrap which) 13 = 12 := by omega
  rcases hc with h | h | h | h | h | h | h | h | h | h | h | h | h
  · exact forms_0 which x _ w h rfl h0 h1
  · exact forms_1 which x _ w h rfl h0 h1
  · exact forms_2 which x _ w h rfl h0 h1
  · exact forms_3 which x _ w h rfl h0 h1
  · exact forms_4 which x _ w h rfl h0 h1
  · exact forms_5 which x _ w h rfl h0 h1
  · exact forms_6 which x _ w h rfl h0 h1
  · exact forms_7 which x _ w h rfl h0 h1
  · exact forms_8 which x _ w h rfl h0 h1
  · exact forms_9 which x _ w h rfl h0 h1
  · exact forms_10 which x _ w h rfl h0 h1
  · exact forms_11 which x _ w h rfl h0 h1
  · exact forms_12 which x _ w h rfl h0 h1
end Go.Proofs.Ytokegkpbbhegpaa.PS
