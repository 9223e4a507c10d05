/- The document's headOf, where its head may be; and whatever the text. -/
import Derived.Test.YtokegkpbbhegpaaWHeadR
namespace Go.Proofs.Ytokegkpbbhegpaa.PT
open Go.RowKit Go.Proofs.YtokegkpbbhegpaaW.PrintWords Go.Proofs.YtokegkpbbhegpaaW.PrintLast Go.Proofs.YtokegkpbbhegpaaW.PrintMore Go.Proofs.Ytokegkpbbhegpaa.L
set_option linter.unusedVariables false
set_option linter.unusedSimpArgs false

set_option maxHeartbeats 8000000 in
set_option maxRecDepth 100000 in
theorem headr_yes (s : ByteArray) (w : World) (hs : s.size ≤ 65536) (hs7 : 7 ≤ s.size) (hd : (s.extract 0 4).toList = [68, 83, 67, 84]) (F1 F2 F3 H1 H2 H3 T1 T2 T3 M : Int)
    (hF : Hid (descantref1_GetVarint.f 40 s 7 = some (F1, F2, F3))) (hH : Hid (descantref1_GetVarint.f 40 s F2 = some (H1, H2, H3))) (hT : Hid (descantref1_GetVarint.f 40 s H2 = some (T1, T2, T3)))
    (bF : 0 ≤ F1 ∧ F1 ≤ 4294967295) (bH : 0 ≤ H1 ∧ H1 ≤ 4294967295) (bT : 0 ≤ T1 ∧ T1 ≤ 4294967295) (bT2 : 0 ≤ T2 ∧ T2 ≤ s.size)
    (e1 : (F3 != 0) = false) (e2 : (H3 != 0) = false) (e3 : (T3 != 0) = false) (e4 : Hid (descantref13_FormatMay.f (bt s 4) (bt s 5) = some true)) (e5 : Hid (descantref13_upTo.f (bt s 6) 1 64 = some true))
    (e6 : decide (4096 < F1) = false) (e7 : decide (4096 < H1) = false) (e8 : decide (4096 < T1) = false) (e9 : decide ((s.size : Int) - T2 < H1 + T1) = false)
    (m1 : Hid (descantref13_Many.f F1 (bt s 6) = some M)) (m2 : 0 ≤ M) (m3 : M ≤ 4159) (m4 : H1 ≤ 4096) (m5 : T1 ≤ 4096) (m6 : T2 + H1 + T1 ≤ s.size) (m7 : 2 * M + 4 ≤ (s.size : Int) - (T2 + H1 + T1)) (e10 : decide ((s.size : Int) - (T2 + H1 + T1) < 2 * M + 4) = false) :
    Calls Try.prog 36 #[.string s] w fun e w' => HeadPost w ((sizesV s M.toNat (T2 + H1 + T1) []).map (fun l => (bt s 4, bt s 5, bt s 6, F1, s.extract T2.toNat (T2 + H1).toNat, s.extract (T2 + H1).toNat (T2 + H1 + T1).toNat, l, T2 + H1 + T1 + 2 * M))) e w' := by
  obtain ⟨r, hr⟩ : ∃ r, (sizesV s M.toNat (T2 + H1 + T1) []).map (fun l => (bt s 4, bt s 5, bt s 6, F1, s.extract T2.toNat (T2 + H1).toNat, s.extract (T2 + H1).toNat (T2 + H1 + T1).toNat, l, T2 + H1 + T1 + 2 * M)) = r := ⟨_, rfl⟩
  rw [hr]
  replace hr := Lib.hid hr
  have d1 : decide ((65536 : Int) < (s.size : Int)) = false := decide_eq_false (by omega)
  have d2 : decide ((s.size : Int) < 7) = false := decide_eq_false (by omega)
  have d3 : ((s.extract 0 4).toList == ([68, 83, 67, 84] : List UInt8)) = true := by simpa using hd
  have d4 : ((4 : Int) ≤ (s.size : Int)) = True := eq_true (by omega)
  have hx4 : ∀ h : 4 < s.size, ((s[4]'h).toNat : Int) = bt s 4 := bt_at s 4
  have hx5 : ∀ h : 5 < s.size, ((s[5]'h).toNat : Int) = bt s 5 := bt_at s 5
  have hx6 : ∀ h : 6 < s.size, ((s[6]'h).toNat : Int) = bt s 6 := bt_at s 6
  have i4 : (4 < s.size) = True := eq_true (by omega)
  have i5 : (5 < s.size) = True := eq_true (by omega)
  have i6 : (6 < s.size) = True := eq_true (by omega)
  have j4 : ((4 : Int) < (s.size : Int)) = True := eq_true (by omega)
  have j5 : ((5 : Int) < (s.size : Int)) = True := eq_true (by omega)
  have j6 : ((6 : Int) < (s.size : Int)) = True := eq_true (by omega)
  have hu := Try.underlying23
  have hZ : L.BC (w.alloc (.cells #[.int .i64 0, .int .i64 0, .int .i64 0, .int .i64 0, .string ⟨#[]⟩, .string ⟨#[]⟩, .slice none 0 0] 26)).drew w.heap.size 26 zS := L.BC.drew (L.BC.new w zS 26)
  have hB := L.below_drew (L.below_alloc (Below.refl w.heap.size w) (.cells #[.int .i64 0, .int .i64 0, .int .i64 0, .int .i64 0, .string ⟨#[]⟩, .string ⟨#[]⟩, .slice none 0 0] 26))
  replace hd := Lib.hid hd
  go_enter Try.func36, Try.ntmps36
  go_wp2
  have wb4 : wrap64 (bt s 4) = bt s 4 := wrap_bt s 4
  have wb5 : wrap64 (bt s 5) = bt s 5 := wrap_bt s 5
  have wb6 : wrap64 (bt s 6) = bt s 6 := wrap_bt s 6
  refine start_ (n := 13) (S := fun w' => True) (ds := []) #[false, false, false, false, false, false, false, false, false, false, false, false, false] (by kernel_rfl) rfl rfl trivial (fun hHeld => ?_)
  generalize (w.alloc (.cells #[.int .i64 0, .int .i64 0, .int .i64 0, .int .i64 0, .string ⟨#[]⟩, .string ⟨#[]⟩, .slice none 0 0] 26)).drew = w1 at hZ hB hHeld ⊢
  refine pure_ (i := 0) (N := (some 32)) (v := ?_) (a' := ?_) #[true, false, false, false, false, false, false, false, false, false, false, false, false] rfl rfl (by kernel_rfl) (fun _ _ _ h => h) (Or.inl ⟨by rfl, ?_⟩) ?_ ?_
  rotate_left
  · intro w'
    go_simp
    with_reducible rfl
  rotate_left
  · simp only [Act.put, List.setIfInBounds_toArray, List.set_cons_zero, List.set_cons_succ, i64_w, i32_w, wb4, wb5, wb6]
    rfl
  refine pure_ (i := 1) (N := (some 33)) (v := ?_) (a' := ?_) #[true, true, false, false, false, false, false, false, false, false, false, false, false] rfl rfl (by kernel_rfl) (fun _ _ _ h => h) (Or.inl ⟨by rfl, ?_⟩) ?_ ?_
  rotate_left
  · intro w'
    go_simp
    with_reducible rfl
  rotate_left
  · simp only [Act.put, List.setIfInBounds_toArray, List.set_cons_zero, List.set_cons_succ, i64_w, i32_w, wb4, wb5, wb6]
    rfl
  refine pure_ (i := 2) (N := (some 34)) (v := ?_) (a' := ?_) #[true, true, true, false, false, false, false, false, false, false, false, false, false] rfl rfl (by kernel_rfl) (fun _ _ _ h => h) (Or.inl ⟨by rfl, ?_⟩) ?_ ?_
  rotate_left
  · intro w'
    go_simp
    with_reducible rfl
  rotate_left
  · simp only [Act.put, List.setIfInBounds_toArray, List.set_cons_zero, List.set_cons_succ, i64_w, i32_w, wb4, wb5, wb6]
    rfl
  refine pure_ (i := 3) (N := (some 35)) (v := ?_) (a' := ?_) #[true, true, true, true, false, false, false, false, false, false, false, false, false] rfl rfl (by kernel_rfl) (fun _ _ _ h => h) (Or.inl ⟨by rfl, ?_⟩) ?_ ?_
  rotate_left
  · intro w'
    go_simp
    with_reducible rfl
  rotate_left
  · simp only [Act.put, List.setIfInBounds_toArray, List.set_cons_zero, List.set_cons_succ, i64_w, i32_w, wb4, wb5, wb6]
    rfl
  refine pure_ (i := 4) (N := (some 36)) (v := ?_) (a' := ?_) #[true, true, true, true, true, false, false, false, false, false, false, false, false] rfl rfl (by kernel_rfl) (fun _ _ _ h => h) (Or.inl ⟨by rfl, ?_⟩) ?_ ?_
  rotate_left
  · intro w'
    go_simp
    with_reducible rfl
  rotate_left
  · simp only [Act.put, List.setIfInBounds_toArray, List.set_cons_zero, List.set_cons_succ, i64_w, i32_w, wb4, wb5, wb6]
    rfl
  refine pure_ (i := 5) (N := (some 37)) (v := ?_) (a' := ?_) #[true, true, true, true, true, true, false, false, false, false, false, false, false] rfl rfl (by kernel_rfl) (fun _ _ _ h => h) (Or.inl ⟨by rfl, ?_⟩) ?_ ?_
  rotate_left
  · intro w'
    go_simp
    with_reducible rfl
  rotate_left
  · simp only [Act.put, List.setIfInBounds_toArray, List.set_cons_zero, List.set_cons_succ, i64_w, i32_w, wb4, wb5, wb6]
    rfl
  refine pure_ (i := 6) (N := (some 38)) (v := ?_) (a' := ?_) #[true, true, true, true, true, true, true, false, false, false, false, false, false] rfl rfl (by kernel_rfl) (fun _ _ _ h => h) (Or.inl ⟨by rfl, ?_⟩) ?_ ?_
  rotate_left
  · intro w'
    go_simp
    with_reducible rfl
  rotate_left
  · simp only [Act.put, List.setIfInBounds_toArray, List.set_cons_zero, List.set_cons_succ, i64_w, i32_w, wb4, wb5, wb6]
    rfl
  refine pure_ (i := 7) (N := (some 39)) (v := ?_) (a' := ?_) #[true, true, true, true, true, true, true, true, false, false, false, false, false] rfl rfl (by kernel_rfl) (fun _ _ _ h => h) (Or.inl ⟨by rfl, ?_⟩) ?_ ?_
  rotate_left
  · intro w'
    go_simp
    with_reducible rfl
  rotate_left
  · simp only [Act.put, List.setIfInBounds_toArray, List.set_cons_zero, List.set_cons_succ, i64_w, i32_w, wb4, wb5, wb6]
    rfl
  refine pure_ (i := 8) (N := (some 40)) (v := ?_) (a' := ?_) #[true, true, true, true, true, true, true, true, true, false, false, false, false] rfl rfl (by kernel_rfl) (fun _ _ _ h => h) (Or.inl ⟨by rfl, ?_⟩) ?_ ?_
  rotate_left
  · intro w'
    go_simp
    with_reducible rfl
  rotate_left
  · simp only [Act.put, List.setIfInBounds_toArray, List.set_cons_zero, List.set_cons_succ, i64_w, i32_w, wb4, wb5, wb6]
    rfl
  refine pure_ (i := 9) (N := (some 41)) (v := ?_) (a' := ?_) #[true, true, true, true, true, true, true, true, true, true, false, false, false] rfl rfl (by kernel_rfl) (fun _ _ _ h => h) (Or.inl ⟨by rfl, ?_⟩) ?_ ?_
  rotate_left
  · intro w'
    go_simp
    with_reducible rfl
  rotate_left
  · simp only [Act.put, List.setIfInBounds_toArray, List.set_cons_zero, List.set_cons_succ, i64_w, i32_w, wb4, wb5, wb6]
    rfl
  refine pure_ (i := 10) (N := (some 42)) (v := ?_) (a' := ?_) #[true, true, true, true, true, true, true, true, true, true, true, false, false] rfl rfl (by kernel_rfl) (fun _ _ _ h => h) (Or.inl ⟨by rfl, ?_⟩) ?_ ?_
  rotate_left
  · intro w'
    go_simp
    with_reducible rfl
  rotate_left
  · simp only [Act.put, List.setIfInBounds_toArray, List.set_cons_zero, List.set_cons_succ, i64_w, i32_w, wb4, wb5, wb6]
    rfl
  refine one_ (i := 11) (N := (some 6)) #[true, true, true, true, true, true, true, true, true, true, true, true, false] rfl rfl (by kernel_rfl) (by decide) (fun K hK => ?_)
  refine box_step ?hg (N := 6) ?hd (cs := #[.int .i64 0, .int .i64 0, .int .i64 0, .int .i64 0, .string (⟨#[]⟩ : ByteArray), .string (⟨#[]⟩ : ByteArray), .slice none 0 0]) (t := 26) ?hr ?_; (case hd => rfl); (case hg => rfl); (case hr => first | (go_simp; done) | (go_simp; rfl))
  intro g2 hg2 w2 hbox hb2
  have hne : g2 ≠ w.heap.size := Nat.ne_of_gt (hg2 ▸ hZ.lt)
  have hle : w.heap.size ≤ g2 := hg2 ▸ hB.size
  replace hZ := L.BC.below hZ hb2
  replace hB := below_next hB hb2
  clear hb2 hg2
  refine hK.out _ _ trivial (fun hHeld => ?_)
  clear hK K
  refine norm_ (a' := ?_) ?_ ?_
  rotate_left
  · show Act.put _ (some 6) _ = _
    simp only [Act.put, List.setIfInBounds_toArray, List.set_cons_zero, List.set_cons_succ, i64_w, i32_w, wb4, wb5, wb6]
    rfl
  refine one_ (i := 12) (N := none) #[true, true, true, true, true, true, true, true, true, true, true, true, true] rfl rfl (by kernel_rfl) (by decide) (fun K hK => ?_)
  refine L.skip_over 26 (.tmp 6) (.tmp 42) g2 [.int .i64 0, .int .i64 0, .int .i64 0, .int .i64 0, .string ⟨#[]⟩, .string ⟨#[]⟩, .slice none 0 0] [.int .i64 (bt s 4), .int .i64 (bt s 5), .int .i64 (bt s 6), .int .i64 0, .string ⟨#[]⟩, .string ⟨#[]⟩, .slice none 0 0] (by rfl) rfl (by rfl) (by rfl) (by rfl) ⟨hbox⟩ rfl size_stream (by intro v hv; simp only [List.mem_cons, List.not_mem_nil, or_false] at hv; rcases hv with rfl | rfl | rfl | rfl | rfl | rfl | rfl <;> rfl) ?_
  have hX := L.BC.over (R := [.int .i64 (bt s 4), .int .i64 (bt s 5), .int .i64 (bt s 6), .int .i64 0, .string ⟨#[]⟩, .string ⟨#[]⟩, .slice none 0 0]) (L.BC.mk (cs := [.int .i64 0, .int .i64 0, .int .i64 0, .int .i64 0, .string ⟨#[]⟩, .string ⟨#[]⟩, .slice none 0 0]) hbox) rfl
  replace hZ := L.BC.beside hZ hne [.int .i64 (bt s 4), .int .i64 (bt s 5), .int .i64 (bt s 6), .int .i64 0, .string ⟨#[]⟩, .string ⟨#[]⟩, .slice none 0 0]
  replace hB := L.bc_below_setCells hle [.int .i64 (bt s 4), .int .i64 (bt s 5), .int .i64 (bt s 6), .int .i64 0, .string ⟨#[]⟩, .string ⟨#[]⟩, .slice none 0 0] 0 _ hB
  clear hbox
  generalize (World.setCells w2 g2 0 [.int .i64 (bt s 4), .int .i64 (bt s 5), .int .i64 (bt s 6), .int .i64 0, .string ⟨#[]⟩, .string ⟨#[]⟩, .slice none 0 0]) = w3 at *
  refine hK.out _ _ trivial (fun hHeld => ?_)
  clear hK K
  refine done_ (by kernel_rfl) ?_
  clear hHeld hx4 hx5 hx6 i4 i5 i6 j4 j5 j6 d1 d2 d3 d4
  replace wb4 := Lib.hid wb4
  replace wb5 := Lib.hid wb5
  replace wb6 := Lib.hid wb6
  have tk1 : True := trivial
  have tk2 : True := trivial
  have tk3 : True := trivial
  have s1 : IntKind.i64.wrap (T2 + H1) = T2 + H1 := IntWalk.i64_in _ (by omega)
  have s2 : IntKind.i64.wrap (T2 + H1 + T1) = T2 + H1 + T1 := IntWalk.i64_in _ (by omega)
  have s3 := eq_true (show 0 ≤ T2 by omega)
  have s4 := eq_true (show T2 ≤ T2 + H1 by omega)
  have s5 := eq_true (show T2 + H1 ≤ (s.size : Int) by omega)
  have s6 := eq_true (show 0 ≤ T2 + H1 by omega)
  have s7 := eq_true (show T2 + H1 ≤ T2 + H1 + T1 by omega)
  have s8 := eq_true (show T2 + H1 + T1 ≤ (s.size : Int) by omega)
  have s9 : IntKind.i64.wrap (2 * M) = 2 * M := IntWalk.i64_in _ (by omega)
  have s10 : IntKind.i64.wrap (2 * M + 4) = 2 * M + 4 := IntWalk.i64_in _ (by omega)
  have s11 : IntKind.i64.wrap ((s.size : Int) - (T2 + H1 + T1)) = (s.size : Int) - (T2 + H1 + T1) := IntWalk.i64_in _ (by omega)
  go_wp2_with (first
    | (go_at_call 50; have hguard := tk1; clear hguard tk1; refine (descantref1_GetVarint.calls 40 s 7 _ _ _ _ hF.out).mono ?_; rintro e w4 ⟨rfl, hb⟩; replace hZ := L.BC.below hZ hb; replace hX := L.BC.below hX hb; replace hB := below_next hB hb; clear hb)
    | (go_at_call 50; have hguard := tk2; clear hguard tk2; refine (descantref1_GetVarint.calls 40 s F2 _ _ _ _ hH.out).mono ?_; rintro e w5 ⟨rfl, hb⟩; replace hZ := L.BC.below hZ hb; replace hX := L.BC.below hX hb; replace hB := below_next hB hb; clear hb)
    | (go_at_call 50; have hguard := tk3; clear hguard tk3; refine (descantref1_GetVarint.calls 40 s H2 _ _ _ _ hT.out).mono ?_; rintro e w6 ⟨rfl, hb⟩; replace hZ := L.BC.below hZ hb; replace hX := L.BC.below hX hb; replace hB := below_next hB hb; clear hb; have x0 := L.BC.at_ hX (o := 0) rfl; have x1 := L.BC.at_ hX (o := 1) rfl; have x2 := L.BC.at_ hX (o := 2) rfl; have z0 := L.BC.at_ hZ (o := 0) rfl; have y0 := L.BC.frozen hZ 0; have z1 := L.BC.at_ hZ (o := 1) rfl; have y1 := L.BC.frozen hZ 1; have z2 := L.BC.at_ hZ (o := 2) rfl; have y2 := L.BC.frozen hZ 2; have z3 := L.BC.at_ hZ (o := 3) rfl; have y3 := L.BC.frozen hZ 3; have z4 := L.BC.at_ hZ (o := 4) rfl; have y4 := L.BC.frozen hZ 4; have z5 := L.BC.at_ hZ (o := 5) rfl; have y5 := L.BC.frozen hZ 5; have z6 := L.BC.at_ hZ (o := 6) rfl; have y6 := L.BC.frozen hZ 6)
    | (go_at_call 43; refine (descantref13_FormatMay.calls _ _ _ _ e4.out).mono ?_; rintro e w7 ⟨rfl, hb⟩; replace hZ := L.BC.below hZ hb; replace hX := L.BC.below hX hb; replace hB := below_next hB hb; clear hb; have x0 := L.BC.at_ hX (o := 0) rfl; have x1 := L.BC.at_ hX (o := 1) rfl; have x2 := L.BC.at_ hX (o := 2) rfl; have z0 := L.BC.at_ hZ (o := 0) rfl; have y0 := L.BC.frozen hZ 0; have z1 := L.BC.at_ hZ (o := 1) rfl; have y1 := L.BC.frozen hZ 1; have z2 := L.BC.at_ hZ (o := 2) rfl; have y2 := L.BC.frozen hZ 2; have z3 := L.BC.at_ hZ (o := 3) rfl; have y3 := L.BC.frozen hZ 3; have z4 := L.BC.at_ hZ (o := 4) rfl; have y4 := L.BC.frozen hZ 4; have z5 := L.BC.at_ hZ (o := 5) rfl; have y5 := L.BC.frozen hZ 5; have z6 := L.BC.at_ hZ (o := 6) rfl; have y6 := L.BC.frozen hZ 6)
    | (go_at_call 44; refine (descantref13_upTo.calls _ _ _ _ _ e5.out).mono ?_; rintro e w8 ⟨rfl, hd⟩; replace hZ := L.BC.below hZ hd.below; replace hX := L.BC.below hX hd.below; replace hB := below_next hB hd.below; clear hd; have x0 := L.BC.at_ hX (o := 0) rfl; have u0 := L.BC.frozen hX 0; have x1 := L.BC.at_ hX (o := 1) rfl; have u1 := L.BC.frozen hX 1; have x2 := L.BC.at_ hX (o := 2) rfl; have u2 := L.BC.frozen hX 2; have x3 := L.BC.at_ hX (o := 3) rfl; have u3 := L.BC.frozen hX 3; have x4 := L.BC.at_ hX (o := 4) rfl; have u4 := L.BC.frozen hX 4; have x5 := L.BC.at_ hX (o := 5) rfl; have u5 := L.BC.frozen hX 5; have x6 := L.BC.at_ hX (o := 6) rfl; have u6 := L.BC.frozen hX 6; have nz1 : (g2 = w.heap.size) = False := eq_false hne; have nz2 : (w.heap.size = g2) = False := eq_false (Ne.symm hne); have z0 := L.BC.at_ hZ (o := 0) rfl; have y0 := L.BC.frozen hZ 0; have z1 := L.BC.at_ hZ (o := 1) rfl; have y1 := L.BC.frozen hZ 1; have z2 := L.BC.at_ hZ (o := 2) rfl; have y2 := L.BC.frozen hZ 2; have z3 := L.BC.at_ hZ (o := 3) rfl; have y3 := L.BC.frozen hZ 3; have z4 := L.BC.at_ hZ (o := 4) rfl; have y4 := L.BC.frozen hZ 4; have z5 := L.BC.at_ hZ (o := 5) rfl; have y5 := L.BC.frozen hZ 5; have z6 := L.BC.at_ hZ (o := 6) rfl; have y6 := L.BC.frozen hZ 6)
    | (go_at_call 45; refine (descantref13_Many.calls _ _ _ _ m1.out).mono ?_; rintro e w9 ⟨rfl, hd⟩; have hXn := L.BC.below (L.BC.set (L.BC.set (L.BC.set hX 3 (.int .i64 F1)) 4 (.string (s.extract T2.toNat (T2 + H1).toNat))) 5 (.string (s.extract (T2 + H1).toNat (T2 + H1 + T1).toNat))) hd.below; have hZn := L.BC.below (L.BC.far (L.BC.far (L.BC.far hZ (p := ⟨g2, 3, none⟩) hne (.int .i64 F1)) (p := ⟨g2, 4, none⟩) hne (.string (s.extract T2.toNat (T2 + H1).toNat))) (p := ⟨g2, 5, none⟩) hne (.string (s.extract (T2 + H1).toNat (T2 + H1 + T1).toNat))) hd.below; have hBn := below_next ((((((hB).setCell (p := ⟨g2, 3, none⟩) hle (.int .i64 F1))).setCell (p := ⟨g2, 4, none⟩) hle (.string (s.extract T2.toNat (T2 + H1).toNat)))).setCell (p := ⟨g2, 5, none⟩) hle (.string (s.extract (T2 + H1).toNat (T2 + H1 + T1).toNat))) hd.below; clear hd hX hZ hB; have hX := hXn; have hZ := hZn; have hB := hBn; clear hXn hZn hBn; have z0 := L.BC.at_ hZ (o := 0) rfl; have y0 := L.BC.frozen hZ 0; have z1 := L.BC.at_ hZ (o := 1) rfl; have y1 := L.BC.frozen hZ 1; have z2 := L.BC.at_ hZ (o := 2) rfl; have y2 := L.BC.frozen hZ 2; have z3 := L.BC.at_ hZ (o := 3) rfl; have y3 := L.BC.frozen hZ 3; have z4 := L.BC.at_ hZ (o := 4) rfl; have y4 := L.BC.frozen hZ 4; have z5 := L.BC.at_ hZ (o := 5) rfl; have y5 := L.BC.frozen hZ 5; have z6 := L.BC.at_ hZ (o := 6) rfl; have y6 := L.BC.frozen hZ 6; have x0 := L.BC.at_ hX (o := 0) rfl; have x1 := L.BC.at_ hX (o := 1) rfl; have x2 := L.BC.at_ hX (o := 2) rfl; have x3 := L.BC.at_ hX (o := 3) rfl; have x4 := L.BC.at_ hX (o := 4) rfl; have x5 := L.BC.at_ hX (o := 5) rfl; have x6 := L.BC.at_ hX (o := 6) rfl))
  obtain ⟨Mn, rfl⟩ : ∃ Mn : Nat, M = (Mn : Int) := ⟨M.toNat, by omega⟩
  have hP0 : 0 ≤ T2 + H1 + T1 := by omega
  clear s1 s2 s3 s4 s5 s6 s7 s8 s9 s10 s11 e1 e2 e3 e6 e7 e8 e9 m4 m5 bF bH bT bT2
  generalize s.extract T2.toNat (T2 + H1).toNat = S1 at *
  generalize s.extract (T2 + H1).toNat (T2 + H1 + T1).toNat = S2 at *
  generalize T2 + H1 + T1 = P at *
  have hRES := hr.out
  rw [Int.toNat_natCast] at hRES
  clear hr
  clear e10
  go_loopg [8, 15, 16] Mn (fun kq v8 v15 v16 W => ∃ (i : Nat) (l : List Int), v16 = .int .i64 (i : Int) ∧ v8 = .int .i64 (P + 2 * (i : Int)) ∧ i + kq = Mn ∧ l.length = i ∧ L.BC W g2 26 [.int .i64 (bt s 4), .int .i64 (bt s 5), .int .i64 (bt s 6), .int .i64 F1, .string S1, .string S2, .slice none 0 0] ∧ L.BC W w.heap.size 26 zS ∧ Below w.heap.size w W ∧ Kd.R (Kd.int .i64) 3 W w.heap.size (fun _ => True) v15 l ∧ (sizesV s (Mn - i) (P + 2 * (i : Int)) l).map (fun l => (bt s 4, bt s 5, bt s 6, F1, S1, S2, l, P + 2 * (Mn : Int))) = r)
  case atStart => exact ⟨0, [], by simp, by simp, by omega, rfl, hX, hZ, hB, Kd.R_nil _ _ _ _ _, by simpa using hRES⟩
  case round =>
    clear hX hZ hB hRES
    obtain ⟨i, l, rfl, rfl, hi, hl, hX, hZ, hB, hV, hR⟩ := hrel
    by_cases c1 : i < Mn
    · have c1d : decide ((i : Int) < (Mn : Int)) = true := decide_eq_true (by omega)
      obtain ⟨q, hq⟩ : ∃ q, P + 2 * (i : Int) = q := ⟨_, rfl⟩
      have hqn : P + 2 * ((i + 1 : Nat) : Int) = q + 2 := by rw [← hq]; omega
      rw [hq] at hR
      have g0 : 0 ≤ q := by omega
      have g1 : q + 1 < s.size := by omega
      obtain ⟨n, hn⟩ : ∃ n, Mn - i = n + 1 := ⟨Mn - i - 1, by omega⟩
      have hn2 : Mn - (i + 1) = n := by omega
      rw [hn, sizesV] at hR
      have r0 := bt_range s q
      have r1 := bt_range s (q + 1)
      have wq : IntKind.i64.wrap (q + 1) = q + 1 := IntWalk.i64_in _ (by omega)
      have wq' : wrap64 (q + 1) = q + 1 := IntWalk.wrap64_in _ (by omega)
      have b0 : ∀ h : q.toNat < s.size, ((s[q.toNat]'h).toNat : Int) = bt s q := bt_at s q
      have b1 : ∀ h : (q + 1).toNat < s.size, ((s[(q + 1).toNat]'h).toNat : Int) = bt s (q + 1) := bt_at s (q + 1)
      have a0 := eq_true g0
      have a1 := eq_true (show q < (s.size : Int) by omega)
      have a2 := eq_true (show 0 ≤ q + 1 by omega)
      have a3 := eq_true g1
      have wr0 : wrap64 (bt s q) = bt s q := wrap_bt s q
      have wr1 : wrap64 (bt s (q + 1)) = bt s (q + 1) := wrap_bt s (q + 1)
      have wr2 : wrap64 (256 * bt s (q + 1)) = 256 * bt s (q + 1) := IntWalk.wrap64_in _ (by omega)
      have wr3 : wrap64 (bt s q + 256 * bt s (q + 1)) = bt s q + 256 * bt s (q + 1) := IntWalk.wrap64_in _ (by omega)
      go_wp2
      replace hX := L.BC.drew hX
      replace hZ := L.BC.drew hZ
      replace hB := L.below_drew hB
      replace hV := Kd.R_drew hV
      refine start_ (n := 12) (S := fun w' => True) (ds := []) #[false, false, false, false, false, false, false, false, false, false, false, false] (by kernel_rfl) rfl rfl trivial (fun hHeld => ?_)
      generalize wr.drew = w10 at hX hZ hB hV hHeld ⊢
      refine pure_ (i := 0) (N := (some 151)) (v := ?_) (a' := ?_) #[true, false, false, false, false, false, false, false, false, false, false, false] rfl rfl (by kernel_rfl) (fun _ _ _ h => h) (Or.inl ⟨by rfl, ?_⟩) ?_ ?_
      rotate_left
      · intro w'
        go_simp
        with_reducible rfl
      rotate_left
      · simp only [Act.put, List.setIfInBounds_toArray, List.set_cons_zero, List.set_cons_succ, i64_w, i32_w, wq', wr0, wr1, wr2, wr3]
        rfl
      refine pure_ (i := 1) (N := (some 152)) (v := ?_) (a' := ?_) #[true, true, false, false, false, false, false, false, false, false, false, false] rfl rfl (by kernel_rfl) (fun _ _ _ h => h) (Or.inl ⟨by rfl, ?_⟩) ?_ ?_
      rotate_left
      · intro w'
        go_simp
        with_reducible rfl
      rotate_left
      · simp only [Act.put, List.setIfInBounds_toArray, List.set_cons_zero, List.set_cons_succ, i64_w, i32_w, wq', wr0, wr1, wr2, wr3]
        rfl
      refine pure_ (i := 2) (N := (some 153)) (v := ?_) (a' := ?_) #[true, true, true, false, false, false, false, false, false, false, false, false] rfl rfl (by kernel_rfl) (fun _ _ _ h => h) (Or.inl ⟨by rfl, ?_⟩) ?_ ?_
      rotate_left
      · intro w'
        go_simp
        with_reducible rfl
      rotate_left
      · simp only [Act.put, List.setIfInBounds_toArray, List.set_cons_zero, List.set_cons_succ, i64_w, i32_w, wq', wr0, wr1, wr2, wr3]
        rfl
      refine pure_ (i := 3) (N := (some 154)) (v := ?_) (a' := ?_) #[true, true, true, true, false, false, false, false, false, false, false, false] rfl rfl (by kernel_rfl) (fun _ _ _ h => h) (Or.inl ⟨by rfl, ?_⟩) ?_ ?_
      rotate_left
      · intro w'
        go_simp
        with_reducible rfl
      rotate_left
      · simp only [Act.put, List.setIfInBounds_toArray, List.set_cons_zero, List.set_cons_succ, i64_w, i32_w, wq', wr0, wr1, wr2, wr3]
        rfl
      refine pure_ (i := 4) (N := (some 155)) (v := ?_) (a' := ?_) #[true, true, true, true, true, false, false, false, false, false, false, false] rfl rfl (by kernel_rfl) (fun _ _ _ h => h) (Or.inl ⟨by rfl, ?_⟩) ?_ ?_
      rotate_left
      · intro w'
        go_simp
        with_reducible rfl
      rotate_left
      · simp only [Act.put, List.setIfInBounds_toArray, List.set_cons_zero, List.set_cons_succ, i64_w, i32_w, wq', wr0, wr1, wr2, wr3]
        rfl
      refine pure_ (i := 5) (N := (some 156)) (v := ?_) (a' := ?_) #[true, true, true, true, true, true, false, false, false, false, false, false] rfl rfl (by kernel_rfl) (fun _ _ _ h => h) (Or.inl ⟨by rfl, ?_⟩) ?_ ?_
      rotate_left
      · intro w'
        go_simp
        with_reducible rfl
      rotate_left
      · simp only [Act.put, List.setIfInBounds_toArray, List.set_cons_zero, List.set_cons_succ, i64_w, i32_w, wq', wr0, wr1, wr2, wr3]
        rfl
      refine pure_ (i := 6) (N := (some 157)) (v := ?_) (a' := ?_) #[true, true, true, true, true, true, true, false, false, false, false, false] rfl rfl (by kernel_rfl) (fun _ _ _ h => h) (Or.inl ⟨by rfl, ?_⟩) ?_ ?_
      rotate_left
      · intro w'
        go_simp
        with_reducible rfl
      rotate_left
      · simp only [Act.put, List.setIfInBounds_toArray, List.set_cons_zero, List.set_cons_succ, i64_w, i32_w, wq', wr0, wr1, wr2, wr3]
        rfl
      refine pure_ (i := 7) (N := (some 158)) (v := ?_) (a' := ?_) #[true, true, true, true, true, true, true, true, false, false, false, false] rfl rfl (by kernel_rfl) (fun _ _ _ h => h) (Or.inl ⟨by rfl, ?_⟩) ?_ ?_
      rotate_left
      · intro w'
        go_simp
        with_reducible rfl
      rotate_left
      · simp only [Act.put, List.setIfInBounds_toArray, List.set_cons_zero, List.set_cons_succ, i64_w, i32_w, wq', wr0, wr1, wr2, wr3]
        rfl
      refine pure_ (i := 8) (N := (some 159)) (v := ?_) (a' := ?_) #[true, true, true, true, true, true, true, true, true, false, false, false] rfl rfl (by kernel_rfl) (fun _ _ _ h => h) (Or.inl ⟨by rfl, ?_⟩) ?_ ?_
      rotate_left
      · intro w'
        go_simp
        with_reducible rfl
      rotate_left
      · simp only [Act.put, List.setIfInBounds_toArray, List.set_cons_zero, List.set_cons_succ, i64_w, i32_w, wq', wr0, wr1, wr2, wr3]
        rfl
      refine pure_ (i := 9) (N := (some 160)) (v := ?_) (a' := ?_) #[true, true, true, true, true, true, true, true, true, true, false, false] rfl rfl (by kernel_rfl) (fun _ _ _ h => h) (Or.inl ⟨by rfl, ?_⟩) ?_ ?_
      rotate_left
      · intro w'
        go_simp
        with_reducible rfl
      rotate_left
      · simp only [Act.put, List.setIfInBounds_toArray, List.set_cons_zero, List.set_cons_succ, i64_w, i32_w, wq', wr0, wr1, wr2, wr3]
        rfl
      refine pure_ (i := 10) (N := (some 161)) (v := ?_) (a' := ?_) #[true, true, true, true, true, true, true, true, true, true, true, false] rfl rfl (by kernel_rfl) (fun _ _ _ h => h) (Or.inl ⟨by rfl, ?_⟩) ?_ ?_
      rotate_left
      · intro w'
        go_simp
        with_reducible rfl
      rotate_left
      · simp only [Act.put, List.setIfInBounds_toArray, List.set_cons_zero, List.set_cons_succ, i64_w, i32_w, wq', wr0, wr1, wr2, wr3]
        rfl
      refine pure_ (i := 11) (N := (some 17)) (v := ?_) (a' := ?_) #[true, true, true, true, true, true, true, true, true, true, true, true] rfl rfl (by kernel_rfl) (fun _ _ _ h => h) (Or.inl ⟨by rfl, ?_⟩) ?_ ?_
      rotate_left
      · intro w'
        go_simp
        with_reducible rfl
      rotate_left
      · simp only [Act.put, List.setIfInBounds_toArray, List.set_cons_zero, List.set_cons_succ, i64_w, i32_w, wq', wr0, wr1, wr2, wr3]
        rfl
      refine done_ (by kernel_rfl) ?_
      clear hHeld a0 a1 a2 a3 b0 b1 wr0 wr1 wr2 wr3 wq wq'
      replace hR := Lib.hid hR
      by_cases c9 : bt s q + 256 * bt s (q + 1) < 9
      · have c9d : decide (bt s q + 256 * bt s (q + 1) < 9) = true := decide_eq_true c9
        have hR2 := hR.out
        rw [if_pos c9] at hR2
        replace hR2 := Lib.hid hR2
        replace c9 := Lib.hid c9
        have z0 := L.BC.at_ hZ (o := 0) rfl; have y0 := L.BC.frozen hZ 0; have z1 := L.BC.at_ hZ (o := 1) rfl; have y1 := L.BC.frozen hZ 1; have z2 := L.BC.at_ hZ (o := 2) rfl; have y2 := L.BC.frozen hZ 2; have z3 := L.BC.at_ hZ (o := 3) rfl; have y3 := L.BC.frozen hZ 3; have z4 := L.BC.at_ hZ (o := 4) rfl; have y4 := L.BC.frozen hZ 4; have z5 := L.BC.at_ hZ (o := 5) rfl; have y5 := L.BC.frozen hZ 5; have z6 := L.BC.at_ hZ (o := 6) rfl; have y6 := L.BC.frozen hZ 6
        go_wp2
        have hr2 : r = none := hR2.out.symm
        subst hr2
        exact exit0 hZ hB rfl rfl rfl rfl rfl
      · have c9d : decide (bt s q + 256 * bt s (q + 1) < 9) = false := decide_eq_false c9
        have hR2 := hR.out
        rw [if_neg c9] at hR2
        replace hR2 := Lib.hid hR2
        replace c9 := Lib.hid c9
        obtain ⟨V, hVd⟩ : ∃ V, bt s q + 256 * bt s (q + 1) = V := ⟨_, rfl⟩
        rw [hVd] at hR2 ⊢
        rw [hVd] at c9d
        replace hR2 := Lib.hid hR2
        clear hR r0 r1
        have hVd := Lib.hid hVd
        replace hn := Lib.hid hn
        have hbnd : (l.length + 1) * 8 ≤ 140737488355328 := by omega
        replace hl := Lib.hid hl
        replace hq := Lib.hid hq
        have hq8 : (q : Int) + 2 ≤ 70000 := by omega
        have hi8 : (i : Int) + 1 ≤ 70000 := by omega
        go_wp2_with (first
          | ((with_reducible refine gate_builtin (b := .append) (xs := #[.tmp 165, .tmp 167]) rfl ?_); at_builtin; refine Kd.R_append (Kd.int .i64) (w0 := w) w.heap.size rfl (.tmp 165) (.tmp 167) 65 3 (.int .i64 0) 8 rfl Try.underlying65 info3 rfl (by decide) (by omega) u15 l V [.int .i64 V] (fun _ => True) (fun _ => False) rfl ((Eq.refl (Value.slice (some ⟨w10.heap.size, 0, none⟩) 1 1)).trans (by go_simp)) ?aP (fun _ hk => hk.elim) ?aF ?aO ?aB ?aS ?aL ?_; (case aP => exact rfl); (case aB => exact hB); (case aF => exact (fun _ _ => trivial)); (case aO => exact hV); (case aS => exact hB.size); (case aL => exact hbnd); intro v168 w11 hV11 hB11 hg hat; have hX11 := BC.grown hX hg (Kd.R_ne hV hX.blk (by decide)); have hZ11 := BC.grown hZ hg (Kd.R_ne hV hZ.blk (by decide)); clear hat hg hX hZ hV hB))
        obtain ⟨k, rfl⟩ : ∃ k, gk = k + 1 := ⟨gk - 1, by omega⟩
        go_roundg k
        case measure => omega
        case rel => exact ⟨i + 1, l ++ [V], by simp, by rw [hqn, hq.out], by omega, by rw [List.length_append, hl.out]; rfl, hX11, hZ11, hB11, hV11, by rw [hn2, hqn]; exact hR2.out⟩
    · obtain rfl : i = Mn := by omega
      have c1d : decide ((i : Int) < (i : Int)) = false := decide_eq_false (by omega)
      rw [Nat.sub_self, sizesV] at hR
      replace hR := Lib.hid hR
      have z0 := L.BC.at_ hZ (o := 0) rfl; have y0 := L.BC.frozen hZ 0; have z1 := L.BC.at_ hZ (o := 1) rfl; have y1 := L.BC.frozen hZ 1; have z2 := L.BC.at_ hZ (o := 2) rfl; have y2 := L.BC.frozen hZ 2; have z3 := L.BC.at_ hZ (o := 3) rfl; have y3 := L.BC.frozen hZ 3; have z4 := L.BC.at_ hZ (o := 4) rfl; have y4 := L.BC.frozen hZ 4; have z5 := L.BC.at_ hZ (o := 5) rfl; have y5 := L.BC.frozen hZ 5; have z6 := L.BC.at_ hZ (o := 6) rfl; have y6 := L.BC.frozen hZ 6
      have x0 := L.BC.at_ hX (o := 0) rfl; have x1 := L.BC.at_ hX (o := 1) rfl; have x2 := L.BC.at_ hX (o := 2) rfl; have x3 := L.BC.at_ hX (o := 3) rfl; have x4 := L.BC.at_ hX (o := 4) rfl; have x5 := L.BC.at_ hX (o := 5) rfl; have x6 := L.BC.at_ hX (o := 6) rfl
      have nz1 : (g2 = w.heap.size) = False := eq_false hne
      have nz2 : (w.heap.size = g2) = False := eq_false (Ne.symm hne)
      have hi9 : (i : Int) ≤ 4159 := m3
      go_wp2
      exact exitY (by rw [← hR.out]; rfl) hZ hV hB rfl rfl rfl rfl rfl
end Go.Proofs.Ytokegkpbbhegpaa.PT
