/- The document's GetStream, walked; it answers as stream.Get does; what is got is put again. -/
import Derived.Test.YtokegkpbbhegpaaWHeadT
/- What the document's GetStream answers, in lists and numbers; what its head's answer holds. -/
namespace Go.Proofs.Ytokegkpbbhegpaa.PT
open Go.RowKit Go.Proofs.YtokegkpbbhegpaaW.PrintWords Go.Proofs.YtokegkpbbhegpaaW.PrintLast Go.Proofs.YtokegkpbbhegpaaW.PrintMore Go.Proofs.Ytokegkpbbhegpaa.L
set_option linter.unusedVariables false
set_option linter.unusedSimpArgs false
theorem low_eq (v : Int) : descantref1_Low.f 40 v 4 = some (⟨(le4 v).toArray⟩ : ByteArray) := by
  simp [descantref1_Low.f, descantref1_Low.l0, wrap64]
  simp [strOfNums, le4, lowB, shr0, shr8, shr16, shr24]
/-- The segments, cut one after another; all of the text is used. -/
def partsV (s : ByteArray) : List Int → Int → List ByteArray → Option (List ByteArray)
  | [], p, a => if p = s.size then some a else none
  | z :: l, p, a => if (s.size : Int) - p < z then none else partsV s l (p + z) (a ++ [s.extract p.toNat (p + z).toNat])
/-- What GetStream answers: the seven fields and the number. -/
def getV (s : ByteArray) : Int × Int × Int × Int × ByteArray × ByteArray × List ByteArray × Int :=
  match headV s with
  | none => (0, 0, 0, 0, ⟨#[]⟩, ⟨#[]⟩, [], 2300)
  | some (b, c, z, f, h, t, l, p) =>
    if (s.extract p.toNat (p + 4).toNat).data.toList ≠ (sumB (s.extract 0 p.toNat).data.toList) then (0, 0, 0, 0, ⟨#[]⟩, ⟨#[]⟩, [], 2301)
    else match partsV s l (p + 4) [] with
      | none => (0, 0, 0, 0, ⟨#[]⟩, ⟨#[]⟩, [], 2300)
      | some a => (b, c, z, f, h, t, a, 0)
theorem sizesV_in {s : ByteArray} : ∀ (n : Nat) (p : Int) (a l : List Int), (∀ x ∈ a, 9 ≤ x ∧ x ≤ 65535) → sizesV s n p a = some l → (∀ x ∈ l, 9 ≤ x ∧ x ≤ 65535) ∧ l.length = a.length + n
  | 0, p, a, l, ha, h => by
    rw [sizesV] at h; cases h; exact ⟨ha, rfl⟩
  | n + 1, p, a, l, ha, h => by
    rw [sizesV] at h
    split at h
    · cases h
    · rename_i hc
      have r0 := bt_range s p
      have r1 := bt_range s (p + 1)
      obtain ⟨h1, h2⟩ := sizesV_in n _ _ l (by
        intro x hx
        rcases List.mem_append.1 hx with hx | hx
        · exact ha x hx
        · rw [List.mem_singleton] at hx; omega) h
      exact ⟨h1, by rw [h2, List.length_append, List.length_singleton]; omega⟩
theorem head_in {s : ByteArray} {b c z f : Int} {h t : ByteArray} {l : List Int} {p : Int} (hh : headV s = some (b, c, z, f, h, t, l, p)) : s.size ≤ 65536 ∧ 0 ≤ p ∧ p + 4 ≤ s.size ∧ (∀ x ∈ l, 9 ≤ x ∧ x ≤ 65535) ∧ l.length ≤ 4159 := by
  unfold headV at hh
  split at hh
  · cases hh
  rename_i h0
  split at hh
  · cases hh
  rename_i hok
  have hk : okV s (numV s) (numV2 s) (numV3 s) = true := by simpa using hok
  unfold okV at hk
  simp only [Bool.and_eq_true, decide_eq_true_eq] at hk
  obtain ⟨⟨⟨⟨⟨⟨⟨⟨k1, k2⟩, k3⟩, k4⟩, k5⟩, k6⟩, k7⟩, k8⟩, k9⟩ := hk
  have iF := varV_in (s := s) (p := 7) (by omega)
  have iH := varV_in (s := s) (p := (numV s).2.1) iF.1
  have iT := varV_in (s := s) (p := (numV2 s).2.1) iH.1
  have bF := varV_num (s := s) (p := 7) (by omega)
  have bH := varV_num (s := s) (p := (numV s).2.1) iF.1
  have bT := varV_num (s := s) (p := (numV2 s).2.1) iH.1
  have bF' : 0 ≤ (numV s).1 := bF.1
  have bH' : 0 ≤ (numV2 s).1 := bH.1
  have bT' : 0 ≤ (numV3 s).1 := bT.1
  have iT' : 0 ≤ (numV3 s).2.1 := iT.1
  obtain ⟨m1, m2, m3⟩ := many_ok bF' k6 k5.1 k5.2
  unfold tailV at hh
  split at hh
  · cases hh
  rename_i hc
  cases hv : sizesV s (many (numV s).1 (bt s 6)).toNat ((numV3 s).2.1 + (numV2 s).1 + (numV3 s).1) [] with
  | none => rw [hv] at hh; cases hh
  | some l' =>
    rw [hv] at hh
    simp only [Option.map_some, Option.some.injEq, Prod.mk.injEq] at hh
    obtain ⟨_, _, _, _, _, _, rfl, rfl⟩ := hh
    obtain ⟨q1, q2⟩ := sizesV_in _ _ [] _ (by intro x hx; cases hx) hv
    rw [List.length_nil] at q2
    exact ⟨by omega, by omega, by omega, q1, by omega⟩
end Go.Proofs.Ytokegkpbbhegpaa.PT
/- The document's GetStream, walked. -/
namespace Go.Proofs.Ytokegkpbbhegpaa.PT
open Go.RowKit Go.Proofs.YtokegkpbbhegpaaW.PrintWords Go.Proofs.YtokegkpbbhegpaaW.PrintLast Go.Proofs.YtokegkpbbhegpaaW.PrintMore Go.Proofs.Ytokegkpbbhegpaa.L
set_option linter.unusedVariables false
set_option linter.unusedSimpArgs false
theorem gets_ret {w W : World} {g : Nat} {cs : List Value} {e : Int} {a : Act} (hcs : cs.length = 7) (hI : L.BC W g 26 cs) (h2 : a.tmps.getD 2 undef = .pointer (some ⟨g, 0, none⟩)) (h3 : a.tmps.getD 3 undef = .int .i64 e) (hd : a.defers = []) {Q : Ending → World → Prop} (hQ : Q (.returned (.tuple #[.agg cs.toArray, .int .i64 e])) W) :
    bodyPost Try.prog Try.f12 Q Exit.ret a W := by
  refine bodyPost_ret (L.bc_resultst (P := Try.prog) Try.results12 _ _ g cs _ h2 hI.range Try.underlying26 rfl (by rw [hcs]; exact size_stream)) hd ?_
  rw [h3]; exact hQ
theorem gets_exit {w W : World} {e : Int} {a : Act} {cs : List Value} (hI : L.BC W w.heap.size 26 cs) (hl : cs.length = 7) (hb : Below w.heap.size w W) (h2 : a.tmps.getD 2 undef = .pointer (some ⟨w.heap.size, 0, none⟩)) (h3 : a.tmps.getD 3 undef = .int .i64 e) (hd : a.defers = []) :
    bodyPost Try.prog Try.f12 (fun x w' => GetPost w (noR e) x w') Exit.ret a (W.setCells w.heap.size 0 zS.toArray.toList) := by
  have hb' := L.bc_below_setCells (Nat.le_refl _) zS 0 W hb
  exact gets_ret (w := w) rfl (L.BC.over (R := zS) hI hl) h2 h3 hd ⟨_, rfl, Kd.R_nil _ _ _ _ _, hb'⟩
theorem gets_ok {w W : World} {a : Act} {cs : List Value} {r : GetR} {c b s f : Int} {h t : ByteArray} {l : List ByteArray} {v : Value} (hr : r = (c, b, s, f, h, t, l, 0)) (hI : L.BC W w.heap.size 26 cs) (hl : cs.length = 7) (hb : Below w.heap.size w W) (hV : Kd.R Kd.string 9 W w.heap.size (fun _ => True) v l)
    (h2 : a.tmps.getD 2 undef = .pointer (some ⟨w.heap.size, 0, none⟩)) (h3 : a.tmps.getD 3 undef = .int .i64 0) (hd : a.defers = []) :
    bodyPost Try.prog Try.f12 (fun x w' => GetPost w r x w') Exit.ret a (W.setCells w.heap.size 0 [.int .i64 c, .int .i64 b, .int .i64 s, .int .i64 f, .string h, .string t, v]) := by
  have hb' := L.bc_below_setCells (Nat.le_refl _) [.int .i64 c, .int .i64 b, .int .i64 s, .int .i64 f, .string h, .string t, v] 0 W hb
  subst hr
  exact gets_ret (w := w) rfl (L.BC.over (R := [.int .i64 c, .int .i64 b, .int .i64 s, .int .i64 f, .string h, .string t, v]) hI hl) h2 h3 hd ⟨v, rfl, R_setCells (by decide) _ 0 _ _ hI hV, hb'⟩
set_option maxHeartbeats 4000000 in
set_option maxRecDepth 100000 in
theorem gets_none (s : ByteArray) (w : World) (h : headV s = none) :
    Calls Try.prog 12 #[.string s] w fun e w' => GetPost w (noR 2300) e w' := by
  have hZ := L.BC.new w zS 26
  have hB := L.below_alloc (Below.refl w.heap.size w) (.cells zS.toArray 26)
  go_enter Try.func12, Try.ntmps12
  go_wp2_with (first | (go_at_call 36; go_loud ( refine (headr_any s _).mono ?_; rw [h]; unfold HeadPost zS; rintro e w1 ⟨rfl, hb⟩; have hZ1 := L.BC.below hZ hb; have hB1 := below_next hB hb; clear hZ hB hb; have hZ2 := L.BC.alloc hZ1 (.cells #[.int .i64 0, .int .i64 0, .int .i64 0, .int .i64 0, .string (⟨#[]⟩ : ByteArray), .string (⟨#[]⟩ : ByteArray), .slice none 0 0] 26); have hB2 := L.below_alloc hB1 (.cells #[.int .i64 0, .int .i64 0, .int .i64 0, .int .i64 0, .string (⟨#[]⟩ : ByteArray), .string (⟨#[]⟩ : ByteArray), .slice none 0 0] 26); have z0 := L.BC.at_ hZ2 (o := 0) rfl; have y0 := L.BC.frozen hZ2 0; have z1 := L.BC.at_ hZ2 (o := 1) rfl; have y1 := L.BC.frozen hZ2 1; have z2 := L.BC.at_ hZ2 (o := 2) rfl; have y2 := L.BC.frozen hZ2 2; have z3 := L.BC.at_ hZ2 (o := 3) rfl; have y3 := L.BC.frozen hZ2 3; have z4 := L.BC.at_ hZ2 (o := 4) rfl; have y4 := L.BC.frozen hZ2 4; have z5 := L.BC.at_ hZ2 (o := 5) rfl; have y5 := L.BC.frozen hZ2 5; have z6 := L.BC.at_ hZ2 (o := 6) rfl; have y6 := L.BC.frozen hZ2 6; have nz1 : (w1.heap.size = w.heap.size) = False := eq_false (Nat.ne_of_gt hZ1.lt); have nz2 : (w.heap.size = w1.heap.size) = False := eq_false (Nat.ne_of_lt hZ1.lt); have hN := L.BC.new w1 zS 26; have n0 := L.BC.at_ hN (o := 0) rfl; have m0 := L.BC.frozen hN 0; have n1 := L.BC.at_ hN (o := 1) rfl; have m1 := L.BC.frozen hN 1; have n2 := L.BC.at_ hN (o := 2) rfl; have m2 := L.BC.frozen hN 2; have n3 := L.BC.at_ hN (o := 3) rfl; have m3 := L.BC.frozen hN 3; have n4 := L.BC.at_ hN (o := 4) rfl; have m4 := L.BC.frozen hN 4; have n5 := L.BC.at_ hN (o := 5) rfl; have m5 := L.BC.frozen hN 5; have n6 := L.BC.at_ hN (o := 6) rfl; have m6 := L.BC.frozen hN 6)))
  exact gets_exit hZ2 rfl hB2 rfl rfl rfl
set_option maxHeartbeats 8000000 in
set_option maxRecDepth 100000 in
theorem gets_main (s : ByteArray) (w : World) (b c z f : Int) (h t : ByteArray) (l : List Int) (p : Int) (hh : headV s = some (b, c, z, f, h, t, l, p)) :
    Calls Try.prog 12 #[.string s] w fun e w' => GetPost w (getV s) e w' := by
  obtain ⟨hs, hp0, hp4, hl1, hl2⟩ := head_in hh
  obtain ⟨r, hr⟩ : ∃ r, getV s = r := ⟨_, rfl⟩
  rw [hr]
  unfold getV at hr
  rw [hh] at hr
  dsimp only at hr
  have hl1' := hl1
  replace hl1 := Lib.hid hl1
  have hZ := L.BC.new w zS 26
  have hB := L.below_alloc (Below.refl w.heap.size w) (.cells zS.toArray 26)
  have wp4 : wrap64 (p + 4) = p + 4 := IntWalk.wrap64_in _ (by omega)
  have wp4' : IntKind.i64.wrap (p + 4) = p + 4 := IntWalk.i64_in _ (by omega)
  have a0 := eq_true hp0
  have a1 := eq_true (show p ≤ p + 4 by omega)
  have a2 := eq_true (show p + 4 ≤ (s.size : Int) by omega)
  have a3 := eq_true (show p ≤ (s.size : Int) by omega)
  obtain ⟨KC, hKC⟩ : ∃ KC, ((crcOf (nats (s.extract 0 p.toNat)) : Nat) : Int) = KC := ⟨_, rfl⟩
  obtain ⟨LW, hLW⟩ : ∃ LW : ByteArray, (⟨(le4 KC).toArray⟩ : ByteArray) = LW := ⟨_, rfl⟩
  have hlow : Hid (descantref1_Low.f 40 KC 4 = some LW) := Lib.hid (by rw [low_eq, hLW])
  have hsum : sumB (s.extract 0 p.toNat).data.toList = LW.data.toList := by
    rw [← hLW, ← hKC]; rfl
  rw [hsum] at hr
  clear hsum
  replace hKC := Lib.hid hKC
  replace hLW := Lib.hid hLW
  obtain ⟨SX, hSX⟩ : ∃ SX, s.extract p.toNat (p + 4).toNat = SX := ⟨_, rfl⟩
  rw [hSX] at hr
  obtain ⟨rr, hrr⟩ : ∃ rr, partsV s l (p + 4) [] = rr := ⟨_, rfl⟩
  rw [hrr] at hr
  replace hr := Lib.hid hr
  replace hrr := Lib.hid hrr
  go_enter Try.func12, Try.ntmps12
  go_wp2_with (first | (go_at_call 36; refine (headr_any s _).mono ?_; rw [hh]; unfold HeadPost; rintro e w1 ⟨v, rfl, hV, hb⟩; have hZ1 := L.BC.below hZ hb; have hB1 := below_next hB hb; have hV1 := Kd.R_lower hV hB.size; clear hZ hB hb hV; have hX := L.BC.new w1 [.int .i64 b, .int .i64 c, .int .i64 z, .int .i64 f, .string h, .string t, .slice none 0 0] 26; have nz1 : (w1.heap.size = w.heap.size) = False := eq_false (Nat.ne_of_gt hZ1.lt); have nz2 : (w.heap.size = w1.heap.size) = False := eq_false (Nat.ne_of_lt hZ1.lt); have hne := Nat.ne_of_gt hZ1.lt; have hle := Nat.le_of_lt hZ1.lt; have hN := L.BC.new w1 zS 26; have n0 := L.BC.at_ hN (o := 0) rfl; have m0 := L.BC.frozen hN 0; have n1 := L.BC.at_ hN (o := 1) rfl; have m1 := L.BC.frozen hN 1; have n2 := L.BC.at_ hN (o := 2) rfl; have m2 := L.BC.frozen hN 2; have n3 := L.BC.at_ hN (o := 3) rfl; have m3 := L.BC.frozen hN 3; have n4 := L.BC.at_ hN (o := 4) rfl; have m4 := L.BC.frozen hN 4; have n5 := L.BC.at_ hN (o := 5) rfl; have m5 := L.BC.frozen hN 5; have n6 := L.BC.at_ hN (o := 6) rfl; have m6 := L.BC.frozen hN 6; obtain ⟨A5, c5, e5⟩ := Kd.R_slice hV1; subst e5))
  have hZ2 := L.BC.alloc hZ1 (.cells #[.int .i64 b, .int .i64 c, .int .i64 z, .int .i64 f, .string h, .string t, .slice none 0 0] 26)
  have hB2 := L.below_alloc hB1 (.cells #[.int .i64 b, .int .i64 c, .int .i64 z, .int .i64 f, .string h, .string t, .slice none 0 0] 26)
  have hV2 := Kd.R_alloc hV1 (.cells #[.int .i64 b, .int .i64 c, .int .i64 z, .int .i64 f, .string h, .string t, .slice none 0 0] 26)
  clear hZ1 hB1 hV1 hN n0 n1 n2 n3 n4 n5 n6 m0 m1 m2 m3 m4 m5 m6
  generalize w1.alloc (.cells #[.int .i64 b, .int .i64 c, .int .i64 z, .int .i64 f, .string h, .string t, .slice none 0 0] 26) = w2 at hX hZ2 hB2 hV2 ⊢
  generalize w1.heap.size = gx at *
  replace hX := L.BC.drew hX
  replace hZ2 := L.BC.drew hZ2
  replace hB2 := L.below_drew hB2
  replace hV2 := Kd.R_drew hV2
  refine start_ (n := 11) (S := fun w' => True) (ds := []) #[false, false, false, false, false, false, false, false, false, false, false] (by kernel_rfl) rfl rfl trivial (fun hHeld => ?_)
  generalize w2.drew = w3 at hX hZ2 hB2 hV2 hHeld ⊢
  refine pure_ (i := 0) (N := (some 19)) (v := ?_) (a' := ?_) #[true, false, false, false, false, false, false, false, false, false, false] rfl rfl (by kernel_rfl) (fun _ _ _ h => h) (Or.inl ⟨by rfl, ?_⟩) ?_ ?_
  rotate_left
  · intro w'
    go_simp
    with_reducible rfl
  rotate_left
  · simp only [Act.put, List.setIfInBounds_toArray, List.set_cons_zero, List.set_cons_succ, i64_w, i32_w, wp4]
    rfl
  refine pure_ (i := 1) (N := (some 20)) (v := ?_) (a' := ?_) #[true, true, false, false, false, false, false, false, false, false, false] rfl rfl (by kernel_rfl) (fun _ _ _ h => h) (Or.inl ⟨by rfl, ?_⟩) ?_ ?_
  rotate_left
  · intro w'
    go_simp
    with_reducible rfl
  rotate_left
  · simp only [Act.put, List.setIfInBounds_toArray, List.set_cons_zero, List.set_cons_succ, i64_w, i32_w, wp4]
    rfl
  refine pure_ (i := 2) (N := (some 21)) (v := ?_) (a' := ?_) #[true, true, true, false, false, false, false, false, false, false, false] rfl rfl (by kernel_rfl) (fun _ _ _ h => h) (Or.inl ⟨by rfl, ?_⟩) ?_ ?_
  rotate_left
  · intro w'
    go_simp
    with_reducible rfl
  rotate_left
  · simp only [Act.put, List.setIfInBounds_toArray, List.set_cons_zero, List.set_cons_succ, i64_w, i32_w, wp4]
    rfl
  refine pure_ (i := 3) (N := (some 22)) (v := ?_) (a' := ?_) #[true, true, true, true, false, false, false, false, false, false, false] rfl rfl (by kernel_rfl) (fun _ _ _ h => h) (Or.inl ⟨by rfl, ?_⟩) ?_ ?_
  rotate_left
  · intro w'
    go_simp
    with_reducible rfl
  rotate_left
  · simp only [Act.put, List.setIfInBounds_toArray, List.set_cons_zero, List.set_cons_succ, i64_w, i32_w, wp4]
    rfl
  refine pure_ (i := 4) (N := (some 23)) (v := ?_) (a' := ?_) #[true, true, true, true, true, false, false, false, false, false, false] rfl rfl (by kernel_rfl) (fun _ _ _ h => h) (Or.inl ⟨by rfl, ?_⟩) ?_ ?_
  rotate_left
  · intro w'
    go_simp
    with_reducible rfl
  rotate_left
  · simp only [Act.put, List.setIfInBounds_toArray, List.set_cons_zero, List.set_cons_succ, i64_w, i32_w, wp4]
    rfl
  refine pure_ (i := 5) (N := (some 24)) (v := ?_) (a' := ?_) #[true, true, true, true, true, true, false, false, false, false, false] rfl rfl (by kernel_rfl) (fun _ _ _ h => h) (Or.inl ⟨by rfl, ?_⟩) ?_ ?_
  rotate_left
  · intro w'
    go_simp
    with_reducible rfl
  rotate_left
  · simp only [Act.put, List.setIfInBounds_toArray, List.set_cons_zero, List.set_cons_succ, i64_w, i32_w, wp4]
    rfl
  refine pure_ (i := 6) (N := (some 25)) (v := ?_) (a' := ?_) #[true, true, true, true, true, true, true, false, false, false, false] rfl rfl (by kernel_rfl) (fun _ _ _ h => h) (Or.inl ⟨by rfl, ?_⟩) ?_ ?_
  rotate_left
  · intro w'
    go_simp
    with_reducible rfl
  rotate_left
  · simp only [Act.put, List.setIfInBounds_toArray, List.set_cons_zero, List.set_cons_succ, i64_w, i32_w, wp4]
    rfl
  refine pure_ (i := 7) (N := (some 26)) (v := ?_) (a' := ?_) #[true, true, true, true, true, true, true, true, false, false, false] rfl rfl (by kernel_rfl) (fun _ _ _ h => h) (Or.inl ⟨by rfl, ?_⟩) ?_ ?_
  rotate_left
  · intro w'
    go_simp
    with_reducible rfl
  rotate_left
  · simp only [Act.put, List.setIfInBounds_toArray, List.set_cons_zero, List.set_cons_succ, i64_w, i32_w, wp4]
    rfl
  refine one_ (i := 8) (N := (some 27)) #[true, true, true, true, true, true, true, true, true, false, false] rfl rfl (by kernel_rfl) (by decide) (fun K hK => ?_)
  refine goes_ Try.func18 (by kernel_rfl) rfl #[.string (s.extract 0 p.toNat)] (by rfl) rfl rfl (by (try simp only [List.map_toArray, List.map_cons, List.map_nil]); first | done | rfl) ?_
  refine (rcrc (s.extract 0 p.toNat) _ (by rw [ByteArray.size_extract]; omega)).mono ?_
  rintro e w4 ⟨rfl, rfl⟩
  refine ⟨_, rfl, ?_⟩
  rw [hKC.out]
  refine hK.out _ _ trivial (fun hHeld => ?_)
  clear hK K
  refine norm_ (a' := ?_) ?_ ?_
  rotate_left
  · show Act.put _ (some 27) _ = _
    simp only [Act.put, List.setIfInBounds_toArray, List.set_cons_zero, List.set_cons_succ, i64_w, i32_w, wp4]
    rfl
  refine one_ (i := 9) (N := (some 28)) #[true, true, true, true, true, true, true, true, true, true, false] rfl rfl (by kernel_rfl) (by decide) (fun K hK => ?_)
  refine goes_ Try.func29 (by kernel_rfl) rfl #[.int .i64 KC, .int .i64 4] (by rfl) rfl rfl (by (try simp only [List.map_toArray, List.map_cons, List.map_nil]); first | done | rfl) ?_
  refine (descantref1_Low.calls 40 KC 4 _ _ hlow.out).mono ?_
  rintro e w5 ⟨rfl, hb⟩
  replace hX := L.BC.below hX hb
  replace hZ2 := L.BC.below hZ2 hb
  replace hB2 := below_next hB2 hb
  replace hV2 := Kd.R_below hV2 hb
  clear hb
  refine ⟨_, rfl, ?_⟩
  refine hK.out _ _ trivial (fun hHeld => ?_)
  clear hK K
  refine norm_ (a' := ?_) ?_ ?_
  rotate_left
  · show Act.put _ (some 28) _ = _
    simp only [Act.put, List.setIfInBounds_toArray, List.set_cons_zero, List.set_cons_succ, i64_w, i32_w, wp4]
    rfl
  refine pure_ (i := 10) (N := (some 29)) (v := ?_) (a' := ?_) #[true, true, true, true, true, true, true, true, true, true, true] rfl rfl (by kernel_rfl) (fun _ _ _ h => h) (Or.inl ⟨by rfl, ?_⟩) ?_ ?_
  rotate_left
  · intro w'
    go_simp
    with_reducible rfl
  rotate_left
  · simp only [Act.put, List.setIfInBounds_toArray, List.set_cons_zero, List.set_cons_succ, i64_w, i32_w, wp4]
    rfl
  refine done_ (by kernel_rfl) ?_
  clear hHeld a0 a1 a2 a3
  replace hSX := Lib.hid hSX
  replace wp4 := Lib.hid wp4
  have hrw := hr.out
  clear hr
  by_cases cS : SX.data.toList ≠ LW.data.toList
  · have d1 : (SX.toList == LW.toList) = false := by rw [ByteArray.toList_eq, ByteArray.toList_eq]; simpa using cS
    simp only [d1, Bool.not_false]
    rw [if_pos cS] at hrw
    have hr2 : noR 2301 = r := hrw
    clear hrw
    subst hr2
    replace cS := Lib.hid cS
    have z0 := L.BC.at_ hZ2 (o := 0) rfl
    have y0 := L.BC.frozen hZ2 0
    have z1 := L.BC.at_ hZ2 (o := 1) rfl
    have y1 := L.BC.frozen hZ2 1
    have z2 := L.BC.at_ hZ2 (o := 2) rfl
    have y2 := L.BC.frozen hZ2 2
    have z3 := L.BC.at_ hZ2 (o := 3) rfl
    have y3 := L.BC.frozen hZ2 3
    have z4 := L.BC.at_ hZ2 (o := 4) rfl
    have y4 := L.BC.frozen hZ2 4
    have z5 := L.BC.at_ hZ2 (o := 5) rfl
    have y5 := L.BC.frozen hZ2 5
    have z6 := L.BC.at_ hZ2 (o := 6) rfl
    have y6 := L.BC.frozen hZ2 6
    go_wp2
    exact gets_exit hZ2 rfl hB2 rfl rfl rfl
  rw [if_neg cS] at hrw
  have d1 : (SX.toList == LW.toList) = true := by rw [ByteArray.toList_eq, ByteArray.toList_eq]; simpa using cS
  simp only [d1, Bool.not_true]
  replace cS := Lib.hid cS
  replace hrw := Lib.hid hrw
  have hq0 : 0 ≤ p + 4 := by omega
  have wq4 := wp4'
  go_wp2
  go_loopg [6, 8] l.length (fun kq v6 v8 W => ∃ (n : Nat) (q : Int) (a : List ByteArray) (vv : Value), v8 = .int .i64 (n : Int) ∧ v6 = .int .i64 q ∧ n + kq = l.length ∧ a.length = n ∧ 0 ≤ q ∧ q ≤ s.size ∧ L.BC W gx 26 [.int .i64 b, .int .i64 c, .int .i64 z, .int .i64 f, .string h, .string t, vv] ∧ L.BC W w.heap.size 26 zS ∧ Below w.heap.size w W ∧ Kd.R (Kd.int .i64) 3 W w.heap.size (fun _ => True) (.slice A5 l.length c5) l ∧ Kd.R Kd.string 9 W w.heap.size (fun _ => True) vv a ∧ partsV s (l.drop n) q a = rr)
  case atStart => exact ⟨0, p + 4, [], .slice none 0 0, by simp, by simp, by omega, rfl, hq0, hp4, hX, hZ2, hB2, hV2, Kd.R_nil _ _ _ _ _, by simpa using hrr.out⟩
  case round =>
    clear hX hZ2 hB2 hV2 hrr d1 hq0 wq4 wp4'
    obtain ⟨n, q, a, vv, rfl, rfl, hn, han, hq0, hq1, hX, hZ, hB, hV, hW, hP⟩ := hrel
    by_cases c1 : n < l.length
    · have c1d : decide ((n : Int) < (l.length : Int)) = true := decide_eq_true (by omega)
      have p3 : (0 : Int) ≤ (n : Int) := by omega
      have q3 : (n : Int) < (l.length : Int) := by omega
      obtain ⟨ad, ead, hx⟩ := Kd.at_int (Kd.R_reads' hV).2.2 (n : Int) p3 q3
      cases ead
      rw [Int.toNat_natCast] at hx
      have hdrop : l.drop n = rd l (n : Int) :: l.drop (n + 1) := by
        rw [List.drop_eq_getElem_cons c1]
        congr 1
        unfold rd
        rw [Int.toNat_natCast, List.getD_eq_getElem?_getD, List.getElem?_eq_getElem c1]; rfl
      have hZl : 9 ≤ rd l (n : Int) ∧ rd l (n : Int) ≤ 65535 := hl1' _ (List.mem_of_mem_drop (by rw [hdrop]; exact List.mem_cons_self ..))
      rw [hdrop, partsV] at hP
      clear hdrop
      obtain ⟨Z, hZd⟩ : ∃ Z, rd l (n : Int) = Z := ⟨_, rfl⟩
      rw [hZd] at hx hZl hP
      replace hZd := Lib.hid hZd
      replace p3 := eq_true p3
      replace q3 := eq_true q3
      have wsq : IntKind.i64.wrap ((s.size : Int) - q) = (s.size : Int) - q := IntWalk.i64_in _ (by omega)
      replace hl1' := Lib.hid hl1'
      by_cases c2 : (s.size : Int) - q < Z
      · have c2d : decide ((s.size : Int) - q < Z) = true := decide_eq_true c2
        rw [if_pos c2] at hP
        subst hP
        have hr2 : noR 2300 = r := hrw.out
        clear hrw
        subst hr2
        replace c2 := Lib.hid c2
        have z0 := L.BC.at_ hZ (o := 0) rfl
        have y0 := L.BC.frozen hZ 0
        have z1 := L.BC.at_ hZ (o := 1) rfl
        have y1 := L.BC.frozen hZ 1
        have z2 := L.BC.at_ hZ (o := 2) rfl
        have y2 := L.BC.frozen hZ 2
        have z3 := L.BC.at_ hZ (o := 3) rfl
        have y3 := L.BC.frozen hZ 3
        have z4 := L.BC.at_ hZ (o := 4) rfl
        have y4 := L.BC.frozen hZ 4
        have z5 := L.BC.at_ hZ (o := 5) rfl
        have y5 := L.BC.frozen hZ 5
        have z6 := L.BC.at_ hZ (o := 6) rfl
        have y6 := L.BC.frozen hZ 6
        go_wp2
        exact gets_exit hZ rfl hB rfl rfl rfl
      · have c2d : decide ((s.size : Int) - q < Z) = false := decide_eq_false c2
        rw [if_neg c2] at hP
        replace hP := Lib.hid hP
        have wqz : wrap64 (q + Z) = q + Z := IntWalk.wrap64_in _ (by omega)
        have b0 := eq_true hq0
        have b1 := eq_true (show q ≤ q + Z by omega)
        have b2 := eq_true (show q + Z ≤ (s.size : Int) by omega)
        replace c2 := Lib.hid c2
        go_wp2
        obtain ⟨V, hVd⟩ : ∃ V, s.extract q.toNat (q + Z).toNat = V := ⟨_, rfl⟩
        obtain ⟨ys, hys⟩ : ∃ ys, a ++ [V] = ys := ⟨_, rfl⟩
        have hyl : ys.length = n + 1 := by rw [← hys, List.length_append, han]; rfl
        have hP2 := hP.out
        rw [hVd, hys] at hP2
        replace hP := Lib.hid hP2
        clear hP2
        replace hys := Lib.hid hys
        replace hX := L.BC.drew hX
        replace hZ := L.BC.drew hZ
        replace hB := L.below_drew hB
        replace hV := Kd.R_drew hV
        replace hW := Kd.R_drew hW
        replace hx : wr.drew.cell? (ad.add n) = some (.int .i64 Z) := hx
        refine start_ (n := 15) (S := fun w' => w'.cell? ⟨gx, 6, none⟩ = some vv ∧ w'.cell? (ad.add n) = some (.int .i64 Z)) (ds := [12, 14]) #[false, false, false, false, false, false, false, false, false, false, false, false, false, false, false] (by kernel_rfl) rfl rfl ⟨L.BC.at_ hX (o := 6) rfl, hx⟩ (fun hHeld => ?_)
        generalize wr.drew = w6 at hX hZ hB hV hW hx hHeld ⊢
        refine pure_ (i := 0) (N := (some 49)) (v := ?_) (a' := ?_) #[true, false, false, false, false, false, false, false, false, false, false, false, false, false, false] rfl rfl (by kernel_rfl) (fun _ _ _ h => h) (Or.inl ⟨by rfl, ?_⟩) ?_ ?_
        rotate_left
        · intro w'
          go_simp
          with_reducible rfl
        rotate_left
        · simp only [Act.put, List.setIfInBounds_toArray, List.set_cons_zero, List.set_cons_succ, i64_w, i32_w, wqz]
          rfl
        refine pure_ (i := 2) (N := (some 51)) (v := ?_) (a' := ?_) #[true, false, true, false, false, false, false, false, false, false, false, false, false, false, false] rfl rfl (by kernel_rfl) (fun _ _ _ h => h) (Or.inl ⟨by rfl, ?_⟩) ?_ ?_
        rotate_left
        · intro w'
          go_simp
          with_reducible rfl
        rotate_left
        · simp only [Act.put, List.setIfInBounds_toArray, List.set_cons_zero, List.set_cons_succ, i64_w, i32_w, wqz]
          rfl
        refine pure_ (i := 3) (N := (some 52)) (v := ?_) (a' := ?_) #[true, false, true, true, false, false, false, false, false, false, false, false, false, false, false] rfl rfl (by kernel_rfl) (fun _ _ _ h => h) (Or.inl ⟨by rfl, ?_⟩) ?_ ?_
        rotate_left
        · intro w'
          go_simp
          with_reducible rfl
        rotate_left
        · simp only [Act.put, List.setIfInBounds_toArray, List.set_cons_zero, List.set_cons_succ, i64_w, i32_w, wqz]
          rfl
        refine pure_ (i := 4) (N := (some 53)) (v := ?_) (a' := ?_) #[true, false, true, true, true, false, false, false, false, false, false, false, false, false, false] rfl rfl (by kernel_rfl) (fun _ _ _ h => h) (Or.inl ⟨by rfl, ?_⟩) ?_ ?_
        rotate_left
        · intro w'
          go_simp
          with_reducible rfl
        rotate_left
        · simp only [Act.put, List.setIfInBounds_toArray, List.set_cons_zero, List.set_cons_succ, i64_w, i32_w, wqz]
          rfl
        refine pure_ (i := 5) (N := (some 54)) (v := ?_) (a' := ?_) #[true, false, true, true, true, true, false, false, false, false, false, false, false, false, false] rfl rfl (by kernel_rfl) (fun _ _ _ h => h) (Or.inl ⟨by rfl, ?_⟩) ?_ ?_
        rotate_left
        · intro w'
          go_simp
          with_reducible rfl
        rotate_left
        · simp only [Act.put, List.setIfInBounds_toArray, List.set_cons_zero, List.set_cons_succ, i64_w, i32_w, wqz]
          rfl
        refine pure_ (i := 6) (N := (some 55)) (v := ?_) (a' := ?_) #[true, false, true, true, true, true, true, false, false, false, false, false, false, false, false] rfl rfl (by kernel_rfl) (fun _ _ _ h => h) (Or.inl ⟨by rfl, ?_⟩) ?_ ?_
        rotate_left
        · intro w'
          go_simp
          with_reducible rfl
        rotate_left
        · simp only [Act.put, List.setIfInBounds_toArray, List.set_cons_zero, List.set_cons_succ, i64_w, i32_w, wqz]
          rfl
        refine pure_ (i := 7) (N := (some 56)) (v := ?_) (a' := ?_) #[true, false, true, true, true, true, true, true, false, false, false, false, false, false, false] rfl rfl (by kernel_rfl) (fun _ _ _ h => h) (Or.inl ⟨by rfl, ?_⟩) ?_ ?_
        rotate_left
        · intro w'
          go_simp
          with_reducible rfl
        rotate_left
        · simp only [Act.put, List.setIfInBounds_toArray, List.set_cons_zero, List.set_cons_succ, i64_w, i32_w, wqz]
          rfl
        refine take_ (i := 1) (N := (some 50)) (v := ?_) (a' := ?_) #[true, true, true, true, true, true, true, true, false, false, false, false, false, false, false] rfl rfl (by kernel_rfl) (fun _ _ _ h => h) (Or.inl ⟨by rfl, ?_⟩) hHeld ?_ ?_
        rotate_left
        · rintro w' ⟨s0, s1⟩
          go_simp
          with_reducible rfl
        rotate_left
        · simp only [Act.put, List.setIfInBounds_toArray, List.set_cons_zero, List.set_cons_succ, i64_w, i32_w, wqz]
          rfl
        refine take_ (i := 8) (N := (some 57)) (v := ?_) (a' := ?_) #[true, true, true, true, true, true, true, true, true, false, false, false, false, false, false] rfl rfl (by kernel_rfl) (fun _ _ _ h => h) (Or.inl ⟨by rfl, ?_⟩) hHeld ?_ ?_
        rotate_left
        · rintro w' ⟨s0, s1⟩
          go_simp
          with_reducible rfl
        rotate_left
        · simp only [Act.put, List.setIfInBounds_toArray, List.set_cons_zero, List.set_cons_succ, i64_w, i32_w, wqz]
          rfl
        refine pure_ (i := 9) (N := (some 58)) (v := ?_) (a' := ?_) #[true, true, true, true, true, true, true, true, true, true, false, false, false, false, false] rfl rfl (by kernel_rfl) (fun _ _ _ h => h) (Or.inl ⟨by rfl, ?_⟩) ?_ ?_
        rotate_left
        · intro w'
          go_simp
          with_reducible rfl
        rotate_left
        · simp only [Act.put, List.setIfInBounds_toArray, List.set_cons_zero, List.set_cons_succ, i64_w, i32_w, wqz]
          rfl
        refine pure_ (i := 10) (N := (some 59)) (v := ?_) (a' := ?_) #[true, true, true, true, true, true, true, true, true, true, true, false, false, false, false] rfl rfl (by kernel_rfl) (fun _ _ _ h => h) (Or.inl ⟨by rfl, ?_⟩) ?_ ?_
        rotate_left
        · intro w'
          go_simp
          with_reducible rfl
        rotate_left
        · simp only [Act.put, List.setIfInBounds_toArray, List.set_cons_zero, List.set_cons_succ, i64_w, i32_w, wqz]
          rfl
        replace hVd := Lib.hid hVd
        refine one_ (i := 11) (N := (some 60)) #[true, true, true, true, true, true, true, true, true, true, true, true, false, false, false] rfl rfl (by kernel_rfl) (by decide) (fun K hK => ?_)
        refine value_ (w1 := ?_) (v := ?_) (by rfl) rfl ?_ ?_
        rotate_left 2
        · go_simp
          constructor
          · rfl
          · rfl
        have hx7 := L.cell_below (L.below_alloc (Below.refl _ _) (.cells #[.string V] 9)) hx
        refine hK.out _ _ ⟨L.BC.at_ (L.BC.alloc hX _) (o := 6) rfl, hx7⟩ (fun hHeld => ?_)
        clear hK K hx7
        refine norm_ (a' := ?_) ?_ ?_
        rotate_left
        · show Act.put _ (some 60) _ = _
          simp only [Act.put, List.setIfInBounds_toArray, List.set_cons_zero, List.set_cons_succ, i64_w, i32_w, wqz]
          rfl
        refine last_ (i := 12) (N := (some 61)) #[true, true, true, true, true, true, true, true, true, true, true, true, true, false, false] rfl rfl (by kernel_rfl) (by decide) (fun K hK => ?_)
        refine Kd.R_append_step Kd.string (w0 := w) w.heap.size (by rfl) (.tmp 50) (.tmp 60) 24 9 (.string ⟨#[]⟩) 16 rfl Try.underlying24 info9 rfl (by decide) (by omega) vv a V [.string V] (fun _ => True) (fun _ => False) rfl rfl ?aP (fun _ hk => hk.elim) ?aF ?aO ?aB ?aS ?aL ?_
        (case aP => exact rfl)
        (case aB => exact hB)
        (case aF => exact (fun _ _ => trivial))
        (case aO => exact hW)
        (case aS => exact hB.size)
        (case aL => (have := hl2; omega))
        intro v61 w8 hW8 hB8 hg hat
        have hV8 := Kd.R_over' hV (Kd.R_typed hW) (by decide) hg
        have hX8 := BC.grown hX hg (Kd.R_ne hW hX.blk (by decide))
        have hZ8 := BC.grown hZ hg (Kd.R_ne hW hZ.blk (by decide))
        clear hV hW hX hZ hB hg hat hHeld hx
        rw [hys.out] at hW8
        obtain ⟨A15, c15, e15⟩ := Kd.R_slice hW8
        subst e15
        refine hK.out _ _ ?_
        clear hK K
        refine norm_ (a' := ?_) ?_ ?_
        rotate_left
        · show Act.put _ (some 61) _ = _
          simp only [Act.put, List.setIfInBounds_toArray, List.set_cons_zero, List.set_cons_succ, i64_w, i32_w, wqz]
          rfl
        refine pure_ (i := 13) (N := (some 62)) (v := ?_) (a' := ?_) #[true, true, true, true, true, true, true, true, true, true, true, true, true, true, false] rfl rfl (by kernel_rfl) (fun _ _ _ h => h) (Or.inl ⟨by rfl, ?_⟩) ?_ ?_
        rotate_left
        · intro w'
          go_simp
          with_reducible rfl
        rotate_left
        · simp only [Act.put, List.setIfInBounds_toArray, List.set_cons_zero, List.set_cons_succ, i64_w, i32_w, wqz]
          rfl
        refine last_ (i := 14) (N := none) #[true, true, true, true, true, true, true, true, true, true, true, true, true, true, true] rfl rfl (by kernel_rfl) (by decide) (fun K hK => ?_)
        have x6 := L.BC.at_ hX8 (o := 6) rfl
        have f6 := L.BC.frozen hX8 6
        refine skip_ (w1 := w8.setCell ⟨gx, 6, none⟩ (.slice A15 ys.length c15)) (by rfl) rfl ?_ ?_
        · go_simp
        refine hK.out _ _ ?_
        clear hK K
        clear x6 f6
        refine done_ (by kernel_rfl) ?_
        have hX9 := L.BC.set hX8 6 (.slice A15 ys.length c15)
        have hZ9 := L.BC.far hZ8 (p := ⟨gx, 6, none⟩) (by show gx ≠ w.heap.size; exact hne) (.slice A15 ys.length c15)
        have hB9 := hB8.setCell (p := ⟨gx, 6, none⟩) (by show w.heap.size ≤ gx; exact hle) (.slice A15 ys.length c15)
        have hV9 := R_setB hV8 hX8 (by decide) 6 (.slice A15 ys.length c15)
        have hW9 := R_setB hW8 hX8 (by decide) 6 (.slice A15 ys.length c15)
        clear hX8 hZ8 hB8 hV8 hW8
        obtain ⟨ad2, ead2, hx9⟩ := Kd.at_int (Kd.R_reads' hV9).2.2 (n : Int) (of_eq_true p3) (of_eq_true q3)
        cases ead2
        rw [Int.toNat_natCast, hZd.out] at hx9
        have wqz' : IntKind.i64.wrap (q + Z) = q + Z := IntWalk.i64_in _ (by omega)
        have hn5 : (n : Int) + 1 ≤ 4160 := by omega
        replace hyl := Lib.hid hyl
        generalize w8.setCell ⟨gx, 6, none⟩ (.slice A15 ys.length c15) = w9 at hX9 hZ9 hB9 hV9 hW9 hx9 ⊢
        go_wp2
        obtain ⟨kk, rfl⟩ : ∃ kk, gk = kk + 1 := ⟨gk - 1, by omega⟩
        go_roundg kk
        case measure => omega
        case rel => exact ⟨n + 1, q + Z, ys, _, by simp, by first | rfl | simp, by omega, hyl.out, by omega, of_eq_true b2, hX9, hZ9, hB9, hV9, hW9, hP.out⟩
    · have c1d : decide ((n : Int) < (l.length : Int)) = false := decide_eq_false (by omega)
      have hdr : l.drop n = [] := List.drop_of_length_le (by omega)
      rw [hdr, partsV] at hP
      clear hdr
      obtain ⟨A6, c6, e6⟩ := Kd.R_slice hW
      subst e6
      replace han := Lib.hid han
      replace hl1' := Lib.hid hl1'
      by_cases c3 : q = (s.size : Int)
      · rw [if_pos c3] at hP
        subst hP
        have hr2 : (b, c, z, f, h, t, a, 0) = r := hrw.out
        clear hrw
        have d4 : (q != (s.size : Int)) = false := by simpa using c3
        replace hr2 := Lib.hid hr2
        replace c3 := Lib.hid c3
        have z0 := L.BC.at_ hZ (o := 0) rfl
        have y0 := L.BC.frozen hZ 0
        have z1 := L.BC.at_ hZ (o := 1) rfl
        have y1 := L.BC.frozen hZ 1
        have z2 := L.BC.at_ hZ (o := 2) rfl
        have y2 := L.BC.frozen hZ 2
        have z3 := L.BC.at_ hZ (o := 3) rfl
        have y3 := L.BC.frozen hZ 3
        have z4 := L.BC.at_ hZ (o := 4) rfl
        have y4 := L.BC.frozen hZ 4
        have z5 := L.BC.at_ hZ (o := 5) rfl
        have y5 := L.BC.frozen hZ 5
        have z6 := L.BC.at_ hZ (o := 6) rfl
        have y6 := L.BC.frozen hZ 6
        have x0 := L.BC.at_ hX (o := 0) rfl
        have v0 := L.BC.frozen hX 0
        have x1 := L.BC.at_ hX (o := 1) rfl
        have v1 := L.BC.frozen hX 1
        have x2 := L.BC.at_ hX (o := 2) rfl
        have v2 := L.BC.frozen hX 2
        have x3 := L.BC.at_ hX (o := 3) rfl
        have v3 := L.BC.frozen hX 3
        have x4 := L.BC.at_ hX (o := 4) rfl
        have v4 := L.BC.frozen hX 4
        have x5 := L.BC.at_ hX (o := 5) rfl
        have v5 := L.BC.frozen hX 5
        have x6 := L.BC.at_ hX (o := 6) rfl
        have v6 := L.BC.frozen hX 6
        go_wp2
        exact gets_ok hr2.out.symm hZ rfl hB hW rfl rfl rfl
      · rw [if_neg c3] at hP
        subst hP
        have hr2 : noR 2300 = r := hrw.out
        clear hrw
        subst hr2
        have d4 : (q != (s.size : Int)) = true := by simpa using c3
        replace c3 := Lib.hid c3
        have z0 := L.BC.at_ hZ (o := 0) rfl
        have y0 := L.BC.frozen hZ 0
        have z1 := L.BC.at_ hZ (o := 1) rfl
        have y1 := L.BC.frozen hZ 1
        have z2 := L.BC.at_ hZ (o := 2) rfl
        have y2 := L.BC.frozen hZ 2
        have z3 := L.BC.at_ hZ (o := 3) rfl
        have y3 := L.BC.frozen hZ 3
        have z4 := L.BC.at_ hZ (o := 4) rfl
        have y4 := L.BC.frozen hZ 4
        have z5 := L.BC.at_ hZ (o := 5) rfl
        have y5 := L.BC.frozen hZ 5
        have z6 := L.BC.at_ hZ (o := 6) rfl
        have y6 := L.BC.frozen hZ 6
        go_wp2
        exact gets_exit hZ rfl hB rfl rfl rfl
/-- The document's GetStream, whatever the text. -/
theorem gets_any (s : ByteArray) (w : World) : Calls Try.prog 12 #[.string s] w fun e w' => GetPost w (getV s) e w' := by
  cases hh : headV s with
  | none =>
    have : getV s = noR 2300 := by unfold getV; rw [hh]; rfl
    rw [this]; exact gets_none s w hh
  | some r =>
    obtain ⟨b, c, z, f, h, t, l, p⟩ := r
    exact gets_main s w b c z f h t l p hh
end Go.Proofs.Ytokegkpbbhegpaa.PT
/- The document's GetStream answers as stream.Get does, and what is got is put again: lists and numbers alone. -/
namespace Go.Proofs.Ytokegkpbbhegpaa.PT
open Go.RowKit Go.Proofs.YtokegkpbbhegpaaW.PrintWords Go.Proofs.Ytokegkpbbhegpaa.L
set_option linter.unusedVariables false
set_option linter.unusedSimpArgs false

/-! ### pieces of a text -/
def E (s : ByteArray) (i j : Int) : List UInt8 := (s.extract i.toNat j.toNat).data.toList
theorem E_add {s : ByteArray} {i j k : Int} (h0 : 0 ≤ i) (h1 : i ≤ j) (h2 : j ≤ k) : E s i j ++ E s j k = E s i k := by
  unfold E
  rw [ext_list, ext_list, ext_list]
  have hj : i.toNat ≤ j.toNat := by omega
  have hk : j.toNat ≤ k.toNat := by omega
  generalize s.data.toList = L
  generalize i.toNat = i at *
  generalize j.toNat = j at *
  generalize k.toNat = k at *
  have e1 : (L.take k).drop i = ((L.take k).take j).drop i ++ ((L.take k).drop j) := by
    conv => lhs; rw [← List.take_append_drop j (L.take k), List.drop_append]
    rw [List.length_take, List.length_take]
    by_cases c : j ≤ L.length
    · rw [show i - min j (min k L.length) = 0 by omega, List.drop_zero]
    · have e2 : (L.take k).drop j = [] := List.drop_eq_nil_of_le (by rw [List.length_take]; omega)
      rw [e2, List.drop_nil]
  rw [e1, List.take_take, show min j k = j by omega]
theorem E_all (s : ByteArray) : E s 0 s.size = s.data.toList := by
  unfold E
  rw [ext_list, Int.toNat_natCast, size_list, List.take_length]
  rfl
theorem E_len {s : ByteArray} {i j : Int} (h0 : 0 ≤ i) (h1 : i ≤ j) (h2 : j ≤ s.size) : ((E s i j).length : Int) = j - i := by
  unfold E
  rw [ext_list, List.length_drop, List.length_take, ← size_list]
  omega
theorem E_one {s : ByteArray} {i : Int} (h0 : 0 ≤ i) (h1 : i + 1 ≤ s.size) : E s i (i + 1) = [lowB (bt s i)] := by
  have hl := E_len h0 (show i ≤ i + 1 by omega) h1
  have hi : i.toNat < s.data.toList.length := by rw [← size_list]; omega
  have hb : bt s i = (s.data.toList[i.toNat].toNat : Int) := by
    unfold bt
    rw [dif_pos (by omega)]
    rw [Array.getElem_toList]; rfl
  rw [hb, low_of]
  unfold E
  rw [ext_list, show (i + 1).toNat = i.toNat + 1 by omega, List.drop_take, show i.toNat + 1 - i.toNat = 1 by omega, List.drop_eq_getElem_cons hi]
  rfl
theorem E_two {s : ByteArray} {i : Int} (h0 : 0 ≤ i) (h1 : i + 2 ≤ s.size) : E s i (i + 2) = [lowB (bt s i), lowB (bt s (i + 1))] := by
  rw [← E_add (j := i + 1) h0 (by omega) (by omega), E_one h0 (by omega), show i + 2 = i + 1 + 1 by omega, E_one (by omega) (by omega)]
  rfl
theorem E_four {s : ByteArray} {i : Int} (h0 : 0 ≤ i) (h1 : i + 4 ≤ s.size) : E s i (i + 4) = [lowB (bt s i), lowB (bt s (i + 1)), lowB (bt s (i + 2)), lowB (bt s (i + 3))] := by
  rw [← E_add (j := i + 2) h0 (by omega) (by omega), E_two h0 (by omega), show i + 4 = i + 2 + 2 by omega, E_two (by omega) (by omega), show i + 2 + 1 = i + 3 by omega]
  rfl
theorem lowB_n (m : Int) : ((lowB m).toNat : Int) = m % 256 := by unfold lowB; rw [UInt8.toNat_ofNat']; omega
theorem lowB_bt (s : ByteArray) (i : Int) : ((lowB (bt s i)).toNat : Int) = bt s i := by
  have := bt_range s i
  rw [lowB_n]; omega
theorem lowB_eq {a b : Int} (h : a % 256 = b % 256) : lowB a = lowB b := by unfold lowB; rw [h]
theorem f_one {s : ByteArray} {i : Int} (h0 : 0 ≤ i) (h1 : i + 1 ≤ s.size) : fieldV (s.extract i.toNat (i + 1).toNat) = bt s i := by
  rw [fieldV1 (E_one h0 h1), lowB_bt]
theorem f_two {s : ByteArray} {i : Int} (h0 : 0 ≤ i) (h1 : i + 2 ≤ s.size) : fieldV (s.extract i.toNat (i + 2).toNat) = bt s i + 256 * bt s (i + 1) := by
  rw [fieldV2 (E_two h0 h1), lowB_bt, lowB_bt]; omega
theorem f_four {s : ByteArray} {i : Int} (h0 : 0 ≤ i) (h1 : i + 4 ≤ s.size) (n : Nat) (hn : n < 4294967296) : fieldV (s.extract i.toNat (i + 4).toNat) = (n : Int) ↔ E s i (i + 4) = le4 n := by
  rw [fieldV4 (E_four h0 h1), lowB_bt, lowB_bt, lowB_bt, lowB_bt, E_four h0 h1]
  have r0 := bt_range s i
  have r1 := bt_range s (i + 1)
  have r2 := bt_range s (i + 2)
  have r3 := bt_range s (i + 3)
  unfold le4
  constructor
  · intro h
    rw [← h]
    congr 1
    · exact lowB_eq (by omega)
    · congr 1
      · exact lowB_eq (by omega)
      · congr 1
        · exact lowB_eq (by omega)
        · congr 1
          exact lowB_eq (by omega)
  · intro h
    simp only [List.cons.injEq, and_true] at h
    obtain ⟨a, b, c, d⟩ := h
    have a := congrArg (fun x : UInt8 => (x.toNat : Int)) a
    have b := congrArg (fun x : UInt8 => (x.toNat : Int)) b
    have c := congrArg (fun x : UInt8 => (x.toNat : Int)) c
    have d := congrArg (fun x : UInt8 => (x.toNat : Int)) d
    simp only [lowB_n] at a b c d
    omega
/-! ### the flags -/
theorem takeT_good {s : ByteArray} {i n : Int} (h0 : 0 ≤ n) (h1 : n ≤ s.size - i) : takeT s i false n = (s.extract i.toNat (i + n).toNat, i + n, false) := by
  unfold takeT
  rw [if_neg (by rintro (h | h | h); exact absurd h (by decide); omega; omega)]
theorem takeT_bad {s : ByteArray} {i n : Int} {b : Bool} (h : b = true ∨ n < 0 ∨ s.size - i < n) : takeT s i b n = (⟨#[]⟩, i, true) := by
  unfold takeT
  rw [if_pos h]
theorem take_yes {s : ByteArray} {i n : Int} {b : Bool} (h : (takeT s i b n).2.2 = false) : b = false ∧ 0 ≤ n ∧ n ≤ s.size - i ∧ takeT s i b n = (s.extract i.toNat (i + n).toNat, i + n, false) := by
  unfold takeT at h ⊢
  by_cases c : b = true ∨ n < 0 ∨ s.size - i < n
  · rw [if_pos c] at h; simp at h
  · rw [if_neg c]
    refine ⟨?_, by omega, by omega, rfl⟩
    cases b
    · rfl
    · exact absurd (.inl rfl) c
theorem num_yes {i : Int} {b : Bool} {v : Int × Int × Int} (h : (numT i b v).2.2 = false) : b = false ∧ v.2.2 = 0 ∧ numT i b v = (v.1, v.2.1, false) := by
  unfold numT at h ⊢
  by_cases c : b = true ∨ v.2.2 ≠ 0
  · rw [if_pos c] at h; simp at h
  · rw [if_neg c]
    refine ⟨?_, ?_, rfl⟩
    · cases b
      · rfl
      · exact absurd (.inl rfl) c
    · exact Decidable.not_not.1 fun h => c (.inr h)
theorem num_good {i : Int} {v : Int × Int × Int} (h : v.2.2 = 0) : numT i false v = (v.1, v.2.1, false) := by
  unfold numT
  rw [if_neg (by rintro (h' | h'); exact absurd h' (by decide); exact h' h)]
structure Head (s : ByteArray) : Prop where
  h7 : 7 ≤ s.size
  e1 : (numV s).2.2 = 0
  e2 : (numV2 s).2.2 = 0
  e3 : (numV3 s).2.2 = 0
  l1 : 0 ≤ (numV2 s).1 ∧ (numV2 s).1 ≤ s.size - (numV3 s).2.1
  l2 : 0 ≤ (numV3 s).1 ∧ (numV3 s).1 ≤ s.size - ((numV3 s).2.1 + (numV2 s).1)
structure Takes (s : ByteArray) : Prop where
  a0 : gR s = (s.extract 0 4, 4, false)
  a1 : g1 s = (s.extract 4 5, 5, false)
  a2 : g2 s = (s.extract 5 6, 6, false)
  a3 : g3 s = (s.extract 6 7, 7, false)
  b1 : n1 s = ((numV s).1, (numV s).2.1, false)
  b2 : n2 s = ((numV2 s).1, (numV2 s).2.1, false)
  b3 : n3 s = ((numV3 s).1, (numV3 s).2.1, false)
  c1 : t1 s = (s.extract (numV3 s).2.1.toNat ((numV3 s).2.1 + (numV2 s).1).toNat, (numV3 s).2.1 + (numV2 s).1, false)
  c2 : t2 s = (s.extract ((numV3 s).2.1 + (numV2 s).1).toNat ((numV3 s).2.1 + (numV2 s).1 + (numV3 s).1).toNat, (numV3 s).2.1 + (numV2 s).1 + (numV3 s).1, false)
theorem takes_of {s : ByteArray} (h : Head s) : Takes s := by
  have h7 := h.h7
  have a0 : gR s = (s.extract 0 4, 4, false) := takeT_good (by omega) (by omega)
  have a1 : g1 s = (s.extract 4 5, 5, false) := by unfold g1; rw [a0]; exact takeT_good (i := 4) (n := 1) (by omega) (by omega)
  have a2 : g2 s = (s.extract 5 6, 6, false) := by unfold g2; rw [a1]; exact takeT_good (i := 5) (n := 1) (by omega) (by omega)
  have a3 : g3 s = (s.extract 6 7, 7, false) := by unfold g3; rw [a2]; exact takeT_good (i := 6) (n := 1) (by omega) (by omega)
  have b1 : n1 s = ((numV s).1, (numV s).2.1, false) := by unfold n1; rw [a3]; exact num_good h.e1
  have b2 : n2 s = ((numV2 s).1, (numV2 s).2.1, false) := by unfold n2; rw [b1]; exact num_good h.e2
  have b3 : n3 s = ((numV3 s).1, (numV3 s).2.1, false) := by unfold n3; rw [b2]; exact num_good h.e3
  have c1 : t1 s = (s.extract (numV3 s).2.1.toNat ((numV3 s).2.1 + (numV2 s).1).toNat, (numV3 s).2.1 + (numV2 s).1, false) := by unfold t1; rw [b2, b3]; exact takeT_good h.l1.1 h.l1.2
  have c2 : t2 s = (s.extract ((numV3 s).2.1 + (numV2 s).1).toNat ((numV3 s).2.1 + (numV2 s).1 + (numV3 s).1).toNat, (numV3 s).2.1 + (numV2 s).1 + (numV3 s).1, false) := by unfold t2; rw [c1, b3]; exact takeT_good h.l2.1 h.l2.2
  exact ⟨a0, a1, a2, a3, b1, b2, b3, c1, c2⟩
theorem head_of {s : ByteArray} (h : (t2 s).2.2 = false) : Head s := by
  obtain ⟨f1, g1', g2', -⟩ := take_yes (show (takeT s (t1 s).2.1 (t1 s).2.2 (n3 s).1).2.2 = false from h)
  obtain ⟨f2, g3', g4', k1⟩ := take_yes (show (takeT s (n3 s).2.1 (n3 s).2.2 (n2 s).1).2.2 = false from f1)
  obtain ⟨f3, e3, k2⟩ := num_yes (show (numT (n2 s).2.1 (n2 s).2.2 (varV s (n2 s).2.1)).2.2 = false from f2)
  obtain ⟨f4, e2, k3⟩ := num_yes (show (numT (n1 s).2.1 (n1 s).2.2 (varV s (n1 s).2.1)).2.2 = false from f3)
  obtain ⟨f5, e1, k4⟩ := num_yes (show (numT (g3 s).2.1 (g3 s).2.2 (varV s (g3 s).2.1)).2.2 = false from f4)
  obtain ⟨f6, -, i6, k5⟩ := take_yes (show (takeT s (g2 s).2.1 (g2 s).2.2 1).2.2 = false from f5)
  obtain ⟨f7, -, i7, k6⟩ := take_yes (show (takeT s (g1 s).2.1 (g1 s).2.2 1).2.2 = false from f6)
  obtain ⟨f8, -, i8, k7⟩ := take_yes (show (takeT s (gR s).2.1 (gR s).2.2 1).2.2 = false from f7)
  obtain ⟨-, -, i9, k8⟩ := take_yes (show (takeT s 0 false 4).2.2 = false from f8)
  have a0 : (gR s).2.1 = 4 := by unfold gR; rw [k8]; rfl
  have a1 : (g1 s).2.1 = 5 := by unfold g1; rw [k7, a0]; rfl
  have a2 : (g2 s).2.1 = 6 := by unfold g2; rw [k6, a1]; rfl
  have a3 : (g3 s).2.1 = 7 := by unfold g3; rw [k5, a2]; rfl
  have b1 : n1 s = ((numV s).1, (numV s).2.1, false) := by unfold n1; rw [k4, a3]; rfl
  rw [a3] at e1
  rw [b1] at e2 k3
  have b2 : n2 s = ((numV2 s).1, (numV2 s).2.1, false) := by unfold n2; rw [b1]; exact k3
  rw [b2] at e3 k2 g3' g4' k1
  have b3 : n3 s = ((numV3 s).1, (numV3 s).2.1, false) := by unfold n3; rw [b2]; exact k2
  rw [b3] at g1' g2' g4' k1
  have c1 : (t1 s).2.1 = (numV3 s).2.1 + (numV2 s).1 := by unfold t1; rw [b2, b3, k1]
  rw [c1] at g2'
  rw [a2] at i6
  exact ⟨by omega, e1, e2, e3, ⟨g3', g4'⟩, ⟨g1', g2'⟩⟩
/-! ### the table -/
def tab (s : ByteArray) (p : Int) (n : Nat) : List Int := (List.range n).map (fun i : Nat => bt s (p + 2 * i) + 256 * bt s (p + 2 * i + 1))
theorem tab_length (s : ByteArray) (p : Int) (n : Nat) : (tab s p n).length = n := by unfold tab; rw [List.length_map, List.length_range]
theorem tab_last (s : ByteArray) (p : Int) (n : Nat) : tab s p (n + 1) = tab s p n ++ [bt s (p + 2 * n) + 256 * bt s (p + 2 * n + 1)] := by
  unfold tab; rw [List.range_succ, List.map_append]; rfl
theorem tab_first (s : ByteArray) (p : Int) (n : Nat) : tab s p (n + 1) = (bt s p + 256 * bt s (p + 1)) :: tab s (p + 2) n := by
  unfold tab; rw [List.range_succ_eq_map, List.map_cons, List.map_map]
  congr 1
  · simp
  · refine List.map_congr_left fun i _ => ?_
    simp only [Function.comp]
    rw [show p + 2 * ((i + 1 : Nat) : Int) = p + 2 + 2 * (i : Int) by omega]
theorem sizes_tab {s : ByteArray} : ∀ (n : Nat) (p : Int) (a : List Int), sizesV s n p a = if (tab s p n).all (fun z => decide (9 ≤ z)) = true then some (a ++ tab s p n) else none
  | 0, p, a => by simp [sizesV, tab]
  | n + 1, p, a => by
    rw [sizesV, tab_first, List.all_cons]
    by_cases c : bt s p + 256 * bt s (p + 1) < 9
    · rw [if_pos c, if_neg (by simp; omega)]
    · rw [if_neg c, sizes_tab n, List.append_assoc, decide_eq_true (by omega), Bool.true_and]
      rfl
theorem lens_tab {s : ByteArray} {p : Int} (hp : 0 ≤ p) : ∀ n : Nat, if p + 2 * n ≤ s.size ∧ (tab s p n).all (fun z => decide (9 ≤ z)) = true then lens fieldV s n (p, false, []) = (p + 2 * n, false, tab s p n) else (lens fieldV s n (p, false, [])).2.1 = true ∨ s.size < p
  | 0 => by
    by_cases h : p ≤ s.size
    · rw [if_pos (by simp [tab]; omega)]; simp [lens, tab]
    · rw [if_neg (by simp [tab]; omega)]; exact .inr (by omega)
  | n + 1 => by
    have ih := lens_tab (s := s) hp n
    rw [lens, lenT]
    by_cases c : p + 2 * n ≤ s.size ∧ (tab s p n).all (fun z => decide (9 ≤ z)) = true
    · rw [if_pos c] at ih
      rw [ih]
      simp only []
      by_cases d : p + 2 * (n : Int) + 2 ≤ s.size
      · rw [takeT_good (by omega) (by omega)]
        simp only []
        rw [f_two (by omega) d]
        have r0 := bt_range s (p + 2 * n)
        have r1 := bt_range s (p + 2 * n + 1)
        by_cases e : 9 ≤ bt s (p + 2 * n) + 256 * bt s (p + 2 * n + 1)
        · rw [if_pos ⟨by omega, by rw [tab_last, List.all_append, c.2]; simpa using e⟩, tab_last]
          have : sizeOk (bt s (p + 2 * n) + 256 * bt s (p + 2 * n + 1)) = true := by unfold sizeOk; exact decide_eq_true ⟨e, by omega⟩
          rw [this, show p + 2 * (n : Int) + 2 = p + 2 * ((n + 1 : Nat) : Int) by omega]
          rfl
        · rw [if_neg (fun h => e (by have := h.2; rw [tab_last, List.all_append] at this; simp only [List.all_cons, List.all_nil, Bool.and_true, Bool.and_eq_true, decide_eq_true_eq] at this; exact this.2))]
          left
          have : sizeOk (bt s (p + 2 * n) + 256 * bt s (p + 2 * n + 1)) = false := by unfold sizeOk; exact decide_eq_false (by omega)
          rw [this]; rfl
      · rw [takeT_bad (.inr (.inr (by omega))), if_neg (fun h => d (by have := h.1; omega))]
        left; rfl
    · rw [if_neg c] at ih
      rw [if_neg (fun h => c ⟨by have := h.1; omega, by have := h.2; rw [tab_last, List.all_append, Bool.and_eq_true] at this; exact this.1⟩)]
      rcases ih with ih | ih
      · left; rw [ih, takeT_bad (.inl rfl)]; rfl
      · exact .inr ih
/-! ### the segments -/
theorem texts_bad {s : ByteArray} : ∀ (l : List Int) (p : Int) (a : List ByteArray), (l.foldl (textT s) (p, true, a)).2.1 = true
  | [], _, _ => rfl
  | z :: l, p, a => by
    rw [List.foldl_cons, textT]
    simp only []
    rw [takeT_bad (.inl rfl)]
    exact texts_bad l _ _
theorem texts_parts {s : ByteArray} : ∀ (l : List Int) (p : Int) (a : List ByteArray), (∀ z ∈ l, 0 ≤ z) → 
    match partsV s l p a with
    | some r => l.foldl (textT s) (p, false, a) = ((s.size : Int), false, r)
    | none => (l.foldl (textT s) (p, false, a)).2.1 = true ∨ (l.foldl (textT s) (p, false, a)).1 ≠ s.size
  | [], p, a, _ => by
    rw [partsV]
    by_cases h : p = s.size
    · rw [if_pos h]; subst h; rfl
    · rw [if_neg h]; exact .inr h
  | z :: l, p, a, hz => by
    rw [partsV, List.foldl_cons, textT]
    simp only []
    by_cases h : (s.size : Int) - p < z
    · rw [if_pos h, takeT_bad (.inr (.inr h))]
      exact .inl (texts_bad l _ _)
    · rw [if_neg h, takeT_good (hz z (List.mem_cons_self ..)) (by omega)]
      exact texts_parts l _ _ fun x hx => hz x (List.mem_cons_of_mem _ hx)
theorem head_ok {s : ByteArray} (h : Head s) : okV s (numV s) (numV2 s) (numV3 s) = headOk (bt s 4) (bt s 5) (bt s 6) (numV s).1 (s.extract (numV3 s).2.1.toNat ((numV3 s).2.1 + (numV2 s).1).toNat) (s.extract ((numV3 s).2.1 + (numV2 s).1).toNat ((numV3 s).2.1 + (numV2 s).1 + (numV3 s).1).toNat) := by
  have h7 := h.h7
  have iF := varV_in (s := s) (p := 7) (by omega)
  have iH := varV_in (s := s) (p := (numV s).2.1) iF.1
  have iT := varV_in (s := s) (p := (numV2 s).2.1) iH.1
  have bF := varV_num (s := s) (p := 7) (by omega)
  have bF' : 0 ≤ (numV s).1 := bF.1
  have iT' : 0 ≤ (numV3 s).2.1 := iT.1
  have e1 := h.e1
  have e2 := h.e2
  have e3 := h.e3
  obtain ⟨l1, l2⟩ := h.l1
  obtain ⟨l3, l4⟩ := h.l2
  unfold okV headOk
  rw [ByteArray.size_extract, ByteArray.size_extract, decide_eq_true e1, decide_eq_true e2, decide_eq_true e3]
  simp only [Bool.true_and]
  rw [Bool.eq_iff_iff]
  simp only [Bool.and_eq_true, decide_eq_true_eq]
  generalize (numV s).1 = F1 at *
  generalize (numV2 s).1 = H1 at *
  generalize (numV3 s).1 = T1 at *
  generalize (numV3 s).2.1 = T2 at *
  constructor
  · rintro ⟨⟨⟨⟨⟨⟨k1, k2⟩, k3⟩, k4⟩, k5⟩, k6⟩, k7⟩
    refine ⟨k1, k2, ?_, ?_, ?_, ?_, ?_, ?_⟩ <;> omega
  · rintro ⟨k1, k2, k3, k4, k5, k6, k7, k8⟩
    refine ⟨⟨⟨⟨⟨⟨k1, k2⟩, ?_⟩, ?_⟩, ?_⟩, ?_⟩, ?_⟩ <;> omega
theorem get_eq (s : ByteArray) : getT s = getV s := by
  unfold getT getV
  by_cases h0 : 65536 < s.size
  · rw [if_pos h0]
    have : headV s = none := by unfold headV; rw [if_pos (.inl h0)]
    rw [this]; rfl
  rw [if_neg h0]
  by_cases hT : (t2 s).2.2 = false
  · have hH := head_of hT
    have K := takes_of hH
    have hok := head_ok hH
    obtain ⟨h7, -, -, -, l1, l2⟩ := hH
    have iF := varV_in (s := s) (p := 7) (by omega)
    have iH := varV_in (s := s) (p := (numV s).2.1) iF.1
    have iT := varV_in (s := s) (p := (numV2 s).2.1) iH.1
    have iT' : 0 ≤ (numV3 s).2.1 := iT.1
    rw [K.a0, K.c2]
    simp only []
    by_cases h1 : (s.extract 0 4).toList ≠ [68, 83, 67, 84]
    · rw [if_pos h1]
      have : headV s = none := by unfold headV; rw [if_pos (.inr (.inr h1))]
      rw [this]; rfl
    rw [if_neg h1, if_neg (by simp), K.a1, K.a2, K.a3, K.b1, K.c1]
    simp only []
    have q1 := f_one (s := s) (i := 4) (by omega) (by omega)
    have q2 := f_one (s := s) (i := 5) (by omega) (by omega)
    have q3 := f_one (s := s) (i := 6) (by omega) (by omega)
    rw [show (4 : Int).toNat = 4 from rfl, show ((4 : Int) + 1).toNat = 5 from rfl] at q1
    rw [show (5 : Int).toNat = 5 from rfl, show ((5 : Int) + 1).toNat = 6 from rfl] at q2
    rw [show (6 : Int).toNat = 6 from rfl, show ((6 : Int) + 1).toNat = 7 from rfl] at q3
    rw [q1, q2, q3, ← hok]
    by_cases h2 : okV s (numV s) (numV2 s) (numV3 s) = false
    · rw [if_pos h2]
      have : headV s = none := by unfold headV; rw [if_neg (by rintro (h | h | h); exact h0 h; omega; exact h1 h), if_pos h2]
      rw [this]; rfl
    rw [if_neg h2]
    have hv : headV s = tailV s (numV s) (numV2 s) (numV3 s) := by unfold headV; rw [if_neg (by rintro (h | h | h); exact h0 h; omega; exact h1 h), if_neg h2]
    rw [hv]
    have hk : okV s (numV s) (numV2 s) (numV3 s) = true := by simpa using h2
    have bF := varV_num (s := s) (p := 7) (by omega)
    have bF' : 0 ≤ (numV s).1 := bF.1
    have hm : 0 ≤ many (numV s).1 (bt s 6) := by
      unfold okV at hk
      simp only [Bool.and_eq_true, decide_eq_true_eq] at hk
      obtain ⟨⟨⟨⟨⟨⟨⟨⟨k1, k2⟩, k3⟩, k4⟩, k5⟩, k6⟩, k7⟩, k8⟩, k9⟩ := hk
      exact (many_ok bF' k6 k5.1 k5.2).2.1
    obtain ⟨M, hM⟩ : ∃ M : Nat, many (numV s).1 (bt s 6) = (M : Int) := ⟨(many (numV s).1 (bt s 6)).toNat, by omega⟩
    have hlo : lensOf s = lens fieldV s M ((numV3 s).2.1 + (numV2 s).1 + (numV3 s).1, false, []) := by
      unfold lensOf; rw [K.b1, K.a3, K.c2]
      simp only []
      rw [q3, hM, Int.toNat_natCast]
    rw [hlo]
    unfold tailV
    rw [hM, Int.toNat_natCast, sizes_tab]
    have hL := lens_tab (s := s) (p := (numV3 s).2.1 + (numV2 s).1 + (numV3 s).1) (by omega) M
    have hP1 : (numV3 s).2.1 + (numV2 s).1 + (numV3 s).1 ≤ s.size := by omega
    have hP0 : 0 ≤ (numV3 s).2.1 + (numV2 s).1 + (numV3 s).1 := by omega
    generalize (numV3 s).2.1 + (numV2 s).1 + (numV3 s).1 = P at *
    unfold restT
    by_cases c : P + 2 * (M : Int) ≤ s.size ∧ (tab s P M).all (fun z => decide (9 ≤ z)) = true
    · rw [if_pos c] at hL
      rw [hL]
      simp only []
      by_cases d : (s.size : Int) - P < 2 * (M : Int) + 4
      · rw [if_pos d, takeT_bad (.inr (.inr (by omega))), if_pos rfl]; rfl
      · rw [if_neg d, if_pos c.2, takeT_good (by omega) (by omega), if_neg (by simp)]
        simp only [Option.map_some, List.nil_append]
        have hcr := crcOf_lt (nats (s.extract 0 (P + 2 * (M : Int)).toNat)) (nats_lt _)
        have h4 := f_four (s := s) (i := P + 2 * (M : Int)) (by omega) (by omega) (crcOf (nats (s.extract 0 (P + 2 * (M : Int)).toNat))) (by omega)
        by_cases e : fieldV (s.extract (P + 2 * (M : Int)).toNat (P + 2 * (M : Int) + 4).toNat) = ((crcOf (nats (s.extract 0 (P + 2 * (M : Int)).toNat)) : Nat) : Int)
        · have e2 := h4.1 e
          rw [if_neg (fun h => h e), if_neg (fun h => h e2)]
          have ht := texts_parts (s := s) (tab s P M) (P + 2 * (M : Int) + 4) [] (by
            intro z hz
            have := List.all_eq_true.1 c.2 z hz
            have := of_decide_eq_true this
            omega)
          unfold lastT
          cases hp : partsV s (tab s P M) (P + 2 * (M : Int) + 4) [] with
          | none =>
            rw [hp] at ht
            rcases ht with ht | ht
            · rw [if_pos ht]; rfl
            · by_cases hb : (List.foldl (textT s) (P + 2 * (M : Int) + 4, false, []) (tab s P M)).2.1 = true
              · rw [if_pos hb]; rfl
              · rw [if_neg hb, if_pos ht]; rfl
          | some r =>
            rw [hp] at ht
            rw [ht, if_neg (by simp), if_neg (by simp)]
            simp only []
            rw [q1, q2, q3]
        · have e2 : (s.extract (P + 2 * (M : Int)).toNat (P + 2 * (M : Int) + 4).toNat).data.toList ≠ sumB (s.extract 0 (P + 2 * (M : Int)).toNat).data.toList := fun h => e (h4.2 h)
          rw [if_pos e, if_pos e2]; rfl
    · rw [if_neg c] at hL
      have hL : (lens fieldV s M (P, false, [])).2.1 = true := by
        rcases hL with h | h
        · exact h
        · omega
      rw [hL, takeT_bad (.inl rfl), if_pos rfl]
      by_cases d : (s.size : Int) - P < 2 * (M : Int) + 4
      · rw [if_pos d]; rfl
      · rw [if_neg d, if_neg (fun h => c ⟨by omega, h⟩)]; rfl
  · have hT' : (t2 s).2.2 = true := by simpa using hT
    have hno : headV s = none := by
      unfold headV
      by_cases c : 65536 < s.size ∨ s.size < 7 ∨ (s.extract 0 4).toList ≠ [68, 83, 67, 84]
      · rw [if_pos c]
      rw [if_neg c]
      by_cases d : okV s (numV s) (numV2 s) (numV3 s) = false
      · rw [if_pos d]
      exfalso
      have hk : okV s (numV s) (numV2 s) (numV3 s) = true := by simpa using d
      unfold okV at hk
      simp only [Bool.and_eq_true, decide_eq_true_eq] at hk
      obtain ⟨⟨⟨⟨⟨⟨⟨⟨k1, k2⟩, k3⟩, k4⟩, k5⟩, k6⟩, k7⟩, k8⟩, k9⟩ := hk
      have iF := varV_in (s := s) (p := 7) (by omega)
      have iH := varV_in (s := s) (p := (numV s).2.1) iF.1
      have iT := varV_in (s := s) (p := (numV2 s).2.1) iH.1
      have bH := varV_num (s := s) (p := (numV s).2.1) iF.1
      have bT := varV_num (s := s) (p := (numV2 s).2.1) iH.1
      have bH' : 0 ≤ (numV2 s).1 := bH.1
      have bT' : 0 ≤ (numV3 s).1 := bT.1
      have := takes_of ⟨by omega, k1, k2, k3, ⟨bH', by omega⟩, ⟨bT', by omega⟩⟩
      rw [this.c2] at hT'
      exact absurd hT' (by simp)
    rw [hno, if_pos hT']
    split <;> rfl
/-! ### what is got is put again -/
theorem vgo_list {s : ByteArray} {p : Int} (hp : 0 ≤ p) : ∀ (n j : Nat) (x : Int), (vgo s p n j x).2.2 = 0 → E s p (vgo s p n j x).2.1 = viC (vgo s p n j x).1 ∧ p ≤ (vgo s p n j x).2.1
  | 0, _, _, h => absurd h (by simp [vgo])
  | n + 1, j, x, h => by
    revert h
    simp only [vgo]
    split
    · split
      · exact vgo_list hp n (j + 1) _
      · split
        · rename_i h1 h2 h3
          intro _
          exact ⟨h3.2.symm, by simp only []; omega⟩
        · intro h; exact absurd h (by decide)
    · intro h; exact absurd h (by decide)
theorem varE {s : ByteArray} {p : Int} (hp : 0 ≤ p) (h : (varV s p).2.2 = 0) : E s p (varV s p).2.1 = viC (varV s p).1 ∧ p ≤ (varV s p).2.1 := vgo_list hp 5 0 0 h
theorem le2_bt (s : ByteArray) (p : Int) : le2 (bt s p + 256 * bt s (p + 1)) = [lowB (bt s p), lowB (bt s (p + 1))] := by
  have r0 := bt_range s p
  have r1 := bt_range s (p + 1)
  unfold le2
  rw [lowB_eq (a := bt s p + 256 * bt s (p + 1)) (b := bt s p) (by omega), show (bt s p + 256 * bt s (p + 1)) / 256 = bt s (p + 1) by omega]
theorem tabE {s : ByteArray} {p : Int} (hp : 0 ≤ p) : ∀ n : Nat, p + 2 * (n : Int) ≤ s.size → (tab s p n).flatMap le2 = E s p (p + 2 * n)
  | 0, h => by
    have := E_len (s := s) hp (Int.le_refl p) (by omega)
    have h0 : E s p p = [] := List.length_eq_zero_iff.1 (by omega)
    simp only [Int.natCast_zero, Int.mul_zero, Int.add_zero]
    rw [h0]; rfl
  | n + 1, h => by
    rw [tab_last, List.flatMap_append, tabE hp n (by omega), List.flatMap_cons, List.flatMap_nil, List.append_nil, le2_bt, ← E_two (by omega) (by omega), E_add hp (by omega) (by omega)]
    congr 1; omega
theorem partsE {s : ByteArray} : ∀ (l : List Int) (p : Int) (acc a : List ByteArray), (∀ z ∈ l, 0 ≤ z) → 0 ≤ p → p ≤ s.size → partsV s l p acc = some a →
    ∃ m : List ByteArray, a = acc ++ m ∧ m.map (fun x => (x.size : Int)) = l ∧ m.flatMap (fun x => x.data.toList) = E s p s.size
  | [], p, acc, a, _, h0, h1, h => by
    rw [partsV] at h
    split at h
    · rename_i hp
      cases h
      refine ⟨[], by simp, rfl, ?_⟩
      have := E_len (s := s) (i := p) (j := s.size) h0 h1 (Int.le_refl _)
      have h0 : E s p s.size = [] := List.length_eq_zero_iff.1 (by omega)
      rw [h0]; rfl
    · cases h
  | z :: l, p, acc, a, hz, h0, h1, h => by
    rw [partsV] at h
    have hz0 := hz z (List.mem_cons_self ..)
    split at h
    · cases h
    · obtain ⟨m, e1, e2, e3⟩ := partsE l _ _ a (fun x hx => hz x (List.mem_cons_of_mem _ hx)) (by omega) (by omega) h
      refine ⟨s.extract p.toNat (p + z).toNat :: m, by rw [e1, List.append_assoc]; rfl, ?_, ?_⟩
      · rw [List.map_cons, e2, ByteArray.size_extract]
        congr 1; omega
      · rw [List.flatMap_cons, e3]
        exact E_add h0 (by omega) (by omega)
theorem head_parts {s : ByteArray} {b c z f : Int} {h t : ByteArray} {l : List Int} {p : Int} (hh : headV s = some (b, c, z, f, h, t, l, p)) :
    ∃ M : Nat, Head s ∧ s.size ≤ 65536 ∧ (s.extract 0 4).toList = [68, 83, 67, 84] ∧ okV s (numV s) (numV2 s) (numV3 s) = true ∧ many (numV s).1 (bt s 6) = (M : Int) ∧ (numV3 s).2.1 + (numV2 s).1 + (numV3 s).1 + 2 * (M : Int) + 4 ≤ s.size ∧
      (∀ x ∈ l, 9 ≤ x) ∧ b = bt s 4 ∧ c = bt s 5 ∧ z = bt s 6 ∧ f = (numV s).1 ∧ h = s.extract (numV3 s).2.1.toNat ((numV3 s).2.1 + (numV2 s).1).toNat ∧ t = s.extract ((numV3 s).2.1 + (numV2 s).1).toNat ((numV3 s).2.1 + (numV2 s).1 + (numV3 s).1).toNat ∧
      l = tab s ((numV3 s).2.1 + (numV2 s).1 + (numV3 s).1) M ∧ p = (numV3 s).2.1 + (numV2 s).1 + (numV3 s).1 + 2 * (M : Int) := by
  unfold headV at hh
  split at hh
  · cases hh
  rename_i h0
  split at hh
  · cases hh
  rename_i hok
  have hk : okV s (numV s) (numV2 s) (numV3 s) = true := by simpa using hok
  have hd : (s.extract 0 4).toList = [68, 83, 67, 84] := Decidable.not_not.1 fun h => h0 (.inr (.inr h))
  have hk' := hk
  unfold okV at hk'
  simp only [Bool.and_eq_true, decide_eq_true_eq] at hk'
  obtain ⟨⟨⟨⟨⟨⟨⟨⟨k1, k2⟩, k3⟩, k4⟩, k5⟩, k6⟩, k7⟩, k8⟩, k9⟩ := hk'
  have iF := varV_in (s := s) (p := 7) (by omega)
  have iH := varV_in (s := s) (p := (numV s).2.1) iF.1
  have bF := varV_num (s := s) (p := 7) (by omega)
  have bH := varV_num (s := s) (p := (numV s).2.1) iF.1
  have bT := varV_num (s := s) (p := (numV2 s).2.1) iH.1
  have bF' : 0 ≤ (numV s).1 := bF.1
  have bH' : 0 ≤ (numV2 s).1 := bH.1
  have bT' : 0 ≤ (numV3 s).1 := bT.1
  obtain ⟨m1, m2, m3⟩ := many_ok bF' k6 k5.1 k5.2
  obtain ⟨M, hM⟩ : ∃ M : Nat, many (numV s).1 (bt s 6) = (M : Int) := ⟨(many (numV s).1 (bt s 6)).toNat, by omega⟩
  unfold tailV at hh
  rw [hM, Int.toNat_natCast, sizes_tab] at hh
  split at hh
  · cases hh
  rename_i hc
  split at hh
  · rename_i hall
    simp only [Option.map_some, Option.some.injEq, Prod.mk.injEq, List.nil_append] at hh
    obtain ⟨rfl, rfl, rfl, rfl, rfl, rfl, rfl, rfl⟩ := hh
    exact ⟨M, ⟨by omega, k1, k2, k3, ⟨bH', by omega⟩, ⟨bT', by omega⟩⟩, by omega, hd, hk, hM, by omega, fun x hx => of_decide_eq_true (List.all_eq_true.1 hall x hx), rfl, rfl, rfl, rfl, rfl, rfl, rfl, rfl⟩
  · cases hh
theorem flatMap_sizes (a : List ByteArray) : a.flatMap (fun x => le2 (x.size : Int)) = (a.map (fun x => (x.size : Int))).flatMap le2 := by
  rw [List.flatMap_map]
theorem got_put {s : ByteArray} {c b z f : Int} {h t : ByteArray} {a : List ByteArray} (hg : getV s = (c, b, z, f, h, t, a, 0)) :
    mayOk c b z f h t a = true ∧ putB c b z f h t a = s.data.toList := by
  unfold getV at hg
  cases hv : headV s with
  | none => rw [hv] at hg; simp at hg
  | some r =>
    obtain ⟨c', b', z', f', h', t', l, p⟩ := r
    rw [hv] at hg
    simp only [] at hg
    split at hg
    · simp at hg
    rename_i hsum
    have hsum := Decidable.not_not.1 hsum
    obtain ⟨M, hH, hs, hd, hk, hM, hp4, hl9, rfl, rfl, rfl, rfl, rfl, rfl, rfl, rfl⟩ := head_parts hv
    cases hpt : partsV s (tab s ((numV3 s).2.1 + (numV2 s).1 + (numV3 s).1) M) ((numV3 s).2.1 + (numV2 s).1 + (numV3 s).1 + 2 * (M : Int) + 4) [] with
    | none => rw [hpt] at hg; simp at hg
    | some a' =>
      rw [hpt] at hg
      simp only [Prod.mk.injEq] at hg
      obtain ⟨rfl, rfl, rfl, rfl, rfl, rfl, rfl, -⟩ := hg
      have iF := varV_in (s := s) (p := 7) (by omega)
      have iH := varV_in (s := s) (p := (numV s).2.1) iF.1
      have iT := varV_in (s := s) (p := (numV2 s).2.1) iH.1
      have iT' : 0 ≤ (numV3 s).2.1 := iT.1
      have bF := varV_num (s := s) (p := 7) (by omega)
      have bF' : 0 ≤ (numV s).1 := bF.1
      obtain ⟨l1, l2⟩ := hH.l1
      obtain ⟨l3, l4⟩ := hH.l2
      have h7 := hH.h7
      obtain ⟨v1, u1⟩ := varE (s := s) (p := 7) (by omega) hH.e1
      obtain ⟨v2, u2⟩ := varE (s := s) (p := (numV s).2.1) iF.1 hH.e2
      obtain ⟨v3, u3⟩ := varE (s := s) (p := (numV2 s).2.1) iH.1 hH.e3
      have v1 : E s 7 (numV s).2.1 = viC (numV s).1 := v1
      have v2 : E s (numV s).2.1 (numV2 s).2.1 = viC (numV2 s).1 := v2
      have v3 : E s (numV2 s).2.1 (numV3 s).2.1 = viC (numV3 s).1 := v3
      have u1 : 7 ≤ (numV s).2.1 := u1
      have u2 : (numV s).2.1 ≤ (numV2 s).2.1 := u2
      have u3 : (numV2 s).2.1 ≤ (numV3 s).2.1 := u3
      have hok := hk
      rw [head_ok hH] at hok
      unfold okV at hk
      simp only [Bool.and_eq_true, decide_eq_true_eq] at hk
      obtain ⟨⟨⟨⟨⟨⟨⟨⟨k1, k2⟩, k3⟩, k4⟩, k5⟩, k6⟩, k7⟩, k8⟩, k9⟩ := hk
      obtain ⟨m, e1, e2, e3⟩ := partsE _ _ _ _ (fun x hx => by have := hl9 x hx; omega) (by omega) (by omega) hpt
      rw [List.nil_append] at e1
      rw [e1]
      have hml : m.length = M := by have := congrArg List.length e2; rwa [List.length_map, tab_length] at this
      have hmay : mayOk (bt s 4) (bt s 5) (bt s 6) (numV s).1 (s.extract (numV3 s).2.1.toNat ((numV3 s).2.1 + (numV2 s).1).toNat) (s.extract ((numV3 s).2.1 + (numV2 s).1).toNat ((numV3 s).2.1 + (numV2 s).1 + (numV3 s).1).toNat) m = true := by
        unfold mayOk
        rw [hok, hml, hM, decide_eq_true rfl, Bool.true_and, Bool.true_and, List.all_eq_true]
        intro x hx
        have h9 := hl9 (x.size : Int) (by rw [← e2]; exact List.mem_map_of_mem hx)
        have hz : (x.size : Int) ≤ 65535 := by
          have hx2 : (x.size : Int) ∈ tab s ((numV3 s).2.1 + (numV2 s).1 + (numV3 s).1) M := by rw [← e2]; exact List.mem_map_of_mem hx
          unfold tab at hx2
          obtain ⟨i, -, hi⟩ := List.mem_map.1 hx2
          have r0 := bt_range s ((numV3 s).2.1 + (numV2 s).1 + (numV3 s).1 + 2 * (i : Int))
          have r1 := bt_range s ((numV3 s).2.1 + (numV2 s).1 + (numV3 s).1 + 2 * (i : Int) + 1)
          omega
        unfold sizeOk
        exact decide_eq_true ⟨h9, hz⟩
      refine ⟨hmay, ?_⟩
      have z1 : (s.extract (numV3 s).2.1.toNat ((numV3 s).2.1 + (numV2 s).1).toNat).size = (numV2 s).1 := by rw [ByteArray.size_extract]; omega
      have z2 : (s.extract ((numV3 s).2.1 + (numV2 s).1).toNat ((numV3 s).2.1 + (numV2 s).1 + (numV3 s).1).toNat).size = (numV3 s).1 := by rw [ByteArray.size_extract]; omega
      have hd' : E s 0 4 = [68, 83, 67, 84] := by unfold E; rw [← hd, ByteArray.toList_eq]; rfl
      have hE : headB (bt s 4) (bt s 5) (bt s 6) (numV s).1 (s.extract (numV3 s).2.1.toNat ((numV3 s).2.1 + (numV2 s).1).toNat) (s.extract ((numV3 s).2.1 + (numV2 s).1).toNat ((numV3 s).2.1 + (numV2 s).1 + (numV3 s).1).toNat) m = E s 0 ((numV3 s).2.1 + (numV2 s).1 + (numV3 s).1 + 2 * (M : Int)) := by
        unfold headB
        rw [z1, z2, ← viC_small bF' (by omega), ← viC_small l1 (by omega), ← viC_small l3 (by omega), flatMap_sizes, e2, tabE (by omega) M (by omega), ← v1, ← v2, ← v3]
        show ([68, 83, 67, 84] ++ ([lowB (bt s 4)] ++ ([lowB (bt s 5)] ++ [lowB (bt s 6)]))) ++ _ ++ _ ++ _ ++ E s (numV3 s).2.1 ((numV3 s).2.1 + (numV2 s).1) ++ E s ((numV3 s).2.1 + (numV2 s).1) ((numV3 s).2.1 + (numV2 s).1 + (numV3 s).1) ++ _ = _
        rw [← hd', ← E_one (s := s) (i := 4) (by omega) (by omega), ← E_one (s := s) (i := 5) (by omega) (by omega), ← E_one (s := s) (i := 6) (by omega) (by omega)]
        rw [show (4 : Int) + 1 = 5 from rfl, show (5 : Int) + 1 = 6 from rfl, show (6 : Int) + 1 = 7 from rfl]
        rw [E_add (i := 5) (by omega) (by omega) (by omega), E_add (i := 4) (by omega) (by omega) (by omega), E_add (i := 0) (j := 4) (by omega) (by omega) (by omega), E_add (i := 0) (j := 7) (by omega) (by omega) (by omega), E_add (i := 0) (by omega) (by omega) (by omega), E_add (i := 0) (by omega) (by omega) (by omega), E_add (i := 0) (by omega) (by omega) (by omega), E_add (i := 0) (by omega) (by omega) (by omega), E_add (i := 0) (by omega) (by omega) (by omega)]
      unfold putB
      rw [hE, e3]
      have hsum' : E s ((numV3 s).2.1 + (numV2 s).1 + (numV3 s).1 + 2 * (M : Int)) ((numV3 s).2.1 + (numV2 s).1 + (numV3 s).1 + 2 * (M : Int) + 4) = sumB (E s 0 ((numV3 s).2.1 + (numV2 s).1 + (numV3 s).1 + 2 * (M : Int))) := hsum
      rw [← hsum', E_add (by omega) (by omega) (by omega), E_add (by omega) (by omega) (by omega), E_all]
end Go.Proofs.Ytokegkpbbhegpaa.PT
