/- stream.Get: what it gives. -/
import Derived.Test.YtokegkpbbhegpaaWGetA
import Derived.Test.YtokegkpbbhegpaaWPutB
namespace Go.Proofs.Ytokegkpbbhegpaa
open Go.RowKit Go.Proofs.YtokegkpbbhegpaaW.PrintWords Go.Proofs.Ytokegkpbbhegpaa.PL Go.Proofs.Ytokegkpbbhegpaa.L
set_option linter.unusedVariables false
set_option linter.unusedSimpArgs false

/-- What field.Get and varint.Get give, whatever that is. -/
structure Tells (fg : ByteArray → Int) (vg : ByteArray → Int → Int × Int × Int) (k : Nat) : Prop where
  field : ∀ x : ByteArray, ∃ e, field_Get.f k x = some (fg x, e)
  varint : ∀ (x : ByteArray) (i : Int), x.size ≤ 65536 → 0 ≤ i → i ≤ x.size → varint_Get.f k x i = some (vg x i)
  varin : ∀ (x : ByteArray) (i : Int), 0 ≤ i → i ≤ x.size → (vg x i).2.2 = 0 → 0 ≤ (vg x i).2.1 ∧ (vg x i).2.1 ≤ x.size
section
variable {fg : ByteArray → Int} {vg : ByteArray → Int → Int × Int × Int} {k : Nat}
theorem take_T {g : Nat} {s : ByteArray} {i n : Int} {b : Bool} {w : World} {R : ByteArray × Int × Bool} (hI : RB w g s i b) (hs : s.size ≤ 65536) (hi : 0 ≤ i ∧ i ≤ s.size) (hR : R = takeT s i b n) :
    Calls Try.prog 30 #[.pointer (some ⟨g, 0, none⟩), .int .i64 n] w fun e w' => e = .returned (.string R.1) ∧ RB w' g s R.2.1 R.2.2 ∧ But w w' g := by
  subst hR; exact take_any g s i n b w hI hs hi.1 hi.2
theorem field_T (T : Tells fg vg k) {g : Nat} {s : ByteArray} {i n : Int} {b : Bool} {w : World} {R : ByteArray × Int × Bool} (hI : RB w g s i b) (hs : s.size ≤ 65536) (hi : 0 ≤ i ∧ i ≤ s.size) (hR : R = takeT s i b n) :
    Calls Try.prog 31 #[.pointer (some ⟨g, 0, none⟩), .int .i64 n] w fun e w' => e = .returned (.int .i64 (fg R.1)) ∧ RB w' g s R.2.1 R.2.2 ∧ But w w' g := by
  subst hR
  obtain ⟨e0, hx⟩ := T.field (takeT s i b n).1
  exact field_any g k s i n _ e0 b w hI hs hi.1 hi.2 hx
theorem number_T (T : Tells fg vg k) {g : Nat} {s : ByteArray} {i : Int} {b : Bool} {w : World} {R : Int × Int × Bool} (hI : RB w g s i b) (hs : s.size ≤ 65536) (hi : 0 ≤ i ∧ i ≤ s.size) (hR : R = numT i b (vg s i)) :
    Calls Try.prog 32 #[.pointer (some ⟨g, 0, none⟩)] w fun e w' => e = .returned (.int .i64 R.1) ∧ RB w' g s R.2.1 R.2.2 ∧ But w w' g := by
  subst hR
  exact rnumber_any g k s i _ _ _ b w hI (T.varint s i hs hi.1 hi.2)
theorem numT_in (T : Tells fg vg k) {s : ByteArray} {i : Int} {b : Bool} (hi : 0 ≤ i ∧ i ≤ s.size) : 0 ≤ (numT i b (vg s i)).2.1 ∧ (numT i b (vg s i)).2.1 ≤ s.size := by
  unfold numT
  split
  · exact hi
  · rename_i h
    refine T.varin s i hi.1 hi.2 ?_
    rcases Int.decEq (vg s i).2.2 0 with h' | h'
    · exact absurd (Or.inr h') h
    · exact h'
def zS : List Value := [.int .i64 0, .int .i64 0, .int .i64 0, .int .i64 0, .string ⟨#[]⟩, .string ⟨#[]⟩, .slice none 0 0]
theorem size_stream : (Try.prog.info? 26).map (·.size) = some 7 := by kernel_rfl
theorem one7 : zS.toArray.all (·.oneCell') = true := all_oneCell_toArray (by intro v hv; simp only [zS, List.mem_cons, List.not_mem_nil, or_false] at hv; rcases hv with rfl | rfl | rfl | rfl | rfl | rfl | rfl <;> rfl)
theorem size7 : (Try.prog.info? 26).map (·.size) = some zS.toArray.size := size_stream
theorem there7 {W : World} {g : Nat} {cs : List Value} (h : BC W g 26 cs) (hl : cs.length = 7) : W.there g 0 zS.toArray.size := h.there (by rw [hl]; exact Nat.le_refl _)
theorem get_ret {w W : World} {g : Nat} {cs : List Value} {e : Int} {a : Act} (hcs : cs.length = 7) (hI : BC W g 26 cs) (hb : Below w.heap.size w W) (h2 : a.tmps.getD 2 undef = .pointer (some ⟨g, 0, none⟩)) (h3 : a.tmps.getD 3 undef = .int .i64 e) (hd : a.defers = []) {Q : Ending → World → Prop} (hQ : Q (.returned (.tuple #[.agg cs.toArray, .int .i64 e])) W) :
    bodyPost Try.prog Try.f11 Q Exit.ret a W := by
  refine bodyPost_ret (bc_resultst (P := Try.prog) Try.results11 _ _ g cs _ h2 hI.range Try.underlying26 rfl (by rw [hcs]; exact size_stream)) hd ?_
  rw [h3]; exact hQ
theorem get_exit {w W : World} {e : Int} {a : Act} {cs : List Value} (hI : BC W w.heap.size 26 cs) (hl : cs.length = 7) (hb : Below w.heap.size w W) (h2 : a.tmps.getD 2 undef = .pointer (some ⟨w.heap.size, 0, none⟩)) (h3 : a.tmps.getD 3 undef = .int .i64 e) (hd : a.defers = []) :
    bodyPost Try.prog Try.f11 (fun x w' => x = .returned (.tuple #[.agg zS.toArray, .int .i64 e]) ∧ Below w.heap.size w w') Exit.ret a (W.setCells w.heap.size 0 zS.toArray.toList) := by
  have hb' := bc_below_setCells (Nat.le_refl _) zS 0 W hb
  exact get_ret rfl (BC.over (R := zS) hI hl) hb' h2 h3 hd ⟨rfl, hb'⟩
set_option maxHeartbeats 4000000 in
set_option maxRecDepth 100000 in
theorem get_long (s : ByteArray) (w : World) (hs : 65536 < s.size) :
    Calls Try.prog 11 #[.string s] w fun e w' => e = .returned (.tuple #[.agg zS.toArray, .int .i64 2300]) ∧ Below w.heap.size w w' := by
  have d1 : decide ((65536 : Int) < (s.size : Int)) = true := decide_eq_true (by omega)
  go_enter Try.func11, Try.ntmps11
  go_wp2
  exact get_ret (cs := zS) rfl (BC.alloc (BC.new w zS _) _) (w := w) (L.below_alloc (L.below_alloc (Below.refl _ _) _) _) rfl rfl rfl ⟨rfl, L.below_alloc (L.below_alloc (Below.refl _ _) _) _⟩
set_option maxHeartbeats 4000000 in
set_option maxRecDepth 100000 in
theorem get_none (s : ByteArray) (w : World) (hs : s.size ≤ 65536) {R0 : ByteArray × Int × Bool} (e0 : R0 = takeT s 0 false 4) (hm : R0.1.toList ≠ [68, 83, 67, 84]) :
    Calls Try.prog 11 #[.string s] w fun e w' => e = .returned (.tuple #[.agg zS.toArray, .int .i64 2300]) ∧ Below w.heap.size w w' := by
  have d1 : decide ((65536 : Int) < (s.size : Int)) = false := decide_eq_false (by omega)
  have d2 : (R0.1.toList == ([68, 83, 67, 84] : List UInt8)) = false := by simpa using hm
  replace e0 := Lib.hid e0
  have hR0 : RB ((w.alloc (.cells zS.toArray 26)).alloc (.cells #[.string s, .int .i64 0, .bool false] 70)) (w.heap.size + 1) s 0 false := BC.newAt (by simp)
  have hZ0 : BC ((w.alloc (.cells zS.toArray 26)).alloc (.cells #[.string s, .int .i64 0, .bool false] 70)) w.heap.size 26 zS := BC.alloc (BC.new w zS _) _
  have hb0 : Below w.heap.size w ((w.alloc (.cells zS.toArray 26)).alloc (.cells #[.string s, .int .i64 0, .bool false] 70)) := L.below_alloc (L.below_alloc (Below.refl _ _) _) _
  go_enter Try.func11, Try.ntmps11
  go_wp2_with (first | (go_at_call 30; refine (take_T hR0 hs ⟨by omega, by omega⟩ e0.out).mono ?_; rintro e w1 ⟨rfl, hR1, hb1⟩; have hZ1 := BC.but hZ0 hb1 (by omega); have hB1 := But.below hb0 hb1 (by omega) hb0.size; have z0 := BC.at_ hZ1 (o := 0) rfl; have y0 := BC.frozen hZ1 0; have z1 := BC.at_ hZ1 (o := 1) rfl; have y1 := BC.frozen hZ1 1; have z2 := BC.at_ hZ1 (o := 2) rfl; have y2 := BC.frozen hZ1 2; have z3 := BC.at_ hZ1 (o := 3) rfl; have y3 := BC.frozen hZ1 3; have z4 := BC.at_ hZ1 (o := 4) rfl; have y4 := BC.frozen hZ1 4; have z5 := BC.at_ hZ1 (o := 5) rfl; have y5 := BC.frozen hZ1 5; have z6 := BC.at_ hZ1 (o := 6) rfl; have y6 := BC.frozen hZ1 6; clear hR0 hZ0 hb0 hb1))
  exact get_exit hZ1 rfl hB1 rfl rfl rfl
/-- What stream.Get reads ahead of the lengths. -/
structure Reads (fg : ByteArray → Int) (vg : ByteArray → Int → Int × Int × Int) (s : ByteArray) (R0 F1 F2 F3 : ByteArray × Int × Bool) (N1 N2 N3 : Int × Int × Bool) (T1 T2 : ByteArray × Int × Bool) : Prop where
  e0 : R0 = takeT s 0 false 4
  e1 : F1 = takeT s R0.2.1 R0.2.2 1
  e2 : F2 = takeT s F1.2.1 F1.2.2 1
  e3 : F3 = takeT s F2.2.1 F2.2.2 1
  e4 : N1 = numT F3.2.1 F3.2.2 (vg s F3.2.1)
  e5 : N2 = numT N1.2.1 N1.2.2 (vg s N1.2.1)
  e6 : N3 = numT N2.2.1 N2.2.2 (vg s N2.2.1)
  e7 : T1 = takeT s N3.2.1 N3.2.2 N2.1
  e8 : T2 = takeT s T1.2.1 T1.2.2 N3.1
structure Ins (s : ByteArray) (R0 F1 F2 F3 : ByteArray × Int × Bool) (N1 N2 N3 : Int × Int × Bool) (T1 T2 : ByteArray × Int × Bool) : Prop where
  i0 : 0 ≤ R0.2.1 ∧ R0.2.1 ≤ s.size
  i1 : 0 ≤ F1.2.1 ∧ F1.2.1 ≤ s.size
  i2 : 0 ≤ F2.2.1 ∧ F2.2.1 ≤ s.size
  i3 : 0 ≤ F3.2.1 ∧ F3.2.1 ≤ s.size
  i4 : 0 ≤ N1.2.1 ∧ N1.2.1 ≤ s.size
  i5 : 0 ≤ N2.2.1 ∧ N2.2.1 ≤ s.size
  i6 : 0 ≤ N3.2.1 ∧ N3.2.1 ≤ s.size
  i7 : 0 ≤ T1.2.1 ∧ T1.2.1 ≤ s.size
  i8 : 0 ≤ T2.2.1 ∧ T2.2.1 ≤ s.size
theorem Reads.ins (T : Tells fg vg k) {s : ByteArray} {R0 F1 F2 F3 : ByteArray × Int × Bool} {N1 N2 N3 : Int × Int × Bool} {T1 T2 : ByteArray × Int × Bool} (h : Reads fg vg s R0 F1 F2 F3 N1 N2 N3 T1 T2) : Ins s R0 F1 F2 F3 N1 N2 N3 T1 T2 := by
  obtain ⟨e0, e1, e2, e3, e4, e5, e6, e7, e8⟩ := h
  have i0 : 0 ≤ R0.2.1 ∧ R0.2.1 ≤ s.size := by rw [e0]; exact takeT_in (by omega) (by omega)
  have i1 : 0 ≤ F1.2.1 ∧ F1.2.1 ≤ s.size := by rw [e1]; exact takeT_in i0.1 i0.2
  have i2 : 0 ≤ F2.2.1 ∧ F2.2.1 ≤ s.size := by rw [e2]; exact takeT_in i1.1 i1.2
  have i3 : 0 ≤ F3.2.1 ∧ F3.2.1 ≤ s.size := by rw [e3]; exact takeT_in i2.1 i2.2
  have i4 : 0 ≤ N1.2.1 ∧ N1.2.1 ≤ s.size := by rw [e4]; exact numT_in T i3
  have i5 : 0 ≤ N2.2.1 ∧ N2.2.1 ≤ s.size := by rw [e5]; exact numT_in T i4
  have i6 : 0 ≤ N3.2.1 ∧ N3.2.1 ≤ s.size := by rw [e6]; exact numT_in T i5
  have i7 : 0 ≤ T1.2.1 ∧ T1.2.1 ≤ s.size := by rw [e7]; exact takeT_in i6.1 i6.2
  exact ⟨i0, i1, i2, i3, i4, i5, i6, i7, by rw [e8]; exact takeT_in i7.1 i7.2⟩
set_option maxHeartbeats 4000000 in
set_option maxRecDepth 100000 in
theorem get_head (T : Tells fg vg k) (s : ByteArray) (w : World) (hs : s.size ≤ 65536) {R0 F1 F2 F3 : ByteArray × Int × Bool} {N1 N2 N3 : Int × Int × Bool} {T1 T2 : ByteArray × Int × Bool} (hr : Reads fg vg s R0 F1 F2 F3 N1 N2 N3 T1 T2) (hm : R0.1.toList = [68, 83, 67, 84]) (hbad : T2.2.2 = true) :
    Calls Try.prog 11 #[.string s] w fun e w' => e = .returned (.tuple #[.agg zS.toArray, .int .i64 2300]) ∧ Below w.heap.size w w' := by
  have d1 : decide ((65536 : Int) < (s.size : Int)) = false := decide_eq_false (by omega)
  have d2 : (R0.1.toList == ([68, 83, 67, 84] : List UInt8)) = true := by simpa using hm
  have hIn := hr.ins T
  obtain ⟨i0, i1, i2, i3, i4, i5, i6, i7, i8⟩ := hIn
  obtain ⟨e0, e1, e2, e3, e4, e5, e6, e7, e8⟩ := hr
  replace hm := Lib.hid hm
  replace e0 := Lib.hid e0
  replace e1 := Lib.hid e1
  replace e2 := Lib.hid e2
  replace e3 := Lib.hid e3
  replace e4 := Lib.hid e4
  replace e5 := Lib.hid e5
  replace e6 := Lib.hid e6
  replace e7 := Lib.hid e7
  replace e8 := Lib.hid e8
  replace i0 := Lib.hid i0
  replace i1 := Lib.hid i1
  replace i2 := Lib.hid i2
  replace i3 := Lib.hid i3
  replace i4 := Lib.hid i4
  replace i5 := Lib.hid i5
  replace i6 := Lib.hid i6
  replace i7 := Lib.hid i7
  replace i8 := Lib.hid i8
  have hR0 : RB ((w.alloc (.cells zS.toArray 26)).alloc (.cells #[.string s, .int .i64 0, .bool false] 70)) (w.heap.size + 1) s 0 false := BC.newAt (by simp)
  have hZ0 : BC ((w.alloc (.cells zS.toArray 26)).alloc (.cells #[.string s, .int .i64 0, .bool false] 70)) w.heap.size 26 zS := BC.alloc (BC.new w zS _) _
  have hB0 : Below w.heap.size w ((w.alloc (.cells zS.toArray 26)).alloc (.cells #[.string s, .int .i64 0, .bool false] 70)) := L.below_alloc (L.below_alloc (Below.refl _ _) _) _
  go_enter Try.func11, Try.ntmps11
  go_wp2_with (first | (go_at_call 30; refine (take_T hR0 hs ⟨by omega, by omega⟩ e0.out).mono ?_; rintro e w1 ⟨rfl, hR1, hb1⟩; have hZ1 := BC.but hZ0 hb1 (by omega); have hB1 := But.below hB0 hb1 (by omega) hB0.size; clear hR0 hZ0 hB0 hb1) | (go_at_call 31; refine (field_T T hR1 hs i0.out e1.out).mono ?_; rintro e w2 ⟨rfl, hR2, hb2⟩; have hZ2 := BC.but hZ1 hb2 (by omega); have hB2 := But.below hB1 hb2 (by omega) hB1.size; clear hR1 hZ1 hB1 hb2) | (go_at_call 31; refine (field_T T hR2 hs i1.out e2.out).mono ?_; rintro e w3 ⟨rfl, hR3, hb3⟩; have hZ3 := BC.but hZ2 hb3 (by omega); have hB3 := But.below hB2 hb3 (by omega) hB2.size; clear hR2 hZ2 hB2 hb3) | (go_at_call 31; refine (field_T T hR3 hs i2.out e3.out).mono ?_; rintro e w4 ⟨rfl, hR4, hb4⟩; have hZ4 := BC.but hZ3 hb4 (by omega); have hB4 := But.below hB3 hb4 (by omega) hB3.size; clear hR3 hZ3 hB3 hb4) | (go_at_call 32; refine (number_T T hR4 hs i3.out e4.out).mono ?_; rintro e w5 ⟨rfl, hR5, hb5⟩; have hZ5 := BC.but hZ4 hb5 (by omega); have hB5 := But.below hB4 hb5 (by omega) hB4.size; clear hR4 hZ4 hB4 hb5; have hlt := hR5.lt; replace hR5 := BC.alloc hR5 (.cells #[.int .i64 (fg F1.1), .int .i64 (fg F2.1), .int .i64 (fg F3.1), .int .i64 N1.1, .string ⟨#[]⟩, .string ⟨#[]⟩, .slice none 0 0] 26); replace hZ5 := BC.alloc hZ5 (.cells #[.int .i64 (fg F1.1), .int .i64 (fg F2.1), .int .i64 (fg F3.1), .int .i64 N1.1, .string ⟨#[]⟩, .string ⟨#[]⟩, .slice none 0 0] 26); have hX5 := BC.new w5 [.int .i64 (fg F1.1), .int .i64 (fg F2.1), .int .i64 (fg F3.1), .int .i64 N1.1, .string ⟨#[]⟩, .string ⟨#[]⟩, .slice none 0 0] 26; replace hB5 := L.below_alloc hB5 (.cells #[.int .i64 (fg F1.1), .int .i64 (fg F2.1), .int .i64 (fg F3.1), .int .i64 N1.1, .string ⟨#[]⟩, .string ⟨#[]⟩, .slice none 0 0] 26)) | (go_at_call 32; refine (number_T T hR5 hs i4.out e5.out).mono ?_; rintro e w6 ⟨rfl, hR6, hb6⟩; have hZ6 := BC.but hZ5 hb6 (by omega); have hX6 := BC.but hX5 hb6 (by omega); have hB6 := But.below hB5 hb6 (by omega) hB5.size; clear hR5 hZ5 hX5 hB5 hb6) | (go_at_call 32; refine (number_T T hR6 hs i5.out e6.out).mono ?_; rintro e w7 ⟨rfl, hR7, hb7⟩; have hZ7 := BC.but hZ6 hb7 (by omega); have hX7 := BC.but hX6 hb7 (by omega); have hB7 := But.below hB6 hb7 (by omega) hB6.size; clear hR6 hZ6 hX6 hB6 hb7) | (go_at_call 30; refine (take_T hR7 hs i6.out e7.out).mono ?_; rintro e w8 ⟨rfl, hR8, hb8⟩; have hZ8 := BC.but hZ7 hb8 (by omega); have hX8 := BC.but hX7 hb8 (by omega); have hB8 := But.below hB7 hb8 (by omega) hB7.size; clear hR7 hZ7 hX7 hB7 hb8) | (go_at_call 30; refine (take_T hR8 hs i7.out e8.out).mono ?_; rintro e w9 ⟨rfl, hR9, hb9⟩; have hZ9 := BC.but hZ8 hb9 (by omega); have hX9 := BC.but hX8 hb9 (by omega); have hB9 := But.below hB8 hb9 (by omega) hB8.size; clear hR8 hZ8 hX8 hB8 hb9; have x4 := BC.at_ hX9 (o := 4) rfl; have v4 := BC.frozen hX9 4; have x5 := BC.at_ hX9 (o := 5) rfl; have v5 := BC.frozen hX9 5; have n1 : (w5.heap.size = w.heap.size + 1) = False := eq_false (by omega); have n2 : (w.heap.size + 1 = w5.heap.size) = False := eq_false (by omega); have n3 : (w5.heap.size = w.heap.size) = False := eq_false (by omega); have n4 : (w.heap.size = w5.heap.size) = False := eq_false (by omega); have z0 := BC.at_ hZ9 (o := 0) rfl; have y0 := BC.frozen hZ9 0; have z1 := BC.at_ hZ9 (o := 1) rfl; have y1 := BC.frozen hZ9 1; have z2 := BC.at_ hZ9 (o := 2) rfl; have y2 := BC.frozen hZ9 2; have z3 := BC.at_ hZ9 (o := 3) rfl; have y3 := BC.frozen hZ9 3; have z4 := BC.at_ hZ9 (o := 4) rfl; have y4 := BC.frozen hZ9 4; have z5 := BC.at_ hZ9 (o := 5) rfl; have y5 := BC.frozen hZ9 5; have z6 := BC.at_ hZ9 (o := 6) rfl; have y6 := BC.frozen hZ9 6; have r2 := BC.at_ hR9 (o := 2) rfl; rw [hbad] at r2; have hB10 := (hB9.setCell (p := ⟨w5.heap.size, 4, none⟩) (by show w.heap.size ≤ w5.heap.size; omega) (.string T1.1)).setCell (p := ⟨w5.heap.size, 5, none⟩) (by show w.heap.size ≤ w5.heap.size; omega) (.string T2.1); have hZ10 := BC.far (BC.far hZ9 (p := ⟨w5.heap.size, 4, none⟩) (by show w5.heap.size ≠ w.heap.size; omega) (.string T1.1)) (p := ⟨w5.heap.size, 5, none⟩) (by show w5.heap.size ≠ w.heap.size; omega) (.string T2.1)))
  exact get_exit hZ10 rfl hB10 rfl rfl rfl
set_option maxHeartbeats 4000000 in
set_option maxRecDepth 100000 in
theorem get_no (T : Tells fg vg k) (s : ByteArray) (w : World) (hs : s.size ≤ 65536) {R0 F1 F2 F3 : ByteArray × Int × Bool} {N1 N2 N3 : Int × Int × Bool} {T1 T2 : ByteArray × Int × Bool} (hr : Reads fg vg s R0 F1 F2 F3 N1 N2 N3 T1 T2) (hm : R0.1.toList = [68, 83, 67, 84]) (hbad : T2.2.2 = false) (hno : headOk (fg F1.1) (fg F2.1) (fg F3.1) N1.1 T1.1 T2.1 = false) :
    Calls Try.prog 11 #[.string s] w fun e w' => e = .returned (.tuple #[.agg zS.toArray, .int .i64 2300]) ∧ Below w.heap.size w w' := by
  have d1 : decide ((65536 : Int) < (s.size : Int)) = false := decide_eq_false (by omega)
  have d2 : (R0.1.toList == ([68, 83, 67, 84] : List UInt8)) = true := by simpa using hm
  have hIn := hr.ins T
  obtain ⟨i0, i1, i2, i3, i4, i5, i6, i7, i8⟩ := hIn
  obtain ⟨e0, e1, e2, e3, e4, e5, e6, e7, e8⟩ := hr
  replace hm := Lib.hid hm
  replace e0 := Lib.hid e0
  replace e1 := Lib.hid e1
  replace e2 := Lib.hid e2
  replace e3 := Lib.hid e3
  replace e4 := Lib.hid e4
  replace e5 := Lib.hid e5
  replace e6 := Lib.hid e6
  replace e7 := Lib.hid e7
  replace e8 := Lib.hid e8
  replace i0 := Lib.hid i0
  replace i1 := Lib.hid i1
  replace i2 := Lib.hid i2
  replace i3 := Lib.hid i3
  replace i4 := Lib.hid i4
  replace i5 := Lib.hid i5
  replace i6 := Lib.hid i6
  replace i7 := Lib.hid i7
  replace i8 := Lib.hid i8
  have hR0 : RB ((w.alloc (.cells zS.toArray 26)).alloc (.cells #[.string s, .int .i64 0, .bool false] 70)) (w.heap.size + 1) s 0 false := BC.newAt (by simp)
  have hZ0 : BC ((w.alloc (.cells zS.toArray 26)).alloc (.cells #[.string s, .int .i64 0, .bool false] 70)) w.heap.size 26 zS := BC.alloc (BC.new w zS _) _
  have hB0 : Below w.heap.size w ((w.alloc (.cells zS.toArray 26)).alloc (.cells #[.string s, .int .i64 0, .bool false] 70)) := L.below_alloc (L.below_alloc (Below.refl _ _) _) _
  go_enter Try.func11, Try.ntmps11
  go_wp2_with (first | (go_at_call 30; refine (take_T hR0 hs ⟨by omega, by omega⟩ e0.out).mono ?_; rintro e w1 ⟨rfl, hR1, hb1⟩; have hZ1 := BC.but hZ0 hb1 (by omega); have hB1 := But.below hB0 hb1 (by omega) hB0.size; clear hR0 hZ0 hB0 hb1) | (go_at_call 31; refine (field_T T hR1 hs i0.out e1.out).mono ?_; rintro e w2 ⟨rfl, hR2, hb2⟩; have hZ2 := BC.but hZ1 hb2 (by omega); have hB2 := But.below hB1 hb2 (by omega) hB1.size; clear hR1 hZ1 hB1 hb2) | (go_at_call 31; refine (field_T T hR2 hs i1.out e2.out).mono ?_; rintro e w3 ⟨rfl, hR3, hb3⟩; have hZ3 := BC.but hZ2 hb3 (by omega); have hB3 := But.below hB2 hb3 (by omega) hB2.size; clear hR2 hZ2 hB2 hb3) | (go_at_call 31; refine (field_T T hR3 hs i2.out e3.out).mono ?_; rintro e w4 ⟨rfl, hR4, hb4⟩; have hZ4 := BC.but hZ3 hb4 (by omega); have hB4 := But.below hB3 hb4 (by omega) hB3.size; clear hR3 hZ3 hB3 hb4) | (go_at_call 32; refine (number_T T hR4 hs i3.out e4.out).mono ?_; rintro e w5 ⟨rfl, hR5, hb5⟩; have hZ5 := BC.but hZ4 hb5 (by omega); have hB5 := But.below hB4 hb5 (by omega) hB4.size; clear hR4 hZ4 hB4 hb5; have hlt := hR5.lt; replace hR5 := BC.alloc hR5 (.cells #[.int .i64 (fg F1.1), .int .i64 (fg F2.1), .int .i64 (fg F3.1), .int .i64 N1.1, .string ⟨#[]⟩, .string ⟨#[]⟩, .slice none 0 0] 26); replace hZ5 := BC.alloc hZ5 (.cells #[.int .i64 (fg F1.1), .int .i64 (fg F2.1), .int .i64 (fg F3.1), .int .i64 N1.1, .string ⟨#[]⟩, .string ⟨#[]⟩, .slice none 0 0] 26); have hX5 := BC.new w5 [.int .i64 (fg F1.1), .int .i64 (fg F2.1), .int .i64 (fg F3.1), .int .i64 N1.1, .string ⟨#[]⟩, .string ⟨#[]⟩, .slice none 0 0] 26; replace hB5 := L.below_alloc hB5 (.cells #[.int .i64 (fg F1.1), .int .i64 (fg F2.1), .int .i64 (fg F3.1), .int .i64 N1.1, .string ⟨#[]⟩, .string ⟨#[]⟩, .slice none 0 0] 26)) | (go_at_call 32; refine (number_T T hR5 hs i4.out e5.out).mono ?_; rintro e w6 ⟨rfl, hR6, hb6⟩; have hZ6 := BC.but hZ5 hb6 (by omega); have hX6 := BC.but hX5 hb6 (by omega); have hB6 := But.below hB5 hb6 (by omega) hB5.size; clear hR5 hZ5 hX5 hB5 hb6) | (go_at_call 32; refine (number_T T hR6 hs i5.out e6.out).mono ?_; rintro e w7 ⟨rfl, hR7, hb7⟩; have hZ7 := BC.but hZ6 hb7 (by omega); have hX7 := BC.but hX6 hb7 (by omega); have hB7 := But.below hB6 hb7 (by omega) hB6.size; clear hR6 hZ6 hX6 hB6 hb7) | (go_at_call 30; refine (take_T hR7 hs i6.out e7.out).mono ?_; rintro e w8 ⟨rfl, hR8, hb8⟩; have hZ8 := BC.but hZ7 hb8 (by omega); have hX8 := BC.but hX7 hb8 (by omega); have hB8 := But.below hB7 hb8 (by omega) hB7.size; clear hR7 hZ7 hX7 hB7 hb8) | (go_at_call 30; refine (take_T hR8 hs i7.out e8.out).mono ?_; rintro e w9 ⟨rfl, hR9, hb9⟩; have hZ9 := BC.but hZ8 hb9 (by omega); have hX9 := BC.but hX8 hb9 (by omega); have hB9 := But.below hB8 hb9 (by omega) hB8.size; clear hR8 hZ8 hX8 hB8 hb9; have x4 := BC.at_ hX9 (o := 4) rfl; have v4 := BC.frozen hX9 4; have x5 := BC.at_ hX9 (o := 5) rfl; have v5 := BC.frozen hX9 5; have n1 : (w5.heap.size = w.heap.size + 1) = False := eq_false (by omega); have n2 : (w.heap.size + 1 = w5.heap.size) = False := eq_false (by omega); have n3 : (w5.heap.size = w.heap.size) = False := eq_false (by omega); have n4 : (w.heap.size = w5.heap.size) = False := eq_false (by omega); have r2 := BC.at_ hR9 (o := 2) rfl; rw [hbad] at r2; have hB10 := (hB9.setCell (p := ⟨w5.heap.size, 4, none⟩) (by show w.heap.size ≤ w5.heap.size; omega) (.string T1.1)).setCell (p := ⟨w5.heap.size, 5, none⟩) (by show w.heap.size ≤ w5.heap.size; omega) (.string T2.1); have hZ10 := BC.far (BC.far hZ9 (p := ⟨w5.heap.size, 4, none⟩) (by show w5.heap.size ≠ w.heap.size; omega) (.string T1.1)) (p := ⟨w5.heap.size, 5, none⟩) (by show w5.heap.size ≠ w.heap.size; omega) (.string T2.1); have hX10 : SB ((w9.setCell ⟨w5.heap.size, 4, none⟩ (.string T1.1)).setCell ⟨w5.heap.size, 5, none⟩ (.string T2.1)) w5.heap.size (fg F1.1) (fg F2.1) (fg F3.1) N1.1 T1.1 T2.1 none 0 0 := BC.set (BC.set hX9 4 (.string T1.1)) 5 (.string T2.1)) | (go_at_call 33; refine (head_any w5.heap.size (fg F1.1) (fg F2.1) (fg F3.1) N1.1 T1.1 T2.1 none 0 0 _ hX10).mono ?_; rw [hno]; rintro e w10 ⟨rfl, hb10⟩; have hZ11 := BC.below hZ10 hb10; have hB11 := below_next hB10 hb10; have z0 := BC.at_ hZ11 (o := 0) rfl; have y0 := BC.frozen hZ11 0; have z1 := BC.at_ hZ11 (o := 1) rfl; have y1 := BC.frozen hZ11 1; have z2 := BC.at_ hZ11 (o := 2) rfl; have y2 := BC.frozen hZ11 2; have z3 := BC.at_ hZ11 (o := 3) rfl; have y3 := BC.frozen hZ11 3; have z4 := BC.at_ hZ11 (o := 4) rfl; have y4 := BC.frozen hZ11 4; have z5 := BC.at_ hZ11 (o := 5) rfl; have y5 := BC.frozen hZ11 5; have z6 := BC.at_ hZ11 (o := 6) rfl; have y6 := BC.frozen hZ11 6))
  exact get_exit hZ11 rfl hB11 rfl rfl rfl
end
end Go.Proofs.Ytokegkpbbhegpaa
