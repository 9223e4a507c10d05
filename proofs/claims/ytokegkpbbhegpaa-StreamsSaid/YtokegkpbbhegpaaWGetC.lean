/- stream.Get, where its head may be: what it gives. -/
import Derived.Test.YtokegkpbbhegpaaWGetB
import Derived.Test.YtokegkpbbhegpaaWLast
namespace Go.Proofs.Ytokegkpbbhegpaa
open Go.RowKit Go.Proofs.YtokegkpbbhegpaaW.PrintWords Go.Proofs.Ytokegkpbbhegpaa.PL Go.Proofs.YtokegkpbbhegpaaW.PrintLast Go.Proofs.Ytokegkpbbhegpaa.L
set_option linter.unusedVariables false
set_option linter.unusedSimpArgs false
section
variable {fg : ByteArray → Int} {vg : ByteArray → Int → Int × Int × Int} {k : Nat}
/-- One more length. -/
def lenT (fg : ByteArray → Int) (s : ByteArray) (p : Int × Bool × List Int) : Int × Bool × List Int := ((takeT s p.1 p.2.1 2).2.1, (takeT s p.1 p.2.1 2).2.2 || !sizeOk (fg (takeT s p.1 p.2.1 2).1), p.2.2 ++ [fg (takeT s p.1 p.2.1 2).1])
def lens (fg : ByteArray → Int) (s : ByteArray) : Nat → Int × Bool × List Int → Int × Bool × List Int
  | 0, p => p
  | n + 1, p => lenT fg s (lens fg s n p)
/-- One more segment. -/
def textT (s : ByteArray) (p : Int × Bool × List ByteArray) (n : Int) : Int × Bool × List ByteArray := ((takeT s p.1 p.2.1 n).2.1, (takeT s p.1 p.2.1 n).2.2, p.2.2 ++ [(takeT s p.1 p.2.1 n).1])
abbrev GetR := Int × Int × Int × Int × ByteArray × ByteArray × List ByteArray × Int
def noR (e : Int) : GetR := (0, 0, 0, 0, ⟨#[]⟩, ⟨#[]⟩, [], e)
def lastT (s : ByteArray) (F1 F2 F3 : ByteArray × Int × Bool) (N1 : Int × Int × Bool) (T1 T2 : ByteArray × Int × Bool) (fg : ByteArray → Int) (Q : Int × Bool × List ByteArray) : GetR :=
  if Q.2.1 = true then noR 2300 else if Q.1 ≠ s.size then noR 2300 else (fg F1.1, fg F2.1, fg F3.1, N1.1, T1.1, T2.1, Q.2.2, 0)
def restT (s : ByteArray) (F1 F2 F3 : ByteArray × Int × Bool) (N1 : Int × Int × Bool) (T1 T2 : ByteArray × Int × Bool) (fg : ByteArray → Int) (P : Int × Bool × List Int) (R : ByteArray × Int × Bool) : GetR :=
  if R.2.2 = true then noR 2300 else if fg R.1 ≠ ((crcOf (nats (s.extract 0 P.1.toNat)) : Nat) : Int) then noR 2301 else lastT s F1 F2 F3 N1 T1 T2 fg (P.2.2.foldl (textT s) (R.2.1, false, []))
def GetPost (w : World) (r : GetR) (e : Ending) (w' : World) : Prop :=
  ∃ v, e = .returned (.tuple #[.agg #[.int .i64 r.1, .int .i64 r.2.1, .int .i64 r.2.2.1, .int .i64 r.2.2.2.1, .string r.2.2.2.2.1, .string r.2.2.2.2.2.1, v], .int .i64 r.2.2.2.2.2.2.2]) ∧ Kd.R Kd.string 9 w' w.heap.size (fun _ => True) v r.2.2.2.2.2.2.1 ∧ Below w.heap.size w w'
theorem get_exit2 {w W : World} {e : Int} {a : Act} {cs : List Value} {r : GetR} (hr : r = noR e) (hI : BC W w.heap.size 26 cs) (hl : cs.length = 7) (hb : Below w.heap.size w W) (h2 : a.tmps.getD 2 undef = .pointer (some ⟨w.heap.size, 0, none⟩)) (h3 : a.tmps.getD 3 undef = .int .i64 e) (hd : a.defers = []) :
    bodyPost Try.prog Try.f11 (fun x w' => GetPost w r x w') Exit.ret a (W.setCells w.heap.size 0 zS.toArray.toList) := by
  have hb' := bc_below_setCells (Nat.le_refl _) zS 0 W hb
  subst hr
  exact get_ret rfl (BC.over (R := zS) hI hl) hb' h2 h3 hd ⟨_, rfl, Kd.R_nil _ _ _ _ _, hb'⟩
theorem R_setCells {α : Type} {d : Kd α} {e : Nat} {base : Nat} {ok : Nat → Prop} {v : Value} {xs : List α} {g t : Nat} (ht : ∀ q, q ∈ e :: d.E → q ≠ t) : ∀ (vs : List Value) (o : Nat) (w : World) (cs : List Value), BC w g t cs → d.R e w base ok v xs → d.R e (w.setCells g o vs) base ok v xs
  | [], _, _, _, _, h => h
  | x :: r, o, w, cs, hb, h => by
    rw [World.setCells]
    exact R_setCells ht r (o + 1) _ _ (hb.set o x) (Kd.R_set h hb.blk ht o x)
theorem get_ok {w W : World} {a : Act} {cs : List Value} {r : GetR} {c b s f : Int} {h t : ByteArray} {l : List ByteArray} {v : Value} (hr : r = (c, b, s, f, h, t, l, 0)) (hI : BC W w.heap.size 26 cs) (hl : cs.length = 7) (hb : Below w.heap.size w W) (hV : Kd.R Kd.string 9 W w.heap.size (fun _ => True) v l)
    (h2 : a.tmps.getD 2 undef = .pointer (some ⟨w.heap.size, 0, none⟩)) (h3 : a.tmps.getD 3 undef = .int .i64 0) (hd : a.defers = []) :
    bodyPost Try.prog Try.f11 (fun x w' => GetPost w r x w') Exit.ret a (W.setCells w.heap.size 0 [.int .i64 c, .int .i64 b, .int .i64 s, .int .i64 f, .string h, .string t, v]) := by
  have hb' := bc_below_setCells (Nat.le_refl _) [.int .i64 c, .int .i64 b, .int .i64 s, .int .i64 f, .string h, .string t, v] 0 W hb
  subst hr
  exact get_ret rfl (BC.over (R := [.int .i64 c, .int .i64 b, .int .i64 s, .int .i64 f, .string h, .string t, v]) hI hl) hb' h2 h3 hd ⟨v, rfl, R_setCells (by decide) _ 0 _ _ hI hV, hb'⟩
theorem lens_in {s : ByteArray} {p : Int × Bool × List Int} (h : 0 ≤ p.1 ∧ p.1 ≤ s.size) : ∀ n, 0 ≤ (lens fg s n p).1 ∧ (lens fg s n p).1 ≤ s.size
  | 0 => h
  | n + 1 => takeT_in (lens_in h n).1 (lens_in h n).2
theorem info9 : (Try.prog.info? 9).map (fun i => (i.zero, i.size, i.bytes)) = some (some (.string ⟨#[]⟩), 1, 16) := by kernel_rfl
theorem info3 : (Try.prog.info? 3).map (fun i => (i.zero, i.size, i.bytes)) = some (some (.int .i64 0), 1, 8) := by kernel_rfl
theorem lens_length {s : ByteArray} {p : Int × Bool × List Int} : ∀ n, (lens fg s n p).2.2.length = p.2.2.length + n
  | 0 => rfl
  | n + 1 => by rw [lens, lenT, List.length_append, lens_length n]; simp; omega
theorem texts_in {s : ByteArray} : ∀ (l : List Int) {p : Int × Bool × List ByteArray}, 0 ≤ p.1 ∧ p.1 ≤ s.size → 0 ≤ (l.foldl (textT s) p).1 ∧ (l.foldl (textT s) p).1 ≤ s.size
  | [], _, h => h
  | x :: r, p, h => texts_in r (takeT_in h.1 h.2)
theorem texts_length {s : ByteArray} : ∀ (l : List Int) (p : Int × Bool × List ByteArray), (l.foldl (textT s) p).2.2.length = p.2.2.length + l.length
  | [], _ => rfl
  | x :: r, p => by rw [List.foldl_cons, texts_length r, textT, List.length_append, List.length_cons]; simp; omega
theorem foldl_more {β : Type} (f : β → Int → β) (p : β) (l : List Int) {n : Nat} (h : n < l.length) : (l.take (n + 1)).foldl f p = f ((l.take n).foldl f p) (rd l (n : Int)) := by
  have e : rd l (n : Int) = l[n] := by unfold rd; rw [Int.toNat_natCast, List.getD_eq_getElem?_getD, List.getElem?_eq_getElem h]; rfl
  rw [List.take_add_one, List.getElem?_eq_getElem h, Option.toList_some, List.foldl_append, e]; rfl
theorem R_but {α : Type} {d : Kd α} {e : Nat} {w w' : World} {base : Nat} {ok : Nat → Prop} {v : Value} {xs : List α} {g t : Nat} {cs : List Value} (h : d.R e w base ok v xs) (hb : BC w g t cs) (ht : ∀ q, q ∈ e :: d.E → q ≠ t) (hbt : But w w' g) : d.R e w' base ok v xs :=
  Kd.R_mono (Kd.R_keep (Kd.R_types h hb.blk ht) ⟨hbt.size, fun i hi hg _ => hbt.block i hi hg⟩ (fun k hk => hk.2)) (fun k hk => hk.1)
theorem R_setB {α : Type} {d : Kd α} {e : Nat} {w : World} {base : Nat} {ok : Nat → Prop} {v : Value} {xs : List α} {g t : Nat} {cs : List Value} (h : d.R e w base ok v xs) (hb : BC w g t cs) (ht : ∀ q, q ∈ e :: d.E → q ≠ t) (j : Nat) (u : Value) : d.R e (w.setCell ⟨g, j, none⟩ u) base ok v xs := Kd.R_set h hb.blk ht j u
theorem BC.grown {w w1 : World} {g t : Nat} {cs : List Value} {row : Option Nat} (h : BC w g t cs) (hg : w.grownBy w1 row) (hne : some g ≠ row) : BC w1 g t cs := ⟨blk_grown h.blk hg hne⟩
set_option maxHeartbeats 4000000 in
set_option maxRecDepth 100000 in
theorem get_main (T : Tells fg vg k) (s : ByteArray) (w : World) (hs : s.size ≤ 65536) {R0 F1 F2 F3 : ByteArray × Int × Bool} {N1 N2 N3 : Int × Int × Bool} {T1 T2 : ByteArray × Int × Bool} (hr : Reads fg vg s R0 F1 F2 F3 N1 N2 N3 T1 T2) (hm : R0.1.toList = [68, 83, 67, 84]) (hbad : T2.2.2 = false) (hno : headOk (fg F1.1) (fg F2.1) (fg F3.1) N1.1 T1.1 T2.1 = true) :
    Calls Try.prog 11 #[.string s] w fun e w' => GetPost w (restT s F1 F2 F3 N1 T1 T2 fg (lens fg s (many N1.1 (fg F3.1)).toNat (T2.2.1, false, [])) (takeT s (lens fg s (many N1.1 (fg F3.1)).toNat (T2.2.1, false, [])).1 (lens fg s (many N1.1 (fg F3.1)).toNat (T2.2.1, false, [])).2.1 4)) e w' := by
  have d1 : decide ((65536 : Int) < (s.size : Int)) = false := decide_eq_false (by omega)
  have d2 : (R0.1.toList == ([68, 83, 67, 84] : List UInt8)) = true := by simpa using hm
  have hIn := hr.ins T
  obtain ⟨i0, i1, i2, i3, i4, i5, i6, i7, i8⟩ := hIn
  obtain ⟨e0, e1, e2, e3, e4, e5, e6, e7, e8⟩ := hr
  replace hm := Lib.hid hm
  replace e0 := Lib.hid e0
  replace e1 := Lib.hid e1
  replace e2 := Lib.hid e2
  replace e3 := Lib.hid e3
  replace e4 := Lib.hid e4
  replace e5 := Lib.hid e5
  replace e6 := Lib.hid e6
  replace e7 := Lib.hid e7
  replace e8 := Lib.hid e8
  replace i0 := Lib.hid i0
  replace i1 := Lib.hid i1
  replace i2 := Lib.hid i2
  replace i3 := Lib.hid i3
  replace i4 := Lib.hid i4
  replace i5 := Lib.hid i5
  replace i6 := Lib.hid i6
  replace i7 := Lib.hid i7
  replace i8 := Lib.hid i8
  have hR0 : RB ((w.alloc (.cells zS.toArray 26)).alloc (.cells #[.string s, .int .i64 0, .bool false] 70)) (w.heap.size + 1) s 0 false := BC.newAt (by simp)
  have hZ0 : BC ((w.alloc (.cells zS.toArray 26)).alloc (.cells #[.string s, .int .i64 0, .bool false] 70)) w.heap.size 26 zS := BC.alloc (BC.new w zS _) _
  have hB0 : Below w.heap.size w ((w.alloc (.cells zS.toArray 26)).alloc (.cells #[.string s, .int .i64 0, .bool false] 70)) := L.below_alloc (L.below_alloc (Below.refl _ _) _) _
  go_enter Try.func11, Try.ntmps11
  have hmany : stream_Many.f N1.1 (fg F3.1) = some (many N1.1 (fg F3.1)) := by
    have hh := of_decide_eq_true hno
    exact many_eq hh.2.2.1 hh.2.2.2.1 hh.2.2.2.2.1 hh.2.2.2.2.2.1
  have hM0 : 0 ≤ many N1.1 (fg F3.1) := by
    have hh := of_decide_eq_true hno
    exact Int.ediv_nonneg (by omega) (by omega)
  have hM1 : many N1.1 (fg F3.1) ≤ 4159 := by
    have hh := of_decide_eq_true hno
    have := Int.ediv_le_self (fg F3.1) (show 0 ≤ N1.1 + fg F3.1 - 1 by omega)
    unfold many; omega
  obtain ⟨M, hM⟩ : ∃ M : Nat, many N1.1 (fg F3.1) = M := ⟨_, (Int.toNat_of_nonneg hM0).symm⟩
  rw [hM] at hmany hM0 hM1
  replace hmany := Lib.hid hmany
  replace hM := Lib.hid hM
  go_wp2_with (first | (go_at_call 30; refine (take_T hR0 hs ⟨by omega, by omega⟩ e0.out).mono ?_; rintro e w1 ⟨rfl, hR1, hb1⟩; have hZ1 := BC.but hZ0 hb1 (by omega); have hB1 := But.below hB0 hb1 (by omega) hB0.size; clear hR0 hZ0 hB0 hb1) | (go_at_call 31; refine (field_T T hR1 hs i0.out e1.out).mono ?_; rintro e w2 ⟨rfl, hR2, hb2⟩; have hZ2 := BC.but hZ1 hb2 (by omega); have hB2 := But.below hB1 hb2 (by omega) hB1.size; clear hR1 hZ1 hB1 hb2) | (go_at_call 31; refine (field_T T hR2 hs i1.out e2.out).mono ?_; rintro e w3 ⟨rfl, hR3, hb3⟩; have hZ3 := BC.but hZ2 hb3 (by omega); have hB3 := But.below hB2 hb3 (by omega) hB2.size; clear hR2 hZ2 hB2 hb3) | (go_at_call 31; refine (field_T T hR3 hs i2.out e3.out).mono ?_; rintro e w4 ⟨rfl, hR4, hb4⟩; have hZ4 := BC.but hZ3 hb4 (by omega); have hB4 := But.below hB3 hb4 (by omega) hB3.size; clear hR3 hZ3 hB3 hb4) | (go_at_call 32; refine (number_T T hR4 hs i3.out e4.out).mono ?_; rintro e w5 ⟨rfl, hR5, hb5⟩; have hZ5 := BC.but hZ4 hb5 (by omega); have hB5 := But.below hB4 hb5 (by omega) hB4.size; clear hR4 hZ4 hB4 hb5; have hlt := hR5.lt; replace hR5 := BC.alloc hR5 (.cells #[.int .i64 (fg F1.1), .int .i64 (fg F2.1), .int .i64 (fg F3.1), .int .i64 N1.1, .string ⟨#[]⟩, .string ⟨#[]⟩, .slice none 0 0] 26); replace hZ5 := BC.alloc hZ5 (.cells #[.int .i64 (fg F1.1), .int .i64 (fg F2.1), .int .i64 (fg F3.1), .int .i64 N1.1, .string ⟨#[]⟩, .string ⟨#[]⟩, .slice none 0 0] 26); have hX5 := BC.new w5 [.int .i64 (fg F1.1), .int .i64 (fg F2.1), .int .i64 (fg F3.1), .int .i64 N1.1, .string ⟨#[]⟩, .string ⟨#[]⟩, .slice none 0 0] 26; replace hB5 := L.below_alloc hB5 (.cells #[.int .i64 (fg F1.1), .int .i64 (fg F2.1), .int .i64 (fg F3.1), .int .i64 N1.1, .string ⟨#[]⟩, .string ⟨#[]⟩, .slice none 0 0] 26)) | (go_at_call 32; refine (number_T T hR5 hs i4.out e5.out).mono ?_; rintro e w6 ⟨rfl, hR6, hb6⟩; have hZ6 := BC.but hZ5 hb6 (by omega); have hX6 := BC.but hX5 hb6 (by omega); have hB6 := But.below hB5 hb6 (by omega) hB5.size; clear hR5 hZ5 hX5 hB5 hb6) | (go_at_call 32; refine (number_T T hR6 hs i5.out e6.out).mono ?_; rintro e w7 ⟨rfl, hR7, hb7⟩; have hZ7 := BC.but hZ6 hb7 (by omega); have hX7 := BC.but hX6 hb7 (by omega); have hB7 := But.below hB6 hb7 (by omega) hB6.size; clear hR6 hZ6 hX6 hB6 hb7) | (go_at_call 30; refine (take_T hR7 hs i6.out e7.out).mono ?_; rintro e w8 ⟨rfl, hR8, hb8⟩; have hZ8 := BC.but hZ7 hb8 (by omega); have hX8 := BC.but hX7 hb8 (by omega); have hB8 := But.below hB7 hb8 (by omega) hB7.size; clear hR7 hZ7 hX7 hB7 hb8) | (go_at_call 30; refine (take_T hR8 hs i7.out e8.out).mono ?_; rintro e w9 ⟨rfl, hR9, hb9⟩; have hZ9 := BC.but hZ8 hb9 (by omega); have hX9 := BC.but hX8 hb9 (by omega); have hB9 := But.below hB8 hb9 (by omega) hB8.size; clear hR8 hZ8 hX8 hB8 hb9; have x4 := BC.at_ hX9 (o := 4) rfl; have v4 := BC.frozen hX9 4; have x5 := BC.at_ hX9 (o := 5) rfl; have v5 := BC.frozen hX9 5; have n1 : (w5.heap.size = w.heap.size + 1) = False := eq_false (by omega); have n2 : (w.heap.size + 1 = w5.heap.size) = False := eq_false (by omega); have n3 : (w5.heap.size = w.heap.size) = False := eq_false (by omega); have n4 : (w.heap.size = w5.heap.size) = False := eq_false (by omega); have r2 := BC.at_ hR9 (o := 2) rfl; rw [hbad] at r2; have hB10 := (hB9.setCell (p := ⟨w5.heap.size, 4, none⟩) (by show w.heap.size ≤ w5.heap.size; omega) (.string T1.1)).setCell (p := ⟨w5.heap.size, 5, none⟩) (by show w.heap.size ≤ w5.heap.size; omega) (.string T2.1); have hZ10 := BC.far (BC.far hZ9 (p := ⟨w5.heap.size, 4, none⟩) (by show w5.heap.size ≠ w.heap.size; omega) (.string T1.1)) (p := ⟨w5.heap.size, 5, none⟩) (by show w5.heap.size ≠ w.heap.size; omega) (.string T2.1); have hR10 : RB ((w9.setCell ⟨w5.heap.size, 4, none⟩ (.string T1.1)).setCell ⟨w5.heap.size, 5, none⟩ (.string T2.1)) (w.heap.size + 1) s T2.2.1 T2.2.2 := BC.far (BC.far hR9 (p := ⟨w5.heap.size, 4, none⟩) (by show w5.heap.size ≠ w.heap.size + 1; omega) (.string T1.1)) (p := ⟨w5.heap.size, 5, none⟩) (by show w5.heap.size ≠ w.heap.size + 1; omega) (.string T2.1); rw [hbad] at hR10; have hX10 : SB ((w9.setCell ⟨w5.heap.size, 4, none⟩ (.string T1.1)).setCell ⟨w5.heap.size, 5, none⟩ (.string T2.1)) w5.heap.size (fg F1.1) (fg F2.1) (fg F3.1) N1.1 T1.1 T2.1 none 0 0 := BC.set (BC.set hX9 4 (.string T1.1)) 5 (.string T2.1); clear hR9 hZ9 hX9 hB9) | (go_at_call 33; refine (head_any w5.heap.size (fg F1.1) (fg F2.1) (fg F3.1) N1.1 T1.1 T2.1 none 0 0 _ hX10).mono ?_; rw [hno]; rintro e w10 ⟨rfl, hb10⟩; have hZ11 := BC.below hZ10 hb10; have hR11 : RB w10 (w.heap.size + 1) s T2.2.1 false := BC.below hR10 hb10; have hX11 : SB w10 w5.heap.size (fg F1.1) (fg F2.1) (fg F3.1) N1.1 T1.1 T2.1 none 0 0 := BC.below hX10 hb10; have hB11 := below_next hB10 hb10; have x2 := BC.at_ hX11 (o := 2) rfl; have x3 := BC.at_ hX11 (o := 3) rfl; clear hb10 hB10 hZ10 hR10 hX10 x4 v4 x5 v5 r2) | (go_at_call 34; refine (stream_Many.calls _ _ _ _ hmany.out).mono ?_; rintro e w11 ⟨rfl, ⟨⟨m11, rfl⟩⟩⟩; replace hZ11 := BC.drewN hZ11 m11; replace hR11 := BC.drewN hR11 m11; replace hX11 := BC.drewN hX11 m11; replace hB11 := L.below_drewN hB11 m11; clear x2 x3))
  go_loopg [62, 8] M (fun kq v62 v8 W => ∃ i : Nat, v62 = .int .i64 i ∧ i + kq = M ∧ RB W (w.heap.size + 1) s (lens fg s i (T2.2.1, false, [])).1 (lens fg s i (T2.2.1, false, [])).2.1 ∧ SB W w5.heap.size (fg F1.1) (fg F2.1) (fg F3.1) N1.1 T1.1 T2.1 none 0 0 ∧ BC W w.heap.size 26 zS ∧ Below w.heap.size w W ∧ Kd.R (Kd.int .i64) 3 W w.heap.size (fun _ => True) v8 (lens fg s i (T2.2.1, false, [])).2.2)
  case atStart => exact ⟨0, by simp, by omega, hR11, hX11, hZ11, hB11, Kd.R_nil _ _ _ _ _⟩
  case round =>
    clear hR11 hX11 hZ11 hB11
    obtain ⟨i, rfl, hi, hRi, hXi, hZi, hBi, hVi⟩ := hrel
    by_cases c1 : i < M
    · have c1d : decide ((i : Int) < (M : Int)) = true := decide_eq_true (by omega)
      obtain ⟨P, hP⟩ : ∃ P, lens fg s i (T2.2.1, false, []) = P := ⟨_, rfl⟩
      have hPi := Lib.hid (hP ▸ lens_in (fg := fg) (p := (T2.2.1, false, [])) i8.out i)
      have hPl : P.2.2.length = i := by rw [← hP, lens_length]; simp
      have hPl' : (P.2.2.length + 1) * 8 ≤ 140737488355328 := by omega
      rw [hP] at hRi hVi
      obtain ⟨R, eR⟩ : ∃ R, R = takeT s P.1 P.2.1 2 := ⟨_, rfl⟩
      have hstep : lens fg s (i + 1) (T2.2.1, false, []) = (R.2.1, R.2.2 || !sizeOk (fg R.1), P.2.2 ++ [fg R.1]) := by rw [lens, hP, lenT, ← eR]
      replace hP := Lib.hid hP
      replace eR := Lib.hid eR
      replace hPl := Lib.hid hPl
      have n1 : (w5.heap.size = w.heap.size + 1) = False := eq_false (by omega)
      have n2 : (w.heap.size + 1 = w5.heap.size) = False := eq_false (by omega)
      cases hbb : R.2.2
      · rw [hbb, Bool.false_or] at hstep
        replace hstep := Lib.hid hstep
        go_wp2_with (first | (go_at_call 31; refine (field_T T hRi hs hPi.out eR.out).mono ?_; rintro e w12 ⟨rfl, hR12, hb12⟩; have hV12 := R_but hVi hRi (by decide) hb12; have hX12 := BC.but hXi hb12 (by omega); have hZ12 := BC.but hZi hb12 (by omega); have hB12 := But.below hBi hb12 (by omega) hBi.size; have r2 := BC.at_ hR12 (o := 2) rfl; have q2 := BC.frozen hR12 2; rw [hbb] at r2; clear hVi hXi hZi hBi hRi hb12) | (go_at_call 35; refine (stream_size.calls _ _ _ (size_eq (fg R.1))).mono ?_; rintro e w13 ⟨rfl, ⟨⟨m13, rfl⟩⟩⟩; replace hV12 := Kd.R_drewN hV12 m13; replace hR12 := BC.drewN hR12 m13; replace hX12 := BC.drewN hX12 m13; replace hZ12 := BC.drewN hZ12 m13; replace hB12 := L.below_drewN hB12 m13; have hO := R_setB hV12 hR12 (by decide) 2 (.bool (!sizeOk (fg R.1))); have hRs := BC.set hR12 2 (.bool (!sizeOk (fg R.1))); have hXs := BC.far hX12 (p := ⟨w.heap.size + 1, 2, none⟩) (by show w.heap.size + 1 ≠ w5.heap.size; omega) (.bool (!sizeOk (fg R.1))); have hZs := BC.far hZ12 (p := ⟨w.heap.size + 1, 2, none⟩) (by show w.heap.size + 1 ≠ w.heap.size; omega) (.bool (!sizeOk (fg R.1))); have hBs := hB12.setCell (p := ⟨w.heap.size + 1, 2, none⟩) (by show w.heap.size ≤ w.heap.size + 1; omega) (.bool (!sizeOk (fg R.1)))) | ((with_reducible refine gate_builtin (b := .append) (xs := #[.tmp 78, .tmp 80]) rfl ?_); at_builtin; refine Kd.R_append (Kd.int .i64) (w0 := w) w.heap.size rfl (.tmp 78) (.tmp 80) 65 3 (.int .i64 0) 8 rfl Try.underlying65 info3 rfl (by decide) (by omega) u8 P.2.2 (fg R.1) [.int .i64 (fg R.1)] (fun _ => True) (fun _ => False) rfl ((Eq.refl (Value.slice (some ⟨w12.heap.size, 0, none⟩) 1 1)).trans (by go_simp)) ?aP (fun _ hk => hk.elim) ?aF ?aO ?aB ?aS ?aL ?_; (case aP => exact rfl); (case aB => exact hBs); (case aF => exact (fun _ _ => trivial)); (case aO => exact hO); (case aS => exact hBs.size); (case aL => exact hPl'); intro v81 w14 hV14 hb14 hg14 hat; have hR14 := BC.grown hRs hg14 (Kd.R_ne hO hRs.blk (by decide)); have hX14 := BC.grown hXs hg14 (Kd.R_ne hO hXs.blk (by decide)); have hZ14 := BC.grown hZs hg14 (Kd.R_ne hO hZs.blk (by decide)); replace hb14 := Lib.hid hb14; clear hat hg14 hO))
        obtain ⟨kk, rfl⟩ : ∃ kk, gk = kk + 1 := ⟨gk - 1, by omega⟩
        go_roundg kk
        case measure => omega
        case rel => exact ⟨i + 1, by simp, by omega, by rw [hstep.out]; exact hR14, hX14, hZ14, hb14.out, by rw [hstep.out]; exact hV14⟩
      · rw [hbb, Bool.true_or] at hstep
        replace hstep := Lib.hid hstep
        go_wp2_with (first | (go_at_call 31; refine (field_T T hRi hs hPi.out eR.out).mono ?_; rintro e w12 ⟨rfl, hR12, hb12⟩; have hV12 := R_but hVi hRi (by decide) hb12; have hX12 := BC.but hXi hb12 (by omega); have hZ12 := BC.but hZi hb12 (by omega); have hB12 := But.below hBi hb12 (by omega) hBi.size; have r2 := BC.at_ hR12 (o := 2) rfl; have q2 := BC.frozen hR12 2; rw [hbb] at r2; clear hVi hXi hZi hBi hRi hb12; have hO := R_setB hV12 hR12 (by decide) 2 (.bool true); have hRs := BC.set hR12 2 (.bool true); have hXs := BC.far hX12 (p := ⟨w.heap.size + 1, 2, none⟩) (by show w.heap.size + 1 ≠ w5.heap.size; omega) (.bool true); have hZs := BC.far hZ12 (p := ⟨w.heap.size + 1, 2, none⟩) (by show w.heap.size + 1 ≠ w.heap.size; omega) (.bool true); have hBs := hB12.setCell (p := ⟨w.heap.size + 1, 2, none⟩) (by show w.heap.size ≤ w.heap.size + 1; omega) (.bool true)) | ((with_reducible refine gate_builtin (b := .append) (xs := #[.tmp 78, .tmp 80]) rfl ?_); at_builtin; refine Kd.R_append (Kd.int .i64) (w0 := w) w.heap.size rfl (.tmp 78) (.tmp 80) 65 3 (.int .i64 0) 8 rfl Try.underlying65 info3 rfl (by decide) (by omega) u8 P.2.2 (fg R.1) [.int .i64 (fg R.1)] (fun _ => True) (fun _ => False) rfl ((Eq.refl (Value.slice (some ⟨w12.heap.size, 0, none⟩) 1 1)).trans (by go_simp)) ?aP (fun _ hk => hk.elim) ?aF ?aO ?aB ?aS ?aL ?_; (case aP => exact rfl); (case aB => exact hBs); (case aF => exact (fun _ _ => trivial)); (case aO => exact hO); (case aS => exact hBs.size); (case aL => exact hPl'); intro v81 w14 hV14 hb14 hg14 hat; have hR14 := BC.grown hRs hg14 (Kd.R_ne hO hRs.blk (by decide)); have hX14 := BC.grown hXs hg14 (Kd.R_ne hO hXs.blk (by decide)); have hZ14 := BC.grown hZs hg14 (Kd.R_ne hO hZs.blk (by decide)); replace hb14 := Lib.hid hb14; clear hat hg14 hO))
        obtain ⟨kk, rfl⟩ : ∃ kk, gk = kk + 1 := ⟨gk - 1, by omega⟩
        go_roundg kk
        case measure => omega
        case rel => exact ⟨i + 1, by simp, by omega, by rw [hstep.out]; exact hR14, hX14, hZ14, hb14.out, by rw [hstep.out]; exact hV14⟩
    · have c1d : decide ((i : Int) < (M : Int)) = false := decide_eq_false (by omega)
      obtain rfl : i = M := by omega
      have hMi : (many N1.1 (fg F3.1)).toNat = i := by rw [hM.out]; exact Int.toNat_natCast i
      obtain ⟨P, hP⟩ : ∃ P, lens fg s i (T2.2.1, false, []) = P := ⟨_, rfl⟩
      have hPi := Lib.hid (hP ▸ lens_in (fg := fg) (p := (T2.2.1, false, [])) i8.out i)
      have hPl : P.2.2.length = i := by rw [← hP, lens_length]; simp
      rw [hP] at hRi hVi
      obtain ⟨R, eR⟩ : ∃ R, R = takeT s P.1 P.2.1 4 := ⟨_, rfl⟩
      obtain ⟨RES, hRES⟩ : ∃ r, restT s F1 F2 F3 N1 T1 T2 fg (lens fg s (many N1.1 (fg F3.1)).toNat (T2.2.1, false, [])) (takeT s (lens fg s (many N1.1 (fg F3.1)).toNat (T2.2.1, false, [])).1 (lens fg s (many N1.1 (fg F3.1)).toNat (T2.2.1, false, [])).2.1 4) = r := ⟨_, rfl⟩
      have hres := hRES
      rw [hMi, hP, ← eR] at hres
      have r1 := BC.at_ hRi (o := 1) rfl
      replace hP := Lib.hid hP
      replace eR := Lib.hid eR
      replace hPl := Lib.hid hPl
      replace hMi := Lib.hid hMi
      replace hRES := Lib.hid hRES
      cases hbb : R.2.2
      · rw [restT, if_neg (by rw [hbb]; decide)] at hres
        have p1 : (0 : Int) ≤ P.1 := hPi.out.1
        have p2 : P.1 ≤ (s.size : Int) := hPi.out.2
        have hcs : crc_Sum.f (s.extract 0 P.1.toNat) = some ((crcOf (nats (s.extract 0 P.1.toNat)) : Nat) : Int) := by
          unfold crc_Sum.f; rw [if_pos (by rw [ByteArray.size_extract]; omega)]
        replace hcs := Lib.hid hcs
        by_cases hc : fg R.1 = ((crcOf (nats (s.extract 0 P.1.toNat)) : Nat) : Int)
        · rw [if_neg (fun h => h hc)] at hres
          have d3 : (fg R.1 != ((crcOf (nats (s.extract 0 P.1.toNat)) : Nat) : Int)) = false := by simpa using hc
          obtain ⟨A8, c8, e8⟩ := Kd.R_slice hVi
          subst e8
          have hRi8 := Lib.hid (eR.out ▸ takeT_in (n := 4) (b := P.2.1) hPi.out.1 hPi.out.2)
          replace hres := Lib.hid hres
          replace hc := Lib.hid hc
          go_wp2_with (first | (go_at_call 31; refine (field_T T hRi hs hPi.out eR.out).mono ?_; rintro e w15 ⟨rfl, hR15, hb15⟩; have hV15 := R_but hVi hRi (by decide) hb15; have hX15 := BC.but hXi hb15 (by omega); have hZ15 := BC.but hZi hb15 (by omega); have hB15 := But.below hBi hb15 (by omega) hBi.size; have r2 := BC.at_ hR15 (o := 2) rfl; rw [hbb] at r2; clear hVi hXi hZi hBi hRi hb15 r1) | (go_at_call 24; refine (crc_Sum.calls _ _ _ hcs.out).mono ?_; rintro e w16 ⟨rfl, hb16⟩; replace hV15 := Kd.R_below hV15 hb16; replace hX15 := BC.below hX15 hb16; replace hZ15 := BC.below hZ15 hb16; replace hR15 := BC.below hR15 hb16; replace hB15 := below_next hB15 hb16; clear r2))
          clear d3
          rw [hbb] at hR15
          go_loopg [105] P.2.2.length (fun kq v105 W => ∃ (n : Nat) (v6 : Value), v105 = .int .i64 n ∧ n + kq = P.2.2.length ∧ RB W (w.heap.size + 1) s ((P.2.2.take n).foldl (textT s) (R.2.1, false, [])).1 ((P.2.2.take n).foldl (textT s) (R.2.1, false, [])).2.1 ∧ BC W w5.heap.size 26 [.int .i64 (fg F1.1), .int .i64 (fg F2.1), .int .i64 (fg F3.1), .int .i64 N1.1, .string T1.1, .string T2.1, v6] ∧ BC W w.heap.size 26 zS ∧ Below w.heap.size w W ∧ Kd.R (Kd.int .i64) 3 W w.heap.size (fun _ => True) (.slice A8 P.2.2.length c8) P.2.2 ∧ Kd.R Kd.string 9 W w.heap.size (fun _ => True) v6 ((P.2.2.take n).foldl (textT s) (R.2.1, false, [])).2.2)
          case atStart => exact ⟨0, _, by simp, by omega, hR15, hX15, hZ15, hB15, hV15, Kd.R_nil _ _ _ _ _⟩
          case round =>
            clear hR15 hX15 hZ15 hB15 hV15
            obtain ⟨n, v6, rfl, hn, hRi, hXi, hZi, hBi, hVi, hWi⟩ := hrel
            by_cases c2 : n < P.2.2.length
            · have c2d : decide ((n : Int) < (P.2.2.length : Int)) = true := decide_eq_true (by omega)
              obtain ⟨Q, hQ⟩ : ∃ Q, (P.2.2.take n).foldl (textT s) (R.2.1, false, []) = Q := ⟨_, rfl⟩
              have hQi := Lib.hid (hQ ▸ texts_in (s := s) (P.2.2.take n) (p := (R.2.1, false, [])) hRi8.out)
              have hQl : Q.2.2.length = n := by rw [← hQ, texts_length, List.length_take]; simp; omega
              obtain ⟨V, eV⟩ : ∃ V, V = takeT s Q.1 Q.2.1 (rd P.2.2 (n : Int)) := ⟨_, rfl⟩
              obtain ⟨ys, hys⟩ : ∃ ys, Q.2.2 ++ [V.1] = ys := ⟨_, rfl⟩
              have hstep : (P.2.2.take (n + 1)).foldl (textT s) (R.2.1, false, []) = (V.2.1, V.2.2, ys) := by
                rw [foldl_more _ _ _ c2, hQ, textT, ← eV, hys]
              replace hys := Lib.hid hys
              have hQb : (Q.2.2.length + 1) * 16 ≤ 140737488355328 := by have := hPl.out; omega
              rw [hQ] at hRi hWi
              replace hQ := Lib.hid hQ
              replace eV := Lib.hid eV
              replace hstep := Lib.hid hstep
              replace hQl := Lib.hid hQl
              have p3 : (0 : Int) ≤ (n : Int) := by omega
              have q3 : (n : Int) < (P.2.2.length : Int) := by omega
              obtain ⟨ad, ead, hx⟩ := Kd.at_int (Kd.R_reads' hVi).2.2 (n : Int) p3 q3
              cases ead
              rw [Int.toNat_natCast] at hx
              replace p3 := eq_true p3
              replace q3 := eq_true q3
              go_wp2
              replace hRi := BC.drew hRi
              replace hXi := BC.drew hXi
              replace hZi := BC.drew hZi
              replace hBi := Lib.hid (L.below_drew hBi)
              replace hVi := Kd.R_drew hVi
              replace hWi := Kd.R_drew hWi
              clear hx
              refine start_ (n := 9) (S := fun w' => w'.cell? ⟨w5.heap.size, 6, none⟩ = some v6) (ds := [6, 8]) #[false, false, false, false, false, false, false, false, false] (by kernel_rfl) rfl rfl (BC.at_ hXi (o := 6) rfl) (fun hHeld => ?_)
              generalize wr.drew = w32 at hRi hXi hZi hBi hVi hWi hHeld ⊢
              refine pure_ (i := 0) (N := some 109) (v := ?_) (a' := ?_) #[true, false, false, false, false, false, false, false, false] rfl rfl (by kernel_rfl) (fun _ _ _ h => h) (Or.inl ⟨by rfl, ?_⟩) ?_ ?_
              rotate_left
              · intro w'
                go_simp
                with_reducible rfl
              rotate_left
              · simp only [Act.put, List.setIfInBounds_toArray, List.set_cons_zero, List.set_cons_succ, i64_w, i32_w]
                rfl
              refine pure_ (i := 2) (N := some 111) (v := ?_) (a' := ?_) #[true, false, true, false, false, false, false, false, false] rfl rfl (by kernel_rfl) (fun _ _ _ h => h) (Or.inl ⟨by rfl, ?_⟩) ?_ ?_
              rotate_left
              · intro w'
                go_simp
                with_reducible rfl
              rotate_left
              · simp only [Act.put, List.setIfInBounds_toArray, List.set_cons_zero, List.set_cons_succ, i64_w, i32_w]
                rfl
              refine pure_ (i := 3) (N := some 112) (v := ?_) (a' := ?_) #[true, false, true, true, false, false, false, false, false] rfl rfl (by kernel_rfl) (fun _ _ _ h => h) (Or.inl ⟨by rfl, ?_⟩) ?_ ?_
              rotate_left
              · intro w'
                go_simp
                with_reducible rfl
              rotate_left
              · simp only [Act.put, List.setIfInBounds_toArray, List.set_cons_zero, List.set_cons_succ, i64_w, i32_w]
                rfl
              refine take_ (i := 1) (N := some 110) (v := ?_) (a' := ?_) #[true, true, true, true, false, false, false, false, false] rfl rfl (by kernel_rfl) (fun _ _ _ h => h) (Or.inl ⟨by rfl, ?_⟩) hHeld ?_ ?_
              rotate_left
              · rintro w' s0
                go_simp
                with_reducible rfl
              rotate_left
              · simp only [Act.put, List.setIfInBounds_toArray, List.set_cons_zero, List.set_cons_succ, i64_w, i32_w]
                rfl
              refine one_ (i := 4) (N := some 113) #[true, true, true, true, true, false, false, false, false] rfl rfl (by kernel_rfl) (by decide) (fun K hK => ?_)
              refine goes_ Try.func30 (by kernel_rfl) rfl #[.pointer (some ⟨w.heap.size + 1, 0, none⟩), .int .i64 (rd P.2.2 (n : Int))] (by rfl) rfl rfl (by simp only [List.map_toArray, List.map_cons, List.map_nil]; rfl) ?_
              refine (take_T hRi hs hQi.out eV.out).mono ?_
              rintro e w33 ⟨rfl, hR33, hb33⟩
              have hV33 := R_but hVi hRi (by decide) hb33
              have hW33 := R_but hWi hRi (by decide) hb33
              have hX33 := BC.but hXi hb33 (by omega)
              have hZ33 := BC.but hZi hb33 (by omega)
              have hB33 := But.below hBi.out hb33 (by omega) hBi.out.size
              clear hRi hXi hZi hBi hVi hWi hb33 hHeld
              refine ⟨_, rfl, ?_⟩
              refine hK.out _ _ (BC.at_ hX33 (o := 6) rfl) (fun hHeld => ?_)
              clear hK K
              refine norm_ (a' := ?_) ?_ ?_
              rotate_left
              · show Act.put _ (some 113) _ = _
                simp only [Act.put, List.setIfInBounds_toArray, List.set_cons_zero, List.set_cons_succ, i64_w, i32_w]
                rfl
              refine one_ (i := 5) (N := some 114) #[true, true, true, true, true, true, false, false, false] rfl rfl (by kernel_rfl) (by decide) (fun K hK => ?_)
              refine value_ (w1 := ?_) (v := ?_) (by rfl) rfl ?_ ?_
              rotate_left 2
              · go_simp
                constructor
                · rfl
                · rfl
              refine hK.out _ _ (BC.at_ (BC.alloc hX33 _) (o := 6) rfl) (fun hHeld => ?_)
              clear hK K
              refine norm_ (a' := ?_) ?_ ?_
              rotate_left
              · show Act.put _ (some 114) _ = _
                simp only [Act.put, List.setIfInBounds_toArray, List.set_cons_zero, List.set_cons_succ, i64_w, i32_w]
                rfl
              refine last_ (i := 6) (N := some 115) #[true, true, true, true, true, true, true, false, false] rfl rfl (by kernel_rfl) (by decide) (fun K hK => ?_)
              refine Kd.R_append_step Kd.string (w0 := w) w.heap.size (by rfl) (.tmp 110) (.tmp 114) 24 9 (.string ⟨#[]⟩) 16 rfl Try.underlying24 info9 rfl (by decide) (by omega) v6 Q.2.2 V.1 [.string V.1] (fun _ => True) (fun _ => False) rfl rfl ?aP (fun _ hk => hk.elim) ?aF ?aO ?aB ?aS ?aL ?_
              (case aP => exact rfl)
              (case aB => exact hB33)
              (case aF => exact (fun _ _ => trivial))
              (case aO => exact hW33)
              (case aS => exact hB33.size)
              (case aL => exact hQb)
              intro v115 w34 hW34 hB34 hg hat
              have hV34 := Kd.R_over' hV33 (Kd.R_typed hW33) (by decide) hg
              have hR34 := BC.grown hR33 hg (Kd.R_ne hW33 hR33.blk (by decide))
              have hX34 := BC.grown hX33 hg (Kd.R_ne hW33 hX33.blk (by decide))
              have hZ34 := BC.grown hZ33 hg (Kd.R_ne hW33 hZ33.blk (by decide))
              clear hV33 hW33 hR33 hX33 hZ33 hB33 hg hat hHeld
              rw [hys.out] at hW34
              obtain ⟨A15, c15, e15⟩ := Kd.R_slice hW34
              subst e15
              refine hK.out _ _ ?_
              clear hK K
              refine norm_ (a' := ?_) ?_ ?_
              rotate_left
              · show Act.put _ (some 115) _ = _
                simp only [Act.put, List.setIfInBounds_toArray, List.set_cons_zero, List.set_cons_succ, i64_w, i32_w]
                rfl
              refine pure_ (i := 7) (N := some 116) (v := ?_) (a' := ?_) #[true, true, true, true, true, true, true, true, false] rfl rfl (by kernel_rfl) (fun _ _ _ h => h) (Or.inl ⟨by rfl, ?_⟩) ?_ ?_
              rotate_left
              · intro w'
                go_simp
                with_reducible rfl
              rotate_left
              · simp only [Act.put, List.setIfInBounds_toArray, List.set_cons_zero, List.set_cons_succ, i64_w, i32_w]
                rfl
              refine last_ (i := 8) (N := none) #[true, true, true, true, true, true, true, true, true] rfl rfl (by kernel_rfl) (by decide) (fun K hK => ?_)
              have x6 := BC.at_ hX34 (o := 6) rfl
              have f6 := BC.frozen hX34 6
              refine skip_ (w1 := w34.setCell ⟨w5.heap.size, 6, none⟩ (.slice A15 ys.length c15)) (by rfl) rfl ?_ ?_
              · go_simp
              refine hK.out _ _ ?_
              clear hK K x6 f6
              refine done_ (by kernel_rfl) ?_
              have hX35 := BC.set hX34 6 (.slice A15 ys.length c15)
              have hR35 := BC.far hR34 (p := ⟨w5.heap.size, 6, none⟩) (by show w5.heap.size ≠ w.heap.size + 1; omega) (.slice A15 ys.length c15)
              have hZ35 := BC.far hZ34 (p := ⟨w5.heap.size, 6, none⟩) (by show w5.heap.size ≠ w.heap.size; omega) (.slice A15 ys.length c15)
              have hB35 := hB34.setCell (p := ⟨w5.heap.size, 6, none⟩) (by show w.heap.size ≤ w5.heap.size; omega) (.slice A15 ys.length c15)
              have hV35 := R_setB hV34 hX34 (by decide) 6 (.slice A15 ys.length c15)
              have hW35 := R_setB hW34 hX34 (by decide) 6 (.slice A15 ys.length c15)
              clear hX34 hR34 hZ34 hB34 hV34 hW34
              have hn5 : (n : Int) + 1 ≤ 4160 := by have := hPl.out; omega
              go_wp2
              obtain ⟨kk, rfl⟩ : ∃ kk, gk = kk + 1 := ⟨gk - 1, by omega⟩
              go_roundg kk
              case measure => omega
              case rel => exact ⟨n + 1, _, by simp, by omega, by rw [hstep.out]; exact hR35, hX35, hZ35, hB35, hV35, by rw [hstep.out]; exact hW35⟩
            · have z := 0
              have hLn : P.2.2.take n = P.2.2 := List.take_of_length_le (by omega)
              rw [hLn] at hRi hWi
              clear hLn
              obtain ⟨Q, hQ⟩ : ∃ Q, P.2.2.foldl (textT s) (R.2.1, false, []) = Q := ⟨_, rfl⟩
              have hres2 := hres.out
              rw [hQ] at hRi hWi hres2
              replace hQ := Lib.hid hQ
              have c2d : decide ((n : Int) < (P.2.2.length : Int)) = false := decide_eq_false (by omega)
              have r1 := BC.at_ hRi (o := 1) rfl
              have r2 := BC.at_ hRi (o := 2) rfl
              cases hq : Q.2.1
              · rw [hq] at r2
                by_cases he : Q.1 = (s.size : Int)
                · rw [lastT, if_neg (by rw [hq]; decide), if_neg (fun h => h he)] at hres2
                  have d4 : (Q.1 != (s.size : Int)) = false := by simpa using he
                  replace hres2 := Lib.hid hres2
                  replace he := Lib.hid he
                  obtain ⟨A6, c6, e6⟩ := Kd.R_slice hWi
                  subst e6
                  have z0 := BC.at_ hZi (o := 0) rfl
                  have y0 := BC.frozen hZi 0
                  have z1 := BC.at_ hZi (o := 1) rfl
                  have y1 := BC.frozen hZi 1
                  have z2 := BC.at_ hZi (o := 2) rfl
                  have y2 := BC.frozen hZi 2
                  have z3 := BC.at_ hZi (o := 3) rfl
                  have y3 := BC.frozen hZi 3
                  have z4 := BC.at_ hZi (o := 4) rfl
                  have y4 := BC.frozen hZi 4
                  have z5 := BC.at_ hZi (o := 5) rfl
                  have y5 := BC.frozen hZi 5
                  have z6 := BC.at_ hZi (o := 6) rfl
                  have y6 := BC.frozen hZi 6
                  have x0 := BC.at_ hXi (o := 0) rfl
                  have v0 := BC.frozen hXi 0
                  have x1 := BC.at_ hXi (o := 1) rfl
                  have v1 := BC.frozen hXi 1
                  have x2 := BC.at_ hXi (o := 2) rfl
                  have v2 := BC.frozen hXi 2
                  have x3 := BC.at_ hXi (o := 3) rfl
                  have v3 := BC.frozen hXi 3
                  have x4 := BC.at_ hXi (o := 4) rfl
                  have v4 := BC.frozen hXi 4
                  have x5 := BC.at_ hXi (o := 5) rfl
                  have v5 := BC.frozen hXi 5
                  have x6 := BC.at_ hXi (o := 6) rfl
                  have v6 := BC.frozen hXi 6
                  go_wp2
                  rw [hRES.out]
                  exact get_ok hres2.out.symm hZi rfl hBi hWi rfl rfl rfl
                · rw [lastT, if_neg (by rw [hq]; decide), if_pos he] at hres2
                  have d4 : (Q.1 != (s.size : Int)) = true := by simpa using he
                  replace hres2 := Lib.hid hres2
                  replace he := Lib.hid he
                  have z0 := BC.at_ hZi (o := 0) rfl
                  have y0 := BC.frozen hZi 0
                  have z1 := BC.at_ hZi (o := 1) rfl
                  have y1 := BC.frozen hZi 1
                  have z2 := BC.at_ hZi (o := 2) rfl
                  have y2 := BC.frozen hZi 2
                  have z3 := BC.at_ hZi (o := 3) rfl
                  have y3 := BC.frozen hZi 3
                  have z4 := BC.at_ hZi (o := 4) rfl
                  have y4 := BC.frozen hZi 4
                  have z5 := BC.at_ hZi (o := 5) rfl
                  have y5 := BC.frozen hZi 5
                  have z6 := BC.at_ hZi (o := 6) rfl
                  have y6 := BC.frozen hZi 6
                  go_wp2
                  rw [hRES.out]
                  exact get_exit2 hres2.out.symm hZi rfl hBi rfl rfl rfl
              · rw [hq] at r2
                rw [lastT, if_pos hq] at hres2
                replace hres2 := Lib.hid hres2
                have z0 := BC.at_ hZi (o := 0) rfl
                have y0 := BC.frozen hZi 0
                have z1 := BC.at_ hZi (o := 1) rfl
                have y1 := BC.frozen hZi 1
                have z2 := BC.at_ hZi (o := 2) rfl
                have y2 := BC.frozen hZi 2
                have z3 := BC.at_ hZi (o := 3) rfl
                have y3 := BC.frozen hZi 3
                have z4 := BC.at_ hZi (o := 4) rfl
                have y4 := BC.frozen hZi 4
                have z5 := BC.at_ hZi (o := 5) rfl
                have y5 := BC.frozen hZi 5
                have z6 := BC.at_ hZi (o := 6) rfl
                have y6 := BC.frozen hZi 6
                go_wp2
                rw [hRES.out]
                exact get_exit2 hres2.out.symm hZi rfl hBi rfl rfl rfl
        · rw [if_pos hc] at hres
          have d3 : (fg R.1 != ((crcOf (nats (s.extract 0 P.1.toNat)) : Nat) : Int)) = true := by simpa using hc
          replace hres := Lib.hid hres
          replace hc := Lib.hid hc
          go_wp2_with (first | (go_at_call 31; refine (field_T T hRi hs hPi.out eR.out).mono ?_; rintro e w15 ⟨rfl, hR15, hb15⟩; have hV15 := R_but hVi hRi (by decide) hb15; have hX15 := BC.but hXi hb15 (by omega); have hZ15 := BC.but hZi hb15 (by omega); have hB15 := But.below hBi hb15 (by omega) hBi.size; have r2 := BC.at_ hR15 (o := 2) rfl; rw [hbb] at r2; clear hVi hXi hZi hBi hRi hb15 r1;) | (go_at_call 24; refine (crc_Sum.calls _ _ _ hcs.out).mono ?_; rintro e w16 ⟨rfl, hb16⟩; replace hV15 := Kd.R_below hV15 hb16; replace hX15 := BC.below hX15 hb16; replace hZ15 := BC.below hZ15 hb16; replace hR15 := BC.below hR15 hb16; replace hB15 := below_next hB15 hb16; have z0 := BC.at_ hZ15 (o := 0) rfl; have y0 := BC.frozen hZ15 0; have z1 := BC.at_ hZ15 (o := 1) rfl; have y1 := BC.frozen hZ15 1; have z2 := BC.at_ hZ15 (o := 2) rfl; have y2 := BC.frozen hZ15 2; have z3 := BC.at_ hZ15 (o := 3) rfl; have y3 := BC.frozen hZ15 3; have z4 := BC.at_ hZ15 (o := 4) rfl; have y4 := BC.frozen hZ15 4; have z5 := BC.at_ hZ15 (o := 5) rfl; have y5 := BC.frozen hZ15 5; have z6 := BC.at_ hZ15 (o := 6) rfl; have y6 := BC.frozen hZ15 6))
          rw [hRES.out]
          exact get_exit2 hres.out.symm hZ15 rfl hB15 rfl rfl rfl
      · rw [restT, if_pos hbb] at hres
        replace hres := Lib.hid hres
        go_wp2_with (first | (go_at_call 31; refine (field_T T hRi hs hPi.out eR.out).mono ?_; rintro e w15 ⟨rfl, hR15, hb15⟩; have hV15 := R_but hVi hRi (by decide) hb15; have hX15 := BC.but hXi hb15 (by omega); have hZ15 := BC.but hZi hb15 (by omega); have hB15 := But.below hBi hb15 (by omega) hBi.size; have r2 := BC.at_ hR15 (o := 2) rfl; rw [hbb] at r2; clear hVi hXi hZi hBi hRi hb15 r1; have z0 := BC.at_ hZ15 (o := 0) rfl; have y0 := BC.frozen hZ15 0; have z1 := BC.at_ hZ15 (o := 1) rfl; have y1 := BC.frozen hZ15 1; have z2 := BC.at_ hZ15 (o := 2) rfl; have y2 := BC.frozen hZ15 2; have z3 := BC.at_ hZ15 (o := 3) rfl; have y3 := BC.frozen hZ15 3; have z4 := BC.at_ hZ15 (o := 4) rfl; have y4 := BC.frozen hZ15 4; have z5 := BC.at_ hZ15 (o := 5) rfl; have y5 := BC.frozen hZ15 5; have z6 := BC.at_ hZ15 (o := 6) rfl; have y6 := BC.frozen hZ15 6))
        rw [hRES.out]
        exact get_exit2 hres.out.symm hZ15 rfl hB15 rfl rfl rfl
end
end Go.Proofs.Ytokegkpbbhegpaa
