/- The document's headOf, walked. -/
import Derived.Test.YtokegkpbbhegpaaPNumR
import Derived.Test.YtokegkpbbhegpaaWMayR
namespace Go.Proofs.Ytokegkpbbhegpaa.PT
open Go.RowKit Go.Proofs.YtokegkpbbhegpaaW.PrintWords Go.Proofs.YtokegkpbbhegpaaW.PrintLast Go.Proofs.YtokegkpbbhegpaaW.PrintMore Go.Proofs.Ytokegkpbbhegpaa.L
set_option linter.unusedVariables false
set_option linter.unusedSimpArgs false

/-- The table's lengths. -/
def sizesV (s : ByteArray) : Nat → Int → List Int → Option (List Int)
  | 0, _, l => some l
  | n + 1, p, l => if bt s p + 256 * bt s (p + 1) < 9 then none else sizesV s n (p + 2) (l ++ [bt s p + 256 * bt s (p + 1)])
abbrev HeadV := Int × Int × Int × Int × ByteArray × ByteArray × List Int × Int
/-- May what is ahead of the table be? -/
def okV (s : ByteArray) (F H T : Int × Int × Int) : Bool :=
  decide (F.2.2 = 0) && decide (H.2.2 = 0) && decide (T.2.2 = 0) && decide ((bt s 4 = 1 ∨ bt s 4 = 2) ∧ (bt s 5 = 8 ∨ bt s 5 = 16)) && decide (1 ≤ bt s 6 ∧ bt s 6 ≤ 64) && decide (F.1 ≤ 4096) && decide (H.1 ≤ 4096) && decide (T.1 ≤ 4096) && decide (H.1 + T.1 ≤ s.size - T.2.1)
def tailV (s : ByteArray) (F H T : Int × Int × Int) : Option HeadV :=
  if s.size - (T.2.1 + H.1 + T.1) < 2 * many F.1 (bt s 6) + 4 then none
  else (sizesV s (many F.1 (bt s 6)).toNat (T.2.1 + H.1 + T.1) []).map (fun l => (bt s 4, bt s 5, bt s 6, F.1, s.extract T.2.1.toNat (T.2.1 + H.1).toNat, s.extract (T.2.1 + H.1).toNat (T.2.1 + H.1 + T.1).toNat, l, T.2.1 + H.1 + T.1 + 2 * many F.1 (bt s 6)))
def numV (s : ByteArray) := varV s 7
def numV2 (s : ByteArray) := varV s (numV s).2.1
def numV3 (s : ByteArray) := varV s (numV2 s).2.1
def headV (s : ByteArray) : Option HeadV :=
  if 65536 < s.size ∨ s.size < 7 ∨ (s.extract 0 4).toList ≠ [68, 83, 67, 84] then none
  else if okV s (numV s) (numV2 s) (numV3 s) = false then none
  else tailV s (numV s) (numV2 s) (numV3 s)
/-- What headOf hands back. -/
def HeadPost (w : World) (r : Option HeadV) (e : Ending) (w' : World) : Prop :=
  match r with
  | none => e = .returned (.tuple #[.agg zS.toArray, .slice none 0 0, .int .i64 0, .bool false]) ∧ Below w.heap.size w w'
  | some r => ∃ v, e = .returned (.tuple #[.agg #[.int .i64 r.1, .int .i64 r.2.1, .int .i64 r.2.2.1, .int .i64 r.2.2.2.1, .string r.2.2.2.2.1, .string r.2.2.2.2.2.1, .slice none 0 0], v, .int .i64 r.2.2.2.2.2.2.2, .bool true]) ∧ Kd.R (Kd.int .i64) 3 w' w.heap.size (fun _ => True) v r.2.2.2.2.2.2.1 ∧ Below w.heap.size w w'
theorem results4 {P : Program} {fn : Func} {p u v x : Tmp} {ty : TypeId} (h : fn.results = #[.cell p ty, .tmp u, .tmp v, .tmp x]) (tmps : Array Value) (w : World) (g : Nat) (cs : List Value) (d : TypeDesc)
    (hp : tmps.getD p undef = .pointer (some ⟨g, 0, none⟩)) (hc : w.rangeAt g 0 cs) (hu : P.underlying ty = some d) (hd : d.isRow = true) (hi : (P.info? ty).map (·.size) = some cs.length) :
    (results fn tmps).run P w = .ok (.tuple #[.agg cs.toArray, tmps.getD u undef, tmps.getD v undef, tmps.getD x undef]) w := by
  have hp' : tmps[p]?.getD undef = .pointer (some ⟨g, 0, none⟩) := by simpa using hp
  simp [results, h, hp', asAddr, run_loadVar_mid w g 0 ty cs d hc hu hd hi]
theorem exit4 {w W : World} {e : Int} {b : Bool} {v : Value} {a : Act} {X : List Value} {Q : Ending → World → Prop} (hI : L.BC W w.heap.size 26 X) (hX : X.length = 7) (h2 : a.tmps.getD 2 undef = .pointer (some ⟨w.heap.size, 0, none⟩)) (h3 : a.tmps.getD 3 undef = v) (h4 : a.tmps.getD 4 undef = .int .i64 e) (h5 : a.tmps.getD 5 undef = .bool b) (hd : a.defers = [])
    (hQ : Q (.returned (.tuple #[.agg X.toArray, v, .int .i64 e, .bool b])) W) :
    bodyPost Try.prog Try.f36 Q Exit.ret a W := by
  refine bodyPost_ret (results4 (P := Try.prog) Try.results36 _ _ w.heap.size X _ h2 hI.range Try.underlying26 rfl (by rw [hX]; exact size_stream)) hd ?_
  rw [h3, h4, h5]; exact hQ
theorem exit0 {w W : World} {a : Act} (hI : L.BC W w.heap.size 26 zS) (hB : Below w.heap.size w W) (h2 : a.tmps.getD 2 undef = .pointer (some ⟨w.heap.size, 0, none⟩)) (h3 : a.tmps.getD 3 undef = .slice none 0 0) (h4 : a.tmps.getD 4 undef = .int .i64 0) (h5 : a.tmps.getD 5 undef = .bool false) (hd : a.defers = []) :
    bodyPost Try.prog Try.f36 (fun e w' => HeadPost w none e w') Exit.ret a (((((((W.setCell ⟨w.heap.size, 0, none⟩ (.int .i64 0)).setCell ⟨w.heap.size, 1, none⟩ (.int .i64 0)).setCell ⟨w.heap.size, 2, none⟩ (.int .i64 0)).setCell ⟨w.heap.size, 3, none⟩ (.int .i64 0)).setCell ⟨w.heap.size, 4, none⟩ (.string ⟨#[]⟩)).setCell ⟨w.heap.size, 5, none⟩ (.string ⟨#[]⟩)).setCell ⟨w.heap.size, 6, none⟩ (.slice none 0 0)) := by
  have h : (((((((W.setCell ⟨w.heap.size, 0, none⟩ (.int .i64 0)).setCell ⟨w.heap.size, 1, none⟩ (.int .i64 0)).setCell ⟨w.heap.size, 2, none⟩ (.int .i64 0)).setCell ⟨w.heap.size, 3, none⟩ (.int .i64 0)).setCell ⟨w.heap.size, 4, none⟩ (.string ⟨#[]⟩)).setCell ⟨w.heap.size, 5, none⟩ (.string ⟨#[]⟩)).setCell ⟨w.heap.size, 6, none⟩ (.slice none 0 0)) = W.setCells w.heap.size 0 zS := rfl
  rw [h]
  exact exit4 (L.BC.over (R := zS) hI rfl) rfl h2 h3 h4 h5 hd ⟨rfl, L.bc_below_setCells (Nat.le_refl _) zS 0 _ hB⟩
theorem exitY {w W : World} {a : Act} {c b z f e : Int} {S1 S2 : ByteArray} {v : Value} {l : List Int} {r : Option HeadV} (hr : some (c, b, z, f, S1, S2, l, e) = r) (hI : L.BC W w.heap.size 26 zS) (hV : Kd.R (Kd.int .i64) 3 W w.heap.size (fun _ => True) v l) (hB : Below w.heap.size w W)
    (h2 : a.tmps.getD 2 undef = .pointer (some ⟨w.heap.size, 0, none⟩)) (h3 : a.tmps.getD 3 undef = v) (h4 : a.tmps.getD 4 undef = .int .i64 e) (h5 : a.tmps.getD 5 undef = .bool true) (hd : a.defers = []) :
    bodyPost Try.prog Try.f36 (fun e w' => HeadPost w r e w') Exit.ret a (((((((W.setCell ⟨w.heap.size, 0, none⟩ (.int .i64 c)).setCell ⟨w.heap.size, 1, none⟩ (.int .i64 b)).setCell ⟨w.heap.size, 2, none⟩ (.int .i64 z)).setCell ⟨w.heap.size, 3, none⟩ (.int .i64 f)).setCell ⟨w.heap.size, 4, none⟩ (.string S1)).setCell ⟨w.heap.size, 5, none⟩ (.string S2)).setCell ⟨w.heap.size, 6, none⟩ (.slice none 0 0)) := by
  have h : (((((((W.setCell ⟨w.heap.size, 0, none⟩ (.int .i64 c)).setCell ⟨w.heap.size, 1, none⟩ (.int .i64 b)).setCell ⟨w.heap.size, 2, none⟩ (.int .i64 z)).setCell ⟨w.heap.size, 3, none⟩ (.int .i64 f)).setCell ⟨w.heap.size, 4, none⟩ (.string S1)).setCell ⟨w.heap.size, 5, none⟩ (.string S2)).setCell ⟨w.heap.size, 6, none⟩ (.slice none 0 0)) = W.setCells w.heap.size 0 [.int .i64 c, .int .i64 b, .int .i64 z, .int .i64 f, .string S1, .string S2, .slice none 0 0] := rfl
  rw [h]
  subst hr
  exact exit4 (L.BC.over (R := [.int .i64 c, .int .i64 b, .int .i64 z, .int .i64 f, .string S1, .string S2, .slice none 0 0]) hI rfl) rfl h2 h3 h4 h5 hd ⟨v, rfl, R_setCells (by decide) [.int .i64 c, .int .i64 b, .int .i64 z, .int .i64 f, .string S1, .string S2, .slice none 0 0] 0 _ _ hI hV, L.bc_below_setCells (Nat.le_refl _) [.int .i64 c, .int .i64 b, .int .i64 z, .int .i64 f, .string S1, .string S2, .slice none 0 0] 0 _ hB⟩
set_option maxHeartbeats 4000000 in
set_option maxRecDepth 100000 in
theorem headr_short (s : ByteArray) (w : World) (h : 65536 < s.size ∨ s.size < 7 ∨ (s.extract 0 4).toList ≠ [68, 83, 67, 84]) :
    Calls Try.prog 36 #[.string s] w fun e w' => HeadPost w none e w' := by
  have hcase : (decide ((65536 : Int) < (s.size : Int)) = true) ∨ (decide ((65536 : Int) < (s.size : Int)) = false ∧ decide ((s.size : Int) < 7) = true) ∨ (decide ((65536 : Int) < (s.size : Int)) = false ∧ decide ((s.size : Int) < 7) = false ∧ ((s.extract 0 4).toList == ([68, 83, 67, 84] : List UInt8)) = false) := by
    by_cases c1 : (65536 : Int) < (s.size : Int)
    · exact .inl (decide_eq_true c1)
    · by_cases c2 : (s.size : Int) < 7
      · exact .inr (.inl ⟨decide_eq_false c1, decide_eq_true c2⟩)
      · refine .inr (.inr ⟨decide_eq_false c1, decide_eq_false c2, ?_⟩)
        rcases h with h | h | h
        · omega
        · omega
        · simpa using h
  have p0 : decide ((s.size : Int) < 7) = false → ((4 : Int) ≤ (s.size : Int)) := fun h => by have := of_decide_eq_false h; omega
  clear h
  rcases hcase with h1 | ⟨h1, h2⟩ | ⟨h1, h2, h3⟩
  all_goals
    (try have p1 := eq_true (p0 h2))
    clear p0
    go_enter Try.func36, Try.ntmps36
    go_wp2
    exact exit4 (L.BC.new w zS _) rfl rfl rfl rfl rfl rfl ⟨rfl, L.below_alloc (Below.refl _ _) _⟩
set_option maxHeartbeats 8000000 in
set_option maxRecDepth 100000 in
theorem headr_no (s : ByteArray) (w : World) (hs : s.size ≤ 65536) (hs7 : 7 ≤ s.size) (hd : (s.extract 0 4).toList = [68, 83, 67, 84]) (F1 F2 F3 H1 H2 H3 T1 T2 T3 M : Int) (q1 q2 q3 q4 q5 q6 q7 q8 q9 q10 : Bool)
    (hF : Hid (descantref1_GetVarint.f 40 s 7 = some (F1, F2, F3))) (hH : Hid (descantref1_GetVarint.f 40 s F2 = some (H1, H2, H3))) (hT : Hid (descantref1_GetVarint.f 40 s H2 = some (T1, T2, T3)))
    (bF : 0 ≤ F1 ∧ F1 ≤ 4294967295) (bH : 0 ≤ H1 ∧ H1 ≤ 4294967295) (bT : 0 ≤ T1 ∧ T1 ≤ 4294967295) (bT2 : 0 ≤ T2 ∧ T2 ≤ s.size)
    (e1 : (F3 != 0) = !q1) (e2 : (H3 != 0) = !q2) (e3 : (T3 != 0) = !q3) (e4 : Hid (descantref13_FormatMay.f (bt s 4) (bt s 5) = some q4)) (e5 : Hid (descantref13_upTo.f (bt s 6) 1 64 = some q5))
    (e6 : decide (4096 < F1) = !q6) (e7 : decide (4096 < H1) = !q7) (e8 : decide (4096 < T1) = !q8) (e9 : decide ((s.size : Int) - T2 < H1 + T1) = !q9)
    (hM : Hid ((q1 && q2 && q3 && q4 && q5 && q6 && q7 && q8 && q9) = true → descantref13_Many.f F1 (bt s 6) = some M ∧ 0 ≤ M ∧ M ≤ 4159 ∧ H1 ≤ 4096 ∧ T1 ≤ 4096 ∧ T2 + H1 + T1 ≤ s.size)) (e10 : Hid (decide ((s.size : Int) - (T2 + H1 + T1) < 2 * M + 4) = !q10)) (hno : (q1 && q2 && q3 && q4 && q5 && q6 && q7 && q8 && q9 && q10) = false) :
    Calls Try.prog 36 #[.string s] w fun e w' => HeadPost w none e w' := by
  have hcase : (q1 = false) ∨ (q1 = true ∧ q2 = false) ∨ (q1 = true ∧ q2 = true ∧ q3 = false) ∨ (q1 = true ∧ q2 = true ∧ q3 = true ∧ q4 = false) ∨ (q1 = true ∧ q2 = true ∧ q3 = true ∧ q4 = true ∧ q5 = false) ∨ (q1 = true ∧ q2 = true ∧ q3 = true ∧ q4 = true ∧ q5 = true ∧ q6 = false) ∨ (q1 = true ∧ q2 = true ∧ q3 = true ∧ q4 = true ∧ q5 = true ∧ q6 = true ∧ q7 = false) ∨ (q1 = true ∧ q2 = true ∧ q3 = true ∧ q4 = true ∧ q5 = true ∧ q6 = true ∧ q7 = true ∧ q8 = false) ∨ (q1 = true ∧ q2 = true ∧ q3 = true ∧ q4 = true ∧ q5 = true ∧ q6 = true ∧ q7 = true ∧ q8 = true ∧ q9 = false) ∨ (q1 = true ∧ q2 = true ∧ q3 = true ∧ q4 = true ∧ q5 = true ∧ q6 = true ∧ q7 = true ∧ q8 = true ∧ q9 = true ∧ q10 = false) := by
    cases q1
    · exact .inl rfl
    cases q2
    · exact .inr (.inl ⟨rfl, rfl⟩)
    cases q3
    · exact .inr (.inr (.inl ⟨rfl, rfl, rfl⟩))
    cases q4
    · exact .inr (.inr (.inr (.inl ⟨rfl, rfl, rfl, rfl⟩)))
    cases q5
    · exact .inr (.inr (.inr (.inr (.inl ⟨rfl, rfl, rfl, rfl, rfl⟩))))
    cases q6
    · exact .inr (.inr (.inr (.inr (.inr (.inl ⟨rfl, rfl, rfl, rfl, rfl, rfl⟩)))))
    cases q7
    · exact .inr (.inr (.inr (.inr (.inr (.inr (.inl ⟨rfl, rfl, rfl, rfl, rfl, rfl, rfl⟩))))))
    cases q8
    · exact .inr (.inr (.inr (.inr (.inr (.inr (.inr (.inl ⟨rfl, rfl, rfl, rfl, rfl, rfl, rfl, rfl⟩)))))))
    cases q9
    · exact .inr (.inr (.inr (.inr (.inr (.inr (.inr (.inr (.inl ⟨rfl, rfl, rfl, rfl, rfl, rfl, rfl, rfl, rfl⟩))))))))
    cases q10
    · exact .inr (.inr (.inr (.inr (.inr (.inr (.inr (.inr (.inr (⟨rfl, rfl, rfl, rfl, rfl, rfl, rfl, rfl, rfl, rfl⟩)))))))))
    exact absurd hno (by simp)
  have d1 : decide ((65536 : Int) < (s.size : Int)) = false := decide_eq_false (by omega)
  have d2 : decide ((s.size : Int) < 7) = false := decide_eq_false (by omega)
  have d3 : ((s.extract 0 4).toList == ([68, 83, 67, 84] : List UInt8)) = true := by simpa using hd
  have d4 : ((4 : Int) ≤ (s.size : Int)) = True := eq_true (by omega)
  have hx4 : ∀ h : 4 < s.size, ((s[4]'h).toNat : Int) = bt s 4 := bt_at s 4
  have hx5 : ∀ h : 5 < s.size, ((s[5]'h).toNat : Int) = bt s 5 := bt_at s 5
  have hx6 : ∀ h : 6 < s.size, ((s[6]'h).toNat : Int) = bt s 6 := bt_at s 6
  have i4 : (4 < s.size) = True := eq_true (by omega)
  have i5 : (5 < s.size) = True := eq_true (by omega)
  have i6 : (6 < s.size) = True := eq_true (by omega)
  have j4 : ((4 : Int) < (s.size : Int)) = True := eq_true (by omega)
  have j5 : ((5 : Int) < (s.size : Int)) = True := eq_true (by omega)
  have j6 : ((6 : Int) < (s.size : Int)) = True := eq_true (by omega)
  have hu := Try.underlying23
  have hZ : L.BC (w.alloc (.cells #[.int .i64 0, .int .i64 0, .int .i64 0, .int .i64 0, .string ⟨#[]⟩, .string ⟨#[]⟩, .slice none 0 0] 26)).drew w.heap.size 26 zS := L.BC.drew (L.BC.new w zS 26)
  have hB := L.below_drew (L.below_alloc (Below.refl w.heap.size w) (.cells #[.int .i64 0, .int .i64 0, .int .i64 0, .int .i64 0, .string ⟨#[]⟩, .string ⟨#[]⟩, .slice none 0 0] 26))
  replace hd := Lib.hid hd
  go_enter Try.func36, Try.ntmps36
  go_wp2
  have wb4 : wrap64 (bt s 4) = bt s 4 := wrap_bt s 4
  have wb5 : wrap64 (bt s 5) = bt s 5 := wrap_bt s 5
  have wb6 : wrap64 (bt s 6) = bt s 6 := wrap_bt s 6
  refine start_ (n := 13) (S := fun w' => True) (ds := []) #[false, false, false, false, false, false, false, false, false, false, false, false, false] (by kernel_rfl) rfl rfl trivial (fun hHeld => ?_)
  generalize (w.alloc (.cells #[.int .i64 0, .int .i64 0, .int .i64 0, .int .i64 0, .string ⟨#[]⟩, .string ⟨#[]⟩, .slice none 0 0] 26)).drew = w1 at hZ hB hHeld ⊢
  refine pure_ (i := 0) (N := (some 32)) (v := ?_) (a' := ?_) #[true, false, false, false, false, false, false, false, false, false, false, false, false] rfl rfl (by kernel_rfl) (fun _ _ _ h => h) (Or.inl ⟨by rfl, ?_⟩) ?_ ?_
  rotate_left
  · intro w'
    go_simp
    with_reducible rfl
  rotate_left
  · simp only [Act.put, List.setIfInBounds_toArray, List.set_cons_zero, List.set_cons_succ, i64_w, i32_w, wb4, wb5, wb6]
    rfl
  refine pure_ (i := 1) (N := (some 33)) (v := ?_) (a' := ?_) #[true, true, false, false, false, false, false, false, false, false, false, false, false] rfl rfl (by kernel_rfl) (fun _ _ _ h => h) (Or.inl ⟨by rfl, ?_⟩) ?_ ?_
  rotate_left
  · intro w'
    go_simp
    with_reducible rfl
  rotate_left
  · simp only [Act.put, List.setIfInBounds_toArray, List.set_cons_zero, List.set_cons_succ, i64_w, i32_w, wb4, wb5, wb6]
    rfl
  refine pure_ (i := 2) (N := (some 34)) (v := ?_) (a' := ?_) #[true, true, true, false, false, false, false, false, false, false, false, false, false] rfl rfl (by kernel_rfl) (fun _ _ _ h => h) (Or.inl ⟨by rfl, ?_⟩) ?_ ?_
  rotate_left
  · intro w'
    go_simp
    with_reducible rfl
  rotate_left
  · simp only [Act.put, List.setIfInBounds_toArray, List.set_cons_zero, List.set_cons_succ, i64_w, i32_w, wb4, wb5, wb6]
    rfl
  refine pure_ (i := 3) (N := (some 35)) (v := ?_) (a' := ?_) #[true, true, true, true, false, false, false, false, false, false, false, false, false] rfl rfl (by kernel_rfl) (fun _ _ _ h => h) (Or.inl ⟨by rfl, ?_⟩) ?_ ?_
  rotate_left
  · intro w'
    go_simp
    with_reducible rfl
  rotate_left
  · simp only [Act.put, List.setIfInBounds_toArray, List.set_cons_zero, List.set_cons_succ, i64_w, i32_w, wb4, wb5, wb6]
    rfl
  refine pure_ (i := 4) (N := (some 36)) (v := ?_) (a' := ?_) #[true, true, true, true, true, false, false, false, false, false, false, false, false] rfl rfl (by kernel_rfl) (fun _ _ _ h => h) (Or.inl ⟨by rfl, ?_⟩) ?_ ?_
  rotate_left
  · intro w'
    go_simp
    with_reducible rfl
  rotate_left
  · simp only [Act.put, List.setIfInBounds_toArray, List.set_cons_zero, List.set_cons_succ, i64_w, i32_w, wb4, wb5, wb6]
    rfl
  refine pure_ (i := 5) (N := (some 37)) (v := ?_) (a' := ?_) #[true, true, true, true, true, true, false, false, false, false, false, false, false] rfl rfl (by kernel_rfl) (fun _ _ _ h => h) (Or.inl ⟨by rfl, ?_⟩) ?_ ?_
  rotate_left
  · intro w'
    go_simp
    with_reducible rfl
  rotate_left
  · simp only [Act.put, List.setIfInBounds_toArray, List.set_cons_zero, List.set_cons_succ, i64_w, i32_w, wb4, wb5, wb6]
    rfl
  refine pure_ (i := 6) (N := (some 38)) (v := ?_) (a' := ?_) #[true, true, true, true, true, true, true, false, false, false, false, false, false] rfl rfl (by kernel_rfl) (fun _ _ _ h => h) (Or.inl ⟨by rfl, ?_⟩) ?_ ?_
  rotate_left
  · intro w'
    go_simp
    with_reducible rfl
  rotate_left
  · simp only [Act.put, List.setIfInBounds_toArray, List.set_cons_zero, List.set_cons_succ, i64_w, i32_w, wb4, wb5, wb6]
    rfl
  refine pure_ (i := 7) (N := (some 39)) (v := ?_) (a' := ?_) #[true, true, true, true, true, true, true, true, false, false, false, false, false] rfl rfl (by kernel_rfl) (fun _ _ _ h => h) (Or.inl ⟨by rfl, ?_⟩) ?_ ?_
  rotate_left
  · intro w'
    go_simp
    with_reducible rfl
  rotate_left
  · simp only [Act.put, List.setIfInBounds_toArray, List.set_cons_zero, List.set_cons_succ, i64_w, i32_w, wb4, wb5, wb6]
    rfl
  refine pure_ (i := 8) (N := (some 40)) (v := ?_) (a' := ?_) #[true, true, true, true, true, true, true, true, true, false, false, false, false] rfl rfl (by kernel_rfl) (fun _ _ _ h => h) (Or.inl ⟨by rfl, ?_⟩) ?_ ?_
  rotate_left
  · intro w'
    go_simp
    with_reducible rfl
  rotate_left
  · simp only [Act.put, List.setIfInBounds_toArray, List.set_cons_zero, List.set_cons_succ, i64_w, i32_w, wb4, wb5, wb6]
    rfl
  refine pure_ (i := 9) (N := (some 41)) (v := ?_) (a' := ?_) #[true, true, true, true, true, true, true, true, true, true, false, false, false] rfl rfl (by kernel_rfl) (fun _ _ _ h => h) (Or.inl ⟨by rfl, ?_⟩) ?_ ?_
  rotate_left
  · intro w'
    go_simp
    with_reducible rfl
  rotate_left
  · simp only [Act.put, List.setIfInBounds_toArray, List.set_cons_zero, List.set_cons_succ, i64_w, i32_w, wb4, wb5, wb6]
    rfl
  refine pure_ (i := 10) (N := (some 42)) (v := ?_) (a' := ?_) #[true, true, true, true, true, true, true, true, true, true, true, false, false] rfl rfl (by kernel_rfl) (fun _ _ _ h => h) (Or.inl ⟨by rfl, ?_⟩) ?_ ?_
  rotate_left
  · intro w'
    go_simp
    with_reducible rfl
  rotate_left
  · simp only [Act.put, List.setIfInBounds_toArray, List.set_cons_zero, List.set_cons_succ, i64_w, i32_w, wb4, wb5, wb6]
    rfl
  refine one_ (i := 11) (N := (some 6)) #[true, true, true, true, true, true, true, true, true, true, true, true, false] rfl rfl (by kernel_rfl) (by decide) (fun K hK => ?_)
  refine box_step ?hg (N := 6) ?hd (cs := #[.int .i64 0, .int .i64 0, .int .i64 0, .int .i64 0, .string (⟨#[]⟩ : ByteArray), .string (⟨#[]⟩ : ByteArray), .slice none 0 0]) (t := 26) ?hr ?_; (case hd => rfl); (case hg => rfl); (case hr => first | (go_simp; done) | (go_simp; rfl))
  intro g2 hg2 w2 hbox hb2
  have hne : g2 ≠ w.heap.size := Nat.ne_of_gt (hg2 ▸ hZ.lt)
  have hle : w.heap.size ≤ g2 := hg2 ▸ hB.size
  replace hZ := L.BC.below hZ hb2
  replace hB := below_next hB hb2
  clear hb2 hg2
  refine hK.out _ _ trivial (fun hHeld => ?_)
  clear hK K
  refine norm_ (a' := ?_) ?_ ?_
  rotate_left
  · show Act.put _ (some 6) _ = _
    simp only [Act.put, List.setIfInBounds_toArray, List.set_cons_zero, List.set_cons_succ, i64_w, i32_w, wb4, wb5, wb6]
    rfl
  refine one_ (i := 12) (N := none) #[true, true, true, true, true, true, true, true, true, true, true, true, true] rfl rfl (by kernel_rfl) (by decide) (fun K hK => ?_)
  refine L.skip_over 26 (.tmp 6) (.tmp 42) g2 [.int .i64 0, .int .i64 0, .int .i64 0, .int .i64 0, .string ⟨#[]⟩, .string ⟨#[]⟩, .slice none 0 0] [.int .i64 (bt s 4), .int .i64 (bt s 5), .int .i64 (bt s 6), .int .i64 0, .string ⟨#[]⟩, .string ⟨#[]⟩, .slice none 0 0] (by rfl) rfl (by rfl) (by rfl) (by rfl) ⟨hbox⟩ rfl size_stream (by intro v hv; simp only [List.mem_cons, List.not_mem_nil, or_false] at hv; rcases hv with rfl | rfl | rfl | rfl | rfl | rfl | rfl <;> rfl) ?_
  have hX := L.BC.over (R := [.int .i64 (bt s 4), .int .i64 (bt s 5), .int .i64 (bt s 6), .int .i64 0, .string ⟨#[]⟩, .string ⟨#[]⟩, .slice none 0 0]) (L.BC.mk (cs := [.int .i64 0, .int .i64 0, .int .i64 0, .int .i64 0, .string ⟨#[]⟩, .string ⟨#[]⟩, .slice none 0 0]) hbox) rfl
  replace hZ := L.BC.beside hZ hne [.int .i64 (bt s 4), .int .i64 (bt s 5), .int .i64 (bt s 6), .int .i64 0, .string ⟨#[]⟩, .string ⟨#[]⟩, .slice none 0 0]
  replace hB := L.bc_below_setCells hle [.int .i64 (bt s 4), .int .i64 (bt s 5), .int .i64 (bt s 6), .int .i64 0, .string ⟨#[]⟩, .string ⟨#[]⟩, .slice none 0 0] 0 _ hB
  clear hbox
  generalize (World.setCells w2 g2 0 [.int .i64 (bt s 4), .int .i64 (bt s 5), .int .i64 (bt s 6), .int .i64 0, .string ⟨#[]⟩, .string ⟨#[]⟩, .slice none 0 0]) = w3 at *
  refine hK.out _ _ trivial (fun hHeld => ?_)
  clear hK K
  refine done_ (by kernel_rfl) ?_
  clear hHeld hx4 hx5 hx6 i4 i5 i6 j4 j5 j6 d1 d2 d3 d4
  replace wb4 := Lib.hid wb4
  replace wb5 := Lib.hid wb5
  replace wb6 := Lib.hid wb6
  have tk1 : True := trivial
  have tk2 : True := trivial
  have tk3 : True := trivial
  clear hno
  rcases hcase with rfl | ⟨rfl, rfl⟩ | ⟨rfl, rfl, rfl⟩ | ⟨rfl, rfl, rfl, rfl⟩ | ⟨rfl, rfl, rfl, rfl, rfl⟩ | ⟨rfl, rfl, rfl, rfl, rfl, rfl⟩ | ⟨rfl, rfl, rfl, rfl, rfl, rfl, rfl⟩ | ⟨rfl, rfl, rfl, rfl, rfl, rfl, rfl, rfl⟩ | ⟨rfl, rfl, rfl, rfl, rfl, rfl, rfl, rfl, rfl⟩ | ⟨rfl, rfl, rfl, rfl, rfl, rfl, rfl, rfl, rfl, rfl⟩
  all_goals
    first
    | (obtain ⟨m1, m2, m3, m4, m5, m6⟩ := hM.out rfl; replace m1 := Lib.hid m1; replace e10 := e10.out; have s1 : IntKind.i64.wrap (T2 + H1) = T2 + H1 := IntWalk.i64_in _ (by omega); have s2 : IntKind.i64.wrap (T2 + H1 + T1) = T2 + H1 + T1 := IntWalk.i64_in _ (by omega); have s3 := eq_true (show 0 ≤ T2 by omega); have s4 := eq_true (show T2 ≤ T2 + H1 by omega); have s5 := eq_true (show T2 + H1 ≤ (s.size : Int) by omega); have s6 := eq_true (show 0 ≤ T2 + H1 by omega); have s7 := eq_true (show T2 + H1 ≤ T2 + H1 + T1 by omega); have s8 := eq_true (show T2 + H1 + T1 ≤ (s.size : Int) by omega); have s9 : IntKind.i64.wrap (2 * M) = 2 * M := IntWalk.i64_in _ (by omega); have s10 : IntKind.i64.wrap (2 * M + 4) = 2 * M + 4 := IntWalk.i64_in _ (by omega); have s11 : IntKind.i64.wrap ((s.size : Int) - (T2 + H1 + T1)) = (s.size : Int) - (T2 + H1 + T1) := IntWalk.i64_in _ (by omega))
    | clear hM e10
    go_wp2_with (first
      | (go_at_call 50; have hguard := tk1; clear hguard tk1; refine (descantref1_GetVarint.calls 40 s 7 _ _ _ _ hF.out).mono ?_; rintro e w4 ⟨rfl, hb⟩; replace hZ := L.BC.below hZ hb; replace hX := L.BC.below hX hb; replace hB := below_next hB hb; clear hb)
      | (go_at_call 50; have hguard := tk2; clear hguard tk2; refine (descantref1_GetVarint.calls 40 s F2 _ _ _ _ hH.out).mono ?_; rintro e w5 ⟨rfl, hb⟩; replace hZ := L.BC.below hZ hb; replace hX := L.BC.below hX hb; replace hB := below_next hB hb; clear hb)
      | (go_at_call 50; have hguard := tk3; clear hguard tk3; refine (descantref1_GetVarint.calls 40 s H2 _ _ _ _ hT.out).mono ?_; rintro e w6 ⟨rfl, hb⟩; replace hZ := L.BC.below hZ hb; replace hX := L.BC.below hX hb; replace hB := below_next hB hb; clear hb; have x0 := L.BC.at_ hX (o := 0) rfl; have x1 := L.BC.at_ hX (o := 1) rfl; have x2 := L.BC.at_ hX (o := 2) rfl; have z0 := L.BC.at_ hZ (o := 0) rfl; have y0 := L.BC.frozen hZ 0; have z1 := L.BC.at_ hZ (o := 1) rfl; have y1 := L.BC.frozen hZ 1; have z2 := L.BC.at_ hZ (o := 2) rfl; have y2 := L.BC.frozen hZ 2; have z3 := L.BC.at_ hZ (o := 3) rfl; have y3 := L.BC.frozen hZ 3; have z4 := L.BC.at_ hZ (o := 4) rfl; have y4 := L.BC.frozen hZ 4; have z5 := L.BC.at_ hZ (o := 5) rfl; have y5 := L.BC.frozen hZ 5; have z6 := L.BC.at_ hZ (o := 6) rfl; have y6 := L.BC.frozen hZ 6)
      | (go_at_call 43; refine (descantref13_FormatMay.calls _ _ _ _ e4.out).mono ?_; rintro e w7 ⟨rfl, hb⟩; replace hZ := L.BC.below hZ hb; replace hX := L.BC.below hX hb; replace hB := below_next hB hb; clear hb; have x0 := L.BC.at_ hX (o := 0) rfl; have x1 := L.BC.at_ hX (o := 1) rfl; have x2 := L.BC.at_ hX (o := 2) rfl; have z0 := L.BC.at_ hZ (o := 0) rfl; have y0 := L.BC.frozen hZ 0; have z1 := L.BC.at_ hZ (o := 1) rfl; have y1 := L.BC.frozen hZ 1; have z2 := L.BC.at_ hZ (o := 2) rfl; have y2 := L.BC.frozen hZ 2; have z3 := L.BC.at_ hZ (o := 3) rfl; have y3 := L.BC.frozen hZ 3; have z4 := L.BC.at_ hZ (o := 4) rfl; have y4 := L.BC.frozen hZ 4; have z5 := L.BC.at_ hZ (o := 5) rfl; have y5 := L.BC.frozen hZ 5; have z6 := L.BC.at_ hZ (o := 6) rfl; have y6 := L.BC.frozen hZ 6)
      | (go_at_call 44; refine (descantref13_upTo.calls _ _ _ _ _ e5.out).mono ?_; rintro e w8 ⟨rfl, hd⟩; replace hZ := L.BC.below hZ hd.below; replace hX := L.BC.below hX hd.below; replace hB := below_next hB hd.below; clear hd; have x0 := L.BC.at_ hX (o := 0) rfl; have u0 := L.BC.frozen hX 0; have x1 := L.BC.at_ hX (o := 1) rfl; have u1 := L.BC.frozen hX 1; have x2 := L.BC.at_ hX (o := 2) rfl; have u2 := L.BC.frozen hX 2; have x3 := L.BC.at_ hX (o := 3) rfl; have u3 := L.BC.frozen hX 3; have x4 := L.BC.at_ hX (o := 4) rfl; have u4 := L.BC.frozen hX 4; have x5 := L.BC.at_ hX (o := 5) rfl; have u5 := L.BC.frozen hX 5; have x6 := L.BC.at_ hX (o := 6) rfl; have u6 := L.BC.frozen hX 6; have nz1 : (g2 = w.heap.size) = False := eq_false hne; have nz2 : (w.heap.size = g2) = False := eq_false (Ne.symm hne); have z0 := L.BC.at_ hZ (o := 0) rfl; have y0 := L.BC.frozen hZ 0; have z1 := L.BC.at_ hZ (o := 1) rfl; have y1 := L.BC.frozen hZ 1; have z2 := L.BC.at_ hZ (o := 2) rfl; have y2 := L.BC.frozen hZ 2; have z3 := L.BC.at_ hZ (o := 3) rfl; have y3 := L.BC.frozen hZ 3; have z4 := L.BC.at_ hZ (o := 4) rfl; have y4 := L.BC.frozen hZ 4; have z5 := L.BC.at_ hZ (o := 5) rfl; have y5 := L.BC.frozen hZ 5; have z6 := L.BC.at_ hZ (o := 6) rfl; have y6 := L.BC.frozen hZ 6)
      | (go_at_call 45; refine (descantref13_Many.calls _ _ _ _ m1.out).mono ?_; rintro e w9 ⟨rfl, hd⟩; have hXn := L.BC.below (L.BC.set (L.BC.set (L.BC.set hX 3 (.int .i64 F1)) 4 (.string (s.extract T2.toNat (T2 + H1).toNat))) 5 (.string (s.extract (T2 + H1).toNat (T2 + H1 + T1).toNat))) hd.below; have hZn := L.BC.below (L.BC.far (L.BC.far (L.BC.far hZ (p := ⟨g2, 3, none⟩) hne (.int .i64 F1)) (p := ⟨g2, 4, none⟩) hne (.string (s.extract T2.toNat (T2 + H1).toNat))) (p := ⟨g2, 5, none⟩) hne (.string (s.extract (T2 + H1).toNat (T2 + H1 + T1).toNat))) hd.below; have hBn := below_next ((((((hB).setCell (p := ⟨g2, 3, none⟩) hle (.int .i64 F1))).setCell (p := ⟨g2, 4, none⟩) hle (.string (s.extract T2.toNat (T2 + H1).toNat)))).setCell (p := ⟨g2, 5, none⟩) hle (.string (s.extract (T2 + H1).toNat (T2 + H1 + T1).toNat))) hd.below; clear hd hX hZ hB; have hX := hXn; have hZ := hZn; have hB := hBn; clear hXn hZn hBn; have z0 := L.BC.at_ hZ (o := 0) rfl; have y0 := L.BC.frozen hZ 0; have z1 := L.BC.at_ hZ (o := 1) rfl; have y1 := L.BC.frozen hZ 1; have z2 := L.BC.at_ hZ (o := 2) rfl; have y2 := L.BC.frozen hZ 2; have z3 := L.BC.at_ hZ (o := 3) rfl; have y3 := L.BC.frozen hZ 3; have z4 := L.BC.at_ hZ (o := 4) rfl; have y4 := L.BC.frozen hZ 4; have z5 := L.BC.at_ hZ (o := 5) rfl; have y5 := L.BC.frozen hZ 5; have z6 := L.BC.at_ hZ (o := 6) rfl; have y6 := L.BC.frozen hZ 6; have x0 := L.BC.at_ hX (o := 0) rfl; have x1 := L.BC.at_ hX (o := 1) rfl; have x2 := L.BC.at_ hX (o := 2) rfl; have x3 := L.BC.at_ hX (o := 3) rfl; have x4 := L.BC.at_ hX (o := 4) rfl; have x5 := L.BC.at_ hX (o := 5) rfl; have x6 := L.BC.at_ hX (o := 6) rfl))
  all_goals exact exit0 hZ hB rfl rfl rfl rfl rfl
end Go.Proofs.Ytokegkpbbhegpaa.PT
