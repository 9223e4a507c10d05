/- Residual's Get; what every program answers that is one. -/
import Derived.Test.YtiokfaiioealdaaGreatDoorMRA
import Derived.Test.YtiokfaiioealdaaGreatDoorMRB
/- Many zeros take few bytes (the kernel computes it); what else the law asks of a residual's text. -/
namespace Go.Proofs.YtiokfaiioealdaaGreatDoor
set_option linter.unusedVariables false
set_option linter.unusedSimpArgs false
set_option maxRecDepth 100000
deriving instance DecidableEq for St
deriving instance DecidableEq for Enc
def qItr : Nat → St × Enc → St × Enc
  | 0, a => a
  | n + 1, a => qItr n (putNum mdot lR 0 a)
def qChk : Nat → Nat → St × Enc → Bool
  | 0, _, _ => true
  | n + 1, k, a => decide (a.2.out.length + 4 ≤ 8 + k / 16) && qChk n (k + 1) (putNum mdot lR 0 a)
def qA (c x l : Int) : St × Enc := (⟨(((((newM.set 0 c).set 64 c).set 128 c).set 192 x).set 193 x).set 194 x, 0, []⟩, ⟨l, 4294967295, [255]⟩)
theorem qChk_add : ∀ (m n k : Nat) (a : St × Enc), qChk (m + n) k a = (qChk m k a && qChk n (k + m) (qItr m a))
  | 0, n, k, a => by rw [Nat.zero_add]; rfl
  | m + 1, n, k, a => by
    rw [show m + 1 + n = (m + n) + 1 by omega, qChk, qChk, qChk_add m n (k + 1), qItr, Bool.and_assoc, show k + 1 + m = k + (m + 1) by omega]
theorem qChk_get : ∀ (n k : Nat) (a : St × Enc), qChk n k a = true → ∀ j, j < n → (qItr j a).2.out.length + 4 ≤ 8 + (k + j) / 16
  | 0, _, _, _, j, hj => absurd hj (Nat.not_lt_zero _)
  | n + 1, k, a, h, 0, _ => by
    rw [qChk, Bool.and_eq_true] at h
    exact of_decide_eq_true h.1
  | n + 1, k, a, h, j + 1, hj => by
    rw [qChk, Bool.and_eq_true] at h
    have := qChk_get n (k + 1) _ h.2 j (by omega)
    rw [qItr, show k + (j + 1) = k + 1 + j by omega]
    exact this
theorem qs_0 : qChk 16 0 (⟨newM, 0, []⟩, enc0) = true ∧ qItr 16 (⟨newM, 0, []⟩, enc0) = (qA 11671 25220 1904273964) := by decide +kernel
theorem qs_1 : qChk 16 16 (qA 11671 25220 1904273964) = true ∧ qItr 16 (qA 11671 25220 1904273964) = (qA 4161 27742 3657514694) := by decide +kernel
theorem qs_2 : qChk 16 32 (qA 4161 27742 3657514694) = true ∧ qItr 16 (qA 4161 27742 3657514694) = (qA 1486 28602 3810408042) := by decide +kernel
theorem qs_3 : qChk 16 48 (qA 1486 28602 3810408042) = true ∧ qItr 16 (qA 1486 28602 3810408042) = (qA 535 28864 3839495812) := by decide +kernel
theorem qs_4 : qChk 16 64 (qA 535 28864 3839495812) = true ∧ qItr 16 (qA 535 28864 3839495812) = (qA 197 28937 3845793526) := by decide +kernel
theorem qs_5 : qChk 16 80 (qA 197 28937 3845793526) = true ∧ qItr 16 (qA 197 28937 3845793526) = (qA 75 28967 3847544911) := by decide +kernel
theorem qs_6 : qChk 16 96 (qA 75 28967 3847544911) = true ∧ qItr 16 (qA 75 28967 3847544911) = (qA 31 28999 3849289465) := by decide +kernel
theorem qs_7 : qChk 16 112 (qA 31 28999 3849289465) = true ∧ qItr 16 (qA 31 28999 3849289465) = (qA 15 29031 3851027218) := by decide +kernel
theorem qs_8 : qChk 16 128 (qA 15 29031 3851027218) = true ∧ qItr 16 (qA 15 29031 3851027218) = (qA 15 29063 3852758195) := by decide +kernel
theorem qs_9 : qChk 16 144 (qA 15 29063 3852758195) = true ∧ qItr 16 (qA 15 29063 3852758195) = (qA 15 29095 3854482423) := by decide +kernel
theorem qs_10 : qChk 16 160 (qA 15 29095 3854482423) = true ∧ qItr 16 (qA 15 29095 3854482423) = (qA 15 29127 3856199928) := by decide +kernel
theorem qs_11 : qChk 16 176 (qA 15 29127 3856199928) = true ∧ qItr 16 (qA 15 29127 3856199928) = (qA 15 29159 3857910736) := by decide +kernel
theorem qs_12 : qChk 16 192 (qA 15 29159 3857910736) = true ∧ qItr 16 (qA 15 29159 3857910736) = (qA 15 29191 3859614880) := by decide +kernel
theorem qs_13 : qChk 16 208 (qA 15 29191 3859614880) = true ∧ qItr 16 (qA 15 29191 3859614880) = (qA 15 29223 3861312374) := by decide +kernel
theorem qs_14 : qChk 16 224 (qA 15 29223 3861312374) = true ∧ qItr 16 (qA 15 29223 3861312374) = (qA 15 29255 3863003248) := by decide +kernel
theorem qs_15 : qChk 16 240 (qA 15 29255 3863003248) = true ∧ qItr 16 (qA 15 29255 3863003248) = (qA 15 29287 3864687530) := by decide +kernel
theorem qa_15 : qChk 16 240 (qA 15 29255 3863003248) = true := qs_15.1
theorem qa_14 : qChk 32 224 (qA 15 29223 3861312374) = true := by rw [show 32 = 16 + 16 from rfl, qChk_add, qs_14.1, qs_14.2, Bool.true_and]; exact qa_15
theorem qa_13 : qChk 48 208 (qA 15 29191 3859614880) = true := by rw [show 48 = 16 + 32 from rfl, qChk_add, qs_13.1, qs_13.2, Bool.true_and]; exact qa_14
theorem qa_12 : qChk 64 192 (qA 15 29159 3857910736) = true := by rw [show 64 = 16 + 48 from rfl, qChk_add, qs_12.1, qs_12.2, Bool.true_and]; exact qa_13
theorem qa_11 : qChk 80 176 (qA 15 29127 3856199928) = true := by rw [show 80 = 16 + 64 from rfl, qChk_add, qs_11.1, qs_11.2, Bool.true_and]; exact qa_12
theorem qa_10 : qChk 96 160 (qA 15 29095 3854482423) = true := by rw [show 96 = 16 + 80 from rfl, qChk_add, qs_10.1, qs_10.2, Bool.true_and]; exact qa_11
theorem qa_9 : qChk 112 144 (qA 15 29063 3852758195) = true := by rw [show 112 = 16 + 96 from rfl, qChk_add, qs_9.1, qs_9.2, Bool.true_and]; exact qa_10
theorem qa_8 : qChk 128 128 (qA 15 29031 3851027218) = true := by rw [show 128 = 16 + 112 from rfl, qChk_add, qs_8.1, qs_8.2, Bool.true_and]; exact qa_9
theorem qa_7 : qChk 144 112 (qA 31 28999 3849289465) = true := by rw [show 144 = 16 + 128 from rfl, qChk_add, qs_7.1, qs_7.2, Bool.true_and]; exact qa_8
theorem qa_6 : qChk 160 96 (qA 75 28967 3847544911) = true := by rw [show 160 = 16 + 144 from rfl, qChk_add, qs_6.1, qs_6.2, Bool.true_and]; exact qa_7
theorem qa_5 : qChk 176 80 (qA 197 28937 3845793526) = true := by rw [show 176 = 16 + 160 from rfl, qChk_add, qs_5.1, qs_5.2, Bool.true_and]; exact qa_6
theorem qa_4 : qChk 192 64 (qA 535 28864 3839495812) = true := by rw [show 192 = 16 + 176 from rfl, qChk_add, qs_4.1, qs_4.2, Bool.true_and]; exact qa_5
theorem qa_3 : qChk 208 48 (qA 1486 28602 3810408042) = true := by rw [show 208 = 16 + 192 from rfl, qChk_add, qs_3.1, qs_3.2, Bool.true_and]; exact qa_4
theorem qa_2 : qChk 224 32 (qA 4161 27742 3657514694) = true := by rw [show 224 = 16 + 208 from rfl, qChk_add, qs_2.1, qs_2.2, Bool.true_and]; exact qa_3
theorem qa_1 : qChk 240 16 (qA 11671 25220 1904273964) = true := by rw [show 240 = 16 + 224 from rfl, qChk_add, qs_1.1, qs_1.2, Bool.true_and]; exact qa_2
theorem qa_0 : qChk 256 0 (⟨newM, 0, []⟩, enc0) = true := by rw [show 256 = 16 + 240 from rfl, qChk_add, qs_0.1, qs_0.2, Bool.true_and]; exact qa_1
theorem nums_zero : ∀ (k : Nat) (a : St × Enc), putNums mdot lR (List.replicate k 0) a = qItr k a
  | 0, _ => rfl
  | k + 1, a => by rw [List.replicate_succ, putNums, qItr]; exact nums_zero k _
theorem quiet_len {k : Nat} (h : k < 256) : (putS mdot lR newM (List.replicate k 0)).length ≤ 8 + k / 16 := by
  unfold putS encE
  rw [nums_zero]
  have := qChk_get 256 0 _ qa_0 k h
  rw [Nat.zero_add] at this
  simpa using this
end Go.Proofs.YtiokfaiioealdaaGreatDoor
/- residual.Get: what it gives; walked. -/
namespace Go.Proofs.YtiokfaiioealdaaGreatDoor
open Go.RowKit Go.Proofs.YtiokfaiioealdaaGreatDoorW.PrintWords Go.Proofs.YtiokfaiioealdaaGreatDoorW.PrintLast Go.Proofs.YtiokfaiioealdaaGreatDoorW.PrintMore Go.Proofs.YtiokfaiioealdaaGreatDoor.L
set_option linter.unusedVariables false
set_option linter.unusedSimpArgs false
theorem fold_rd (a b c d k : Value) : (((((List.foldl (fun cs (x : Value × Nat) => cs.setIfInBounds x.snd x.fst) Tryz.zeroCells92 (stc newM 0 (.slice none 0 0) []).zipIdx).setIfInBounds 197 a).setIfInBounds 198 b).setIfInBounds 199 c).setIfInBounds 200 d).setIfInBounds 201 k = (stc newM 0 (.slice none 0 0) [a, b, c, d, k]).toArray := by kernel_rfl
def getPost (w0 w' : World) (e : Ending) : Option (List Int) → Prop
  | some rs => ∃ v, e = .returned (.tuple #[v, .int .i64 0]) ∧ Kd.R (Kd.int .i64) 3 w' w0.heap.size (fun _ => True) v rs ∧ Below w0.heap.size w0 w'
  | none => e = .returned (.tuple #[.slice none 0 0, .int .i64 1300]) ∧ Below w0.heap.size w0 w'
theorem dec0_ok (s : List UInt8) : PG.DOk s dec0 := by
  have := win_in s 0
  exact ⟨by unfold dec0 Ends; decide, this.1, this.2⟩
set_option maxHeartbeats 8000000 in
set_option maxRecDepth 100000 in
theorem rget_any (s : ByteArray) (many : Int) (w : World) (ht : Tab w) : Calls Tryz.prog 16 #[.string s, .int .i64 many] w fun e w' => getPost w w' e (getS mdot lR newM s.data.toList many) := by
  obtain ⟨T0, hT0⟩ : ∃ T0, getS mdot lR newM s.data.toList many = T0 := ⟨_, rfl⟩
  rw [hT0]
  unfold getS at hT0
  have hsz : s.data.toList.length = s.size := by simp
  by_cases hok : getOk s.data.toList many = true
  · rw [if_pos hok] at hT0
    unfold getOk at hok
    simp only [Bool.and_eq_true, decide_eq_true_eq] at hok
    rw [hsz] at hok
    obtain ⟨ho1, ho2, ho3⟩ := hok
    have hnew := PG.new_f s
    rw [if_pos ho1] at hnew
    have hwin : win s.data.toList dec0.i = win s.data.toList 0 := rfl
    obtain ⟨x0, hx0⟩ : ∃ x0, win s.data.toList 0 = x0 := ⟨_, rfl⟩
    rw [hx0] at hnew hwin
    have HN := Lib.hid hnew
    have d1 : decide (many < 0) = false := decide_eq_false (by omega)
    have d2 : decide (256 < many) = false := decide_eq_false (by omega)
    replace hT0 := Lib.hid hT0
    replace hwin := Lib.hid hwin
    clear hnew hx0 hsz
    go_enter Tryz.func16, Tryz.ntmps16
    go_wp2_with (fail)
    refine (PG.decoder_New.calls 40 s 0 4294967295 x0 s 4 0 _ HN.out).mono ?_
    rintro e w1 ⟨rfl, hb⟩
    have hX := L.BC.new w1 [.int .i64 0, .int .i64 0, .int .i64 0, .string ⟨#[]⟩, .int .i64 0] 87
    have n0 := L.BC.at_ hX (o := 0) rfl; have n1 := L.BC.at_ hX (o := 1) rfl; have n2 := L.BC.at_ hX (o := 2) rfl; have n3 := L.BC.at_ hX (o := 3) rfl; have n4 := L.BC.at_ hX (o := 4) rfl
    have m0 := L.BC.frozen hX 0; have m1 := L.BC.frozen hX 1; have m2 := L.BC.frozen hX 2; have m3 := L.BC.frozen hX 3; have m4 := L.BC.frozen hX 4
    go_wp2_with (fail)
    have hX1 := L.BC.new w1 [.int .i64 0, .int .i64 4294967295, .int .i64 x0, .string s, .int .i64 4] 87
    have hB := L.below_alloc hb (.cells #[.int .i64 0, .int .i64 4294967295, .int .i64 x0, .string s, .int .i64 4] 87)
    clear n0 n1 n2 n3 n4 m0 m1 m2 m3 m4 hX hb
    replace hX1 := L.BC.drew hX1
    replace hB := L.below_drew hB
    refine start_ (n := 6) (S := fun w' => L.BC w' w1.heap.size 87 [.int .i64 0, .int .i64 4294967295, .int .i64 x0, .string s, .int .i64 4]) (ds := [4]) #[false, false, false, false, false, false] (by kernel_rfl) rfl rfl hX1 (fun hHeld => ?_)
    generalize (w1.alloc (.cells #[.int .i64 0, .int .i64 4294967295, .int .i64 x0, .string s, .int .i64 4] 87)).drew = w2 at hX1 hB hHeld ⊢
    generalize w1.heap.size = gd at *
    refine take_ (i := 2) (N := (some 32)) (v := .agg #[.int .i64 0, .int .i64 4294967295, .int .i64 x0, .string s, .int .i64 4]) (a' := ?_) #[false, false, true, false, false, false] rfl rfl (by kernel_rfl) (fun _ _ _ h => h) (Or.inl ⟨by rfl, fun w' hS => L.loads 87 (.tmp 6) gd [.int .i64 0, .int .i64 4294967295, .int .i64 x0, .string s, .int .i64 4] _ (by rfl) (by rfl) Tryz.underlying87 rfl info56 w' (id hS)⟩) hHeld ?_ ?_
    rotate_left
    · simp only [Act.put, List.setIfInBounds_toArray, List.set_cons_zero, List.set_cons_succ, i64_w, i32_w]
      rfl
    refine one_ (i := 0) (N := (some 30)) #[true, false, true, false, false, false] rfl rfl (by kernel_rfl) (by decide) (fun K hK => ?_)
    refine goes_ Tryz.func34 (by kernel_rfl) rfl #[] (by rfl) rfl rfl (by (try simp only [List.map_toArray, List.map_cons, List.map_nil]); first | done | rfl) ?_
    refine (model_new _).mono ?_
    rintro e w3 ⟨rfl, hb⟩
    refine ⟨_, rfl, ?_⟩
    replace hX1 := L.BC.below hX1 hb
    replace hB := below_next hB hb
    clear hHeld hb
    refine hK.out _ _ hX1 (fun hHeld => ?_)
    clear hK K
    refine norm_ (a' := ?_) ?_ ?_
    rotate_left
    · show Act.put _ (some 30) _ = _
      simp only [Act.put, List.setIfInBounds_toArray, List.set_cons_zero, List.set_cons_succ, i64_w, i32_w]
      rfl
    refine pure_ (i := 1) (N := (some 31)) (v := .agg (stc newM 0 (.slice none 0 0) []).toArray) (a' := ?_) #[true, true, true, false, false, false] rfl rfl (by kernel_rfl) (fun _ _ _ h => h) (Or.inl ⟨by rfl, fun w' => by kernel_rfl⟩) ?_ ?_
    rotate_left
    · simp only [Act.put, List.setIfInBounds_toArray, List.set_cons_zero, List.set_cons_succ, i64_w, i32_w]
      rfl
    refine pure_ (i := 3) (N := (some 33)) (v := .agg (stc newM 0 (.slice none 0 0) [.int .i64 0, .int .i64 4294967295, .int .i64 x0, .string s, .int .i64 4]).toArray) (a' := ?_) #[true, true, true, true, false, false] rfl rfl (by kernel_rfl) (fun _ _ _ h => h) (Or.inl ⟨by rfl, fun w' => by kernel_rfl⟩) ?_ ?_
    rotate_left
    · simp only [Act.put, List.setIfInBounds_toArray, List.set_cons_zero, List.set_cons_succ, i64_w, i32_w]
      rfl
    refine last_ (i := 4) (N := (some 34)) #[true, true, true, true, true, false] rfl rfl (by kernel_rfl) (by decide) (fun K hK => ?_)
    refine box_step ?hg (N := 34) ?hd (cs := (stc newM 0 (.slice none 0 0) [.int .i64 0, .int .i64 4294967295, .int .i64 x0, .string s, .int .i64 4]).toArray) (t := 92) ?hr ?_; (case hd => rfl); (case hg => rfl); (case hr => first | (go_simp; done) | (go_simp; rfl))
    intro g hg w4 hbox hb4
    have hI : L.BC w4 g 92 (stc newM 0 (.slice none 0 0) [.int .i64 0, .int .i64 4294967295, .int .i64 x0, .string s, .int .i64 4]) := ⟨hbox⟩
    have hgw : w.heap.size ≤ g := hg ▸ hB.size
    replace hB := below_next hB hb4
    have hgt : 3 ≠ g := Nat.ne_of_lt (Nat.lt_of_lt_of_le ht.lt hgw)
    clear hbox hb4 hX1 hg hHeld
    refine hK.out _ _ ?_
    clear hK K
    refine norm_ (a' := ?_) ?_ ?_
    rotate_left
    · show Act.put _ (some 34) _ = _
      simp only [Act.put, List.setIfInBounds_toArray, List.set_cons_zero, List.set_cons_succ, i64_w, i32_w]
      rfl
    refine pure_ (i := 5) (N := (some 8)) (v := ?_) (a' := ?_) #[true, true, true, true, true, true] rfl rfl (by kernel_rfl) (fun _ _ _ h => h) (Or.inl ⟨by rfl, ?_⟩) ?_ ?_
    rotate_left
    · intro w'
      go_simp
      with_reducible rfl
    rotate_left
    · simp only [Act.put, List.setIfInBounds_toArray, List.set_cons_zero, List.set_cons_succ, i64_w, i32_w]
      rfl
    refine done_ (by kernel_rfl) ?_
    have hdc : decC s dec0 = [.int .i64 0, .int .i64 4294967295, .int .i64 x0, .string s, .int .i64 4] := by unfold decC; rw [hwin.out]; rfl
    rw [← hdc] at hI
    have hR : Kd.R (Kd.int .i64) 3 w4 w.heap.size (fun _ => True) (.slice none 0 0) ([] : List Int) := Kd.R_nil _ _ _ _ _
    have hN := L.But.of_below hB g
    have ht0 := Lib.hid ht
    clear hB ht hdc
    generalize (stc newM 0 (.slice none 0 0) []).toArray = z1
    generalize (stc newM 0 (.slice none 0 0) [.int .i64 0, .int .i64 4294967295, .int .i64 x0, .string s, .int .i64 4]).toArray = z2
    generalize (ints newM).toArray = z3
    go_wp2_with (fail)
    obtain ⟨U, hU⟩ : ∃ U, takeAll mdot lR s.data.toList many.toNat (⟨newM, 0, []⟩, dec0) [] = U := ⟨_, rfl⟩
    have hT1 := hT0.out
    rw [hU] at hT1
    replace hT1 := Lib.hid hT1
    replace hU := Lib.hid hU
    clear hT0 hwin
    go_loopg [10, 38] many.toNat (fun kq v10 v38 W => ∃ (out : List Int) (S2 : St) (D2 : Dec), v38 = .int .i64 (out.length : Int) ∧ out.length + kq = many.toNat ∧ takeAll mdot lR s.data.toList kq (S2, D2) out = U ∧ SIn S2 ∧ S2.bits = [] ∧ PG.DOk s.data.toList D2 ∧ D2.i ≤ 65540 ∧ L.BC W g 92 (stc S2.M S2.before (.slice none 0 0) (decC s D2)) ∧ Kd.R (Kd.int .i64) 3 W w.heap.size (fun _ => True) v10 out ∧ L.But w W g)
    case atStart => exact ⟨[], ⟨newM, 0, []⟩, dec0, rfl, by simp, hU.out, ⟨newM_length, newM_may, by decide, fun b hb => by cases hb⟩, rfl, dec0_ok _, by decide, hI, hR, hN⟩
    case round =>
      clear hI hR hN hU
      obtain ⟨out, S2, D2, rfl, hi, hU, hS, hSb, hd, hDi, hI, hR, hN⟩ := hrel
      have htW := ht0.out.below (hN.low hgw)
      obtain ⟨M, before, bits⟩ := S2
      simp only [] at hSb hI
      subst hSb
      obtain ⟨A, cap, ev⟩ := Kd.R_slice hR
      subst ev
      by_cases c1 : (out.length : Int) < many
      · have c1d : decide ((out.length : Int) < many) = true := decide_eq_true c1
        obtain ⟨n, rfl⟩ : ∃ n, gk = n + 1 := ⟨gk - 1, by omega⟩
        rw [takeAll] at hU
        have hnum := rnum_any wr g M before s D2 htW hS hI hgt ho1 hd hDi
        replace c1 := Lib.hid c1
        cases htn : takeNum mdot lR s.data.toList 60 (⟨M, before, []⟩, D2) with
        | none =>
          rw [htn] at hU hnum
          simp only [] at hU
          replace hU := Lib.hid hU
          replace htn := Lib.hid htn
          go_wp2_with (fail)
          refine hnum.mono ?_
          rintro e w5 ⟨⟨x, rfl⟩, hN5⟩
          go_wp2_with (fail)
          go_ret2
          rw [← hT1.out, ← hU.out]
          exact ⟨rfl, (hN.trans hN5).low hgw⟩
        | some P =>
          obtain ⟨x, S3, D3⟩ := P
          rw [htn] at hU hnum
          simp only [] at hU
          replace hU := Lib.hid hU
          replace htn := Lib.hid htn
          go_wp2_with (fail)
          refine hnum.mono ?_
          rintro e w5 ⟨rfl, hI5, hS5, hb5, hd5, hi5, hN5⟩
          have hR5 := R_but hR hI (ne_ty (by decide)) hN5
          replace hN5 := hN.trans hN5
          clear hnum hI hR hN htW
          obtain ⟨ys, hys⟩ : ∃ ys, out ++ [x] = ys := ⟨_, rfl⟩
          have hyl : (ys.length : Int) = (out.length : Int) + 1 := by rw [← hys, List.length_append, List.length_singleton]; omega
          have wi : IntKind.i64.wrap ((out.length : Int) + 1) = (out.length : Int) + 1 := IntWalk.i64_in _ (by have := c1.out; omega)
          rw [hys] at hU
          replace hys := Lib.hid hys
          replace hyl := Lib.hid hyl
          go_wp2_with (first | ((with_reducible refine gate_builtin (b := .append) (xs := #[.tmp 47, .tmp 49]) rfl ?_); at_builtin; refine Kd.R_append (Kd.int .i64) (w0 := w5) w.heap.size rfl (.tmp 47) (.tmp 49) 22 3 (.int .i64 0) 8 rfl Tryz.underlying22 infoI rfl (by decide) (by omega) (.slice A out.length cap) out x [.int .i64 x] (fun _ => True) (fun _ => False) rfl rfl ?aP (fun _ hk => hk.elim) ?aF ?aO ?aB ?aS ?aL ?_; (case aP => exact rfl); (case aB => exact Below.refl _ _); (case aF => exact (fun _ _ => trivial)); (case aO => exact hR5); (case aS => exact hN5.size); (case aL => omega); intro v26 w6 hR6 hB6 hgr hat; rw [hys.out] at hR6; obtain ⟨A6, n6, e6⟩ := Kd.R_slice hR6; subst e6; have hI6 := bc_grown hI5 hgr (Kd.R_ne hR5 hI5.blk (by decide)); have hN6 := but_low hN5 hB6; clear hR5 hI5 hN5 hB6 hgr hat))
          go_roundg n
          case measure => omega
          case rel =>
            obtain ⟨M3, before3, bits3⟩ := S3
            simp only [] at hb5
            subst hb5
            exact ⟨ys, ⟨M3, before3, []⟩, D3, by rw [hyl.out], by have := hyl.out; omega, hU.out, hS5, rfl, hd5, hi5, hI6, hR6, hN6⟩
      · have c1d : decide ((out.length : Int) < many) = false := decide_eq_false c1
        have hk0 : gk = 0 := by omega
        subst hk0
        rw [takeAll] at hU
        have hT2 := hT1.out
        rw [← hU] at hT2
        simp only [] at hT2
        clear hT1 hU
        have hput := rput_any out A cap wr htW (Kd.R_reads' hR).2.2 (Kd.R_reads' hR).2.1
        have hB := hN.low hgw
        by_cases hp : putOk out = true
        · rw [if_pos hp, if_pos hp] at hput
          obtain ⟨t, ht⟩ : ∃ t : ByteArray, (⟨(putS mdot lR newM out).toArray⟩ : ByteArray) = t := ⟨_, rfl⟩
          rw [ht] at hput
          by_cases hq : putS mdot lR newM out = s.data.toList
          · rw [if_pos ⟨hp, hq⟩] at hT2
            have hts : t = s := by rw [← ht, hq]
            clear ht hq
            subst hts
            replace hT2 := Lib.hid hT2
            replace hp := Lib.hid hp
            go_wp2_with (fail)
            refine hput.mono ?_
            rintro e w5 ⟨rfl, hb5⟩
            replace hR := Kd.R_below hR hb5
            replace hB := below_next hB hb5
            go_wp2_with (fail)
            go_ret2
            rw [← hT2.out]
            exact ⟨_, rfl, hR, hB⟩
          · rw [if_neg (fun h => hq h.2)] at hT2
            have hts : ¬ t = s := by intro h; apply hq; rw [← h, ← ht]
            clear ht hq
            have h1 : (t.toList == s.toList) = false := by rw [Go.ByteArray.toList_eq, Go.ByteArray.toList_eq]; exact beq_eq_false_iff_ne.2 fun h => hts (ByteArray.ext (Array.toList_inj.1 h))
            replace hT2 := Lib.hid hT2
            replace hp := Lib.hid hp
            go_wp2_with (fail)
            refine hput.mono ?_
            rintro e w5 ⟨rfl, hb5⟩
            replace hB := below_next hB hb5
            go_wp2_with (fail)
            go_ret2
            rw [← hT2.out]
            exact ⟨rfl, hB⟩
        · rw [if_neg hp, if_neg hp] at hput
          rw [if_neg (fun h => hp h.1)] at hT2
          replace hT2 := Lib.hid hT2
          replace hp := Lib.hid hp
          go_wp2_with (fail)
          refine hput.mono ?_
          rintro e w5 ⟨rfl, hb5⟩
          replace hB := below_next hB hb5
          go_wp2_with (fail)
          go_ret2
          rw [← hT2.out]
          exact ⟨rfl, hB⟩
  · rw [if_neg hok] at hT0
    unfold getOk at hok
    simp only [Bool.and_eq_true, decide_eq_true_eq] at hok
    rw [hsz] at hok
    replace hT0 := Lib.hid hT0
    obtain ⟨r1, r2, r3, r4, r5, r6, hnew, hr6⟩ : ∃ r1 r2 r3 r4 r5 r6, PG.decoder_New.f 40 s = some (r1, r2, r3, r4, r5, r6) ∧ ((r6 = 0 ∧ s.size ≤ 65536) ∨ r6 = 500) := by
      rw [PG.new_f s]
      by_cases c : s.size ≤ 65536
      · rw [if_pos c]; exact ⟨_, _, _, _, _, _, rfl, .inl ⟨rfl, c⟩⟩
      · rw [if_neg c]; exact ⟨_, _, _, _, _, _, rfl, .inr rfl⟩
    have HN := Lib.hid hnew
    have hcase : many < 0 ∨ ¬ many < 0 ∧ 256 < many ∨ ¬ many < 0 ∧ ¬ 256 < many ∧ r6 = 500 := by
      rcases hr6 with ⟨q1, q2⟩ | q1
      · omega
      · omega
    clear hnew hr6 hok hsz
    rcases hcase with c | ⟨c, c2⟩ | ⟨c, c2, rfl⟩
    all_goals
      first | have d1 : decide (many < 0) = true := decide_eq_true c | have d1 : decide (many < 0) = false := decide_eq_false c
      try have d2 : decide (256 < many) = true := decide_eq_true c2
      try have d2 : decide (256 < many) = false := decide_eq_false c2
      clear c
      go_enter Tryz.func16, Tryz.ntmps16
      go_wp2_with (fail)
      refine (PG.decoder_New.calls 40 s r1 r2 r3 r4 r5 _ _ HN.out).mono ?_
      rintro e w1 ⟨rfl, hb⟩
      have hX := L.BC.new w1 [.int .i64 0, .int .i64 0, .int .i64 0, .string ⟨#[]⟩, .int .i64 0] 87
      have n0 := L.BC.at_ hX (o := 0) rfl; have n1 := L.BC.at_ hX (o := 1) rfl; have n2 := L.BC.at_ hX (o := 2) rfl; have n3 := L.BC.at_ hX (o := 3) rfl; have n4 := L.BC.at_ hX (o := 4) rfl
      have m0 := L.BC.frozen hX 0; have m1 := L.BC.frozen hX 1; have m2 := L.BC.frozen hX 2; have m3 := L.BC.frozen hX 3; have m4 := L.BC.frozen hX 4
      have hB := L.below_alloc hb (.cells #[.int .i64 r1, .int .i64 r2, .int .i64 r3, .string r4, .int .i64 r5] 87)
      go_wp2_with (fail)
      go_ret2
      rw [← hT0.out]
      exact ⟨rfl, hB⟩
end Go.Proofs.YtiokfaiioealdaaGreatDoor
/- What the laws ask of residual's texts; no program in sight, but SameInts. -/
namespace Go.Proofs.YtiokfaiioealdaaGreatDoor.PG
open Go.Proofs.YtiokfaiioealdaaGreatDoor.L Go.Proofs.YtiokfaiioealdaaGreatDoorW.PrintWords
set_option linter.unusedVariables false
set_option linter.unusedSimpArgs false
theorem same_l0 (l m : List Int) (hl : l.length ≤ 9223372036854775806) (hm : l.length = m.length) : ∀ (d i k : Nat), i + d = l.length → d < k → descantlaw0_SameInts.l0 k l m (i : Int) = some (decide (l.drop i = m.drop i)) := by
  intro d
  induction d with
  | zero =>
    intro i k hi hk
    obtain ⟨k, rfl⟩ : ∃ m, k = m + 1 := ⟨k - 1, by omega⟩
    simp only [descantlaw0_SameInts.l0]
    rw [if_neg (by omega), List.drop_eq_nil_of_le (by omega), List.drop_eq_nil_of_le (by omega)]
    simp
  | succ d ih =>
    intro i k hi hk
    obtain ⟨k, rfl⟩ : ∃ m, k = m + 1 := ⟨k - 1, by omega⟩
    simp only [descantlaw0_SameInts.l0]
    have e1 : l[i]'(by omega) = rd l (i : Int) := by have := rd_at l i (by omega); rw [List.getElem?_eq_getElem (by omega)] at this; exact Option.some.inj this
    have e2 : m[i]'(by omega) = rd m (i : Int) := by have := rd_at m i (by omega); rw [List.getElem?_eq_getElem (by omega)] at this; exact Option.some.inj this
    rw [if_pos (by omega), if_pos (by omega), if_pos (by omega), List.drop_eq_getElem_cons (show i < l.length by omega), List.drop_eq_getElem_cons (show i < m.length by omega), e1, e2]
    by_cases h1 : rd l (i : Int) = rd m (i : Int)
    · rw [if_pos h1, w64 (by omega), show (i : Int) + 1 = ((i + 1 : Nat) : Int) by omega, ih (i + 1) k (by omega) (by omega), h1]
      simp
    · rw [if_neg h1]; simp [h1]
theorem same_f (l m : List Int) (hl : l.length ≤ 9223372036854775806) (k : Nat) (hk : l.length < k) : descantlaw0_SameInts.f k l m = some (decide (l = m)) := by
  unfold descantlaw0_SameInts.f
  by_cases h : (l.length : Int) = (m.length : Int)
  · rw [if_pos h, show (0 : Int) = ((0 : Nat) : Int) from rfl, same_l0 l m hl (by omega) l.length 0 k (by omega) hk]; simp
  · rw [if_neg h]; simp; rintro rfl; exact h rfl
end Go.Proofs.YtiokfaiioealdaaGreatDoor.PG
namespace Go.Proofs.YtiokfaiioealdaaGreatDoor
open Go.RowKit Go.Proofs.YtiokfaiioealdaaGreatDoorW.PrintWords Go.Proofs.YtiokfaiioealdaaGreatDoor.L
set_option linter.unusedVariables false
set_option linter.unusedSimpArgs false
set_option maxRecDepth 100000
def awR : List Int := [0, -1, 5, 1000, 0]
theorem aw_put : putOk awR = true := by decide +kernel
theorem aw_s : putS mdot lR newM awR = [174, 147, 48, 211, 196, 17, 201] := by decide +kernel
theorem aw_x : getS mdot lR newM [174, 147, 48, 211, 196, 17, 201, 120] 5 = none := by decide +kernel
theorem aw_4 : getS mdot lR newM [174, 147, 48, 211, 196, 17, 201] 4 = none := by decide +kernel
theorem aw_no : putOk [16777217] = false := by decide +kernel
theorem mdotP (M : List Int) (x y z : Int) : 1 ≤ mdot M x y z ∧ mdot M x y z ≤ 4095 := mdot_in M x y z
theorem put_back {rs : List Int} (h : putOk rs = true) : getS mdot lR newM (putS mdot lR newM rs) rs.length = some rs := put_get mdotP h
theorem put_inj {xs ys : List Int} (hx : putOk xs = true) (hy : putOk ys = true) (hl : xs.length = ys.length) (h : putS mdot lR newM xs = putS mdot lR newM ys) : xs = ys := by
  have h1 := put_back hx
  have h2 := put_back hy
  rw [h, hl, h2] at h1
  exact (Option.some.inj h1).symm
theorem putS_min (rs : List Int) : 4 ≤ (putS mdot lR newM rs).length := by unfold putS encE; simp
theorem putS_max {rs : List Int} (h : putOk rs = true) : (putS mdot lR newM rs).length ≤ 52228 := by
  unfold putOk at h
  simp only [Bool.and_eq_true, decide_eq_true_eq] at h
  have := (putNums_len (P := mdot) (L := lR) rs (⟨newM, 0, []⟩, enc0) h.2).2
  simp only [show enc0.out.length = 0 from rfl] at this
  unfold putS encE
  simp only [List.length_append, List.length_cons, List.length_nil]
  omega
theorem putNum_len (x : Int) (a : St × Enc) : a.2.out.length ≤ (putNum mdot lR x a).2.out.length := (putBits_len (P := mdot) (L := lR) (gBits (fld x)) a).1
theorem putS_more (rs : List Int) (x : Int) : (putS mdot lR newM rs).length ≤ (putS mdot lR newM (rs ++ [x])).length := by
  unfold putS encE
  rw [putNums_append]
  have := putNum_len x (putNums mdot lR rs (⟨newM, 0, []⟩, enc0))
  simp only [List.length_append, List.length_cons, List.length_nil, putNums]
  omega
theorem getS_nil (many : Int) : getS mdot lR newM [] many = none := by
  cases h : getS mdot lR newM [] many with
  | none => rfl
  | some rs =>
    have := (get_put h).2
    have h4 := putS_min rs
    rw [this] at h4
    exact absurd h4 (by decide)
theorem getS_many {s : List UInt8} {many : Int} (h : many < 0 ∨ 256 < many) : getS mdot lR newM s many = none := by
  unfold getS getOk
  rw [if_neg]
  simp only [Bool.and_eq_true, decide_eq_true_eq]
  omega
theorem getS_long {s : List UInt8} {many : Int} (h : 65536 < s.length) : getS mdot lR newM s many = none := by
  unfold getS getOk
  rw [if_neg]
  simp only [Bool.and_eq_true, decide_eq_true_eq]
  omega
theorem getS_cut {rs : List Int} {k : Nat} {many : Int} (hk : k < (putS mdot lR newM rs).length) : getS mdot lR newM ((putS mdot lR newM rs).take k) many ≠ some rs := by
  intro h
  have := congrArg List.length (get_put h).2
  rw [List.length_take] at this
  omega
theorem putOk_snoc (rs : List Int) (x : Int) : putOk (rs ++ [x]) = (decide (rs.length < 256) && (putOk rs && numOk x)) := by
  unfold putOk
  rw [List.length_append, List.length_singleton, List.all_append]
  simp only [List.all_cons, List.all_nil, Bool.and_true]
  by_cases h : rs.length < 256
  · rw [decide_eq_true h, decide_eq_true (show rs.length + 1 ≤ 256 by omega), decide_eq_true (show rs.length ≤ 256 by omega)]; simp
  · rw [decide_eq_false h, decide_eq_false (show ¬ rs.length + 1 ≤ 256 by omega)]; simp
theorem putS_nil : putS mdot lR newM [] = [0, 0, 0, 0] := by decide +kernel
theorem put_nil : putOk [] = true := by decide
theorem put_123 : putOk [1, 2, 3] = true := by decide
theorem put_zero {k : Nat} (h : k ≤ 256) : putOk (List.replicate k 0) = true := by
  unfold putOk
  rw [List.length_replicate, decide_eq_true h, Bool.true_and, List.all_eq_true]
  intro x hx
  rw [(List.mem_replicate.1 hx).2]; decide
end Go.Proofs.YtiokfaiioealdaaGreatDoor
/- What every program answers that is one (chapter 13); walked. -/
namespace Go.Proofs.YtiokfaiioealdaaGreatDoor
open Go.RowKit Go.Proofs.YtiokfaiioealdaaGreatDoorW.PrintWords Go.Proofs.YtiokfaiioealdaaGreatDoorW.PrintLast Go.Proofs.YtiokfaiioealdaaGreatDoorW.PrintMore Go.Proofs.YtiokfaiioealdaaGreatDoor.L
set_option linter.unusedVariables false
set_option linter.unusedSimpArgs false
theorem same_any (A0 : Option Addr) (c0 n : Nat) (l0 : List Int) (A1 : Option Addr) (c1 m : Nat) (l1 : List Int) (w : World) (hn : l0.length = n) (hm : l1.length = m) (hr0 : Kd.C (Kd.int .i64) w A0 n l0) (hc0 : n ≤ c0) (hr1 : Kd.C (Kd.int .i64) w A1 m l1) (hc1 : m ≤ c1) (hl : n ≤ 9223372036854775806) :
    Calls Tryz.prog 19 #[.slice A0 n c0, .slice A1 m c1] w fun e w' => e = .returned (.bool (decide (l0 = l1))) ∧ ∃ k, w' = w.drewN k := by
  subst hn hm
  refine (PG.descantlaw0_SameInts.calls (l0.length + 1) A0 c0 l0 A1 c1 l1 _ w hr0 hc0 hr1 hc1 (PG.same_f l0 l1 hl _ (by omega))).mono fun e w' h => ⟨h.1, h.2.out⟩
theorem rput_yes {rs : List Int} (A : Option Addr) (cap : Nat) (w : World) (ht : Tab w) (hC : Kd.C (Kd.int .i64) w A rs.length rs) (hc : rs.length ≤ cap) (h : putOk rs = true) (t : ByteArray) (htt : (⟨(putS mdot lR newM rs).toArray⟩ : ByteArray) = t) :
    Calls Tryz.prog 14 #[.slice A rs.length cap] w fun e w' => e = .returned (.tuple #[.string t, .int .i64 0]) ∧ Below w.heap.size w w' := by
  have := rput_any rs A cap w ht hC hc
  rw [if_pos h, if_pos h, htt] at this
  exact this
theorem rput_no {rs : List Int} (A : Option Addr) (cap : Nat) (w : World) (ht : Tab w) (hC : Kd.C (Kd.int .i64) w A rs.length rs) (hc : rs.length ≤ cap) (h : putOk rs = false) :
    Calls Tryz.prog 14 #[.slice A rs.length cap] w fun e w' => e = .returned (.tuple #[.string ⟨#[]⟩, .int .i64 1300]) ∧ Below w.heap.size w w' := by
  have := rput_any rs A cap w ht hC hc
  rw [h] at this
  exact this
theorem rget_yes (s : ByteArray) (many : Int) (rs : List Int) (w : World) (ht : Tab w) (h : getS mdot lR newM s.data.toList many = some rs) :
    Calls Tryz.prog 16 #[.string s, .int .i64 many] w fun e w' => ∃ v, e = .returned (.tuple #[v, .int .i64 0]) ∧ Kd.R (Kd.int .i64) 3 w' w.heap.size (fun _ => True) v rs ∧ Below w.heap.size w w' := by
  have := rget_any s many w ht
  rw [h] at this
  exact this
theorem rget_no (s : ByteArray) (many : Int) (w : World) (ht : Tab w) (h : getS mdot lR newM s.data.toList many = none) :
    Calls Tryz.prog 16 #[.string s, .int .i64 many] w fun e w' => e = .returned (.tuple #[.slice none 0 0, .int .i64 1300]) ∧ Below w.heap.size w w' := by
  have := rget_any s many w ht
  rw [h] at this
  exact this
set_option maxHeartbeats 8000000 in
set_option maxRecDepth 100000 in
theorem awake13 (w : World) (ht : Tab w) : Calls Tryz.prog 22 #[] w fun e w' => e = .returned (.bool true) ∧ Below w.heap.size w w' := by
  have ht0 := Lib.hid ht
  clear ht
  obtain ⟨t, htt⟩ : ∃ t : ByteArray, (⟨(putS mdot lR newM awR).toArray⟩ : ByteArray) = t := ⟨_, rfl⟩
  have htl : t.data.toList = [174, 147, 48, 211, 196, 17, 201] := by rw [← htt, aw_s]
  have hts : t.size = 7 := by rw [← ByteArray.size_data, ← Array.length_toList, htl]; rfl
  have hsz : (9223372036854775807 < t.size + 1) = False := eq_false (by omega)
  have hsz2 : (t.size + 1 ≤ 9223372036854775807) = True := eq_true (by omega)
  replace htt := Lib.hid htt
  replace htl := Lib.hid htl
  replace hts := Lib.hid hts
  go_enter Tryz.func22, Tryz.ntmps22
  -- FROM HERE printed by gen_resh.py
  have hB0 := Below.refl w.heap.size w
  -- FROM HERE printed by gen_resh.py
  -- FROM HERE printed by gen_resh.py
  -- FROM HERE printed by gen_resh.py
  go_wp2_with (first | ((with_reducible refine gate_dst (N := 12) rfl ?_); refine Kd.R_lit (Kd.int .i64) (w0 := w) (w).heap.size 3 ?hg (N := 12) ?hd (xs := (awR : List Int)) (inner := [.int .i64 (0), .int .i64 (-1), .int .i64 (5), .int .i64 (1000), .int .i64 (0)]) (ok := fun _ => True) (okp := fun _ => True) ?hr ?hp (fun _ hk => hk) trivial (Below.refl _ _) (Nat.le_refl _) (by decide) ?_; (case hd => rfl); (case hg => rfl); (case hr => first | (go_simp; done) | (go_simp; rfl)); (case hp => exact (Reps.one (show Kd.M (Kd.int .i64) _ _ _ (0) [.int .i64 (0)] from rfl) (Reps.one (show Kd.M (Kd.int .i64) _ _ _ (-1) [.int .i64 (-1)] from rfl) (Reps.one (show Kd.M (Kd.int .i64) _ _ _ (5) [.int .i64 (5)] from rfl) (Reps.one (show Kd.M (Kd.int .i64) _ _ _ (1000) [.int .i64 (1000)] from rfl) (Reps.one (show Kd.M (Kd.int .i64) _ _ _ (0) [.int .i64 (0)] from rfl) (Reps.none _ _))))))); intro v12 w1 hR hb hgr_ hnew_; clear hgr_ hnew_; obtain ⟨A, cA, e_⟩ := Kd.R_slice hR; subst e_))
  refine (rput_yes A cA w1 (ht0.out.below hb) (Kd.R_reads' hR).2.2 (Kd.R_reads' hR).2.1 aw_put t htt.out).mono ?_
  rintro e w2 ⟨rfl, hb2⟩
  replace hb := below_next hb hb2
  replace hR := Kd.R_below hR hb2
  clear hb2
  go_wp2_with (fail)
  refine (rget_yes t 5 awR w2 (ht0.out.below hb) (by rw [htl.out, ← aw_s]; exact put_back aw_put)).mono ?_
  rintro e w3 ⟨v3, rfl, hR3, hb3⟩
  replace hb := below_next hb hb3
  replace hR := Kd.R_below hR hb3
  obtain ⟨A3, c3, e3⟩ := Kd.R_slice hR3
  subst e3
  clear hb3
  go_wp2_with (first | ((with_reducible refine gate_dst (N := 24) rfl ?_); refine Kd.R_lit (Kd.int .i64) (w0 := w3) (w3).heap.size 3 ?hg (N := 24) ?hd (xs := ([16777217] : List Int)) (inner := [.int .i64 (16777217)]) (ok := fun _ => True) (okp := fun _ => True) ?hr ?hp (fun _ hk => hk) trivial (Below.refl _ _) (Nat.le_refl _) (by decide) ?_; (case hd => rfl); (case hg => rfl); (case hr => first | (go_simp; done) | (go_simp; rfl)); (case hp => exact (Reps.one (show Kd.M (Kd.int .i64) _ _ _ (16777217) [.int .i64 (16777217)] from rfl) (Reps.none _ _))); intro v24 w4 hR4 hb4 hgr_ hnew_; clear hgr_ hnew_; obtain ⟨A4, c4, e_⟩ := Kd.R_slice hR4; subst e_))
  replace hb := below_next hb hb4
  replace hR := Kd.R_below hR hb4
  replace hR3 := Kd.R_below hR3 hb4
  clear hb4
  refine (rput_no A4 c4 w4 (ht0.out.below hb) (Kd.R_reads' hR4).2.2 (Kd.R_reads' hR4).2.1 aw_no).mono ?_
  rintro e w5 ⟨rfl, hb5⟩
  replace hb := below_next hb hb5
  replace hR := Kd.R_below hR hb5
  replace hR3 := Kd.R_below hR3 hb5
  clear hb5 hR4
  have key : ∀ u : ByteArray, u.data.toList = [174, 147, 48, 211, 196, 17, 201, 120] → getS mdot lR newM u.data.toList 5 = none := fun u h => by rw [h]; exact aw_x
  go_wp2_with (fail)
  refine (rget_no _ 5 w5 (ht0.out.below hb) (key _ ?_)).mono ?_
  · rw [ByteArray.data_append, Array.toList_append, htl.out]; rfl
  rintro e w6 ⟨rfl, hb6⟩
  replace hb := below_next hb hb6
  replace hR := Kd.R_below hR hb6
  replace hR3 := Kd.R_below hR3 hb6
  clear hb6
  go_wp2_with (fail)
  refine (rget_no t 4 w6 (ht0.out.below hb) (by rw [htl.out]; exact aw_4)).mono ?_
  rintro e w7 ⟨rfl, hb7⟩
  replace hb := below_next hb hb7
  replace hR := Kd.R_below hR hb7
  replace hR3 := Kd.R_below hR3 hb7
  clear hb7
  have hsame := same_any A3 c3 _ awR A cA _ awR w7 rfl rfl (Kd.R_reads' hR3).2.2 (Kd.R_reads' hR3).2.1 (Kd.R_reads' hR).2.2 (Kd.R_reads' hR).2.1 (by decide)
  rw [decide_eq_true (rfl : awR = awR)] at hsame
  go_wp2_with (first | (go_at_call 18; refine (num_any _ _).mono ?_; rintro e w_ ⟨rfl, rfl⟩) | (go_at_call 19; refine hsame.mono ?_; rintro e w8 ⟨rfl, m8, rfl⟩))
  go_ret
  exact ⟨rfl, L.below_drewN hb m8⟩
end Go.Proofs.YtiokfaiioealdaaGreatDoor
