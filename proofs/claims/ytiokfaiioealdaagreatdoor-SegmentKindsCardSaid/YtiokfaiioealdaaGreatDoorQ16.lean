/- The texts behind the row, joined: MRC PLin NumC WCrcM PSeg PTz. -/
import Derived.Test.YtiokfaiioealdaaGreatDoorQ14
import Derived.Test.YtiokfaiioealdaaGreatDoorQ15
import Derived.Test.YtiokfaiioealdaaGreatDoorProg
import Derived.BigRegion
import Derived.Laws.BitsLemmas
namespace Go.Proofs.YtiokfaiioealdaaGreatDoor
set_option linter.unusedVariables false
set_option linter.unusedSimpArgs false
set_option maxRecDepth 100000
deriving instance DecidableEq for St
deriving instance DecidableEq for Enc
end Go.Proofs.YtiokfaiioealdaaGreatDoor
namespace Go.Proofs.YtiokfaiioealdaaGreatDoor
open Go.RowKit Go.Proofs.YtiokfaiioealdaaGreatDoorW.PrintWords Go.Proofs.YtiokfaiioealdaaGreatDoorW.PrintLast Go.Proofs.YtiokfaiioealdaaGreatDoorW.PrintMore Go.Proofs.YtiokfaiioealdaaGreatDoor.L
set_option linter.unusedVariables false
set_option linter.unusedSimpArgs false
def getPost (w0 w' : World) (e : Ending) : Option (List Int) → Prop
  | some rs => ∃ v, e = .returned (.tuple #[v, .int .i64 0]) ∧ Kd.R (Kd.int .i64) 3 w' w0.heap.size (fun _ => True) v rs ∧ Below w0.heap.size w0 w'
  | none => e = .returned (.tuple #[.slice none 0 0, .int .i64 1300]) ∧ Below w0.heap.size w0 w'
theorem dec0_ok (s : List UInt8) : PG.DOk s dec0 := by
  have := win_in s 0
  exact ⟨by unfold dec0 Ends; decide, this.1, this.2⟩
set_option maxHeartbeats 8000000 in
set_option maxRecDepth 100000 in
theorem rget_any (s : ByteArray) (many : Int) (w : World) (ht : Tab w) : Calls Tryz.prog 16 #[.string s, .int .i64 many] w fun e w' => getPost w w' e (getS mdot lR newM s.data.toList many) := by
  obtain ⟨T0, hT0⟩ : ∃ T0, getS mdot lR newM s.data.toList many = T0 := ⟨_, rfl⟩
  rw [hT0]
  unfold getS at hT0
  have hsz : s.data.toList.length = s.size := by simp
  by_cases hok : getOk s.data.toList many = true
  · rw [if_pos hok] at hT0
    unfold getOk at hok
    simp only [Bool.and_eq_true, decide_eq_true_eq] at hok
    rw [hsz] at hok
    obtain ⟨ho1, ho2, ho3⟩ := hok
    have hnew := PG.new_f s
    rw [if_pos ho1] at hnew
    have hwin : win s.data.toList dec0.i = win s.data.toList 0 := rfl
    obtain ⟨x0, hx0⟩ : ∃ x0, win s.data.toList 0 = x0 := ⟨_, rfl⟩
    rw [hx0] at hnew hwin
    have HN := Lib.hid hnew
    have d1 : decide (many < 0) = false := decide_eq_false (by omega)
    have d2 : decide (256 < many) = false := decide_eq_false (by omega)
    replace hT0 := Lib.hid hT0
    replace hwin := Lib.hid hwin
    clear hnew hx0 hsz
    go_enter Tryz.func16, Tryz.ntmps16
    go_wp2_with (fail)
    refine (PG.decoder_New.calls 40 s 0 4294967295 x0 s 4 0 _ HN.out).mono ?_
    rintro e w1 ⟨rfl, hb⟩
    have hX := L.BC.new w1 [.int .i64 0, .int .i64 0, .int .i64 0, .string ⟨#[]⟩, .int .i64 0] 87
    have n0 := L.BC.at_ hX (o := 0) rfl; have n1 := L.BC.at_ hX (o := 1) rfl; have n2 := L.BC.at_ hX (o := 2) rfl; have n3 := L.BC.at_ hX (o := 3) rfl; have n4 := L.BC.at_ hX (o := 4) rfl
    have m0 := L.BC.frozen hX 0; have m1 := L.BC.frozen hX 1; have m2 := L.BC.frozen hX 2; have m3 := L.BC.frozen hX 3; have m4 := L.BC.frozen hX 4
    go_wp2_with (fail)
    have hX1 := L.BC.new w1 [.int .i64 0, .int .i64 4294967295, .int .i64 x0, .string s, .int .i64 4] 87
    have hB := L.below_alloc hb (.cells #[.int .i64 0, .int .i64 4294967295, .int .i64 x0, .string s, .int .i64 4] 87)
    clear n0 n1 n2 n3 n4 m0 m1 m2 m3 m4 hX hb
    replace hX1 := L.BC.drew hX1
    replace hB := L.below_drew hB
    refine start_ (n := 6) (S := fun w' => L.BC w' w1.heap.size 87 [.int .i64 0, .int .i64 4294967295, .int .i64 x0, .string s, .int .i64 4]) (ds := [4]) #[false, false, false, false, false, false] (by kernel_rfl) rfl rfl hX1 (fun hHeld => ?_)
    generalize (w1.alloc (.cells #[.int .i64 0, .int .i64 4294967295, .int .i64 x0, .string s, .int .i64 4] 87)).drew = w2 at hX1 hB hHeld ⊢
    generalize w1.heap.size = gd at *
    refine take_ (i := 2) (N := (some 32)) (v := .agg #[.int .i64 0, .int .i64 4294967295, .int .i64 x0, .string s, .int .i64 4]) (a' := ?_) #[false, false, true, false, false, false] rfl rfl (by kernel_rfl) (fun _ _ _ h => h) (Or.inl ⟨by rfl, fun w' hS => L.loads 87 (.tmp 6) gd [.int .i64 0, .int .i64 4294967295, .int .i64 x0, .string s, .int .i64 4] _ (by rfl) (by rfl) Tryz.underlying87 rfl info56 w' (id hS)⟩) hHeld ?_ ?_
    rotate_left
    · simp only [Act.put, List.setIfInBounds_toArray, List.set_cons_zero, List.set_cons_succ, i64_w, i32_w]
      rfl
    refine one_ (i := 0) (N := (some 30)) #[true, false, true, false, false, false] rfl rfl (by kernel_rfl) (by decide) (fun K hK => ?_)
    refine goes_ Tryz.func34 (by kernel_rfl) rfl #[] (by rfl) rfl rfl (by (try simp only [List.map_toArray, List.map_cons, List.map_nil]); first | done | rfl) ?_
    refine (model_new _).mono ?_
    rintro e w3 ⟨rfl, hb⟩
    refine ⟨_, rfl, ?_⟩
    replace hX1 := L.BC.below hX1 hb
    replace hB := below_next hB hb
    clear hHeld hb
    refine hK.out _ _ hX1 (fun hHeld => ?_)
    clear hK K
    refine norm_ (a' := ?_) ?_ ?_
    rotate_left
    · show Act.put _ (some 30) _ = _
      simp only [Act.put, List.setIfInBounds_toArray, List.set_cons_zero, List.set_cons_succ, i64_w, i32_w]
      rfl
    refine pure_ (i := 1) (N := (some 31)) (v := .agg (stc newM 0 (.slice none 0 0) []).toArray) (a' := ?_) #[true, true, true, false, false, false] rfl rfl (by kernel_rfl) (fun _ _ _ h => h) (Or.inl ⟨by rfl, fun w' => by kernel_rfl⟩) ?_ ?_
    rotate_left
    · simp only [Act.put, List.setIfInBounds_toArray, List.set_cons_zero, List.set_cons_succ, i64_w, i32_w]
      rfl
    refine pure_ (i := 3) (N := (some 33)) (v := .agg (stc newM 0 (.slice none 0 0) [.int .i64 0, .int .i64 4294967295, .int .i64 x0, .string s, .int .i64 4]).toArray) (a' := ?_) #[true, true, true, true, false, false] rfl rfl (by kernel_rfl) (fun _ _ _ h => h) (Or.inl ⟨by rfl, fun w' => by kernel_rfl⟩) ?_ ?_
    rotate_left
    · simp only [Act.put, List.setIfInBounds_toArray, List.set_cons_zero, List.set_cons_succ, i64_w, i32_w]
      rfl
    refine last_ (i := 4) (N := (some 34)) #[true, true, true, true, true, false] rfl rfl (by kernel_rfl) (by decide) (fun K hK => ?_)
    refine box_step ?hg (N := 34) ?hd (cs := (stc newM 0 (.slice none 0 0) [.int .i64 0, .int .i64 4294967295, .int .i64 x0, .string s, .int .i64 4]).toArray) (t := 92) ?hr ?_; (case hd => rfl); (case hg => rfl); (case hr => first | (go_simp; done) | (go_simp; rfl))
    intro g hg w4 hbox hb4
    have hI : L.BC w4 g 92 (stc newM 0 (.slice none 0 0) [.int .i64 0, .int .i64 4294967295, .int .i64 x0, .string s, .int .i64 4]) := ⟨hbox⟩
    have hgw : w.heap.size ≤ g := hg ▸ hB.size
    replace hB := below_next hB hb4
    have hgt : 3 ≠ g := Nat.ne_of_lt (Nat.lt_of_lt_of_le ht.lt hgw)
    clear hbox hb4 hX1 hg hHeld
    refine hK.out _ _ ?_
    clear hK K
    refine norm_ (a' := ?_) ?_ ?_
    rotate_left
    · show Act.put _ (some 34) _ = _
      simp only [Act.put, List.setIfInBounds_toArray, List.set_cons_zero, List.set_cons_succ, i64_w, i32_w]
      rfl
    refine pure_ (i := 5) (N := (some 8)) (v := ?_) (a' := ?_) #[true, true, true, true, true, true] rfl rfl (by kernel_rfl) (fun _ _ _ h => h) (Or.inl ⟨by rfl, ?_⟩) ?_ ?_
    rotate_left
    · intro w'
      go_simp
      with_reducible rfl
    rotate_left
    · simp only [Act.put, List.setIfInBounds_toArray, List.set_cons_zero, List.set_cons_succ, i64_w, i32_w]
      rfl
    refine done_ (by kernel_rfl) ?_
    have hdc : decC s dec0 = [.int .i64 0, .int .i64 4294967295, .int .i64 x0, .string s, .int .i64 4] := by unfold decC; rw [hwin.out]; rfl
    rw [← hdc] at hI
    have hR : Kd.R (Kd.int .i64) 3 w4 w.heap.size (fun _ => True) (.slice none 0 0) ([] : List Int) := Kd.R_nil _ _ _ _ _
    have hN := L.But.of_below hB g
    have ht0 := Lib.hid ht
    clear hB ht hdc
    generalize (stc newM 0 (.slice none 0 0) []).toArray = z1
    generalize (stc newM 0 (.slice none 0 0) [.int .i64 0, .int .i64 4294967295, .int .i64 x0, .string s, .int .i64 4]).toArray = z2
    generalize (ints newM).toArray = z3
    go_wp2_with (fail)
    obtain ⟨U, hU⟩ : ∃ U, takeAll mdot lR s.data.toList many.toNat (⟨newM, 0, []⟩, dec0) [] = U := ⟨_, rfl⟩
    have hT1 := hT0.out
    rw [hU] at hT1
    replace hT1 := Lib.hid hT1
    replace hU := Lib.hid hU
    clear hT0 hwin
    go_loopg [10, 38] many.toNat (fun kq v10 v38 W => ∃ (out : List Int) (S2 : St) (D2 : Dec), v38 = .int .i64 (out.length : Int) ∧ out.length + kq = many.toNat ∧ takeAll mdot lR s.data.toList kq (S2, D2) out = U ∧ SIn S2 ∧ S2.bits = [] ∧ PG.DOk s.data.toList D2 ∧ D2.i ≤ 65540 ∧ L.BC W g 92 (stc S2.M S2.before (.slice none 0 0) (decC s D2)) ∧ Kd.R (Kd.int .i64) 3 W w.heap.size (fun _ => True) v10 out ∧ L.But w W g)
    case atStart => exact ⟨[], ⟨newM, 0, []⟩, dec0, rfl, by simp, hU.out, ⟨newM_length, newM_may, by decide, fun b hb => by cases hb⟩, rfl, dec0_ok _, by decide, hI, hR, hN⟩
    case round =>
      clear hI hR hN hU
      obtain ⟨out, S2, D2, rfl, hi, hU, hS, hSb, hd, hDi, hI, hR, hN⟩ := hrel
      have htW := ht0.out.below (hN.low hgw)
      obtain ⟨M, before, bits⟩ := S2
      simp only [] at hSb hI
      subst hSb
      obtain ⟨A, cap, ev⟩ := Kd.R_slice hR
      subst ev
      by_cases c1 : (out.length : Int) < many
      · have c1d : decide ((out.length : Int) < many) = true := decide_eq_true c1
        obtain ⟨n, rfl⟩ : ∃ n, gk = n + 1 := ⟨gk - 1, by omega⟩
        rw [takeAll] at hU
        have hnum := rnum_any wr g M before s D2 htW hS hI hgt ho1 hd hDi
        replace c1 := Lib.hid c1
        cases htn : takeNum mdot lR s.data.toList 60 (⟨M, before, []⟩, D2) with
        | none =>
          rw [htn] at hU hnum
          simp only [] at hU
          replace hU := Lib.hid hU
          replace htn := Lib.hid htn
          go_wp2_with (fail)
          refine hnum.mono ?_
          rintro e w5 ⟨⟨x, rfl⟩, hN5⟩
          go_wp2_with (fail)
          go_ret2
          rw [← hT1.out, ← hU.out]
          exact ⟨rfl, (hN.trans hN5).low hgw⟩
        | some P =>
          obtain ⟨x, S3, D3⟩ := P
          rw [htn] at hU hnum
          simp only [] at hU
          replace hU := Lib.hid hU
          replace htn := Lib.hid htn
          go_wp2_with (fail)
          refine hnum.mono ?_
          rintro e w5 ⟨rfl, hI5, hS5, hb5, hd5, hi5, hN5⟩
          have hR5 := R_but hR hI (ne_ty (by decide)) hN5
          replace hN5 := hN.trans hN5
          clear hnum hI hR hN htW
          obtain ⟨ys, hys⟩ : ∃ ys, out ++ [x] = ys := ⟨_, rfl⟩
          have hyl : (ys.length : Int) = (out.length : Int) + 1 := by rw [← hys, List.length_append, List.length_singleton]; omega
          have wi : IntKind.i64.wrap ((out.length : Int) + 1) = (out.length : Int) + 1 := IntWalk.i64_in _ (by have := c1.out; omega)
          rw [hys] at hU
          replace hys := Lib.hid hys
          replace hyl := Lib.hid hyl
          go_wp2_with (first | ((with_reducible refine gate_builtin (b := .append) (xs := #[.tmp 47, .tmp 49]) rfl ?_); at_builtin; refine Kd.R_append (Kd.int .i64) (w0 := w5) w.heap.size rfl (.tmp 47) (.tmp 49) 22 3 (.int .i64 0) 8 rfl Tryz.underlying22 infoI rfl (by decide) (by omega) (.slice A out.length cap) out x [.int .i64 x] (fun _ => True) (fun _ => False) rfl rfl ?aP (fun _ hk => hk.elim) ?aF ?aO ?aB ?aS ?aL ?_; (case aP => exact rfl); (case aB => exact Below.refl _ _); (case aF => exact (fun _ _ => trivial)); (case aO => exact hR5); (case aS => exact hN5.size); (case aL => omega); intro v26 w6 hR6 hB6 hgr hat; rw [hys.out] at hR6; obtain ⟨A6, n6, e6⟩ := Kd.R_slice hR6; subst e6; have hI6 := bc_grown hI5 hgr (Kd.R_ne hR5 hI5.blk (by decide)); have hN6 := but_low hN5 hB6; clear hR5 hI5 hN5 hB6 hgr hat))
          go_roundg n
          case measure => omega
          case rel =>
            obtain ⟨M3, before3, bits3⟩ := S3
            simp only [] at hb5
            subst hb5
            exact ⟨ys, ⟨M3, before3, []⟩, D3, by rw [hyl.out], by have := hyl.out; omega, hU.out, hS5, rfl, hd5, hi5, hI6, hR6, hN6⟩
      · have c1d : decide ((out.length : Int) < many) = false := decide_eq_false c1
        have hk0 : gk = 0 := by omega
        subst hk0
        rw [takeAll] at hU
        have hT2 := hT1.out
        rw [← hU] at hT2
        simp only [] at hT2
        clear hT1 hU
        have hput := rput_any out A cap wr htW (Kd.R_reads' hR).2.2 (Kd.R_reads' hR).2.1
        have hB := hN.low hgw
        by_cases hp : putOk out = true
        · rw [if_pos hp, if_pos hp] at hput
          obtain ⟨t, ht⟩ : ∃ t : ByteArray, (⟨(putS mdot lR newM out).toArray⟩ : ByteArray) = t := ⟨_, rfl⟩
          rw [ht] at hput
          by_cases hq : putS mdot lR newM out = s.data.toList
          · rw [if_pos ⟨hp, hq⟩] at hT2
            have hts : t = s := by rw [← ht, hq]
            clear ht hq
            subst hts
            replace hT2 := Lib.hid hT2
            replace hp := Lib.hid hp
            go_wp2_with (fail)
            refine hput.mono ?_
            rintro e w5 ⟨rfl, hb5⟩
            replace hR := Kd.R_below hR hb5
            replace hB := below_next hB hb5
            go_wp2_with (fail)
            go_ret2
            rw [← hT2.out]
            exact ⟨_, rfl, hR, hB⟩
          · rw [if_neg (fun h => hq h.2)] at hT2
            have hts : ¬ t = s := by intro h; apply hq; rw [← h, ← ht]
            clear ht hq
            have h1 : (t.toList == s.toList) = false := by rw [Go.ByteArray.toList_eq, Go.ByteArray.toList_eq]; exact beq_eq_false_iff_ne.2 fun h => hts (ByteArray.ext (Array.toList_inj.1 h))
            replace hT2 := Lib.hid hT2
            replace hp := Lib.hid hp
            go_wp2_with (fail)
            refine hput.mono ?_
            rintro e w5 ⟨rfl, hb5⟩
            replace hB := below_next hB hb5
            go_wp2_with (fail)
            go_ret2
            rw [← hT2.out]
            exact ⟨rfl, hB⟩
        · rw [if_neg hp, if_neg hp] at hput
          rw [if_neg (fun h => hp h.1)] at hT2
          replace hT2 := Lib.hid hT2
          replace hp := Lib.hid hp
          go_wp2_with (fail)
          refine hput.mono ?_
          rintro e w5 ⟨rfl, hb5⟩
          replace hB := below_next hB hb5
          go_wp2_with (fail)
          go_ret2
          rw [← hT2.out]
          exact ⟨rfl, hB⟩
  · rw [if_neg hok] at hT0
    unfold getOk at hok
    simp only [Bool.and_eq_true, decide_eq_true_eq] at hok
    rw [hsz] at hok
    replace hT0 := Lib.hid hT0
    obtain ⟨r1, r2, r3, r4, r5, r6, hnew, hr6⟩ : ∃ r1 r2 r3 r4 r5 r6, PG.decoder_New.f 40 s = some (r1, r2, r3, r4, r5, r6) ∧ ((r6 = 0 ∧ s.size ≤ 65536) ∨ r6 = 500) := by
      rw [PG.new_f s]
      by_cases c : s.size ≤ 65536
      · rw [if_pos c]; exact ⟨_, _, _, _, _, _, rfl, .inl ⟨rfl, c⟩⟩
      · rw [if_neg c]; exact ⟨_, _, _, _, _, _, rfl, .inr rfl⟩
    have HN := Lib.hid hnew
    have hcase : many < 0 ∨ ¬ many < 0 ∧ 256 < many ∨ ¬ many < 0 ∧ ¬ 256 < many ∧ r6 = 500 := by
      rcases hr6 with ⟨q1, q2⟩ | q1
      · omega
      · omega
    clear hnew hr6 hok hsz
    rcases hcase with c | ⟨c, c2⟩ | ⟨c, c2, rfl⟩
    all_goals
      first | have d1 : decide (many < 0) = true := decide_eq_true c | have d1 : decide (many < 0) = false := decide_eq_false c
      try have d2 : decide (256 < many) = true := decide_eq_true c2
      try have d2 : decide (256 < many) = false := decide_eq_false c2
      clear c
      go_enter Tryz.func16, Tryz.ntmps16
      go_wp2_with (fail)
      refine (PG.decoder_New.calls 40 s r1 r2 r3 r4 r5 _ _ HN.out).mono ?_
      rintro e w1 ⟨rfl, hb⟩
      have hX := L.BC.new w1 [.int .i64 0, .int .i64 0, .int .i64 0, .string ⟨#[]⟩, .int .i64 0] 87
      have n0 := L.BC.at_ hX (o := 0) rfl; have n1 := L.BC.at_ hX (o := 1) rfl; have n2 := L.BC.at_ hX (o := 2) rfl; have n3 := L.BC.at_ hX (o := 3) rfl; have n4 := L.BC.at_ hX (o := 4) rfl
      have m0 := L.BC.frozen hX 0; have m1 := L.BC.frozen hX 1; have m2 := L.BC.frozen hX 2; have m3 := L.BC.frozen hX 3; have m4 := L.BC.frozen hX 4
      have hB := L.below_alloc hb (.cells #[.int .i64 r1, .int .i64 r2, .int .i64 r3, .string r4, .int .i64 r5] 87)
      go_wp2_with (fail)
      go_ret2
      rw [← hT0.out]
      exact ⟨rfl, hB⟩
end Go.Proofs.YtiokfaiioealdaaGreatDoor
namespace Go.Proofs.YtiokfaiioealdaaGreatDoor.PG
open Go.Proofs.YtiokfaiioealdaaGreatDoor.L Go.Proofs.YtiokfaiioealdaaGreatDoorW.PrintWords
set_option linter.unusedVariables false
set_option linter.unusedSimpArgs false
end Go.Proofs.YtiokfaiioealdaaGreatDoor.PG
namespace Go.Proofs.YtiokfaiioealdaaGreatDoor
open Go.RowKit Go.Proofs.YtiokfaiioealdaaGreatDoorW.PrintWords Go.Proofs.YtiokfaiioealdaaGreatDoor.L
set_option linter.unusedVariables false
set_option linter.unusedSimpArgs false
set_option maxRecDepth 100000
theorem mdotP (M : List Int) (x y z : Int) : 1 ≤ mdot M x y z ∧ mdot M x y z ≤ 4095 := mdot_in M x y z
theorem put_back {rs : List Int} (h : putOk rs = true) : getS mdot lR newM (putS mdot lR newM rs) rs.length = some rs := put_get mdotP h
end Go.Proofs.YtiokfaiioealdaaGreatDoor
namespace Go.Proofs.YtiokfaiioealdaaGreatDoor
open Go.RowKit Go.Proofs.YtiokfaiioealdaaGreatDoorW.PrintWords Go.Proofs.YtiokfaiioealdaaGreatDoorW.PrintLast Go.Proofs.YtiokfaiioealdaaGreatDoorW.PrintMore Go.Proofs.YtiokfaiioealdaaGreatDoor.L
set_option linter.unusedVariables false
set_option linter.unusedSimpArgs false
theorem rput_yes {rs : List Int} (A : Option Addr) (cap : Nat) (w : World) (ht : Tab w) (hC : Kd.C (Kd.int .i64) w A rs.length rs) (hc : rs.length ≤ cap) (h : putOk rs = true) (t : ByteArray) (htt : (⟨(putS mdot lR newM rs).toArray⟩ : ByteArray) = t) :
    Calls Tryz.prog 14 #[.slice A rs.length cap] w fun e w' => e = .returned (.tuple #[.string t, .int .i64 0]) ∧ Below w.heap.size w w' := by
  have := rput_any rs A cap w ht hC hc
  rw [if_pos h, if_pos h, htt] at this
  exact this
theorem rget_yes (s : ByteArray) (many : Int) (rs : List Int) (w : World) (ht : Tab w) (h : getS mdot lR newM s.data.toList many = some rs) :
    Calls Tryz.prog 16 #[.string s, .int .i64 many] w fun e w' => ∃ v, e = .returned (.tuple #[v, .int .i64 0]) ∧ Kd.R (Kd.int .i64) 3 w' w.heap.size (fun _ => True) v rs ∧ Below w.heap.size w w' := by
  have := rget_any s many w ht
  rw [h] at this
  exact this
theorem rget_no (s : ByteArray) (many : Int) (w : World) (ht : Tab w) (h : getS mdot lR newM s.data.toList many = none) :
    Calls Tryz.prog 16 #[.string s, .int .i64 many] w fun e w' => e = .returned (.tuple #[.slice none 0 0, .int .i64 1300]) ∧ Below w.heap.size w w' := by
  have := rget_any s many w ht
  rw [h] at this
  exact this
end Go.Proofs.YtiokfaiioealdaaGreatDoor
namespace Go.Proofs.YtiokfaiioealdaaGreatDoor
set_option linter.unusedVariables false
set_option linter.unusedSimpArgs false
def bnd (x m : Int) : Int := min (max x (-m)) m
def sgn (x : Int) : Int := if 0 < x then 1 else if x < 0 then -1 else 0
structure Lm where
  ws : List Int
  hs : List Int
structure Ch where
  last : Int
  a : Lm
  b : Lm
def ldot : List Int → List Int → Int
  | w :: ws, h :: hs => w * h + ldot ws hs
  | _, _ => 0
def lmG (l : Lm) : Int := bnd (ldot l.ws l.hs / 4096) 1048576
def lmL (l : Lm) (x : Int) : Lm := ⟨List.zipWith (fun w h => bnd (w + 16 * sgn (x - lmG l) * sgn h) 1048576) l.ws l.hs, x :: l.hs.take 7⟩
def chG (c : Ch) : Int := c.last + lmG c.a + lmG c.b
def chL (c : Ch) (x : Int) : Ch := ⟨x, lmL c.a (x - c.last), lmL c.b (x - c.last - lmG c.a)⟩
def lm0 : Lm := ⟨[0, 0, 0, 0, 0, 0, 0, 0], [0, 0, 0, 0, 0, 0, 0, 0]⟩
def ch0 : Ch := ⟨0, lm0, lm0⟩
def ins (m x : Int) : Bool := decide (-m ≤ x) && decide (x ≤ m)
def smpOk (x : Int) : Bool := ins 131072 x
theorem ins_iff {m x : Int} : ins m x = true ↔ -m ≤ x ∧ x ≤ m := by unfold ins; rw [Bool.and_eq_true, decide_eq_true_eq, decide_eq_true_eq]
theorem bnd_in {x m : Int} (h : 0 ≤ m) : -m ≤ bnd x m ∧ bnd x m ≤ m := by unfold bnd; omega
structure LmOk (l : Lm) : Prop where
  wl : l.ws.length = 8
  hl : l.hs.length = 8
  wb : ∀ x ∈ l.ws, ins 1048576 x = true
  hb : ∀ x ∈ l.hs, ins 4194304 x = true
structure ChOk (c : Ch) : Prop where
  last : smpOk c.last = true
  a : LmOk c.a
  b : LmOk c.b
theorem lmG_in (l : Lm) : -1048576 ≤ lmG l ∧ lmG l ≤ 1048576 := bnd_in (by decide)
theorem lm0_ok : LmOk lm0 := ⟨rfl, rfl, by decide, by decide⟩
theorem ch0_ok : ChOk ch0 := ⟨rfl, lm0_ok, lm0_ok⟩
theorem lmL_ok {l : Lm} {x : Int} (h : LmOk l) (hx : ins 4194304 x = true) : LmOk (lmL l x) := by
  refine ⟨?_, ?_, ?_, ?_⟩
  · show (List.zipWith _ l.ws l.hs).length = 8
    rw [List.length_zipWith, h.wl, h.hl]; rfl
  · show (x :: l.hs.take 7).length = 8
    rw [List.length_cons, List.length_take, h.hl]; rfl
  · intro y hy
    obtain ⟨w, v, -, -, rfl⟩ : ∃ w v, w ∈ l.ws ∧ v ∈ l.hs ∧ bnd (w + 16 * sgn (x - lmG l) * sgn v) 1048576 = y := by
      have hy : y ∈ List.zipWith (fun w h => bnd (w + 16 * sgn (x - lmG l) * sgn h) 1048576) l.ws l.hs := hy
      obtain ⟨i, hi, rfl⟩ := List.mem_iff_getElem.1 hy
      rw [List.length_zipWith] at hi
      exact ⟨l.ws[i]'(by omega), l.hs[i]'(by omega), List.getElem_mem _, List.getElem_mem _, by rw [List.getElem_zipWith]⟩
    exact ins_iff.2 (bnd_in (by decide))
  · intro y hy
    have hy : y ∈ x :: l.hs.take 7 := hy
    rcases List.mem_cons.1 hy with rfl | hy
    · exact hx
    · exact h.hb y (List.mem_of_mem_take hy)
theorem chL_ok {c : Ch} {x : Int} (h : ChOk c) (hx : smpOk x = true) : ChOk (chL c x) := by
  have h1 := ins_iff.1 hx
  have h2 := ins_iff.1 h.last
  have h3 := lmG_in c.a
  exact ⟨hx, lmL_ok h.a (ins_iff.2 (by omega)), lmL_ok h.b (ins_iff.2 (by omega))⟩
theorem chG_in {c : Ch} (h : ChOk c) : -2228224 ≤ chG c ∧ chG c ≤ 2228224 := by
  have h2 := ins_iff.1 h.last
  have h3 := lmG_in c.a
  have h4 := lmG_in c.b
  unfold chG; omega
def lineP : Ch → List Int → List Int
  | _, [] => []
  | c, x :: r => (x - chG c) :: lineP (chL c x) r
def lineG : Ch → List Int → Option (List Int)
  | _, [] => some []
  | c, r :: t => if smpOk (r + chG c) && numOk r then (lineG (chL c (r + chG c)) t).map ((r + chG c) :: ·) else none
theorem lineP_len : ∀ (xs : List Int) (c : Ch), (lineP c xs).length = xs.length
  | [], _ => rfl
  | x :: r, c => congrArg (· + 1) (lineP_len r _)
theorem lineP_num : ∀ (xs : List Int) (c : Ch), ChOk c → xs.all smpOk = true → (lineP c xs).all numOk = true
  | [], _, _, _ => rfl
  | x :: r, c, h, hx => by
    rw [List.all_cons, Bool.and_eq_true] at hx
    have h1 := ins_iff.1 hx.1
    have h2 := chG_in h
    show (numOk (x - chG c) && (lineP (chL c x) r).all numOk) = true
    rw [lineP_num r _ (chL_ok h hx.1) hx.2, Bool.and_true]
    unfold numOk; rw [decide_eq_true_eq]; omega
theorem line_back : ∀ (xs : List Int) (c : Ch), ChOk c → xs.all smpOk = true → lineG c (lineP c xs) = some xs
  | [], _, _, _ => rfl
  | x :: r, c, h, hx => by
    rw [List.all_cons, Bool.and_eq_true] at hx
    have h1 := ins_iff.1 hx.1
    have h2 := chG_in h
    have hn : numOk (x - chG c) = true := by unfold numOk; rw [decide_eq_true_eq]; omega
    show (if smpOk (x - chG c + chG c) && numOk (x - chG c) then (lineG (chL c (x - chG c + chG c)) (lineP (chL c x) r)).map ((x - chG c + chG c) :: ·) else none) = _
    rw [show x - chG c + chG c = x by omega, hx.1, hn, if_pos (by decide), line_back r _ (chL_ok h hx.1) hx.2]
    rfl
theorem lineG_len : ∀ (rs : List Int) (c : Ch) (xs : List Int), lineG c rs = some xs → xs.length = rs.length ∧ xs.all smpOk = true
  | [], _, xs, h => by cases h; exact ⟨rfl, rfl⟩
  | r :: t, c, xs, h => by
    have h : (if smpOk (r + chG c) && numOk r then (lineG (chL c (r + chG c)) t).map ((r + chG c) :: ·) else none) = some xs := h
    split at h
    · rename_i hk
      rw [Bool.and_eq_true] at hk
      cases hq : lineG (chL c (r + chG c)) t with
      | none => rw [hq] at h; cases h
      | some ys =>
        rw [hq] at h
        cases h
        have := lineG_len t _ ys hq
        exact ⟨congrArg (· + 1) this.1, by rw [List.all_cons, hk.1, this.2]; rfl⟩
    · cases h
end Go.Proofs.YtiokfaiioealdaaGreatDoor
namespace Go.Proofs.YtiokfaiioealdaaGreatDoor
set_option linter.unusedVariables false
set_option linter.unusedSimpArgs false
/-- One bit of the sum's register. -/
def cstep (x : Nat) : Nat := (x >>> 1) ^^^ (if x % 2 = 1 then 3988292384 else 0)
def csteps : Nat → Nat → Nat
  | 0, x => x
  | n + 1, x => csteps n (cstep x)
theorem csteps_add (m : Nat) : ∀ n x, csteps (n + m) x = csteps m (csteps n x)
  | 0, x => by rw [Nat.zero_add]; rfl
  | n + 1, x => by rw [show n + 1 + m = (n + m) + 1 by omega]; exact csteps_add m n (cstep x)
theorem cstep_lt {x : Nat} (h : x < 2 ^ 32) : cstep x < 2 ^ 32 := by
  unfold cstep
  apply Nat.xor_lt_two_pow
  · rw [Nat.shiftRight_eq_div_pow]; omega
  · split <;> omega
theorem csteps_lt : ∀ n {x : Nat}, x < 2 ^ 32 → csteps n x < 2 ^ 32
  | 0, _, h => h
  | n + 1, x, h => csteps_lt n (cstep_lt h)
theorem xor_mod2 (a b : Nat) : (a ^^^ b) % 2 = (a % 2 + b % 2) % 2 := by
  have h := Nat.testBit_xor a b 0
  rw [Nat.testBit_zero, Nat.testBit_zero, Nat.testBit_zero] at h
  rcases Nat.mod_two_eq_zero_or_one a with ha | ha <;> rcases Nat.mod_two_eq_zero_or_one b with hb | hb <;> rcases Nat.mod_two_eq_zero_or_one (a ^^^ b) with hc | hc <;> rw [ha, hb, hc] at h <;> rw [ha, hb, hc] <;> revert h <;> decide
theorem cstep_xor (a b : Nat) : cstep (a ^^^ b) = cstep a ^^^ cstep b := by
  unfold cstep
  rw [Nat.shiftRight_xor_distrib, xor_mod2]
  rcases Nat.mod_two_eq_zero_or_one a with ha | ha <;> rcases Nat.mod_two_eq_zero_or_one b with hb | hb <;> simp only [ha, hb] <;> simp
  · rw [Nat.xor_assoc]
  · rw [Nat.xor_assoc, Nat.xor_comm (b >>> 1), ← Nat.xor_assoc, Nat.xor_assoc (a >>> 1), Nat.xor_comm 3988292384, ← Nat.xor_assoc]
  · rw [Nat.xor_assoc, ← Nat.xor_assoc 3988292384, Nat.xor_comm 3988292384 (b >>> 1), Nat.xor_assoc (b >>> 1), Nat.xor_self, Nat.xor_zero]
theorem csteps_xor : ∀ n a b, csteps n (a ^^^ b) = csteps n a ^^^ csteps n b
  | 0, _, _ => rfl
  | n + 1, a, b => by rw [csteps, cstep_xor, csteps_xor n]; rfl
theorem csteps_shift : ∀ n m, csteps n (m <<< n) = m
  | 0, m => rfl
  | n + 1, m => by
    have e : cstep (m <<< (n + 1)) = m <<< n := by
      unfold cstep
      rw [Nat.shiftLeft_eq, Nat.pow_succ, ← Nat.mul_assoc, Nat.shiftRight_eq_div_pow, if_neg (by omega), Nat.xor_zero, Nat.shiftLeft_eq]
      omega
    rw [csteps, e, csteps_shift n m]
theorem split_low (x n : Nat) : x = ((x >>> n) <<< n) ^^^ (x % 2 ^ n) := by
  apply Nat.eq_of_testBit_eq
  intro i
  rw [Nat.testBit_xor, Nat.testBit_shiftLeft, Nat.testBit_shiftRight, Nat.testBit_mod_two_pow]
  by_cases h : n ≤ i
  · simp [h, Nat.not_lt.2 h, show n + (i - n) = i by omega]
  · simp [h, Nat.lt_of_not_le h]
/-- The table's way: so many bits at once. -/
theorem csteps_low (n x : Nat) : csteps n x = (x >>> n) ^^^ csteps n (x % 2 ^ n) := by
  have h := congrArg (csteps n) (split_low x n)
  rw [csteps_xor, csteps_shift] at h
  exact h
/-- A text's sum, ahead of its last turn. -/
def crcGo : Nat → List Nat → Nat
  | x, [] => x
  | x, b :: r => crcGo (csteps 8 (x ^^^ b)) r
theorem crcGo_append (l m : List Nat) : ∀ x, crcGo x (l ++ m) = crcGo (crcGo x l) m := by
  induction l with
  | nil => intro x; rfl
  | cons b r ih => intro x; exact ih _
theorem crcGo_lt (l : List Nat) (hl : ∀ b ∈ l, b < 256) : ∀ {x}, x < 2 ^ 32 → crcGo x l < 2 ^ 32 := by
  induction l with
  | nil => intro x h; exact h
  | cons b r ih =>
    intro x h
    refine ih (fun c hc => hl c (by simp [hc])) (csteps_lt 8 (Nat.xor_lt_two_pow h ?_))
    have := hl b (by simp)
    omega
def crcOf (l : List Nat) : Nat := crcGo 4294967295 l ^^^ 4294967295
theorem crcOf_lt (l : List Nat) (hl : ∀ b ∈ l, b < 256) : crcOf l < 2 ^ 32 := Nat.xor_lt_two_pow (crcGo_lt l hl (by decide)) (by decide)
end Go.Proofs.YtiokfaiioealdaaGreatDoor
namespace Go.Proofs.YtiokfaiioealdaaGreatDoor
open Go.RowKit Go.Proofs.YtiokfaiioealdaaGreatDoor.L
set_option linter.unusedVariables false
set_option linter.unusedSimpArgs false
theorem u32_xor (a b : Nat) (ha : a < 2 ^ 32) (hb : b < 2 ^ 32) : bits .xor .u32 (a : Int) (b : Int) = ((a ^^^ b : Nat) : Int) := by
  have key : (BitVec.ofInt 32 (a : Int) ^^^ BitVec.ofInt 32 (b : Int)).toNat = a ^^^ b := by
    rw [BitVec.toNat_xor, BitVec.toNat_ofInt, BitVec.toNat_ofInt, show ((a : Int) % ((2 ^ 32 : Nat) : Int)).toNat = a by omega, show ((b : Int) % ((2 ^ 32 : Nat) : Int)).toNat = b by omega]
  have hl := Nat.xor_lt_two_pow ha hb
  show IntKind.u32.wrap ((BitVec.ofInt 32 (a : Int) ^^^ BitVec.ofInt 32 (b : Int)).toNat : Nat) = _
  rw [key, IntKind.wrap_u32]
  omega
theorem u32_mask (k : Nat) (m : Int) (hk : k ≤ 31) (hm : (BitVec.ofInt 32 m).toNat = 2 ^ k - 1) (a : Nat) (ha : a < 2 ^ 32) : bits .and .u32 (a : Int) m = ((a % 2 ^ k : Nat) : Int) := by
  have key : (BitVec.ofInt 32 (a : Int) &&& BitVec.ofInt 32 m).toNat = a % 2 ^ k := by
    rw [BitVec.toNat_and, BitVec.toNat_ofInt, hm, show ((a : Int) % ((2 ^ 32 : Nat) : Int)).toNat = a by omega, Nat.and_two_pow_sub_one_eq_mod]
  have hl : a % 2 ^ k < 2 ^ 32 := Nat.lt_of_le_of_lt (Nat.mod_le _ _) ha
  show IntKind.u32.wrap ((BitVec.ofInt 32 (a : Int) &&& BitVec.ofInt 32 m).toNat : Nat) = _
  rw [key, IntKind.wrap_u32]
  omega
theorem cstep_prog (x : Nat) (hx : x < 2 ^ 32) : bits .xor .u32 ((x : Int) / 2) (bits .and .u32 3988292384 (IntKind.u32.wrap (-(bits .and .u32 (x : Int) 1)))) = ((cstep x : Nat) : Int) := by
  rw [u32_mask 1 1 (by decide) (by decide) x hx]
  have e : (x : Int) / 2 = ((x / 2 : Nat) : Int) := by omega
  unfold cstep
  rw [e, Nat.shiftRight_eq_div_pow]
  rcases Nat.mod_two_eq_zero_or_one x with h | h
  · rw [if_neg (by omega), show x % 2 ^ 1 = 0 by omega, show bits .and .u32 3988292384 (IntKind.u32.wrap (-((0 : Nat) : Int))) = ((0 : Nat) : Int) by decide, u32_xor _ _ (by omega) (by decide)]
  · rw [if_pos h, show x % 2 ^ 1 = 1 by omega, show bits .and .u32 3988292384 (IntKind.u32.wrap (-((1 : Nat) : Int))) = ((3988292384 : Nat) : Int) by decide, u32_xor _ _ (by omega) (by decide)]
theorem cstep_prog' (x : Nat) (hx : x < 2 ^ 32) : bits .xor .u32 ((x : Int) / 2) (bits .and .u32 3988292384 (-(bits .and .u32 (x : Int) 1) % 4294967296)) = ((cstep x : Nat) : Int) := by
  rw [← cstep_prog x hx, IntKind.wrap_u32]
theorem cend_prog (x : Nat) (hx : x < 2 ^ 32) : wrap64 (bits .xor .u32 IntKind.u32.max (x : Int)) = ((x ^^^ 4294967295 : Nat) : Int) := by
  rw [show IntKind.u32.max = ((4294967295 : Nat) : Int) from rfl, u32_xor _ _ (by decide) hx, Nat.xor_comm]
  have := Nat.xor_lt_two_pow hx (show 4294967295 < 2 ^ 32 by decide)
  unfold wrap64
  omega
theorem cstep_ref_one (x : Nat) (hx : x < 2 ^ 32) (h : x % 2 = 1) : bits .xor .u32 ((x : Int) / 2) 3988292384 = ((cstep x : Nat) : Int) := by
  unfold cstep
  rw [Nat.shiftRight_eq_div_pow, if_pos h, show (x : Int) / 2 = ((x / 2 : Nat) : Int) by omega]
  exact u32_xor (x / 2) 3988292384 (by omega) (by decide)
theorem cstep_ref_zero (x : Nat) (h : x % 2 = 0) : (x : Int) / 2 = ((cstep x : Nat) : Int) := by
  unfold cstep
  rw [Nat.shiftRight_eq_div_pow, if_neg (by omega), Nat.xor_zero]; omega
theorem cnib_prog (x : Nat) (hx : x < 2 ^ 32) : bits .xor .u32 ((x : Int) / 16) ((csteps 4 (x % 16) : Nat) : Int) = ((csteps 4 x : Nat) : Int) := by
  rw [csteps_low 4 x, Nat.shiftRight_eq_div_pow, show (x : Int) / 16 = ((x / 2 ^ 4 : Nat) : Int) by omega]
  exact u32_xor _ _ (by omega) (csteps_lt 4 (by omega))
/-- The table of the program's sum. -/
def ctab : List Int := (List.range 16).map fun i => ((csteps 4 i : Nat) : Int)
def u32s (l : List Int) : List Value := l.map (Value.int .u32)
/-- The table under way. -/
def ctabAt (i : Nat) : List Int := ctab.take i ++ List.replicate (16 - i) 0
theorem ctabAt_length {i : Nat} (h : i ≤ 16) : (ctabAt i).length = 16 := by simp [ctabAt, ctab]; omega
theorem ctabAt_set {i : Nat} (h : i < 16) : (u32s (ctabAt i)).set i (.int .u32 ((csteps 4 i : Nat) : Int)) = u32s (ctabAt (i + 1)) := by
  have : ∀ i, i < 16 → (ctabAt i).set i ((csteps 4 i : Nat) : Int) = ctabAt (i + 1) := by decide +kernel
  rw [← this i h]
  simp [u32s, List.map_set]
theorem info_half : (Tryz.prog.info? 148).map (·.size) = some 16 := by kernel_rfl
set_option maxRecDepth 100000 in
set_option maxHeartbeats 4000000 in
theorem crc_half (w : World) : Calls Tryz.prog 110 #[] w fun e w' => e = .returned (.agg (u32s ctab).toArray) ∧ Below w.heap.size w w' := by
  obtain ⟨T, hT⟩ : ∃ T, u32s ctab = T := ⟨_, rfl⟩
  have hTl : T.length = 16 := by rw [← hT]; decide
  have HON := Lib.hid (show T.toArray.all (·.oneCell') = true from all_oneCell_toArray (by rw [← hT]; intro v hv; obtain ⟨x, -, rfl⟩ := List.mem_map.1 hv; rfl))
  have HTE : Hid (u32s (ctabAt 16) = T) := by rw [← hT]; show _ = _; rw [show ctabAt 16 = ctab by decide +kernel]
  have HTL := Lib.hid hTl
  rw [hT]
  clear hT hTl
  go_enter Tryz.func110, Tryz.ntmps110
  go_wp2_with fail
  have HT0 : Hid (BC ((w.alloc (.cells (u32s (ctabAt 0)).toArray 148)).alloc (.cells (u32s (ctabAt 0)).toArray 148)) (w.heap.size + 1) 148 (u32s (ctabAt 0))) := BC.newAt (by simp)
  have HR0 : Hid (BC ((w.alloc (.cells (u32s (ctabAt 0)).toArray 148)).alloc (.cells (u32s (ctabAt 0)).toArray 148)) w.heap.size 148 (u32s (ctabAt 0))) := (BC.new w _ _).alloc _
  have HB0 := Lib.hid (below_alloc (below_alloc (Below.refl w.heap.size w) (.cells (u32s (ctabAt 0)).toArray 148)) (.cells (u32s (ctabAt 0)).toArray 148))
  change Code.wp _ _ _ _ ((w.alloc (.cells (u32s (ctabAt 0)).toArray 148)).alloc (.cells (u32s (ctabAt 0)).toArray 148))
  generalize (w.alloc _).alloc _ = W at HT0 HR0 HB0 ⊢
  go_loopw [4] (fun v wr => ∃ i : Nat, v = .int .i64 i ∧ i ≤ 16 ∧ Hid (BC wr (w.heap.size + 1) 148 (u32s (ctabAt i))) ∧ Hid (BC wr w.heap.size 148 (u32s (ctabAt 0))) ∧ Hid (Below w.heap.size w wr)) (fun v _ => (16 - intOf v).toNat)
  case atStart => exact ⟨0, rfl, by omega, HT0, HR0, HB0⟩
  case round =>
    obtain ⟨x0, rfl, hi, HT, HR, HB⟩ := hrel
    by_cases hlt : x0 < 16
    · have hx0 : x0 < 2 ^ 32 := by omega
      have d0 : decide ((x0 : Int) < 16) = true := by simp; omega
      obtain ⟨v, hv⟩ : ∃ v, (u32s (ctabAt x0))[x0]? = some v := ⟨_, List.getElem?_eq_getElem (by simp [u32s, ctabAt_length hi]; omega)⟩
      have ct := HT.out.at_ hv
      have ft := HT.out.frozen x0
      go_wp2_with fail
      refine wp_loop_rounds 5 ?_
      rw [rounds_succ]
      have e0 := cstep_prog' x0 hx0
      obtain ⟨x1, hc0⟩ : ∃ x, cstep x0 = x := ⟨_, rfl⟩
      have hx1 : x1 < 2 ^ 32 := by rw [← hc0]; exact cstep_lt hx0
      rw [hc0] at e0
      have HC0 := Lib.hid hc0
      clear hc0
      go_wp2_with fail
      clear e0
      rw [rounds_succ]
      have e1 := cstep_prog' x1 hx1
      obtain ⟨x2, hc1⟩ : ∃ x, cstep x1 = x := ⟨_, rfl⟩
      have hx2 : x2 < 2 ^ 32 := by rw [← hc1]; exact cstep_lt hx1
      rw [hc1] at e1
      have HC1 := Lib.hid hc1
      clear hc1
      go_wp2_with fail
      clear e1
      rw [rounds_succ]
      have e2 := cstep_prog' x2 hx2
      obtain ⟨x3, hc2⟩ : ∃ x, cstep x2 = x := ⟨_, rfl⟩
      have hx3 : x3 < 2 ^ 32 := by rw [← hc2]; exact cstep_lt hx2
      rw [hc2] at e2
      have HC2 := Lib.hid hc2
      clear hc2
      go_wp2_with fail
      clear e2
      rw [rounds_succ]
      have e3 := cstep_prog' x3 hx3
      obtain ⟨x4, hc3⟩ : ∃ x, cstep x3 = x := ⟨_, rfl⟩
      have hx4 : x4 < 2 ^ 32 := by rw [← hc3]; exact cstep_lt hx3
      rw [hc3] at e3
      have HC3 := Lib.hid hc3
      clear hc3
      go_wp2_with fail
      clear e3
      rw [rounds_succ]
      have HT4 : Hid (BC (wr.setCell ⟨w.heap.size + 1, x0, none⟩ (.int .u32 (x4 : Int))) (w.heap.size + 1) 148 (u32s (ctabAt (x0 + 1)))) := by
        have := HT.out.set x0 (.int .u32 (x4 : Int))
        rw [← ctabAt_set hlt, show csteps 4 x0 = x4 by rw [← HC3.out, ← HC2.out, ← HC1.out, ← HC0.out]; rfl]
        exact this
      have HR4 := Lib.hid (HR.out.far (p := ⟨w.heap.size + 1, x0, none⟩) (by simp) (.int .u32 (x4 : Int)))
      have HB4 := Lib.hid (below_set (p := ⟨w.heap.size + 1, x0, none⟩) (by simp) HB.out (.int .u32 (x4 : Int)))
      have bi : (x0 : Int) < 16 := by omega
      clear HT HR HB HC0 HC1 HC2 HC3 hv
      go_wp2_with fail
      go_roundw
      case rel => exact ⟨x0 + 1, by go_num, by omega, HT4, HR4, HB4⟩
      case measure => simp [intOf]; omega
    · obtain rfl : x0 = 16 := by omega
      have HT4 : Hid (BC wr (w.heap.size + 1) 148 T) := by rw [← HTE.out]; exact HT.out
      have HTH := Lib.hid (HR.out.there (n := T.toArray.size) (by simp [u32s, ctabAt_length, HTL.out]))
      have HI : Hid ((Tryz.prog.info? 148).map (·.size) = some T.length) := by rw [HTL.out]; exact info_half
      have HIA : Hid ((Tryz.prog.info? 148).map (·.size) = some T.toArray.size) := HI
      have HOV := Lib.hid (HR.out.over (R := T) (by simp [u32s, ctabAt_length, HTL.out]))
      clear HT hi
      go_wp2_with (first
        | (with_reducible refine wpList_load_mid rfl 148 (.tmp 1) rfl (w.heap.size + 1) 0 ?_ T _ HT4.out.range Tryz.underlying148 rfl HI.out ?_)
        | (with_reducible refine wpList_store_mid rfl 148 (.tmp 0) (.tmp 23) rfl w.heap.size 0 T.toArray ?_ ?_ HTH.out HIA.out HON.out ?_))
      all_goals first | (show _ = Value.pointer _; rfl) | (show _ = Value.agg _; rfl) | skip
      refine bodyPost_ret (bc_results1 (P := Tryz.prog) Tryz.results110 _ _ w.heap.size T _ ?_ HOV.out.range Tryz.underlying148 rfl HI.out) ?_ ⟨rfl, bc_below_setCells (Nat.le_refl _) _ _ _ HB.out⟩
      all_goals first | rfl | go_simp
theorem ctab_lit : (u32s ctab).toArray = #[.int .u32 0, .int .u32 498536548, .int .u32 997073096, .int .u32 651767980, .int .u32 1994146192, .int .u32 1802195444, .int .u32 1303535960, .int .u32 1342533948, .int .u32 3988292384, .int .u32 4027552580, .int .u32 3604390888, .int .u32 3412177804, .int .u32 2607071920, .int .u32 2262029012, .int .u32 2685067896, .int .u32 3183342108] := by
  have : ctab = [0, 498536548, 997073096, 651767980, 1994146192, 1802195444, 1303535960, 1342533948, 3988292384, 4027552580, 3604390888, 3412177804, 2607071920, 2262029012, 2685067896, 3183342108] := by decide +kernel
  rw [this]; rfl
/-- A text's bytes as whole numbers. -/
def nats (s : ByteArray) : List Nat := s.data.toList.map UInt8.toNat
theorem nats_length (s : ByteArray) : (nats s).length = s.size := by simp [nats]
theorem nats_lt (s : ByteArray) : ∀ b ∈ nats s, b < 256 := by intro b hb; obtain ⟨c, -, rfl⟩ := List.mem_map.1 hb; exact c.toNat_lt
theorem nats_take (s : ByteArray) (i : Nat) (h : i < s.size) : (nats s).take (i + 1) = (nats s).take i ++ [(s[i]'h).toNat] := by
  rw [List.take_succ_eq_append_getElem (by rw [nats_length]; exact h)]
  simp [nats]
  rfl
set_option maxHeartbeats 1000000 in
theorem crc_sum (s : ByteArray) (w : World) (hs : s.size ≤ 9223372036854775806) : Calls Tryz.prog 68 #[.string s] w fun e w' => e = .returned (.int .i64 ((crcOf (nats s) : Nat) : Int)) ∧ Below w.heap.size w w' := by
  go_enter Tryz.func68, Tryz.ntmps68
  go_wp2_with fail
  refine (crc_half _).mono ?_
  rw [ctab_lit]
  rintro e w1 ⟨rfl, hb⟩
  have HB1 := Lib.hid (below_alloc hb (.cells (u32s ctab).toArray 148))
  have HC := Lib.hid (BC.new w1 (u32s ctab) 148)
  rw [ctab_lit] at HB1
  have HC2 : Hid (BC (w1.alloc (.cells #[.int .u32 0, .int .u32 498536548, .int .u32 997073096, .int .u32 651767980, .int .u32 1994146192, .int .u32 1802195444, .int .u32 1303535960, .int .u32 1342533948, .int .u32 3988292384, .int .u32 4027552580, .int .u32 3604390888, .int .u32 3412177804, .int .u32 2607071920, .int .u32 2262029012, .int .u32 2685067896, .int .u32 3183342108] 148)) w1.heap.size 148 (u32s ctab)) := by rw [← ctab_lit]; exact HC.out
  clear hb HC
  go_wp2_with fail
  generalize w1.alloc _ = W at HB1 HC2 ⊢
  go_loop [4, 9] (fun v i => ∃ n : Nat, i = .int .i64 n ∧ n ≤ s.size ∧ ∃ x : Nat, v = .int .u32 (x : Int) ∧ x < 4294967296 ∧ Hid (x = crcGo 4294967295 ((nats s).take n))) (fun _ i => s.size - (intOf i).toNat)
  case atStart => exact ⟨0, rfl, by omega, 4294967295, rfl, by omega, rfl⟩
  case round =>
    obtain ⟨n, rfl, hn, x, rfl, hx, HX⟩ := hrel
    by_cases hlt : n < s.size
    · have hb := s[n].toNat_lt
      have e0 : ((s[n].toNat : Int) % 4294967296) = (s[n].toNat : Int) := by omega
      have e1 := u32_xor x s[n].toNat hx (by omega)
      have hy : x ^^^ s[n].toNat < 2 ^ 32 := Nat.xor_lt_two_pow hx (by omega)
      have HS : Hid (csteps 4 (csteps 4 (x ^^^ s[n].toNat)) = crcGo 4294967295 ((nats s).take (n + 1))) := by
        rw [nats_take s n hlt, crcGo_append, ← HX.out]
        show _ = csteps 8 _
        rw [← csteps_add]
      obtain ⟨y, hyy⟩ : ∃ y, x ^^^ s[n].toNat = y := ⟨_, rfl⟩
      rw [hyy] at e1 hy HS
      have hz := csteps_lt 4 hy
      have e2 := u32_mask 4 15 (by decide) (by decide) y hy
      have e3 := cnib_prog y hy
      obtain ⟨z, hzz⟩ : ∃ z, csteps 4 y = z := ⟨_, rfl⟩
      rw [hzz] at hz e3 HS
      have e4 := u32_mask 4 15 (by decide) (by decide) z hz
      have e5 := cnib_prog z hz
      have hv := csteps_lt 4 hz
      obtain ⟨v, hvv⟩ : ∃ v, csteps 4 z = v := ⟨_, rfl⟩
      rw [hvv] at hv e5 HS
      have cc : ∀ j, j < 16 → W.cell? ⟨w1.heap.size, j, none⟩ = some (.int .u32 ((csteps 4 j : Nat) : Int)) := fun j hj => HC2.out.at_ (by rw [u32s, List.getElem?_map]; simp [ctab, hj])
      have c1 := cc (y % 16) (by omega)
      have c2 := cc (z % 16) (by omega)
      have i1 : ((y % 16 : Nat) : Int) < 16 := by omega
      have i2 : ((z % 16 : Nat) : Int) < 16 := by omega
      have i3 : (0 : Int) ≤ ((y % 16 : Nat) : Int) := by omega
      have i4 : (0 : Int) ≤ ((z % 16 : Nat) : Int) := by omega
      rw [show y % 2 ^ 4 = y % 16 from rfl] at e2
      rw [show z % 2 ^ 4 = z % 16 from rfl] at e4
      obtain ⟨p, hp⟩ : ∃ p, y % 16 = p := ⟨_, rfl⟩
      obtain ⟨q, hq⟩ : ∃ p, z % 16 = p := ⟨_, rfl⟩
      rw [hp] at e2 e3 c1 i1 i3
      rw [hq] at e4 e5 c2 i2 i4
      clear hp hq hyy hzz hvv hb cc HX hy hz
      go_wp2
      go_round
      case rel => exact ⟨n + 1, by go_num, by omega, v, rfl, by omega, HS⟩
      case measure => simp [intOf]; omega
    · obtain rfl : n = s.size := by omega
      have HE : Hid (((crcOf (nats s) : Nat) : Int) = ((x ^^^ 4294967295 : Nat) : Int)) := by
        show _ = _
        have := HX.out
        rw [List.take_of_length_le (by rw [nats_length]; omega)] at this
        rw [crcOf, ← this]
      clear HX
      go_wp2
      go_ret
      exact ⟨ret_int (by rw [HE.out]; exact cend_prog x hx), HB1.out⟩
theorem csteps_succ (n x : Nat) : csteps (n + 1) x = cstep (csteps n x) := csteps_add 1 n x
set_option maxHeartbeats 1000000 in
theorem rcrc (s : ByteArray) (w : World) (hs : s.size ≤ 9223372036854775806) : Calls Tryz.prog 29 #[.string s] w fun e w' => e = .returned (.int .i64 ((crcOf (nats s) : Nat) : Int)) ∧ w = w' := by
  go_enter Tryz.func29, Tryz.ntmps29
  go_wp2
  go_loop [3, 4] (fun v i => ∃ n : Nat, i = .int .i64 n ∧ n ≤ s.size ∧ ∃ x : Nat, v = .int .u32 (x : Int) ∧ x < 4294967296 ∧ Hid (x = crcGo 4294967295 ((nats s).take n))) (fun _ i => s.size - (intOf i).toNat)
  case atStart => exact ⟨0, rfl, by omega, 4294967295, rfl, by omega, rfl⟩
  case round =>
    obtain ⟨n, rfl, hn, x, rfl, hx, HX⟩ := hrel
    by_cases hlt : n < s.size
    · have hb := s[n].toNat_lt
      have e0 : ((s[n].toNat : Int) % 4294967296) = (s[n].toNat : Int) := by omega
      have e1 := u32_xor x s[n].toNat hx (by omega)
      have hy : x ^^^ s[n].toNat < 2 ^ 32 := Nat.xor_lt_two_pow hx (by omega)
      have HS : Hid (csteps 8 (x ^^^ s[n].toNat) = crcGo 4294967295 ((nats s).take (n + 1))) := by
        show _ = _
        rw [nats_take s n hlt, crcGo_append, ← HX.out]
        rfl
      obtain ⟨y, hyy⟩ : ∃ y, x ^^^ s[n].toNat = y := ⟨_, rfl⟩
      rw [hyy] at e1 hy HS
      have d0 : decide ((n : Int) < (s.size : Int)) = true := by simp; omega
      have HY := Lib.hid hy
      clear hyy HX hb hy
      go_wp2_with fail
      clear e0 e1
      go_loop [3, 5] (fun v j => ∃ m : Nat, j = .int .i64 m ∧ m ≤ 8 ∧ ∃ z : Nat, v = .int .u32 (z : Int) ∧ z < 4294967296 ∧ Hid (z = csteps m y)) (fun _ j => 8 - (intOf j).toNat)
      case atStart => exact ⟨0, rfl, by omega, y, rfl, by have := HY.out; omega, rfl⟩
      case round =>
        obtain ⟨m, rfl, hm, z, rfl, hz, HZ⟩ := hrel
        by_cases hlt2 : m < 8
        · have hc := cstep_lt hz
          have HC : Hid (cstep z = csteps (m + 1) y) := by show _ = _; rw [csteps_succ, ← HZ.out]
          have e2 := u32_mask 1 1 (by decide) (by decide) z hz
          rcases Nat.mod_two_eq_zero_or_one z with h | h
          · have e3 := cstep_ref_zero z h
            rw [show z % 2 ^ 1 = 0 by omega] at e2
            obtain ⟨v, hv⟩ : ∃ v, cstep z = v := ⟨_, rfl⟩
            rw [hv] at hc HC e3
            clear hv h HZ
            go_wp2
            go_round
            case rel => exact ⟨m + 1, by go_num, by omega, v, rfl, by omega, HC⟩
            case measure => simp [intOf]; omega
          · have e3 := cstep_ref_one z hz h
            rw [show z % 2 ^ 1 = 1 by omega] at e2
            obtain ⟨v, hv⟩ : ∃ v, cstep z = v := ⟨_, rfl⟩
            rw [hv] at hc HC e3
            clear hv h HZ
            go_wp2
            go_round
            case rel => exact ⟨m + 1, by go_num, by omega, v, rfl, by omega, HC⟩
            case measure => simp [intOf]; omega
        · obtain rfl : m = 8 := by omega
          have HZ2 : Hid (z = crcGo 4294967295 ((nats s).take (n + 1))) := by show _ = _; rw [← HS.out]; exact HZ.out
          go_wp2
          go_round
          case rel => exact ⟨n + 1, by go_num, by omega, z, rfl, hz, HZ2⟩
          case measure => simp [intOf]; omega
    · obtain rfl : n = s.size := by omega
      have HE : Hid (((crcOf (nats s) : Nat) : Int) = ((x ^^^ 4294967295 : Nat) : Int)) := by
        show _ = _
        have := HX.out
        rw [List.take_of_length_le (by rw [nats_length]; omega)] at this
        rw [crcOf, ← this]
      clear HX
      go_wp2
      go_ret
      exact ⟨ret_int (by rw [HE.out]; exact cend_prog x hx), rfl⟩
end Go.Proofs.YtiokfaiioealdaaGreatDoor
namespace Go.Proofs.YtiokfaiioealdaaGreatDoor
set_option linter.unusedVariables false
set_option linter.unusedSimpArgs false
def s8 (x : UInt8) : Int := (x.toNat : Int) - 128
def s16 (x y : UInt8) : Int := if x.toNat + 256 * y.toNat < 32768 then (x.toNat : Int) + 256 * y.toNat else (x.toNat : Int) + 256 * y.toNat - 65536
def smpAt (b : Int) (l : List UInt8) (i : Nat) : Int := if b = 8 then s8 (l.getD i 0) else s16 (l.getD (2 * i) 0) (l.getD (2 * i + 1) 0)
def byts (b x : Int) : List UInt8 := if b = 8 then [by8 (x + 128)] else [by8 x, by8 (x / 256)]
def fOk (c b : Int) : Bool := (decide (c = 1) || decide (c = 2)) && (decide (b = 8) || decide (b = 16))
def szB (b : Int) : Nat := if b = 8 then 1 else 2
def fsz (c b : Int) : Nat := c.toNat * szB b
theorem fOk_iff {c b : Int} : fOk c b = true ↔ (c = 1 ∨ c = 2) ∧ (b = 8 ∨ b = 16) := by simp [fOk]
theorem fsz_in {c b : Int} (h : fOk c b = true) : 1 ≤ fsz c b ∧ fsz c b ≤ 4 := by
  obtain ⟨rfl | rfl, rfl | rfl⟩ := fOk_iff.1 h <;> decide
theorem by8_s8 (x : UInt8) : by8 (s8 x + 128) = x := by
  apply UInt8.toNat_inj.1
  have h := by8_val (s8 x + 128)
  have := x.toNat_lt
  unfold s8 at h ⊢; omega
theorem by8_s16 (x y : UInt8) : by8 (s16 x y) = x ∧ by8 (s16 x y / 256) = y := by
  have h := by8_val (s16 x y)
  have h2 := by8_val (s16 x y / 256)
  have := x.toNat_lt
  have := y.toNat_lt
  constructor <;> (apply UInt8.toNat_inj.1; unfold s16 at h h2 ⊢; split at h <;> split at h2 <;> split <;> omega)
theorem smp_in (b : Int) (l : List UInt8) (i : Nat) : -32768 ≤ smpAt b l i ∧ smpAt b l i ≤ 32767 := by
  unfold smpAt s8 s16
  split
  · have := (l.getD i 0).toNat_lt; omega
  · have := (l.getD (2 * i) 0).toNat_lt
    have := (l.getD (2 * i + 1) 0).toNat_lt
    split <;> omega
theorem smp_in8 (l : List UInt8) (i : Nat) : -128 ≤ smpAt 8 l i ∧ smpAt 8 l i ≤ 127 := by
  unfold smpAt s8
  rw [if_pos rfl]
  have := (l.getD i 0).toNat_lt; omega
theorem getD_get {α : Type} {l : List α} {i : Nat} {d : α} (h : i < l.length) : l.getD i d = l[i] := by rw [List.getD_eq_getElem?_getD, List.getElem?_eq_getElem h]; rfl
theorem take_one {l : List UInt8} {i : Nat} (h : i < l.length) : l.take (i + 1) = l.take i ++ [l.getD i 0] := by rw [getD_get h, List.take_succ_eq_append_getElem h]
theorem byts_smp {b : Int} (hb : b = 8 ∨ b = 16) {l : List UInt8} {i : Nat} (h : (i + 1) * szB b ≤ l.length) : l.take (i * szB b) ++ byts b (smpAt b l i) = l.take ((i + 1) * szB b) := by
  rcases hb with rfl | rfl
  · have h : (i + 1) * 1 ≤ l.length := h
    show l.take (i * 1) ++ [by8 (s8 (l.getD i 0) + 128)] = l.take ((i + 1) * 1)
    rw [by8_s8, Nat.mul_one, Nat.mul_one, take_one (by omega)]
  · have h : (i + 1) * 2 ≤ l.length := h
    show l.take (i * 2) ++ [by8 (s16 (l.getD (2 * i) 0) (l.getD (2 * i + 1) 0)), by8 (s16 (l.getD (2 * i) 0) (l.getD (2 * i + 1) 0) / 256)] = l.take ((i + 1) * 2)
    rw [(by8_s16 _ _).1, (by8_s16 _ _).2, show (i + 1) * 2 = 2 * i + 1 + 1 by omega, take_one (by omega), take_one (by omega), show i * 2 = 2 * i by omega, List.append_assoc]
    rfl
def chn (b : Int) (l : List UInt8) (c k n : Nat) : List Int := (List.range n).map fun j => smpAt b l (j * c + k)
def pcmG (c b : Int) (l : List UInt8) : List (List Int) := (List.range c.toNat).map fun k => chn b l c.toNat k (l.length / fsz c b)
def pcmP (c b : Int) (n : Nat) (chs : List (List Int)) : List UInt8 := (List.range n).flatMap fun i => (List.range c.toNat).flatMap fun k => byts b ((chs.getD k []).getD i 0)
theorem getD_map_range {α : Type} (f : Nat → α) (d : α) {n k : Nat} (h : k < n) : ((List.range n).map f).getD k d = f k := by
  rw [getD_get (by rw [List.length_map, List.length_range]; exact h)]; simp
theorem pcm_pre {c b : Int} (hf : fOk c b = true) {l : List UInt8} (n : Nat) (hn : n ≤ l.length / fsz c b) : pcmP c b n (pcmG c b l) = l.take (n * fsz c b) := by
  have hfs := fsz_in hf
  have hd : l.length / fsz c b * fsz c b ≤ l.length := Nat.div_mul_le_self _ _
  induction n with
  | zero => simp [pcmP]
  | succ n ih =>
    have hle : (n + 1) * fsz c b ≤ l.length := Nat.le_trans (Nat.mul_le_mul_right _ hn) hd
    have e : pcmP c b (n + 1) (pcmG c b l) = pcmP c b n (pcmG c b l) ++ (List.range c.toNat).flatMap fun k => byts b (((pcmG c b l).getD k []).getD n 0) := by
      unfold pcmP; rw [List.range_succ, List.flatMap_append]; simp
    have hg : ∀ k, k < c.toNat → ((pcmG c b l).getD k []).getD n 0 = smpAt b l (n * c.toNat + k) := by
      intro k hk
      unfold pcmG
      rw [getD_map_range _ _ hk]
      unfold chn
      rw [getD_map_range _ _ (by omega)]
    rw [e, ih (by omega)]
    obtain ⟨hc, hb⟩ := fOk_iff.1 hf
    rcases hc with rfl | rfl
    · have h0 := hg 0 (by decide)
      have hs : fsz 1 b = szB b := by unfold fsz; simp
      rw [hs] at hle ⊢
      show l.take (n * szB b) ++ List.flatMap _ (List.range 1) = _
      rw [show List.range 1 = [0] from rfl, List.flatMap_cons, List.flatMap_nil, List.append_nil, h0, show n * (1 : Int).toNat + 0 = n by simp]
      exact byts_smp hb hle
    · have h0 := hg 0 (by decide)
      have h1 := hg 1 (by decide)
      have hs : fsz 2 b = 2 * szB b := by unfold fsz; simp
      rw [hs] at hle ⊢
      have t2 : (2 : Int).toNat = 2 := rfl
      rw [t2] at h0 h1 ⊢
      have e1 : n * (2 * szB b) = (n * 2) * szB b := by rw [Nat.mul_assoc]
      have e2 : (n + 1) * (2 * szB b) = (n * 2 + 1 + 1) * szB b := by rw [← Nat.mul_assoc]; congr 1; omega
      rw [e2] at hle
      rw [show List.range 2 = [0, 1] from rfl, List.flatMap_cons, List.flatMap_cons, List.flatMap_nil, List.append_nil, h0, h1, Nat.add_zero, ← List.append_assoc, e1, byts_smp hb (Nat.le_trans (Nat.mul_le_mul_right _ (by omega)) hle), byts_smp hb hle, e2]
theorem pcm_back {c b : Int} (hf : fOk c b = true) {l : List UInt8} (hl : l.length % fsz c b = 0) : pcmP c b (l.length / fsz c b) (pcmG c b l) = l := by
  rw [pcm_pre hf _ (Nat.le_refl _), Nat.div_mul_cancel (Nat.dvd_of_mod_eq_zero hl), List.take_length]
theorem chn_len (b : Int) (l : List UInt8) (c k n : Nat) : (chn b l c k n).length = n := by unfold chn; simp
theorem pcmG_len (c b : Int) (l : List UInt8) : (pcmG c b l).length = c.toNat := by unfold pcmG; simp
theorem pcmG_row {c b : Int} {l : List UInt8} {xs : List Int} (h : xs ∈ pcmG c b l) : xs.length = l.length / fsz c b ∧ ∀ x ∈ xs, -32768 ≤ x ∧ x ≤ 32767 := by
  unfold pcmG at h
  obtain ⟨k, -, rfl⟩ := List.mem_map.1 h
  refine ⟨chn_len _ _ _ _ _, fun x hx => ?_⟩
  unfold chn at hx
  obtain ⟨j, -, rfl⟩ := List.mem_map.1 hx
  exact smp_in _ _ _
/-- How many bits are not used: the greatest number up to n whose power of two divides all. -/
def wst : Nat → List Int → Nat
  | 0, _ => 0
  | n + 1, xs => if xs.all (fun x => decide (x % 2 ^ (n + 1) = 0)) then n + 1 else wst n xs
theorem wst_le : ∀ (n : Nat) (xs : List Int), wst n xs ≤ n
  | 0, _ => Nat.le_refl _
  | n + 1, xs => by unfold wst; split; exact Nat.le_refl _; exact Nat.le_succ_of_le (wst_le n xs)
theorem wst_div : ∀ (n : Nat) (xs : List Int), ∀ x ∈ xs, x % 2 ^ wst n xs = 0
  | 0, _, x, _ => by simp [wst, Int.emod_one]
  | n + 1, xs, x, hx => by
    unfold wst
    split
    · rename_i h; exact of_decide_eq_true (List.all_eq_true.1 h x hx)
    · exact wst_div n xs x hx
def byOf (c b : Int) (l : List UInt8) : Nat := wst 15 (pcmG c b l).flatten
def lows (c b : Int) (l : List UInt8) : List (List Int) := (pcmG c b l).map fun xs => xs.map fun x => x / 2 ^ byOf c b l
def sideP : List (List Int) → List (List Int)
  | [xs, ys] => [xs, List.zipWith (fun x y => y - x) xs ys]
  | r => r
def sideG : List (List Int) → List (List Int)
  | [xs, ys] => [xs, List.zipWith (fun x y => y + x) xs ys]
  | r => r
def allOf (c b : Int) (l : List UInt8) : List Int := (sideP (lows c b l)).flatMap (lineP ch0)
def ownOf (c b : Int) (l : List UInt8) : List UInt8 := putS mdot lR newM (allOf c b l)
theorem zip_back : ∀ (xs ys : List Int), xs.length = ys.length → List.zipWith (fun x y => y + x) xs (List.zipWith (fun x y => y - x) xs ys) = ys
  | [], [], _ => rfl
  | x :: xs, y :: ys, h => by
    show (y - x + x) :: List.zipWith _ xs (List.zipWith _ xs ys) = _
    rw [zip_back xs ys (by simpa using h), show y - x + x = y by omega]
theorem low_in {x : Int} (n : Nat) (h0 : -32768 ≤ x) (h1 : x ≤ 32767) : -32768 ≤ x / 2 ^ n ∧ x / 2 ^ n ≤ 32767 := by
  have hp : (0 : Int) < 2 ^ n := Int.pow_pos (by decide)
  have hp1 : (1 : Int) ≤ 2 ^ n := hp
  constructor
  · refine (Int.le_ediv_iff_mul_le hp).2 ?_
    have := Int.mul_le_mul_of_nonneg_left hp1 (show (0 : Int) ≤ 32768 by decide)
    rw [Int.neg_mul]
    omega
  · exact Int.le_trans (Int.ediv_le_ediv hp h1) (Int.ediv_le_self _ (by decide))
def unAll (c b : Int) (n k : Nat) (rs : List Int) : List UInt8 :=
  pcmP c b n ((sideG ((List.range c.toNat).map fun i => (lineG ch0 ((rs.drop (i * n)).take n)).getD [])).map fun xs => xs.map fun x => x * 2 ^ k)
def segOk (c b : Int) (l : List UInt8) : Bool := fOk c b && (decide (l.length % fsz c b = 0) && (decide (0 < l.length) && decide (l.length ≤ 64 * fsz c b)))
theorem segOk_iff {c b : Int} {l : List UInt8} : segOk c b l = true ↔ fOk c b = true ∧ l.length % fsz c b = 0 ∧ 0 < l.length ∧ l.length ≤ 64 * fsz c b := by simp [segOk]
theorem lows_row {c b : Int} {l : List UInt8} {xs : List Int} (h : xs ∈ lows c b l) : xs.length = l.length / fsz c b ∧ ∀ x ∈ xs, -32768 ≤ x ∧ x ≤ 32767 := by
  unfold lows at h
  obtain ⟨ys, hy, rfl⟩ := List.mem_map.1 h
  obtain ⟨h1, h2⟩ := pcmG_row hy
  refine ⟨by rw [List.length_map]; exact h1, fun x hx => ?_⟩
  obtain ⟨y, hm, rfl⟩ := List.mem_map.1 hx
  exact low_in _ (h2 y hm).1 (h2 y hm).2
theorem lows_len (c b : Int) (l : List UInt8) : (lows c b l).length = c.toNat := by unfold lows; rw [List.length_map, pcmG_len]
theorem up_lows (c b : Int) (l : List UInt8) : (lows c b l).map (fun xs => xs.map fun x => x * 2 ^ byOf c b l) = pcmG c b l := by
  unfold lows
  rw [List.map_map]
  refine (List.map_congr_left fun xs hx => ?_).trans (List.map_id _)
  show (xs.map fun x => x / 2 ^ byOf c b l).map (fun x => x * 2 ^ byOf c b l) = xs
  rw [List.map_map]
  refine (List.map_congr_left fun x hm => ?_).trans (List.map_id _)
  have := wst_div 15 (pcmG c b l).flatten x (List.mem_flatten.2 ⟨xs, hx, hm⟩)
  exact Int.ediv_mul_cancel (Int.dvd_of_emod_eq_zero this)
theorem lows_form {c b : Int} (hf : fOk c b = true) (l : List UInt8) : (c = 1 ∧ ∃ xs, lows c b l = [xs]) ∨ (c = 2 ∧ ∃ xs ys, lows c b l = [xs, ys]) := by
  have hl := lows_len c b l
  rcases (fOk_iff.1 hf).1 with rfl | rfl
  · exact .inl ⟨rfl, List.length_eq_one_iff.1 hl⟩
  · refine .inr ⟨rfl, ?_⟩
    match h : lows 2 b l, hl with
    | [xs, ys], _ => exact ⟨xs, ys, rfl⟩
theorem side_row {c b : Int} (hf : fOk c b = true) {l : List UInt8} {xs : List Int} (h : xs ∈ sideP (lows c b l)) : xs.length = l.length / fsz c b ∧ xs.all smpOk = true := by
  have key : xs.length = l.length / fsz c b ∧ ∀ x ∈ xs, -65535 ≤ x ∧ x ≤ 65535 := by
    rcases lows_form hf l with ⟨rfl, ys, e⟩ | ⟨rfl, ys, zs, e⟩
    · rw [e] at h
      have hm : xs ∈ lows 1 b l := by rw [e]; exact h
      obtain ⟨h1, h2⟩ := lows_row hm
      exact ⟨h1, fun x hx => by have := h2 x hx; omega⟩
    · rw [e] at h
      obtain ⟨h1, h2⟩ := lows_row (show ys ∈ lows 2 b l by rw [e]; simp)
      obtain ⟨h3, h4⟩ := lows_row (show zs ∈ lows 2 b l by rw [e]; simp)
      have h : xs ∈ [ys, List.zipWith (fun x y => y - x) ys zs] := h
      rcases List.mem_cons.1 h with rfl | h
      · exact ⟨h1, fun x hx => by have := h2 x hx; omega⟩
      · rw [List.mem_singleton] at h
        subst h
        refine ⟨by rw [List.length_zipWith, h1, h3]; omega, fun x hx => ?_⟩
        obtain ⟨i, hi, rfl⟩ := List.mem_iff_getElem.1 hx
        rw [List.length_zipWith] at hi
        rw [List.getElem_zipWith]
        have := h2 _ (List.getElem_mem (show i < ys.length by omega))
        have := h4 _ (List.getElem_mem (show i < zs.length by omega))
        omega
  refine ⟨key.1, List.all_eq_true.2 fun x hx => ?_⟩
  have := key.2 x hx
  exact ins_iff.2 (by omega)
theorem sideP_len {c b : Int} (hf : fOk c b = true) (l : List UInt8) : (sideP (lows c b l)).length = c.toNat := by
  rcases lows_form hf l with ⟨rfl, ys, e⟩ | ⟨rfl, ys, zs, e⟩ <;> rw [e] <;> rfl
theorem side_back {c b : Int} (hf : fOk c b = true) (l : List UInt8) : sideG (sideP (lows c b l)) = lows c b l := by
  rcases lows_form hf l with ⟨rfl, ys, e⟩ | ⟨rfl, ys, zs, e⟩
  · rw [e]; rfl
  · have h1 := (lows_row (show ys ∈ lows 2 b l by rw [e]; simp)).1
    have h3 := (lows_row (show zs ∈ lows 2 b l by rw [e]; simp)).1
    rw [e]
    show [ys, List.zipWith (fun x y => y + x) ys (List.zipWith (fun x y => y - x) ys zs)] = _
    rw [zip_back _ _ (by rw [h1, h3])]
theorem flat_part {α : Type} (f : List Int → List α) {n : Nat} : ∀ (L : List (List Int)), (∀ xs ∈ L, (f xs).length = n) → ∀ i, i < L.length → ((L.flatMap f).drop (i * n)).take n = f (L.getD i [])
  | [], _, i, hi => absurd hi (Nat.not_lt_zero _)
  | xs :: L, h, 0, _ => by
    rw [Nat.zero_mul, List.drop_zero, List.flatMap_cons, List.take_append_of_le_length (by rw [h xs (List.mem_cons_self ..)]; exact Nat.le_refl _), List.take_of_length_le (by rw [h xs (List.mem_cons_self ..)]; exact Nat.le_refl _)]
    rfl
  | xs :: L, h, i + 1, hi => by
    have hx := h xs (List.mem_cons_self ..)
    rw [List.flatMap_cons, show (i + 1) * n = (f xs).length + i * n by rw [hx, Nat.succ_mul, Nat.add_comm], List.drop_append]
    rw [List.drop_of_length_le (by omega), List.nil_append, Nat.add_sub_cancel_left]
    exact flat_part f L (fun ys hy => h ys (List.mem_cons_of_mem _ hy)) i (by simpa using hi)
theorem flat_len {α : Type} (f : List Int → List α) {n : Nat} : ∀ (L : List (List Int)), (∀ xs ∈ L, (f xs).length = n) → (L.flatMap f).length = L.length * n
  | [], _ => by simp
  | xs :: L, h => by rw [List.flatMap_cons, List.length_append, h xs (List.mem_cons_self ..), flat_len f L (fun ys hy => h ys (List.mem_cons_of_mem _ hy)), List.length_cons, Nat.succ_mul, Nat.add_comm]
theorem all_rows {c b : Int} (hf : fOk c b = true) (l : List UInt8) : ∀ xs ∈ sideP (lows c b l), (lineP ch0 xs).length = l.length / fsz c b := fun xs h => by rw [lineP_len]; exact (side_row hf h).1
theorem all_len {c b : Int} (hf : fOk c b = true) (l : List UInt8) : (allOf c b l).length = c.toNat * (l.length / fsz c b) := by
  unfold allOf; rw [flat_len _ _ (all_rows hf l), sideP_len hf]
theorem all_part {c b : Int} (hf : fOk c b = true) (l : List UInt8) {i : Nat} (hi : i < c.toNat) : lineG ch0 (((allOf c b l).drop (i * (l.length / fsz c b))).take (l.length / fsz c b)) = some ((sideP (lows c b l)).getD i []) := by
  have hl := sideP_len hf l
  unfold allOf
  rw [flat_part _ _ (all_rows hf l) i (by rw [hl]; exact hi)]
  have hm : (sideP (lows c b l)).getD i [] ∈ sideP (lows c b l) := by rw [getD_get (by rw [hl]; exact hi)]; exact List.getElem_mem _
  exact line_back _ _ ch0_ok (side_row hf hm).2
theorem getD_all {α : Type} {L : List α} {n : Nat} {d : α} (h : L.length = n) : (List.range n).map (fun i => L.getD i d) = L := by
  apply List.ext_getElem
  · rw [List.length_map, List.length_range, h]
  · intro i h1 h2
    rw [List.getElem_map, List.getElem_range, getD_get h2]
theorem un_all {c b : Int} {l : List UInt8} (h : segOk c b l = true) : unAll c b (l.length / fsz c b) (byOf c b l) (allOf c b l) = l := by
  obtain ⟨hf, hm, -, -⟩ := segOk_iff.1 h
  unfold unAll
  have e : ((List.range c.toNat).map fun i => (lineG ch0 (((allOf c b l).drop (i * (l.length / fsz c b))).take (l.length / fsz c b))).getD []) = sideP (lows c b l) := by
    rw [← getD_all (d := []) (sideP_len hf l)]
    refine List.map_congr_left fun i hi => ?_
    rw [all_part hf l (List.mem_range.1 hi)]
    rfl
  rw [e, side_back hf, up_lows, pcm_back hf hm]
theorem all_ok {c b : Int} {l : List UInt8} (h : segOk c b l = true) : putOk (allOf c b l) = true := by
  obtain ⟨hf, hm, -, h64⟩ := segOk_iff.1 h
  have hn : l.length / fsz c b ≤ 64 := Nat.div_le_of_le_mul (by rw [Nat.mul_comm]; exact h64)
  have hc : c.toNat ≤ 2 := by rcases (fOk_iff.1 hf).1 with rfl | rfl <;> decide
  unfold putOk
  rw [Bool.and_eq_true, decide_eq_true_eq, all_len hf]
  refine ⟨Nat.le_trans (Nat.mul_le_mul hc hn) (by decide), ?_⟩
  unfold allOf
  rw [List.all_eq_true]
  intro x hx
  obtain ⟨xs, h1, h2⟩ := List.mem_flatMap.1 hx
  exact List.all_eq_true.1 (lineP_num xs ch0 ch0_ok (side_row hf h1).2) x h2
def w2 (n : Nat) : List UInt8 := [by8 n, by8 (n / 256)]
def w4 (n : Nat) : List UInt8 := [by8 n, by8 (n / 256), by8 (n / 65536), by8 (n / 16777216)]
def crcB (s : List UInt8) : Nat := crcOf (s.map UInt8.toNat)
def toldH (kind by_ many : Nat) (own : List UInt8) : List UInt8 := [by8 kind, by8 by_, by8 many] ++ w2 own.length ++ own
def told (kind by_ many : Nat) (own : List UInt8) : List UInt8 := toldH kind by_ many own ++ w4 (crcB (toldH kind by_ many own))
def sameB (c b : Int) (l : List UInt8) : Bool := decide (l = (List.replicate (l.length / fsz c b) (l.take (fsz c b))).flatten)
def segP (c b : Int) (l : List UInt8) : List UInt8 :=
  if sameB c b l then told 2 0 (l.length / fsz c b) (l.take (fsz c b))
  else if (ownOf c b l).length < l.length then told 1 (byOf c b l) (l.length / fsz c b) (ownOf c b l)
  else told 0 0 (l.length / fsz c b) l
theorem by8_nat {n : Nat} (h : n < 256) : (by8 n).toNat = n := by have := by8_val n; omega
theorem told_len (k y m : Nat) (own : List UInt8) : (told k y m own).length = 9 + own.length := by unfold told toldH w2 w4; simp; omega
theorem toldH_inj {k y m k2 y2 m2 : Nat} {own own2 : List UInt8} (hk : k < 256) (hy : y < 256) (hm : m < 256) (hk2 : k2 < 256) (hy2 : y2 < 256) (hm2 : m2 < 256)
    (h : told k y m own = told k2 y2 m2 own2) : k = k2 ∧ y = y2 ∧ m = m2 ∧ own = own2 := by
  have hl : own.length = own2.length := by have := congrArg List.length h; rw [told_len, told_len] at this; omega
  unfold told at h
  have h := (List.append_inj h (by unfold toldH w2; simp [hl])).1
  unfold toldH w2 at h
  simp only [List.cons_append, List.nil_append, List.cons.injEq] at h
  obtain ⟨a, b, c, -, -, e⟩ := h
  have a := congrArg UInt8.toNat a
  have b := congrArg UInt8.toNat b
  have c := congrArg UInt8.toNat c
  rw [by8_nat, by8_nat] at a b c
  · exact ⟨a, b, c, e⟩
  all_goals assumption
theorem seg_many {c b : Int} {l : List UInt8} (h : segOk c b l = true) : 1 ≤ l.length / fsz c b ∧ l.length / fsz c b ≤ 64 ∧ l.length / fsz c b * fsz c b = l.length ∧ l.length ≤ 256 := by
  obtain ⟨hf, hm, h0, h64⟩ := segOk_iff.1 h
  obtain ⟨f1, f4⟩ := fsz_in hf
  have hd := Nat.div_mul_cancel (Nat.dvd_of_mod_eq_zero hm)
  refine ⟨Nat.pos_of_ne_zero fun e => ?_, Nat.div_le_of_le_mul (by rw [Nat.mul_comm]; exact h64), hd, by omega⟩
  rw [e] at hd; omega
theorem same_len {c b : Int} {l : List UInt8} (h : segOk c b l = true) : fsz c b ≤ l.length := by
  obtain ⟨h1, -, h3, -⟩ := seg_many h
  rw [← h3]; exact Nat.le_mul_of_pos_left _ h1
/-- The kind of a segment, its unused bits, its own bytes. -/
def segK (c b : Int) (l : List UInt8) : Nat := if sameB c b l then 2 else if (ownOf c b l).length < l.length then 1 else 0
def segY (c b : Int) (l : List UInt8) : Nat := if segK c b l = 1 then byOf c b l else 0
def segO (c b : Int) (l : List UInt8) : List UInt8 := if segK c b l = 2 then l.take (fsz c b) else if segK c b l = 1 then ownOf c b l else l
theorem seg_told (c b : Int) (l : List UInt8) : segP c b l = told (segK c b l) (segY c b l) (l.length / fsz c b) (segO c b l) := by
  unfold segP segY segO segK
  split
  · rw [if_neg (by decide), if_pos rfl]
  · split
    · rw [if_pos rfl, if_neg (by decide), if_pos rfl]
    · rw [if_neg (by decide), if_neg (by decide), if_neg (by decide)]
theorem segK_in (c b : Int) (l : List UInt8) : segK c b l ≤ 2 := by unfold segK; split <;> (try split) <;> omega
theorem byOf_in (c b : Int) (l : List UInt8) : byOf c b l ≤ 15 := wst_le _ _
theorem segY_in (c b : Int) (l : List UInt8) : segY c b l ≤ 15 := by unfold segY; split; exact byOf_in c b l; omega
theorem segO_in {c b : Int} {l : List UInt8} (h : segOk c b l = true) : (segO c b l).length ≤ l.length := by
  unfold segO
  split
  · rw [List.length_take]; omega
  · split
    · rename_i h1 h2
      unfold segK at h2
      split at h2
      · exact absurd h2 (by decide)
      · split at h2
        · omega
        · exact absurd h2 (by decide)
    · exact Nat.le_refl _
/-- What a segment's own bytes tell. -/
def tells (c b : Int) (k y m : Nat) (own l : List UInt8) : Prop :=
  (k = 2 ∧ l = (List.replicate m own).flatten) ∨ (k = 1 ∧ ∃ rs, putOk rs = true ∧ rs.length = c.toNat * m ∧ own = putS mdot lR newM rs ∧ l = unAll c b m y rs) ∨ (k = 0 ∧ l = own)
theorem seg_tells {c b : Int} {l : List UInt8} (h : segOk c b l = true) : tells c b (segK c b l) (segY c b l) (l.length / fsz c b) (segO c b l) l := by
  unfold tells segY segO segK
  split
  · rename_i hs
    refine .inl ⟨rfl, ?_⟩
    rw [if_pos rfl]
    exact of_decide_eq_true hs
  · split
    · refine .inr (.inl ⟨rfl, allOf c b l, all_ok h, all_len (segOk_iff.1 h).1 l, ?_, ?_⟩)
      · rw [if_neg (by decide), if_pos rfl]; rfl
      · rw [if_pos rfl, un_all h]
    · exact .inr (.inr ⟨rfl, by rw [if_neg (by decide), if_neg (by decide)]⟩)
end Go.Proofs.YtiokfaiioealdaaGreatDoor
namespace Go.Proofs.YtiokfaiioealdaaGreatDoor
open Go Go.RowKit Go.Proofs.YtiokfaiioealdaaGreatDoorW.PrintWords
set_option linter.unusedVariables false
theorem tb_low {k m U : Nat} (hU : U = 2 ^ k * (2 * m + 1)) : ∀ i, U.testBit i = (if i < k then false else if i = k then true else m.testBit (i - k - 1)) := by
  intro i
  have h := Nat.testBit_two_pow_mul_add (2 * m + 1) (b := 0) (i := k) (Nat.two_pow_pos k) i
  rw [Nat.add_zero, ← hU] at h
  rw [h]
  split
  · exact Nat.zero_testBit i
  · split
    · rename_i e; subst e; rw [Nat.sub_self]; simp
    · rename_i h1 h2
      obtain ⟨j, rfl⟩ : ∃ j, i = k + 1 + j := ⟨i - k - 1, by omega⟩
      rw [show k + 1 + j - k = j + 1 by omega, show j + 1 - 1 = j by omega, Nat.testBit_succ, show (2 * m + 1) / 2 = m by omega]
theorem tb_pred {k m U : Nat} (hU : U = 2 ^ k * (2 * m + 1)) : ∀ i, (U - 1).testBit i = (if i < k then true else if i = k then false else m.testBit (i - k - 1)) := by
  intro i
  have hp := Nat.two_pow_pos k
  have e : U - 1 = 2 ^ k * (2 * m) + (2 ^ k - 1) := by rw [hU, Nat.mul_add]; omega
  have h := Nat.testBit_two_pow_mul_add (2 * m) (b := 2 ^ k - 1) (i := k) (by omega) i
  rw [← e] at h
  rw [h]
  split
  · rename_i hi; rw [Nat.testBit_two_pow_sub_one]; simpa using hi
  · split
    · rename_i e; subst e; rw [Nat.sub_self]; simp
    · rename_i h1 h2
      obtain ⟨j, rfl⟩ : ∃ j, i = k + 1 + j := ⟨i - k - 1, by omega⟩
      rw [show k + 1 + j - k = j + 1 by omega, show j + 1 - 1 = j by omega, Nat.testBit_succ, show (2 * m) / 2 = m by omega]
theorem and_neg {k m U : Nat} (hU : U = 2 ^ k * (2 * m + 1)) (hl : U < 2 ^ 64) : U &&& (2 ^ 64 - U) = 2 ^ k := by
  have h0 : 0 < U := by rw [hU]; exact Nat.mul_pos (Nat.two_pow_pos k) (by omega)
  apply Nat.eq_of_testBit_eq
  intro i
  rw [Nat.testBit_and, show 2 ^ 64 - U = 2 ^ 64 - ((U - 1) + 1) by omega, Nat.testBit_two_pow_sub_succ (by omega), tb_low hU, tb_pred hU, Nat.testBit_two_pow]
  by_cases h1 : i < k
  · rw [if_pos h1, if_pos h1]; simp; omega
  · by_cases h2 : i = k
    · subst h2
      have : i < 64 := by
        refine (Nat.pow_lt_pow_iff_right (a := 2) (by decide)).1 (Nat.lt_of_le_of_lt ?_ hl)
        rw [hU]; exact Nat.le_mul_of_pos_right _ (by omega)
      simp [this]
    · rw [if_neg h1, if_neg h1, if_neg h2, if_neg h2]
      have : decide (k = i) = false := decide_eq_false (Ne.symm h2)
      rw [this]
      cases m.testBit (i - k - 1) <;> simp
theorem odd_part : ∀ U : Nat, 0 < U → ∃ k m, U = 2 ^ k * (2 * m + 1) := by
  intro U
  induction U using Nat.strongRecOn with
  | _ U ih =>
    intro h
    by_cases h2 : U % 2 = 1
    · exact ⟨0, U / 2, by rw [Nat.pow_zero]; omega⟩
    · obtain ⟨k, m, e⟩ := ih (U / 2) (by omega) (by omega)
      exact ⟨k + 1, m, by rw [Nat.pow_succ, Nat.mul_assoc, Nat.mul_left_comm, ← e]; omega⟩
def deB : List Int := [0, 1, 56, 2, 57, 49, 28, 3, 61, 58, 42, 50, 38, 29, 17, 4, 62, 47, 59, 36, 45, 43, 51, 22, 53, 39, 33, 30, 24, 18, 12, 5, 63, 55, 48, 27, 60, 41, 37, 16, 46, 35, 44, 21, 52, 32, 23, 11, 54, 26, 40, 15, 34, 20, 31, 10, 25, 14, 19, 9, 13, 8, 7, 6]
theorem deB_at : ∀ k : Nat, k < 64 → deB.getD (((2 ^ k * 285870213051353865) % 18446744073709551616) / 288230376151711744) 0 = (k : Int) := by decide +kernel
def orF : Nat → List Int → Nat
  | u, [] => u
  | u, x :: t => orF (u ||| (x % 18446744073709551616).toNat) t
theorem x64_lt (x : Int) : (x % 18446744073709551616).toNat < 2 ^ 64 := by omega
theorem orF_lt : ∀ (xs : List Int) (u : Nat), u < 2 ^ 64 → orF u xs < 2 ^ 64
  | [], _, h => h
  | x :: t, u, h => orF_lt t _ (Nat.or_lt_two_pow h (x64_lt x))
theorem x_mod (x : Int) {j : Nat} (hj : j ≤ 64) : (x % 18446744073709551616).toNat % 2 ^ j = 0 ↔ x % 2 ^ j = 0 := by
  have hd : ((2 : Int) ^ j) ∣ 18446744073709551616 := by
    rw [show (18446744073709551616 : Int) = 2 ^ 64 by decide]
    exact ⟨2 ^ (64 - j), by rw [← Int.pow_add, Nat.add_sub_cancel' hj]⟩
  have h0 : 0 ≤ x % 18446744073709551616 := Int.emod_nonneg _ (by decide)
  have e : ((x % 18446744073709551616).toNat : Int) = x % 18446744073709551616 := Int.toNat_of_nonneg h0
  have e2 : (((x % 18446744073709551616).toNat % 2 ^ j : Nat) : Int) = x % 2 ^ j := by
    rw [Int.natCast_emod, e, Int.natCast_pow]
    exact Int.emod_emod_of_dvd x hd
  rw [← e2]
  omega
theorem orF_mod : ∀ (xs : List Int) (u : Nat) {j : Nat}, j ≤ 64 → (orF u xs % 2 ^ j = 0 ↔ u % 2 ^ j = 0 ∧ xs.all (fun x => decide (x % 2 ^ j = 0)) = true)
  | [], u, j, h => by simp [orF]
  | x :: t, u, j, h => by
    rw [orF, orF_mod t _ h, Nat.or_mod_two_pow, List.all_cons, Bool.and_eq_true, decide_eq_true_eq, ← x_mod x h, ← and_assoc]
    have : ∀ a b : Nat, a ||| b = 0 ↔ a = 0 ∧ b = 0 := fun a b => Nat.or_eq_zero_iff
    rw [this]
theorem or_step (u : Nat) (hu : u < 2 ^ 64) (x : Int) : bits .or .i64 (wrap64 u) x = wrap64 ((u ||| (x % 18446744073709551616).toNat : Nat) : Int) := by
  have h1 : BitVec.ofInt 64 (wrap64 u) = BitVec.ofNat 64 u := by
    apply BitVec.eq_of_toNat_eq
    rw [BitVec.toNat_ofInt, BitVec.toNat_ofNat, wrap64]
    omega
  have h2 : (BitVec.ofInt 64 x).toNat = (x % 18446744073709551616).toNat := by rw [BitVec.toNat_ofInt]; rfl
  show IntKind.i64.wrap ((BitVec.ofInt 64 (wrap64 u) ||| BitVec.ofInt 64 x).toNat : Int) = _
  rw [h1, BitVec.toNat_or, h2, BitVec.toNat_ofNat, Nat.mod_eq_of_lt hu, IntKind.wrap_i64, wrap64]
theorem pw_mod {k m j : Nat} : 2 ^ k * (2 * m + 1) % 2 ^ j = 0 ↔ j ≤ k := by
  constructor
  · intro h
    refine Nat.not_lt.1 fun hlt => ?_
    have h1 : 2 ^ (k + 1) ∣ 2 ^ k * (2 * m + 1) := Nat.dvd_trans (Nat.pow_dvd_pow 2 hlt) (Nat.dvd_of_mod_eq_zero h)
    rw [Nat.pow_succ] at h1
    have h2 := Nat.dvd_of_mul_dvd_mul_left (Nat.two_pow_pos k) h1
    omega
  · intro h
    exact Nat.mod_eq_zero_of_dvd (Nat.dvd_trans (Nat.pow_dvd_pow 2 h) (Nat.dvd_mul_right _ _))
theorem wst_min {xs : List Int} {k m : Nat} (hU : orF 0 xs = 2 ^ k * (2 * m + 1)) : ∀ n, n ≤ 64 → wst n xs = min n k
  | 0, _ => by rw [wst, Nat.zero_min]
  | n + 1, h => by
    have h1 := orF_mod xs 0 h
    rw [hU, pw_mod, Nat.zero_mod] at h1
    rw [wst, wst_min hU n (by omega)]
    by_cases h2 : n + 1 ≤ k
    · rw [if_pos (h1.1 h2).2]; omega
    · rw [if_neg (fun h3 => h2 (h1.2 ⟨rfl, h3⟩))]; omega
theorem orF_zero {xs : List Int} (h : orF 0 xs = 0) (hx : ∀ x ∈ xs, -9223372036854775808 ≤ x ∧ x ≤ 9223372036854775807) : ∀ x ∈ xs, x = 0 := by
  intro x hm
  have h1 := (orF_mod xs 0 (j := 64) (Nat.le_refl _)).1 (by rw [h])
  have h2 := of_decide_eq_true (List.all_eq_true.1 h1.2 x hm)
  have := hx x hm
  have e : (2 : Int) ^ 64 = 18446744073709551616 := by decide
  rw [e] at h2
  omega
/-- What TrailingZeros64 computes: the table at this place. -/
theorem tz_at {U k m : Nat} (hU : U = 2 ^ k * (2 * m + 1)) (hl : U < 2 ^ 64) : k < 64 ∧ U &&& (2 ^ 64 - U) = 2 ^ k := by
  refine ⟨(Nat.pow_lt_pow_iff_right (a := 2) (by decide)).1 (Nat.lt_of_le_of_lt ?_ hl), and_neg hU hl⟩
  rw [hU]; exact Nat.le_mul_of_pos_right _ (by omega)
end Go.Proofs.YtiokfaiioealdaaGreatDoor
