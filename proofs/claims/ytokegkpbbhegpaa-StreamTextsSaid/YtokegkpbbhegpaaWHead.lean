/- StreamHead, walked. -/
import Derived.Test.YtokegkpbbhegpaaPSx2
import Derived.Test.YtokegkpbbhegpaaPBack
import Derived.Laws.BitsLemmas
namespace Go.Proofs.Ytokegkpbbhegpaa.PS
open Go.RowKit Go.Proofs.YtokegkpbbhegpaaW.PrintWords Go.Proofs.YtokegkpbbhegpaaW.PrintLast Go.Proofs.YtokegkpbbhegpaaW.PrintMore Go.Proofs.Ytokegkpbbhegpaa.L
set_option linter.unusedVariables false
set_option linter.unusedSimpArgs false

theorem and_one (x : Int) : 0 ≤ bits .and .i64 x 1 ∧ bits .and .i64 x 1 ≤ 1 := by
  have h : ((BitVec.ofInt 64 x &&& BitVec.ofInt 64 1).toNat) ≤ 1 := by
    rw [BitVec.toNat_and]; exact Nat.and_le_right
  have e : bits .and .i64 x 1 = IntKind.i64.wrap (((BitVec.ofInt 64 x &&& BitVec.ofInt 64 1).toNat : Nat) : Int) := rfl
  rw [e, IntKind.wrap_i64]
  omega
theorem given_is : descantlaw23_given.f = some (1, 8, 4, 7, headS, tailS, [segS0, segS1]) := by kernel_rfl
theorem put_len {c b s f : Int} {h t : ByteArray} {l : List ByteArray} (hm : mayOk c b s f h t l = true) {n : Nat} (hn : (l.flatMap (fun x => x.data.toList)).length ≤ n) : (putB c b s f h t l).length ≤ 20004 + n := by
  obtain ⟨-, -, -, -, -, -, -, hh, ht, -, -⟩ := may_facts2 hm
  have := may_facts hm
  have := headB_length c b s f h t l this.2.2.1 this.2.2.2.1 this.2.2.2.2.1
  unfold putB
  rw [List.length_append, List.length_append]
  have e : (sumB (headB c b s f h t l)).length = 4 := rfl
  omega
set_option maxHeartbeats 4000000 in
set_option maxRecDepth 100000 in
theorem head_no (a b : ByteArray) (x V : Int) (w : World) (hV : bits .and .i64 x 1 = V) (hV0 : 0 ≤ V) (hV1 : V ≤ 1) (hno : 4096 < a.size ∨ 4096 < b.size) :
    Calls Try.prog 7 #[.string a, .string b, .int .i64 x] w fun e w' => e = .returned (.bool true) ∧ Below w.heap.size w w' := by
  have hm : mayOk 1 8 (4 + V) 7 a b [segS0, segS1] = false := by
    have : headOk 1 8 (4 + V) 7 a b = false := decide_eq_false (fun h => by omega)
    unfold mayOk; rw [this]; rfl
  have hput : stream_Put.f 1 8 (4 + V) 7 a b [segS0, segS1] = some (⟨#[]⟩, 2300) := by
    unfold stream_Put.f; rw [if_pos (by decide), hm, if_neg (by decide), if_neg (by decide)]
  have hgiv := Lib.hid given_is
  replace hput := Lib.hid hput
  clear hm
  generalize headS = HS at *
  generalize tailS = TS at *
  generalize [segS0, segS1] = L2 at *
  have hor : decide (4096 < (a.size : Int)) = true ∨ (decide (4096 < (a.size : Int)) = false ∧ decide (4096 < (b.size : Int)) = true) := by
    by_cases h : 4096 < (a.size : Int)
    · exact .inl (decide_eq_true h)
    · exact .inr ⟨decide_eq_false h, decide_eq_true (by omega)⟩
  clear hno
  go_enter Try.func7, Try.ntmps7
  go_wp2_with (first
    | (go_at_call 16; refine (descantlaw23_awake.calls _ _ rfl).mono ?_; rintro e w0 ⟨rfl, hb0⟩)
    | (go_at_call 17; refine (descantlaw23_given.calls _ _ _ _ _ _ _ _ hgiv.out).mono ?_; rintro e w1 ⟨v6, rfl, hV1', hb1⟩; obtain ⟨A1, c1, e1⟩ := Kd.R_slice hV1'; subst e1; have hB1 := below_next hb0 hb1; clear hb0 hb1)
    | (go_at_call 9; refine (stream_Put.calls _ _ _ _ _ _ A1 c1 L2 _ _ _ (Kd.C_alloc (Kd.R_reads' hV1').2.2 _) (Kd.R_reads' hV1').2.1 hput.out).mono ?_; rintro e w2 ⟨rfl, hb2⟩; have hB2 := below_next (L.below_alloc hB1 _) hb2; clear hb2 hV1' hB1)
    | (go_at_call 13; refine (descantlaw0_Num.calls _ _ _ rfl).mono ?_; rintro e w3 ⟨rfl, ⟨⟨m3, rfl⟩⟩⟩; have hB3 := L.below_drewN hB2 m3))
  all_goals
    go_ret
    exact ⟨by first | rfl | (rcases hor with h | ⟨h1, h2⟩ <;> simp_all), hB3⟩
set_option maxHeartbeats 4000000 in
set_option maxRecDepth 100000 in
theorem head_yes (a b : ByteArray) (x V : Int) (w : World) (hV : bits .and .i64 x 1 = V) (hV0 : 0 ≤ V) (hV1 : V ≤ 1) (ha : a.size ≤ 4096) (hb : b.size ≤ 4096) :
    Calls Try.prog 7 #[.string a, .string b, .int .i64 x] w fun e w' => e = .returned (.bool true) ∧ Below w.heap.size w w' := by
  have hm : mayOk 1 8 (4 + V) 7 a b [segS0, segS1] = true := by
    have : headOk 1 8 (4 + V) 7 a b = true := decide_eq_true ⟨by omega, by omega, by omega, by omega, by omega, by omega, ha, hb⟩
    unfold mayOk many; rw [this]
    have hv : V = 0 ∨ V = 1 := by omega
    rcases hv with rfl | rfl <;> decide +kernel
  obtain ⟨S, hS⟩ : ∃ S : ByteArray, (⟨(putB 1 8 (4 + V) 7 a b [segS0, segS1]).toArray⟩ : ByteArray) = S := ⟨_, rfl⟩
  have hget : stream_Get.f S = some (1, 8, 4 + V, 7, a, b, [segS0, segS1], 0) := by
    refine congrArg some (back hm (s := S) (by rw [← hS]) ?_)
    rw [size_list, ← hS]
    have := put_len hm (n := 19) (by decide +kernel)
    simp only []; omega
  have hput : stream_Put.f 1 8 (4 + V) 7 a b [segS0, segS1] = some (S, 0) := by
    unfold stream_Put.f; rw [if_pos (by decide), if_pos hm, if_pos hm, hS]
  have hsame : descantlaw0_SameTexts.f 9 [segS0, segS1] [segS0, segS1] = some true := by kernel_rfl
  have hgiv := Lib.hid given_is
  replace hput := Lib.hid hput
  replace hget := Lib.hid hget
  replace hsame := Lib.hid hsame
  clear hm hS
  generalize headS = HS at *
  generalize tailS = TS at *
  generalize [segS0, segS1] = L2 at *
  have ea : (a.toList == a.toList) = true := by simp
  have eb : (b.toList == b.toList) = true := by simp
  go_enter Try.func7, Try.ntmps7
  go_wp2_with (first
    | (go_at_call 16; refine (descantlaw23_awake.calls _ _ rfl).mono ?_; rintro e w0 ⟨rfl, hb0⟩)
    | (go_at_call 17; refine (descantlaw23_given.calls _ _ _ _ _ _ _ _ hgiv.out).mono ?_; rintro e w1 ⟨v6, rfl, hV1', hb1⟩; obtain ⟨A1, c1, e1⟩ := Kd.R_slice hV1'; subst e1; have hB1 := below_next hb0 hb1; clear hb0 hb1)
    | (go_at_call 9; refine (stream_Put.calls _ _ _ _ _ _ A1 c1 L2 _ _ _ (Kd.C_alloc (Kd.R_reads' hV1').2.2 _) (Kd.R_reads' hV1').2.1 hput.out).mono ?_; rintro e w2 ⟨rfl, hb2⟩; have hX2 := BC.below (BC.new w1 [.int .i64 1, .int .i64 8, .int .i64 (4 + V), .int .i64 7, .string a, .string b, .slice A1 L2.length c1] 26) hb2; have hV2 := Kd.R_below (Kd.R_alloc hV1' _) hb2; have hB2 := below_next (L.below_alloc hB1 _) hb2; clear hb2 hV1' hB1)
    | (go_at_call 13; have hguard := hX2; clear hguard; refine (descantlaw0_Num.calls _ _ _ rfl).mono ?_; rintro e w3 ⟨rfl, ⟨⟨m3, rfl⟩⟩⟩; have hX3 := BC.drewN hX2 m3; have hV3 := Kd.R_drewN hV2 m3; have hB3 := L.below_drewN hB2 m3; clear hX2 hV2 hB2)
    | (go_at_call 11; refine (stream_Get.calls _ _ _ _ _ _ _ _ _ _ hget.out).mono ?_; rintro e w4 ⟨v4, rfl, hW4, hb4⟩; have hX4 := BC.below hX3 hb4; have hV4 := Kd.R_below hV3 hb4; have hB4 := below_next hB3 hb4; obtain ⟨A4, c4, e4⟩ := Kd.R_slice hW4; subst e4; clear hX3 hV3 hB3 hb4; have hY4 := BC.new w4 [.int .i64 1, .int .i64 8, .int .i64 (4 + V), .int .i64 7, .string a, .string b, .slice A4 L2.length c4] 26; replace hX4 := BC.alloc hX4 (.cells #[.int .i64 1, .int .i64 8, .int .i64 (4 + V), .int .i64 7, .string a, .string b, .slice A4 L2.length c4] 26); replace hV4 := Kd.R_alloc hV4 (.cells #[.int .i64 1, .int .i64 8, .int .i64 (4 + V), .int .i64 7, .string a, .string b, .slice A4 L2.length c4] 26); replace hW4 := Kd.R_alloc hW4 (.cells #[.int .i64 1, .int .i64 8, .int .i64 (4 + V), .int .i64 7, .string a, .string b, .slice A4 L2.length c4] 26); replace hB4 := L.below_alloc hB4 (.cells #[.int .i64 1, .int .i64 8, .int .i64 (4 + V), .int .i64 7, .string a, .string b, .slice A4 L2.length c4] 26))
    | (go_at_call 13; have hguard := hX4; clear hguard; refine (descantlaw0_Num.calls _ _ _ rfl).mono ?_; rintro e w5 ⟨rfl, ⟨⟨m5, rfl⟩⟩⟩; have hX5 := BC.drewN hX4 m5; have hY5 := BC.drewN hY4 m5; have hV5 := Kd.R_drewN hV4 m5; have hW5 := Kd.R_drewN hW4 m5; clear hX4 hY4 hV4 hW4; have x2 := BC.at_ hX5 (o := 2) rfl; have x6 := BC.at_ hX5 (o := 6) rfl; have y2 := BC.at_ hY5 (o := 2) rfl; have y4 := BC.at_ hY5 (o := 4) rfl; have y5 := BC.at_ hY5 (o := 5) rfl; have y6 := BC.at_ hY5 (o := 6) rfl)
    | (go_at_call 19; refine (descantlaw0_SameTexts.calls 9 A4 c4 L2 A1 c1 L2 _ _ (Kd.R_reads' hW5).2.2 (Kd.R_reads' hW5).2.1 (Kd.R_reads' hV5).2.2 (Kd.R_reads' hV5).2.1 hsame.out).mono ?_; rintro e w6 ⟨rfl, ⟨⟨m6, rfl⟩⟩⟩))
  go_ret
  exact ⟨rfl, L.below_drewN hB4 _⟩
theorem streamHead_walk (a b : ByteArray) (x : Int) (w : World) : Calls Try.prog 7 #[.string a, .string b, .int .i64 x] w fun e w' => e = .returned (.bool true) ∧ Below w.heap.size w w' := by
  by_cases h : a.size ≤ 4096 ∧ b.size ≤ 4096
  · exact head_yes a b x _ w rfl (and_one x).1 (and_one x).2 h.1 h.2
  · exact head_no a b x _ w rfl (and_one x).1 (and_one x).2 (by omega)
end Go.Proofs.Ytokegkpbbhegpaa.PS
