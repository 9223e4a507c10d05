/- ResidualQuiet, walked. -/
import Derived.Test.YtbklhoeoamkboaaDoorMRC
namespace Go.Proofs.YtbklhoeoamkboaaDoor
open Go.RowKit Go.Proofs.YtbklhoeoamkboaaDoorW.PrintWords Go.Proofs.YtbklhoeoamkboaaDoorW.PrintLast Go.Proofs.YtbklhoeoamkboaaDoorW.PrintMore Go.Proofs.YtbklhoeoamkboaaDoor.L
set_option linter.unusedVariables false
set_option linter.unusedSimpArgs false
theorem mask8 (x : Int) : Go.bits .and .i64 x 255 = x % 256 := i64_mask 8 255 (by decide) (by decide) x
theorem make_z (m : Nat) (hm : m ≤ 65536) (W : World) : ∃ (A : Option Addr) (c : Nat) (W1 : World), (Instr.makeSlice 22 (.int .i64 (m : Int)) (.int .i64 (m : Int))).run Tryd.prog W = .ok (.slice A m c) W1 ∧ Kd.R (Kd.int .i64) 3 W1 W.heap.size (fun _ => True) (.slice A m c) (List.replicate m (0 : Int)) ∧ Below W.heap.size W W1 :=
  ⟨_, _, _, print_make_of 22 3 (.int .i64 0) 8 Tryd.underlying22 infoI rfl (by decide) m (by omega) W, Kd.R_of_own (enc := Value.int .i64) (by rw [List.length_replicate]; exact own_made_of (enc := Value.int .i64) (d := (0 : Int)) W W.heap.size 3 m (Nat.le_refl _) (by omega)) (fun _ _ => trivial), L.below_alloc (Below.refl _ _) _⟩
set_option maxHeartbeats 8000000 in
set_option maxRecDepth 100000 in
theorem residualQuiet_walk (a0 : Int) (w : World) (ht : Tab w) : Calls Tryd.prog 5 #[.int .i64 a0] w fun e w' => e = .returned (.bool true) ∧ Below w.heap.size w w' := by
  have haw := awake13 w ht
  have ht0 := Lib.hid ht
  obtain ⟨k, hbb, hk⟩ : ∃ k : Nat, Go.bits .and .i64 a0 255 = (k : Int) ∧ k < 256 := ⟨(a0 % 256).toNat, by rw [mask8]; omega, by omega⟩
  obtain ⟨zs, hzs⟩ : ∃ zs, List.replicate k (0 : Int) = zs := ⟨_, rfl⟩
  have hzl : zs.length = k := by rw [← hzs, List.length_replicate]
  have hput : putOk zs = true := by rw [← hzs]; exact put_zero (by omega)
  obtain ⟨t, htt⟩ : ∃ t : ByteArray, (⟨(putS mdot lR newM zs).toArray⟩ : ByteArray) = t := ⟨_, rfl⟩
  have htl : t.data.toList = putS mdot lR newM zs := by rw [← htt]
  have hts : t.size ≤ 8 + k / 16 := by rw [← ByteArray.size_data, ← Array.length_toList, htl, ← hzs]; exact quiet_len hk
  obtain ⟨q, hq⟩ : ∃ q : Int, Int.tdiv (k : Int) 16 = q := ⟨_, rfl⟩
  have hq2 : q = ((k / 16 : Nat) : Int) := by rw [← hq, Int.tdiv_eq_ediv_of_nonneg (by omega)]; omega
  have wq : wrap64 q = q := IntWalk.wrap64_in _ (by omega)
  have wq2 : IntKind.i64.wrap (8 + q) = 8 + q := IntWalk.i64_in _ (by omega)
  have dq : ((t.size : Int) ≤ 8 + q) = True := eq_true (by omega)
  replace hzs := Lib.hid hzs
  replace hzl := Lib.hid hzl
  replace hput := Lib.hid hput
  replace htt := Lib.hid htt
  replace htl := Lib.hid htl
  clear hts hq2 ht
  go_enter Tryd.func5, Tryd.ntmps5
  go_wp2_with (fail)
  refine haw.mono ?_
  rintro e w1 ⟨rfl, hb⟩
  clear haw
  go_wp2_with (first | ((with_reducible refine gate_dst (N := 14) rfl ?_); refine Kd.R_make (Kd.int .i64) (w0 := w1) w1.heap.size 3 ?hg (N := 14) ?hd 22 (.tmp 13) (.tmp 13) rfl (k : Int) rfl rfl Tryd.underlying22 (.int .i64 0) 8 infoI rfl (by decide) (by decide) (0 : Int) (ok := fun _ => True) (okp := fun _ => True) rfl (fun _ h => h) trivial (by omega) (by omega) (Below.refl _ _) (Nat.le_refl _) ?_; (case hd => rfl); (case hg => rfl); intro v14 w2 hR hb2 hgr_ hnew_; clear hgr_ hnew_; rw [Int.toNat_natCast, hzs.out] at hR; obtain ⟨A, c, e_⟩ := Kd.R_slice hR; subst e_))
  replace hb := below_next hb hb2
  clear hb2
  refine (rput_yes A c w2 (ht0.out.below hb) (Kd.R_reads' hR).2.2 (Kd.R_reads' hR).2.1 hput.out t htt.out).mono ?_
  rintro e w3 ⟨rfl, hb3⟩
  replace hb := below_next hb hb3
  clear hb3 hR
  go_wp2_with (fail)
  refine (rget_yes t k zs w3 (ht0.out.below hb) (by rw [htl.out, ← hzl.out]; exact put_back hput.out)).mono ?_
  rintro e w4 ⟨v4, rfl, hR, hb4⟩
  replace hb := below_next hb hb4
  clear hb4
  obtain ⟨A4, c4, e_⟩ := Kd.R_slice hR
  subst e_
  go_wp2_with (first | (go_at_call 10; refine (num_any _ _).mono ?_; rintro e w_ ⟨rfl, rfl⟩))
  obtain ⟨A5, c5, w5, hrun, hR5, hb5⟩ := make_z k (by omega) w4
  rw [hzs.out] at hR5
  rw [hrun]
  simp only [Result.andThen]
  rw [Oper.upon_value]
  replace hb := below_next hb hb5
  replace hR := Kd.R_below hR hb5
  have hsame := same_any A4 c4 _ zs A5 c5 _ zs w5 rfl hzl.out (Kd.R_reads' hR).2.2 (Kd.R_reads' hR).2.1 (by have := (Kd.R_reads' hR5).2.2; rwa [hzl.out] at this) (by have := (Kd.R_reads' hR5).2.1; omega) (by have := hzl.out; omega)
  rw [decide_eq_true (rfl : zs = zs)] at hsame
  clear hrun
  go_wp2_with (first | (go_at_call 12; refine hsame.mono ?_; rintro e w8 ⟨rfl, m8, rfl⟩))
  go_ret
  exact ⟨rfl, L.below_drewN hb m8⟩
end Go.Proofs.YtbklhoeoamkboaaDoor
