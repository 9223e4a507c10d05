/- ResidualForms, walked. -/
import Derived.Test.YtbklhoeoamkboaaDoorMRC
namespace Go.Proofs.YtbklhoeoamkboaaDoor
open Go.RowKit Go.Proofs.YtbklhoeoamkboaaDoorW.PrintWords Go.Proofs.YtbklhoeoamkboaaDoorW.PrintLast Go.Proofs.YtbklhoeoamkboaaDoorW.PrintMore Go.Proofs.YtbklhoeoamkboaaDoor.L
set_option linter.unusedVariables false
set_option linter.unusedSimpArgs false
theorem mask10 (x : Int) : Go.bits .and .i64 x 1023 = x % 1024 := i64_mask 10 1023 (by decide) (by decide) x
theorem mask1 (x : Int) : Go.bits .and .i64 x 1 = x % 2 := i64_mask 1 1 (by decide) (by decide) x
theorem make_b (m : Nat) (hm : m ≤ 1000000) (W : World) : ∃ (A : Option Addr) (c : Nat) (W1 : World), (Instr.makeSlice 33 (.int .i64 (m : Int)) (.int .i64 (m : Int))).run Tryd.prog W = .ok (.slice A m c) W1 ∧ (convert 33 9 (.slice A m c)).run Tryd.prog W1 = .ok (.string (strOfNums (List.replicate m (0 : Int)))) W1 ∧ Below W.heap.size W W1 :=
  ⟨_, _, _, print_make_of 33 5 (.int .u8 0) 1 Tryd.underlying33 (by kernel_rfl) rfl (by decide) m (by omega) W, own_string (base := W.heap.size) (e' := 5) (n := m) Tryd.underlying33 Tryd.underlying5 Tryd.underlying9 (own_made_of (enc := Value.int .u8) (d := (0 : Int)) W W.heap.size 5 m (Nat.le_refl _) (by omega)), L.below_alloc (Below.refl _ _) _⟩
theorem nil_end : PG.descantref1_EndCoder.f 5 0 4294967295 ⟨#[]⟩ = some (⟨#[0, 0, 0, 0]⟩, 0) := by kernel_rfl
theorem no_far {d : Int} (h : 1 ≤ d) : putOk [0, -16777216 - d] = false ∧ putOk [0, 16777216 + d] = false := by
  unfold putOk
  simp only [List.all_cons, List.all_nil]
  have h1 : numOk (-16777216 - d) = false := by unfold numOk; rw [decide_eq_false]; omega
  have h2 : numOk (16777216 + d) = false := by unfold numOk; rw [decide_eq_false]; omega
  rw [h1, h2]; simp
theorem no_many {k : Nat} (h : 256 < k) : putOk (List.replicate k 0) = false := by
  unfold putOk
  rw [List.length_replicate, decide_eq_false (by omega), Bool.false_and]
set_option maxHeartbeats 8000000 in
set_option maxRecDepth 100000 in
theorem forms_0 (a0 a1 : Int) (w : World) (ht : Tab w) (hr : Go.bits .and .i64 a0 1 = 0) : Calls Tryd.prog 4 #[.int .i64 a0, .int .i64 a1] w fun e w' => e = .returned (.bool true) ∧ Below w.heap.size w w' := by
  have haw := awake13 w ht
  have ht0 := Lib.hid ht
  obtain ⟨m, hm⟩ : ∃ m, Go.bits .and .i64 a1 1023 = m := ⟨_, rfl⟩
  have hm0 : 0 ≤ m ∧ m < 1024 := by rw [← hm, mask10]; omega
  obtain ⟨q, hq⟩ : ∃ q, Go.bits .and .i64 a0 3 = q := ⟨_, rfl⟩
  obtain ⟨d, hd⟩ : ∃ d, 1 + m = d := ⟨_, rfl⟩
  have hd0 : 1 ≤ d ∧ d ≤ 1024 := by omega
  obtain ⟨n, hn⟩ : ∃ n, 256 + d = n := ⟨_, rfl⟩
  obtain ⟨n2, hn2⟩ : ∃ n2, 65536 + d = n2 := ⟨_, rfl⟩
  have w0 : IntKind.i64.wrap d = d := IntWalk.i64_in _ (by omega)
  have w1' : IntKind.i64.wrap (-16777216 - d) = -16777216 - d := IntWalk.i64_in _ (by omega)
  have w2' : IntKind.i64.wrap (16777216 + d) = 16777216 + d := IntWalk.i64_in _ (by omega)
  have w3' : IntKind.i64.wrap n = n := IntWalk.i64_in _ (by omega)
  have w4' : IntKind.i64.wrap n2 = n2 := IntWalk.i64_in _ (by omega)
  have w5' : IntKind.i64.wrap (-d) = -d := IntWalk.i64_in _ (by omega)
  obtain ⟨N, hN⟩ : ∃ N : Nat, n = (N : Int) ∧ 256 < N ∧ N ≤ 2000 := ⟨n.toNat, by omega, by omega, by omega⟩
  obtain ⟨N2, hN2⟩ : ∃ N : Nat, n2 = (N : Int) ∧ 65536 < N ∧ N ≤ 100000 := ⟨n2.toNat, by omega, by omega, by omega⟩
  have hfar := (no_far hd0.1).1
  have hget : (-d < 0 ∨ 256 < -d) := by omega
  obtain ⟨zs, hzs⟩ : ∃ zs, List.replicate n.toNat (0 : Int) = zs := ⟨_, rfl⟩
  have hzn : putOk zs = false := by rw [← hzs, show n.toNat = N by omega]; exact no_many hN.2.1
  obtain ⟨nn, hnn⟩ : ∃ nn : ByteArray, (⟨#[0, 0, 0, 0]⟩ : ByteArray) = nn := ⟨_, rfl⟩
  have hput0 : (⟨(putS mdot lR newM []).toArray⟩ : ByteArray) = nn := by rw [putS_nil]; exact hnn
  have hget0 : getS mdot lR newM nn.data.toList (0 : Int) = some [] := by rw [← hput0]; exact put_back put_nil
  have hend := nil_end
  rw [hnn] at hend
  obtain ⟨t, htt⟩ : ∃ t : ByteArray, (⟨(putS mdot lR newM [1, 2, 3]).toArray⟩ : ByteArray) = t := ⟨_, rfl⟩
  have bn : 0 ≤ n ∧ n.toNat * 8 ≤ 281474976710656 := by omega
  replace hN := Lib.hid hN
  replace hN2 := Lib.hid hN2
  replace hfar := Lib.hid hfar
  replace hget := Lib.hid hget
  replace hzs := Lib.hid hzs
  replace hzn := Lib.hid hzn
  replace hnn := Lib.hid hnn
  replace hput0 := Lib.hid hput0
  replace hget0 := Lib.hid hget0
  replace hend := Lib.hid hend
  replace htt := Lib.hid htt
  replace bn := Lib.hid bn
  clear ht hm0 hd0
  go_enter Tryd.func4, Tryd.ntmps4
  go_wp2_with (fail)
  refine haw.mono ?_
  rintro e w1 ⟨rfl, hb⟩
  clear haw
  go_wp2_with (first | ((with_reducible refine gate_dst (N := 39) rfl ?_); refine Kd.R_lit (Kd.int .i64) (w0 := w1) (w1).heap.size 3 ?hg (N := 39) ?hd (xs := ([0, -16777216 - d] : List Int)) (inner := [.int .i64 (0), .int .i64 (-16777216 - d)]) (ok := fun _ => True) (okp := fun _ => True) ?hr ?hp (fun _ hk => hk) trivial (L.below_alloc (Below.refl w1.heap.size w1) _) (L.below_alloc (Below.refl w1.heap.size w1) _).size (by simp) ?_; (case hd => rfl); (case hg => rfl); (case hr => first | (go_simp; done) | (go_simp; rfl)); (case hp => exact (Reps.one (show Kd.M (Kd.int .i64) _ _ _ (0) [.int .i64 (0)] from rfl) (Reps.one (show Kd.M (Kd.int .i64) _ _ _ (-16777216 - d) [.int .i64 (-16777216 - d)] from rfl) (Reps.none _ _)))); intro v39 w2 hR hb2 hgr_ hnew_; clear hgr_ hnew_; obtain ⟨A39, c39, e_⟩ := Kd.R_slice hR; subst e_))
  replace hb := below_next hb hb2
  clear hb2
  refine (rput_no A39 c39 w2 (ht0.out.below hb) (Kd.R_reads' hR).2.2 (Kd.R_reads' hR).2.1 hfar.out).mono ?_
  rintro e w3 ⟨rfl, hb3⟩
  replace hb := below_next hb hb3
  clear hb3 hR
  go_wp2_with (first | ((with_reducible refine gate_dst (N := 46) rfl ?_); refine Kd.R_make (Kd.int .i64) (w0 := w3) w3.heap.size 3 ?hg (N := 46) ?hd 22 (.tmp 45) (.tmp 45) rfl n rfl rfl Tryd.underlying22 (.int .i64 0) 8 infoI rfl (by decide) (by decide) (0 : Int) (ok := fun _ => True) (okp := fun _ => True) rfl (fun _ h => h) trivial bn.out.1 bn.out.2 (Below.refl _ _) (Nat.le_refl _) ?_; (case hd => rfl); (case hg => rfl); intro v46 w4 hR hb4 hgr_ hnew_; clear hgr_ hnew_; rw [hzs.out] at hR; obtain ⟨A46, c46, e_⟩ := Kd.R_slice hR; subst e_))
  replace hb := below_next hb hb4
  clear hb4
  refine (rput_no A46 c46 w4 (ht0.out.below hb) (Kd.R_reads' hR).2.2 (Kd.R_reads' hR).2.1 hzn.out).mono ?_
  rintro e w5 ⟨rfl, hb5⟩
  replace hb := below_next hb hb5
  clear hb5 hR
  go_wp2_with (first | ((with_reducible refine gate_dst (N := 51) rfl ?_); refine Kd.R_lit (Kd.int .i64) (w0 := w5) (w5).heap.size 3 ?hg (N := 51) ?hd (xs := ([1, 2, 3] : List Int)) (inner := [.int .i64 (1), .int .i64 (2), .int .i64 (3)]) (ok := fun _ => True) (okp := fun _ => True) ?hr ?hp (fun _ hk => hk) trivial (Below.refl w5.heap.size w5) (Below.refl w5.heap.size w5).size (by simp) ?_; (case hd => rfl); (case hg => rfl); (case hr => first | (go_simp; done) | (go_simp; rfl)); (case hp => exact (Reps.one (show Kd.M (Kd.int .i64) _ _ _ (1) [.int .i64 (1)] from rfl) (Reps.one (show Kd.M (Kd.int .i64) _ _ _ (2) [.int .i64 (2)] from rfl) (Reps.one (show Kd.M (Kd.int .i64) _ _ _ (3) [.int .i64 (3)] from rfl) (Reps.none _ _))))); intro v51 w6 hR hb6 hgr_ hnew_; clear hgr_ hnew_; obtain ⟨A51, c51, e_⟩ := Kd.R_slice hR; subst e_))
  replace hb := below_next hb hb6
  clear hb6
  refine (rput_yes A51 c51 w6 (ht0.out.below hb) (Kd.R_reads' hR).2.2 (Kd.R_reads' hR).2.1 put_123 t htt.out).mono ?_
  rintro e w7 ⟨rfl, hb7⟩
  replace hb := below_next hb hb7
  clear hb7 hR
  go_wp2_with (fail)
  refine (rget_no t (-d) _ (ht0.out.below (L.below_alloc hb _)) (getS_many hget.out)).mono ?_
  rintro e w8 ⟨rfl, hb8⟩
  replace hb := below_next (L.below_alloc hb _) hb8
  clear hb8
  go_wp2_with (fail)
  obtain ⟨A9, c9, w9, hr9, hcv, hb9⟩ := make_b N2 (by have := hN2.out.2.2; omega) w8
  rw [← hN2.out.1] at hr9
  rw [hr9]
  simp only [Result.andThen]
  rw [Oper.upon_value]
  replace hb := below_next hb hb9
  clear hb9 hr9
  obtain ⟨S9, hS9⟩ : ∃ S, strOfNums (List.replicate N2 (0 : Int)) = S := ⟨_, rfl⟩
  have hS9l : getS mdot lR newM S9.data.toList 3 = none := by
    refine getS_long ?_
    rw [← hS9, strOfNums_data, List.length_map, List.length_replicate]
    exact hN2.out.2.1
  rw [hS9] at hcv
  replace hS9 := Lib.hid hS9
  replace hS9l := Lib.hid hS9l
  replace hcv := Lib.hid hcv
  go_wp2_with (fail)
  rw [hcv.out]
  simp only [Result.andThen]
  rw [Oper.upon_value]
  go_wp2_with (fail)
  refine (rget_no S9 3 w9 (ht0.out.below hb) hS9l.out).mono ?_
  rintro e w10 ⟨rfl, hb10⟩
  replace hb := below_next hb hb10
  clear hb10
  go_wp2_with (fail)
  refine (rget_no _ q w10 (ht0.out.below hb) (getS_nil q)).mono ?_
  rintro e w11 ⟨rfl, hb11⟩
  replace hb := below_next hb hb11
  clear hb11
  go_wp2_with (fail)
  have hnil : Kd.R (Kd.int .i64) 3 w11 w11.heap.size (fun _ => True) (.slice none 0 0) ([] : List Int) := Kd.R_nil _ _ _ _ _
  refine (rput_yes (rs := []) none 0 w11 (ht0.out.below hb) (Kd.R_reads' hnil).2.2 (Nat.le_refl _) put_nil nn hput0.out).mono ?_
  rintro e w12 ⟨rfl, hb12⟩
  replace hb := below_next hb hb12
  clear hb12 hnil
  go_wp2_with (fail)
  refine (rget_yes nn 0 [] w12 (ht0.out.below hb) hget0.out).mono ?_
  rintro e w13 ⟨v13, rfl, hR, hb13⟩
  replace hb := below_next hb hb13
  obtain ⟨A13, c13, e_⟩ := Kd.R_slice hR
  subst e_
  clear hb13 hR
  go_wp2_with (fail)
  refine (PG.descantref1_NewCoder.calls 0 4294967295 ⟨#[]⟩ _ rfl).mono ?_
  rintro e w14 ⟨rfl, hb14⟩
  replace hb := below_next hb hb14
  clear hb14
  go_wp2_with (fail)
  refine (PG.descantref1_EndCoder.calls 5 0 4294967295 ⟨#[]⟩ nn 0 _ hend.out).mono ?_
  rintro e w15 ⟨rfl, hb15⟩
  replace hb := below_next hb hb15
  clear hb15
  go_wp2_with (first | (go_at_call 10; refine (num_any _ _).mono ?_; rintro e w_ ⟨rfl, rfl⟩))
  go_ret
  exact ⟨rfl, hb⟩
set_option maxHeartbeats 8000000 in
set_option maxRecDepth 100000 in
theorem forms_1 (a0 a1 : Int) (w : World) (ht : Tab w) (hr : Go.bits .and .i64 a0 1 = 1) : Calls Tryd.prog 4 #[.int .i64 a0, .int .i64 a1] w fun e w' => e = .returned (.bool true) ∧ Below w.heap.size w w' := by
  have haw := awake13 w ht
  have ht0 := Lib.hid ht
  obtain ⟨m, hm⟩ : ∃ m, Go.bits .and .i64 a1 1023 = m := ⟨_, rfl⟩
  have hm0 : 0 ≤ m ∧ m < 1024 := by rw [← hm, mask10]; omega
  obtain ⟨q, hq⟩ : ∃ q, Go.bits .and .i64 a0 3 = q := ⟨_, rfl⟩
  obtain ⟨d, hd⟩ : ∃ d, 1 + m = d := ⟨_, rfl⟩
  have hd0 : 1 ≤ d ∧ d ≤ 1024 := by omega
  obtain ⟨n, hn⟩ : ∃ n, 256 + d = n := ⟨_, rfl⟩
  obtain ⟨n2, hn2⟩ : ∃ n2, 65536 + d = n2 := ⟨_, rfl⟩
  have w0 : IntKind.i64.wrap d = d := IntWalk.i64_in _ (by omega)
  have w1' : IntKind.i64.wrap (-16777216 - d) = -16777216 - d := IntWalk.i64_in _ (by omega)
  have w2' : IntKind.i64.wrap (16777216 + d) = 16777216 + d := IntWalk.i64_in _ (by omega)
  have w3' : IntKind.i64.wrap n = n := IntWalk.i64_in _ (by omega)
  have w4' : IntKind.i64.wrap n2 = n2 := IntWalk.i64_in _ (by omega)
  have w5' : IntKind.i64.wrap (-d) = -d := IntWalk.i64_in _ (by omega)
  obtain ⟨N, hN⟩ : ∃ N : Nat, n = (N : Int) ∧ 256 < N ∧ N ≤ 2000 := ⟨n.toNat, by omega, by omega, by omega⟩
  obtain ⟨N2, hN2⟩ : ∃ N : Nat, n2 = (N : Int) ∧ 65536 < N ∧ N ≤ 100000 := ⟨n2.toNat, by omega, by omega, by omega⟩
  have hfar := (no_far hd0.1).2
  have hget : (n < 0 ∨ 256 < n) := by omega
  obtain ⟨zs, hzs⟩ : ∃ zs, List.replicate n.toNat (0 : Int) = zs := ⟨_, rfl⟩
  have hzn : putOk zs = false := by rw [← hzs, show n.toNat = N by omega]; exact no_many hN.2.1
  obtain ⟨nn, hnn⟩ : ∃ nn : ByteArray, (⟨#[0, 0, 0, 0]⟩ : ByteArray) = nn := ⟨_, rfl⟩
  have hput0 : (⟨(putS mdot lR newM []).toArray⟩ : ByteArray) = nn := by rw [putS_nil]; exact hnn
  have hget0 : getS mdot lR newM nn.data.toList (0 : Int) = some [] := by rw [← hput0]; exact put_back put_nil
  have hend := nil_end
  rw [hnn] at hend
  obtain ⟨t, htt⟩ : ∃ t : ByteArray, (⟨(putS mdot lR newM [1, 2, 3]).toArray⟩ : ByteArray) = t := ⟨_, rfl⟩
  have bn : 0 ≤ n ∧ n.toNat * 8 ≤ 281474976710656 := by omega
  replace hN := Lib.hid hN
  replace hN2 := Lib.hid hN2
  replace hfar := Lib.hid hfar
  replace hget := Lib.hid hget
  replace hzs := Lib.hid hzs
  replace hzn := Lib.hid hzn
  replace hnn := Lib.hid hnn
  replace hput0 := Lib.hid hput0
  replace hget0 := Lib.hid hget0
  replace hend := Lib.hid hend
  replace htt := Lib.hid htt
  replace bn := Lib.hid bn
  clear ht hm0 hd0
  go_enter Tryd.func4, Tryd.ntmps4
  go_wp2_with (fail)
  refine haw.mono ?_
  rintro e w1 ⟨rfl, hb⟩
  clear haw
  go_wp2_with (first | ((with_reducible refine gate_dst (N := 39) rfl ?_); refine Kd.R_lit (Kd.int .i64) (w0 := w1) (w1).heap.size 3 ?hg (N := 39) ?hd (xs := ([0, 16777216 + d] : List Int)) (inner := [.int .i64 (0), .int .i64 (16777216 + d)]) (ok := fun _ => True) (okp := fun _ => True) ?hr ?hp (fun _ hk => hk) trivial (L.below_alloc (Below.refl w1.heap.size w1) _) (L.below_alloc (Below.refl w1.heap.size w1) _).size (by simp) ?_; (case hd => rfl); (case hg => rfl); (case hr => first | (go_simp; done) | (go_simp; rfl)); (case hp => exact (Reps.one (show Kd.M (Kd.int .i64) _ _ _ (0) [.int .i64 (0)] from rfl) (Reps.one (show Kd.M (Kd.int .i64) _ _ _ (16777216 + d) [.int .i64 (16777216 + d)] from rfl) (Reps.none _ _)))); intro v39 w2 hR hb2 hgr_ hnew_; clear hgr_ hnew_; obtain ⟨A39, c39, e_⟩ := Kd.R_slice hR; subst e_))
  replace hb := below_next hb hb2
  clear hb2
  refine (rput_no A39 c39 w2 (ht0.out.below hb) (Kd.R_reads' hR).2.2 (Kd.R_reads' hR).2.1 hfar.out).mono ?_
  rintro e w3 ⟨rfl, hb3⟩
  replace hb := below_next hb hb3
  clear hb3 hR
  go_wp2_with (first | ((with_reducible refine gate_dst (N := 46) rfl ?_); refine Kd.R_make (Kd.int .i64) (w0 := w3) w3.heap.size 3 ?hg (N := 46) ?hd 22 (.tmp 45) (.tmp 45) rfl n rfl rfl Tryd.underlying22 (.int .i64 0) 8 infoI rfl (by decide) (by decide) (0 : Int) (ok := fun _ => True) (okp := fun _ => True) rfl (fun _ h => h) trivial bn.out.1 bn.out.2 (Below.refl _ _) (Nat.le_refl _) ?_; (case hd => rfl); (case hg => rfl); intro v46 w4 hR hb4 hgr_ hnew_; clear hgr_ hnew_; rw [hzs.out] at hR; obtain ⟨A46, c46, e_⟩ := Kd.R_slice hR; subst e_))
  replace hb := below_next hb hb4
  clear hb4
  refine (rput_no A46 c46 w4 (ht0.out.below hb) (Kd.R_reads' hR).2.2 (Kd.R_reads' hR).2.1 hzn.out).mono ?_
  rintro e w5 ⟨rfl, hb5⟩
  replace hb := below_next hb hb5
  clear hb5 hR
  go_wp2_with (first | ((with_reducible refine gate_dst (N := 51) rfl ?_); refine Kd.R_lit (Kd.int .i64) (w0 := w5) (w5).heap.size 3 ?hg (N := 51) ?hd (xs := ([1, 2, 3] : List Int)) (inner := [.int .i64 (1), .int .i64 (2), .int .i64 (3)]) (ok := fun _ => True) (okp := fun _ => True) ?hr ?hp (fun _ hk => hk) trivial (Below.refl w5.heap.size w5) (Below.refl w5.heap.size w5).size (by simp) ?_; (case hd => rfl); (case hg => rfl); (case hr => first | (go_simp; done) | (go_simp; rfl)); (case hp => exact (Reps.one (show Kd.M (Kd.int .i64) _ _ _ (1) [.int .i64 (1)] from rfl) (Reps.one (show Kd.M (Kd.int .i64) _ _ _ (2) [.int .i64 (2)] from rfl) (Reps.one (show Kd.M (Kd.int .i64) _ _ _ (3) [.int .i64 (3)] from rfl) (Reps.none _ _))))); intro v51 w6 hR hb6 hgr_ hnew_; clear hgr_ hnew_; obtain ⟨A51, c51, e_⟩ := Kd.R_slice hR; subst e_))
  replace hb := below_next hb hb6
  clear hb6
  refine (rput_yes A51 c51 w6 (ht0.out.below hb) (Kd.R_reads' hR).2.2 (Kd.R_reads' hR).2.1 put_123 t htt.out).mono ?_
  rintro e w7 ⟨rfl, hb7⟩
  replace hb := below_next hb hb7
  clear hb7 hR
  go_wp2_with (fail)
  refine (rget_no t (n) _ (ht0.out.below (L.below_alloc hb _)) (getS_many hget.out)).mono ?_
  rintro e w8 ⟨rfl, hb8⟩
  replace hb := below_next (L.below_alloc hb _) hb8
  clear hb8
  go_wp2_with (fail)
  obtain ⟨A9, c9, w9, hr9, hcv, hb9⟩ := make_b N2 (by have := hN2.out.2.2; omega) w8
  rw [← hN2.out.1] at hr9
  rw [hr9]
  simp only [Result.andThen]
  rw [Oper.upon_value]
  replace hb := below_next hb hb9
  clear hb9 hr9
  obtain ⟨S9, hS9⟩ : ∃ S, strOfNums (List.replicate N2 (0 : Int)) = S := ⟨_, rfl⟩
  have hS9l : getS mdot lR newM S9.data.toList 3 = none := by
    refine getS_long ?_
    rw [← hS9, strOfNums_data, List.length_map, List.length_replicate]
    exact hN2.out.2.1
  rw [hS9] at hcv
  replace hS9 := Lib.hid hS9
  replace hS9l := Lib.hid hS9l
  replace hcv := Lib.hid hcv
  go_wp2_with (fail)
  rw [hcv.out]
  simp only [Result.andThen]
  rw [Oper.upon_value]
  go_wp2_with (fail)
  refine (rget_no S9 3 w9 (ht0.out.below hb) hS9l.out).mono ?_
  rintro e w10 ⟨rfl, hb10⟩
  replace hb := below_next hb hb10
  clear hb10
  go_wp2_with (fail)
  refine (rget_no _ q w10 (ht0.out.below hb) (getS_nil q)).mono ?_
  rintro e w11 ⟨rfl, hb11⟩
  replace hb := below_next hb hb11
  clear hb11
  go_wp2_with (fail)
  have hnil : Kd.R (Kd.int .i64) 3 w11 w11.heap.size (fun _ => True) (.slice none 0 0) ([] : List Int) := Kd.R_nil _ _ _ _ _
  refine (rput_yes (rs := []) none 0 w11 (ht0.out.below hb) (Kd.R_reads' hnil).2.2 (Nat.le_refl _) put_nil nn hput0.out).mono ?_
  rintro e w12 ⟨rfl, hb12⟩
  replace hb := below_next hb hb12
  clear hb12 hnil
  go_wp2_with (fail)
  refine (rget_yes nn 0 [] w12 (ht0.out.below hb) hget0.out).mono ?_
  rintro e w13 ⟨v13, rfl, hR, hb13⟩
  replace hb := below_next hb hb13
  obtain ⟨A13, c13, e_⟩ := Kd.R_slice hR
  subst e_
  clear hb13 hR
  go_wp2_with (fail)
  refine (PG.descantref1_NewCoder.calls 0 4294967295 ⟨#[]⟩ _ rfl).mono ?_
  rintro e w14 ⟨rfl, hb14⟩
  replace hb := below_next hb hb14
  clear hb14
  go_wp2_with (fail)
  refine (PG.descantref1_EndCoder.calls 5 0 4294967295 ⟨#[]⟩ nn 0 _ hend.out).mono ?_
  rintro e w15 ⟨rfl, hb15⟩
  replace hb := below_next hb hb15
  clear hb15
  go_wp2_with (first | (go_at_call 10; refine (num_any _ _).mono ?_; rintro e w_ ⟨rfl, rfl⟩))
  go_ret
  exact ⟨rfl, hb⟩
theorem residualForms_walk (a0 a1 : Int) (w : World) (ht : Tab w) : Calls Tryd.prog 4 #[.int .i64 a0, .int .i64 a1] w fun e w' => e = .returned (.bool true) ∧ Below w.heap.size w w' := by
  have h := mask1 a0
  have h2 : a0 % 2 = 0 ∨ a0 % 2 = 1 := by omega
  rcases h2 with h2 | h2
  · exact forms_0 a0 a1 w ht (h.trans h2)
  · exact forms_1 a0 a1 w ht (h.trans h2)
end Go.Proofs.YtbklhoeoamkboaaDoor
