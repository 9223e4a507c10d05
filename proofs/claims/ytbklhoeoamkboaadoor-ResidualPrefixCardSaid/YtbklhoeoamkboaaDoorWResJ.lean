/- ResidualPrefix, walked. -/
import Derived.Test.YtbklhoeoamkboaaDoorMRC
namespace Go.Proofs.YtbklhoeoamkboaaDoor
open Go.RowKit Go.Proofs.YtbklhoeoamkboaaDoorW.PrintWords Go.Proofs.YtbklhoeoamkboaaDoorW.PrintLast Go.Proofs.YtbklhoeoamkboaaDoorW.PrintMore Go.Proofs.YtbklhoeoamkboaaDoor.L
set_option linter.unusedVariables false
set_option linter.unusedSimpArgs false
theorem rput_le {rs : List Int} (A : Option Addr) (cap : Nat) (w : World) (ht : Tab w) (hC : Kd.C (Kd.int .i64) w A rs.length rs) (hc : rs.length ≤ cap) (T : ByteArray) (E : Int) (hT : (if putOk rs = true then (⟨(putS mdot lR newM rs).toArray⟩ : ByteArray) else ⟨#[]⟩) = T) (hE : (if putOk rs = true then (0 : Int) else 1300) = E) :
    Calls Tryd.prog 9 #[.slice A rs.length cap] w fun e w' => e = .returned (.tuple #[.string T, .int .i64 E]) ∧ Below w.heap.size w w' := by
  have := rput_any rs A cap w ht hC hc
  rw [hT, hE] at this
  exact this
theorem size_putS (rs : List Int) : (⟨(putS mdot lR newM rs).toArray⟩ : ByteArray).size = (putS mdot lR newM rs).length := by rw [← ByteArray.size_data, ← Array.length_toList]
theorem prefix_fact (rs : List Int) (b : Int) (b0 : 0 ≤ b) (b1 : b ≤ 65535) (T0 T1 T2 : ByteArray) (E0 E1 E2 : Int)
    (h0 : (if putOk rs = true then (⟨(putS mdot lR newM rs).toArray⟩ : ByteArray) else ⟨#[]⟩) = T0) (g0 : (if putOk rs = true then (0 : Int) else 1300) = E0)
    (h1 : (if putOk (rs ++ [b]) = true then (⟨(putS mdot lR newM (rs ++ [b])).toArray⟩ : ByteArray) else ⟨#[]⟩) = T1) (g1 : (if putOk (rs ++ [b]) = true then (0 : Int) else 1300) = E1)
    (h2 : (if putOk (rs ++ [b + 1]) = true then (⟨(putS mdot lR newM (rs ++ [b + 1])).toArray⟩ : ByteArray) else ⟨#[]⟩) = T2) (g2 : (if putOk (rs ++ [b + 1]) = true then (0 : Int) else 1300) = E2) :
    (E0 = 0 ∧ E1 = 0 ∧ E2 = 0 ∧ (T1.toList == T2.toList) = false ∧ T0.size ≤ T1.size ∧ T0.size ≤ T2.size) ∨ (E0 = 1300 ∧ E1 = 1300 ∧ E2 = 1300) ∨ (E0 = 0 ∧ E1 = 1300 ∧ E2 = 1300 ∧ 256 ≤ rs.length) := by
  have n1 : numOk b = true := by unfold numOk; rw [decide_eq_true]; omega
  have n2 : numOk (b + 1) = true := by unfold numOk; rw [decide_eq_true]; omega
  have p1 := putOk_snoc rs b
  have p2 := putOk_snoc rs (b + 1)
  rw [n1] at p1
  rw [n2] at p2
  by_cases hp : putOk rs = true
  · rw [if_pos hp] at h0 g0
    rw [hp] at p1 p2
    by_cases hl : rs.length < 256
    · rw [decide_eq_true hl] at p1 p2
      have p1 : putOk (rs ++ [b]) = true := p1
      have p2 : putOk (rs ++ [b + 1]) = true := p2
      rw [if_pos p1] at h1 g1
      rw [if_pos p2] at h2 g2
      refine .inl ⟨g0.symm, g1.symm, g2.symm, ?_, ?_, ?_⟩
      · rw [Go.ByteArray.toList_eq, Go.ByteArray.toList_eq]
        refine beq_eq_false_iff_ne.2 fun h => ?_
        rw [← h1, ← h2] at h
        have := put_inj p1 p2 (by rw [List.length_append, List.length_append]; rfl) (by simpa using h)
        have := List.append_cancel_left this
        have : b = b + 1 := by simpa using this
        omega
      · rw [← h0, ← h1, size_putS, size_putS]; exact putS_more _ _
      · rw [← h0, ← h2, size_putS, size_putS]; exact putS_more _ _
    · rw [decide_eq_false hl] at p1 p2
      have p1 : putOk (rs ++ [b]) = false := p1
      have p2 : putOk (rs ++ [b + 1]) = false := p2
      rw [p1] at g1
      rw [p2] at g2
      exact .inr (.inr ⟨g0.symm, g1.symm, g2.symm, by omega⟩)
  · rw [if_neg hp] at g0
    have hpf : putOk rs = false := by simpa using hp
    rw [hpf, Bool.false_and, Bool.and_false] at p1 p2
    rw [p1] at g1
    rw [p2] at g2
    exact .inr (.inl ⟨g0.symm, g1.symm, g2.symm⟩)
theorem mask16 (x : Int) : Go.bits .and .i64 x 65535 = x % 65536 := i64_mask 16 65535 (by decide) (by decide) x
set_option maxHeartbeats 8000000 in
set_option maxRecDepth 100000 in
theorem residualPrefix_walk (A : Option Addr) (cap : Nat) (rs : List Int) (a1 : Int) (w : World) (ht : Tab w) (hC : Kd.C (Kd.int .i64) w A rs.length rs) (hc : rs.length ≤ cap) (hm : rs.length * 8 ≤ 140737488351232) :
    Calls Tryd.prog 7 #[.slice A rs.length cap, .int .i64 a1] w fun e w' => e = .returned (.bool true) ∧ Below w.heap.size w w' := by
  have haw := awake13 w ht
  have ht0 := Lib.hid ht
  have hC0 := Lib.hid hC
  obtain ⟨b, hbb⟩ : ∃ b, Go.bits .and .i64 a1 65535 = b := ⟨_, rfl⟩
  have hb0 : 0 ≤ b ∧ b ≤ 65535 := by rw [← hbb, mask16]; omega
  have wb : IntKind.i64.wrap (b + 1) = b + 1 := IntWalk.i64_in _ (by omega)
  obtain ⟨T0, h0⟩ : ∃ T, (if putOk rs = true then (⟨(putS mdot lR newM rs).toArray⟩ : ByteArray) else ⟨#[]⟩) = T := ⟨_, rfl⟩
  obtain ⟨E0, g0⟩ : ∃ E, (if putOk rs = true then (0 : Int) else 1300) = E := ⟨_, rfl⟩
  obtain ⟨T1, h1⟩ : ∃ T, (if putOk (rs ++ [b]) = true then (⟨(putS mdot lR newM (rs ++ [b])).toArray⟩ : ByteArray) else ⟨#[]⟩) = T := ⟨_, rfl⟩
  obtain ⟨E1, g1⟩ : ∃ E, (if putOk (rs ++ [b]) = true then (0 : Int) else 1300) = E := ⟨_, rfl⟩
  obtain ⟨T2, h2⟩ : ∃ T, (if putOk (rs ++ [b + 1]) = true then (⟨(putS mdot lR newM (rs ++ [b + 1])).toArray⟩ : ByteArray) else ⟨#[]⟩) = T := ⟨_, rfl⟩
  obtain ⟨E2, g2⟩ : ∃ E, (if putOk (rs ++ [b + 1]) = true then (0 : Int) else 1300) = E := ⟨_, rfl⟩
  have hfact := Lib.hid (prefix_fact rs b hb0.1 hb0.2 T0 T1 T2 E0 E1 E2 h0 g0 h1 g1 h2 g2)
  obtain ⟨xs, hxs⟩ : ∃ xs, rs ++ [b] = xs := ⟨_, rfl⟩
  obtain ⟨ys, hys⟩ : ∃ ys, rs ++ [b + 1] = ys := ⟨_, rfl⟩
  rw [hxs] at h1 g1
  rw [hys] at h2 g2
  have H0 := Lib.hid h0; have G0 := Lib.hid g0; have H1 := Lib.hid h1; have G1 := Lib.hid g1; have H2 := Lib.hid h2; have G2 := Lib.hid g2
  replace hxs := Lib.hid hxs
  replace hys := Lib.hid hys
  clear ht hC h0 g0 h1 g1 h2 g2 hb0
  go_enter Tryd.func7, Tryd.ntmps7
  go_wp2_with (fail)
  refine haw.mono ?_
  rintro e w1 ⟨rfl, hb⟩
  clear haw
  go_wp2_with (fail)
  refine (rput_le A cap w1 (ht0.out.below hb) (Kd.C_below hC0.out hb) hc T0 E0 H0.out G0.out).mono ?_
  rintro e w2 ⟨rfl, hb2⟩
  replace hb := below_next hb hb2
  clear hb2
  have hC2 := Kd.C_below hC0.out hb
  go_wp2_with (first | ((with_reducible refine gate_dst (N := 20) rfl ?_); refine Kd.R_lit (Kd.int .i64) (w0 := w2) (w2).heap.size 3 ?hg (N := 20) ?hd (xs := ([] : List Int)) (inner := []) (ok := fun _ => True) (okp := fun _ => True) ?hr ?hp (fun _ hk => hk) trivial (Below.refl _ _) (Nat.le_refl _) (by decide) ?_; (case hd => rfl); (case hg => rfl); (case hr => first | (go_simp; done) | (go_simp; rfl)); (case hp => exact (Reps.none _ _)); intro v20 w3 hR20 hb3 hgr_ hnew_; clear hgr_ hnew_; obtain ⟨A20, c20, e_⟩ := Kd.R_slice hR20; subst e_) | ((with_reducible refine gate_builtin (b := .append) (xs := #[.tmp 20, .tmp 21]) rfl ?_); at_builtin; refine Kd.R_append_row (Value.int .i64) (0 : Int) (h1 := fun _ => rfl) (w0 := w2) (w2).heap.size rfl (.tmp 20) (.tmp 21) 22 3 (.int .i64 0) 8 rfl Tryd.underlying22 infoI rfl (by decide) (.slice A20 ([] : List Int).length c20) ([] : List Int) rs A rs.length cap (fun _ => True) rfl rfl (fun _ _ => trivial) hR20 (Kd.C_below hC2 hb3) hb3 hb3.size (by simp; omega) ?_; intro v22 w4 hR22 hb4 hgr_ hat_; clear hgr_ hat_; rw [List.nil_append] at hR22; obtain ⟨A22, c22, e_⟩ := Kd.R_slice hR22; subst e_) | ((with_reducible refine gate_builtin (b := .append) (xs := #[.tmp 23, .tmp 26]) rfl ?_); at_builtin; refine Kd.R_append (Kd.int .i64) (w0 := w2) (w2).heap.size rfl (.tmp 23) (.tmp 26) 22 3 (.int .i64 0) 8 rfl Tryd.underlying22 infoI rfl (by decide) (by omega) (.slice A22 rs.length c22) rs (b) [.int .i64 (b)] (fun _ => True) (fun _ => False) rfl rfl ?aP (fun _ hk => hk.elim) ?aF ?aO ?aB ?aS ?aL ?_; (case aP => exact rfl); (case aB => exact hb4); (case aF => exact (fun _ _ => trivial)); (case aO => exact hR22); (case aS => exact hb4.size); (case aL => omega); intro v27 w5 hR27 hb5 hgr_ hat_; clear hgr_ hat_; rw [hxs.out] at hR27; obtain ⟨A27, c27, e_⟩ := Kd.R_slice hR27; subst e_) | ((with_reducible refine gate_dst (N := 28) rfl ?_); refine Kd.R_lit (Kd.int .i64) (w0 := w5) (w5).heap.size 3 ?hg (N := 28) ?hd (xs := ([] : List Int)) (inner := []) (ok := fun _ => True) (okp := fun _ => True) ?hr ?hp (fun _ hk => hk) trivial (Below.refl _ _) (Nat.le_refl _) (by decide) ?_; (case hd => rfl); (case hg => rfl); (case hr => first | (go_simp; done) | (go_simp; rfl)); (case hp => exact (Reps.none _ _)); intro v28 w6 hR28 hb6 hgr_ hnew_; clear hgr_ hnew_; obtain ⟨A28, c28, e_⟩ := Kd.R_slice hR28; subst e_) | ((with_reducible refine gate_builtin (b := .append) (xs := #[.tmp 28, .tmp 29]) rfl ?_); at_builtin; refine Kd.R_append_row (Value.int .i64) (0 : Int) (h1 := fun _ => rfl) (w0 := w5) (w5).heap.size rfl (.tmp 28) (.tmp 29) 22 3 (.int .i64 0) 8 rfl Tryd.underlying22 infoI rfl (by decide) (.slice A28 ([] : List Int).length c28) ([] : List Int) rs A rs.length cap (fun _ => True) rfl rfl (fun _ _ => trivial) hR28 (Kd.C_below (Kd.C_below hC2 hb5) hb6) hb6 hb6.size (by simp; omega) ?_; intro v30 w7 hR30 hb7 hgr_ hat_; clear hgr_ hat_; rw [List.nil_append] at hR30; obtain ⟨A30, c30, e_⟩ := Kd.R_slice hR30; subst e_) | ((with_reducible refine gate_builtin (b := .append) (xs := #[.tmp 31, .tmp 35]) rfl ?_); at_builtin; refine Kd.R_append (Kd.int .i64) (w0 := w5) (w5).heap.size rfl (.tmp 31) (.tmp 35) 22 3 (.int .i64 0) 8 rfl Tryd.underlying22 infoI rfl (by decide) (by omega) (.slice A30 rs.length c30) rs (b + 1) [.int .i64 (b + 1)] (fun _ => True) (fun _ => False) rfl rfl ?aP (fun _ hk => hk.elim) ?aF ?aO ?aB ?aS ?aL ?_; (case aP => exact rfl); (case aB => exact hb7); (case aF => exact (fun _ _ => trivial)); (case aO => exact hR30); (case aS => exact hb7.size); (case aL => omega); intro v36 w8 hR36 hb8 hgr_ hat_; clear hgr_ hat_; rw [hys.out] at hR36; obtain ⟨A36, c36, e_⟩ := Kd.R_slice hR36; subst e_))
  have hR27' := Kd.R_below hR27 hb8
  replace hb := below_next (below_next hb hb5) hb8
  clear hR20 hb3 hR22 hb4 hb5 hR28 hb6 hR30 hb7 hb8 hR27 hC2
  refine (rput_le A27 c27 w8 (ht0.out.below hb) (Kd.R_reads' hR27').2.2 (Kd.R_reads' hR27').2.1 T1 E1 H1.out G1.out).mono ?_
  rintro e w9 ⟨rfl, hb9⟩
  replace hR36 := Kd.R_below hR36 hb9
  replace hb := below_next hb hb9
  clear hb9 hR27'
  go_wp2_with (fail)
  refine (rput_le A36 c36 w9 (ht0.out.below hb) (Kd.R_reads' hR36).2.2 (Kd.R_reads' hR36).2.1 T2 E2 H2.out G2.out).mono ?_
  rintro e w10 ⟨rfl, hb10⟩
  replace hb := below_next hb hb10
  clear hb10 hR36 H0 H1 H2 G0 G1 G2
  rcases hfact.out with ⟨rfl, rfl, rfl, h1, h2, h3⟩ | ⟨rfl, rfl, rfl⟩ | ⟨rfl, rfl, rfl, h4⟩
  · have h2 := eq_true h2
    have h3 := eq_true h3
    go_wp2_with (first | (go_at_call 10; refine (num_any _ _).mono ?_; rintro e w_ ⟨rfl, rfl⟩))
    go_ret
    exact ⟨rfl, hb⟩
  · go_wp2_with (first | (go_at_call 10; refine (num_any _ _).mono ?_; rintro e w_ ⟨rfl, rfl⟩))
    go_ret
    exact ⟨rfl, hb⟩
  · have h4 := eq_true (show (256 : Int) ≤ (rs.length : Int) by omega)
    go_wp2_with (first | (go_at_call 10; refine (num_any _ _).mono ?_; rintro e w_ ⟨rfl, rfl⟩))
    go_ret
    exact ⟨rfl, hb⟩
end Go.Proofs.YtbklhoeoamkboaaDoor
