/- Residuals, walked. -/
import Derived.Test.YtiokfaiioealdaaGreatDoorMRD
namespace Go.Proofs.YtiokfaiioealdaaGreatDoor
open Go.RowKit Go.Proofs.YtiokfaiioealdaaGreatDoorW.PrintWords Go.Proofs.YtiokfaiioealdaaGreatDoorW.PrintLast Go.Proofs.YtiokfaiioealdaaGreatDoorW.PrintMore Go.Proofs.YtiokfaiioealdaaGreatDoor.L
set_option linter.unusedVariables false
set_option linter.unusedSimpArgs false
set_option maxHeartbeats 4000000 in
theorem copy_any (A : Option Addr) (cap : Nat) (rs : List Int) (w : World) (hC : Kd.C (Kd.int .i64) w A rs.length rs) (hc : rs.length ≤ cap) (hm : rs.length * 8 ≤ 140737488351232) :
    Calls Tryz.prog 33 #[.slice A rs.length cap] w fun e w' => ∃ (A2 : Option Addr) (c2 : Nat), e = .returned (.slice A2 rs.length c2) ∧ Kd.R (Kd.int .i64) 3 w' w.heap.size (fun _ => True) (.slice A2 rs.length c2) rs ∧ Below w.heap.size w w' := by
  go_enter Tryz.func33, Tryz.ntmps33
  go_wp2_with (first | ((with_reducible refine gate_dst (N := 3) rfl ?_); refine Kd.R_lit (Kd.int .i64) (w0 := w) (w).heap.size 3 ?hg (N := 3) ?hd (xs := ([] : List Int)) (inner := []) (ok := fun _ => True) (okp := fun _ => True) ?hr ?hp (fun _ hk => hk) trivial (Below.refl _ _) (Nat.le_refl _) (by decide) ?_; (case hd => rfl); (case hg => rfl); (case hr => first | (go_simp; done) | (go_simp; rfl)); (case hp => exact (Reps.none _ _)); intro v20 w3 hR20 hb3 hgr_ hnew_; clear hgr_ hnew_; obtain ⟨A20, c20, e_⟩ := Kd.R_slice hR20; subst e_) | ((with_reducible refine gate_builtin (b := .append) (xs := #[.tmp 3, .tmp 4]) rfl ?_); at_builtin; refine Kd.R_append_row (Value.int .i64) (0 : Int) (h1 := fun _ => rfl) (w0 := w) (w).heap.size rfl (.tmp 3) (.tmp 4) 22 3 (.int .i64 0) 8 rfl Tryz.underlying22 infoI rfl (by decide) (.slice A20 ([] : List Int).length c20) ([] : List Int) rs A rs.length cap (fun _ => True) rfl rfl (fun _ _ => trivial) hR20 (Kd.C_below hC hb3) hb3 hb3.size (by simp; omega) ?_; intro v22 w4 hR22 hb4 hgr_ hat_; clear hgr_ hat_; rw [List.nil_append] at hR22; obtain ⟨A22, c22, e_⟩ := Kd.R_slice hR22; subst e_))
  go_ret
  exact ⟨A22, c22, rfl, hR22, hb4⟩
set_option maxHeartbeats 4000000 in
theorem lend_any (A : Option Addr) (cap : Nat) (rs : List Int) (w : World) (hC : Kd.C (Kd.int .i64) w A rs.length rs) (hc : rs.length ≤ cap) (hm : rs.length * 8 ≤ 140737488351232) :
    Calls Tryz.prog 13 #[.slice A rs.length cap] w fun e w' => ∃ (A2 : Option Addr) (c2 : Nat), e = .returned (.slice A2 rs.length c2) ∧ rs.length + 2 ≤ c2 ∧ Kd.C (Kd.int .i64) w' A2 (rs ++ [-7777, -8888]).length (rs ++ [-7777, -8888]) ∧ Below w.heap.size w w' := by
  have hcp := copy_any A cap rs w hC hc hm
  go_enter Tryz.func13, Tryz.ntmps13
  go_wp2_with (fail)
  refine hcp.mono ?_
  rintro e w5 ⟨A5, c5, rfl, hR5, hb5⟩
  clear hcp
  go_wp2_with (first | ((with_reducible refine gate_dst (N := 6) rfl ?_); refine Kd.R_lit (Kd.int .i64) (w0 := w5) (w5).heap.size 3 ?hg (N := 6) ?hd (xs := ([-7777, -8888] : List Int)) (inner := [.int .i64 (-7777), .int .i64 (-8888)]) (ok := fun _ => True) (okp := fun _ => True) ?hr ?hp (fun _ hk => hk) trivial (Below.refl _ _) (Nat.le_refl _) (by decide) ?_; (case hd => rfl); (case hg => rfl); (case hr => first | (go_simp; done) | (go_simp; rfl)); (case hp => exact (Reps.one (show Kd.M (Kd.int .i64) _ _ _ (-7777) [.int .i64 (-7777)] from rfl) (Reps.one (show Kd.M (Kd.int .i64) _ _ _ (-8888) [.int .i64 (-8888)] from rfl) (Reps.none _ _)))); intro v6 w6 hR6 hb6 hgr_ hnew_; clear hgr_ hnew_; obtain ⟨A6, c6, e_⟩ := Kd.R_slice hR6; subst e_) | ((with_reducible refine gate_builtin (b := .append) (xs := #[.tmp 5, .tmp 6]) rfl ?_); at_builtin; refine Kd.R_append_row (Value.int .i64) (0 : Int) (h1 := fun _ => rfl) (w0 := w) (w).heap.size rfl (.tmp 5) (.tmp 6) 22 3 (.int .i64 0) 8 rfl Tryz.underlying22 infoI rfl (by decide) (.slice A5 rs.length c5) rs ([-7777, -8888] : List Int) A6 ([-7777, -8888] : List Int).length c6 (fun _ => True) rfl rfl (fun _ _ => trivial) (Kd.R_below hR5 hb6) (Kd.R_reads' hR6).2.2 (below_next hb5 hb6) (below_next hb5 hb6).size (by show (rs.length + 2) * 8 ≤ 140737488355328; omega) ?_; intro v7 w7 hR7 hb7 hgr_ hat_; clear hgr_ hat_; obtain ⟨A7, c7, e_⟩ := Kd.R_slice hR7; subst e_; have hn7 := (Kd.R_reads' hR7).2.1; have hC7 := (Kd.R_reads' hR7).2.2; have hl7 : (rs ++ ([-7777, -8888] : List Int)).length = rs.length + 2 := (by simp); rw [hl7] at hn7; have q1 := eq_true (show (rs.length : Int) ≤ (c7 : Int) by omega); have q0 := eq_true (show (0 : Int) ≤ (rs.length : Int) by omega)))
  go_ret
  exact ⟨A7, c7, rfl, hn7, hC7, hb7⟩
set_option maxHeartbeats 4000000 in
theorem spoil_any (v : Value) (rs : List Int) (w : World) (base : Nat) (hR : Kd.R (Kd.int .i64) 3 w base (fun _ => True) v rs) (hl : rs.length ≤ 256) (hbs : base ≤ w.heap.size) :
    Calls Tryz.prog 20 #[v] w fun e w' => e = .returned (.tuple #[]) ∧ Below base w w' := by
  obtain ⟨A, c, ev⟩ := Kd.R_slice hR
  subst ev
  go_enter Tryz.func20, Tryz.ntmps20
  go_wp2_with (fail)
  go_loopg [2] rs.length (fun kq v2 W => ∃ (i : Nat) (xs : List Int), v2 = .int .i64 (i : Int) ∧ i + kq = rs.length ∧ xs.length = rs.length ∧ Kd.R (Kd.int .i64) 3 W base (fun _ => True) (.slice A rs.length c) xs ∧ Below base w W)
  case atStart => exact ⟨0, rs, by simp, by omega, rfl, hR, Below.refl _ _⟩
  case round =>
    clear hR
    obtain ⟨i, xs, rfl, hi, hxl, hR, hB⟩ := hrel
    by_cases c1 : i < rs.length
    · have c1d : decide ((i : Int) < (rs.length : Int)) = true := decide_eq_true (by omega)
      obtain ⟨g, c2, e_, hg1, hg2, -⟩ := Kd.R_form hR (by omega)
      injection e_ with e1 e2 e3
      subst e1
      subst e3
      have hR2 : Kd.R (Kd.int .i64) 3 wr base (fun _ => True) (.slice (some ⟨g, 0, none⟩) xs.length c) xs := by rw [hxl]; exact hR
      have hy := Kd.R_cell (0 : Int) hR2 (i : Int) (by omega) (by omega)
      rw [Int.toNat_natCast] at hy
      obtain ⟨hy1, hy2⟩ := hy
      generalize rdOf (0 : Int) xs (i : Int) = x at hy1
      have p3 := eq_true (show (0 : Int) ≤ (i : Int) by omega)
      have q3 := eq_true (show (i : Int) < (rs.length : Int) by omega)
      obtain ⟨y, hyd⟩ : ∃ y, IntKind.i64.wrap (-9 - x) = y := ⟨_, rfl⟩
      have hR5 := (Kd.R_put hR2 (i : Int) y).1
      rw [Int.toNat_natCast, hxl] at hR5
      have hB5 := hB.setCell (p := ⟨g, i, none⟩) hg1 (Value.int .i64 y)
      replace hxl := Lib.hid hxl
      go_wp2_with (fail)
      obtain ⟨j, rfl⟩ : ∃ j, gk = j + 1 := ⟨gk - 1, by omega⟩
      go_roundg j
      case measure => omega
      case rel => exact ⟨i + 1, xs.set i y, by simp, by omega, by rw [List.length_set]; exact hxl.out, hR5, hB5⟩
    · have c1d : decide ((i : Int) < (rs.length : Int)) = false := decide_eq_false (by omega)
      replace hxl := Lib.hid hxl
      go_wp2_with (fail)
      exact bodyPost_end (results_none Tryz.results20 _ _ _) rfl ⟨rfl, hB⟩
set_option maxHeartbeats 4000000 in
theorem kept_any (A : Option Addr) (c n : Nat) (l : List Int) (A1 : Option Addr) (c1 : Nat) (w : World) (hn : l.length = n) (hC : Kd.C (Kd.int .i64) w A (l ++ [-7777, -8888]).length (l ++ [-7777, -8888])) (hc : n + 2 ≤ c) (hC1 : Kd.C (Kd.int .i64) w A1 n l) (hc1 : n ≤ c1) (hm : n * 8 ≤ 140737488351232) :
    Calls Tryz.prog 21 #[.slice A n c, .slice A1 n c1] w fun e w' => e = .returned (.bool true) ∧ ∃ k, w' = w.drewN k := by
  have hl2 : (l ++ [(-7777 : Int), -8888]).length = n + 2 := by simp [hn]
  have hCn : Kd.C (Kd.int .i64) w A n l := by
    have h2 := Kd.C_take (m := n) hC (by omega)
    rw [show (l ++ [(-7777 : Int), -8888]).take n = l by rw [List.take_append_of_le_length (by omega), List.take_of_length_le (by omega)], hn] at h2
    exact h2
  obtain ⟨ad, rfl, x0⟩ := Kd.at_int hC (n : Int) (by omega) (by omega)
  obtain ⟨ad2, e2, x1⟩ := Kd.at_int hC ((n : Int) + 1) (by omega) (by omega)
  cases e2
  have r0 : rd (l ++ [(-7777 : Int), -8888]) (n : Int) = -7777 := by
    unfold rd; rw [Int.toNat_natCast, List.getD_eq_getElem?_getD, List.getElem?_append_right (by omega), hn]; simp
  have r1 : rd (l ++ [(-7777 : Int), -8888]) ((n : Int) + 1) = -8888 := by
    unfold rd; rw [show ((n : Int) + 1).toNat = n + 1 by omega, List.getD_eq_getElem?_getD, List.getElem?_append_right (by omega), hn]; simp
  rw [r0, Int.toNat_natCast] at x0
  rw [r1, show ((n : Int) + 1).toNat = n + 1 by omega] at x1
  have x2 : w.cell? ⟨ad.block, ad.off + (n + 1), none⟩ = some (.int .i64 (-8888)) := by simpa [Addr.add] using x1
  have hsame := same_any (some ad) c n l A1 c1 n l w hn hn hCn (by omega) hC1 hc1 (by omega)
  rw [decide_eq_true rfl] at hsame
  have b0 : (0 : Int) ≤ n := by omega
  have b1 : (n : Int) + 2 ≤ c := by omega
  have hn0 := Lib.hid hn
  clear hC hCn hC1 r0 r1 hn hl2
  go_enter Tryz.func21, Tryz.ntmps21
  go_wp2_with fail
  refine hsame.mono ?_
  rintro e w1 ⟨rfl, nd, rfl⟩
  go_wp2
  go_ret
  exact ⟨rfl, _, rfl⟩
theorem rput_let {rs : List Int} (A : Option Addr) (n cap : Nat) (w : World) (hn : rs.length = n) (ht : Tab w) (hC : Kd.C (Kd.int .i64) w A n rs) (hc : n ≤ cap) (T : ByteArray) (E : Int) (hT : (if putOk rs = true then (⟨(putS mdot lR newM rs).toArray⟩ : ByteArray) else ⟨#[]⟩) = T) (hE : (if putOk rs = true then (0 : Int) else 1300) = E) :
    Calls Tryz.prog 14 #[.slice A n cap] w fun e w' => e = .returned (.tuple #[.string T, .int .i64 E]) ∧ Below w.heap.size w w' := by
  subst hn
  have := rput_any rs A cap w ht hC hc
  rw [hT, hE] at this
  exact this
theorem rput_let13 {rs : List Int} (A : Option Addr) (cap : Nat) (w : World) (hC : Kd.C (Kd.int .i64) w A rs.length rs) (hc : rs.length ≤ cap) (T : ByteArray) (E : Int) (hT : (if putOk rs = true then (⟨(putS mdot lR newM rs).toArray⟩ : ByteArray) else ⟨#[]⟩) = T) (hE : (if putOk rs = true then (0 : Int) else 1300) = E) :
    Calls Tryz.prog 15 #[.slice A rs.length cap] w fun e w' => e = .returned (.tuple #[.string T, .int .i64 E]) ∧ Below w.heap.size w w' := by
  have := rput13 rs A cap w hC hc
  rw [hT, hE] at this
  exact this
theorem getS_len {s : List UInt8} {many : Int} {rs : List Int} (h : getS mdot lR newM s many = some rs) : rs.length ≤ 256 := by
  have := (get_put h).1
  unfold putOk at this
  simp only [Bool.and_eq_true, decide_eq_true_eq] at this
  exact this.1
set_option maxHeartbeats 8000000 in
set_option maxRecDepth 100000 in
theorem residuals_walk (A : Option Addr) (cap : Nat) (rs : List Int) (s : ByteArray) (many : Int) (w : World) (ht : Tab w) (hC : Kd.C (Kd.int .i64) w A rs.length rs) (hc : rs.length ≤ cap) (hm : rs.length * 8 ≤ 140737488351232) (hs : s.size ≤ 140737488351232) :
    Calls Tryz.prog 3 #[.slice A rs.length cap, .string s, .int .i64 many] w fun e w' => e = .returned (.bool true) ∧ Below w.heap.size w w' := by
  have hlend := lend_any A cap rs w hC hc hm
  obtain ⟨T, hT⟩ : ∃ T, (if putOk rs = true then (⟨(putS mdot lR newM rs).toArray⟩ : ByteArray) else ⟨#[]⟩) = T := ⟨_, rfl⟩
  obtain ⟨E, hE⟩ : ∃ E, (if putOk rs = true then (0 : Int) else 1300) = E := ⟨_, rfl⟩
  obtain ⟨G, hG⟩ : ∃ G, getS mdot lR newM s.data.toList many = G := ⟨_, rfl⟩
  have ht0 := Lib.hid ht
  have hC0 := Lib.hid hC
  have HT := Lib.hid hT
  have HE := Lib.hid hE
  have HG := Lib.hid hG
  clear ht hC hT hE hG
  go_enter Tryz.func3, Tryz.ntmps3
  go_wp2_with (fail)
  refine hlend.mono ?_
  rintro e w1 ⟨A2, c2, rfl, hc2, hC2, hb⟩
  clear hlend
  have hC2n : Kd.C (Kd.int .i64) w1 A2 rs.length rs := by
    have h2 := Kd.C_take (m := rs.length) hC2 (by simp)
    rw [show (rs ++ [(-7777 : Int), -8888]).take rs.length = rs by rw [List.take_append_of_le_length (Nat.le_refl _), List.take_length]] at h2
    exact h2
  replace hC2 := Lib.hid hC2
  go_wp2_with (fail)
  refine (rput_let A2 rs.length c2 w1 rfl (ht0.out.below hb) hC2n (by omega) T E HT.out HE.out).mono ?_
  rintro e w2 ⟨rfl, hb2⟩
  have hC22 := Lib.hid (Kd.C_below hC2.out hb2)
  replace hb := below_next hb hb2
  clear hC2n hb2 hC2
  go_wp2_with (fail)
  refine (rput_let13 A cap w2 (Kd.C_below hC0.out hb) hc T E HT.out HE.out).mono ?_
  rintro e w3 ⟨rfl, hb3⟩
  have hC23 := Lib.hid (Kd.C_below hC22.out hb3)
  replace hb := below_next hb hb3
  clear hb3 hC22
  have hg1 := rget_any s many w3 (ht0.out.below hb)
  rw [HG.out] at hg1
  go_wp2_with (fail)
  refine hg1.mono ?_
  intro e w4 hp4
  have hg2 := rget13 s many w4
  rw [HG.out] at hg2
  cases G with
  | none =>
    obtain ⟨rfl, hb4⟩ := hp4
    have hb44 := below_next hb hb4
    go_wp2_with (fail)
    refine hg2.mono ?_
    rintro e w5 ⟨rfl, hb5⟩
    have hsame := same_any none 0 0 ([] : List Int) none 0 0 ([] : List Int) w5 rfl rfl (Kd.C_nil _ _) (Nat.le_refl _) (Kd.C_nil _ _) (Nat.le_refl _) (by decide)
    rw [decide_eq_true rfl] at hsame
    have hC24 := hC23
    clear hC23 hg1
    have hbW := below_wide (below_next (below_trans (Below.refl w3.heap.size w3) hb4) hb5) (Nat.le_refl _)
    clear hb44 hb4 hb5 hg2
    go_wp2_with (first | (go_at_call 18; refine (num_any _ _).mono ?_; rintro e w_ ⟨rfl, rfl⟩) | (go_at_call 19; refine hsame.mono ?_; rintro e w6 ⟨rfl, m6, rfl⟩))
    replace hbW := L.below_drewN hbW m6
    clear hsame
    generalize w5.drewN m6 = w7 at hbW ⊢
    refine (spoil_any (.slice none 0 0) ([] : List Int) w7 w3.heap.size (Kd.R_nil _ _ _ _ _) (by decide) hbW.size).mono ?_
    rintro e w8 ⟨rfl, hb8⟩
    replace hbW := below_trans hbW hb8
    go_wp2_with (fail)
    have hC28 := Kd.C_below hC24.out hbW
    refine (kept_any A2 c2 rs.length rs A cap w8 rfl hC28 hc2 (Kd.C_below hC0.out (below_trans hb (below_wide hbW hb.size))) hc hm).mono ?_
    rintro e w9 ⟨rfl, m9, rfl⟩
    have hbF := L.below_drewN (below_trans hb (below_wide hbW hb.size)) m9
    have haw := awake13 (w8.drewN m9) (ht0.out.below hbF)
    clear hC28
    go_wp2_with (fail)
    refine haw.mono ?_
    rintro e wA ⟨rfl, hbA⟩
    have hbG := below_next hbF hbA
    clear haw
    go_wp2_with (fail)
    go_ret
    exact ⟨rfl, hbG⟩
  | some ys =>
    obtain ⟨v4, rfl, hR4, hb4⟩ := hp4
    have hyl := getS_len HG.out
    obtain ⟨A4, c4, e_⟩ := Kd.R_slice hR4
    subst e_
    go_wp2_with (fail)
    refine hg2.mono ?_
    intro e w5 hp5
    obtain ⟨v5, rfl, hR5, hb5⟩ := hp5
    obtain ⟨A5, c5, e_⟩ := Kd.R_slice hR5
    subst e_
    have hR45 := Kd.R_below hR4 hb5
    have hsame := same_any A4 c4 ys.length ys A5 c5 ys.length ys w5 rfl rfl (Kd.R_reads' hR45).2.2 (Kd.R_reads' hR45).2.1 (Kd.R_reads' hR5).2.2 (Kd.R_reads' hR5).2.1 (by omega)
    rw [decide_eq_true rfl] at hsame
    have hC24 := hC23
    clear hC23 hg1 hR4 hR5
    have hbW := below_next (below_trans (Below.refl w3.heap.size w3) hb4) hb5
    clear hb4 hb5 hg2
    go_wp2_with (first | (go_at_call 18; refine (num_any _ _).mono ?_; rintro e w_ ⟨rfl, rfl⟩) | (go_at_call 19; refine hsame.mono ?_; rintro e w6 ⟨rfl, m6, rfl⟩))
    replace hbW := L.below_drewN hbW m6
    replace hR45 := Kd.R_drewN hR45 m6
    clear hsame
    generalize w5.drewN m6 = w7 at hbW hR45 ⊢
    refine (spoil_any _ ys w7 w3.heap.size hR45 hyl hbW.size).mono ?_
    rintro e w8 ⟨rfl, hb8⟩
    replace hbW := below_trans hbW hb8
    go_wp2_with (fail)
    have hC28 := Kd.C_below hC24.out hbW
    refine (kept_any A2 c2 rs.length rs A cap w8 rfl hC28 hc2 (Kd.C_below hC0.out (below_trans hb (below_wide hbW hb.size))) hc hm).mono ?_
    rintro e w9 ⟨rfl, m9, rfl⟩
    have hbF := L.below_drewN (below_trans hb (below_wide hbW hb.size)) m9
    have haw := awake13 (w8.drewN m9) (ht0.out.below hbF)
    clear hC28
    go_wp2_with (fail)
    refine haw.mono ?_
    rintro e wA ⟨rfl, hbA⟩
    have hbG := below_next hbF hbA
    clear haw
    go_wp2_with (fail)
    go_ret
    exact ⟨rfl, hbG⟩
end Go.Proofs.YtiokfaiioealdaaGreatDoor
