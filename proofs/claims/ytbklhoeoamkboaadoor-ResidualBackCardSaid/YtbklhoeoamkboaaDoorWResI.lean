/- ResidualBack, walked. -/
import Derived.Test.YtbklhoeoamkboaaDoorMRC
namespace Go.Proofs.YtbklhoeoamkboaaDoor
open Go.RowKit Go.Proofs.YtbklhoeoamkboaaDoorW.PrintWords Go.Proofs.YtbklhoeoamkboaaDoorW.PrintLast Go.Proofs.YtbklhoeoamkboaaDoorW.PrintMore Go.Proofs.YtbklhoeoamkboaaDoor.L
set_option linter.unusedVariables false
set_option linter.unusedSimpArgs false
theorem putOk_len {rs : List Int} (h : putOk rs = true) : rs.length ≤ 256 := by unfold putOk at h; simp only [Bool.and_eq_true, decide_eq_true_eq] at h; exact h.1
theorem rget_cut (s : ByteArray) (rs : List Int) (p : Prop) (h : p → getS mdot lR newM s.data.toList rs.length ≠ some rs) (w : World) (ht : Tab w) :
    Calls Tryd.prog 11 #[.string s, .int .i64 rs.length] w fun e w' => ∃ (A : Option Addr) (n c : Nat) (er : Int), e = .returned (.tuple #[.slice A n c, .int .i64 er]) ∧ Below w.heap.size w w' ∧ (p → er = 1300 ∨ er = 0 ∧ ∃ ys, ys ≠ rs ∧ ys.length = n ∧ Kd.C (Kd.int .i64) w' A n ys ∧ n ≤ c ∧ n ≤ 256) := by
  refine (rget_any s rs.length w ht).mono fun e w' he => ?_
  cases hg : getS mdot lR newM s.data.toList rs.length with
  | none =>
    rw [hg] at he
    exact ⟨_, _, _, _, he.1, he.2, fun _ => .inl rfl⟩
  | some ys =>
    rw [hg] at he
    obtain ⟨v, h1, h2, h3⟩ := he
    obtain ⟨A, c, e⟩ := Kd.R_slice h2
    subst e
    exact ⟨_, _, _, _, h1, h3, fun hp => .inr ⟨rfl, ys, fun hy => h hp (by rw [hg, hy]), rfl, (Kd.R_reads' h2).2.2, (Kd.R_reads' h2).2.1, putOk_len (get_put hg).1⟩⟩
theorem rget_er (s : ByteArray) (many : Int) (w : World) (ht : Tab w) :
    Calls Tryd.prog 11 #[.string s, .int .i64 many] w fun e w' => ∃ (v : Value) (er : Int), e = .returned (.tuple #[v, .int .i64 er]) ∧ Below w.heap.size w w' ∧ (er = 0 ∨ er = 1300) := by
  refine (rget_any s many w ht).mono fun e w' he => ?_
  cases hg : getS mdot lR newM s.data.toList many with
  | none =>
    rw [hg] at he
    exact ⟨_, _, he.1, he.2, .inr rfl⟩
  | some ys =>
    rw [hg] at he
    obtain ⟨v, h1, h2, h3⟩ := he
    exact ⟨_, _, h1, h3, .inl rfl⟩
theorem u64_nn (a : Int) : 0 ≤ IntKind.u64.wrap a := by
  show 0 ≤ a % 18446744073709551616
  omega
set_option maxHeartbeats 8000000 in
set_option maxRecDepth 100000 in
theorem residualBack_walk (A : Option Addr) (cap : Nat) (rs : List Int) (a1 : Int) (w : World) (ht : Tab w) (hC : Kd.C (Kd.int .i64) w A rs.length rs) (hc : rs.length ≤ cap) (hm : rs.length * 8 ≤ 140737488351232) :
    Calls Tryd.prog 3 #[.slice A rs.length cap, .int .i64 a1] w fun e w' => e = .returned (.bool true) ∧ Below w.heap.size w w' := by
  have haw := awake13 w ht
  have ht0 := Lib.hid ht
  have hC0 := Lib.hid hC
  clear ht hC
  go_enter Tryd.func3, Tryd.ntmps3
  go_wp2_with (fail)
  refine haw.mono ?_
  rintro e w1 ⟨rfl, hb⟩
  clear haw
  by_cases hp : putOk rs = true
  · obtain ⟨t, htt⟩ : ∃ t : ByteArray, (⟨(putS mdot lR newM rs).toArray⟩ : ByteArray) = t := ⟨_, rfl⟩
    have htl : t.data.toList = putS mdot lR newM rs := by rw [← htt]
    have hts : t.size = (putS mdot lR newM rs).length := by rw [← ByteArray.size_data, ← Array.length_toList, htl]
    have hmx := putS_max hp
    rw [← hts] at hmx
    have hrl : rs.length ≤ 256 := by unfold putOk at hp; simp only [Bool.and_eq_true, decide_eq_true_eq] at hp; exact hp.1
    replace htt := Lib.hid htt
    replace htl := Lib.hid htl
    replace hts := Lib.hid hts
    replace hp := Lib.hid hp
    go_wp2_with (fail)
    refine (rput_yes A cap w1 (ht0.out.below hb) (Kd.C_below hC0.out hb) hc hp.out t htt.out).mono ?_
    rintro e w2 ⟨rfl, hb2⟩
    replace hb := below_next hb hb2
    clear hb2
    go_wp2_with (first | (go_at_call 10; refine (num_any _ _).mono ?_; rintro e w_ ⟨rfl, rfl⟩))
    refine (rget_yes t rs.length rs w2 (ht0.out.below hb) (by rw [htl.out]; exact put_back hp.out)).mono ?_
    rintro e w3 ⟨v3, rfl, hR3, hb3⟩
    replace hb := below_next hb hb3
    obtain ⟨A3, c3, e3⟩ := Kd.R_slice hR3
    subst e3
    clear hb3
    obtain ⟨k, hk, hkl⟩ : ∃ k : Nat, (IntKind.u64.wrap a1).tmod ((t.size : Int) + 1) = (k : Int) ∧ k ≤ t.size := by
      have h0 := u64_nn a1
      refine ⟨((IntKind.u64.wrap a1).tmod ((t.size : Int) + 1)).toNat, ?_, ?_⟩
      · rw [Int.toNat_of_nonneg (Int.tmod_nonneg _ h0)]
      · rw [Int.tmod_eq_emod_of_nonneg h0]
        have := Int.emod_lt_of_pos (IntKind.u64.wrap a1) (show 0 < (t.size : Int) + 1 by omega)
        have := Int.emod_nonneg (IntKind.u64.wrap a1) (show (t.size : Int) + 1 ≠ 0 by omega)
        omega
    have wk : wrap64 (k : Int) = k := IntWalk.wrap64_in _ (by omega)
    have k1 : (0 ≤ (k : Int)) = True := eq_true (by omega)
    have k2 : ((k : Int) ≤ (t.size : Int)) = True := eq_true (by omega)
    have k3 : (k ≤ t.size) = True := eq_true (by omega)
    have hex : (t.extract 0 k).data.toList = (putS mdot lR newM rs).take k := by
      rw [ByteArray.data_extract, Array.toList_extract, htl.out]; simp
    have hcut : k ≠ t.size → getS mdot lR newM (t.extract 0 k).data.toList rs.length ≠ some rs := by
      intro h
      rw [hex]
      exact getS_cut (by rw [← hts.out]; omega)
    have hkl := Lib.hid hkl
    have hcut := Lib.hid hcut
    clear hex
    go_wp2_with (fail)
    refine (rget_cut (t.extract 0 k) rs (k ≠ t.size) hcut.out w3 (ht0.out.below hb)).mono ?_
    rintro e w4 ⟨A4, n4, c4, er, rfl, hb4, hor⟩
    replace hb := below_next hb hb4
    replace hR3 := Kd.R_below hR3 hb4
    have hsz : (9223372036854775807 < t.size + 1) = False := eq_false (by omega)
    have hsz2 : (t.size + 1 ≤ 9223372036854775807) = True := eq_true (by omega)
    replace hor := Lib.hid hor
    clear hb4
    go_wp2_with (fail)
    refine (rget_er _ rs.length w4 (ht0.out.below hb)).mono ?_
    rintro e w5 ⟨v5, er5, rfl, hb5, hor5⟩
    replace hb := below_next hb hb5
    replace hR3 := Kd.R_below hR3 hb5
    have hC5 := Kd.C_below hC0.out hb
    have hsame := same_any A3 c3 _ rs A cap _ rs w5 rfl rfl (Kd.R_reads' hR3).2.2 (Kd.R_reads' hR3).2.1 hC5 hc (by omega)
    rw [decide_eq_true (rfl : rs = rs)] at hsame
    have hno : k ≠ t.size → er = 1300 ∨ er = 0 ∧ ∀ m, Calls Tryd.prog 12 #[.slice A4 n4 c4, .slice A rs.length cap] (w5.drewN m) fun e w' => e = .returned (.bool false) ∧ ∃ k, w' = (w5.drewN m).drewN k := by
      intro h
      rcases hor.out h with h1 | ⟨h1, ys, hy, hl, hC, hcc, h256⟩
      · exact .inl h1
      · refine .inr ⟨h1, fun m => ?_⟩
        have := same_any A4 c4 n4 ys A cap _ rs (w5.drewN m) hl rfl (Kd.C_drewN (Kd.C_below hC hb5) m) hcc (Kd.C_drewN hC5 m) hc (by omega)
        rw [decide_eq_false hy] at this
        exact this
    clear hor hb5 hC5 hR3
    replace hno := Lib.hid hno
    have hkk : k = t.size ∨ k ≠ t.size := by omega
    rcases hkk with hkk | hkk
    · have e1 : ((k : Int) == (t.size : Int)) = true := by rw [hkk]; simp
      have e2 : decide ((k : Int) = (t.size : Int)) = true := by rw [hkk]; simp
      clear hkk
      rcases hor5 with rfl | rfl
      all_goals
        go_wp2_with (first | (go_at_call 10; refine (num_any _ _).mono ?_; rintro e w_ ⟨rfl, rfl⟩) | (go_at_call 12; refine hsame.mono ?_; rintro e w6 ⟨rfl, m6, rfl⟩))
        go_ret
        exact ⟨rfl, L.below_drewN hb m6⟩
    · have hno2 := hno.out hkk
      have e1 : ((k : Int) == (t.size : Int)) = false := by simpa using fun h => hkk (by omega)
      have e2 : decide ((k : Int) = (t.size : Int)) = false := decide_eq_false (by omega)
      clear hkk
      rcases hno2 with rfl | ⟨rfl, hs2⟩
      · rcases hor5 with rfl | rfl
        all_goals
          go_wp2_with (first | (go_at_call 10; refine (num_any _ _).mono ?_; rintro e w_ ⟨rfl, rfl⟩) | (go_at_call 12; refine hsame.mono ?_; rintro e w6 ⟨rfl, m6, rfl⟩))
          go_ret
          exact ⟨rfl, L.below_drewN hb m6⟩
      · rcases hor5 with rfl | rfl
        all_goals
          go_wp2_with (first | (go_at_call 10; refine (num_any _ _).mono ?_; rintro e w_ ⟨rfl, rfl⟩) | (go_at_call 12; (with_reducible refine hsame.mono ?_); rintro e w6 ⟨rfl, m6, rfl⟩; clear hsame) | (go_at_call 12; (with_reducible refine (hs2 _).mono ?_); rintro e w7 ⟨rfl, m7, rfl⟩))
          go_ret
          exact ⟨rfl, L.below_drewN hb _⟩
  · replace hp : putOk rs = false := by simpa using hp
    replace hp := Lib.hid hp
    go_wp2_with (fail)
    refine (rput_no A cap w1 (ht0.out.below hb) (Kd.C_below hC0.out hb) hc hp.out).mono ?_
    rintro e w2 ⟨rfl, hb2⟩
    replace hb := below_next hb hb2
    go_wp2_with (first | (go_at_call 10; refine (num_any _ _).mono ?_; rintro e w_ ⟨rfl, rfl⟩))
    go_ret
    exact ⟨rfl, hb⟩
end Go.Proofs.YtbklhoeoamkboaaDoor
