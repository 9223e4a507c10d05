/- The texts behind the row, joined: WPut PGot WGot WAwk2 LSgB LOth LibOpen. -/
import Derived.Test.YtiokfaiioealdaaGreatDoorQ27
import Derived.Test.YtiokfaiioealdaaGreatDoorQ20
import Derived.Test.YtiokfaiioealdaaGreatDoorQ26
import Derived.Test.YtiokfaiioealdaaGreatDoorQ5
import Derived.Test.YtiokfaiioealdaaGreatDoorQ1
import Derived.ProofKit
namespace Go.Proofs.YtiokfaiioealdaaGreatDoor
open Go.RowKit Go.Proofs.YtiokfaiioealdaaGreatDoorW.PrintWords Go.Proofs.YtiokfaiioealdaaGreatDoorW.PrintLast Go.Proofs.YtiokfaiioealdaaGreatDoorW.PrintMore Go.Proofs.YtiokfaiioealdaaGreatDoor.L
set_option linter.unusedVariables false
set_option linter.unusedSimpArgs false
def segR (c b : Int) (d : ByteArray) (e : Ending) : Prop := if segOk c b d.data.toList = true then ∃ t : ByteArray, e = .returned (.tuple #[.string t, .int .i64 0]) ∧ t.data.toList = segP c b d.data.toList else e = .returned (.tuple #[.string ⟨#[]⟩, .int .i64 2200])
set_option maxHeartbeats 8000000 in
set_option maxRecDepth 100000 in
theorem put_no1 (d : ByteArray) (c b : Int) (w : World) (h : ¬ (fOk c b = true ∧ d.size % fsz c b = 0 ∧ d.size ≤ 4096)) :
    Calls Tryz.prog 23 #[.string d, .agg #[.int .i64 c, .int .i64 b]] w fun e w' => e = .returned (.tuple #[.string ⟨#[]⟩, .int .i64 2200]) ∧ Below w.heap.size w w' := by
  have hG := fun W => PQ.pcm_Get.calls 5000 d c b _ 1900 W (get_no d h)
  replace hG := Lib.hid hG
  clear h
  go_enter Tryz.func23, Tryz.ntmps23
  go_wp2_with (fail)
  refine (hG.out _).mono ?_
  rintro e w1 ⟨v1, rfl, hS1, hb1⟩
  have hB1 := below_trans (L.below_alloc (Below.refl w.heap.size w) _) hb1
  clear hS1 hb1
  go_wp2_with (fail)
  go_ret2
  exact ⟨rfl, hB1⟩
set_option maxHeartbeats 8000000 in
set_option maxRecDepth 100000 in
theorem put_no2 (d : ByteArray) (c b : Int) (w : World) (hf : fOk c b = true) (hm : d.size % fsz c b = 0) (hl : d.size ≤ 4096) (h : d.size = 0 ∨ 64 * fsz c b < d.size) :
    Calls Tryz.prog 23 #[.string d, .agg #[.int .i64 c, .int .i64 b]] w fun e w' => e = .returned (.tuple #[.string ⟨#[]⟩, .int .i64 2200]) ∧ Below w.heap.size w w' := by
  have hG := fun W => PQ.pcm_Get.calls 5000 d c b _ 0 W (get_yes d hf hm hl)
  have hF := fun W => PQ.pcm_Frame.calls c b ((fsz c b : Nat) : Int) W (frame_q hf)
  have h4 := fsz_in hf
  obtain ⟨fs, hfs⟩ : ∃ n, fsz c b = n := ⟨_, rfl⟩
  rw [hfs] at hF h4 h
  replace hG := Lib.hid hG
  replace hF := Lib.hid hF
  replace hfs := Lib.hid hfs
  clear hm
  have hwf : wrap64 (64 * (fs : Int)) = 64 * (fs : Int) := IntWalk.wrap64_in _ (by omega)
  rcases h with h | h
  · have hd : d = ⟨#[]⟩ := ByteArray.ext (Array.eq_empty_of_size_eq_zero h)
    subst hd
    go_enter Tryz.func23, Tryz.ntmps23
    go_wp2_with (fail)
    refine (hG.out _).mono ?_
    rintro e w1 ⟨v1, rfl, hS1, hb1⟩
    have hB1 := below_trans (L.below_alloc (Below.refl w.heap.size w) _) hb1
    clear hS1 hb1
    go_wp2_with (fail)
    go_ret2
    exact ⟨rfl, hB1⟩
  · have hd0 : (d.toList == ([] : List UInt8)) = false := by
      rw [ByteArray.toList_eq]
      refine beq_eq_false_iff_ne.2 fun e => ?_
      have h2 := congrArg List.length e
      rw [size_list] at h2
      have h3 : d.size = 0 := h2
      omega
    have hgt : decide (64 * (fs : Int) < (d.size : Int)) = true := decide_eq_true (by omega)
    have hgt2 := eq_true (show 64 * fs < d.size from h)
    replace h := Lib.hid h
    go_enter Tryz.func23, Tryz.ntmps23
    go_wp2_with (fail)
    have hX0 := L.BC.new w [.int .i64 c, .int .i64 b] 39
    refine (hG.out _).mono ?_
    rintro e w1 ⟨v1, rfl, hS1, hb1⟩
    have hX1 := L.BC.below hX0 hb1
    have x0 := L.BC.at_ hX1 (o := 0) rfl
    have x1 := L.BC.at_ hX1 (o := 1) rfl
    have hB1 := below_trans (L.below_alloc (Below.refl w.heap.size w) _) hb1
    obtain ⟨A1, c1, ev⟩ := Kd.S_slice hS1
    subst ev
    clear hS1 hb1 hX0 hX1 hG
    go_wp2_with (fail)
    refine (hF.out _).mono ?_
    rintro e w2 ⟨rfl, hb2⟩
    have hB2 := below_trans hB1 hb2
    clear hb2 x0 x1
    go_wp2_with (fail)
    go_ret2
    exact ⟨rfl, hB2⟩
set_option maxHeartbeats 8000000 in
set_option maxRecDepth 100000 in
theorem put_yes (d : ByteArray) (c b : Int) (w : World) (h : segOk c b d.data.toList = true) (ht : Tab w) (ht6 : Tab6 w) :
    Calls Tryz.prog 23 #[.string d, .agg #[.int .i64 c, .int .i64 b]] w fun e w' => ∃ t : ByteArray, e = .returned (.tuple #[.string t, .int .i64 0]) ∧ t.data.toList = segP c b d.data.toList ∧ Below w.heap.size w w' := by
  obtain ⟨hf, hm, hp, h64⟩ := segOk_iff.1 h
  obtain ⟨m1, m64, hmf, h256⟩ := seg_many h
  rw [size_list] at hm hp h64 m1 m64 hmf h256
  have hG := fun W => PQ.pcm_Get.calls 5000 d c b _ 0 W (get_yes d hf hm (by omega))
  have hF := fun W => PQ.pcm_Frame.calls c b ((fsz c b : Nat) : Int) W (frame_q hf)
  have hSF := fun W => PQ.segment_sound_frame.calls d c b ((fsz c b : Nat) : Int) W (sframe_q d hf)
  have hSM := fun W => PQ.segment_sound_many.calls d c b ((d.size / fsz c b : Nat) : Int) W (smany_q d hf (by omega))
  have hK := fun W => snd_constant d c b W h
  have hCo := fun W (a : Tab W) (b6 : Tab6 W) => snd_coded d c b W h a b6
  have h4 := fsz_in hf
  have hle := same_len h
  rw [size_list] at hle
  have hT2 := fun W => told_any 2 0 (d.size / fsz c b) (d.extract 0 (fsz c b)) W (by decide) (by decide) (by omega) (by
    rw [← size_list, ext_list, List.drop_zero, List.length_take, size_list]; omega)
  have hT0 := fun W => told_any 0 0 (d.size / fsz c b) d W (by decide) (by decide) (by omega) (by omega)
  have hext : (d.extract 0 (fsz c b)).data.toList = d.data.toList.take (fsz c b) := by rw [ext_list, List.drop_zero]
  rw [hext] at hT2
  have hby := byOf_in c b d.data.toList
  obtain ⟨R, hR⟩ : ∃ R, segP c b d.data.toList = R := ⟨_, rfl⟩
  rw [hR]
  unfold segP at hR
  rw [size_list] at hR
  obtain ⟨fs, hfs⟩ : ∃ n, fsz c b = n := ⟨_, rfl⟩
  obtain ⟨mn, hmn⟩ : ∃ n, d.size / fsz c b = n := ⟨_, rfl⟩
  rw [hmn] at hSM hT2 hT0 hR m1 m64
  rw [hfs] at hF hSF h4 h64 hT2 hle hR
  have hwf : wrap64 (64 * (fs : Int)) = 64 * (fs : Int) := IntWalk.wrap64_in _ (by omega)
  have hd0 : (d.toList == ([] : List UInt8)) = false := by
    rw [ByteArray.toList_eq]
    refine beq_eq_false_iff_ne.2 fun e => ?_
    have h2 := congrArg List.length e
    rw [size_list] at h2
    have h3 : d.size = 0 := h2
    omega
  have hgt : decide (64 * (fs : Int) < (d.size : Int)) = false := decide_eq_false (by omega)
  have hgt2 := eq_false (show ¬ 64 * fs < d.size by omega)
  have p1 := eq_true (show (0 : Int) ≤ (fs : Int) by omega)
  have p2 := eq_true (show (fs : Int) ≤ (d.size : Int) by omega)
  have p3 := eq_true hle
  have ht0 := Lib.hid ht
  have ht60 := Lib.hid ht6
  obtain ⟨by_, hby_⟩ : ∃ y, byOf c b d.data.toList = y := ⟨_, rfl⟩
  rw [hby_] at hCo hR hby
  obtain ⟨same, hsame⟩ : ∃ s, sameB c b d.data.toList = s := ⟨_, rfl⟩
  rw [hsame] at hK hR
  have hG0 := Lib.hid hG
  have hF0 := Lib.hid hF
  have hSF0 := Lib.hid hSF
  have hSM0 := Lib.hid hSM
  have hK0 := Lib.hid hK
  have hCo0 := Lib.hid hCo
  have hT20 := Lib.hid hT2
  have hT00 := Lib.hid hT0
  have hR0 := Lib.hid hR
  have hby0 := Lib.hid hby
  have hm64 := Lib.hid m64
  have h2560 := Lib.hid h256
  clear hG hF hSF hSM hK hCo hT2 hT0 hR ht ht6 hm hp h64 hmf hle hext hmn hfs h m1 hby hby_ hsame m64 h256
  go_enter Tryz.func23, Tryz.ntmps23
  go_wp2_with (fail)
  have hX0 := L.BC.new w [.int .i64 c, .int .i64 b] 39
  refine (hG0.out _).mono ?_
  rintro e w1 ⟨v1, rfl, hS1, hb1⟩
  have hX1 := L.BC.below hX0 hb1
  have x0 := L.BC.at_ hX1 (o := 0) rfl
  have x1 := L.BC.at_ hX1 (o := 1) rfl
  have hB1 := below_trans (L.below_alloc (Below.refl w.heap.size w) _) hb1
  obtain ⟨A1, c1, ev⟩ := Kd.S_slice hS1
  subst ev
  clear hS1 hb1 hX0 hG0
  go_wp2_with (fail)
  refine (hF0.out _).mono ?_
  rintro e w2 ⟨rfl, hb2⟩
  have hX2 := L.BC.below hX1 hb2
  have y0 := L.BC.at_ hX2 (o := 0) rfl
  have y1 := L.BC.at_ hX2 (o := 1) rfl
  have hB2 := below_trans hB1 hb2
  clear hb2 x0 x1 hX1 hB1 hF0
  have hXn := L.BC.new w2 [.string ⟨#[]⟩, .int .i64 0, .int .i64 0] 104
  have n0 := L.BC.at_ hXn (o := 0) rfl; have n1 := L.BC.at_ hXn (o := 1) rfl; have n2 := L.BC.at_ hXn (o := 2) rfl
  have f0 := L.BC.frozen hXn 0; have f1 := L.BC.frozen hXn 1; have f2 := L.BC.frozen hXn 2
  go_wp2_with (fail)
  have hXs := L.BC.new w2 [.string d, .int .i64 c, .int .i64 b] 104
  have hB3 := L.below_alloc hB2 (.cells #[.string d, .int .i64 c, .int .i64 b] 104)
  refine (hK0.out _).mono ?_
  rintro e w3 ⟨rfl, hb3⟩
  have hX := L.BC.below hXs hb3
  have hB := below_trans hB3 hb3
  clear hXn hXs hB3 hb3 n0 n1 n2 f0 f1 f2 y0 y1 hX2 hB2 hK0
  generalize w2.heap.size = gs at hX ⊢
  generalize (pcmG c b d.data.toList).length = pl
  cases same with
  | true =>
    go_wp2_with (fail)
    replace hX := L.BC.drew hX
    replace hB := L.below_drew hB
    refine start_ (n := 9) (S := fun w' => L.BC w' gs 104 [.string d, .int .i64 c, .int .i64 b]) (ds := []) #[false, false, false, false, false, false, false, false, false] (by kernel_rfl) rfl rfl hX (fun hHeld => ?_)
    generalize w3.drew = w4 at hX hB hHeld ⊢
    refine take_ (i := 0) (N := (some 37)) (v := .agg #[.string d, .int .i64 c, .int .i64 b]) (a' := ?_) #[true, false, false, false, false, false, false, false, false] rfl rfl (by kernel_rfl) (fun _ _ _ h => h) (Or.inl ⟨by rfl, fun w' hS => L.loads 104 (.tmp 8) gs [.string d, .int .i64 c, .int .i64 b] _ (by rfl) (by rfl) Tryz.underlying104 rfl infoS w' (id hS)⟩) hHeld ?_ ?_
    rotate_left
    · simp only [Act.put, List.setIfInBounds_toArray, List.set_cons_zero, List.set_cons_succ, i64_w, i32_w]
      rfl
    refine take_ (i := 3) (N := (some 40)) (v := .agg #[.string d, .int .i64 c, .int .i64 b]) (a' := ?_) #[true, false, false, true, false, false, false, false, false] rfl rfl (by kernel_rfl) (fun _ _ _ h => h) (Or.inl ⟨by rfl, fun w' hS => L.loads 104 (.tmp 8) gs [.string d, .int .i64 c, .int .i64 b] _ (by rfl) (by rfl) Tryz.underlying104 rfl infoS w' (id hS)⟩) hHeld ?_ ?_
    rotate_left
    · simp only [Act.put, List.setIfInBounds_toArray, List.set_cons_zero, List.set_cons_succ, i64_w, i32_w]
      rfl
    refine pure_ (i := 2) (N := (some 39)) (v := ?_) (a' := ?_) #[true, false, true, true, false, false, false, false, false] rfl rfl (by kernel_rfl) (fun _ _ _ h => h) (Or.inl ⟨by rfl, ?_⟩) ?_ ?_
    rotate_left
    · intro w'
      go_simp
      with_reducible rfl
    rotate_left
    · simp only [Act.put, List.setIfInBounds_toArray, List.set_cons_zero, List.set_cons_succ, i64_w, i32_w]
      rfl
    refine one_ (i := 1) (N := (some 38)) #[true, true, true, true, false, false, false, false, false] rfl rfl (by kernel_rfl) (by decide) (fun K hK => ?_)
    refine goes_ Tryz.func59 (by kernel_rfl) rfl #[.agg #[.string d, .int .i64 c, .int .i64 b]] (by rfl) rfl rfl (by (try simp only [List.map_toArray, List.map_cons, List.map_nil]); first | done | rfl) ?_
    refine (hSM0.out _).mono ?_
    rintro e w5 ⟨rfl, hb⟩
    refine ⟨_, rfl, ?_⟩
    replace hX := L.BC.below hX hb
    replace hB := below_trans hB hb
    clear hHeld hb
    refine hK.out _ _ hX (fun hHeld => ?_)
    clear hK K
    refine norm_ (a' := ?_) ?_ ?_
    rotate_left
    · show Act.put _ (some 38) _ = _
      simp only [Act.put, List.setIfInBounds_toArray, List.set_cons_zero, List.set_cons_succ, i64_w, i32_w]
      rfl
    refine one_ (i := 4) (N := (some 41)) #[true, true, true, true, true, false, false, false, false] rfl rfl (by kernel_rfl) (by decide) (fun K hK => ?_)
    refine goes_ Tryz.func60 (by kernel_rfl) rfl #[.agg #[.string d, .int .i64 c, .int .i64 b]] (by rfl) rfl rfl (by (try simp only [List.map_toArray, List.map_cons, List.map_nil]); first | done | rfl) ?_
    refine (hSF0.out _).mono ?_
    rintro e w6 ⟨rfl, hb⟩
    refine ⟨_, rfl, ?_⟩
    replace hX := L.BC.below hX hb
    replace hB := below_trans hB hb
    clear hHeld hb
    refine hK.out _ _ hX (fun hHeld => ?_)
    clear hK K
    refine norm_ (a' := ?_) ?_ ?_
    rotate_left
    · show Act.put _ (some 41) _ = _
      simp only [Act.put, List.setIfInBounds_toArray, List.set_cons_zero, List.set_cons_succ, i64_w, i32_w]
      rfl
    refine pure_ (i := 5) (N := (some 42)) (v := ?_) (a' := ?_) #[true, true, true, true, true, true, false, false, false] rfl rfl (by kernel_rfl) (fun _ _ _ h => h) (Or.inl ⟨by rfl, ?_⟩) ?_ ?_
    rotate_left
    · intro w'
      go_simp
      with_reducible rfl
    rotate_left
    · simp only [Act.put, List.setIfInBounds_toArray, List.set_cons_zero, List.set_cons_succ, i64_w, i32_w]
      rfl
    refine one_ (i := 6) (N := (some 43)) #[true, true, true, true, true, true, true, false, false] rfl rfl (by kernel_rfl) (by decide) (fun K hK => ?_)
    refine goes_ Tryz.func58 (by kernel_rfl) rfl #[.int .i64 2, .int .i64 0, .int .i64 mn, .string (d.extract 0 fs)] (by rfl) rfl rfl (by (try simp only [List.map_toArray, List.map_cons, List.map_nil]); first | done | rfl) ?_
    refine (hT20.out _).mono ?_
    rintro e w7 ⟨t, rfl, htd, hb⟩
    refine ⟨_, rfl, ?_⟩
    replace hX := L.BC.below hX hb
    replace hB := below_trans hB hb
    clear hHeld hb
    refine hK.out _ _ hX (fun hHeld => ?_)
    clear hK K
    refine norm_ (a' := ?_) ?_ ?_
    rotate_left
    · show Act.put _ (some 43) _ = _
      simp only [Act.put, List.setIfInBounds_toArray, List.set_cons_zero, List.set_cons_succ, i64_w, i32_w]
      rfl
    refine pure_ (i := 7) (N := (some 4)) (v := ?_) (a' := ?_) #[true, true, true, true, true, true, true, true, false] rfl rfl (by kernel_rfl) (fun _ _ _ h => h) (Or.inl ⟨by rfl, ?_⟩) ?_ ?_
    rotate_left
    · intro w'
      go_simp
      with_reducible rfl
    rotate_left
    · simp only [Act.put, List.setIfInBounds_toArray, List.set_cons_zero, List.set_cons_succ, i64_w, i32_w]
      rfl
    refine pure_ (i := 8) (N := (some 5)) (v := ?_) (a' := ?_) #[true, true, true, true, true, true, true, true, true] rfl rfl (by kernel_rfl) (fun _ _ _ h => h) (Or.inl ⟨by rfl, ?_⟩) ?_ ?_
    rotate_left
    · intro w'
      go_simp
      with_reducible rfl
    rotate_left
    · simp only [Act.put, List.setIfInBounds_toArray, List.set_cons_zero, List.set_cons_succ, i64_w, i32_w]
      rfl
    refine done_ (by kernel_rfl) ?_
    go_wp2_with (fail)
    go_ret2
    exact ⟨t, rfl, by rw [htd, ← hR0.out]; simp, hB⟩
  | false =>
    have y0 := L.BC.at_ hX (o := 0) rfl; have y1 := L.BC.at_ hX (o := 1) rfl; have y2 := L.BC.at_ hX (o := 2) rfl
    go_wp2_with (fail)
    refine (hCo0.out _ (ht0.out.below hB) (ht60.out.below hB)).mono ?_
    rintro e w5 ⟨t, rfl, htd, hb⟩
    replace hX := L.BC.below hX hb
    replace hB := below_trans hB hb
    clear hb y0 y1 y2 hCo0
    have y0 := L.BC.at_ hX (o := 0) rfl; have y1 := L.BC.at_ hX (o := 1) rfl; have y2 := L.BC.at_ hX (o := 2) rfl
    have hts : t.size = (ownOf c b d.data.toList).length := by rw [← size_list, htd]
    by_cases hlt : t.size < d.size
    · have l1 : decide ((t.size : Int) < (d.size : Int)) = true := decide_eq_true (by omega)
      have l2 := eq_true hlt
      have hT1 := fun W => told_any 1 by_ mn t W (by decide) (by have := hby0.out; omega) (by have := hm64.out; omega) (by have := h2560.out; omega)
      have hR1 : told 1 by_ mn t.data.toList = R := by rw [← hR0.out, if_neg (by decide), htd, if_pos (by rw [← hts]; exact hlt)]
      rw [hR1] at hT1
      replace hT1 := Lib.hid hT1
      replace hlt := Lib.hid hlt
      replace hts := Lib.hid hts
      replace htd := Lib.hid htd
      go_wp2_with (fail)
      refine (hSM0.out _).mono ?_
      rintro e w6 ⟨rfl, hb⟩
      replace hB := below_trans hB hb
      clear hb y0 y1 y2 hX
      go_wp2_with (fail)
      refine (hT1.out _).mono ?_
      rintro e w7 ⟨t2, rfl, ht2, hb⟩
      replace hB := below_trans hB hb
      clear hb
      go_wp2_with (fail)
      go_ret2
      exact ⟨t2, rfl, ht2, hB⟩
    · have l1 : decide ((t.size : Int) < (d.size : Int)) = false := decide_eq_false (by omega)
      have l2 := eq_false hlt
      have hR1 : told 0 0 mn d.data.toList = R := by rw [← hR0.out, if_neg (by decide), if_neg (by rw [← hts]; exact hlt)]
      have hT1 := hT00.out
      rw [hR1] at hT1
      replace hT1 := Lib.hid hT1
      replace hlt := Lib.hid hlt
      replace hts := Lib.hid hts
      replace htd := Lib.hid htd
      go_wp2_with (fail)
      refine (hSM0.out _).mono ?_
      rintro e w6 ⟨rfl, hb⟩
      replace hB := below_trans hB hb
      clear hb y0 y1 y2 hX
      go_wp2_with (fail)
      refine (hT1.out _).mono ?_
      rintro e w7 ⟨t2, rfl, ht2, hb⟩
      replace hB := below_trans hB hb
      clear hb
      go_wp2_with (fail)
      go_ret2
      exact ⟨t2, rfl, ht2, hB⟩
theorem seg_put (d : ByteArray) (c b : Int) (w : World) (ht : Tab w) (ht6 : Tab6 w) :
    Calls Tryz.prog 23 #[.string d, .agg #[.int .i64 c, .int .i64 b]] w fun e w' => segR c b d e ∧ Below w.heap.size w w' := by
  unfold segR
  by_cases h : segOk c b d.data.toList = true
  · refine (put_yes d c b w h ht ht6).mono fun e w' hh => ?_
    obtain ⟨t, h1, h2, h3⟩ := hh
    rw [if_pos h]
    exact ⟨⟨t, h1, h2⟩, h3⟩
  · have key : ∀ {e : Ending} {w' : World}, (e = .returned (.tuple #[.string ⟨#[]⟩, .int .i64 2200]) ∧ Below w.heap.size w w') → (if segOk c b d.data.toList = true then ∃ t : ByteArray, e = .returned (.tuple #[.string t, .int .i64 0]) ∧ t.data.toList = segP c b d.data.toList else e = .returned (.tuple #[.string ⟨#[]⟩, .int .i64 2200])) ∧ Below w.heap.size w w' := fun hh => ⟨by rw [if_neg h]; exact hh.1, hh.2⟩
    by_cases h1 : fOk c b = true ∧ d.size % fsz c b = 0 ∧ d.size ≤ 4096
    · refine (put_no2 d c b w h1.1 h1.2.1 h1.2.2 ?_).mono fun e w' hh => key hh
      by_cases h2 : d.size = 0
      · exact .inl h2
      · refine .inr (Nat.not_le.1 fun h3 => h (segOk_iff.2 ⟨h1.1, ?_, ?_, ?_⟩))
        · rw [size_list]; exact h1.2.1
        · rw [size_list]; omega
        · rw [size_list]; exact h3
    · exact (put_no1 d c b w h1).mono fun e w' hh => key hh
end Go.Proofs.YtiokfaiioealdaaGreatDoor
namespace Go.Proofs.YtiokfaiioealdaaGreatDoor
set_option linter.unusedVariables false
set_option linter.unusedSimpArgs false
def opened (c b : Int) (k y m : Nat) (own : List UInt8) : List UInt8 := if k = 1 then framesF c b own y m else if k = 2 then (List.replicate m own).flatten else own
def szOf (S : List UInt8) : Nat := leV ((S.take 5).drop 3)
def ownS (S : List UInt8) : List UInt8 := (S.take (5 + szOf S)).drop 5
def hdOk (c b : Int) (S : List UInt8) : Bool := fOk c b && (decide (9 ≤ S.length) && decide (S.length = 9 + szOf S))
def smOk (S : List UInt8) : Bool := decide (leV (S.drop (S.length - 4)) = crcB (S.take (S.length - 4)))
def getE (c b : Int) (S : List UInt8) : Int := if hdOk c b S && !smOk S then 2201 else 2200
def dataS (c b : Int) (S : List UInt8) : List UInt8 := opened c b (S.getD 0 0).toNat (S.getD 1 0).toNat (S.getD 2 0).toNat (ownS S)
def gotOk (c b : Int) (S : List UInt8) : Bool := hdOk c b S && (smOk S && (decide (szOf S ≤ 4096) && (decide ((S.getD 2 0).toNat ≤ 64) && (segOk c b (dataS c b S) && decide (segP c b (dataS c b S) = S)))))
def gotL (c b : Int) (S : List UInt8) : Option (List UInt8) := if gotOk c b S then some (dataS c b S) else none
theorem le2 {n : Nat} (h : n < 65536) : leV [by8 n, by8 ((n : Int) / 256)] = n := by
  have h1 := by8_val n
  have h2 := by8_val ((n : Int) / 256)
  simp only [leV]
  omega
theorem le4 {n : Nat} (h : n < 4294967296) : leV (w4 n) = n := by
  have h1 := by8_val n
  have h2 := by8_val ((n : Int) / 256)
  have h3 := by8_val ((n : Int) / 65536)
  have h4 := by8_val ((n : Int) / 16777216)
  simp only [w4, leV]
  omega
theorem crcB_lt (s : List UInt8) : crcB s < 4294967296 := crcOf_lt _ (by intro x hx; obtain ⟨y, -, rfl⟩ := List.mem_map.1 hx; exact y.toNat_lt)
theorem told_cons (k y m : Nat) (own : List UInt8) : told k y m own = by8 k :: by8 y :: by8 m :: by8 own.length :: by8 ((own.length : Int) / 256) :: (own ++ w4 (crcB (toldH k y m own))) := rfl
theorem told_parse {k y m : Nat} {own : List UInt8} (hk : k < 256) (hy : y < 256) (hm : m < 256) (hl : own.length < 65536) :
    szOf (told k y m own) = own.length ∧ ownS (told k y m own) = own ∧ smOk (told k y m own) = true ∧ ((told k y m own).getD 0 0).toNat = k ∧ ((told k y m own).getD 1 0).toNat = y ∧ ((told k y m own).getD 2 0).toNat = m := by
  have hsz : szOf (told k y m own) = own.length := by
    rw [told_cons]
    exact le2 hl
  have hlen := told_len k y m own
  have h5 : (told k y m own).length - 4 = 5 + own.length := by omega
  have hHl : (toldH k y m own).length = 5 + own.length := by unfold toldH w2; simp; omega
  have htake : (told k y m own).take (5 + own.length) = toldH k y m own := by
    unfold told
    rw [List.take_append_of_le_length (by rw [hHl]; exact Nat.le_refl _), List.take_of_length_le (by rw [hHl]; exact Nat.le_refl _)]
  have hdrop : (told k y m own).drop (5 + own.length) = w4 (crcB (toldH k y m own)) := by
    unfold told
    rw [← hHl, List.drop_left]
  refine ⟨hsz, ?_, ?_, ?_, ?_, ?_⟩
  · unfold ownS
    rw [hsz, htake]
    rfl
  · unfold smOk
    rw [h5, htake, hdrop, le4 (crcB_lt _), decide_eq_true rfl]
  · rw [told_cons]; exact by8_nat hk
  · rw [told_cons]; exact by8_nat hy
  · rw [told_cons]; exact by8_nat hm
theorem open_back {c b : Int} {l : List UInt8} (h : segOk c b l = true) : opened c b (segK c b l) (segY c b l) (l.length / fsz c b) (segO c b l) = l := by
  have ht := seg_tells h
  unfold opened
  by_cases h1 : segK c b l = 1
  · rw [if_pos h1]
    unfold segY segO
    rw [if_pos h1, if_neg (by omega), if_pos h1, frames_back h]
  · rw [if_neg h1]
    rcases ht with ⟨e, hl⟩ | ⟨e, -⟩ | ⟨e, hl⟩
    · rw [if_pos e]; exact hl.symm
    · exact absurd e h1
    · rw [if_neg (by omega)]; exact hl.symm
theorem got_seg {c b : Int} {l : List UInt8} (h : segOk c b l = true) : gotL c b (segP c b l) = some l := by
  obtain ⟨hf, -, -, -⟩ := segOk_iff.1 h
  have hk := segK_in c b l
  have hy := segY_in c b l
  obtain ⟨m1, m64, -, h256⟩ := seg_many h
  have ho := segO_in h
  obtain ⟨p1, p2, p3, p4, p5, p6⟩ := told_parse (k := segK c b l) (y := segY c b l) (m := l.length / fsz c b) (own := segO c b l) (by omega) (by omega) (by omega) (by omega)
  rw [← seg_told] at p1 p2 p3 p4 p5 p6
  have hd : dataS c b (segP c b l) = l := by
    unfold dataS
    rw [p2, p4, p5, p6, open_back h]
  have hlen : (segP c b l).length = 9 + (segO c b l).length := by rw [seg_told, told_len]
  have hok : gotOk c b (segP c b l) = true := by
    unfold gotOk hdOk
    rw [hd, p1, p3, p6, hf, h, hlen, decide_eq_true (show 9 ≤ 9 + (segO c b l).length by omega), decide_eq_true (show 9 + (segO c b l).length = 9 + (segO c b l).length from rfl), decide_eq_true (show (segO c b l).length ≤ 4096 by omega), decide_eq_true m64, decide_eq_true (show segP c b l = segP c b l from rfl)]
    rfl
  rw [gotL, if_pos hok, hd]
theorem gotOk_iff {c b : Int} {S : List UInt8} : gotOk c b S = true ↔ hdOk c b S = true ∧ smOk S = true ∧ szOf S ≤ 4096 ∧ (S.getD 2 0).toNat ≤ 64 ∧ segOk c b (dataS c b S) = true ∧ segP c b (dataS c b S) = S := by
  unfold gotOk
  simp only [Bool.and_eq_true, decide_eq_true_eq]
theorem got_some {c b : Int} {S l : List UInt8} (h : gotL c b S = some l) : segOk c b l = true ∧ segP c b l = S := by
  unfold gotL at h
  split at h
  · rename_i hok
    cases h
    exact (gotOk_iff.1 hok).2.2.2.2
  · cases h
end Go.Proofs.YtiokfaiioealdaaGreatDoor
namespace Go.Proofs.YtiokfaiioealdaaGreatDoor
open Go.RowKit Go.Proofs.YtiokfaiioealdaaGreatDoorW.PrintWords Go.Proofs.YtiokfaiioealdaaGreatDoorW.PrintLast Go.Proofs.YtiokfaiioealdaaGreatDoorW.PrintMore Go.Proofs.YtiokfaiioealdaaGreatDoor.L
set_option linter.unusedVariables false
set_option linter.unusedSimpArgs false
section
variable {P : Program} {ops : Array Oper} {Q : Exit → Act → World → Prop}
/-- A call of a function value. -/
theorem goesv_ {oi : Oper} {N : Option Tmp} {a : Act} {w : World} {K : Act → World → Prop} {f : FuncId} {fn : Func} {x : Operand} {xs : Array Operand} {ts : Array TypeId} (hf : P.funcs[f]? = some fn) (hname : (fn.name == "runtime.NumGoroutine") = false) (hb : fn.body.isSome = true) (args : Array Value)
    (hw : Region.wanted oi (yielded ops a.tmps) = true) (hN : oi.dst = N) (hop : oi.op = .call { callee := .value x, args := xs, argTypes := ts }) (hx : a.eval x = .func (Fn.func f) #[] #[]) (hargs : xs.map a.eval = args)
    (h : Calls P f args w fun e w' => ∃ v, e = .returned v ∧ K (a.put N v) w') : if Region.wanted oi (yielded ops a.tmps) = true then Oper.wp P oi a w K Q else K (a.put N undef) w := by
  refine call_ f args hw hN ?_ h
  have he := enters_ hf hname hb args w
  unfold execOp
  simp [hop, hx, resolve, Deferred.ofValue, invoke, hargs, he]
end
def opF (k : Nat) : Nat := if k = 1 then 111 else if k = 2 then 112 else 113
set_option maxHeartbeats 8000000 in
set_option maxRecDepth 100000 in
theorem seg_opens (k : Nat) (w : World) : Calls Tryz.prog 69 #[.int .u8 k] w fun e w' => e = .returned (.func (Fn.func (opF k)) #[] #[]) ∧ ∃ n, w' = w.drewN n := by
  by_cases h1 : k = 1
  · subst h1
    go_enter Tryz.func69, Tryz.ntmps69
    go_wp2_with (fail)
    go_ret
    exact ⟨rfl, 0, rfl⟩
  · have e1 : ((k : Int) == 1) = false := beq_eq_false_iff_ne.2 (by omega)
    by_cases h2 : k = 2
    · subst h2
      go_enter Tryz.func69, Tryz.ntmps69
      go_wp2_with (fail)
      go_ret
      exact ⟨rfl, 0, rfl⟩
    · have e2 : ((k : Int) == 2) = false := beq_eq_false_iff_ne.2 (by omega)
      have hF : opF k = 113 := by unfold opF; rw [if_neg h1, if_neg h2]
      rw [hF]
      replace h1 := Lib.hid h1
      replace h2 := Lib.hid h2
      go_enter Tryz.func69, Tryz.ntmps69
      go_wp2_with (fail)
      go_ret
      exact ⟨rfl, 0, rfl⟩
set_option maxHeartbeats 8000000 in
theorem seg_rep (own : ByteArray) (c b : Int) (y m : Nat) (w : World) (hm : m ≤ 64) (ho : own.size ≤ 4096) :
    Calls Tryz.prog 112 #[.string own, .agg #[.int .i64 c, .int .i64 b], .int .i64 y, .int .i64 m] w fun e w' => ∃ t : ByteArray, e = .returned (.string t) ∧ t.data.toList = (List.replicate m own.data.toList).flatten ∧ Below w.heap.size w w' := by
  have hRp := fun W => Tryz.strings_Repeat own m W (by omega) (by have := Nat.mul_le_mul ho hm; omega)
  have hTl := rep_list own.data.toList m
  obtain ⟨T, hT⟩ : ∃ T : ByteArray, T = ⟨(Lib.repeatL own.data.toList m).toArray⟩ := ⟨_, rfl⟩
  have hTd : T.data.toList = (List.replicate m own.data.toList).flatten := by rw [hT]; exact hTl
  rw [← hT] at hRp
  replace hRp := Lib.hid hRp
  replace hTd := Lib.hid hTd
  clear hT hTl
  go_enter Tryz.func112, Tryz.ntmps112
  go_wp2_with (fail)
  refine (hRp.out _).mono ?_
  rintro e w1 ⟨rfl, hb⟩
  go_wp2_with (fail)
  go_ret
  exact ⟨T, rfl, hTd.out, below_trans (L.below_alloc (Below.refl w.heap.size w) _) hb⟩
set_option maxHeartbeats 8000000 in
theorem seg_raw (own : ByteArray) (c b : Int) (y m : Nat) (w : World) :
    Calls Tryz.prog 113 #[.string own, .agg #[.int .i64 c, .int .i64 b], .int .i64 y, .int .i64 m] w fun e w' => ∃ t : ByteArray, e = .returned (.string t) ∧ t.data.toList = own.data.toList ∧ Below w.heap.size w w' := by
  go_enter Tryz.func113, Tryz.ntmps113
  go_wp2_with (fail)
  go_ret
  exact ⟨own, rfl, rfl, L.below_alloc (Below.refl w.heap.size w) _⟩
/-- What an opened kind's function gives. -/
theorem seg_open (k : Nat) (own : ByteArray) (c b : Int) (y m : Nat) (w : World) (hf : fOk c b = true) (hy : y < 256) (hm : m ≤ 64) (ho : own.size ≤ 4096) (ht : Tab w) :
    Calls Tryz.prog (opF k) #[.string own, .agg #[.int .i64 c, .int .i64 b], .int .i64 y, .int .i64 m] w fun e w' => ∃ t : ByteArray, e = .returned (.string t) ∧ t.data.toList = opened c b k y m own.data.toList ∧ Below w.heap.size w w' := by
  unfold opF opened
  by_cases h1 : k = 1
  · rw [if_pos h1, if_pos h1]; exact seg_frames own c b y m w hf hy hm ht
  · rw [if_neg h1, if_neg h1]
    by_cases h2 : k = 2
    · rw [if_pos h2, if_pos h2]; exact seg_rep own c b y m w hm ho
    · rw [if_neg h2, if_neg h2]; exact seg_raw own c b y m w
theorem opF_get (k : Nat) : ∃ fn, Tryz.prog.funcs[opF k]? = some fn ∧ (fn.name == "runtime.NumGoroutine") = false ∧ fn.body.isSome = true := by
  unfold opF
  split
  · exact ⟨_, Tryz.func111, by kernel_rfl, rfl⟩
  · split
    · exact ⟨_, Tryz.func112, by kernel_rfl, rfl⟩
    · exact ⟨_, Tryz.func113, by kernel_rfl, rfl⟩
theorem none1 {c b : Int} {S : List UInt8} (h : hdOk c b S = false) : gotL c b S = none ∧ getE c b S = 2200 := by
  constructor
  · rw [gotL, if_neg]; intro e; have := (gotOk_iff.1 e).1; rw [h] at this; cases this
  · rw [getE, h]; rfl
theorem none2 {c b : Int} {S : List UInt8} (h : hdOk c b S = true) (k : smOk S = false) : gotL c b S = none ∧ getE c b S = 2201 := by
  constructor
  · rw [gotL, if_neg]; intro e; have := (gotOk_iff.1 e).2.1; rw [k] at this; cases this
  · rw [getE, h, k]; rfl
theorem none3 {c b : Int} {S : List UInt8} (k : smOk S = true) : getE c b S = 2200 := by rw [getE, k, Bool.not_true, Bool.and_false]; rfl
theorem byte_at (s : ByteArray) (i : Nat) (h : i < s.size) : (s.data.toList.getD i 0).toNat = (s[i]'h).toNat := by
  rw [List.getD_eq_getElem?_getD, Array.getElem?_toList, Array.getElem?_eq_getElem (show i < s.data.size from h)]
  rfl
def gotR (c b : Int) (s : ByteArray) (e : Ending) : Prop :=
  match gotL c b s.data.toList with
  | some l => ∃ d : ByteArray, e = .returned (.tuple #[.string d, .int .i64 0]) ∧ d.data.toList = l
  | none => e = .returned (.tuple #[.string ⟨#[]⟩, .int .i64 (getE c b s.data.toList)])
theorem gotR_none {c b : Int} {s : ByteArray} {e : Ending} {n : Int} (h : gotL c b s.data.toList = none ∧ getE c b s.data.toList = n) (he : e = .returned (.tuple #[.string ⟨#[]⟩, .int .i64 n])) : gotR c b s e := by
  unfold gotR; rw [h.1, h.2]; exact he
set_option maxHeartbeats 8000000 in
set_option maxRecDepth 100000 in
theorem seg_get (s : ByteArray) (c b : Int) (w : World) (ht : Tab w) (ht6 : Tab6 w) (hs : s.size ≤ 140737488351232) :
    Calls Tryz.prog 25 #[.string s, .agg #[.int .i64 c, .int .i64 b]] w fun e w' => gotR c b s e ∧ Below w.heap.size w w' := by
  have hM := fun W => PQ.pcm_May.calls c b (fOk c b) W (may_q c b)
  obtain ⟨S, hS⟩ : ∃ S, s.data.toList = S := ⟨_, rfl⟩
  have hSl : S.length = s.size := by rw [← hS, size_list]
  have hBa := L.below_alloc (Below.refl w.heap.size w) (.cells #[.int .i64 c, .int .i64 b] 39)
  have hX0 := L.BC.new w [.int .i64 c, .int .i64 b] 39
  cases hf : fOk c b with
  | false =>
    rw [hf] at hM
    have hn := none1 (c := c) (b := b) (S := s.data.toList) (by unfold hdOk; rw [hf, Bool.false_and])
    replace hM := Lib.hid hM
    replace hn := Lib.hid hn
    clear hf hS hSl ht ht6
    go_enter Tryz.func25, Tryz.ntmps25
    go_wp2_with (fail)
    refine (hM.out _).mono ?_
    rintro e w1 ⟨rfl, hb1⟩
    have hB1 := below_trans hBa hb1
    go_wp2_with (fail)
    go_ret2
    exact ⟨gotR_none hn.out rfl, hB1⟩
  | true =>
    rw [hf] at hM
    replace hM := Lib.hid hM
    by_cases h9 : s.size < 9
    · have hn := none1 (c := c) (b := b) (S := s.data.toList) (by unfold hdOk; rw [hf, size_list, decide_eq_false (show ¬ 9 ≤ s.size by omega)]; rfl)
      have l1 : decide ((s.size : Int) < 9) = true := decide_eq_true (by omega)
      have l2 := eq_true h9
      replace hn := Lib.hid hn
      clear hf hS hSl ht ht6
      go_enter Tryz.func25, Tryz.ntmps25
      go_wp2_with (fail)
      refine (hM.out _).mono ?_
      rintro e w1 ⟨rfl, hb1⟩
      have hB1 := below_trans hBa hb1
      go_wp2_with (fail)
      go_ret2
      exact ⟨gotR_none hn.out rfl, hB1⟩
    · have l1 : decide ((s.size : Int) < 9) = false := decide_eq_false (by omega)
      have l2 := eq_false h9
      have q1 := eq_true (show (5 : Int) ≤ (s.size : Int) by omega)
      have q2 := eq_true (show 5 ≤ s.size by omega)
      obtain ⟨e1, hg1⟩ := field_eq (s.extract 3 5)
      have hx1 : (s.extract 3 5).size = 2 := by rw [ByteArray.size_extract]; omega
      have hv1 := fieldV_le (s.extract 3 5) (by omega) (by omega)
      have hz : leV (s.extract 3 5).data.toList = szOf S := by rw [ext_list, hS]; rfl
      rw [hz] at hv1
      have hF1 := fun W => PQ.field_Get.calls 40 (s.extract 3 5) _ e1 W hg1
      rw [hv1] at hF1
      obtain ⟨z, hzz⟩ : ∃ z, szOf S = z := ⟨_, rfl⟩
      rw [hzz] at hF1
      have hz6 : z < 65536 := by
        rw [← hzz, ← hz]
        have hl2 : (s.extract 3 5).data.toList.length = 2 := by rw [size_list, hx1]
        match (s.extract 3 5).data.toList, hl2 with
        | [a, b], _ =>
          have := a.toNat_lt
          have := b.toNat_lt
          simp only [leV]
          omega
      have hw9 : wrap64 (9 + (z : Int)) = 9 + (z : Int) := IntWalk.wrap64_in _ (by omega)
      have hw5 : wrap64 (5 + (z : Int)) = 5 + (z : Int) := IntWalk.wrap64_in _ (by omega)
      have hwe : wrap64 ((s.size : Int) - 4) = (s.size : Int) - 4 := IntWalk.wrap64_in _ (by omega)
      replace hF1 := Lib.hid hF1
      replace hzz := Lib.hid hzz
      clear hg1 hx1 hv1 hz
      by_cases hlen : s.size = 9 + z
      · obtain ⟨E, hE⟩ : ∃ E, 5 + z = E := ⟨_, rfl⟩
        have hE4 : s.size - 4 = E := by omega
        have hw5' : wrap64 (5 + (z : Int)) = (E : Int) := by rw [hw5]; omega
        have hwe' : wrap64 ((s.size : Int) - 4) = (E : Int) := by rw [hwe]; omega
        have m1 : ((s.size : Int) != 9 + (z : Int)) = false := bne_eq_false_iff_eq.2 (by omega)
        have r5 : (5 : Int) + (z : Int) = (E : Int) := by omega
        have r4 : (s.size : Int) - 4 = (E : Int) := by omega
        have p1 := eq_true (show (5 : Int) ≤ (E : Int) by omega)
        have p2 := eq_true (show 5 ≤ E by omega)
        have p3 := eq_true (show (E : Int) ≤ (s.size : Int) by omega)
        have p4 := eq_true (show E ≤ s.size by omega)
        have p5 := eq_true (show (0 : Int) ≤ (E : Int) by omega)
        obtain ⟨e2, hg2⟩ := field_eq (s.extract E s.size)
        have hx2 : (s.extract E s.size).size = 4 := by rw [ByteArray.size_extract]; omega
        have hv2 := fieldV_le (s.extract E s.size) (by omega) (by omega)
        have hd2 : (s.extract E s.size).data.toList = S.drop (S.length - 4) := by rw [ext_list, hS, hSl, hE4, List.take_of_length_le (by rw [hSl]; exact Nat.le_refl _)]
        rw [hd2] at hv2
        have hF2 := fun W => PQ.field_Get.calls 40 (s.extract E s.size) _ e2 W hg2
        rw [hv2] at hF2
        have hsum := fun W => crc_sum (s.extract 0 E) W (by rw [ByteArray.size_extract]; omega)
        have hc2 : crcOf (nats (s.extract 0 E)) = crcB (S.take (S.length - 4)) := by
          unfold nats crcB
          rw [ext_list, hS, hSl, hE4, List.drop_zero]
        rw [hc2] at hsum
        obtain ⟨va, hva⟩ : ∃ v, leV (S.drop (S.length - 4)) = v := ⟨_, rfl⟩
        obtain ⟨vb, hvb⟩ : ∃ v, crcB (S.take (S.length - 4)) = v := ⟨_, rfl⟩
        rw [hva] at hF2
        rw [hvb] at hsum
        have hsm : smOk S = decide (va = vb) := by rw [smOk, hva, hvb]
        have hhd : hdOk c b S = true := by unfold hdOk; rw [hf, hSl, hzz.out, decide_eq_true (show 9 ≤ s.size by omega), decide_eq_true hlen]; rfl
        have hown : (s.extract 5 E).data.toList = ownS S := by rw [ext_list, hS, ownS, hzz.out, hE]
        have ho : (s.extract 5 E).size = z := by rw [ByteArray.size_extract]; omega
        replace hF2 := Lib.hid hF2
        replace hsum := Lib.hid hsum
        replace hE := Lib.hid hE
        replace hE4 := Lib.hid hE4
        replace hlen := Lib.hid hlen
        replace hSl := Lib.hid hSl
        replace hva := Lib.hid hva
        replace hvb := Lib.hid hvb
        replace hsm := Lib.hid hsm
        replace hhd := Lib.hid hhd
        replace hown := Lib.hid hown
        replace ho := Lib.hid ho
        clear hg2 hx2 hv2 hd2 hc2 hw5 hwe
        have i0 : 0 < s.size := by have := hlen.out; omega
        have i1 : 1 < s.size := by have := hlen.out; omega
        have i2 : 2 < s.size := by have := hlen.out; omega
        have g0 := byte_at s 0 i0
        have g1 := byte_at s 1 i1
        have g2 := byte_at s 2 i2
        have b1lt := (s[1]'i1).toNat_lt
        obtain ⟨b0, hb0⟩ : ∃ x, (s[0]'i0).toNat = x := ⟨_, rfl⟩
        obtain ⟨b1, hb1⟩ : ∃ x, (s[1]'i1).toNat = x := ⟨_, rfl⟩
        obtain ⟨b2, hb2⟩ : ∃ x, (s[2]'i2).toNat = x := ⟨_, rfl⟩
        rw [hb0] at g0
        rw [hb1] at g1 b1lt
        rw [hb2] at g2
        rw [hS] at g0 g1 g2
        have j0 := eq_true (show (0 : Int) < (s.size : Int) by omega)
        have j1 := eq_true (show (1 : Int) < (s.size : Int) by omega)
        have j2 := eq_true (show (2 : Int) < (s.size : Int) by omega)
        have hdat : dataS c b S = opened c b b0 b1 b2 (ownS S) := by unfold dataS; rw [g0, g1, g2]
        replace hdat := Lib.hid hdat
        replace g2 := Lib.hid g2
        clear g0 g1
        by_cases hab : va = vb
        · have u1 : ((va : Int) != (vb : Int)) = false := bne_eq_false_iff_eq.2 (by omega)
          have hsm2 : smOk S = true := by rw [hsm.out, decide_eq_true hab]
          replace hab := Lib.hid hab
          have ht0 := Lib.hid ht
          have ht60 := Lib.hid ht6
          replace hS := Lib.hid hS
          replace hf := Lib.hid hf
          clear ht ht6
          by_cases hz4 : z ≤ 4096
          · have v1 : decide (4096 < (z : Int)) = false := decide_eq_false (by omega)
            have v2 := eq_false (show ¬ 4096 < z by omega)
            replace hz4 := Lib.hid hz4
            go_enter Tryz.func25, Tryz.ntmps25
            go_wp2_with (fail)
            refine (hM.out _).mono ?_
            rintro e w1 ⟨rfl, hb1⟩
            have hB1 := below_trans hBa hb1
            have hX1 := L.BC.below hX0 hb1
            clear hb1
            go_wp2_with (fail)
            refine (hF1.out _).mono ?_
            rintro e w2 ⟨rfl, hd⟩
            obtain ⟨k2, rfl⟩ := hd.out
            replace hB1 := L.below_drewN hB1 k2
            replace hX1 := L.BC.drewN hX1 k2
            clear hd
            generalize w1.drewN k2 = w2 at hB1 hX1 ⊢
            go_wp2_with (fail)
            refine (hF2.out _).mono ?_
            rintro e w3 ⟨rfl, hd⟩
            obtain ⟨k3, rfl⟩ := hd.out
            replace hB1 := L.below_drewN hB1 k3
            replace hX1 := L.BC.drewN hX1 k3
            clear hd
            generalize w2.drewN k3 = w3 at hB1 hX1 ⊢
            go_wp2_with (fail)
            refine (hsum.out _).mono ?_
            rintro e w4 ⟨rfl, hb4⟩
            have hB4 := below_trans hB1 hb4
            have hX4 := L.BC.below hX1 hb4
            clear hb4 hX1 hB1
            by_cases hm2 : b2 ≤ 64
            · have d2 : decide (64 < (b2 : Int)) = false := decide_eq_false (by omega)
              have d3 := eq_false (show ¬ 64 < b2 by omega)
              have hwb1 : wrap64 (b1 : Int) = b1 := nat_w (Nat.le_trans (Nat.le_of_lt b1lt) (by decide))
              have hwb2 : wrap64 (b2 : Int) = b2 := nat_w (Nat.le_trans hm2 (by decide))
              go_wp2_with (fail)
              replace hX4 := L.BC.drew hX4
              replace hB4 := L.below_drew hB4
              refine start_ (n := 13) (S := fun w' => L.BC w' w.heap.size 39 [.int .i64 c, .int .i64 b]) (ds := []) #[false, false, false, false, false, false, false, false, false, false, false, false, false] (by kernel_rfl) rfl rfl hX4 (fun hHeld => ?_)
              generalize w4.drew = w5 at hX4 hB4 hHeld ⊢
              refine pure_ (i := 0) (N := (some 61)) (v := ?_) (a' := ?_) #[true, false, false, false, false, false, false, false, false, false, false, false, false] rfl rfl (by kernel_rfl) (fun _ _ _ h => h) (Or.inl ⟨by rfl, ?_⟩) ?_ ?_
              rotate_left
              · intro w'
                go_simp
                with_reducible rfl
              rotate_left
              · simp only [Act.put, List.setIfInBounds_toArray, List.set_cons_zero, List.set_cons_succ, i64_w, i32_w]
                rfl
              refine pure_ (i := 1) (N := (some 62)) (v := ?_) (a' := ?_) #[true, true, false, false, false, false, false, false, false, false, false, false, false] rfl rfl (by kernel_rfl) (fun _ _ _ h => h) (Or.inl ⟨by rfl, ?_⟩) ?_ ?_
              rotate_left
              · intro w'
                go_simp
                with_reducible rfl
              rotate_left
              · simp only [Act.put, List.setIfInBounds_toArray, List.set_cons_zero, List.set_cons_succ, i64_w, i32_w]
                rfl
              refine pure_ (i := 3) (N := (some 64)) (v := ?_) (a' := ?_) #[true, true, false, true, false, false, false, false, false, false, false, false, false] rfl rfl (by kernel_rfl) (fun _ _ _ h => h) (Or.inl ⟨by rfl, ?_⟩) ?_ ?_
              rotate_left
              · intro w'
                go_simp
                with_reducible rfl
              rotate_left
              · simp only [Act.put, List.setIfInBounds_toArray, List.set_cons_zero, List.set_cons_succ, i64_w, i32_w]
                rfl
              refine pure_ (i := 5) (N := (some 66)) (v := ?_) (a' := ?_) #[true, true, false, true, false, true, false, false, false, false, false, false, false] rfl rfl (by kernel_rfl) (fun _ _ _ h => h) (Or.inl ⟨by rfl, ?_⟩) ?_ ?_
              rotate_left
              · intro w'
                go_simp
                with_reducible rfl
              rotate_left
              · simp only [Act.put, List.setIfInBounds_toArray, List.set_cons_zero, List.set_cons_succ, i64_w, i32_w]
                rfl
              refine pure_ (i := 6) (N := (some 67)) (v := ?_) (a' := ?_) #[true, true, false, true, false, true, true, false, false, false, false, false, false] rfl rfl (by kernel_rfl) (fun _ _ _ h => h) (Or.inl ⟨by rfl, ?_⟩) ?_ ?_
              rotate_left
              · intro w'
                go_simp
                with_reducible rfl
              rotate_left
              · simp only [Act.put, List.setIfInBounds_toArray, List.set_cons_zero, List.set_cons_succ, i64_w, i32_w]
                rfl
              refine pure_ (i := 7) (N := (some 68)) (v := ?_) (a' := ?_) #[true, true, false, true, false, true, true, true, false, false, false, false, false] rfl rfl (by kernel_rfl) (fun _ _ _ h => h) (Or.inl ⟨by rfl, ?_⟩) ?_ ?_
              rotate_left
              · intro w'
                go_simp
                with_reducible rfl
              rotate_left
              · simp only [Act.put, List.setIfInBounds_toArray, List.set_cons_zero, List.set_cons_succ, i64_w, i32_w]
                rfl
              refine pure_ (i := 8) (N := (some 69)) (v := ?_) (a' := ?_) #[true, true, false, true, false, true, true, true, true, false, false, false, false] rfl rfl (by kernel_rfl) (fun _ _ _ h => h) (Or.inl ⟨by rfl, ?_⟩) ?_ ?_
              rotate_left
              · intro w'
                go_simp
                with_reducible rfl
              rotate_left
              · simp only [Act.put, List.setIfInBounds_toArray, List.set_cons_zero, List.set_cons_succ, i64_w, i32_w]
                rfl
              refine pure_ (i := 9) (N := (some 70)) (v := ?_) (a' := ?_) #[true, true, false, true, false, true, true, true, true, true, false, false, false] rfl rfl (by kernel_rfl) (fun _ _ _ h => h) (Or.inl ⟨by rfl, ?_⟩) ?_ ?_
              rotate_left
              · intro w'
                go_simp
                with_reducible rfl
              rotate_left
              · simp only [Act.put, List.setIfInBounds_toArray, List.set_cons_zero, List.set_cons_succ, i64_w, i32_w]
                rfl
              refine pure_ (i := 10) (N := (some 71)) (v := ?_) (a' := ?_) #[true, true, false, true, false, true, true, true, true, true, true, false, false] rfl rfl (by kernel_rfl) (fun _ _ _ h => h) (Or.inl ⟨by rfl, ?_⟩) ?_ ?_
              rotate_left
              · intro w'
                go_simp
                with_reducible rfl
              rotate_left
              · simp only [Act.put, List.setIfInBounds_toArray, List.set_cons_zero, List.set_cons_succ, i64_w, i32_w]
                rfl
              refine take_ (i := 4) (N := (some 65)) (v := .agg #[.int .i64 c, .int .i64 b]) (a' := ?_) #[true, true, false, true, true, true, true, true, true, true, true, false, false] rfl rfl (by kernel_rfl) (fun _ _ _ h => h) (Or.inl ⟨by rfl, fun w' hS => L.loads 39 (.tmp 3) w.heap.size [.int .i64 c, .int .i64 b] _ (by rfl) (by rfl) Tryz.underlying39 rfl infoF w' (id hS)⟩) hHeld ?_ ?_
              rotate_left
              · simp only [Act.put, List.setIfInBounds_toArray, List.set_cons_zero, List.set_cons_succ, i64_w, i32_w]
                rfl
              refine one_ (i := 2) (N := (some 63)) #[true, true, true, true, true, true, true, true, true, true, true, false, false] rfl rfl (by kernel_rfl) (by decide) (fun K hK => ?_)
              refine goes_ Tryz.func69 (by kernel_rfl) rfl #[.int .u8 b0] (by rfl) rfl rfl (by (try simp only [List.map_toArray, List.map_cons, List.map_nil]); first | done | rfl) ?_
              refine (seg_opens b0 _).mono ?_
              rintro e w6 ⟨rfl, k6, rfl⟩
              refine ⟨_, rfl, ?_⟩
              replace hX4 := L.BC.drewN hX4 k6
              replace hB4 := L.below_drewN hB4 k6
              clear hHeld
              generalize w5.drewN k6 = w6 at hX4 hB4 ⊢
              refine hK.out _ _ hX4 (fun hHeld => ?_)
              clear hK K
              refine norm_ (a' := ?_) ?_ ?_
              rotate_left
              · show Act.put _ (some 63) _ = _
                simp only [Act.put, List.setIfInBounds_toArray, List.set_cons_zero, List.set_cons_succ, i64_w, i32_w]
                rfl
              refine one_ (i := 11) (N := (some 72)) #[true, true, true, true, true, true, true, true, true, true, true, true, false] rfl rfl (by kernel_rfl) (by decide) (fun K hK => ?_)
              obtain ⟨fn, hfn, hnm, hbd⟩ := opF_get b0
              refine goesv_ hfn hnm hbd #[.string (s.extract 5 E), .agg #[.int .i64 c, .int .i64 b], .int .i64 (wrap64 (b1 : Int)), .int .i64 (wrap64 (b2 : Int))] (by rfl) rfl rfl rfl (by (try simp only [List.map_toArray, List.map_cons, List.map_nil]); first | done | rfl) ?_
              rw [hwb1, hwb2]
              refine (seg_open b0 (s.extract 5 E) c b b1 b2 _ hf.out b1lt hm2 (by rw [ho.out]; exact hz4.out) (ht0.out.below hB4)).mono ?_
              rintro e w7 ⟨t, rfl, htd, hb7⟩
              refine ⟨_, rfl, ?_⟩
              rw [hown.out, ← hdat.out] at htd
              replace hX4 := L.BC.below hX4 hb7
              replace hB4 := below_trans hB4 hb7
              clear hHeld hb7
              refine hK.out _ _ hX4 (fun hHeld => ?_)
              clear hK K
              refine norm_ (a' := ?_) ?_ ?_
              rotate_left
              · show Act.put _ (some 72) _ = _
                simp only [Act.put, List.setIfInBounds_toArray, List.set_cons_zero, List.set_cons_succ, i64_w, i32_w]
                rfl
              refine pure_ (i := 12) (N := (some 12)) (v := ?_) (a' := ?_) #[true, true, true, true, true, true, true, true, true, true, true, true, true] rfl rfl (by kernel_rfl) (fun _ _ _ h => h) (Or.inl ⟨by rfl, ?_⟩) ?_ ?_
              rotate_left
              · intro w'
                go_simp
                with_reducible rfl
              rotate_left
              · simp only [Act.put, List.setIfInBounds_toArray, List.set_cons_zero, List.set_cons_succ, i64_w, i32_w]
                rfl
              refine done_ (by kernel_rfl) ?_
              have x0 := L.BC.at_ hX4 (o := 0) rfl
              have x1 := L.BC.at_ hX4 (o := 1) rfl
              replace htd := Lib.hid htd
              go_wp2_with (fail)
              refine (seg_put t c b _ (ht0.out.below hB4) (ht60.out.below hB4)).mono ?_
              rintro e w8 ⟨hsg, hb8⟩
              replace hB4 := below_trans hB4 hb8
              clear hb8 x0 x1 hX4
              unfold segR at hsg
              rw [htd.out] at hsg
              by_cases hok : segOk c b (dataS c b S) = true
              · rw [if_pos hok] at hsg
                obtain ⟨t2, rfl, ht2⟩ := hsg
                by_cases hts : segP c b (dataS c b S) = S
                · have hne : (t2.toList != s.toList) = false := by
                    rw [ByteArray.toList_eq, ByteArray.toList_eq, ht2, hS.out, hts]
                    simp
                  have heq : (t2.toList == s.toList) = true := by
                    rw [ByteArray.toList_eq, ByteArray.toList_eq, ht2, hS.out, hts]
                    simp
                  have heq2 : (t2.toList = s.toList) = True := eq_true (by
                    rw [ByteArray.toList_eq, ByteArray.toList_eq, ht2, hS.out, hts])
                  have hgot : gotL c b s.data.toList = some (dataS c b S) := by
                    rw [hS.out, gotL, if_pos (gotOk_iff.2 ⟨hhd.out, hsm2, by rw [hzz.out]; exact hz4.out, by rw [g2.out]; exact hm2, hok, hts⟩)]
                  replace hgot := Lib.hid hgot
                  replace hts := Lib.hid hts
                  replace ht2 := Lib.hid ht2
                  go_wp2_with (fail)
                  go_ret2
                  exact ⟨by unfold gotR; rw [hgot.out]; exact ⟨t, rfl, htd.out⟩, hB4⟩
                · have hne : (t2.toList != s.toList) = true := by
                    rw [ByteArray.toList_eq, ByteArray.toList_eq, ht2, hS.out]
                    exact bne_iff_ne.2 hts
                  have heq : (t2.toList == s.toList) = false := by
                    rw [ByteArray.toList_eq, ByteArray.toList_eq, ht2, hS.out]
                    exact beq_eq_false_iff_ne.2 hts
                  have heq2 : (t2.toList = s.toList) = False := eq_false (by
                    rw [ByteArray.toList_eq, ByteArray.toList_eq, ht2, hS.out]
                    exact hts)
                  have hgot : gotL c b s.data.toList = none ∧ getE c b s.data.toList = 2200 := by
                    rw [hS.out]
                    refine ⟨?_, none3 hsm2⟩
                    rw [gotL, if_neg]
                    intro e
                    exact hts (gotOk_iff.1 e).2.2.2.2.2
                  replace hgot := Lib.hid hgot
                  replace hts := Lib.hid hts
                  replace ht2 := Lib.hid ht2
                  go_wp2_with (fail)
                  go_ret2
                  exact ⟨gotR_none hgot.out rfl, hB4⟩
              · rw [if_neg hok] at hsg
                subst hsg
                have hgot : gotL c b s.data.toList = none ∧ getE c b s.data.toList = 2200 := by
                  rw [hS.out]
                  refine ⟨?_, none3 hsm2⟩
                  rw [gotL, if_neg]
                  intro e
                  exact hok (gotOk_iff.1 e).2.2.2.2.1
                replace hgot := Lib.hid hgot
                go_wp2_with (fail)
                go_ret2
                exact ⟨gotR_none hgot.out rfl, hB4⟩
            · have d2 : decide (64 < (b2 : Int)) = true := decide_eq_true (by omega)
              have d3 := eq_true (show 64 < b2 by omega)
              have hgot : gotL c b s.data.toList = none ∧ getE c b s.data.toList = 2200 := by
                rw [hS.out]
                refine ⟨?_, none3 hsm2⟩
                rw [gotL, if_neg]
                intro e
                have := (gotOk_iff.1 e).2.2.2.1
                rw [g2.out] at this
                exact hm2 this
              replace hgot := Lib.hid hgot
              replace hm2 := Lib.hid hm2
              go_wp2_with (fail)
              go_ret2
              exact ⟨gotR_none hgot.out rfl, hB4⟩
          · have v1 : decide (4096 < (z : Int)) = true := decide_eq_true (by omega)
            have v2 := eq_true (show 4096 < z by omega)
            have hgot : gotL c b s.data.toList = none ∧ getE c b s.data.toList = 2200 := by
              rw [hS.out]
              refine ⟨?_, none3 hsm2⟩
              rw [gotL, if_neg]
              intro e
              have := (gotOk_iff.1 e).2.2.1
              rw [hzz.out] at this
              exact hz4 this
            replace hgot := Lib.hid hgot
            replace hz4 := Lib.hid hz4
            go_enter Tryz.func25, Tryz.ntmps25
            go_wp2_with (fail)
            refine (hM.out _).mono ?_
            rintro e w1 ⟨rfl, hb1⟩
            have hB1 := below_trans hBa hb1
            go_wp2_with (fail)
            refine (hF1.out _).mono ?_
            rintro e w2 ⟨rfl, hd⟩
            obtain ⟨k2, rfl⟩ := hd.out
            replace hB1 := L.below_drewN hB1 k2
            generalize w1.drewN k2 = w2 at hB1 ⊢
            go_wp2_with (fail)
            refine (hF2.out _).mono ?_
            rintro e w3 ⟨rfl, hd⟩
            obtain ⟨k3, rfl⟩ := hd.out
            replace hB1 := L.below_drewN hB1 k3
            generalize w2.drewN k3 = w3 at hB1 ⊢
            go_wp2_with (fail)
            refine (hsum.out _).mono ?_
            rintro e w4 ⟨rfl, hb4⟩
            have hB4 := below_trans hB1 hb4
            go_wp2_with (fail)
            go_ret2
            exact ⟨gotR_none hgot.out rfl, hB4⟩
        · have u1 : ((va : Int) != (vb : Int)) = true := bne_iff_ne.2 (by omega)
          have hgot : gotL c b s.data.toList = none ∧ getE c b s.data.toList = 2201 := by
            rw [hS]
            exact none2 hhd.out (by rw [hsm.out, decide_eq_false hab])
          replace hgot := Lib.hid hgot
          replace hab := Lib.hid hab
          replace hS := Lib.hid hS
          clear ht ht6 hf
          go_enter Tryz.func25, Tryz.ntmps25
          go_wp2_with (fail)
          refine (hM.out _).mono ?_
          rintro e w1 ⟨rfl, hb1⟩
          have hB1 := below_trans hBa hb1
          go_wp2_with (fail)
          refine (hF1.out _).mono ?_
          rintro e w2 ⟨rfl, hd⟩
          obtain ⟨k2, rfl⟩ := hd.out
          replace hB1 := L.below_drewN hB1 k2
          generalize w1.drewN k2 = w2 at hB1 ⊢
          go_wp2_with (fail)
          refine (hF2.out _).mono ?_
          rintro e w3 ⟨rfl, hd⟩
          obtain ⟨k3, rfl⟩ := hd.out
          replace hB1 := L.below_drewN hB1 k3
          generalize w2.drewN k3 = w3 at hB1 ⊢
          go_wp2_with (fail)
          refine (hsum.out _).mono ?_
          rintro e w4 ⟨rfl, hb4⟩
          have hB4 := below_trans hB1 hb4
          go_wp2_with (fail)
          go_ret2
          exact ⟨gotR_none hgot.out rfl, hB4⟩
      · have m1 : ((s.size : Int) != 9 + (z : Int)) = true := bne_iff_ne.2 (by omega)
        have hn := none1 (c := c) (b := b) (S := s.data.toList) (by unfold hdOk; rw [hf, size_list, hS, hzz.out, decide_eq_false (show ¬ s.size = 9 + z from hlen), Bool.and_false, Bool.and_false])
        replace hn := Lib.hid hn
        replace hlen := Lib.hid hlen
        replace hS := Lib.hid hS
        replace hSl := Lib.hid hSl
        clear hf ht ht6
        go_enter Tryz.func25, Tryz.ntmps25
        go_wp2_with (fail)
        refine (hM.out _).mono ?_
        rintro e w1 ⟨rfl, hb1⟩
        have hB1 := below_trans hBa hb1
        go_wp2_with (fail)
        refine (hF1.out _).mono ?_
        rintro e w2 ⟨rfl, hd⟩
        obtain ⟨k2, rfl⟩ := hd.out
        go_wp2_with (fail)
        go_ret2
        exact ⟨gotR_none hn.out rfl, L.below_drewN hB1 _⟩
end Go.Proofs.YtiokfaiioealdaaGreatDoor
namespace Go.Proofs.YtiokfaiioealdaaGreatDoor
open Go.RowKit Go.Proofs.YtiokfaiioealdaaGreatDoorW.PrintWords Go.Proofs.YtiokfaiioealdaaGreatDoorW.PrintLast Go.Proofs.YtiokfaiioealdaaGreatDoorW.PrintMore Go.Proofs.YtiokfaiioealdaaGreatDoor.L
set_option linter.unusedVariables false
set_option linter.unusedSimpArgs false
theorem put_bad (d : ByteArray) (c b : Int) (w : World) (h : segOk c b d.data.toList = false) (ht : Tab w) (ht6 : Tab6 w) :
    Calls Tryz.prog 23 #[.string d, .agg #[.int .i64 c, .int .i64 b]] w fun e w' => e = .returned (.tuple #[.string ⟨#[]⟩, .int .i64 2200]) ∧ Below w.heap.size w w' := by
  refine (seg_put d c b w ht ht6).mono fun e w' hh => ⟨?_, hh.2⟩
  have := hh.1
  unfold segR at this
  rw [h, if_neg (by decide)] at this
  exact this
theorem get_ok (s d : ByteArray) (c b : Int) (w : World) (ht : Tab w) (ht6 : Tab6 w) (hs : s.size ≤ 140737488351232) (h : gotL c b s.data.toList = some d.data.toList) :
    Calls Tryz.prog 25 #[.string s, .agg #[.int .i64 c, .int .i64 b]] w fun e w' => e = .returned (.tuple #[.string d, .int .i64 0]) ∧ Below w.heap.size w w' := by
  refine (seg_get s c b w ht ht6 hs).mono fun e w' hh => ⟨?_, hh.2⟩
  have hg := hh.1
  unfold gotR at hg
  rw [h] at hg
  obtain ⟨d2, he, hd⟩ := hg
  have : d2 = d := ByteArray.ext (Array.toList_inj.1 hd)
  rw [he, this]
theorem get_bad (s : ByteArray) (c b n : Int) (w : World) (ht : Tab w) (ht6 : Tab6 w) (hs : s.size ≤ 140737488351232) (h : gotL c b s.data.toList = none ∧ getE c b s.data.toList = n) :
    Calls Tryz.prog 25 #[.string s, .agg #[.int .i64 c, .int .i64 b]] w fun e w' => e = .returned (.tuple #[.string ⟨#[]⟩, .int .i64 n]) ∧ Below w.heap.size w w' := by
  refine (seg_get s c b w ht ht6 hs).mono fun e w' hh => ⟨?_, hh.2⟩
  have hg := hh.1
  unfold gotR at hg
  rw [h.1, h.2] at hg
  exact hg
theorem aw22_ok : segOk 1 16 [5, 0, 5, 0, 5, 0] = true := by decide +kernel
theorem aw22_s : segP 1 16 [5, 0, 5, 0, 5, 0] = [2, 0, 3, 2, 0, 5, 0, 73, 136, 45, 154] := by decide +kernel
theorem aw22_b : segOk 1 16 [5, 0, 255, 127] = true := by decide +kernel
theorem aw22_x : hdOk 1 16 [1, 0, 3, 2, 0, 5, 0, 73, 136, 45, 154] = true ∧ smOk [1, 0, 3, 2, 0, 5, 0, 73, 136, 45, 154] = false := by decide +kernel
theorem aw22_m : hdOk 1 16 [0, 3, 2, 0, 5, 0, 73, 136, 45, 154] = false := by decide +kernel
set_option maxHeartbeats 8000000 in
set_option maxRecDepth 100000 in
theorem awake22 (w : World) (ht : Tab w) (ht6 : Tab6 w) : Calls Tryz.prog 27 #[] w fun e w' => e = .returned (.bool true) ∧ Below w.heap.size w w' := by
  have ht0 := Lib.hid ht
  have ht60 := Lib.hid ht6
  clear ht ht6
  have hp1 := fun W (a : Tab W) (b : Tab6 W) => put_yes ⟨#[5, 0, 5, 0, 5, 0]⟩ 1 16 W aw22_ok a b
  have hp2 := fun W (a : Tab W) (b : Tab6 W) => put_yes ⟨#[5, 0, 255, 127]⟩ 1 16 W aw22_b a b
  have hp3 := fun W (a : Tab W) (b : Tab6 W) => put_bad ⟨#[]⟩ 1 16 W (by decide +kernel) a b
  have hcr := fun W => rcrc ⟨#[]⟩ W (by decide)
  have hcr0 : crcOf (nats ⟨#[]⟩) = 0 := by decide +kernel
  rw [hcr0] at hcr
  replace hp1 := Lib.hid hp1
  replace hp2 := Lib.hid hp2
  replace hp3 := Lib.hid hp3
  replace hcr := Lib.hid hcr
  clear hcr0
  have n0 := L.BC.at_ (L.BC.new w [.int .i64 0, .int .i64 0] 39) (o := 0) rfl
  have n1 := L.BC.at_ (L.BC.new w [.int .i64 0, .int .i64 0] 39) (o := 1) rfl
  have f0 := L.BC.frozen (L.BC.new w [.int .i64 0, .int .i64 0] 39) 0
  have f1 := L.BC.frozen (L.BC.new w [.int .i64 0, .int .i64 0] 39) 1
  go_enter Tryz.func27, Tryz.ntmps27
  go_wp2_with (fail)
  have hX := L.BC.new w [.int .i64 1, .int .i64 16] 39
  have hB := L.below_alloc (Below.refl w.heap.size w) (.cells #[.int .i64 1, .int .i64 16] 39)
  clear n0 n1 f0 f1
  refine (hp1.out _ (ht0.out.below hB) (ht60.out.below hB)).mono ?_
  rintro e w1 ⟨a, rfl, had, hb⟩
  replace hX := L.BC.below hX hb
  replace hB := below_trans hB hb
  clear hb hp1
  rw [aw22_s] at had
  have has : a.size = 11 := by rw [← size_list, had]; rfl
  have hg1 := fun W (t : Tab W) (u : Tab6 W) => get_ok a ⟨#[5, 0, 5, 0, 5, 0]⟩ 1 16 W t u (by omega) (by rw [had, ← aw22_s]; exact got_seg aw22_ok)
  obtain ⟨a1, ha1⟩ : ∃ x : ByteArray, a.extract 1 a.size = x := ⟨_, rfl⟩
  obtain ⟨a7, ha7⟩ : ∃ x : ByteArray, a.extract 0 7 = x := ⟨_, rfl⟩
  have ha1d : a1.data.toList = [0, 3, 2, 0, 5, 0, 73, 136, 45, 154] := by rw [← ha1, ext_list, List.take_of_length_le (by rw [size_list]; exact Nat.le_refl _), had]; rfl
  have ha7d : (a7.toList == ([2, 0, 3, 2, 0, 5, 0] : List UInt8)) = true := by rw [← ha7, ByteArray.toList_eq, ext_list, had]; rfl
  have ha1s : a1.size = 10 := by rw [← size_list, ha1d]; rfl
  obtain ⟨ax, hax⟩ : ∃ x : ByteArray, (⟨#[1]⟩ : ByteArray) ++ a1 = x := ⟨_, rfl⟩
  have haxd : ax.data.toList = [1, 0, 3, 2, 0, 5, 0, 73, 136, 45, 154] := by rw [← hax, app_list, ha1d]; rfl
  have haxs : ax.size = 11 := by rw [← size_list, haxd]; rfl
  have hg3 := fun W (t : Tab W) (u : Tab6 W) => get_bad ax 1 16 2201 W t u (by omega) (by rw [haxd]; exact none2 aw22_x.1 aw22_x.2)
  have hg4 := fun W (t : Tab W) (u : Tab6 W) => get_bad a1 1 16 2200 W t u (by omega) (by rw [ha1d]; exact none1 aw22_m)
  have s1 := eq_false (show ¬ 9223372036854775807 < 1 + a1.size by omega)
  have l11 : ((a.size : Int) != 11) = false := by rw [has]; rfl
  have l1 := eq_true (show (1 : Int) ≤ (a.size : Int) by omega)
  have l2 := eq_true (show 1 ≤ a.size by omega)
  have l3 := eq_true (show (7 : Int) ≤ (a.size : Int) by omega)
  have l4 := eq_true (show 7 ≤ a.size by omega)
  replace hg1 := Lib.hid hg1
  replace hg3 := Lib.hid hg3
  replace hg4 := Lib.hid hg4
  replace had := Lib.hid had
  replace has := Lib.hid has
  replace ha1d := Lib.hid ha1d
  replace ha1s := Lib.hid ha1s
  replace haxd := Lib.hid haxd
  replace haxs := Lib.hid haxs
  have x0 := L.BC.at_ hX (o := 0) rfl; have x1 := L.BC.at_ hX (o := 1) rfl
  go_wp2_with (fail)
  refine (hg1.out _ (ht0.out.below hB) (ht60.out.below hB)).mono ?_
  rintro e w2 ⟨rfl, hb⟩
  replace hX := L.BC.below hX hb
  replace hB := below_trans hB hb
  clear hb hg1 x0 x1
  have x0 := L.BC.at_ hX (o := 0) rfl; have x1 := L.BC.at_ hX (o := 1) rfl
  go_wp2_with (fail)
  refine (hp2.out _ (ht0.out.below hB) (ht60.out.below hB)).mono ?_
  rintro e w3 ⟨b, rfl, hbd, hb⟩
  replace hX := L.BC.below hX hb
  replace hB := below_trans hB hb
  clear hb hp2 x0 x1
  have hbs : b.size ≤ 140737488351232 := by
    rw [← size_list, hbd, seg_told, told_len]
    have := segO_in (c := 1) (b := 16) (l := [5, 0, 255, 127]) aw22_b
    have h4 : ([5, 0, 255, 127] : List UInt8).length = 4 := rfl
    have h5 : (segO 1 16 [5, 0, 255, 127]).length ≤ 4 := this
    omega
  have hg2 := fun W (t : Tab W) (u : Tab6 W) => get_ok b ⟨#[5, 0, 255, 127]⟩ 1 16 W t u hbs (by rw [hbd]; exact got_seg aw22_b)
  replace hg2 := Lib.hid hg2
  replace hbd := Lib.hid hbd
  have x0 := L.BC.at_ hX (o := 0) rfl; have x1 := L.BC.at_ hX (o := 1) rfl
  go_wp2_with (fail)
  refine (hg2.out _ (ht0.out.below hB) (ht60.out.below hB)).mono ?_
  rintro e w4 ⟨rfl, hb⟩
  replace hX := L.BC.below hX hb
  replace hB := below_trans hB hb
  clear hb hg2 x0 x1
  have x0 := L.BC.at_ hX (o := 0) rfl; have x1 := L.BC.at_ hX (o := 1) rfl
  go_wp2_with (fail)
  refine (hp3.out _ (ht0.out.below hB) (ht60.out.below hB)).mono ?_
  rintro e w5 ⟨rfl, hb⟩
  replace hX := L.BC.below hX hb
  replace hB := below_trans hB hb
  clear hb hp3 x0 x1
  have x0 := L.BC.at_ hX (o := 0) rfl; have x1 := L.BC.at_ hX (o := 1) rfl
  go_wp2_with (fail)
  replace hX := L.BC.drew hX
  replace hB := L.below_drew hB
  clear x0 x1
  refine start_ (n := 10) (S := fun w' => L.BC w' w.heap.size 39 [.int .i64 1, .int .i64 16]) (ds := []) #[false, false, false, false, false, false, false, false, false, false] (by kernel_rfl) rfl rfl hX (fun hHeld => ?_)
  generalize w5.drew = w6 at hX hB hHeld ⊢
  refine pure_ (i := 0) (N := (some 48)) (v := ?_) (a' := ?_) #[true, false, false, false, false, false, false, false, false, false] rfl rfl (by kernel_rfl) (fun _ _ _ h => h) (Or.inl ⟨by rfl, ?_⟩) ?_ ?_
  rotate_left
  · intro w'
    go_simp
    with_reducible rfl
  rotate_left
  · simp only [Act.put, List.setIfInBounds_toArray, List.set_cons_zero, List.set_cons_succ, i64_w, i32_w]
    rfl
  refine pure_ (i := 1) (N := (some 49)) (v := ?_) (a' := ?_) #[true, true, false, false, false, false, false, false, false, false] rfl rfl (by kernel_rfl) (fun _ _ _ h => h) (Or.inl ⟨by rfl, ?_⟩) ?_ ?_
  rotate_left
  · intro w'
    go_simp
    with_reducible rfl
  rotate_left
  · simp only [Act.put, List.setIfInBounds_toArray, List.set_cons_zero, List.set_cons_succ, i64_w, i32_w]
    rfl
  refine pure_ (i := 2) (N := (some 50)) (v := ?_) (a' := ?_) #[true, true, true, false, false, false, false, false, false, false] rfl rfl (by kernel_rfl) (fun _ _ _ h => h) (Or.inl ⟨by rfl, ?_⟩) ?_ ?_
  rotate_left
  · intro w'
    go_simp
    with_reducible rfl
  rotate_left
  · simp only [Act.put, List.setIfInBounds_toArray, List.set_cons_zero, List.set_cons_succ, i64_w, i32_w]
    rfl
  refine take_ (i := 3) (N := (some 51)) (v := .agg #[.int .i64 1, .int .i64 16]) (a' := ?_) #[true, true, true, true, false, false, false, false, false, false] rfl rfl (by kernel_rfl) (fun _ _ _ h => h) (Or.inl ⟨by rfl, fun w' hS => L.loads 39 (.tmp 1) w.heap.size [.int .i64 1, .int .i64 16] _ (by rfl) (by rfl) Tryz.underlying39 rfl infoF w' (id hS)⟩) hHeld ?_ ?_
  rotate_left
  · simp only [Act.put, List.setIfInBounds_toArray, List.set_cons_zero, List.set_cons_succ, i64_w, i32_w]
    rfl
  refine one_ (i := 4) (N := (some 52)) #[true, true, true, true, true, false, false, false, false, false] rfl rfl (by kernel_rfl) (by decide) (fun K hK => ?_)
  refine goes_ Tryz.func25 (by kernel_rfl) rfl #[.string ax, .agg #[.int .i64 1, .int .i64 16]] (by rfl) rfl rfl (by (try simp only [List.map_toArray, List.map_cons, List.map_nil]); first | done | rfl) ?_
  refine (hg3.out _ (ht0.out.below hB) (ht60.out.below hB)).mono ?_
  rintro e w7 ⟨rfl, hb⟩
  refine ⟨_, rfl, ?_⟩
  replace hX := L.BC.below hX hb
  replace hB := below_trans hB hb
  clear hHeld hb hg3
  refine hK.out _ _ hX (fun hHeld => ?_)
  clear hK K
  refine norm_ (a' := ?_) ?_ ?_
  rotate_left
  · show Act.put _ (some 52) _ = _
    simp only [Act.put, List.setIfInBounds_toArray, List.set_cons_zero, List.set_cons_succ, i64_w, i32_w]
    rfl
  refine pure_ (i := 5) (N := (some 47)) (v := ?_) (a' := ?_) #[true, true, true, true, true, true, false, false, false, false] rfl rfl (by kernel_rfl) (fun _ _ _ h => h) (Or.inl ⟨by rfl, ?_⟩) ?_ ?_
  rotate_left
  · intro w'
    go_simp
    with_reducible rfl
  rotate_left
  · simp only [Act.put, List.setIfInBounds_toArray, List.set_cons_zero, List.set_cons_succ, i64_w, i32_w]
    rfl
  refine pure_ (i := 6) (N := (some 53)) (v := ?_) (a' := ?_) #[true, true, true, true, true, true, true, false, false, false] rfl rfl (by kernel_rfl) (fun _ _ _ h => h) (Or.inl ⟨by rfl, ?_⟩) ?_ ?_
  rotate_left
  · intro w'
    go_simp
    with_reducible rfl
  rotate_left
  · simp only [Act.put, List.setIfInBounds_toArray, List.set_cons_zero, List.set_cons_succ, i64_w, i32_w]
    rfl
  refine pure_ (i := 7) (N := (some 54)) (v := ?_) (a' := ?_) #[true, true, true, true, true, true, true, true, false, false] rfl rfl (by kernel_rfl) (fun _ _ _ h => h) (Or.inl ⟨by rfl, ?_⟩) ?_ ?_
  rotate_left
  · intro w'
    go_simp
    with_reducible rfl
  rotate_left
  · simp only [Act.put, List.setIfInBounds_toArray, List.set_cons_zero, List.set_cons_succ, i64_w, i32_w]
    rfl
  refine pure_ (i := 8) (N := (some 12)) (v := ?_) (a' := ?_) #[true, true, true, true, true, true, true, true, true, false] rfl rfl (by kernel_rfl) (fun _ _ _ h => h) (Or.inl ⟨by rfl, ?_⟩) ?_ ?_
  rotate_left
  · intro w'
    go_simp
    with_reducible rfl
  rotate_left
  · simp only [Act.put, List.setIfInBounds_toArray, List.set_cons_zero, List.set_cons_succ, i64_w, i32_w]
    rfl
  refine pure_ (i := 9) (N := (some 13)) (v := ?_) (a' := ?_) #[true, true, true, true, true, true, true, true, true, true] rfl rfl (by kernel_rfl) (fun _ _ _ h => h) (Or.inl ⟨by rfl, ?_⟩) ?_ ?_
  rotate_left
  · intro w'
    go_simp
    with_reducible rfl
  rotate_left
  · simp only [Act.put, List.setIfInBounds_toArray, List.set_cons_zero, List.set_cons_succ, i64_w, i32_w]
    rfl
  refine done_ (by kernel_rfl) ?_
  go_wp2_with (fail)
  replace hX := L.BC.drew hX
  replace hB := L.below_drew hB
  refine start_ (n := 9) (S := fun w' => L.BC w' w.heap.size 39 [.int .i64 1, .int .i64 16]) (ds := []) #[false, false, false, false, false, false, false, false, false] (by kernel_rfl) rfl rfl hX (fun hHeld => ?_)
  generalize w7.drew = w8 at hX hB hHeld ⊢
  refine pure_ (i := 0) (N := (some 56)) (v := ?_) (a' := ?_) #[true, false, false, false, false, false, false, false, false] rfl rfl (by kernel_rfl) (fun _ _ _ h => h) (Or.inl ⟨by rfl, ?_⟩) ?_ ?_
  rotate_left
  · intro w'
    go_simp
    with_reducible rfl
  rotate_left
  · simp only [Act.put, List.setIfInBounds_toArray, List.set_cons_zero, List.set_cons_succ, i64_w, i32_w]
    rfl
  refine pure_ (i := 1) (N := (some 57)) (v := ?_) (a' := ?_) #[true, true, false, false, false, false, false, false, false] rfl rfl (by kernel_rfl) (fun _ _ _ h => h) (Or.inl ⟨by rfl, ?_⟩) ?_ ?_
  rotate_left
  · intro w'
    go_simp
    with_reducible rfl
  rotate_left
  · simp only [Act.put, List.setIfInBounds_toArray, List.set_cons_zero, List.set_cons_succ, i64_w, i32_w]
    rfl
  refine take_ (i := 2) (N := (some 58)) (v := .agg #[.int .i64 1, .int .i64 16]) (a' := ?_) #[true, true, true, false, false, false, false, false, false] rfl rfl (by kernel_rfl) (fun _ _ _ h => h) (Or.inl ⟨by rfl, fun w' hS => L.loads 39 (.tmp 1) w.heap.size [.int .i64 1, .int .i64 16] _ (by rfl) (by rfl) Tryz.underlying39 rfl infoF w' (id hS)⟩) hHeld ?_ ?_
  rotate_left
  · simp only [Act.put, List.setIfInBounds_toArray, List.set_cons_zero, List.set_cons_succ, i64_w, i32_w]
    rfl
  refine one_ (i := 3) (N := (some 59)) #[true, true, true, true, false, false, false, false, false] rfl rfl (by kernel_rfl) (by decide) (fun K hK => ?_)
  refine goes_ Tryz.func25 (by kernel_rfl) rfl #[.string a1, .agg #[.int .i64 1, .int .i64 16]] (by rfl) rfl rfl (by (try simp only [List.map_toArray, List.map_cons, List.map_nil]); first | done | rfl) ?_
  refine (hg4.out _ (ht0.out.below hB) (ht60.out.below hB)).mono ?_
  rintro e w9 ⟨rfl, hb⟩
  refine ⟨_, rfl, ?_⟩
  replace hX := L.BC.below hX hb
  replace hB := below_trans hB hb
  clear hHeld hb hg4
  refine hK.out _ _ hX (fun hHeld => ?_)
  clear hK K
  refine norm_ (a' := ?_) ?_ ?_
  rotate_left
  · show Act.put _ (some 59) _ = _
    simp only [Act.put, List.setIfInBounds_toArray, List.set_cons_zero, List.set_cons_succ, i64_w, i32_w]
    rfl
  refine pure_ (i := 4) (N := (some 55)) (v := ?_) (a' := ?_) #[true, true, true, true, true, false, false, false, false] rfl rfl (by kernel_rfl) (fun _ _ _ h => h) (Or.inl ⟨by rfl, ?_⟩) ?_ ?_
  rotate_left
  · intro w'
    go_simp
    with_reducible rfl
  rotate_left
  · simp only [Act.put, List.setIfInBounds_toArray, List.set_cons_zero, List.set_cons_succ, i64_w, i32_w]
    rfl
  refine pure_ (i := 5) (N := (some 60)) (v := ?_) (a' := ?_) #[true, true, true, true, true, true, false, false, false] rfl rfl (by kernel_rfl) (fun _ _ _ h => h) (Or.inl ⟨by rfl, ?_⟩) ?_ ?_
  rotate_left
  · intro w'
    go_simp
    with_reducible rfl
  rotate_left
  · simp only [Act.put, List.setIfInBounds_toArray, List.set_cons_zero, List.set_cons_succ, i64_w, i32_w]
    rfl
  refine pure_ (i := 6) (N := (some 61)) (v := ?_) (a' := ?_) #[true, true, true, true, true, true, true, false, false] rfl rfl (by kernel_rfl) (fun _ _ _ h => h) (Or.inl ⟨by rfl, ?_⟩) ?_ ?_
  rotate_left
  · intro w'
    go_simp
    with_reducible rfl
  rotate_left
  · simp only [Act.put, List.setIfInBounds_toArray, List.set_cons_zero, List.set_cons_succ, i64_w, i32_w]
    rfl
  refine pure_ (i := 7) (N := (some 14)) (v := ?_) (a' := ?_) #[true, true, true, true, true, true, true, true, false] rfl rfl (by kernel_rfl) (fun _ _ _ h => h) (Or.inl ⟨by rfl, ?_⟩) ?_ ?_
  rotate_left
  · intro w'
    go_simp
    with_reducible rfl
  rotate_left
  · simp only [Act.put, List.setIfInBounds_toArray, List.set_cons_zero, List.set_cons_succ, i64_w, i32_w]
    rfl
  refine pure_ (i := 8) (N := (some 15)) (v := ?_) (a' := ?_) #[true, true, true, true, true, true, true, true, true] rfl rfl (by kernel_rfl) (fun _ _ _ h => h) (Or.inl ⟨by rfl, ?_⟩) ?_ ?_
  rotate_left
  · intro w'
    go_simp
    with_reducible rfl
  rotate_left
  · simp only [Act.put, List.setIfInBounds_toArray, List.set_cons_zero, List.set_cons_succ, i64_w, i32_w]
    rfl
  refine done_ (by kernel_rfl) ?_
  clear hX
  go_wp2_with (first | (go_at_call 18; refine (num_any _ _).mono ?_; rintro e w1 ⟨rfl, rfl⟩) | (go_at_call 29; refine (hcr.out _).mono ?_; rintro e w1 ⟨rfl, rfl⟩))
  go_ret
  exact ⟨rfl, hB⟩
end Go.Proofs.YtiokfaiioealdaaGreatDoor
namespace Go.Proofs.YtiokfaiioealdaaGreatDoor
open Go.RowKit Go.Proofs.YtiokfaiioealdaaGreatDoorW.PrintWords Go.Proofs.YtiokfaiioealdaaGreatDoorW.PrintLast Go.Proofs.YtiokfaiioealdaaGreatDoorW.PrintMore Go.Proofs.YtiokfaiioealdaaGreatDoor.L
set_option linter.unusedVariables false
set_option linter.unusedSimpArgs false
theorem may13_q (c b : Int) : PQ.descantref13_FormatMay.f c b = some (fOk c b) := by
  unfold PQ.descantref13_FormatMay.f PQ.descantref13_upTo.f fOk
  by_cases h1 : c ≥ 1
  · rw [if_pos h1]
    show (if decide (c ≤ 2) = true then _ else _) = _
    by_cases h2 : c ≤ 2
    · rw [decide_eq_true h2, if_pos rfl]
      have h3 : (decide (c = 1) || decide (c = 2)) = true := by rw [Bool.or_eq_true, decide_eq_true_eq, decide_eq_true_eq]; omega
      rw [h3]
      by_cases h4 : b = 8
      · subst h4; rfl
      · rw [if_neg h4, decide_eq_false h4]; simp; rfl
    · rw [decide_eq_false h2, if_neg (by decide), decide_eq_false (show ¬ c = 1 by omega), decide_eq_false (show ¬ c = 2 by omega)]; rfl
  · rw [if_neg h1, decide_eq_false (show ¬ c = 1 by omega), decide_eq_false (show ¬ c = 2 by omega)]; rfl
theorem smOk_seg {c b : Int} {l : List UInt8} (h : segOk c b l = true) : smOk (segP c b l) = true := by
  have hk := segK_in c b l
  have hy := segY_in c b l
  obtain ⟨m1, m64, -, h256⟩ := seg_many h
  have ho := segO_in h
  obtain ⟨p1, p2, p3, p4, p5, p6⟩ := told_parse (k := segK c b l) (y := segY c b l) (m := l.length / fsz c b) (own := segO c b l) (by omega) (by omega) (by omega) (by omega)
  rw [seg_told]; exact p3
/-- The same bytes are no segment of another count of channels. -/
theorem other_no {c b : Int} {l : List UInt8} (h : segOk c b l = true) (h2 : segOk (3 - c) b l = true) : segP (3 - c) b l ≠ segP c b l := by
  intro e
  have hk := segK_in c b l
  have hy := segY_in c b l
  have hk2 := segK_in (3 - c) b l
  have hy2 := segY_in (3 - c) b l
  obtain ⟨m1, m64, d1, -⟩ := seg_many h
  obtain ⟨n1, n64, d2, -⟩ := seg_many h2
  rw [seg_told, seg_told] at e
  obtain ⟨-, -, e3, -⟩ := toldH_inj (by omega) (by omega) (by omega) (by omega) (by omega) (by omega) e
  rw [e3] at d2
  obtain ⟨hc, hb⟩ := fOk_iff.1 (segOk_iff.1 h).1
  generalize l.length / fsz c b = q at *
  have key : q * fsz c b = q * fsz (3 - c) b := d1.trans d2.symm
  have := Nat.eq_of_mul_eq_mul_left (by omega) key
  rcases hc with rfl | rfl <;> rcases hb with rfl | rfl <;> exact absurd this (by decide)
end Go.Proofs.YtiokfaiioealdaaGreatDoor
namespace Go.Proofs.YtiokfaiioealdaaGreatDoor
open Go.RowKit Go.Proofs.YtiokfaiioealdaaGreatDoorW.PrintWords Go.Proofs.YtiokfaiioealdaaGreatDoorW.PrintLast Go.Proofs.YtiokfaiioealdaaGreatDoorW.PrintMore Go.Proofs.YtiokfaiioealdaaGreatDoor.L
set_option linter.unusedVariables false
set_option linter.unusedSimpArgs false
set_option maxHeartbeats 8000000 in
set_option maxRecDepth 100000 in
theorem segmentOther_walk (d : ByteArray) (c b : Int) (w : World) (ht : Tab w) (ht6 : Tab6 w) (hs : d.size ≤ 140737488351232) :
    Calls Tryz.prog 11 #[.string d, .agg #[.int .i64 c, .int .i64 b]] w fun e w' => e = .returned (.bool true) ∧ Below w.heap.size w w' := by
  have ht0 := Lib.hid ht
  have ht60 := Lib.hid ht6
  clear ht ht6
  have hA := fun W (a : Tab W) (b : Tab6 W) => awake22 W a b
  have hX := L.BC.new w [.int .i64 c, .int .i64 b] 39
  have hB := L.below_alloc (Below.refl w.heap.size w) (.cells #[.int .i64 c, .int .i64 b] 39)
  replace hA := Lib.hid hA
  cases hok : segOk c b d.data.toList with
  | false =>
    have hP := fun W (t : Tab W) (u : Tab6 W) => put_bad d c b W hok t u
    replace hP := Lib.hid hP
    clear hok
    go_enter Tryz.func11, Tryz.ntmps11
    go_wp2_with (fail)
    refine (hA.out _ (ht0.out.below hB) (ht60.out.below hB)).mono ?_
    rintro e w1 ⟨rfl, hb⟩
    replace hX := L.BC.below hX hb
    replace hB := below_trans hB hb
    clear hb
    have x0 := L.BC.at_ hX (o := 0) rfl; have x1 := L.BC.at_ hX (o := 1) rfl
    go_wp2_with (fail)
    refine (hP.out _ (ht0.out.below hB) (ht60.out.below hB)).mono ?_
    rintro e w2 ⟨rfl, hb⟩
    replace hB := below_trans hB hb
    clear hb x0 x1 hX
    go_wp2_with (first | (go_at_call 18; refine (num_any _ _).mono ?_; rintro e w1 ⟨rfl, rfl⟩))
    go_ret
    exact ⟨rfl, hB⟩
  | true =>
    have hP := fun W (t : Tab W) (u : Tab6 W) => put_yes d c b W hok t u
    have hf := (segOk_iff.1 hok).1
    have hFm := fun W => PQ.descantref13_FormatMay.calls c b true W (by rw [may13_q, hf])
    have hc12 := (fOk_iff.1 hf).1
    have hw3 : wrap64 (3 - c) = 3 - c := IntWalk.wrap64_in _ (by omega)
    have hw30 := Lib.hid hw3
    replace hP := Lib.hid hP
    replace hFm := Lib.hid hFm
    replace hok := Lib.hid hok
    clear hf hw3
    replace hc12 := Lib.hid hc12
    go_enter Tryz.func11, Tryz.ntmps11
    go_wp2_with (fail)
    refine (hA.out _ (ht0.out.below hB) (ht60.out.below hB)).mono ?_
    rintro e w1 ⟨rfl, hb⟩
    replace hX := L.BC.below hX hb
    replace hB := below_trans hB hb
    clear hb
    have x0 := L.BC.at_ hX (o := 0) rfl; have x1 := L.BC.at_ hX (o := 1) rfl
    go_wp2_with (fail)
    refine (hP.out _ (ht0.out.below hB) (ht60.out.below hB)).mono ?_
    rintro e w2 ⟨t, rfl, htd, hb⟩
    replace hX := L.BC.below hX hb
    replace hB := below_trans hB hb
    clear hb x0 x1
    have hts : t.size ≤ 140737488351232 := by
      rw [← size_list, htd, seg_told, told_len]
      have h1 := segO_in hok.out
      have h2 := (seg_many hok.out).2.2.2
      omega
    replace hts := Lib.hid hts
    replace htd := Lib.hid htd
    have x0 := L.BC.at_ hX (o := 0) rfl; have x1 := L.BC.at_ hX (o := 1) rfl
    go_wp2_with (first | (go_at_call 18; refine (num_any _ _).mono ?_; rintro e w1 ⟨rfl, rfl⟩))
    refine (hFm.out _).mono ?_
    rintro e w3 ⟨rfl, hb⟩
    replace hX := L.BC.below hX hb
    replace hB := below_trans hB hb
    clear hb x0 x1
    have x0 := L.BC.at_ hX (o := 0) rfl; have x1 := L.BC.at_ hX (o := 1) rfl
    have hXn := L.BC.new w3 [.int .i64 0, .int .i64 0] 39
    have n0 := L.BC.at_ hXn (o := 0) rfl; have n1 := L.BC.at_ hXn (o := 1) rfl
    have f0 := L.BC.frozen hXn 0; have f1 := L.BC.frozen hXn 1
    have hXm := L.BC.new w3 [.int .i64 c, .int .i64 b] 39
    have m0 := L.BC.at_ hXm (o := 0) rfl; have m1 := L.BC.at_ hXm (o := 1) rfl
    have g0 := L.BC.frozen hXm 0; have g1 := L.BC.frozen hXm 1
    have xa : ∀ o, (w3.alloc o).cell? ⟨w.heap.size, 0, none⟩ = some (.int .i64 c) := fun o => L.BC.at_ (L.BC.alloc hX o) (o := 0) rfl
    have hw3 := hw30.out
    go_wp2_with (fail)
    have hB3 := L.below_alloc hB (.cells #[.int .i64 (3 - c), .int .i64 b] 39)
    clear x0 x1 n0 n1 f0 f1 m0 m1 g0 g1 xa hXn hXm hX hw3
    refine (seg_get t (3 - c) b _ (ht0.out.below hB3) (ht60.out.below hB3) hts.out).mono ?_
    rintro e w4 ⟨hg, hb⟩
    have hB4 := below_trans hB3 hb
    clear hB3 hb
    unfold gotR at hg
    cases hgl : gotL (3 - c) b t.data.toList with
    | none =>
      rw [hgl] at hg
      have he : getE (3 - c) b t.data.toList = 2200 := none3 (by rw [htd.out]; exact smOk_seg hok.out)
      rw [he] at hg
      subst hg
      clear hgl he
      go_wp2_with (first | (go_at_call 18; refine (num_any _ _).mono ?_; rintro e w1 ⟨rfl, rfl⟩))
      go_ret
      exact ⟨rfl, hB4⟩
    | some l2 =>
      rw [hgl] at hg
      obtain ⟨d2, rfl, hd2⟩ := hg
      obtain ⟨h1, h2⟩ := got_some hgl
      have hne : l2 ≠ d.data.toList := by
        intro e
        rw [e] at h1 h2
        exact other_no hok.out h1 (h2.trans htd.out)
      have e1 : (d2.toList != d.toList) = true := by
        rw [ByteArray.toList_eq, ByteArray.toList_eq, hd2]
        exact bne_iff_ne.2 hne
      have e2 : (d2.toList == d.toList) = false := by
        rw [ByteArray.toList_eq, ByteArray.toList_eq, hd2]
        exact beq_eq_false_iff_ne.2 hne
      have e3 : (d2.toList = d.toList) = False := eq_false (by
        rw [ByteArray.toList_eq, ByteArray.toList_eq, hd2]
        exact hne)
      replace hne := Lib.hid hne
      replace hd2 := Lib.hid hd2
      clear hgl h1 h2
      go_wp2_with (first | (go_at_call 18; refine (num_any _ _).mono ?_; rintro e w1 ⟨rfl, rfl⟩))
      go_ret
      exact ⟨rfl, hB4⟩
end Go.Proofs.YtiokfaiioealdaaGreatDoor
namespace Go.Proofs.YtiokfaiioealdaaGreatDoor
open Go.RowKit Go.Proofs.YtiokfaiioealdaaGreatDoor.L
set_option linter.unusedVariables false
set_option linter.unusedSimpArgs false
theorem cell_is_int {P : Program} {w : World} {r : Reach} {base : Nat} {e : TypeId} {v : Value} (he : P.underlying e = some (.int .i64)) (h : Cell.okWide P w r base e v) : ∃ n : Int, v = .int .i64 n ∧ IntKind.i64.has n := by
  unfold Cell.okWide at h
  rw [he] at h
  cases v <;> simp [Cell.ok, he] at h
  rename_i k n
  obtain ⟨rfl, hn⟩ := h
  exact ⟨n, rfl, hn⟩
theorem ints_of_list {l : List Value} (h : ∀ v ∈ l, ∃ n : Int, v = .int .i64 n ∧ IntKind.i64.has n) : ∃ xs : List Int, l = xs.map (Value.int .i64) ∧ ∀ x ∈ xs, IntKind.i64.has x := by
  induction l with
  | nil => exact ⟨[], rfl, by simp⟩
  | cons v l ih =>
    obtain ⟨n, rfl, hn⟩ := h v (by simp)
    obtain ⟨xs, rfl, hx⟩ := ih fun u hu => h u (by simp [hu])
    exact ⟨n :: xs, rfl, by simpa using ⟨hn, hx⟩⟩
theorem open_ints_agg {P : Program} {w : World} {r : Reach} {base : Nat} {t e : TypeId} {v : Value} {n : Nat} {d : TypeDesc} (ht : P.underlying t = some d) (hd : d.isRow = true) (hc : P.cellsOf t = n)
    (hts : P.cellTypes P.depth t = some (List.replicate n e)) (he : P.underlying e = some (.int .i64)) (hv : Value.okWide P w r base t v) :
    ∃ xs : List Int, xs.length = n ∧ v = .agg (xs.map (Value.int .i64)).toArray ∧ ∀ x ∈ xs, IntKind.i64.has x := by
  unfold Value.okWide at hv
  rw [ht] at hv
  have hv' : ∃ cs, v = .agg cs ∧ cs.size = P.cellsOf t ∧ Row.okWide P w r base t cs := by
    cases d <;> simp_all [TypeDesc.isRow]
  obtain ⟨cs, rfl, hs, ts, hts', -, hcells⟩ := hv'
  rw [hts] at hts'
  obtain rfl := Option.some.inj hts'
  have hall : ∀ v ∈ cs.toList, ∃ n : Int, v = .int .i64 n ∧ IntKind.i64.has n := by
    intro v hv
    obtain ⟨i, hi, rfl⟩ := List.mem_iff_getElem.1 hv
    obtain ⟨u, hu, hcu⟩ := hcells i (cs.toList[i]) (by simp at hi ⊢)
    have : u = e := List.eq_of_mem_replicate (List.mem_of_getElem? hu)
    subst this
    exact cell_is_int he hcu
  obtain ⟨xs, hxs, hx⟩ := ints_of_list hall
  refine ⟨xs, ?_, ?_, hx⟩
  · have := congrArg List.length hxs
    simp at this
    omega
  · congr 1
    rw [← hxs, Array.toArray_toList]
end Go.Proofs.YtiokfaiioealdaaGreatDoor
