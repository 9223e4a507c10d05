/- The texts behind the row, joined: WPcm WFrm. -/
import Derived.Test.YtiokfaiioealdaaGreatDoorQ20
import Derived.Test.YtiokfaiioealdaaGreatDoorQ25
import Derived.Test.YtiokfaiioealdaaGreatDoorQ26
namespace Go.Proofs.YtiokfaiioealdaaGreatDoor
open Go.RowKit Go.Proofs.YtiokfaiioealdaaGreatDoorW.PrintWords Go.Proofs.YtiokfaiioealdaaGreatDoorW.PrintLast Go.Proofs.YtiokfaiioealdaaGreatDoorW.PrintMore Go.Proofs.YtiokfaiioealdaaGreatDoor.L
set_option linter.unusedVariables false
set_option linter.unusedSimpArgs false
theorem infoF : (Tryz.prog.info? 39).map (·.size) = some 2 := by kernel_rfl
theorem infoU8 : (Tryz.prog.info? 5).map (fun i => (i.zero, i.size, i.bytes)) = some (some (.int .u8 0), 1, 1) := by kernel_rfl
/-- What a function answers that gives a text. -/
def textR (n : Int) (w w' : World) (e : Ending) : Option (List UInt8) → Prop
  | some l => ∃ t : ByteArray, e = .returned (.tuple #[.string t, .int .i64 0]) ∧ t.data.toList = l ∧ Below w.heap.size w w'
  | none => e = .returned (.tuple #[.string ⟨#[]⟩, .int .i64 n]) ∧ Below w.heap.size w w'
theorem may_f {c b : Int} (h : fOk c b = true) : PQ.pcm_May.f c b = some true := by
  obtain ⟨rfl | rfl, rfl | rfl⟩ := fOk_iff.1 h <;> rfl
theorem frame_f {c b : Int} (h : fOk c b = true) : PQ.pcm_Frame.f c b = some ((fsz c b : Nat) : Int) := by
  obtain ⟨rfl | rfl, rfl | rfl⟩ := fOk_iff.1 h <;> decide +kernel
def bytI (b x : Int) : List Int := if b = 8 then [(x + 128) % 256] else [x % 256, x / 256 % 256]
theorem bytes_f {b x : Int} (h0 : -2147483648 ≤ x) (h1 : x ≤ 2147483647) : PQ.pcm_bytes.f x b = some (bytI b x) := by
  have e : wrap64 (x + 128) = x + 128 := IntWalk.wrap64_in _ (by omega)
  unfold PQ.pcm_bytes.f bytI
  rw [e]
  split <;> rfl
theorem neg_P {P : Int} (h : P = 128 ∨ P = 32768) : wrap64 (-P) = -P := IntWalk.wrap64_in _ (by omega)
theorem pos_P {P : Int} (h : P = 128 ∨ P = 32768) : wrap64 P = P := IntWalk.wrap64_in _ (by omega)
def frmI (b : Int) (chs : List (List Int)) (i n : Nat) : List Int := (List.range n).flatMap fun k => bytI b (rd (row chs k) i)
theorem flat_le {f : Nat → List Int} {m : Nat} (h : ∀ i, (f i).length ≤ m) : ∀ n, ((List.range n).flatMap f).length ≤ n * m
  | 0 => by simp
  | n + 1 => by
    have h1 := flat_le h n
    have h2 := h n
    rw [List.range_succ, List.flatMap_append, List.length_append, Nat.succ_mul, List.flatMap_cons, List.flatMap_nil, List.append_nil]
    exact Nat.add_le_add h1 h2
theorem frm_len (b : Int) (chs : List (List Int)) (i n : Nat) : (frmI b chs i n).length ≤ n * 2 := flat_le (fun k => by unfold bytI; split <;> simp) n
def pcmI (c b : Int) (n : Nat) (chs : List (List Int)) : List Int := (List.range n).flatMap fun i => frmI b chs i c.toNat
theorem bytI_map (b x : Int) : (bytI b x).map (fun n => UInt8.ofNat n.toNat) = byts b x := by unfold bytI byts; split <;> rfl
theorem pcm_str (c b : Int) (n : Nat) (chs : List (List Int)) : (strOfNums (pcmI c b n chs)).data.toList = pcmP c b n chs := by
  rw [strOfNums_data]
  unfold pcmI pcmP frmI
  rw [List.map_flatMap]
  congr 1
  funext i
  rw [List.map_flatMap]
  congr 1
  funext k
  rw [bytI_map, rd_nat]
  rfl
theorem pcm_len (c b : Int) (n : Nat) (chs : List (List Int)) : (pcmI c b n chs).length ≤ n * (c.toNat * 2) := flat_le (fun i => frm_len b chs i c.toNat) n
set_option maxHeartbeats 8000000 in
set_option maxRecDepth 100000 in
theorem pcm_put (chs : List (List Int)) (A : Option Addr) (cap : Nat) (c b : Int) (w : World) (hC : Kd.C RW w A chs.length chs) (hc : chs.length ≤ cap) (hf : fOk c b = true) (hn : chs = [] ∨ (chs.length : Int) = c) (hr : ∀ xs ∈ chs, xs.length ≤ 256) :
    Calls Tryz.prog 155 #[.slice A chs.length cap, .agg #[.int .i64 c, .int .i64 b]] w fun e w' => textR 1900 w w' e (pPut c b chs) := by
  obtain ⟨T0, hT0⟩ : ∃ T0, pPut c b chs = T0 := ⟨_, rfl⟩
  rw [hT0]
  have hM := fun W => PQ.pcm_May.calls c b true W (may_f hf)
  have hF := fun W => PQ.pcm_Frame.calls c b ((fsz c b : Nat) : Int) W (frame_f hf)
  have hC0 := Lib.hid hC
  obtain ⟨hc12, hb816⟩ := fOk_iff.1 hf
  replace hM := Lib.hid hM
  rcases hn with hn | hn
  · subst hn
    have hz : ((0 : Int) != c) = true := bne_iff_ne.2 (by omega)
    have hT1 : none = T0 := by
      rw [← hT0, pPut, if_neg]
      simp only [pOk, List.length_nil]
      intro h
      simp only [Bool.and_eq_true, decide_eq_true_eq] at h
      have := h.2.1
      omega
    replace hT1 := Lib.hid hT1
    replace hf := Lib.hid hf
    clear hT0 hF hC
    show Calls Tryz.prog 155 #[.slice A 0 cap, .agg #[.int .i64 c, .int .i64 b]] w _
    go_enter Tryz.func155, Tryz.ntmps155
    go_upto_region 1 with (first | ((with_reducible refine gate_dst (N := 3) rfl ?_); refine box_event ?hg (N := 3) ?hd (cs := #[.int .i64 c, .int .i64 b]) (t := 39) ?hr ?_; (case hd => rfl); (case hg => rfl); (case hr => first | (go_simp; done) | (go_simp; rfl)); intro gb hgb wb hbox hbb; replace hgb := Lib.hid hgb))
    have hX : L.BC wb gb 39 [.int .i64 c, .int .i64 b] := ⟨hbox⟩
    clear hbox
    replace hX := L.BC.drew hX
    replace hbb := L.below_drew hbb
    refine start_ (n := 34) (S := fun w' => L.BC w' gb 39 [.int .i64 c, .int .i64 b] ∧ w'.cell? ⟨gb, 0, none⟩ = some (.int .i64 c)) (ds := []) (L.B 34 0) (by kernel_rfl) rfl (by kernel_rfl) ⟨hX, L.BC.at_ hX (o := 0) rfl⟩ (fun hHeld => ?_)
    refine take_ (i := 0) (N := (some 11)) (v := .agg #[.int .i64 c, .int .i64 b]) (a' := ?_) (L.B 34 1) rfl rfl (by kernel_rfl) (fun _ _ _ h => h) (Or.inl ⟨by rfl, fun w' hS => L.loads 39 (.tmp 3) gb [.int .i64 c, .int .i64 b] _ (by rfl) (by rfl) Tryz.underlying39 rfl infoF w' (And.left hS)⟩) hHeld ?_ ?_
    rotate_left
    · simp only [Act.put, List.setIfInBounds_toArray, List.set_cons_zero, List.set_cons_succ, i64_w, i32_w]
      rfl
    refine one_ (i := 1) (N := (some 12)) (L.B 34 3) rfl rfl (by kernel_rfl) (by decide) (fun K hK => ?_)
    refine goes_ Tryz.func66 (by kernel_rfl) rfl #[.agg #[.int .i64 c, .int .i64 b]] (by rfl) rfl rfl (by (try simp only [List.map_toArray, List.map_cons, List.map_nil]); first | done | rfl) ?_
    refine (hM.out _).mono ?_
    rintro e w3 ⟨rfl, hb3⟩
    refine ⟨_, rfl, ?_⟩
    replace hX := L.BC.below hX hb3
    have hB := below_trans hbb hb3
    clear hHeld hb3 hbb
    refine hK.out _ _ ⟨hX, L.BC.at_ hX (o := 0) rfl⟩ (fun hHeld => ?_)
    clear hK K
    refine norm_ (a' := ?_) ?_ ?_
    rotate_left
    · show Act.put _ (some 12) _ = _
      simp only [Act.put, List.setIfInBounds_toArray, List.set_cons_zero, List.set_cons_succ, i64_w, i32_w]
      rfl
    refine pure_ (i := 2) (N := (some 13)) (v := ?_) (a' := ?_) (L.B 34 7) rfl rfl (by kernel_rfl) (fun _ _ _ h => h) (Or.inl ⟨by rfl, ?_⟩) ?_ ?_
    rotate_left
    · intro w'
      go_simp
      with_reducible rfl
    rotate_left
    · simp only [Act.put, List.setIfInBounds_toArray, List.set_cons_zero, List.set_cons_succ, i64_w, i32_w]
      rfl
    refine pure_ (i := 3) (N := (some 14)) (v := ?_) (a' := ?_) (L.B 34 15) rfl rfl (by kernel_rfl) (fun _ _ _ h => h) (Or.inl ⟨by rfl, ?_⟩) ?_ ?_
    rotate_left
    · intro w'
      go_simp
      with_reducible rfl
    rotate_left
    · simp only [Act.put, List.setIfInBounds_toArray, List.set_cons_zero, List.set_cons_succ, i64_w, i32_w]
      rfl
    refine pure_ (i := 4) (N := (some 15)) (v := ?_) (a' := ?_) (L.B 34 31) rfl rfl (by kernel_rfl) (fun _ _ _ h => h) (Or.inl ⟨by rfl, ?_⟩) ?_ ?_
    rotate_left
    · intro w'
      go_simp
      with_reducible rfl
    rotate_left
    · simp only [Act.put, List.setIfInBounds_toArray, List.set_cons_zero, List.set_cons_succ, i64_w, i32_w]
      rfl
    refine pure_ (i := 5) (N := (some 16)) (v := ?_) (a' := ?_) (L.B 34 63) rfl rfl (by kernel_rfl) (fun _ _ _ h => h) (Or.inl ⟨by rfl, ?_⟩) ?_ ?_
    rotate_left
    · intro w'
      go_simp
      with_reducible rfl
    rotate_left
    · simp only [Act.put, List.setIfInBounds_toArray, List.set_cons_zero, List.set_cons_succ, i64_w, i32_w]
      rfl
    refine pure_ (i := 6) (N := (some 17)) (v := ?_) (a' := ?_) (L.B 34 127) rfl rfl (by kernel_rfl) (fun _ _ _ h => h) (Or.inl ⟨by rfl, ?_⟩) ?_ ?_
    rotate_left
    · intro w'
      go_simp
      with_reducible rfl
    rotate_left
    · simp only [Act.put, List.setIfInBounds_toArray, List.set_cons_zero, List.set_cons_succ, i64_w, i32_w]
      rfl
    refine take_ (i := 7) (N := (some 18)) (v := ?_) (a' := ?_) (L.B 34 255) rfl rfl (by kernel_rfl) (fun _ _ _ h => h) (Or.inl ⟨by rfl, ?_⟩) hHeld ?_ ?_
    rotate_left
    · rintro w' ⟨sX, s0⟩
      go_simp
      with_reducible rfl
    rotate_left
    · simp only [Act.put, List.setIfInBounds_toArray, List.set_cons_zero, List.set_cons_succ, i64_w, i32_w]
      rfl
    refine pure_ (i := 8) (N := (some 19)) (v := ?_) (a' := ?_) (L.B 34 511) rfl rfl (by kernel_rfl) (fun _ _ _ h => h) (Or.inl ⟨by rfl, ?_⟩) ?_ ?_
    rotate_left
    · intro w'
      go_simp
      with_reducible rfl
    rotate_left
    · simp only [Act.put, List.setIfInBounds_toArray, List.set_cons_zero, List.set_cons_succ, i64_w, i32_w]
      rfl
    refine pure_ (i := 9) (N := (some 20)) (v := ?_) (a' := ?_) (L.B 34 1023) rfl rfl (by kernel_rfl) (fun _ _ _ h => h) (Or.inl ⟨by rfl, ?_⟩) ?_ ?_
    rotate_left
    · intro w'
      go_simp
      with_reducible rfl
    rotate_left
    · simp only [Act.put, List.setIfInBounds_toArray, List.set_cons_zero, List.set_cons_succ, i64_w, i32_w]
      rfl
    refine pure_ (i := 10) (N := (some 21)) (v := ?_) (a' := ?_) (L.B 34 2047) rfl rfl (by kernel_rfl) (fun _ _ _ h => h) (Or.inl ⟨by rfl, ?_⟩) ?_ ?_
    rotate_left
    · intro w'
      go_simp
      with_reducible rfl
    rotate_left
    · simp only [Act.put, List.setIfInBounds_toArray, List.set_cons_zero, List.set_cons_succ, i64_w, i32_w]
      rfl
    refine pure_ (i := 11) (N := (some 22)) (v := undef) (a' := ?_) (L.B 34 4095) rfl rfl (by kernel_rfl) (fun _ _ _ h => h) (Or.inr ⟨by rfl, rfl⟩) ?_ ?_
    rotate_left
    · simp only [Act.put, List.setIfInBounds_toArray, List.set_cons_zero, List.set_cons_succ, i64_w, i32_w]
      rfl
    refine pure_ (i := 12) (N := (some 23)) (v := undef) (a' := ?_) (L.B 34 8191) rfl rfl (by kernel_rfl) (fun _ _ _ h => h) (Or.inr ⟨by rfl, rfl⟩) ?_ ?_
    rotate_left
    · simp only [Act.put, List.setIfInBounds_toArray, List.set_cons_zero, List.set_cons_succ, i64_w, i32_w]
      rfl
    refine pure_ (i := 13) (N := (some 24)) (v := undef) (a' := ?_) (L.B 34 16383) rfl rfl (by kernel_rfl) (fun _ _ _ h => h) (Or.inr ⟨by rfl, rfl⟩) ?_ ?_
    rotate_left
    · simp only [Act.put, List.setIfInBounds_toArray, List.set_cons_zero, List.set_cons_succ, i64_w, i32_w]
      rfl
    refine pure_ (i := 14) (N := (some 25)) (v := undef) (a' := ?_) (L.B 34 32767) rfl rfl (by kernel_rfl) (fun _ _ _ h => h) (Or.inr ⟨by rfl, rfl⟩) ?_ ?_
    rotate_left
    · simp only [Act.put, List.setIfInBounds_toArray, List.set_cons_zero, List.set_cons_succ, i64_w, i32_w]
      rfl
    refine pure_ (i := 15) (N := (some 26)) (v := undef) (a' := ?_) (L.B 34 65535) rfl rfl (by kernel_rfl) (fun _ _ _ h => h) (Or.inr ⟨by rfl, rfl⟩) ?_ ?_
    rotate_left
    · simp only [Act.put, List.setIfInBounds_toArray, List.set_cons_zero, List.set_cons_succ, i64_w, i32_w]
      rfl
    refine pure_ (i := 16) (N := (some 27)) (v := undef) (a' := ?_) (L.B 34 131071) rfl rfl (by kernel_rfl) (fun _ _ _ h => h) (Or.inr ⟨by rfl, rfl⟩) ?_ ?_
    rotate_left
    · simp only [Act.put, List.setIfInBounds_toArray, List.set_cons_zero, List.set_cons_succ, i64_w, i32_w]
      rfl
    refine pure_ (i := 17) (N := (some 28)) (v := undef) (a' := ?_) (L.B 34 262143) rfl rfl (by kernel_rfl) (fun _ _ _ h => h) (Or.inr ⟨by rfl, rfl⟩) ?_ ?_
    rotate_left
    · simp only [Act.put, List.setIfInBounds_toArray, List.set_cons_zero, List.set_cons_succ, i64_w, i32_w]
      rfl
    refine pure_ (i := 18) (N := (some 29)) (v := undef) (a' := ?_) (L.B 34 524287) rfl rfl (by kernel_rfl) (fun _ _ _ h => h) (Or.inr ⟨by rfl, rfl⟩) ?_ ?_
    rotate_left
    · simp only [Act.put, List.setIfInBounds_toArray, List.set_cons_zero, List.set_cons_succ, i64_w, i32_w]
      rfl
    refine pure_ (i := 19) (N := (some 30)) (v := ?_) (a' := ?_) (L.B 34 1048575) rfl rfl (by kernel_rfl) (fun _ _ _ h => h) (Or.inl ⟨by rfl, ?_⟩) ?_ ?_
    rotate_left
    · intro w'
      go_simp
      with_reducible rfl
    rotate_left
    · simp only [Act.put, List.setIfInBounds_toArray, List.set_cons_zero, List.set_cons_succ, i64_w, i32_w]
      rfl
    refine pure_ (i := 20) (N := (some 31)) (v := ?_) (a' := ?_) (L.B 34 2097151) rfl rfl (by kernel_rfl) (fun _ _ _ h => h) (Or.inl ⟨by rfl, ?_⟩) ?_ ?_
    rotate_left
    · intro w'
      go_simp
      with_reducible rfl
    rotate_left
    · simp only [Act.put, List.setIfInBounds_toArray, List.set_cons_zero, List.set_cons_succ, i64_w, i32_w]
      rfl
    refine pure_ (i := 21) (N := (some 32)) (v := undef) (a' := ?_) (L.B 34 4194303) rfl rfl (by kernel_rfl) (fun _ _ _ h => h) (Or.inr ⟨by rfl, rfl⟩) ?_ ?_
    rotate_left
    · simp only [Act.put, List.setIfInBounds_toArray, List.set_cons_zero, List.set_cons_succ, i64_w, i32_w]
      rfl
    refine pure_ (i := 22) (N := (some 33)) (v := undef) (a' := ?_) (L.B 34 8388607) rfl rfl (by kernel_rfl) (fun _ _ _ h => h) (Or.inr ⟨by rfl, rfl⟩) ?_ ?_
    rotate_left
    · simp only [Act.put, List.setIfInBounds_toArray, List.set_cons_zero, List.set_cons_succ, i64_w, i32_w]
      rfl
    refine pure_ (i := 23) (N := (some 34)) (v := undef) (a' := ?_) (L.B 34 16777215) rfl rfl (by kernel_rfl) (fun _ _ _ h => h) (Or.inr ⟨by rfl, rfl⟩) ?_ ?_
    rotate_left
    · simp only [Act.put, List.setIfInBounds_toArray, List.set_cons_zero, List.set_cons_succ, i64_w, i32_w]
      rfl
    refine pure_ (i := 24) (N := (some 35)) (v := undef) (a' := ?_) (L.B 34 33554431) rfl rfl (by kernel_rfl) (fun _ _ _ h => h) (Or.inr ⟨by rfl, rfl⟩) ?_ ?_
    rotate_left
    · simp only [Act.put, List.setIfInBounds_toArray, List.set_cons_zero, List.set_cons_succ, i64_w, i32_w]
      rfl
    refine pure_ (i := 25) (N := (some 36)) (v := undef) (a' := ?_) (L.B 34 67108863) rfl rfl (by kernel_rfl) (fun _ _ _ h => h) (Or.inr ⟨by rfl, rfl⟩) ?_ ?_
    rotate_left
    · simp only [Act.put, List.setIfInBounds_toArray, List.set_cons_zero, List.set_cons_succ, i64_w, i32_w]
      rfl
    refine pure_ (i := 26) (N := (some 37)) (v := undef) (a' := ?_) (L.B 34 134217727) rfl rfl (by kernel_rfl) (fun _ _ _ h => h) (Or.inr ⟨by rfl, rfl⟩) ?_ ?_
    rotate_left
    · simp only [Act.put, List.setIfInBounds_toArray, List.set_cons_zero, List.set_cons_succ, i64_w, i32_w]
      rfl
    refine pure_ (i := 27) (N := (some 38)) (v := undef) (a' := ?_) (L.B 34 268435455) rfl rfl (by kernel_rfl) (fun _ _ _ h => h) (Or.inr ⟨by rfl, rfl⟩) ?_ ?_
    rotate_left
    · simp only [Act.put, List.setIfInBounds_toArray, List.set_cons_zero, List.set_cons_succ, i64_w, i32_w]
      rfl
    refine pure_ (i := 28) (N := (some 39)) (v := undef) (a' := ?_) (L.B 34 536870911) rfl rfl (by kernel_rfl) (fun _ _ _ h => h) (Or.inr ⟨by rfl, rfl⟩) ?_ ?_
    rotate_left
    · simp only [Act.put, List.setIfInBounds_toArray, List.set_cons_zero, List.set_cons_succ, i64_w, i32_w]
      rfl
    refine pure_ (i := 29) (N := (some 40)) (v := undef) (a' := ?_) (L.B 34 1073741823) rfl rfl (by kernel_rfl) (fun _ _ _ h => h) (Or.inr ⟨by rfl, rfl⟩) ?_ ?_
    rotate_left
    · simp only [Act.put, List.setIfInBounds_toArray, List.set_cons_zero, List.set_cons_succ, i64_w, i32_w]
      rfl
    refine pure_ (i := 30) (N := (some 41)) (v := undef) (a' := ?_) (L.B 34 2147483647) rfl rfl (by kernel_rfl) (fun _ _ _ h => h) (Or.inr ⟨by rfl, rfl⟩) ?_ ?_
    rotate_left
    · simp only [Act.put, List.setIfInBounds_toArray, List.set_cons_zero, List.set_cons_succ, i64_w, i32_w]
      rfl
    refine pure_ (i := 31) (N := (some 42)) (v := undef) (a' := ?_) (L.B 34 4294967295) rfl rfl (by kernel_rfl) (fun _ _ _ h => h) (Or.inr ⟨by rfl, rfl⟩) ?_ ?_
    rotate_left
    · simp only [Act.put, List.setIfInBounds_toArray, List.set_cons_zero, List.set_cons_succ, i64_w, i32_w]
      rfl
    refine pure_ (i := 32) (N := (some 43)) (v := undef) (a' := ?_) (L.B 34 8589934591) rfl rfl (by kernel_rfl) (fun _ _ _ h => h) (Or.inr ⟨by rfl, rfl⟩) ?_ ?_
    rotate_left
    · simp only [Act.put, List.setIfInBounds_toArray, List.set_cons_zero, List.set_cons_succ, i64_w, i32_w]
      rfl
    refine pure_ (i := 33) (N := (some 44)) (v := ?_) (a' := ?_) (L.B 34 17179869183) rfl rfl (by kernel_rfl) (fun _ _ _ h => h) (Or.inl ⟨by rfl, ?_⟩) ?_ ?_
    rotate_left
    · intro w'
      go_simp
      with_reducible rfl
    rotate_left
    · simp only [Act.put, List.setIfInBounds_toArray, List.set_cons_zero, List.set_cons_succ, i64_w, i32_w]
      rfl
    refine done_ (by kernel_rfl) ?_
    go_wp2_with (fail)
    go_ret2
    rw [← hT1.out]
    exact ⟨rfl, hB⟩
  · obtain ⟨N, hN⟩ : ∃ N, chs.length = N := ⟨_, rfl⟩
    have hN12 : N = 1 ∨ N = 2 := by omega
    obtain ⟨ad, A0, k0, ead, hx0, hk0, hC1⟩ := rows_at hC 0 (by omega)
    obtain ⟨ad', A1, k1, ead', hx1, hk1, hC2⟩ := rows_at hC (N - 1) (by omega)
    cases ead
    cases ead'
    have hz0 : ad.add 0 = ad := by cases ad; rfl
    rw [hz0] at hx0
    rw [hN] at hn hc hC0 ⊢
    have hm0 := hr (row chs 0) (by rw [row_get (by omega)]; exact List.getElem_mem _)
    have hm1 := hr (row chs (N - 1)) (by rw [row_get (by omega)]; exact List.getElem_mem _)
    obtain ⟨n0, hn0⟩ : ∃ n, (row chs 0).length = n := ⟨_, rfl⟩
    obtain ⟨n1, hn1⟩ : ∃ n, (row chs (N - 1)).length = n := ⟨_, rfl⟩
    obtain ⟨fs, hfs⟩ : ∃ n, fsz c b = n := ⟨_, rfl⟩
    have hfs4 := fsz_in hf
    rw [hn0] at hx0 hm0 hk0 hC1
    rw [hn1] at hx1 hm1
    rw [hfs] at hF hfs4
    have hz : ((N : Int) != c) = false := by rw [hn]; exact bne_self_eq_false' _
    have hz2 : ((N : Int) = c) = True := eq_true hn
    have q4 := eq_true (show (0 : Int) < (N : Int) by omega)
    have q7 := eq_true (show 0 < N by omega)
    have hcw : wrap64 (c - 1) = c - 1 := IntWalk.wrap64_in _ (by omega)
    have q5 := eq_true (show (0 : Int) ≤ c - 1 by omega)
    have q6 := eq_true (show c - 1 < (N : Int) by omega)
    have hcn : (c - 1).toNat = N - 1 := by omega
    obtain ⟨c9, hc9⟩ : ∃ x, c - 1 = x := ⟨_, rfl⟩
    rw [hc9] at q5 q6 hcn
    replace hcw : wrap64 (c - 1) = c9 := hcw.trans hc9
    obtain ⟨N9, hN9⟩ : ∃ x, N - 1 = x := ⟨_, rfl⟩
    rw [hN9] at hcn hx1
    have f0 := eq_false (show ¬ (fs : Int) = 0 by omega)
    have f1 : ((fs : Int) == 0) = false := beq_eq_false_iff_ne.2 (by omega)
    have f2 := eq_false (show ¬ fs = 0 by omega)
    have hqv : wrap64 (Int.tdiv 4096 (fs : Int)) = ((4096 / fs : Nat) : Int) := by
      have h1 : (4096 : Int).tdiv (fs : Int) = ((4096 / fs : Nat) : Int) := by
        rw [show (4096 : Int) = ((4096 : Nat) : Int) from rfl, Int.ofNat_tdiv]
      have h3 : 4096 / fs ≤ 4096 := Nat.div_le_self _ _
      rw [h1]
      generalize 4096 / fs = q at h3 ⊢
      exact IntWalk.wrap64_in _ (by omega)
    obtain ⟨q9, hq9⟩ : ∃ q, 4096 / fs = q := ⟨_, rfl⟩
    rw [hq9] at hqv
    have g0 : decide ((q9 : Int) < (n0 : Int)) = false := decide_eq_false (by
      have h2 : 4096 / 4 ≤ 4096 / fs := Nat.div_le_div_left hfs4.2 (by omega)
      omega)
    have g1 : decide (q9 < n0) = false := decide_eq_false (by
      have h2 : 4096 / 4 ≤ 4096 / fs := Nat.div_le_div_left hfs4.2 (by omega)
      omega)
    replace hq9 := Lib.hid hq9
    obtain ⟨bb, hbb0⟩ : ∃ bb, ((n1 : Int) != (n0 : Int)) = bb := ⟨_, rfl⟩
    replace hn := Lib.hid hn
    replace hN := Lib.hid hN
    replace hc9 := Lib.hid hc9
    replace hN9 := Lib.hid hN9
    replace hn0 := Lib.hid hn0
    replace hn1 := Lib.hid hn1
    replace hfs := Lib.hid hfs
    replace hf := Lib.hid hf
    replace hF := Lib.hid hF
    replace hT0 := Lib.hid hT0
    have hC10 := Lib.hid hC1
    clear hC hC1 hC2 hz0
    go_enter Tryz.func155, Tryz.ntmps155
    go_upto_region 1 with (first | ((with_reducible refine gate_dst (N := 3) rfl ?_); refine box_event ?hg (N := 3) ?hd (cs := #[.int .i64 c, .int .i64 b]) (t := 39) ?hr ?_; (case hd => rfl); (case hg => rfl); (case hr => first | (go_simp; done) | (go_simp; rfl)); intro gb hgb wb hbox hbb; replace hgb := Lib.hid hgb))
    have hX : L.BC wb gb 39 [.int .i64 c, .int .i64 b] := ⟨hbox⟩
    clear hbox
    replace hX := L.BC.drew hX
    replace hbb := L.below_drew hbb
    have r0 := cell_below hbb hx0
    have r1 := cell_below hbb hx1
    refine start_ (n := 34) (S := fun w' => L.BC w' gb 39 [.int .i64 c, .int .i64 b] ∧ w'.cell? ⟨gb, 0, none⟩ = some (.int .i64 c) ∧ w'.cell? ad = some (.slice A0 n0 k0) ∧ w'.cell? (ad.add N9) = some (.slice A1 n1 k1)) (ds := []) (L.B 34 0) (by kernel_rfl) rfl (by kernel_rfl) ⟨hX, L.BC.at_ hX (o := 0) rfl, r0, r1⟩ (fun hHeld => ?_)
    refine take_ (i := 0) (N := (some 11)) (v := .agg #[.int .i64 c, .int .i64 b]) (a' := ?_) (L.B 34 1) rfl rfl (by kernel_rfl) (fun _ _ _ h => h) (Or.inl ⟨by rfl, fun w' hS => L.loads 39 (.tmp 3) gb [.int .i64 c, .int .i64 b] _ (by rfl) (by rfl) Tryz.underlying39 rfl infoF w' (And.left hS)⟩) hHeld ?_ ?_
    rotate_left
    · simp only [Act.put, List.setIfInBounds_toArray, List.set_cons_zero, List.set_cons_succ, i64_w, i32_w]
      rfl
    refine one_ (i := 1) (N := (some 12)) (L.B 34 3) rfl rfl (by kernel_rfl) (by decide) (fun K hK => ?_)
    refine goes_ Tryz.func66 (by kernel_rfl) rfl #[.agg #[.int .i64 c, .int .i64 b]] (by rfl) rfl rfl (by (try simp only [List.map_toArray, List.map_cons, List.map_nil]); first | done | rfl) ?_
    refine (hM.out _).mono ?_
    rintro e w3 ⟨rfl, hb3⟩
    refine ⟨_, rfl, ?_⟩
    replace hX := L.BC.below hX hb3
    have hB := below_trans hbb hb3
    have r0 := cell_below hB hx0
    have r1 := cell_below hB hx1
    clear hHeld hb3 hbb
    refine hK.out _ _ ⟨hX, L.BC.at_ hX (o := 0) rfl, r0, r1⟩ (fun hHeld => ?_)
    clear hK K
    refine norm_ (a' := ?_) ?_ ?_
    rotate_left
    · show Act.put _ (some 12) _ = _
      simp only [Act.put, List.setIfInBounds_toArray, List.set_cons_zero, List.set_cons_succ, i64_w, i32_w]
      rfl
    refine pure_ (i := 2) (N := (some 13)) (v := ?_) (a' := ?_) (L.B 34 7) rfl rfl (by kernel_rfl) (fun _ _ _ h => h) (Or.inl ⟨by rfl, ?_⟩) ?_ ?_
    rotate_left
    · intro w'
      go_simp
      with_reducible rfl
    rotate_left
    · simp only [Act.put, List.setIfInBounds_toArray, List.set_cons_zero, List.set_cons_succ, i64_w, i32_w]
      rfl
    refine pure_ (i := 3) (N := (some 14)) (v := ?_) (a' := ?_) (L.B 34 15) rfl rfl (by kernel_rfl) (fun _ _ _ h => h) (Or.inl ⟨by rfl, ?_⟩) ?_ ?_
    rotate_left
    · intro w'
      go_simp
      with_reducible rfl
    rotate_left
    · simp only [Act.put, List.setIfInBounds_toArray, List.set_cons_zero, List.set_cons_succ, i64_w, i32_w]
      rfl
    refine pure_ (i := 4) (N := (some 15)) (v := ?_) (a' := ?_) (L.B 34 31) rfl rfl (by kernel_rfl) (fun _ _ _ h => h) (Or.inl ⟨by rfl, ?_⟩) ?_ ?_
    rotate_left
    · intro w'
      go_simp
      with_reducible rfl
    rotate_left
    · simp only [Act.put, List.setIfInBounds_toArray, List.set_cons_zero, List.set_cons_succ, i64_w, i32_w]
      rfl
    refine pure_ (i := 5) (N := (some 16)) (v := ?_) (a' := ?_) (L.B 34 63) rfl rfl (by kernel_rfl) (fun _ _ _ h => h) (Or.inl ⟨by rfl, ?_⟩) ?_ ?_
    rotate_left
    · intro w'
      go_simp
      with_reducible rfl
    rotate_left
    · simp only [Act.put, List.setIfInBounds_toArray, List.set_cons_zero, List.set_cons_succ, i64_w, i32_w]
      rfl
    refine pure_ (i := 6) (N := (some 17)) (v := ?_) (a' := ?_) (L.B 34 127) rfl rfl (by kernel_rfl) (fun _ _ _ h => h) (Or.inl ⟨by rfl, ?_⟩) ?_ ?_
    rotate_left
    · intro w'
      go_simp
      with_reducible rfl
    rotate_left
    · simp only [Act.put, List.setIfInBounds_toArray, List.set_cons_zero, List.set_cons_succ, i64_w, i32_w]
      rfl
    refine take_ (i := 7) (N := (some 18)) (v := ?_) (a' := ?_) (L.B 34 255) rfl rfl (by kernel_rfl) (fun _ _ _ h => h) (Or.inl ⟨by rfl, ?_⟩) hHeld ?_ ?_
    rotate_left
    · rintro w' ⟨sX, s0, s1, s2⟩
      go_simp
      with_reducible rfl
    rotate_left
    · simp only [Act.put, List.setIfInBounds_toArray, List.set_cons_zero, List.set_cons_succ, i64_w, i32_w]
      rfl
    refine pure_ (i := 8) (N := (some 19)) (v := ?_) (a' := ?_) (L.B 34 511) rfl rfl (by kernel_rfl) (fun _ _ _ h => h) (Or.inl ⟨by rfl, ?_⟩) ?_ ?_
    rotate_left
    · intro w'
      go_simp
      with_reducible rfl
    rotate_left
    · simp only [Act.put, List.setIfInBounds_toArray, List.set_cons_zero, List.set_cons_succ, i64_w, i32_w]
      rfl
    refine pure_ (i := 9) (N := (some 20)) (v := ?_) (a' := ?_) (L.B 34 1023) rfl rfl (by kernel_rfl) (fun _ _ _ h => h) (Or.inl ⟨by rfl, ?_⟩) ?_ ?_
    rotate_left
    · intro w'
      go_simp
      with_reducible rfl
    rotate_left
    · simp only [Act.put, List.setIfInBounds_toArray, List.set_cons_zero, List.set_cons_succ, i64_w, i32_w]
      rfl
    refine pure_ (i := 10) (N := (some 21)) (v := ?_) (a' := ?_) (L.B 34 2047) rfl rfl (by kernel_rfl) (fun _ _ _ h => h) (Or.inl ⟨by rfl, ?_⟩) ?_ ?_
    rotate_left
    · intro w'
      go_simp
      with_reducible rfl
    rotate_left
    · simp only [Act.put, List.setIfInBounds_toArray, List.set_cons_zero, List.set_cons_succ, i64_w, i32_w]
      rfl
    refine pure_ (i := 11) (N := (some 22)) (v := ?_) (a' := ?_) (L.B 34 4095) rfl rfl (by kernel_rfl) (fun _ _ _ h => h) (Or.inl ⟨by rfl, ?_⟩) ?_ ?_
    rotate_left
    · intro w'
      go_simp
      with_reducible rfl
    rotate_left
    · simp only [Act.put, List.setIfInBounds_toArray, List.set_cons_zero, List.set_cons_succ, i64_w, i32_w]
      rfl
    refine pure_ (i := 12) (N := (some 23)) (v := ?_) (a' := ?_) (L.B 34 8191) rfl rfl (by kernel_rfl) (fun _ _ _ h => h) (Or.inl ⟨by rfl, ?_⟩) ?_ ?_
    rotate_left
    · intro w'
      go_simp
      with_reducible rfl
    rotate_left
    · simp only [Act.put, List.setIfInBounds_toArray, List.set_cons_zero, List.set_cons_succ, i64_w, i32_w]
      rfl
    refine take_ (i := 13) (N := (some 24)) (v := ?_) (a' := ?_) (L.B 34 16383) rfl rfl (by kernel_rfl) (fun _ _ _ h => h) (Or.inl ⟨by rfl, ?_⟩) hHeld ?_ ?_
    rotate_left
    · rintro w' ⟨sX, s0, s1, s2⟩
      go_simp
      with_reducible rfl
    rotate_left
    · simp only [Act.put, List.setIfInBounds_toArray, List.set_cons_zero, List.set_cons_succ, i64_w, i32_w]
      rfl
    refine pure_ (i := 14) (N := (some 25)) (v := ?_) (a' := ?_) (L.B 34 32767) rfl rfl (by kernel_rfl) (fun _ _ _ h => h) (Or.inl ⟨by rfl, ?_⟩) ?_ ?_
    rotate_left
    · intro w'
      go_simp
      with_reducible rfl
    rotate_left
    · simp only [Act.put, List.setIfInBounds_toArray, List.set_cons_zero, List.set_cons_succ, i64_w, i32_w]
      rfl
    refine take_ (i := 15) (N := (some 26)) (v := .agg #[.int .i64 c, .int .i64 b]) (a' := ?_) (L.B 34 65535) rfl rfl (by kernel_rfl) (fun _ _ _ h => h) (Or.inl ⟨by rfl, fun w' hS => L.loads 39 (.tmp 3) gb [.int .i64 c, .int .i64 b] _ (by rfl) (by rfl) Tryz.underlying39 rfl infoF w' (And.left hS)⟩) hHeld ?_ ?_
    rotate_left
    · simp only [Act.put, List.setIfInBounds_toArray, List.set_cons_zero, List.set_cons_succ, i64_w, i32_w]
      rfl
    refine one_ (i := 16) (N := (some 27)) (L.B 34 131071) rfl rfl (by kernel_rfl) (by decide) (fun K hK => ?_)
    refine goes_ Tryz.func56 (by kernel_rfl) rfl #[.agg #[.int .i64 c, .int .i64 b]] (by rfl) rfl rfl (by (try simp only [List.map_toArray, List.map_cons, List.map_nil]); first | done | rfl) ?_
    refine (hF.out _).mono ?_
    rintro e w4 ⟨rfl, hb3⟩
    refine ⟨_, rfl, ?_⟩
    replace hX := L.BC.below hX hb3
    replace hB := below_trans hB hb3
    have r0 := cell_below hB hx0
    have r1 := cell_below hB hx1
    clear hHeld hb3
    refine hK.out _ _ ⟨hX, L.BC.at_ hX (o := 0) rfl, r0, r1⟩ (fun hHeld => ?_)
    clear hK K
    refine norm_ (a' := ?_) ?_ ?_
    rotate_left
    · show Act.put _ (some 27) _ = _
      simp only [Act.put, List.setIfInBounds_toArray, List.set_cons_zero, List.set_cons_succ, i64_w, i32_w]
      rfl
    refine pure_ (i := 17) (N := (some 28)) (v := ?_) (a' := ?_) (L.B 34 262143) rfl rfl (by kernel_rfl) (fun _ _ _ h => h) (Or.inl ⟨by rfl, ?_⟩) ?_ ?_
    rotate_left
    · intro w'
      go_simp
      with_reducible rfl
    rotate_left
    · simp only [Act.put, List.setIfInBounds_toArray, List.set_cons_zero, List.set_cons_succ, i64_w, i32_w]
      rfl
    refine pure_ (i := 18) (N := (some 29)) (v := ?_) (a' := ?_) (L.B 34 524287) rfl rfl (by kernel_rfl) (fun _ _ _ h => h) (Or.inl ⟨by rfl, ?_⟩) ?_ ?_
    rotate_left
    · intro w'
      go_simp
      with_reducible rfl
    rotate_left
    · simp only [Act.put, List.setIfInBounds_toArray, List.set_cons_zero, List.set_cons_succ, i64_w, i32_w]
      rfl
    refine pure_ (i := 19) (N := (some 30)) (v := ?_) (a' := ?_) (L.B 34 1048575) rfl rfl (by kernel_rfl) (fun _ _ _ h => h) (Or.inl ⟨by rfl, ?_⟩) ?_ ?_
    rotate_left
    · intro w'
      go_simp
      with_reducible rfl
    rotate_left
    · simp only [Act.put, List.setIfInBounds_toArray, List.set_cons_zero, List.set_cons_succ, i64_w, i32_w]
      rfl
    refine pure_ (i := 20) (N := (some 31)) (v := ?_) (a' := ?_) (L.B 34 2097151) rfl rfl (by kernel_rfl) (fun _ _ _ h => h) (Or.inl ⟨by rfl, ?_⟩) ?_ ?_
    rotate_left
    · intro w'
      go_simp
      with_reducible rfl
    rotate_left
    · simp only [Act.put, List.setIfInBounds_toArray, List.set_cons_zero, List.set_cons_succ, i64_w, i32_w]
      rfl
    refine pure_ (i := 21) (N := (some 32)) (v := ?_) (a' := ?_) (L.B 34 4194303) rfl rfl (by kernel_rfl) (fun _ _ _ h => h) (Or.inl ⟨by rfl, ?_⟩) ?_ ?_
    rotate_left
    · intro w'
      go_simp
      with_reducible rfl
    rotate_left
    · simp only [Act.put, List.setIfInBounds_toArray, List.set_cons_zero, List.set_cons_succ, i64_w, i32_w]
      rfl
    refine pure_ (i := 22) (N := (some 33)) (v := ?_) (a' := ?_) (L.B 34 8388607) rfl rfl (by kernel_rfl) (fun _ _ _ h => h) (Or.inl ⟨by rfl, ?_⟩) ?_ ?_
    rotate_left
    · intro w'
      go_simp
      with_reducible rfl
    rotate_left
    · simp only [Act.put, List.setIfInBounds_toArray, List.set_cons_zero, List.set_cons_succ, i64_w, i32_w]
      rfl
    refine take_ (i := 23) (N := (some 34)) (v := ?_) (a' := ?_) (L.B 34 16777215) rfl rfl (by kernel_rfl) (fun _ _ _ h => h) (Or.inl ⟨by rfl, ?_⟩) hHeld ?_ ?_
    rotate_left
    · rintro w' ⟨sX, s0, s1, s2⟩
      go_simp
      with_reducible rfl
    rotate_left
    · simp only [Act.put, List.setIfInBounds_toArray, List.set_cons_zero, List.set_cons_succ, i64_w, i32_w]
      rfl
    refine pure_ (i := 24) (N := (some 35)) (v := ?_) (a' := ?_) (L.B 34 33554431) rfl rfl (by kernel_rfl) (fun _ _ _ h => h) (Or.inl ⟨by rfl, ?_⟩) ?_ ?_
    rotate_left
    · intro w'
      go_simp
      with_reducible rfl
    rotate_left
    · simp only [Act.put, List.setIfInBounds_toArray, List.set_cons_zero, List.set_cons_succ, i64_w, i32_w]
      rfl
    refine pure_ (i := 25) (N := (some 36)) (v := ?_) (a' := ?_) (L.B 34 67108863) rfl rfl (by kernel_rfl) (fun _ _ _ h => h) (Or.inl ⟨by rfl, ?_⟩) ?_ ?_
    rotate_left
    · intro w'
      go_simp
      with_reducible rfl
    rotate_left
    · simp only [Act.put, List.setIfInBounds_toArray, List.set_cons_zero, List.set_cons_succ, i64_w, i32_w]
      rfl
    refine take_ (i := 26) (N := (some 37)) (v := ?_) (a' := ?_) (L.B 34 134217727) rfl rfl (by kernel_rfl) (fun _ _ _ h => h) (Or.inl ⟨by rfl, ?_⟩) hHeld ?_ ?_
    rotate_left
    · rintro w' ⟨sX, s0, s1, s2⟩
      go_simp
      with_reducible rfl
    rotate_left
    · simp only [Act.put, List.setIfInBounds_toArray, List.set_cons_zero, List.set_cons_succ, i64_w, i32_w]
      rfl
    refine pure_ (i := 27) (N := (some 38)) (v := ?_) (a' := ?_) (L.B 34 268435455) rfl rfl (by kernel_rfl) (fun _ _ _ h => h) (Or.inl ⟨by rfl, ?_⟩) ?_ ?_
    rotate_left
    · intro w'
      go_simp
      with_reducible rfl
    rotate_left
    · simp only [Act.put, List.setIfInBounds_toArray, List.set_cons_zero, List.set_cons_succ, i64_w, i32_w]
      rfl
    refine pure_ (i := 28) (N := (some 39)) (v := ?_) (a' := ?_) (L.B 34 536870911) rfl rfl (by kernel_rfl) (fun _ _ _ h => h) (Or.inl ⟨by rfl, ?_⟩) ?_ ?_
    rotate_left
    · intro w'
      go_simp
      with_reducible rfl
    rotate_left
    · simp only [Act.put, List.setIfInBounds_toArray, List.set_cons_zero, List.set_cons_succ, i64_w, i32_w]
      rfl
    refine pure_ (i := 29) (N := (some 40)) (v := ?_) (a' := ?_) (L.B 34 1073741823) rfl rfl (by kernel_rfl) (fun _ _ _ h => h) (Or.inl ⟨by rfl, ?_⟩) ?_ ?_
    rotate_left
    · intro w'
      go_simp
      with_reducible rfl
    rotate_left
    · simp only [Act.put, List.setIfInBounds_toArray, List.set_cons_zero, List.set_cons_succ, i64_w, i32_w]
      rfl
    refine take_ (i := 30) (N := (some 41)) (v := ?_) (a' := ?_) (L.B 34 2147483647) rfl rfl (by kernel_rfl) (fun _ _ _ h => h) (Or.inl ⟨by rfl, ?_⟩) hHeld ?_ ?_
    rotate_left
    · rintro w' ⟨sX, s0, s1, s2⟩
      go_simp
      with_reducible rfl
    rotate_left
    · simp only [Act.put, List.setIfInBounds_toArray, List.set_cons_zero, List.set_cons_succ, i64_w, i32_w]
      rfl
    refine pure_ (i := 31) (N := (some 42)) (v := ?_) (a' := ?_) (L.B 34 4294967295) rfl rfl (by kernel_rfl) (fun _ _ _ h => h) (Or.inl ⟨by rfl, ?_⟩) ?_ ?_
    rotate_left
    · intro w'
      go_simp
      with_reducible rfl
    rotate_left
    · simp only [Act.put, List.setIfInBounds_toArray, List.set_cons_zero, List.set_cons_succ, i64_w, i32_w]
      rfl
    refine pure_ (i := 32) (N := (some 43)) (v := ?_) (a' := ?_) (L.B 34 8589934591) rfl rfl (by kernel_rfl) (fun _ _ _ h => h) (Or.inl ⟨by rfl, ?_⟩) ?_ ?_
    rotate_left
    · intro w'
      go_simp
      with_reducible rfl
    rotate_left
    · simp only [Act.put, List.setIfInBounds_toArray, List.set_cons_zero, List.set_cons_succ, i64_w, i32_w]
      rfl
    refine pure_ (i := 33) (N := (some 44)) (v := ?_) (a' := ?_) (L.B 34 17179869183) rfl rfl (by kernel_rfl) (fun _ _ _ h => h) (Or.inl ⟨by rfl, ?_⟩) ?_ ?_
    rotate_left
    · intro w'
      go_simp
      with_reducible rfl
    rotate_left
    · simp only [Act.put, List.setIfInBounds_toArray, List.set_cons_zero, List.set_cons_succ, i64_w, i32_w]
      rfl
    refine done_ (by kernel_rfl) ?_
    clear r0 r1 hHeld
    cases bb with
    | true =>
      have hT1 : none = T0 := by
        rw [← hT0.out, pPut, if_neg]
        intro h
        simp only [pOk, Bool.and_eq_true, decide_eq_true_eq] at h
        have h1 := h.2.2.2.1
        rw [show c.toNat - 1 = N - 1 by have := hn.out; omega, hn1.out, hn0.out] at h1
        exact bne_iff_ne.1 hbb0 (by omega)
      replace hT1 := Lib.hid hT1
      replace hbb0 := Lib.hid hbb0
      go_wp2_with (fail)
      go_ret2
      rw [← hT1.out]
      exact ⟨rfl, hB⟩
    | false =>
      have h10 : n1 = n0 := by have := bne_eq_false_iff_eq.1 hbb0; omega
      have hbc := L.BC.at_ hX (o := 1) rfl
      have r0 := cell_below hB hx0
      obtain ⟨b1, hb1⟩ : ∃ x, b - 1 = x := ⟨_, rfl⟩
      have hbw : wrap64 (b - 1) = b1 := (IntWalk.wrap64_in _ (by omega)).trans hb1
      have q8 := eq_true (show (0 : Int) ≤ b1 by omega)
      obtain ⟨P, hP⟩ : ∃ P : Int, 2 ^ (b.toNat - 1) = P := ⟨_, rfl⟩
      have hP2 : P = 128 ∨ P = 32768 := by
        rcases hb816 with rfl | rfl
        · left; rw [← hP]; rfl
        · right; rw [← hP]; rfl
      have hPw : wrap64 (2 ^ (b.toNat - 1)) = P := by rw [hP]; exact pos_P hP2
      have hPn : wrap64 (-P) = -P := neg_P hP2
      have hsm : ∀ x : Int, smpIn b x = (decide (-P ≤ x) && decide (x < P)) := by
        intro x
        rw [← hP, smpIn]
      replace hbb0 := Lib.hid hbb0
      have hP3 := hP2
      replace h10 := Lib.hid h10
      replace hb1 := Lib.hid hb1
      replace hsm := Lib.hid hsm
      replace hP := Lib.hid hP
      have hRz : Kd.R (Kd.int .u8) 5 w4 w.heap.size (fun _ => True) (.slice none 0 0) (pcmI c b 0 chs) := Kd.R_nil _ _ _ _ _
      have hTn : ∀ (k i : Nat), k < N → i < n0 → smpIn b (rd (row chs k) (i : Int)) = false → none = T0 := by
        intro k i hk hi hs
        rw [← hT0.out, pPut, if_neg]
        intro h
        simp only [pOk, Bool.and_eq_true, decide_eq_true_eq] at h
        have hmem : row chs k ∈ chs := by rw [row_get (by have := hN.out; omega)]; exact List.getElem_mem _
        have h1 := List.all_eq_true.1 h.2.2.2.2 _ hmem
        have hlk : (row chs k).length = n0 := by
          have e1 := hn1.out
          have e2 := h10.out
          have e3 := hn0.out
          have e4 := hN9.out
          rcases hN12 with e | e
          · rw [show k = 0 by omega]; omega
          · by_cases hk0 : k = 0
            · rw [hk0]; omega
            · rw [show k = N - 1 by omega]; omega
        rw [rd_get (by omega)] at hs
        rw [List.all_eq_true.1 h1 _ (List.getElem_mem _)] at hs
        cases hs
      have hlen : ∀ k, k < N → (row chs k).length = n0 := by
        intro k hk
        have e1 := hn1.out
        have e2 := h10.out
        have e3 := hn0.out
        rcases hN12 with e | e
        · rw [show k = 0 by omega]; omega
        · by_cases hk0 : k = 0
          · rw [hk0]; omega
          · rw [show k = N - 1 by omega]; omega
      replace hTn := Lib.hid hTn
      replace hlen := Lib.hid hlen
      go_wp2_with (fail)
      clear r0 hx0 hx1 hbc q5 q6 hcw hcn
      go_loopg [7, 53] n0 (fun kq v7 v53 W => ∃ (i : Nat), v53 = .int .i64 (i : Int) ∧ i + kq = n0 ∧ (∀ j k, j < i → k < N → smpIn b (rd (row chs k) (j : Int)) = true) ∧ Kd.R (Kd.int .u8) 5 W w.heap.size (fun _ => True) v7 (pcmI c b i chs) ∧ L.BC W gb 39 [.int .i64 c, .int .i64 b] ∧ Below w.heap.size w W)
      case atStart => exact ⟨0, by simp, by omega, fun j k h => absurd h (Nat.not_lt_zero _), hRz, hX, hB⟩
      case round =>
        clear hRz hX hB
        obtain ⟨i, rfl, hi, hall, hR, hX, hB⟩ := hrel
        obtain ⟨Ao, co, ev⟩ := Kd.R_slice hR
        subst ev
        by_cases d1 : i < n0
        · obtain ⟨gko, rfl⟩ : ∃ j, gk = j + 1 := ⟨gk - 1, by omega⟩
          have d1d : decide ((i : Int) < (n0 : Int)) = true := decide_eq_true (by omega)
          obtain ⟨out, hout⟩ : ∃ o, pcmI c b i chs = o := ⟨_, rfl⟩
          rw [hout] at hR ⊢
          have hnx : pcmI c b (i + 1) chs = out ++ frmI b chs i N := by
            rw [pcmI, List.range_succ, List.flatMap_append, ← hout, pcmI, show c.toNat = N by have := hn.out; omega]
            simp
          replace hout := Lib.hid hout
          replace hnx := Lib.hid hnx
          replace hall := Lib.hid hall
          go_wp2_with (fail)
          have hR0 : Kd.R (Kd.int .u8) 5 wr w.heap.size (fun _ => True) (.slice Ao out.length co) (out ++ frmI b chs i 0) := by rw [show frmI b chs i 0 = [] from rfl, List.append_nil]; exact hR
          clear hR
          go_loopg [7, 58] N (fun kq v7 v58 W => ∃ (k : Nat), v58 = .int .i64 (k : Int) ∧ k + kq = N ∧ (∀ k', k' < k → smpIn b (rd (row chs k') (i : Int)) = true) ∧ Kd.R (Kd.int .u8) 5 W w.heap.size (fun _ => True) v7 (out ++ frmI b chs i k) ∧ L.BC W gb 39 [.int .i64 c, .int .i64 b] ∧ Below w.heap.size w W)
          case atStart => exact ⟨0, by simp, by omega, fun k h => absurd h (Nat.not_lt_zero _), hR0, hX, hB⟩
          case round =>
            clear hR0 hX hB
            obtain ⟨k, rfl, hk, hal2, hR, hX, hB⟩ := hrel
            obtain ⟨A2, c2, ev⟩ := Kd.R_slice hR
            subst ev
            by_cases d2 : k < N
            · have d2d : decide ((k : Int) < (N : Int)) = true := decide_eq_true (by omega)
              have hCW := Kd.C_below hC0.out hB
              obtain ⟨adk, Ak, kk, eadk, hxk, hkk, hCk⟩ := rows_at hCW k d2
              cases eadk
              rw [hlen.out k d2] at hxk hkk hCk
              have p3 := eq_true (show (0 : Int) ≤ (k : Int) by omega)
              have q3 := eq_true (show (k : Int) < (N : Int) by omega)
              obtain ⟨adx, eadx, hxx⟩ := Kd.at_int hCk (i : Int) (by omega) (by omega)
              cases eadx
              rw [Int.toNat_natCast] at hxx
              have p5 := eq_true (show (0 : Int) ≤ (i : Int) by omega)
              have q5 := eq_true (show (i : Int) < (n0 : Int) by omega)
              obtain ⟨x, hxv⟩ : ∃ x, rd (row chs k) (i : Int) = x := ⟨_, rfl⟩
              rw [hxv] at hxx
              have hnk : out ++ frmI b chs i (k + 1) = (out ++ frmI b chs i k) ++ bytI b x := by
                rw [frmI, List.range_succ, List.flatMap_append, ← hxv, frmI, List.append_assoc]
                simp
              have hTk := hTn.out k i d2 d1
              rw [hxv] at hTk
              obtain ⟨o2, ho2⟩ : ∃ o, out ++ frmI b chs i k = o := ⟨_, rfl⟩
              rw [ho2] at hR hnk ⊢
              have hol8 : (o2.length + (bytI b x).length) * 1 ≤ 140737488355328 := by
                have h1 : (bytI b x).length ≤ 2 := by unfold bytI; split <;> simp
                have h2 := frm_len b chs i k
                have h3 := pcm_len c b i chs
                have h4 := hout.out
                rw [← ho2, ← h4, List.length_append]
                have h5 := hn.out
                have : i * (c.toNat * 2) ≤ 256 * 4 := Nat.mul_le_mul (by omega) (by omega)
                omega
              replace hol8 := Lib.hid hol8
              replace hnk := Lib.hid hnk
              replace hTk := Lib.hid hTk
              replace hxv := Lib.hid hxv
              replace ho2 := Lib.hid ho2
              replace hal2 := Lib.hid hal2
              clear hCk hCW
              by_cases e1 : -P ≤ x
              · have e1d : decide (x < -P) = false := decide_eq_false (by omega)
                by_cases e2 : x < P
                · have e2d : decide (P ≤ x) = false := decide_eq_false (by omega)
                  have hsx : smpIn b x = true := by rw [hsm.out, decide_eq_true e1, decide_eq_true e2]; rfl
                  have hBy := fun W => PQ.pcm_bytes.calls x b (bytI b x) W (bytes_f (by omega) (by omega))
                  replace hBy := Lib.hid hBy
                  replace hsx := Lib.hid hsx
                  replace e1 := Lib.hid e1
                  replace e2 := Lib.hid e2
                  go_wp2_with (fail)
                  have hbc := L.BC.at_ hX (o := 1) rfl
                  have hX2 := L.BC.drew hX
                  have hR2 := Kd.R_drew hR
                  have hB2 := L.below_drew hB
                  refine start_ (n := 10) (S := fun w' => w'.cell? ⟨gb, 1, none⟩ = some (.int .i64 b) ∧ w'.cell? (adx.add i) = some (.int .i64 x)) (ds := [8]) #[false, false, false, false, false, false, false, false, false, false] (by kernel_rfl) rfl rfl ⟨L.BC.at_ hX2 (o := 1) rfl, hxx⟩ (fun hHeld => ?_)
                  refine pure_ (i := 0) (N := (some 77)) (v := ?_) (a' := ?_) #[true, false, false, false, false, false, false, false, false, false] rfl rfl (by kernel_rfl) (fun _ _ _ h => h) (Or.inl ⟨by rfl, ?_⟩) ?_ ?_
                  rotate_left
                  · intro w'
                    go_simp
                    with_reducible rfl
                  rotate_left
                  · simp only [Act.put, List.setIfInBounds_toArray, List.set_cons_zero, List.set_cons_succ, i64_w, i32_w]
                    rfl
                  refine pure_ (i := 1) (N := (some 78)) (v := ?_) (a' := ?_) #[true, true, false, false, false, false, false, false, false, false] rfl rfl (by kernel_rfl) (fun _ _ _ h => h) (Or.inl ⟨by rfl, ?_⟩) ?_ ?_
                  rotate_left
                  · intro w'
                    go_simp
                    with_reducible rfl
                  rotate_left
                  · simp only [Act.put, List.setIfInBounds_toArray, List.set_cons_zero, List.set_cons_succ, i64_w, i32_w]
                    rfl
                  refine pure_ (i := 2) (N := (some 79)) (v := ?_) (a' := ?_) #[true, true, true, false, false, false, false, false, false, false] rfl rfl (by kernel_rfl) (fun _ _ _ h => h) (Or.inl ⟨by rfl, ?_⟩) ?_ ?_
                  rotate_left
                  · intro w'
                    go_simp
                    with_reducible rfl
                  rotate_left
                  · simp only [Act.put, List.setIfInBounds_toArray, List.set_cons_zero, List.set_cons_succ, i64_w, i32_w]
                    rfl
                  refine pure_ (i := 3) (N := (some 80)) (v := ?_) (a' := ?_) #[true, true, true, true, false, false, false, false, false, false] rfl rfl (by kernel_rfl) (fun _ _ _ h => h) (Or.inl ⟨by rfl, ?_⟩) ?_ ?_
                  rotate_left
                  · intro w'
                    go_simp
                    with_reducible rfl
                  rotate_left
                  · simp only [Act.put, List.setIfInBounds_toArray, List.set_cons_zero, List.set_cons_succ, i64_w, i32_w]
                    rfl
                  refine take_ (i := 4) (N := (some 81)) (v := ?_) (a' := ?_) #[true, true, true, true, true, false, false, false, false, false] rfl rfl (by kernel_rfl) (fun _ _ _ h => h) (Or.inl ⟨by rfl, ?_⟩) hHeld ?_ ?_
                  rotate_left
                  · rintro w' ⟨s0, s1⟩
                    go_simp
                    with_reducible rfl
                  rotate_left
                  · simp only [Act.put, List.setIfInBounds_toArray, List.set_cons_zero, List.set_cons_succ, i64_w, i32_w]
                    rfl
                  refine pure_ (i := 5) (N := (some 82)) (v := ?_) (a' := ?_) #[true, true, true, true, true, true, false, false, false, false] rfl rfl (by kernel_rfl) (fun _ _ _ h => h) (Or.inl ⟨by rfl, ?_⟩) ?_ ?_
                  rotate_left
                  · intro w'
                    go_simp
                    with_reducible rfl
                  rotate_left
                  · simp only [Act.put, List.setIfInBounds_toArray, List.set_cons_zero, List.set_cons_succ, i64_w, i32_w]
                    rfl
                  refine take_ (i := 6) (N := (some 83)) (v := ?_) (a' := ?_) #[true, true, true, true, true, true, true, false, false, false] rfl rfl (by kernel_rfl) (fun _ _ _ h => h) (Or.inl ⟨by rfl, ?_⟩) hHeld ?_ ?_
                  rotate_left
                  · rintro w' ⟨s0, s1⟩
                    go_simp
                    with_reducible rfl
                  rotate_left
                  · simp only [Act.put, List.setIfInBounds_toArray, List.set_cons_zero, List.set_cons_succ, i64_w, i32_w]
                    rfl
                  refine one_ (i := 7) (N := (some 84)) #[true, true, true, true, true, true, true, true, false, false] rfl rfl (by kernel_rfl) (by decide) (fun K hK => ?_)
                  refine goes_ Tryz.func182 (by kernel_rfl) rfl #[.int .i64 x, .int .i64 b] (by rfl) rfl rfl (by (try simp only [List.map_toArray, List.map_cons, List.map_nil]); first | done | rfl) ?_
                  refine (hBy.out _).mono ?_
                  rintro e w5 ⟨v9, rfl, hR9, hb9⟩
                  refine ⟨_, rfl, ?_⟩
                  obtain ⟨A9, c9', e9⟩ := Kd.R_slice hR9
                  subst e9
                  have hX5 := L.BC.below hX2 hb9
                  have hR5 := Kd.R_below hR2 hb9
                  have hB5 := below_trans hB2 hb9
                  have hx5 := cell_below hb9 (show wr.drew.cell? (adx.add i) = some (.int .i64 x) from hxx)
                  clear hHeld hb9 hX2 hR2 hB2
                  refine hK.out _ _ ⟨L.BC.at_ hX5 (o := 1) rfl, hx5⟩ (fun hHeld => ?_)
                  clear hK K
                  refine norm_ (a' := ?_) ?_ ?_
                  rotate_left
                  · show Act.put _ (some 84) _ = _
                    simp only [Act.put, List.setIfInBounds_toArray, List.set_cons_zero, List.set_cons_succ, i64_w, i32_w]
                    rfl
                  refine last_ (i := 8) (N := (some 85)) #[true, true, true, true, true, true, true, true, true, false] rfl rfl (by kernel_rfl) (by decide) (fun K hK => ?_)
                  refine Kd.R_append_rows_step (Kd.int .u8) (w0 := w) w.heap.size (by rfl) (.tmp 77) (.tmp 84) 43 5 (.int .u8 0) 1 rfl Tryz.underlying43 infoU8 rfl (by decide) (by omega) (.slice A2 o2.length c2) o2 (bytI b x) _ _ _ (fun _ => True) (fun _ => False) rfl rfl ?aO ?aR (fun _ _ h => h) (fun _ h => h.elim) ?aF ?aB ?aS ?aL ?_
                  (case aR => exact (Kd.R_reads' hR9).2.2)
                  (case aB => exact hB5)
                  (case aF => exact (fun _ _ => trivial))
                  (case aO => exact hR5)
                  (case aS => exact hB5.size)
                  (case aL => exact hol8.out)
                  intro v85 w6 hR6 hB6 hg6 hat6
                  have hX6 := bc_grown hX5 hg6 (Kd.R_ne hR5 hX5.blk (by decide))
                  clear hX5 hR5 hB5 hx5 hg6 hat6 hHeld hR9
                  refine hK.out _ _ ?_
                  clear hK K
                  refine norm_ (a' := ?_) ?_ ?_
                  rotate_left
                  · show Act.put _ (some 85) _ = _
                    simp only [Act.put, List.setIfInBounds_toArray, List.set_cons_zero, List.set_cons_succ, i64_w, i32_w]
                    rfl
                  refine pure_ (i := 9) (N := (some 7)) (v := ?_) (a' := ?_) #[true, true, true, true, true, true, true, true, true, true] rfl rfl (by kernel_rfl) (fun _ _ _ h => h) (Or.inl ⟨by rfl, ?_⟩) ?_ ?_
                  rotate_left
                  · intro w'
                    go_simp
                    with_reducible rfl
                  rotate_left
                  · simp only [Act.put, List.setIfInBounds_toArray, List.set_cons_zero, List.set_cons_succ, i64_w, i32_w]
                    rfl
                  refine done_ (by kernel_rfl) ?_
                  obtain ⟨gi, rfl⟩ : ∃ i, gk = i + 1 := ⟨gk - 1, by omega⟩
                  go_wp2_with (fail)
                  go_roundg gi
                  case measure => omega
                  case rel =>
                    refine ⟨k + 1, by simp, by omega, fun k' h' => ?_, by rw [hnk.out]; exact hR6, hX6, hB6⟩
                    by_cases hkk : k' = k
                    · rw [hkk, hxv.out]; exact hsx.out
                    · exact hal2.out k' (by omega)
                · have e2d : decide (P ≤ x) = true := decide_eq_true (by omega)
                  have hT1 := hTk.out (by rw [hsm.out, decide_eq_false e2, Bool.and_false])
                  replace hT1 := Lib.hid hT1
                  replace e2 := Lib.hid e2
                  replace e1 := Lib.hid e1
                  go_wp2_with (fail)
                  go_ret2
                  rw [← hT1.out]
                  exact ⟨rfl, hB⟩
              · have e1d : decide (x < -P) = true := decide_eq_true (by omega)
                have hT1 := hTk.out (by rw [hsm.out, decide_eq_false e1, Bool.false_and])
                replace hT1 := Lib.hid hT1
                replace e1 := Lib.hid e1
                go_wp2_with (fail)
                go_ret2
                rw [← hT1.out]
                exact ⟨rfl, hB⟩
            · have d2d : decide ((k : Int) < (N : Int)) = false := decide_eq_false (by omega)
              obtain rfl : k = N := by omega
              have hnx2 := hnx.out
              have hall2 := hall.out
              go_wp2_with (fail)
              go_roundg gko
              case measure => omega
              case rel =>
                refine ⟨i + 1, by simp, by omega, fun j k hj hk => ?_, by rw [hnx2]; exact hR, hX, hB⟩
                by_cases hji : j = i
                · rw [hji]; exact hal2 k hk
                · exact hall2 j k (by omega) hk
        · have d1d : decide ((i : Int) < (n0 : Int)) = false := decide_eq_false (by omega)
          obtain rfl : i = n0 := by omega
          have hcv := Kd.C_string (P := Tryz.prog) Tryz.underlying43 Tryz.underlying5 Tryz.underlying9 (c := co) (Kd.R_reads' hR).2.2
          have hd := pcm_str c b i chs
          generalize strOfNums (pcmI c b i chs) = T at hcv hd
          have hok : pOk c b chs = true := by
            have e1 := hN.out
            have e2 := hn.out
            have e3 := hn0.out
            have e4 := hq9.out
            have e5 := hfs.out
            have g2 : ¬ q9 < i := of_decide_eq_false g1
            unfold pOk
            rw [hf.out, decide_eq_true (show (chs.length : Int) = c by omega), decide_eq_true (show (row chs 0).length ≤ 4096 / fsz c b by rw [e5, e4]; omega), decide_eq_true (show (row chs (c.toNat - 1)).length = (row chs 0).length by rw [hlen.out _ (by omega), e3])]
            simp only [Bool.true_and]
            refine List.all_eq_true.2 fun xs hx => List.all_eq_true.2 fun x hx2 => ?_
            obtain ⟨k, hk, rfl⟩ := List.mem_iff_getElem.1 hx
            have hrk := row_get hk
            rw [← hrk] at hx2
            obtain ⟨j, hj, rfl⟩ := List.mem_iff_getElem.1 hx2
            have hl2 := hlen.out k (by omega)
            have := hall j k (by omega) (by omega)
            rw [rd_get hj] at this
            exact this
          have hT1 : some (pcmP c b i chs) = T0 := by rw [← hT0.out, pPut, if_pos hok, hn0.out]
          replace hT1 := Lib.hid hT1
          replace hd := Lib.hid hd
          go_wp2_with (fail)
          go_ret2
          rw [← hT1.out]
          exact ⟨T, rfl, hd.out, hB⟩
end Go.Proofs.YtiokfaiioealdaaGreatDoor
namespace Go.Proofs.YtiokfaiioealdaaGreatDoor
open Go.RowKit Go.Proofs.YtiokfaiioealdaaGreatDoorW.PrintWords Go.Proofs.YtiokfaiioealdaaGreatDoorW.PrintLast Go.Proofs.YtiokfaiioealdaaGreatDoorW.PrintMore Go.Proofs.YtiokfaiioealdaaGreatDoor.L
set_option linter.unusedVariables false
set_option linter.unusedSimpArgs false
theorem takeAll_len {s : List UInt8} : ∀ (n : Nat) (a : St × Dec) (out rs : List Int), takeAll mdot lR s n a out = some rs → rs.length = out.length + n
  | 0, a, out, rs, h => by
    rw [takeAll] at h
    cases h
    rfl
  | n + 1, a, out, rs, h => by
    rw [takeAll] at h
    split at h
    · cases h
    · have := takeAll_len n _ _ _ h
      rw [this, List.length_append, List.length_singleton]
      omega
theorem getS_exact {s : List UInt8} {many : Int} {rs : List Int} (h : getS mdot lR newM s many = some rs) : 0 ≤ many ∧ many ≤ 256 ∧ rs.length = many.toNat := by
  unfold getS at h
  split at h
  · rename_i hok
    unfold getOk at hok
    simp only [Bool.and_eq_true, decide_eq_true_eq] at hok
    refine ⟨hok.2.1, hok.2.2, ?_⟩
    split at h
    · cases h
    · rename_i hta
      split at h
      · cases h
        have := takeAll_len _ _ _ _ hta
        simpa using this
      · cases h
  · cases h
theorem line_get' (xs : List Int) (A : Option Addr) (cap : Nat) (w : World) (hC : Kd.C (Kd.int .i64) w A xs.length xs) (hc : xs.length ≤ cap) (hl : xs.length ≤ 256) :
    Calls Tryz.prog 152 #[.slice A xs.length cap] w fun e w' => ∃ v n, e = .returned (.tuple #[v, .int .i64 n]) ∧ Kd.R (Kd.int .i64) 3 w' w.heap.size (fun _ => True) v ((lineG ch0 xs).getD []) ∧ Below w.heap.size w w' := by
  refine (line_get xs A cap w hC hc hl).mono fun e w' h => ?_
  cases hg : lineG ch0 xs with
  | none => rw [hg] at h; exact ⟨_, _, h.1, Kd.R_nil _ _ _ _ _, h.2⟩
  | some ys => rw [hg] at h; obtain ⟨v, a, b, c⟩ := h; exact ⟨v, _, a, b, c⟩
theorem side_get' (chs : List (List Int)) (A : Option Addr) (cap : Nat) (w : World) (hC : Kd.C RW w A chs.length chs) (hc : chs.length ≤ cap) (hl : chs.length ≤ 8192) (hr : ∀ xs ∈ chs, xs.length ≤ 8192) :
    Calls Tryz.prog 153 #[.slice A chs.length cap] w fun e w' => ∃ v n, e = .returned (.tuple #[v, .int .i64 n]) ∧ Kd.S RW RT w' w.heap.size (fun _ => True) v ((turnS 1 chs).getD []) ∧ Below w.heap.size w w' := by
  refine (side_get chs A cap w hC hc hl hr).mono fun e w' h => ?_
  cases hg : turnS 1 chs with
  | none => rw [hg] at h; exact ⟨_, _, h.1, Kd.S_nil _ _ _ _ _, h.2⟩
  | some ys => rw [hg] at h; obtain ⟨v, a, b, c⟩ := h; exact ⟨v, _, a, b, c⟩
theorem shift_up' (xs : List Int) (A : Option Addr) (cap : Nat) (n : Int) (w : World) (hC : Kd.C (Kd.int .i64) w A xs.length xs) (hc : xs.length ≤ cap) (hl : xs.length ≤ 8192) :
    Calls Tryz.prog 154 #[.slice A xs.length cap, .int .i64 n] w fun e w' => ∃ v n', e = .returned (.tuple #[v, .int .i64 n']) ∧ Kd.R (Kd.int .i64) 3 w' w.heap.size (fun _ => True) v ((upS n xs).getD []) ∧ Below w.heap.size w w' := by
  refine (shift_up xs A cap n w hC hc hl).mono fun e w' h => ?_
  cases hg : upS n xs with
  | none => rw [hg] at h; exact ⟨_, _, h.1, Kd.R_nil _ _ _ _ _, h.2⟩
  | some ys => rw [hg] at h; obtain ⟨v, a, b, c⟩ := h; exact ⟨v, _, a, b, c⟩
/-- pcm.Put's text, whatever it answers. -/
theorem pcm_put' (chs : List (List Int)) (A : Option Addr) (cap : Nat) (c b : Int) (w : World) (hC : Kd.C RW w A chs.length chs) (hc : chs.length ≤ cap) (hf : fOk c b = true) (hn : chs = [] ∨ (chs.length : Int) = c) (hr : ∀ xs ∈ chs, xs.length ≤ 256) :
    Calls Tryz.prog 155 #[.slice A chs.length cap, .agg #[.int .i64 c, .int .i64 b]] w fun e w' => ∃ (t : ByteArray) (n : Int), e = .returned (.tuple #[.string t, .int .i64 n]) ∧ t.data.toList = (pPut c b chs).getD [] ∧ Below w.heap.size w w' := by
  refine (pcm_put chs A cap c b w hC hc hf hn hr).mono fun e w' h => ?_
  cases hg : pPut c b chs with
  | none => rw [hg] at h; exact ⟨_, _, h.1, rfl, h.2⟩
  | some ys => rw [hg] at h; obtain ⟨t, a, b, c⟩ := h; exact ⟨t, _, a, b, c⟩
theorem cut_int (A : Option Addr) (n c : Nat) (lo hi : Int) (h0 : 0 ≤ lo) (h1 : lo ≤ hi) (h2 : hi ≤ n) (hc : n ≤ c) :
    ∀ W : World, (Instr.slice 22 (.slice A n c) (some (.int .i64 lo)) (some (.int .i64 hi)) none).run Tryz.prog W = .ok (.slice (if c = lo.toNat then A else A.map (·.add (lo.toNat * 1))) (hi.toNat - lo.toNat) (c - lo.toNat)) W := by
  obtain ⟨i, hi, hz⟩ := Option.map_eq_some_iff.1 infoI
  exact cut_mid (P := Tryz.prog) 22 3 .i64 .i64 Tryz.underlying22 hi 1 (congrArg (fun z => z.2.1) hz) A n c lo _ h0 h1 h2 hc
theorem lineG_get (xs : List Int) : ((lineG ch0 xs).getD []).length ≤ xs.length := by
  cases hg : lineG ch0 xs with
  | none => exact Nat.zero_le _
  | some ys => show ys.length ≤ _; rw [(lineG_len _ _ _ hg).1]; exact Nat.le_refl _
theorem turn_get {n : Nat} {chs : List (List Int)} (h : ∀ xs ∈ chs, xs.length ≤ n) : ((turnS 1 chs).getD [] = [] ∨ ((turnS 1 chs).getD []).length = chs.length) ∧ ∀ xs ∈ (turnS 1 chs).getD [], xs.length ≤ n := by
  unfold turnS
  split
  · refine ⟨.inr (by rw [Option.getD_some, outT, List.length_map, List.length_range]), fun xs hx => ?_⟩
    rw [Option.getD_some, outT] at hx
    obtain ⟨k, hk, rfl⟩ := List.mem_map.1 hx
    have hk := List.mem_range.1 hk
    have h1 := h _ (row_mem hk)
    rw [rowT, List.length_zipWith]
    omega
  · exact ⟨.inl rfl, fun xs hx => by cases hx⟩
theorem up_get {n : Int} {m : Nat} {xs : List Int} (h : xs.length ≤ m) : ((upS n xs).getD []).length ≤ m := by
  unfold upS
  split
  · rw [Option.getD_some, ups, List.length_map]; exact h
  · exact Nat.zero_le _
def frmL (n m : Nat) (rs : List Int) : List (List Int) := (List.range n).map fun i => (lineG ch0 ((rs.drop (i * m)).take m)).getD []
theorem nat_w {q : Nat} (h : q ≤ 1000) : wrap64 (q : Int) = q := IntWalk.wrap64_in _ (by omega)
theorem frm_take {n m k : Nat} {rs : List Int} (h : k < n) : (frmL n m rs).take (k + 1) = (frmL n m rs).take k ++ [(lineG ch0 ((rs.drop (k * m)).take m)).getD []] := by
  unfold frmL
  rw [List.take_succ_eq_append_getElem (by rw [List.length_map, List.length_range]; exact h), List.getElem_map, List.getElem_range]
set_option maxHeartbeats 8000000 in
set_option maxRecDepth 100000 in
theorem seg_frames (own : ByteArray) (c b : Int) (y m : Nat) (w : World) (hf : fOk c b = true) (hy : y < 256) (hm : m ≤ 64) (ht : Tab w) :
    Calls Tryz.prog 111 #[.string own, .agg #[.int .i64 c, .int .i64 b], .int .i64 y, .int .i64 m] w fun e w' => ∃ t : ByteArray, e = .returned (.string t) ∧ t.data.toList = framesF c b own.data.toList y m ∧ Below w.heap.size w w' := by
  obtain ⟨hc12, hb816⟩ := fOk_iff.1 hf
  obtain ⟨n, rfl⟩ : ∃ n : Nat, c = n := ⟨c.toNat, by omega⟩
  have hn12 : n = 1 ∨ n = 2 := by omega
  have hmn : m * n ≤ 64 * 2 := Nat.mul_le_mul hm (by omega)
  have hw0 : wrap64 ((m : Int) * (n : Int)) = (m : Int) * (n : Int) := by
    rw [← Int.natCast_mul]
    generalize m * n = q at hmn ⊢
    exact IntWalk.wrap64_in _ (by omega)
  obtain ⟨G, hG⟩ : ∃ G, getS mdot lR newM own.data.toList ((m : Int) * (n : Int)) = G := ⟨_, rfl⟩
  obtain ⟨F, hF⟩ : ∃ F, framesF (n : Int) b own.data.toList y m = F := ⟨_, rfl⟩
  rw [hF]
  unfold framesF at hF
  rw [hG] at hF
  obtain ⟨q0, hq0⟩ : ∃ q, (m : Int) * (n : Int) = q := ⟨_, rfl⟩
  rw [hq0] at hG
  replace hw0 : wrap64 ((m : Int) * (n : Int)) = q0 := hw0.trans hq0
  replace hmn := Lib.hid hmn
  replace hc12 := Lib.hid hc12
  have ht0 := Lib.hid ht
  clear ht
  cases G with
  | none =>
    have hg := fun W (h : Tab W) => rget_no own q0 W h hG
    replace hg := Lib.hid hg
    have hF2 : F = [] := hF.symm
    replace hF2 := Lib.hid hF2
    clear hF hG
    replace hq0 := Lib.hid hq0
    go_enter Tryz.func111, Tryz.ntmps111
    go_wp2_with (fail)
    refine (hg.out _ (ht0.out.below (L.below_alloc (Below.refl w.heap.size w) _))).mono ?_
    rintro e w1 ⟨rfl, hb1⟩
    have hB1 := below_trans (L.below_alloc (Below.refl w.heap.size w) _) hb1
    go_wp2_with (fail)
    go_ret
    exact ⟨⟨#[]⟩, rfl, by rw [hF2.out], hB1⟩
  | some rs =>
    have hg := fun W (h : Tab W) => rget_yes own q0 rs W h hG
    obtain ⟨hq1, hq2, hrl⟩ := getS_exact hG
    have hrl2 : rs.length = m * n := by rw [hrl, ← hq0]; rw [← Int.natCast_mul, Int.toNat_natCast]
    obtain ⟨L1, hL1⟩ : ∃ L, frmL n m rs = L := ⟨_, rfl⟩
    have hL1n : L1.length = n := by rw [← hL1, frmL, List.length_map, List.length_range]
    have hL1r : ∀ xs ∈ L1, xs.length ≤ 64 := by
      intro xs hx
      rw [← hL1, frmL] at hx
      obtain ⟨i, -, rfl⟩ := List.mem_map.1 hx
      refine Nat.le_trans (lineG_get _) ?_
      rw [List.length_take]
      omega
    obtain ⟨L2, hL2⟩ : ∃ L, (turnS 1 L1).getD [] = L := ⟨_, rfl⟩
    obtain ⟨hL2n, hL2r⟩ := turn_get hL1r
    rw [hL2] at hL2n hL2r
    obtain ⟨L3, hL3⟩ : ∃ L, L2.map (fun xs => (upS (y : Int) xs).getD []) = L := ⟨_, rfl⟩
    have hL3n : L3.length = L2.length := by rw [← hL3, List.length_map]
    have hL3r : ∀ xs ∈ L3, xs.length ≤ 64 := by
      intro xs hx
      rw [← hL3] at hx
      obtain ⟨zs, hz, rfl⟩ := List.mem_map.1 hx
      exact up_get (hL2r _ hz)
    have hF2 : (pPut (n : Int) b L3).getD [] = F := by
      rw [← hF, ← hL3, ← hL2, ← hL1]; rfl
    clear hF hG hrl
    replace hg := Lib.hid hg
    replace hq0 := Lib.hid hq0
    replace hL1n := Lib.hid hL1n
    replace hL1r := Lib.hid hL1r
    replace hL2n := Lib.hid hL2n
    replace hL2r := Lib.hid hL2r
    replace hL3n := Lib.hid hL3n
    replace hL3r := Lib.hid hL3r
    replace hL1 := Lib.hid hL1
    replace hrl2 := Lib.hid hrl2
    clear hq1 hq2
    replace hL2 := Lib.hid hL2
    replace hL3 := Lib.hid hL3
    replace hF2 := Lib.hid hF2
    go_enter Tryz.func111, Tryz.ntmps111
    go_wp2_with (fail)
    have hX0 := L.BC.new w [.int .i64 (n : Int), .int .i64 b] 39
    have hBa := L.below_alloc (Below.refl w.heap.size w) (.cells #[.int .i64 (n : Int), .int .i64 b] 39)
    refine (hg.out _ (ht0.out.below hBa)).mono ?_
    rintro e w1 ⟨v1, rfl, hR1, hb1⟩
    have hX1 := L.BC.below hX0 hb1
    have hB1 := below_trans hBa hb1
    clear hX0 hBa hb1 hg
    obtain ⟨A1, k1, ev⟩ := Kd.R_slice hR1
    subst ev
    have hCr := (Kd.R_reads' hR1).2.2
    have hkr := (Kd.R_reads' hR1).2.1
    clear hR1
    have x0 := L.BC.at_ hX1 (o := 0) rfl
    have hg0 : w.heap.size < w1.heap.size := hX1.lt
    go_wp2_with (fail)
    have hS0 : Kd.S RW RT w1 w1.heap.size (fun _ => True) (.slice none 0 0) (L1.take 0) := Kd.S_nil _ _ _ _ _
    have hCr0 := Lib.hid hCr
    have hX10 := Lib.hid hX1
    have hB10 := Lib.hid hB1
    clear x0 hCr hX1 hB1
    go_loopg [11, 31] n (fun kq v11 v31 W => ∃ (k : Nat), v31 = .int .i64 (k : Int) ∧ k + kq = n ∧ Kd.S RW RT W w1.heap.size (fun _ => True) v11 (L1.take k) ∧ Below w1.heap.size w1 W)
    case atStart => exact ⟨0, by simp, by omega, hS0, Below.refl _ _⟩
    case round =>
      clear hS0
      obtain ⟨k, rfl, hk, hS, hb⟩ := hrel
      obtain ⟨Ao, co, ev⟩ := Kd.S_slice hS
      subst ev
      by_cases d1 : k < n
      · obtain ⟨gk1, rfl⟩ : ∃ j, gk = j + 1 := ⟨gk - 1, by omega⟩
        have d1d : decide ((k : Int) < (n : Int)) = true := decide_eq_true (by omega)
        have hlo : k * m + m ≤ rs.length := by
          rw [hrl2.out, ← Nat.succ_mul, Nat.mul_comm m n]
          exact Nat.mul_le_mul_right _ (by omega)
        have hk64 : k * m ≤ 1 * 64 := Nat.mul_le_mul (by omega) hm
        have hsm : (k + 1) * m = k * m + m := Nat.succ_mul k m
        have hrow : ((rs.take (k * m + m)).drop (k * m)) = (rs.drop (k * m)).take m := by rw [List.drop_take, Nat.add_sub_cancel_left]
        have hrlen : ((rs.drop (k * m)).take m).length = m := by rw [List.length_take, List.length_drop]; omega
        have hCm := Kd.C_mid (Kd.C_below hCr0.out hb) (lo := k * m) (hi := k * m + m) (c := k1) (by omega) hlo (by have := hkr; omega)
        rw [hrow, hrlen, show (Kd.int .i64).sz = 1 from rfl, Nat.mul_one] at hCm
        have hnx : L1.take (k + 1) = L1.take k ++ [(lineG ch0 ((rs.drop (k * m)).take m)).getD []] := by
          have := frm_take (m := m) (rs := rs) d1
          rw [hL1.out] at this
          exact this
        obtain ⟨row1, hrw⟩ : ∃ r, (rs.drop (k * m)).take m = r := ⟨_, rfl⟩
        rw [hrw] at hCm hnx hrlen
        have e1 : (k : Int) * (m : Int) = ((k * m : Nat) : Int) := (Int.natCast_mul k m).symm
        have e2 : ((k : Int) + 1) * (m : Int) = ((k * m + m : Nat) : Int) := by rw [← hsm, Int.natCast_mul, Int.natCast_succ]
        obtain ⟨lo, hlo1⟩ : ∃ q, k * m = q := ⟨_, rfl⟩
        rw [hlo1] at hCm hlo hk64 e1 e2
        have hw1 : wrap64 ((k : Int) * (m : Int)) = (lo : Int) := by rw [e1]; exact nat_w (Nat.le_trans hk64 (by decide))
        have hw2 : wrap64 (((k : Int) + 1) * (m : Int)) = ((lo + m : Nat) : Int) := by rw [e2]; exact nat_w (Nat.le_trans (Nat.add_le_add hk64 hm) (by decide))
        obtain ⟨hi1, hhi⟩ : ∃ q, lo + m = q := ⟨_, rfl⟩
        rw [hhi] at hw2 hlo
        have hw10 := Lib.hid hw1
        have hw20 := Lib.hid hw2
        have hw00 := Lib.hid hw0
        clear e1 e2 hsm hrow hw1 hw2 hw0
        have hcut := cut_int A1 rs.length k1 (lo : Int) (hi1 : Int) (by omega) (by omega) (by omega) hkr
        rw [Int.toNat_natCast, Int.toNat_natCast, Nat.mul_one, show hi1 - lo = m by omega] at hcut
        generalize (if k1 = lo then A1 else A1.map (·.add lo)) = A9 at hCm hcut
        have hlg := line_get' row1 A9 (k1 - lo) wr (by rw [hrlen]; exact hCm) (by omega) (by omega)
        rw [hrlen] at hlg
        obtain ⟨Y, hY⟩ : ∃ Y, (lineG ch0 row1).getD [] = Y := ⟨_, rfl⟩
        rw [hY] at hlg hnx
        obtain ⟨out, hout⟩ : ∃ o, L1.take k = o := ⟨_, rfl⟩
        rw [hout] at hS hnx ⊢
        have hol : out.length = k := by rw [← hout, List.length_take, hL1n.out]; omega
        replace hol := Lib.hid hol
        replace hlg := Lib.hid hlg
        replace hnx := Lib.hid hnx
        replace hout := Lib.hid hout
        replace hY := Lib.hid hY
        replace hhi := Lib.hid hhi
        replace hlo1 := Lib.hid hlo1
        clear hCm hrlen hlo hk64
        have hw1 := hw10.out
        have hw2 := hw20.out
        go_wp2_with (fail)
        refine hlg.out.mono ?_
        rintro e w4 ⟨v4, n4, rfl, hR4, hb4⟩
        clear hlg hcut hw1 hw2
        obtain ⟨A4, c4, ev⟩ := Kd.R_slice hR4
        subst ev
        obtain ⟨bw, hbw⟩ : ∃ b, wr.heap.size = b := ⟨_, rfl⟩
        have HO : Kd.S RW RT w4 w1.heap.size (fun k => True ∧ ¬ bw ≤ k) (.slice Ao out.length co) out := Kd.S_mono (rows_old hS hb4) (fun k h => ⟨trivial, by rw [hbw] at h; omega⟩)
        have HB := below_next hb hb4
        have HP : RW.M w4 w1.heap.size (fun k => bw ≤ k) Y [.slice A4 Y.length c4] := ⟨_, rfl, Kd.R_lower (Kd.R_mono (Kd.R_bound hR4) (fun k h => by rw [← hbw]; exact h.2.1)) hb.size⟩
        have HK : ∀ k, bw ≤ k → True ∧ some k ≠ (Value.slice Ao out.length co).ownBlock := fun k h => ⟨trivial, fun e => by have := Kd.S_lt hS k e.symm; omega⟩
        have hol8 : (out.length + 1) * 24 ≤ 140737488355328 := by rw [hol.out]; omega
        replace hol8 := Lib.hid hol8
        replace HO := Lib.hid HO
        replace HB := Lib.hid HB
        replace HP := Lib.hid HP
        replace HK := Lib.hid HK
        replace hbw := Lib.hid hbw
        clear hS hb hR4 hb4
        go_wp2_with ((with_reducible refine gate_builtin (b := .append) (xs := #[.tmp 47, .tmp 49]) rfl ?_); at_builtin; refine Kd.S_append RW (w0 := w1) w1.heap.size rfl (.tmp 47) (.tmp 49) 54 22 (.slice none 0 0) 24 rfl Tryz.underlying54 infoR rfl (by decide) (by omega) (.slice Ao out.length co) out Y [.slice A4 Y.length c4] (fun _ => True) (fun k => bw ≤ k) rfl ((Eq.refl (Value.slice (some ⟨w4.heap.size, 0, none⟩) 1 1)).trans (by go_simp)) ?aP ?aK ?aF ?aO ?aB ?aS ?aL ?_; (case aP => exact HP.out); (case aK => exact HK.out); (case aF => exact (fun _ _ => trivial)); (case aO => exact HO.out); (case aB => exact HB.out); (case aS => exact HB.out.size); (case aL => exact hol8.out); intro v50 w5 hS5 hB5 hg5 hat5; clear hg5 hat5)
        go_roundg gk1
        case measure => omega
        case rel => exact ⟨k + 1, by simp, by omega, by rw [hnx.out]; exact hS5, hB5⟩
      · have d1d : decide ((k : Int) < (n : Int)) = false := decide_eq_false (by omega)
        obtain rfl : k = n := by omega
        rw [List.take_of_length_le (by rw [hL1n.out]; exact Nat.le_refl _)] at hS
        rw [List.take_of_length_le (by rw [hL1n.out]; exact Nat.le_refl _)]
        have hsg := side_get' L1 Ao co wr (Kd.S_reads' hS).2.2 (Kd.S_reads' hS).2.1 (by rw [hL1n.out]; omega) (fun xs hx => Nat.le_trans (hL1r.out xs hx) (by decide))
        rw [hL2.out] at hsg
        replace hsg := Lib.hid hsg
        clear hS
        have hbsz := Lib.hid hb.size
        go_wp2_with (fail)
        refine hsg.out.mono ?_
        rintro e w3 ⟨v3, n3, rfl, hS3, hb3⟩
        clear hsg
        have hb3' := below_next hb hb3
        have hB3 := below_trans hB10.out hb3'
        have hX3 := L.BC.below hX10.out hb3'
        clear hb hb3 hb3'
        obtain ⟨A3, c3, ev⟩ := Kd.S_slice hS3
        subst ev
        obtain ⟨z, hz⟩ : ∃ z, L2.length = z := ⟨_, rfl⟩
        have hz2 : z ≤ 2 := by
          rcases hL2n.out with h | h
          · rw [← hz, h]; exact Nat.zero_le _
          · rw [← hz, h, hL1n.out]; omega
        have hL3z : L3.length = z := hL3n.out.trans hz
        have hS30 : Kd.S RW RT w3 wr.heap.size (fun _ => True) (.slice A3 z c3) (L3.take 0 ++ L2.drop 0) := by rw [← hz]; exact hS3
        rw [hz]
        clear hS3
        replace hz := Lib.hid hz
        replace hL3z := Lib.hid hL3z
        obtain ⟨b0, hb0⟩ : ∃ b, wr.heap.size = b := ⟨_, rfl⟩
        rw [hb0] at hS30
        have hb1 : w1.heap.size ≤ b0 := by rw [← hb0]; exact hbsz.out
        replace hb0 := Lib.hid hb0
        go_wp2_with (fail)
        go_loopg [59] z (fun kq v59 W => ∃ (j : Nat), v59 = .int .i64 (j : Int) ∧ j + kq = z ∧ Kd.S RW RT W b0 (fun _ => True) (.slice A3 z c3) (L3.take j ++ L2.drop j) ∧ L.BC W w.heap.size 39 [.int .i64 (k : Int), .int .i64 b] ∧ Below w.heap.size w W)
        case atStart => exact ⟨0, by simp, by omega, hS30, hX3, hB3⟩
        case round =>
          clear hS30 hX3 hB3
          obtain ⟨j, rfl, hj, hS, hX, hB⟩ := hrel
          by_cases d2 : j < z
          · obtain ⟨gk2, rfl⟩ : ∃ j, gk = j + 1 := ⟨gk - 1, by omega⟩
            have d2d : decide ((j : Int) < (z : Int)) = true := decide_eq_true (by omega)
            have hL : (L3.take j ++ L2.drop j).length = z := by rw [List.length_append, List.length_take, List.length_drop, hL3z.out, hz.out]; omega
            have hCW := (Kd.S_reads' hS).2.2
            obtain ⟨ad, Aj, kj, eadj, hxj, hkj, hCj⟩ := rows_at hCW j (by rw [hL]; exact d2)
            rw [row_next (by rw [hL3z.out]; omega)] at hxj hkj hCj
            have hmem : row L2 j ∈ L2 := row_mem (by rw [hz.out]; exact d2)
            obtain ⟨g, cc, eg, hbg, hgs, -⟩ := Kd.S_form hS (by rw [hL]; omega)
            rw [hL] at eg
            cases eg
            cases eadj
            have p3 := eq_true (show (0 : Int) ≤ (j : Int) by omega)
            have q3 := eq_true (show (j : Int) < (z : Int) by omega)
            have hup := shift_up' (row L2 j) Aj kj (y : Int) wr hCj hkj (Nat.le_trans (hL2r.out _ hmem) (by decide))
            have hrY : (upS (y : Int) (row L2 j)).getD [] = row L3 j := by
              have := hL3.out
              subst this
              rw [row_get (by rw [hz.out]; exact d2), row_get (by rw [List.length_map, hz.out]; exact d2), List.getElem_map]
            rw [hrY] at hup
            rw [add_at, Nat.zero_add] at hxj
            have hset := set_rows (hL3z.out.trans hz.out.symm) (show j < L2.length by rw [hz.out]; exact d2)
            generalize row L2 j = xs at hxj hup
            replace hup := Lib.hid hup
            replace hset := Lib.hid hset
            replace hrY := Lib.hid hrY
            clear hmem hCj hCW hL hkj
            go_wp2_with (fail)
            refine hup.out.mono ?_
            rintro e w5 ⟨v5, n5, rfl, hR5, hb5⟩
            clear hup hxj
            obtain ⟨Av, cv, ev⟩ := Kd.R_slice hR5
            subst ev
            have hSo := rows_old hS hb5
            obtain ⟨oki, cx, hcl, -, hcx, hfx, -⟩ := Kd.S_elem hSo [] (j : Int) (by omega) (by omega)
            rw [Int.toNat_natCast] at hcx hfx
            have hfk := hfx 0
            rw [show RW.sz = 1 from rfl, Nat.mul_one, Nat.add_zero] at hfk
            obtain ⟨u0, hu0⟩ : ∃ u, w5.cell? ⟨g, j, none⟩ = some u := by
              match cx, hcl with
              | [x], _ => exact ⟨x, by have := hcx 0 x rfl; rwa [show RW.sz = 1 from rfl, Nat.mul_one, Nat.add_zero] at this⟩
            obtain ⟨hS6, hg6⟩ := rows_put hSo j (by omega) hR5 (Nat.le_of_lt (Nat.lt_of_le_of_lt hbg hgs)) hgs
            rw [hset.out] at hS6
            have hwg : w.heap.size < g := Nat.lt_of_lt_of_le hg0 (Nat.le_trans hb1 hbg)
            have hB6 := (below_trans hB hb5).setCell (p := ⟨g, j, none⟩) (Nat.le_of_lt hwg) (.slice Av (row L3 j).length cv)
            have hX6 := L.BC.far (p := ⟨g, j, none⟩) (L.BC.below hX hb5) (Nat.ne_of_gt hwg) (.slice Av (row L3 j).length cv)
            clear hfx hcx hSo hb5 hB hR5 hS hX hg6
            go_wp2_with (fail)
            go_roundg gk2
            case measure => omega
            case rel => exact ⟨j + 1, by simp, by omega, hS6, hX6, hB6⟩
          · have d2d : decide ((j : Int) < (z : Int)) = false := decide_eq_false (by omega)
            obtain rfl : j = z := by omega
            rw [List.take_of_length_le (by rw [hL3z.out]; exact Nat.le_refl _), List.drop_of_length_le (by rw [hz.out]; exact Nat.le_refl _), List.append_nil] at hS
            obtain ⟨-, hcP, hCP⟩ := Kd.S_reads' hS
            have hpp := pcm_put' L3 A3 c3 (k : Int) b wr hCP (by rw [hL3z.out]; exact hcP) hf (by
              rcases hL2n.out with h | h
              · left
                have := hL3z.out
                have h2 := hz.out
                rw [h] at h2
                exact List.eq_nil_of_length_eq_zero (by rw [this, ← h2]; rfl)
              · right
                have h2 := hz.out
                rw [hL3z.out, ← h2, h, hL1n.out]) (fun xs hx => Nat.le_trans (hL3r.out xs hx) (by decide))
            rw [hF2.out, hL3z.out] at hpp
            have x0 := L.BC.at_ hX (o := 0) rfl
            have x1 := L.BC.at_ hX (o := 1) rfl
            replace hpp := Lib.hid hpp
            clear hCP hS hX
            go_wp2_with (fail)
            refine hpp.out.mono ?_
            rintro e w7 ⟨t, n7, rfl, htd, hb7⟩
            have hB7 := below_trans hB hb7
            go_wp2_with (fail)
            go_ret
            exact ⟨t, rfl, htd, hB7⟩
end Go.Proofs.YtiokfaiioealdaaGreatDoor
