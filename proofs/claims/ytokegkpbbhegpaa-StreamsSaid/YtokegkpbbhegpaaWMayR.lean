/- The document's StreamMay: mayOk. -/
import Derived.Test.YtokegkpbbhegpaaPTx1
import Derived.Test.YtokegkpbbhegpaaPAwk
import Derived.Test.YtokegkpbbhegpaaBlkS
namespace Go.Proofs.Ytokegkpbbhegpaa.PT
open Go.RowKit Go.Proofs.YtokegkpbbhegpaaW.PrintWords Go.Proofs.YtokegkpbbhegpaaW.PrintLast Go.Proofs.YtokegkpbbhegpaaW.PrintMore Go.Proofs.Ytokegkpbbhegpaa.L
set_option linter.unusedVariables false
set_option linter.unusedSimpArgs false

theorem fm_eq (c b : Int) : descantref13_FormatMay.f c b = some (decide ((c = 1 ∨ c = 2) ∧ (b = 8 ∨ b = 16))) := by
  unfold descantref13_FormatMay.f descantref13_upTo.f
  by_cases h1 : c ≥ 1 <;> by_cases h2 : c ≤ 2 <;> by_cases h3 : b = 8 <;> by_cases h4 : b = 16 <;> simp [h1, h2, h3, h4] <;> omega
theorem up_eq (x l m : Int) : descantref13_upTo.f x l m = some (decide (l ≤ x ∧ x ≤ m)) := by
  unfold descantref13_upTo.f
  by_cases h1 : x ≥ l <;> by_cases h2 : x ≤ m <;> simp [h1, h2]
set_option maxHeartbeats 8000000 in
set_option maxRecDepth 100000 in
theorem mayr_at (c b s f : Int) (h t : ByteArray) (l : List ByteArray) (A : Option Addr) (m : Nat) (w : World) (hr : Kd.C Kd.string w A l.length l) (hc : l.length ≤ m) (hn : l.length < 281474976710656)
    (p1 p2 p3 p4 p5 p6 : Bool) (M : Int) (h1 : Hid (descantref13_FormatMay.f c b = some p1)) (h2 : Hid (descantref13_upTo.f s 1 64 = some p2)) (h3 : Hid (descantref13_upTo.f f 0 4096 = some p3)) (d4 : decide (4096 < (h.size : Int)) = !p4) (d5 : decide (4096 < (t.size : Int)) = !p5) (h6 : Hid ((p1 && p2 && p3) = true → descantref13_Many.f f s = some M)) (d6 : ((l.length : Int) != M) = !p6) :
    Calls Try.prog 27 #[.agg #[.int .i64 c, .int .i64 b, .int .i64 s, .int .i64 f, .string h, .string t, .slice A l.length m]] w fun e w' => e = .returned (.bool ((p1 && p2 && p3 && p4 && p5 && p6) && l.all (fun x => sizeOk x.size))) ∧ Below w.heap.size w w' := by
  have hu := Try.underlying23
  have hI := L.BC.drew (L.BC.new w [.int .i64 c, .int .i64 b, .int .i64 s, .int .i64 f, .string h, .string t, .slice A l.length m] 26)
  have hB := L.below_drew (L.below_alloc (Below.refl w.heap.size w) (.cells #[.int .i64 c, .int .i64 b, .int .i64 s, .int .i64 f, .string h, .string t, .slice A l.length m] 26))
  have hcase : p1 = false ∨ (p1 = true ∧ p2 = false) ∨ (p1 = true ∧ p2 = true ∧ p3 = false) ∨ (p1 = true ∧ p2 = true ∧ p3 = true ∧ p4 = false) ∨ (p1 = true ∧ p2 = true ∧ p3 = true ∧ p4 = true ∧ p5 = false) ∨ (p1 = true ∧ p2 = true ∧ p3 = true ∧ p4 = true ∧ p5 = true ∧ p6 = false) ∨ (p1 = true ∧ p2 = true ∧ p3 = true ∧ p4 = true ∧ p5 = true ∧ p6 = true) := by
    cases p1 <;> cases p2 <;> cases p3 <;> cases p4 <;> cases p5 <;> cases p6 <;> simp
  rcases hcase with rfl | ⟨rfl, rfl⟩ | ⟨rfl, rfl, rfl⟩ | ⟨rfl, rfl, rfl, rfl⟩ | ⟨rfl, rfl, rfl, rfl, rfl⟩ | ⟨rfl, rfl, rfl, rfl, rfl, rfl⟩ | ⟨rfl, rfl, rfl, rfl, rfl, rfl⟩
  all_goals
    first
    | replace h6 := Lib.hid (h6.out rfl)
    | clear h6
    go_enter Try.func27, Try.ntmps27
    go_wp2
    refine start_ (n := 39) (S := fun w' => L.BC w' w.heap.size 26 [.int .i64 c, .int .i64 b, .int .i64 s, .int .i64 f, .string h, .string t, .slice A l.length m]) (ds := []) (L.B 39 0) (by kernel_rfl) rfl (by kernel_rfl) hI (fun hHeld => ?_)
    generalize (w.alloc (.cells #[.int .i64 c, .int .i64 b, .int .i64 s, .int .i64 f, .string h, .string t, .slice A l.length m] 26)).drew = wd at hI hB hHeld ⊢
    refine pure_ (i := 0) (N := (some 4)) (v := ?_) (a' := ?_) (L.B 39 1) rfl rfl (by kernel_rfl) (fun _ _ _ h => h) (Or.inl ⟨by rfl, ?_⟩) ?_ ?_
    rotate_left
    · intro w'
      go_simp
      with_reducible rfl
    rotate_left
    · simp only [Act.put, List.setIfInBounds_toArray, List.set_cons_zero, List.set_cons_succ, i64_w, i32_w]
      rfl
    refine take_ (i := 1) (N := (some 5)) (v := ?_) (a' := ?_) (L.B 39 3) rfl rfl (by kernel_rfl) (fun _ _ _ h => h) (Or.inl ⟨by rfl, ?_⟩) hHeld ?_ ?_
    rotate_left
    · intro w' hS
      have s0 := L.BC.at_ hS (o := 0) rfl
      have s1 := L.BC.at_ hS (o := 1) rfl
      go_simp
      with_reducible rfl
    rotate_left
    · simp only [Act.put, List.setIfInBounds_toArray, List.set_cons_zero, List.set_cons_succ, i64_w, i32_w]
      rfl
    refine one_ (i := 2) (N := (some 6)) (L.B 39 7) rfl rfl (by kernel_rfl) (by decide) (fun K hK => ?_)
    refine goes_ Try.func43 (by kernel_rfl) rfl #[.agg #[.int .i64 c, .int .i64 b]] (by rfl) rfl rfl (by (try simp only [List.map_toArray, List.map_cons, List.map_nil]); first | done | rfl) ?_
    refine (descantref13_FormatMay.calls c b _ _ h1.out).mono ?_
    rintro e w1 ⟨rfl, hb⟩
    refine ⟨_, rfl, ?_⟩
    replace hI := L.BC.below hI hb
    replace hB := below_next hB hb
    clear hb
    refine hK.out _ _ hI (fun hHeld => ?_)
    clear hK K
    refine norm_ (a' := ?_) ?_ ?_
    rotate_left
    · show Act.put _ (some 6) _ = _
      simp only [Act.put, List.setIfInBounds_toArray, List.set_cons_zero, List.set_cons_succ, i64_w, i32_w]
      rfl
    refine pure_ (i := 3) (N := (some 7)) (v := ?_) (a' := ?_) (L.B 39 15) rfl rfl (by kernel_rfl) (fun _ _ _ h => h) (Or.inl ⟨by rfl, ?_⟩) ?_ ?_
    rotate_left
    · intro w'
      go_simp
      with_reducible rfl
    rotate_left
    · simp only [Act.put, List.setIfInBounds_toArray, List.set_cons_zero, List.set_cons_succ, i64_w, i32_w]
      rfl
    refine pure_ (i := 4) (N := (some 8)) (v := ?_) (a' := ?_) (L.B 39 31) rfl rfl (by kernel_rfl) (fun _ _ _ h => h) (Or.inl ⟨by rfl, ?_⟩) ?_ ?_
    rotate_left
    · intro w'
      go_simp
      with_reducible rfl
    rotate_left
    · simp only [Act.put, List.setIfInBounds_toArray, List.set_cons_zero, List.set_cons_succ, i64_w, i32_w]
      rfl
    first
    | (refine pure_ (i := 5) (N := (some 9)) (v := ?_) (a' := ?_) (L.B 39 63) rfl rfl (by kernel_rfl) (fun _ _ _ h => h) (Or.inl ⟨by rfl, ?_⟩) ?_ ?_
       rotate_left
       · intro w'
         go_simp
         with_reducible rfl
       rotate_left
       · simp only [Act.put, List.setIfInBounds_toArray, List.set_cons_zero, List.set_cons_succ, i64_w, i32_w]
         rfl)
    | (refine pure_ (i := 5) (N := (some 9)) (v := undef) (a' := ?_) (L.B 39 63) rfl rfl (by kernel_rfl) (fun _ _ _ h => h) (Or.inr ⟨by rfl, rfl⟩) ?_ ?_
       rotate_left
       · simp only [Act.put, List.setIfInBounds_toArray, List.set_cons_zero, List.set_cons_succ, i64_w, i32_w]
         rfl)
    first
    | (refine take_ (i := 6) (N := (some 10)) (v := ?_) (a' := ?_) (L.B 39 127) rfl rfl (by kernel_rfl) (fun _ _ _ h => h) (Or.inl ⟨by rfl, ?_⟩) hHeld ?_ ?_
       rotate_left
       · intro w' hS
         have s2 := L.BC.at_ hS (o := 2) rfl
         go_simp
         with_reducible rfl
       rotate_left
       · simp only [Act.put, List.setIfInBounds_toArray, List.set_cons_zero, List.set_cons_succ, i64_w, i32_w]
         rfl)
    | (refine pure_ (i := 6) (N := (some 10)) (v := undef) (a' := ?_) (L.B 39 127) rfl rfl (by kernel_rfl) (fun _ _ _ h => h) (Or.inr ⟨by rfl, rfl⟩) ?_ ?_
       rotate_left
       · simp only [Act.put, List.setIfInBounds_toArray, List.set_cons_zero, List.set_cons_succ, i64_w, i32_w]
         rfl)
    first
    | (refine one_ (i := 7) (N := some 11) (L.B 39 255) rfl rfl (by kernel_rfl) (by decide) (fun K hK => ?_)
       refine goes_ Try.func44 (by kernel_rfl) rfl #[.int .i64 s, .int .i64 1, .int .i64 64] (by rfl) rfl rfl (by (try simp only [List.map_toArray, List.map_cons, List.map_nil]); first | done | rfl) ?_
       refine (descantref13_upTo.calls s 1 64 _ _ h2.out).mono ?_
       rintro e w2 ⟨rfl, hd⟩
       refine ⟨_, rfl, ?_⟩
       replace hI := L.BC.below hI hd.below
       replace hB := below_next hB hd.below
       clear hd
       refine hK.out _ _ hI (fun hHeld => ?_)
       clear hK K
       refine norm_ (a' := ?_) ?_ ?_
       rotate_left
       · show Act.put _ (some 11) _ = _
         simp only [Act.put, List.setIfInBounds_toArray, List.set_cons_zero, List.set_cons_succ, i64_w, i32_w]
         rfl)
    | (refine pure_ (i := 7) (N := some 11) (v := undef) (a' := ?_) (L.B 39 255) rfl rfl (by kernel_rfl) (fun _ _ _ h => h) (Or.inr ⟨by rfl, rfl⟩) ?_ ?_
       rotate_left
       · simp only [Act.put, List.setIfInBounds_toArray, List.set_cons_zero, List.set_cons_succ, i64_w, i32_w]
         rfl)
    first
    | (refine pure_ (i := 8) (N := (some 12)) (v := ?_) (a' := ?_) (L.B 39 511) rfl rfl (by kernel_rfl) (fun _ _ _ h => h) (Or.inl ⟨by rfl, ?_⟩) ?_ ?_
       rotate_left
       · intro w'
         go_simp
         with_reducible rfl
       rotate_left
       · simp only [Act.put, List.setIfInBounds_toArray, List.set_cons_zero, List.set_cons_succ, i64_w, i32_w]
         rfl)
    | (refine pure_ (i := 8) (N := (some 12)) (v := undef) (a' := ?_) (L.B 39 511) rfl rfl (by kernel_rfl) (fun _ _ _ h => h) (Or.inr ⟨by rfl, rfl⟩) ?_ ?_
       rotate_left
       · simp only [Act.put, List.setIfInBounds_toArray, List.set_cons_zero, List.set_cons_succ, i64_w, i32_w]
         rfl)
    first
    | (refine pure_ (i := 9) (N := (some 13)) (v := ?_) (a' := ?_) (L.B 39 1023) rfl rfl (by kernel_rfl) (fun _ _ _ h => h) (Or.inl ⟨by rfl, ?_⟩) ?_ ?_
       rotate_left
       · intro w'
         go_simp
         with_reducible rfl
       rotate_left
       · simp only [Act.put, List.setIfInBounds_toArray, List.set_cons_zero, List.set_cons_succ, i64_w, i32_w]
         rfl)
    | (refine pure_ (i := 9) (N := (some 13)) (v := undef) (a' := ?_) (L.B 39 1023) rfl rfl (by kernel_rfl) (fun _ _ _ h => h) (Or.inr ⟨by rfl, rfl⟩) ?_ ?_
       rotate_left
       · simp only [Act.put, List.setIfInBounds_toArray, List.set_cons_zero, List.set_cons_succ, i64_w, i32_w]
         rfl)
    first
    | (refine pure_ (i := 10) (N := (some 14)) (v := ?_) (a' := ?_) (L.B 39 2047) rfl rfl (by kernel_rfl) (fun _ _ _ h => h) (Or.inl ⟨by rfl, ?_⟩) ?_ ?_
       rotate_left
       · intro w'
         go_simp
         with_reducible rfl
       rotate_left
       · simp only [Act.put, List.setIfInBounds_toArray, List.set_cons_zero, List.set_cons_succ, i64_w, i32_w]
         rfl)
    | (refine pure_ (i := 10) (N := (some 14)) (v := undef) (a' := ?_) (L.B 39 2047) rfl rfl (by kernel_rfl) (fun _ _ _ h => h) (Or.inr ⟨by rfl, rfl⟩) ?_ ?_
       rotate_left
       · simp only [Act.put, List.setIfInBounds_toArray, List.set_cons_zero, List.set_cons_succ, i64_w, i32_w]
         rfl)
    first
    | (refine pure_ (i := 11) (N := (some 15)) (v := ?_) (a' := ?_) (L.B 39 4095) rfl rfl (by kernel_rfl) (fun _ _ _ h => h) (Or.inl ⟨by rfl, ?_⟩) ?_ ?_
       rotate_left
       · intro w'
         go_simp
         with_reducible rfl
       rotate_left
       · simp only [Act.put, List.setIfInBounds_toArray, List.set_cons_zero, List.set_cons_succ, i64_w, i32_w]
         rfl)
    | (refine pure_ (i := 11) (N := (some 15)) (v := undef) (a' := ?_) (L.B 39 4095) rfl rfl (by kernel_rfl) (fun _ _ _ h => h) (Or.inr ⟨by rfl, rfl⟩) ?_ ?_
       rotate_left
       · simp only [Act.put, List.setIfInBounds_toArray, List.set_cons_zero, List.set_cons_succ, i64_w, i32_w]
         rfl)
    first
    | (refine take_ (i := 12) (N := (some 16)) (v := ?_) (a' := ?_) (L.B 39 8191) rfl rfl (by kernel_rfl) (fun _ _ _ h => h) (Or.inl ⟨by rfl, ?_⟩) hHeld ?_ ?_
       rotate_left
       · intro w' hS
         have s3 := L.BC.at_ hS (o := 3) rfl
         go_simp
         with_reducible rfl
       rotate_left
       · simp only [Act.put, List.setIfInBounds_toArray, List.set_cons_zero, List.set_cons_succ, i64_w, i32_w]
         rfl)
    | (refine pure_ (i := 12) (N := (some 16)) (v := undef) (a' := ?_) (L.B 39 8191) rfl rfl (by kernel_rfl) (fun _ _ _ h => h) (Or.inr ⟨by rfl, rfl⟩) ?_ ?_
       rotate_left
       · simp only [Act.put, List.setIfInBounds_toArray, List.set_cons_zero, List.set_cons_succ, i64_w, i32_w]
         rfl)
    first
    | (refine one_ (i := 13) (N := some 17) (L.B 39 16383) rfl rfl (by kernel_rfl) (by decide) (fun K hK => ?_)
       refine goes_ Try.func44 (by kernel_rfl) rfl #[.int .i64 f, .int .i64 0, .int .i64 4096] (by rfl) rfl rfl (by (try simp only [List.map_toArray, List.map_cons, List.map_nil]); first | done | rfl) ?_
       refine (descantref13_upTo.calls f 0 4096 _ _ h3.out).mono ?_
       rintro e w3 ⟨rfl, hd⟩
       refine ⟨_, rfl, ?_⟩
       replace hI := L.BC.below hI hd.below
       replace hB := below_next hB hd.below
       clear hd
       refine hK.out _ _ hI (fun hHeld => ?_)
       clear hK K
       refine norm_ (a' := ?_) ?_ ?_
       rotate_left
       · show Act.put _ (some 17) _ = _
         simp only [Act.put, List.setIfInBounds_toArray, List.set_cons_zero, List.set_cons_succ, i64_w, i32_w]
         rfl)
    | (refine pure_ (i := 13) (N := some 17) (v := undef) (a' := ?_) (L.B 39 16383) rfl rfl (by kernel_rfl) (fun _ _ _ h => h) (Or.inr ⟨by rfl, rfl⟩) ?_ ?_
       rotate_left
       · simp only [Act.put, List.setIfInBounds_toArray, List.set_cons_zero, List.set_cons_succ, i64_w, i32_w]
         rfl)
    first
    | (refine pure_ (i := 14) (N := (some 18)) (v := ?_) (a' := ?_) (L.B 39 32767) rfl rfl (by kernel_rfl) (fun _ _ _ h => h) (Or.inl ⟨by rfl, ?_⟩) ?_ ?_
       rotate_left
       · intro w'
         go_simp
         with_reducible rfl
       rotate_left
       · simp only [Act.put, List.setIfInBounds_toArray, List.set_cons_zero, List.set_cons_succ, i64_w, i32_w]
         rfl)
    | (refine pure_ (i := 14) (N := (some 18)) (v := undef) (a' := ?_) (L.B 39 32767) rfl rfl (by kernel_rfl) (fun _ _ _ h => h) (Or.inr ⟨by rfl, rfl⟩) ?_ ?_
       rotate_left
       · simp only [Act.put, List.setIfInBounds_toArray, List.set_cons_zero, List.set_cons_succ, i64_w, i32_w]
         rfl)
    first
    | (refine pure_ (i := 15) (N := (some 19)) (v := ?_) (a' := ?_) (L.B 39 65535) rfl rfl (by kernel_rfl) (fun _ _ _ h => h) (Or.inl ⟨by rfl, ?_⟩) ?_ ?_
       rotate_left
       · intro w'
         go_simp
         with_reducible rfl
       rotate_left
       · simp only [Act.put, List.setIfInBounds_toArray, List.set_cons_zero, List.set_cons_succ, i64_w, i32_w]
         rfl)
    | (refine pure_ (i := 15) (N := (some 19)) (v := undef) (a' := ?_) (L.B 39 65535) rfl rfl (by kernel_rfl) (fun _ _ _ h => h) (Or.inr ⟨by rfl, rfl⟩) ?_ ?_
       rotate_left
       · simp only [Act.put, List.setIfInBounds_toArray, List.set_cons_zero, List.set_cons_succ, i64_w, i32_w]
         rfl)
    first
    | (refine pure_ (i := 16) (N := (some 20)) (v := ?_) (a' := ?_) (L.B 39 131071) rfl rfl (by kernel_rfl) (fun _ _ _ h => h) (Or.inl ⟨by rfl, ?_⟩) ?_ ?_
       rotate_left
       · intro w'
         go_simp
         with_reducible rfl
       rotate_left
       · simp only [Act.put, List.setIfInBounds_toArray, List.set_cons_zero, List.set_cons_succ, i64_w, i32_w]
         rfl)
    | (refine pure_ (i := 16) (N := (some 20)) (v := undef) (a' := ?_) (L.B 39 131071) rfl rfl (by kernel_rfl) (fun _ _ _ h => h) (Or.inr ⟨by rfl, rfl⟩) ?_ ?_
       rotate_left
       · simp only [Act.put, List.setIfInBounds_toArray, List.set_cons_zero, List.set_cons_succ, i64_w, i32_w]
         rfl)
    first
    | (refine pure_ (i := 17) (N := (some 21)) (v := ?_) (a' := ?_) (L.B 39 262143) rfl rfl (by kernel_rfl) (fun _ _ _ h => h) (Or.inl ⟨by rfl, ?_⟩) ?_ ?_
       rotate_left
       · intro w'
         go_simp
         with_reducible rfl
       rotate_left
       · simp only [Act.put, List.setIfInBounds_toArray, List.set_cons_zero, List.set_cons_succ, i64_w, i32_w]
         rfl)
    | (refine pure_ (i := 17) (N := (some 21)) (v := undef) (a' := ?_) (L.B 39 262143) rfl rfl (by kernel_rfl) (fun _ _ _ h => h) (Or.inr ⟨by rfl, rfl⟩) ?_ ?_
       rotate_left
       · simp only [Act.put, List.setIfInBounds_toArray, List.set_cons_zero, List.set_cons_succ, i64_w, i32_w]
         rfl)
    first
    | (refine take_ (i := 18) (N := (some 22)) (v := ?_) (a' := ?_) (L.B 39 524287) rfl rfl (by kernel_rfl) (fun _ _ _ h => h) (Or.inl ⟨by rfl, ?_⟩) hHeld ?_ ?_
       rotate_left
       · intro w' hS
         have s4 := L.BC.at_ hS (o := 4) rfl
         go_simp
         with_reducible rfl
       rotate_left
       · simp only [Act.put, List.setIfInBounds_toArray, List.set_cons_zero, List.set_cons_succ, i64_w, i32_w]
         rfl)
    | (refine pure_ (i := 18) (N := (some 22)) (v := undef) (a' := ?_) (L.B 39 524287) rfl rfl (by kernel_rfl) (fun _ _ _ h => h) (Or.inr ⟨by rfl, rfl⟩) ?_ ?_
       rotate_left
       · simp only [Act.put, List.setIfInBounds_toArray, List.set_cons_zero, List.set_cons_succ, i64_w, i32_w]
         rfl)
    first
    | (refine pure_ (i := 19) (N := (some 23)) (v := ?_) (a' := ?_) (L.B 39 1048575) rfl rfl (by kernel_rfl) (fun _ _ _ h => h) (Or.inl ⟨by rfl, ?_⟩) ?_ ?_
       rotate_left
       · intro w'
         go_simp
         with_reducible rfl
       rotate_left
       · simp only [Act.put, List.setIfInBounds_toArray, List.set_cons_zero, List.set_cons_succ, i64_w, i32_w]
         rfl)
    | (refine pure_ (i := 19) (N := (some 23)) (v := undef) (a' := ?_) (L.B 39 1048575) rfl rfl (by kernel_rfl) (fun _ _ _ h => h) (Or.inr ⟨by rfl, rfl⟩) ?_ ?_
       rotate_left
       · simp only [Act.put, List.setIfInBounds_toArray, List.set_cons_zero, List.set_cons_succ, i64_w, i32_w]
         rfl)
    first
    | (refine pure_ (i := 20) (N := (some 24)) (v := ?_) (a' := ?_) (L.B 39 2097151) rfl rfl (by kernel_rfl) (fun _ _ _ h => h) (Or.inl ⟨by rfl, ?_⟩) ?_ ?_
       rotate_left
       · intro w'
         go_simp
         with_reducible rfl
       rotate_left
       · simp only [Act.put, List.setIfInBounds_toArray, List.set_cons_zero, List.set_cons_succ, i64_w, i32_w]
         rfl)
    | (refine pure_ (i := 20) (N := (some 24)) (v := undef) (a' := ?_) (L.B 39 2097151) rfl rfl (by kernel_rfl) (fun _ _ _ h => h) (Or.inr ⟨by rfl, rfl⟩) ?_ ?_
       rotate_left
       · simp only [Act.put, List.setIfInBounds_toArray, List.set_cons_zero, List.set_cons_succ, i64_w, i32_w]
         rfl)
    first
    | (refine pure_ (i := 21) (N := (some 25)) (v := ?_) (a' := ?_) (L.B 39 4194303) rfl rfl (by kernel_rfl) (fun _ _ _ h => h) (Or.inl ⟨by rfl, ?_⟩) ?_ ?_
       rotate_left
       · intro w'
         go_simp
         with_reducible rfl
       rotate_left
       · simp only [Act.put, List.setIfInBounds_toArray, List.set_cons_zero, List.set_cons_succ, i64_w, i32_w]
         rfl)
    | (refine pure_ (i := 21) (N := (some 25)) (v := undef) (a' := ?_) (L.B 39 4194303) rfl rfl (by kernel_rfl) (fun _ _ _ h => h) (Or.inr ⟨by rfl, rfl⟩) ?_ ?_
       rotate_left
       · simp only [Act.put, List.setIfInBounds_toArray, List.set_cons_zero, List.set_cons_succ, i64_w, i32_w]
         rfl)
    first
    | (refine pure_ (i := 22) (N := (some 26)) (v := ?_) (a' := ?_) (L.B 39 8388607) rfl rfl (by kernel_rfl) (fun _ _ _ h => h) (Or.inl ⟨by rfl, ?_⟩) ?_ ?_
       rotate_left
       · intro w'
         go_simp
         with_reducible rfl
       rotate_left
       · simp only [Act.put, List.setIfInBounds_toArray, List.set_cons_zero, List.set_cons_succ, i64_w, i32_w]
         rfl)
    | (refine pure_ (i := 22) (N := (some 26)) (v := undef) (a' := ?_) (L.B 39 8388607) rfl rfl (by kernel_rfl) (fun _ _ _ h => h) (Or.inr ⟨by rfl, rfl⟩) ?_ ?_
       rotate_left
       · simp only [Act.put, List.setIfInBounds_toArray, List.set_cons_zero, List.set_cons_succ, i64_w, i32_w]
         rfl)
    first
    | (refine pure_ (i := 23) (N := (some 27)) (v := ?_) (a' := ?_) (L.B 39 16777215) rfl rfl (by kernel_rfl) (fun _ _ _ h => h) (Or.inl ⟨by rfl, ?_⟩) ?_ ?_
       rotate_left
       · intro w'
         go_simp
         with_reducible rfl
       rotate_left
       · simp only [Act.put, List.setIfInBounds_toArray, List.set_cons_zero, List.set_cons_succ, i64_w, i32_w]
         rfl)
    | (refine pure_ (i := 23) (N := (some 27)) (v := undef) (a' := ?_) (L.B 39 16777215) rfl rfl (by kernel_rfl) (fun _ _ _ h => h) (Or.inr ⟨by rfl, rfl⟩) ?_ ?_
       rotate_left
       · simp only [Act.put, List.setIfInBounds_toArray, List.set_cons_zero, List.set_cons_succ, i64_w, i32_w]
         rfl)
    first
    | (refine take_ (i := 24) (N := (some 28)) (v := ?_) (a' := ?_) (L.B 39 33554431) rfl rfl (by kernel_rfl) (fun _ _ _ h => h) (Or.inl ⟨by rfl, ?_⟩) hHeld ?_ ?_
       rotate_left
       · intro w' hS
         have s5 := L.BC.at_ hS (o := 5) rfl
         go_simp
         with_reducible rfl
       rotate_left
       · simp only [Act.put, List.setIfInBounds_toArray, List.set_cons_zero, List.set_cons_succ, i64_w, i32_w]
         rfl)
    | (refine pure_ (i := 24) (N := (some 28)) (v := undef) (a' := ?_) (L.B 39 33554431) rfl rfl (by kernel_rfl) (fun _ _ _ h => h) (Or.inr ⟨by rfl, rfl⟩) ?_ ?_
       rotate_left
       · simp only [Act.put, List.setIfInBounds_toArray, List.set_cons_zero, List.set_cons_succ, i64_w, i32_w]
         rfl)
    first
    | (refine pure_ (i := 25) (N := (some 29)) (v := ?_) (a' := ?_) (L.B 39 67108863) rfl rfl (by kernel_rfl) (fun _ _ _ h => h) (Or.inl ⟨by rfl, ?_⟩) ?_ ?_
       rotate_left
       · intro w'
         go_simp
         with_reducible rfl
       rotate_left
       · simp only [Act.put, List.setIfInBounds_toArray, List.set_cons_zero, List.set_cons_succ, i64_w, i32_w]
         rfl)
    | (refine pure_ (i := 25) (N := (some 29)) (v := undef) (a' := ?_) (L.B 39 67108863) rfl rfl (by kernel_rfl) (fun _ _ _ h => h) (Or.inr ⟨by rfl, rfl⟩) ?_ ?_
       rotate_left
       · simp only [Act.put, List.setIfInBounds_toArray, List.set_cons_zero, List.set_cons_succ, i64_w, i32_w]
         rfl)
    first
    | (refine pure_ (i := 26) (N := (some 30)) (v := ?_) (a' := ?_) (L.B 39 134217727) rfl rfl (by kernel_rfl) (fun _ _ _ h => h) (Or.inl ⟨by rfl, ?_⟩) ?_ ?_
       rotate_left
       · intro w'
         go_simp
         with_reducible rfl
       rotate_left
       · simp only [Act.put, List.setIfInBounds_toArray, List.set_cons_zero, List.set_cons_succ, i64_w, i32_w]
         rfl)
    | (refine pure_ (i := 26) (N := (some 30)) (v := undef) (a' := ?_) (L.B 39 134217727) rfl rfl (by kernel_rfl) (fun _ _ _ h => h) (Or.inr ⟨by rfl, rfl⟩) ?_ ?_
       rotate_left
       · simp only [Act.put, List.setIfInBounds_toArray, List.set_cons_zero, List.set_cons_succ, i64_w, i32_w]
         rfl)
    first
    | (refine pure_ (i := 27) (N := (some 31)) (v := ?_) (a' := ?_) (L.B 39 268435455) rfl rfl (by kernel_rfl) (fun _ _ _ h => h) (Or.inl ⟨by rfl, ?_⟩) ?_ ?_
       rotate_left
       · intro w'
         go_simp
         with_reducible rfl
       rotate_left
       · simp only [Act.put, List.setIfInBounds_toArray, List.set_cons_zero, List.set_cons_succ, i64_w, i32_w]
         rfl)
    | (refine pure_ (i := 27) (N := (some 31)) (v := undef) (a' := ?_) (L.B 39 268435455) rfl rfl (by kernel_rfl) (fun _ _ _ h => h) (Or.inr ⟨by rfl, rfl⟩) ?_ ?_
       rotate_left
       · simp only [Act.put, List.setIfInBounds_toArray, List.set_cons_zero, List.set_cons_succ, i64_w, i32_w]
         rfl)
    first
    | (refine pure_ (i := 28) (N := (some 32)) (v := ?_) (a' := ?_) (L.B 39 536870911) rfl rfl (by kernel_rfl) (fun _ _ _ h => h) (Or.inl ⟨by rfl, ?_⟩) ?_ ?_
       rotate_left
       · intro w'
         go_simp
         with_reducible rfl
       rotate_left
       · simp only [Act.put, List.setIfInBounds_toArray, List.set_cons_zero, List.set_cons_succ, i64_w, i32_w]
         rfl)
    | (refine pure_ (i := 28) (N := (some 32)) (v := undef) (a' := ?_) (L.B 39 536870911) rfl rfl (by kernel_rfl) (fun _ _ _ h => h) (Or.inr ⟨by rfl, rfl⟩) ?_ ?_
       rotate_left
       · simp only [Act.put, List.setIfInBounds_toArray, List.set_cons_zero, List.set_cons_succ, i64_w, i32_w]
         rfl)
    first
    | (refine pure_ (i := 29) (N := (some 33)) (v := ?_) (a' := ?_) (L.B 39 1073741823) rfl rfl (by kernel_rfl) (fun _ _ _ h => h) (Or.inl ⟨by rfl, ?_⟩) ?_ ?_
       rotate_left
       · intro w'
         go_simp
         with_reducible rfl
       rotate_left
       · simp only [Act.put, List.setIfInBounds_toArray, List.set_cons_zero, List.set_cons_succ, i64_w, i32_w]
         rfl)
    | (refine pure_ (i := 29) (N := (some 33)) (v := undef) (a' := ?_) (L.B 39 1073741823) rfl rfl (by kernel_rfl) (fun _ _ _ h => h) (Or.inr ⟨by rfl, rfl⟩) ?_ ?_
       rotate_left
       · simp only [Act.put, List.setIfInBounds_toArray, List.set_cons_zero, List.set_cons_succ, i64_w, i32_w]
         rfl)
    first
    | (refine take_ (i := 30) (N := (some 34)) (v := ?_) (a' := ?_) (L.B 39 2147483647) rfl rfl (by kernel_rfl) (fun _ _ _ h => h) (Or.inl ⟨by rfl, ?_⟩) hHeld ?_ ?_
       rotate_left
       · intro w' hS
         have s6 := L.BC.at_ hS (o := 6) rfl
         go_simp
         with_reducible rfl
       rotate_left
       · simp only [Act.put, List.setIfInBounds_toArray, List.set_cons_zero, List.set_cons_succ, i64_w, i32_w]
         rfl)
    | (refine pure_ (i := 30) (N := (some 34)) (v := undef) (a' := ?_) (L.B 39 2147483647) rfl rfl (by kernel_rfl) (fun _ _ _ h => h) (Or.inr ⟨by rfl, rfl⟩) ?_ ?_
       rotate_left
       · simp only [Act.put, List.setIfInBounds_toArray, List.set_cons_zero, List.set_cons_succ, i64_w, i32_w]
         rfl)
    first
    | (refine pure_ (i := 31) (N := (some 35)) (v := ?_) (a' := ?_) (L.B 39 4294967295) rfl rfl (by kernel_rfl) (fun _ _ _ h => h) (Or.inl ⟨by rfl, ?_⟩) ?_ ?_
       rotate_left
       · intro w'
         go_simp
         with_reducible rfl
       rotate_left
       · simp only [Act.put, List.setIfInBounds_toArray, List.set_cons_zero, List.set_cons_succ, i64_w, i32_w]
         rfl)
    | (refine pure_ (i := 31) (N := (some 35)) (v := undef) (a' := ?_) (L.B 39 4294967295) rfl rfl (by kernel_rfl) (fun _ _ _ h => h) (Or.inr ⟨by rfl, rfl⟩) ?_ ?_
       rotate_left
       · simp only [Act.put, List.setIfInBounds_toArray, List.set_cons_zero, List.set_cons_succ, i64_w, i32_w]
         rfl)
    first
    | (refine pure_ (i := 32) (N := (some 36)) (v := ?_) (a' := ?_) (L.B 39 8589934591) rfl rfl (by kernel_rfl) (fun _ _ _ h => h) (Or.inl ⟨by rfl, ?_⟩) ?_ ?_
       rotate_left
       · intro w'
         go_simp
         with_reducible rfl
       rotate_left
       · simp only [Act.put, List.setIfInBounds_toArray, List.set_cons_zero, List.set_cons_succ, i64_w, i32_w]
         rfl)
    | (refine pure_ (i := 32) (N := (some 36)) (v := undef) (a' := ?_) (L.B 39 8589934591) rfl rfl (by kernel_rfl) (fun _ _ _ h => h) (Or.inr ⟨by rfl, rfl⟩) ?_ ?_
       rotate_left
       · simp only [Act.put, List.setIfInBounds_toArray, List.set_cons_zero, List.set_cons_succ, i64_w, i32_w]
         rfl)
    first
    | (refine take_ (i := 33) (N := (some 37)) (v := ?_) (a' := ?_) (L.B 39 17179869183) rfl rfl (by kernel_rfl) (fun _ _ _ h => h) (Or.inl ⟨by rfl, ?_⟩) hHeld ?_ ?_
       rotate_left
       · intro w' hS
         have s3 := L.BC.at_ hS (o := 3) rfl
         go_simp
         with_reducible rfl
       rotate_left
       · simp only [Act.put, List.setIfInBounds_toArray, List.set_cons_zero, List.set_cons_succ, i64_w, i32_w]
         rfl)
    | (refine pure_ (i := 33) (N := (some 37)) (v := undef) (a' := ?_) (L.B 39 17179869183) rfl rfl (by kernel_rfl) (fun _ _ _ h => h) (Or.inr ⟨by rfl, rfl⟩) ?_ ?_
       rotate_left
       · simp only [Act.put, List.setIfInBounds_toArray, List.set_cons_zero, List.set_cons_succ, i64_w, i32_w]
         rfl)
    first
    | (refine pure_ (i := 34) (N := (some 38)) (v := ?_) (a' := ?_) (L.B 39 34359738367) rfl rfl (by kernel_rfl) (fun _ _ _ h => h) (Or.inl ⟨by rfl, ?_⟩) ?_ ?_
       rotate_left
       · intro w'
         go_simp
         with_reducible rfl
       rotate_left
       · simp only [Act.put, List.setIfInBounds_toArray, List.set_cons_zero, List.set_cons_succ, i64_w, i32_w]
         rfl)
    | (refine pure_ (i := 34) (N := (some 38)) (v := undef) (a' := ?_) (L.B 39 34359738367) rfl rfl (by kernel_rfl) (fun _ _ _ h => h) (Or.inr ⟨by rfl, rfl⟩) ?_ ?_
       rotate_left
       · simp only [Act.put, List.setIfInBounds_toArray, List.set_cons_zero, List.set_cons_succ, i64_w, i32_w]
         rfl)
    first
    | (refine take_ (i := 35) (N := (some 39)) (v := ?_) (a' := ?_) (L.B 39 68719476735) rfl rfl (by kernel_rfl) (fun _ _ _ h => h) (Or.inl ⟨by rfl, ?_⟩) hHeld ?_ ?_
       rotate_left
       · intro w' hS
         have s2 := L.BC.at_ hS (o := 2) rfl
         go_simp
         with_reducible rfl
       rotate_left
       · simp only [Act.put, List.setIfInBounds_toArray, List.set_cons_zero, List.set_cons_succ, i64_w, i32_w]
         rfl)
    | (refine pure_ (i := 35) (N := (some 39)) (v := undef) (a' := ?_) (L.B 39 68719476735) rfl rfl (by kernel_rfl) (fun _ _ _ h => h) (Or.inr ⟨by rfl, rfl⟩) ?_ ?_
       rotate_left
       · simp only [Act.put, List.setIfInBounds_toArray, List.set_cons_zero, List.set_cons_succ, i64_w, i32_w]
         rfl)
    first
    | (refine one_ (i := 36) (N := some 40) (L.B 39 137438953471) rfl rfl (by kernel_rfl) (by decide) (fun K hK => ?_)
       refine goes_ Try.func45 (by kernel_rfl) rfl #[.int .i64 f, .int .i64 s] (by rfl) rfl rfl (by (try simp only [List.map_toArray, List.map_cons, List.map_nil]); first | done | rfl) ?_
       refine (descantref13_Many.calls f s _ _ h6.out).mono ?_
       rintro e w4 ⟨rfl, hd⟩
       refine ⟨_, rfl, ?_⟩
       replace hI := L.BC.below hI hd.below
       replace hB := below_next hB hd.below
       clear hd
       refine hK.out _ _ hI (fun hHeld => ?_)
       clear hK K
       refine norm_ (a' := ?_) ?_ ?_
       rotate_left
       · show Act.put _ (some 40) _ = _
         simp only [Act.put, List.setIfInBounds_toArray, List.set_cons_zero, List.set_cons_succ, i64_w, i32_w]
         rfl)
    | (refine pure_ (i := 36) (N := some 40) (v := undef) (a' := ?_) (L.B 39 137438953471) rfl rfl (by kernel_rfl) (fun _ _ _ h => h) (Or.inr ⟨by rfl, rfl⟩) ?_ ?_
       rotate_left
       · simp only [Act.put, List.setIfInBounds_toArray, List.set_cons_zero, List.set_cons_succ, i64_w, i32_w]
         rfl)
    first
    | (refine pure_ (i := 37) (N := (some 41)) (v := ?_) (a' := ?_) (L.B 39 274877906943) rfl rfl (by kernel_rfl) (fun _ _ _ h => h) (Or.inl ⟨by rfl, ?_⟩) ?_ ?_
       rotate_left
       · intro w'
         go_simp
         with_reducible rfl
       rotate_left
       · simp only [Act.put, List.setIfInBounds_toArray, List.set_cons_zero, List.set_cons_succ, i64_w, i32_w]
         rfl)
    | (refine pure_ (i := 37) (N := (some 41)) (v := undef) (a' := ?_) (L.B 39 274877906943) rfl rfl (by kernel_rfl) (fun _ _ _ h => h) (Or.inr ⟨by rfl, rfl⟩) ?_ ?_
       rotate_left
       · simp only [Act.put, List.setIfInBounds_toArray, List.set_cons_zero, List.set_cons_succ, i64_w, i32_w]
         rfl)
    first
    | (refine pure_ (i := 38) (N := (some 42)) (v := ?_) (a' := ?_) (L.B 39 549755813887) rfl rfl (by kernel_rfl) (fun _ _ _ h => h) (Or.inl ⟨by rfl, ?_⟩) ?_ ?_
       rotate_left
       · intro w'
         go_simp
         with_reducible rfl
       rotate_left
       · simp only [Act.put, List.setIfInBounds_toArray, List.set_cons_zero, List.set_cons_succ, i64_w, i32_w]
         rfl)
    | (refine pure_ (i := 38) (N := (some 42)) (v := undef) (a' := ?_) (L.B 39 549755813887) rfl rfl (by kernel_rfl) (fun _ _ _ h => h) (Or.inr ⟨by rfl, rfl⟩) ?_ ?_
       rotate_left
       · simp only [Act.put, List.setIfInBounds_toArray, List.set_cons_zero, List.set_cons_succ, i64_w, i32_w]
         rfl)
    refine done_ (by kernel_rfl) ?_
    clear hHeld h1 h2 h3 d4 d5 d6
    go_wp2
  iterate 6
    · go_ret
      exact ⟨rfl, hB⟩
  go_loopg [3] l.length (fun kq v3 W => ∃ i : Nat, v3 = .int .i64 (i : Int) ∧ i + kq = l.length ∧ L.BC W w.heap.size 26 [.int .i64 c, .int .i64 b, .int .i64 s, .int .i64 f, .string h, .string t, .slice A l.length m] ∧ Below w.heap.size w W ∧ (l.take i).all (fun x => sizeOk x.size) = true)
  case atStart => exact ⟨0, by simp, by omega, hI, hB, by simp⟩
  case round =>
    clear hI hB
    obtain ⟨i, rfl, hi, hI, hB, hok⟩ := hrel
    have k6 := L.BC.at_ hI (o := 6) rfl
    replace hok := Lib.hid hok
    by_cases c1 : i < l.length
    · have e1 : decide ((i : Int) < (l.length : Int)) = true := decide_eq_true (by omega)
      have p3 : (0 : Int) ≤ (i : Int) := by omega
      have q3 : (i : Int) < (l.length : Int) := by omega
      obtain ⟨ad, ead, hx⟩ := Kd.at_string (Kd.C_below hr hB) (i : Int) p3 q3
      cases ead
      rw [Int.toNat_natCast] at hx
      have hxe : rdOf ByteArray.empty l (i : Int) = l[i] := by unfold rdOf; rw [Int.toNat_natCast, List.getD_eq_getElem?_getD, List.getElem?_eq_getElem c1]; rfl
      rw [hxe] at hx
      obtain ⟨x, hxd⟩ : ∃ x, l[i] = x := ⟨_, rfl⟩
      rw [hxd] at hx
      replace p3 := eq_true p3
      replace q3 := eq_true q3
      have hi5 : (i : Int) + 1 ≤ 281474976710656 := by omega
      have hstep : (l.take (i + 1)).all (fun x => sizeOk x.size) = sizeOk (x.size : Int) := by
        rw [List.take_succ_eq_append_getElem c1, List.all_append, hok.out, hxd]; simp
      have hall : sizeOk (x.size : Int) = false → l.all (fun x => sizeOk x.size) = false := fun hf => by
        have hm : x ∈ l := by rw [← hxd]; exact List.getElem_mem c1
        cases hq : l.all (fun x => sizeOk x.size)
        · rfl
        · exact absurd (List.all_eq_true.1 hq x hm) (by simp [hf])
      have hup := Lib.hid (up_eq (x.size : Int) 9 65535)
      replace hstep := Lib.hid hstep
      replace hall := Lib.hid hall
      replace hxe := Lib.hid hxe
      replace hxd := Lib.hid hxd
      have hso : sizeOk (x.size : Int) = decide (9 ≤ (x.size : Int) ∧ (x.size : Int) ≤ 65535) := rfl
      rw [← hso] at hup
      clear hso
      cases hs : sizeOk (x.size : Int)
      · rw [hs] at hup
        replace hs := Lib.hid hs
        go_wp2_with (first | (go_at_call 44; refine (descantref13_upTo.calls _ 9 65535 _ _ hup.out).mono ?_; rintro e w7 ⟨rfl, hd⟩; replace hB := below_next hB hd.below))
        go_ret
        exact ⟨by rw [hall.out hs.out]; rfl, hB⟩
      · rw [hs] at hup
        replace hs := Lib.hid hs
        go_wp2_with (first | (go_at_call 44; refine (descantref13_upTo.calls _ 9 65535 _ _ hup.out).mono ?_; rintro e w7 ⟨rfl, hd⟩; replace hB := below_next hB hd.below; replace hI := L.BC.below hI hd.below; clear k6))
        obtain ⟨k, rfl⟩ : ∃ k, gk = k + 1 := ⟨gk - 1, by omega⟩
        go_roundg k
        case measure => omega
        case rel => exact ⟨i + 1, by simp, by omega, hI, hB, by rw [hstep.out]; exact hs.out⟩
    · have e1 : decide ((i : Int) < (l.length : Int)) = false := decide_eq_false (by omega)
      have hfull : l.all (fun x => sizeOk x.size) = true := by
        have := hok.out
        rwa [List.take_of_length_le (by omega)] at this
      replace hfull := Lib.hid hfull
      go_wp2
      go_ret
      exact ⟨by rw [hfull.out]; rfl, hB⟩
/-- The document's StreamMay is mayOk. -/
def descantref13_StreamMay.f (a0_0 a0_1 a0_2 a0_3 : Int) (a0_4 a0_5 : ByteArray) (l0_6 : List ByteArray) : Option Bool := if l0_6.length < 281474976710656 then some (mayOk a0_0 a0_1 a0_2 a0_3 a0_4 a0_5 l0_6) else none
theorem descantref13_StreamMay.calls (a0_0 : Int) (a0_1 : Int) (a0_2 : Int) (a0_3 : Int) (a0_4 : ByteArray) (a0_5 : ByteArray) (A0_6 : Option Addr) (c0_6 : Nat) (l0_6 : List ByteArray) (r : Bool) (w : World) (hr0_6 : Kd.C Kd.string w A0_6 l0_6.length l0_6) (hc0_6 : l0_6.length ≤ c0_6) (h : descantref13_StreamMay.f a0_0 a0_1 a0_2 a0_3 a0_4 a0_5 l0_6 = some r) :
    Calls Try.prog 27 #[.agg #[.int .i64 a0_0, .int .i64 a0_1, .int .i64 a0_2, .int .i64 a0_3, .string a0_4, .string a0_5, .slice A0_6 l0_6.length c0_6]] w fun e w' => e = .returned (.bool r) ∧ Below w.heap.size w w' := by
  unfold descantref13_StreamMay.f at h
  split at h
  · rename_i hn
    obtain rfl := Option.some.inj h
    refine (mayr_at a0_0 a0_1 a0_2 a0_3 a0_4 a0_5 l0_6 A0_6 c0_6 w hr0_6 hc0_6 hn (decide ((a0_0 = 1 ∨ a0_0 = 2) ∧ (a0_1 = 8 ∨ a0_1 = 16))) (decide (1 ≤ a0_2 ∧ a0_2 ≤ 64)) (decide (0 ≤ a0_3 ∧ a0_3 ≤ 4096)) (decide (a0_4.size ≤ 4096)) (decide (a0_5.size ≤ 4096)) (decide ((l0_6.length : Int) = many a0_3 a0_2)) (many a0_3 a0_2)
      (Lib.hid (fm_eq _ _)) (Lib.hid (up_eq _ _ _)) (Lib.hid (up_eq _ _ _)) ?_ ?_ (Lib.hid (fun hp => ?_)) ?_).mono ?_
    · rw [← decide_not]; exact decide_eq_decide.2 (by omega)
    · rw [← decide_not]; exact decide_eq_decide.2 (by omega)
    · simp only [Bool.and_eq_true, decide_eq_true_eq] at hp
      unfold descantref13_Many.f many
      rw [if_neg (by omega), IntWalk.wrap64_in (a0_3 + a0_2) (by omega), IntWalk.wrap64_in (a0_3 + a0_2 - 1) (by omega), Int.tdiv_eq_ediv_of_nonneg (by omega)]
      have h1 := Int.ediv_le_self a0_2 (show 0 ≤ a0_3 + a0_2 - 1 by omega)
      have h2 : 0 ≤ (a0_3 + a0_2 - 1) / a0_2 := Int.ediv_nonneg (by omega) (by omega)
      rw [IntWalk.wrap64_in _ (by omega)]
    · by_cases hq : (l0_6.length : Int) = many a0_3 a0_2 <;> simp [hq, bne]
    · rintro e w' ⟨rfl, hb⟩
      refine ⟨?_, hb⟩
      refine congrArg (fun x => Ending.returned (Value.bool x)) ?_
      unfold mayOk headOk
      rw [Bool.eq_iff_iff]
      simp only [Bool.and_eq_true, decide_eq_true_eq]
      constructor
      · rintro ⟨⟨⟨⟨⟨⟨h1, h2⟩, h3⟩, h4⟩, h5⟩, h6⟩, h7⟩; exact ⟨⟨h1.1, h1.2, h2.1, h2.2, h3.1, h3.2, h4, h5⟩, h6, h7⟩
      · rintro ⟨⟨h1, h2, h3, h4, h5, h6, h7, h8⟩, h9, h10⟩; exact ⟨⟨⟨⟨⟨⟨⟨h1, h2⟩, h3, h4⟩, h5, h6⟩, h7⟩, h8⟩, h9⟩, h10⟩
  · cases h
end Go.Proofs.Ytokegkpbbhegpaa.PT
