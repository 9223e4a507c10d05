/- stream.may: what it tells. -/
import Derived.Test.YtokegkpbbhegpaaPLx3
import Derived.Test.YtokegkpbbhegpaaPLx2
import Derived.Test.YtokegkpbbhegpaaWBld
import Derived.Test.YtokegkpbbhegpaaHeld
import Derived.IntWalk
namespace Go.Proofs.Ytokegkpbbhegpaa
open Go.RowKit Go.Proofs.YtokegkpbbhegpaaW.PrintWords Go.Proofs.Ytokegkpbbhegpaa.PL Go.Proofs.Ytokegkpbbhegpaa.L
set_option linter.unusedVariables false
set_option linter.unusedSimpArgs false

def headOk (c b s f : Int) (h t : ByteArray) : Bool := decide ((c = 1 ∨ c = 2) ∧ (b = 8 ∨ b = 16) ∧ 1 ≤ s ∧ s ≤ 64 ∧ 0 ≤ f ∧ f ≤ 4096 ∧ h.size ≤ 4096 ∧ t.size ≤ 4096)
def sizeOk (n : Int) : Bool := decide (9 ≤ n ∧ n ≤ 65535)
def many (f s : Int) : Int := (f + s - 1) / s
def mayOk (c b s f : Int) (h t : ByteArray) (l : List ByteArray) : Bool := headOk c b s f h t && (decide ((l.length : Int) = many f s) && l.all (fun x => sizeOk x.size))
theorem may_eq (c b : Int) : pcm_May.f c b = some (decide ((c = 1 ∨ c = 2) ∧ (b = 8 ∨ b = 16))) := by
  unfold pcm_May.f
  by_cases h1 : c = 1 <;> by_cases h2 : c = 2 <;> by_cases h3 : b = 8 <;> by_cases h4 : b = 16 <;> simp_all
theorem head_eq (c b s f : Int) (h t : ByteArray) (l : List ByteArray) : stream_head.f c b s f h t l = some (headOk c b s f h t, c, b, s, f, h, t) := by
  unfold stream_head.f
  rw [may_eq]
  simp only [Option.bind_some, headOk]
  by_cases p : (c = 1 ∨ c = 2) ∧ (b = 8 ∨ b = 16)
  · rw [decide_eq_true p, if_pos rfl]
    obtain ⟨p1, p2⟩ := p
    by_cases q1 : s ≥ 1
    · by_cases q2 : s ≤ 64
      · by_cases q3 : f ≥ 0
        · by_cases q4 : f ≤ 4096
          · by_cases q5 : (h.size : Int) ≤ 4096
            · by_cases q6 : (t.size : Int) ≤ 4096
              · rw [if_pos q1, if_pos q2, if_pos q3, if_pos q4, if_pos q5, decide_eq_true q6, decide_eq_true ⟨p1, p2, q1, q2, q3, q4, by omega, by omega⟩]
              · rw [if_pos q1, if_pos q2, if_pos q3, if_pos q4, if_pos q5, decide_eq_false q6, decide_eq_false (by omega)]
            · rw [if_pos q1, if_pos q2, if_pos q3, if_pos q4, if_neg q5, decide_eq_false (by omega)]
          · rw [if_pos q1, if_pos q2, if_pos q3, if_neg q4, decide_eq_false (by omega)]
        · rw [if_pos q1, if_pos q2, if_neg q3, decide_eq_false (by omega)]
      · rw [if_pos q1, if_neg q2, decide_eq_false (by omega)]
    · rw [if_neg q1, decide_eq_false (by omega)]
  · rw [decide_eq_false p, if_neg (by decide), decide_eq_false (fun q => p ⟨q.1, q.2.1⟩)]
theorem size_eq (n : Int) : stream_size.f n = some (sizeOk n) := by
  unfold stream_size.f sizeOk
  split
  all_goals simp_all
  all_goals omega
theorem many_eq {f s : Int} (h1 : 1 ≤ s) (h2 : s ≤ 64) (h3 : 0 ≤ f) (h4 : f ≤ 4096) : stream_Many.f f s = some (many f s) := by
  unfold stream_Many.f many
  have h5 : 0 ≤ f + s - 1 := by omega
  have h6 := Int.ediv_le_self s h5
  have h7 : 0 ≤ (f + s - 1) / s := Int.ediv_nonneg h5 (by omega)
  rw [if_neg (by omega), IntWalk.wrap64_in (f + s) (by omega), IntWalk.wrap64_in (f + s - 1) (by omega), Int.tdiv_eq_ediv_of_nonneg h5, IntWalk.wrap64_in _ (by omega)]
theorem may1 (s : ByteArray) (w : World) :
    Calls Try.prog 37 #[.string s] w fun e w' => e = .returned (.bool (!sizeOk s.size)) ∧ Drawn0 w w' := by
  go_enter Try.func37, Try.ntmps37
  go_wp2_with (go_at_call 35; refine (stream_size.calls _ _ _ (size_eq _)).mono ?_; rintro e w1 ⟨rfl, hd⟩)
  go_ret
  exact ⟨rfl, hd⟩
def okTexts (l : List ByteArray) : Bool := l.all (fun x => sizeOk x.size)
theorem okTexts_take {l : List ByteArray} {i : Nat} {x : ByteArray} (h : okTexts (l.take i) = true) (hx : l[i]? = some x) : okTexts (l.take (i + 1)) = sizeOk x.size := by
  rw [List.take_add_one, hx]
  unfold okTexts at *
  rw [List.all_append, h]
  simp
theorem okTexts_none {l : List ByteArray} {n : Nat} (h : okTexts (l.take n) = false) : okTexts l = false := by
  unfold okTexts at *
  rw [← List.take_append_drop n l, List.all_append, h]; rfl
theorem rdOf_some {l : List ByteArray} {i : Nat} (h : i < l.length) : l[i]? = some (rdOf ByteArray.empty l (i : Int)) := by
  simp [rdOf, List.getD, List.getElem?_eq_getElem h]
set_option maxHeartbeats 1000000 in
set_option maxRecDepth 100000 in
theorem index_any (A : Option Addr) (c : Nat) (l : List ByteArray) (w : World) (hr : Kd.C Kd.string w A l.length l) (hn : l.length < 281474976710656) :
    Calls Try.prog 51 #[.slice A l.length c, .func (.func 37) #[] #[]] w fun e w' => ∃ r : Int, e = .returned (.int .i64 r) ∧ decide (0 ≤ r) = !okTexts l ∧ Drawn0 w w' := by
  go_enter Try.func51, Try.ntmps51
  go_wp2
  go_loopg [8] l.length (fun k v w' => ∃ i : Nat, v = .int .i64 i ∧ i + k = l.length ∧ okTexts (l.take i) = true ∧ Drawn0 w w')
  case atStart => exact ⟨0, by simp, by omega, rfl, Drawn0.refl _⟩
  case round =>
    obtain ⟨i, rfl, hi, hok, ⟨m1, rfl⟩⟩ := hrel
    by_cases c1 : i < l.length
    · have d1 : decide ((i : Int) < (l.length : Int)) = true := decide_eq_true (by omega)
      obtain ⟨ad, e, hx⟩ := Kd.at_string hr i (by omega) (by omega)
      cases e
      rw [Int.toNat_natCast] at hx
      have p1 : (0 ≤ (i : Int)) = True := eq_true (by omega)
      have q1 : ((i : Int) < (l.length : Int)) = True := eq_true (by omega)
      have hx2 := okTexts_take hok (rdOf_some (i := i) c1)
      cases h1 : sizeOk (rdOf ByteArray.empty l (i : Int)).size
      · go_wp2_with (go_at_call 37; refine (may1 _ _).mono ?_; rw [h1]; rintro e w1 ⟨rfl, ⟨⟨m2, rfl⟩⟩⟩)
        go_ret
        refine ⟨_, rfl, ?_, by repeat (first | exact Drawn0.refl _ | apply Drawn0.step)⟩
        rw [okTexts_none (hx2.trans h1), decide_eq_true (by omega)]; rfl
      · go_wp2_with (go_at_call 37; refine (may1 _ _).mono ?_; rw [h1]; rintro e w1 ⟨rfl, ⟨⟨m2, rfl⟩⟩⟩)
        obtain ⟨k, rfl⟩ : ∃ k, gk = k + 1 := ⟨gk - 1, by omega⟩
        go_roundg k
        case measure => omega
        case rel => exact ⟨i + 1, by simp, by omega, hx2.trans h1, by repeat (first | exact Drawn0.refl _ | apply Drawn0.step)⟩
    · have d1 : decide ((i : Int) < (l.length : Int)) = false := decide_eq_false (by omega)
      go_wp2
      go_ret
      refine ⟨_, rfl, ?_, by repeat (first | exact Drawn0.refl _ | apply Drawn0.step)⟩
      rw [List.take_of_length_le (by omega)] at hok
      rw [hok]; rfl
theorem contains_any (A : Option Addr) (c : Nat) (l : List ByteArray) (w : World) (hr : Kd.C Kd.string w A l.length l) (hn : l.length < 281474976710656) :
    Calls Try.prog 38 #[.slice A l.length c, .func (.func 37) #[] #[]] w fun e w' => e = .returned (.bool (!okTexts l)) ∧ Drawn0 w w' := by
  go_enter Try.func38, Try.ntmps38
  go_wp2_with (go_at_call 51; refine (index_any A c l _ hr hn).mono ?_; rintro e w1 ⟨r, rfl, hrr, hd⟩)
  go_ret
  exact ⟨rfl, hd⟩
theorem head_no {c b s f : Int} {h t : ByteArray} (n : ¬ ((c = 1 ∨ c = 2) ∧ (b = 8 ∨ b = 16) ∧ 1 ≤ s ∧ s ≤ 64 ∧ 0 ≤ f ∧ f ≤ 4096 ∧ h.size ≤ 4096 ∧ t.size ≤ 4096)) : headOk c b s f h t = false := decide_eq_false n
theorem head_yes {c b s f : Int} {h t : ByteArray} (p : (c = 1 ∨ c = 2) ∧ (b = 8 ∨ b = 16)) (q0 : 1 ≤ s) (q1 : s ≤ 64) (q2 : 0 ≤ f) (q3 : f ≤ 4096) (q4 : (h.size : Int) ≤ 4096) : headOk c b s f h t = decide ((t.size : Int) ≤ 4096) := by
  rw [headOk]
  refine decide_eq_decide.2 ⟨fun x => by omega, fun x => ⟨p.1, p.2, q0, q1, q2, q3, by omega, by omega⟩⟩
/-- Block g holds a stream's fields. -/
def SB (w : World) (g : Nat) (c b s f : Int) (h t : ByteArray) (A : Option Addr) (n m : Nat) : Prop := BC w g 26 [.int .i64 c, .int .i64 b, .int .i64 s, .int .i64 f, .string h, .string t, .slice A n m]
set_option maxHeartbeats 4000000 in
set_option maxRecDepth 100000 in
theorem head_any (g : Nat) (c b s f : Int) (h t : ByteArray) (A : Option Addr) (n m : Nat) (w : World) (hI : SB w g c b s f h t A n m) :
    Calls Try.prog 33 #[.pointer (some ⟨g, 0, none⟩)] w fun e w' => e = .returned (.bool (headOk c b s f h t)) ∧ Below w.heap.size w w' := by
  have hu := Try.underlying23
  have k0 := BC.at_ hI (o := 0) rfl
  have k1 := BC.at_ hI (o := 1) rfl
  have k2 := BC.at_ hI (o := 2) rfl
  have k3 := BC.at_ hI (o := 3) rfl
  have k4 := BC.at_ hI (o := 4) rfl
  have k5 := BC.at_ hI (o := 5) rfl
  have hg := hI.lt
  clear hI
  by_cases p : (c = 1 ∨ c = 2) ∧ (b = 8 ∨ b = 16)
  · have hp : decide ((c = 1 ∨ c = 2) ∧ (b = 8 ∨ b = 16)) = true := decide_eq_true p
    by_cases q0 : 1 ≤ s
    · have d0 : decide (1 ≤ s) = true := decide_eq_true q0
      by_cases q1 : s ≤ 64
      · have d1 : decide (s ≤ 64) = true := decide_eq_true q1
        by_cases q2 : 0 ≤ f
        · have d2 : decide (0 ≤ f) = true := decide_eq_true q2
          by_cases q3 : f ≤ 4096
          · have d3 : decide (f ≤ 4096) = true := decide_eq_true q3
            by_cases q4 : (h.size : Int) ≤ 4096
            · have d4 : decide ((h.size : Int) ≤ 4096) = true := decide_eq_true q4
              have d4' : decide (h.size ≤ 4096) = true := decide_eq_true (by omega)
              go_enter Try.func33, Try.ntmps33
              go_wp2_with (first | (go_at_call 49; refine (pcm_May.calls c b _ _ (may_eq c b)).mono ?_; rw [hp]; rintro e w1 ⟨rfl, hb⟩; have hq := Lib.hid (below_next (w := w) (by repeat (first | (with_reducible exact Below.refl _ _) | (with_reducible exact Hid.out (by with_reducible assumption)) | (with_reducible apply below_drewN) | (with_reducible apply below_drew) | (with_reducible apply below_alloc) | (refine below_set ?_ ?_ _; (focus (first | (simp; done) | (simp; omega)))))) hb); obtain ⟨hc, hf⟩ := bcell hb; clear hb))
              go_ret
              exact ⟨by show Ending.returned (Value.bool _) = Ending.returned (Value.bool _); rw [head_yes p (by omega) (by omega) (by omega) (by omega) (by omega)], hq.out⟩
            · have d4 : decide ((h.size : Int) ≤ 4096) = false := decide_eq_false q4
              have d4' : decide (h.size ≤ 4096) = false := decide_eq_false (by omega)
              go_enter Try.func33, Try.ntmps33
              go_wp2_with (first | (go_at_call 49; refine (pcm_May.calls c b _ _ (may_eq c b)).mono ?_; rw [hp]; rintro e w1 ⟨rfl, hb⟩; have hq := Lib.hid (below_next (w := w) (by repeat (first | (with_reducible exact Below.refl _ _) | (with_reducible exact Hid.out (by with_reducible assumption)) | (with_reducible apply below_drewN) | (with_reducible apply below_drew) | (with_reducible apply below_alloc) | (refine below_set ?_ ?_ _; (focus (first | (simp; done) | (simp; omega)))))) hb); obtain ⟨hc, hf⟩ := bcell hb; clear hb))
              go_ret
              exact ⟨by rw [head_no (fun z => by obtain ⟨_, _, z1, z2, z3, z4, z5, z6⟩ := z; omega)]; rfl, hq.out⟩
          · have d3 : decide (f ≤ 4096) = false := decide_eq_false q3
            go_enter Try.func33, Try.ntmps33
            go_wp2_with (first | (go_at_call 49; refine (pcm_May.calls c b _ _ (may_eq c b)).mono ?_; rw [hp]; rintro e w1 ⟨rfl, hb⟩; have hq := Lib.hid (below_next (w := w) (by repeat (first | (with_reducible exact Below.refl _ _) | (with_reducible exact Hid.out (by with_reducible assumption)) | (with_reducible apply below_drewN) | (with_reducible apply below_drew) | (with_reducible apply below_alloc) | (refine below_set ?_ ?_ _; (focus (first | (simp; done) | (simp; omega)))))) hb); obtain ⟨hc, hf⟩ := bcell hb; clear hb))
            go_ret
            exact ⟨by rw [head_no (fun z => by obtain ⟨_, _, z1, z2, z3, z4, z5, z6⟩ := z; omega)]; rfl, hq.out⟩
        · have d2 : decide (0 ≤ f) = false := decide_eq_false q2
          go_enter Try.func33, Try.ntmps33
          go_wp2_with (first | (go_at_call 49; refine (pcm_May.calls c b _ _ (may_eq c b)).mono ?_; rw [hp]; rintro e w1 ⟨rfl, hb⟩; have hq := Lib.hid (below_next (w := w) (by repeat (first | (with_reducible exact Below.refl _ _) | (with_reducible exact Hid.out (by with_reducible assumption)) | (with_reducible apply below_drewN) | (with_reducible apply below_drew) | (with_reducible apply below_alloc) | (refine below_set ?_ ?_ _; (focus (first | (simp; done) | (simp; omega)))))) hb); obtain ⟨hc, hf⟩ := bcell hb; clear hb))
          go_ret
          exact ⟨by rw [head_no (fun z => by obtain ⟨_, _, z1, z2, z3, z4, z5, z6⟩ := z; omega)]; rfl, hq.out⟩
      · have d1 : decide (s ≤ 64) = false := decide_eq_false q1
        go_enter Try.func33, Try.ntmps33
        go_wp2_with (first | (go_at_call 49; refine (pcm_May.calls c b _ _ (may_eq c b)).mono ?_; rw [hp]; rintro e w1 ⟨rfl, hb⟩; have hq := Lib.hid (below_next (w := w) (by repeat (first | (with_reducible exact Below.refl _ _) | (with_reducible exact Hid.out (by with_reducible assumption)) | (with_reducible apply below_drewN) | (with_reducible apply below_drew) | (with_reducible apply below_alloc) | (refine below_set ?_ ?_ _; (focus (first | (simp; done) | (simp; omega)))))) hb); obtain ⟨hc, hf⟩ := bcell hb; clear hb))
        go_ret
        exact ⟨by rw [head_no (fun z => by obtain ⟨_, _, z1, z2, z3, z4, z5, z6⟩ := z; omega)]; rfl, hq.out⟩
    · have d0 : decide (1 ≤ s) = false := decide_eq_false q0
      go_enter Try.func33, Try.ntmps33
      go_wp2_with (first | (go_at_call 49; refine (pcm_May.calls c b _ _ (may_eq c b)).mono ?_; rw [hp]; rintro e w1 ⟨rfl, hb⟩; have hq := Lib.hid (below_next (w := w) (by repeat (first | (with_reducible exact Below.refl _ _) | (with_reducible exact Hid.out (by with_reducible assumption)) | (with_reducible apply below_drewN) | (with_reducible apply below_drew) | (with_reducible apply below_alloc) | (refine below_set ?_ ?_ _; (focus (first | (simp; done) | (simp; omega)))))) hb); obtain ⟨hc, hf⟩ := bcell hb; clear hb))
      go_ret
      exact ⟨by rw [head_no (fun z => by obtain ⟨_, _, z1, z2, z3, z4, z5, z6⟩ := z; omega)]; rfl, hq.out⟩
  · have hp : decide ((c = 1 ∨ c = 2) ∧ (b = 8 ∨ b = 16)) = false := decide_eq_false p
    go_enter Try.func33, Try.ntmps33
    go_wp2_with (first | (go_at_call 49; refine (pcm_May.calls c b _ _ (may_eq c b)).mono ?_; rw [hp]; rintro e w1 ⟨rfl, hb⟩; have hq := Lib.hid (below_next (w := w) (by repeat (first | (with_reducible exact Below.refl _ _) | (with_reducible exact Hid.out (by with_reducible assumption)) | (with_reducible apply below_drewN) | (with_reducible apply below_drew) | (with_reducible apply below_alloc) | (refine below_set ?_ ?_ _; (focus (first | (simp; done) | (simp; omega)))))) hb); obtain ⟨hc, hf⟩ := bcell hb; clear hb))
    go_ret
    exact ⟨by rw [head_no (fun z => p ⟨z.1, z.2.1⟩)]; rfl, hq.out⟩
set_option maxHeartbeats 4000000 in
set_option maxRecDepth 100000 in
theorem may_any (g : Nat) (c b s f : Int) (h t : ByteArray) (l : List ByteArray) (A : Option Addr) (m : Nat) (w : World) (hI : SB w g c b s f h t A l.length m) (hr : Kd.C Kd.string w A l.length l) (hn : l.length < 281474976710656) :
    Calls Try.prog 20 #[.pointer (some ⟨g, 0, none⟩)] w fun e w' => e = .returned (.bool (mayOk c b s f h t l)) ∧ Below w.heap.size w w' := by
  have k2 := BC.at_ hI (o := 2) rfl
  have k3 := BC.at_ hI (o := 3) rfl
  have k6 := BC.at_ hI (o := 6) rfl
  go_enter Try.func20, Try.ntmps20
  cases hh : headOk c b s f h t
  · go_upto_region 2 with (fail)
    refine wp_region_held_drew (S := (fun w' => w' = w')) (by kernel_rfl) (by rfl) (fun hHeld => ?_)
    refine held_take 0 (d := some 4) (v := _) rfl rfl (fun w _ => rfl) (by kernel_rfl) (by kernel_rfl) (by kernel_rfl) (fun _ _ _ h => h) rfl (by assumption) ?_
    (try simp only [Act.put, List.setIfInBounds_toArray, List.set_cons_zero, List.set_cons_succ])
    refine wpAnyH_ready (rs := [1]) (by kernel_rfl) (by simp) ?_
    refine AllReadyH.cons rfl (fun K hK => ?_) AllReadyH.nil
    go_simp
    (go_at_call 33; refine (head_any g _ _ _ _ _ _ _ _ _ _ (BC.drew hI)).mono ?_; rw [hh]; rintro e w1 ⟨rfl, hb⟩; have hb1 := below_next (L.below_drew (Below.refl w.heap.size w)) hb; clear hb)
    refine hK.out _ _ (by trivial) (fun hHeld => ?_)
    clear hK K
    (try simp only [Act.put, List.setIfInBounds_toArray, List.set_cons_zero, List.set_cons_succ])
    refine held_take 2 (d := some 6) (v := _) rfl rfl (fun w _ => rfl) (by kernel_rfl) (by kernel_rfl) (by kernel_rfl) (fun _ _ _ h => h) rfl (by assumption) ?_
    (try simp only [Act.put, List.setIfInBounds_toArray, List.set_cons_zero, List.set_cons_succ])
    refine held_skip 3 rfl rfl (by kernel_rfl) (by kernel_rfl) (by kernel_rfl) (fun _ _ _ h => h) rfl (by assumption) ?_
    refine held_skip 4 rfl rfl (by kernel_rfl) (by kernel_rfl) (by kernel_rfl) (fun _ _ _ h => h) rfl (by assumption) ?_
    refine held_skip 5 rfl rfl (by kernel_rfl) (by kernel_rfl) (by kernel_rfl) (fun _ _ _ h => h) rfl (by assumption) ?_
    refine held_skip 6 rfl rfl (by kernel_rfl) (by kernel_rfl) (by kernel_rfl) (fun _ _ _ h => h) rfl (by assumption) ?_
    refine held_skip 7 rfl rfl (by kernel_rfl) (by kernel_rfl) (by kernel_rfl) (fun _ _ _ h => h) rfl (by assumption) ?_
    refine held_skip 8 rfl rfl (by kernel_rfl) (by kernel_rfl) (by kernel_rfl) (fun _ _ _ h => h) rfl (by assumption) ?_
    refine held_skip 9 rfl rfl (by kernel_rfl) (by kernel_rfl) (by kernel_rfl) (fun _ _ _ h => h) rfl (by assumption) ?_
    refine held_skip 10 rfl rfl (by kernel_rfl) (by kernel_rfl) (by kernel_rfl) (fun _ _ _ h => h) rfl (by assumption) ?_
    refine held_skip 11 rfl rfl (by kernel_rfl) (by kernel_rfl) (by kernel_rfl) (fun _ _ _ h => h) rfl (by assumption) ?_
    refine held_skip 12 rfl rfl (by kernel_rfl) (by kernel_rfl) (by kernel_rfl) (fun _ _ _ h => h) rfl (by assumption) ?_
    refine held_skip 13 rfl rfl (by kernel_rfl) (by kernel_rfl) (by kernel_rfl) (fun _ _ _ h => h) rfl (by assumption) ?_
    refine held_skip 14 rfl rfl (by kernel_rfl) (by kernel_rfl) (by kernel_rfl) (fun _ _ _ h => h) rfl (by assumption) ?_
    refine held_skip 15 rfl rfl (by kernel_rfl) (by kernel_rfl) (by kernel_rfl) (fun _ _ _ h => h) rfl (by assumption) ?_
    refine held_skip 16 rfl rfl (by kernel_rfl) (by kernel_rfl) (by kernel_rfl) (fun _ _ _ h => h) rfl (by assumption) ?_
    refine held_skip 17 rfl rfl (by kernel_rfl) (by kernel_rfl) (by kernel_rfl) (fun _ _ _ h => h) rfl (by assumption) ?_
    refine held_take 18 (d := some 22) (v := _) rfl rfl (fun w _ => rfl) (by kernel_rfl) (by kernel_rfl) (by kernel_rfl) (fun _ _ _ h => h) rfl (by assumption) ?_
    (try simp only [Act.put, List.setIfInBounds_toArray, List.set_cons_zero, List.set_cons_succ])
    refine held_take 19 (d := some 23) (v := _) rfl rfl (fun w _ => rfl) (by kernel_rfl) (by kernel_rfl) (by kernel_rfl) (fun _ _ _ h => h) rfl (by assumption) ?_
    (try simp only [Act.put, List.setIfInBounds_toArray, List.set_cons_zero, List.set_cons_succ])
    refine held_skip 20 rfl rfl (by kernel_rfl) (by kernel_rfl) (by kernel_rfl) (fun _ _ _ h => h) rfl (by assumption) ?_
    refine held_skip 21 rfl rfl (by kernel_rfl) (by kernel_rfl) (by kernel_rfl) (fun _ _ _ h => h) rfl (by assumption) ?_
    refine held_skip 22 rfl rfl (by kernel_rfl) (by kernel_rfl) (by kernel_rfl) (fun _ _ _ h => h) rfl (by assumption) ?_
    refine held_skip 23 rfl rfl (by kernel_rfl) (by kernel_rfl) (by kernel_rfl) (fun _ _ _ h => h) rfl (by assumption) ?_
    refine held_skip 24 rfl rfl (by kernel_rfl) (by kernel_rfl) (by kernel_rfl) (fun _ _ _ h => h) rfl (by assumption) ?_
    refine held_skip 25 rfl rfl (by kernel_rfl) (by kernel_rfl) (by kernel_rfl) (fun _ _ _ h => h) rfl (by assumption) ?_
    refine held_skip 26 rfl rfl (by kernel_rfl) (by kernel_rfl) (by kernel_rfl) (fun _ _ _ h => h) rfl (by assumption) ?_
    refine held_take 27 (d := some 31) (v := _) rfl rfl (fun w _ => rfl) (by kernel_rfl) (by kernel_rfl) (by kernel_rfl) (fun _ _ _ h => h) rfl (by assumption) ?_
    (try simp only [Act.put, List.setIfInBounds_toArray, List.set_cons_zero, List.set_cons_succ])
    refine held_take 28 (d := some 2) (v := _) rfl rfl (fun w _ => rfl) (by kernel_rfl) (by kernel_rfl) (by kernel_rfl) (fun _ _ _ h => h) rfl (by assumption) ?_
    (try simp only [Act.put, List.setIfInBounds_toArray, List.set_cons_zero, List.set_cons_succ])
    refine wpAnyH_done (by kernel_rfl) ?_ _
    go_wp2
    go_ret
    exact ⟨by simp [mayOk, hh], hb1⟩
  · have hh' := of_decide_eq_true hh
    obtain ⟨p1, p2, q1, q2, q3, q4, -⟩ := hh'
    cases hl : decide ((l.length : Int) = many f s)
    · have hl' : ((l.length : Int) == many f s) = false := by simpa using hl
      go_upto_region 2 with (fail)
      refine wp_region_held_drew (S := (fun w' => w'.cell? ⟨g, 2, none⟩ = some (.int .i64 s) ∧ w'.cell? ⟨g, 3, none⟩ = some (.int .i64 f) ∧ w'.cell? ⟨g, 6, none⟩ = some (.slice A l.length m))) (by kernel_rfl) (by exact ⟨k2, k3, k6⟩) (fun hHeld => ?_)
      refine held_take 0 (d := some 4) (v := _) rfl rfl (fun w _ => rfl) (by kernel_rfl) (by kernel_rfl) (by kernel_rfl) (fun _ _ _ h => h) rfl (by assumption) ?_
      (try simp only [Act.put, List.setIfInBounds_toArray, List.set_cons_zero, List.set_cons_succ])
      refine wpAnyH_ready (rs := [1]) (by kernel_rfl) (by simp) ?_
      refine AllReadyH.cons rfl (fun K hK => ?_) AllReadyH.nil
      go_simp
      (go_at_call 33; refine (head_any g _ _ _ _ _ _ _ _ _ _ (BC.drew hI)).mono ?_; rw [hh]; rintro e w1 ⟨rfl, hb⟩; have hb1 := below_next (L.below_drew (Below.refl w.heap.size w)) hb; clear hb)
      refine hK.out _ _ (by exact ⟨cell_below hb1 k2, cell_below hb1 k3, cell_below hb1 k6⟩) (fun hHeld => ?_)
      clear hK K
      (try simp only [Act.put, List.setIfInBounds_toArray, List.set_cons_zero, List.set_cons_succ])
      refine held_take 2 (d := some 6) (v := _) rfl rfl (fun w _ => rfl) (by kernel_rfl) (by kernel_rfl) (by kernel_rfl) (fun _ _ _ h => h) rfl (by assumption) ?_
      (try simp only [Act.put, List.setIfInBounds_toArray, List.set_cons_zero, List.set_cons_succ])
      refine held_take 3 (d := some 7) (v := _) rfl rfl (fun w _ => rfl) (by kernel_rfl) (by kernel_rfl) (by kernel_rfl) (fun _ _ _ h => h) rfl (by assumption) ?_
      (try simp only [Act.put, List.setIfInBounds_toArray, List.set_cons_zero, List.set_cons_succ])
      refine held_take 4 (d := some 8) (v := _) rfl rfl (fun w _ => rfl) (by kernel_rfl) (by kernel_rfl) (by kernel_rfl) (fun _ _ _ h => h) rfl (by assumption) ?_
      (try simp only [Act.put, List.setIfInBounds_toArray, List.set_cons_zero, List.set_cons_succ])
      refine held_take 5 (d := some 9) (v := _) rfl rfl (fun w _ => rfl) (by kernel_rfl) (by kernel_rfl) (by kernel_rfl) (fun _ _ _ h => h) rfl (by assumption) ?_
      (try simp only [Act.put, List.setIfInBounds_toArray, List.set_cons_zero, List.set_cons_succ])
      refine held_take 6 (d := some 10) (v := .slice A l.length m) rfl rfl (fun w hSw => by obtain ⟨h2, h3, h6⟩ := hSw; show some _ = some _; refine congrArg some ?_; go_simp) (by kernel_rfl) (by kernel_rfl) (by kernel_rfl) (fun _ _ _ h => h) rfl (by assumption) ?_
      (try simp only [Act.put, List.setIfInBounds_toArray, List.set_cons_zero, List.set_cons_succ])
      refine held_take 7 (d := some 11) (v := .int .i64 l.length) rfl rfl (fun w hSw => by obtain ⟨h2, h3, h6⟩ := hSw; show some _ = some _; refine congrArg some ?_; go_simp) (by kernel_rfl) (by kernel_rfl) (by kernel_rfl) (fun _ _ _ h => h) rfl (by assumption) ?_
      (try simp only [Act.put, List.setIfInBounds_toArray, List.set_cons_zero, List.set_cons_succ])
      refine held_take 8 (d := some 12) (v := _) rfl rfl (fun w _ => rfl) (by kernel_rfl) (by kernel_rfl) (by kernel_rfl) (fun _ _ _ h => h) rfl (by assumption) ?_
      (try simp only [Act.put, List.setIfInBounds_toArray, List.set_cons_zero, List.set_cons_succ])
      refine held_take 9 (d := some 13) (v := _) rfl rfl (fun w _ => rfl) (by kernel_rfl) (by kernel_rfl) (by kernel_rfl) (fun _ _ _ h => h) rfl (by assumption) ?_
      (try simp only [Act.put, List.setIfInBounds_toArray, List.set_cons_zero, List.set_cons_succ])
      refine held_take 10 (d := some 14) (v := _) rfl rfl (fun w _ => rfl) (by kernel_rfl) (by kernel_rfl) (by kernel_rfl) (fun _ _ _ h => h) rfl (by assumption) ?_
      (try simp only [Act.put, List.setIfInBounds_toArray, List.set_cons_zero, List.set_cons_succ])
      refine held_take 11 (d := some 15) (v := .int .i64 f) rfl rfl (fun w hSw => by obtain ⟨h2, h3, h6⟩ := hSw; show some _ = some _; refine congrArg some ?_; go_simp) (by kernel_rfl) (by kernel_rfl) (by kernel_rfl) (fun _ _ _ h => h) rfl (by assumption) ?_
      (try simp only [Act.put, List.setIfInBounds_toArray, List.set_cons_zero, List.set_cons_succ])
      refine held_take 12 (d := some 16) (v := _) rfl rfl (fun w _ => rfl) (by kernel_rfl) (by kernel_rfl) (by kernel_rfl) (fun _ _ _ h => h) rfl (by assumption) ?_
      (try simp only [Act.put, List.setIfInBounds_toArray, List.set_cons_zero, List.set_cons_succ])
      refine held_take 13 (d := some 17) (v := _) rfl rfl (fun w _ => rfl) (by kernel_rfl) (by kernel_rfl) (by kernel_rfl) (fun _ _ _ h => h) rfl (by assumption) ?_
      (try simp only [Act.put, List.setIfInBounds_toArray, List.set_cons_zero, List.set_cons_succ])
      refine held_take 14 (d := some 18) (v := _) rfl rfl (fun w _ => rfl) (by kernel_rfl) (by kernel_rfl) (by kernel_rfl) (fun _ _ _ h => h) rfl (by assumption) ?_
      (try simp only [Act.put, List.setIfInBounds_toArray, List.set_cons_zero, List.set_cons_succ])
      refine held_take 15 (d := some 19) (v := .int .i64 s) rfl rfl (fun w hSw => by obtain ⟨h2, h3, h6⟩ := hSw; show some _ = some _; refine congrArg some ?_; go_simp) (by kernel_rfl) (by kernel_rfl) (by kernel_rfl) (fun _ _ _ h => h) rfl (by assumption) ?_
      (try simp only [Act.put, List.setIfInBounds_toArray, List.set_cons_zero, List.set_cons_succ])
      refine wpAnyH_ready (rs := [16]) (by kernel_rfl) (by simp) ?_
      refine AllReadyH.cons rfl (fun K hK => ?_) AllReadyH.nil
      go_simp
      (go_at_call 34; refine (stream_Many.calls _ _ _ _ (many_eq q1 q2 q3 q4)).mono ?_; rintro e w2 ⟨rfl, ⟨⟨m2, rfl⟩⟩⟩; have hb2 := L.below_drewN hb1 m2)
      refine hK.out _ _ (by exact ⟨cell_below hb2 k2, cell_below hb2 k3, cell_below hb2 k6⟩) (fun hHeld => ?_)
      clear hK K
      (try simp only [Act.put, List.setIfInBounds_toArray, List.set_cons_zero, List.set_cons_succ])
      refine held_take 17 (d := some 21) (v := .bool false) rfl rfl (fun w hSw => by obtain ⟨h2, h3, h6⟩ := hSw; show some _ = some _; refine congrArg some ?_; go_simp) (by kernel_rfl) (by kernel_rfl) (by kernel_rfl) (fun _ _ _ h => h) rfl (by assumption) ?_
      (try simp only [Act.put, List.setIfInBounds_toArray, List.set_cons_zero, List.set_cons_succ])
      refine held_take 18 (d := some 22) (v := _) rfl rfl (fun w _ => rfl) (by kernel_rfl) (by kernel_rfl) (by kernel_rfl) (fun _ _ _ h => h) rfl (by assumption) ?_
      (try simp only [Act.put, List.setIfInBounds_toArray, List.set_cons_zero, List.set_cons_succ])
      refine held_take 19 (d := some 23) (v := _) rfl rfl (fun w _ => rfl) (by kernel_rfl) (by kernel_rfl) (by kernel_rfl) (fun _ _ _ h => h) rfl (by assumption) ?_
      (try simp only [Act.put, List.setIfInBounds_toArray, List.set_cons_zero, List.set_cons_succ])
      refine held_skip 20 rfl rfl (by kernel_rfl) (by kernel_rfl) (by kernel_rfl) (fun _ _ _ h => h) rfl (by assumption) ?_
      refine held_skip 21 rfl rfl (by kernel_rfl) (by kernel_rfl) (by kernel_rfl) (fun _ _ _ h => h) rfl (by assumption) ?_
      refine held_skip 22 rfl rfl (by kernel_rfl) (by kernel_rfl) (by kernel_rfl) (fun _ _ _ h => h) rfl (by assumption) ?_
      refine held_skip 23 rfl rfl (by kernel_rfl) (by kernel_rfl) (by kernel_rfl) (fun _ _ _ h => h) rfl (by assumption) ?_
      refine held_skip 24 rfl rfl (by kernel_rfl) (by kernel_rfl) (by kernel_rfl) (fun _ _ _ h => h) rfl (by assumption) ?_
      refine held_skip 25 rfl rfl (by kernel_rfl) (by kernel_rfl) (by kernel_rfl) (fun _ _ _ h => h) rfl (by assumption) ?_
      refine held_skip 26 rfl rfl (by kernel_rfl) (by kernel_rfl) (by kernel_rfl) (fun _ _ _ h => h) rfl (by assumption) ?_
      refine held_take 27 (d := some 31) (v := _) rfl rfl (fun w _ => rfl) (by kernel_rfl) (by kernel_rfl) (by kernel_rfl) (fun _ _ _ h => h) rfl (by assumption) ?_
      (try simp only [Act.put, List.setIfInBounds_toArray, List.set_cons_zero, List.set_cons_succ])
      refine held_take 28 (d := some 2) (v := _) rfl rfl (fun w _ => rfl) (by kernel_rfl) (by kernel_rfl) (by kernel_rfl) (fun _ _ _ h => h) rfl (by assumption) ?_
      (try simp only [Act.put, List.setIfInBounds_toArray, List.set_cons_zero, List.set_cons_succ])
      refine wpAnyH_done (by kernel_rfl) ?_ _
      go_wp2
      go_ret
      exact ⟨by simp [mayOk, hh, hl], hb2⟩
    · have hl' : ((l.length : Int) == many f s) = true := by simpa using hl
      go_upto_region 2 with (fail)
      go_region_held3 (fun w' => w'.cell? ⟨g, 2, none⟩ = some (.int .i64 s) ∧ w'.cell? ⟨g, 3, none⟩ = some (.int .i64 f) ∧ w'.cell? ⟨g, 6, none⟩ = some (.slice A l.length m))
        (first | exact ⟨k2, k3, k6⟩ | exact ⟨cell_below hb3 k2, cell_below hb3 k3, cell_below hb3 k6⟩ | exact ⟨cell_below hb2 k2, cell_below hb2 k3, cell_below hb2 k6⟩ | exact ⟨cell_below hb1 k2, cell_below hb1 k3, cell_below hb1 k6⟩)
        (first | (go_at_call 33; refine (head_any g _ _ _ _ _ _ _ _ _ _ (BC.drew hI)).mono ?_; rw [hh]; rintro e w1 ⟨rfl, hb⟩; have hb1 := below_next (L.below_drew (Below.refl w.heap.size w)) hb; clear hb) | (go_at_call 34; refine (stream_Many.calls _ _ _ _ (many_eq q1 q2 q3 q4)).mono ?_; rintro e w2 ⟨rfl, ⟨⟨m2, rfl⟩⟩⟩; have hb2 := L.below_drewN hb1 m2) | (go_at_call 38; refine (contains_any A m l _ (Kd.C_below hr hb2) hn).mono ?_; rintro e w2 ⟨rfl, ⟨⟨m3, rfl⟩⟩⟩; have hb3 := L.below_drewN hb2 m3))
      all_goals
        go_wp2
        go_ret
        exact ⟨by simp [mayOk, hh, hl, okTexts], by rw [← World.drewN_drewN]; exact hb3⟩
end Go.Proofs.Ytokegkpbbhegpaa
