/- stream's reader: take, number, field. -/
import Derived.Test.YtokegkpbbhegpaaWPutA
import Derived.Deep.QuietTactic
import Derived.BigQuiet
import Derived.BigRegion
namespace Go.Proofs.Ytokegkpbbhegpaa
open Go.RowKit Go.Proofs.YtokegkpbbhegpaaW.PrintWords Go.Proofs.Ytokegkpbbhegpaa.PL Go.Proofs.Ytokegkpbbhegpaa.L
set_option linter.unusedVariables false
set_option linter.unusedSimpArgs false

/-- Block g is a reader. -/
def RB (w : World) (g : Nat) (s : ByteArray) (i : Int) (b : Bool) : Prop := BC w g 70 [.string s, .int .i64 i, .bool b]
set_option maxHeartbeats 4000000 in
set_option maxRecDepth 100000 in
theorem take_bad (g : Nat) (s : ByteArray) (i n : Int) (w : World) (hI : RB w g s i true) :
    Calls Try.prog 30 #[.pointer (some ⟨g, 0, none⟩), .int .i64 n] w fun e w' => e = .returned (.string ⟨#[]⟩) ∧ RB w' g s i true ∧ But w w' g := by
  have k0 := BC.at_ hI (o := 0) rfl
  have k1 := BC.at_ hI (o := 1) rfl
  have k2 := BC.at_ hI (o := 2) rfl
  have f2 := BC.frozen hI 2
  go_enter Try.func30, Try.ntmps30
  go_wp2
  go_region
  go_wp2
  go_ret
  exact ⟨rfl, BC.set (BC.drew hI) 2 _, But.set (But.drew (But.refl w g)) 2 _⟩
set_option maxHeartbeats 4000000 in
set_option maxRecDepth 100000 in
theorem take_neg (g : Nat) (s : ByteArray) (i n : Int) (w : World) (hI : RB w g s i false) (hn : n < 0) :
    Calls Try.prog 30 #[.pointer (some ⟨g, 0, none⟩), .int .i64 n] w fun e w' => e = .returned (.string ⟨#[]⟩) ∧ RB w' g s i true ∧ But w w' g := by
  have k0 := BC.at_ hI (o := 0) rfl
  have k1 := BC.at_ hI (o := 1) rfl
  have k2 := BC.at_ hI (o := 2) rfl
  have f2 := BC.frozen hI 2
  have d1 : decide (n < 0) = true := decide_eq_true hn
  go_enter Try.func30, Try.ntmps30
  go_wp2
  go_region
  go_wp2
  go_ret
  exact ⟨rfl, BC.set (BC.drew hI) 2 _, But.set (But.drew (But.refl w g)) 2 _⟩
set_option maxHeartbeats 4000000 in
set_option maxRecDepth 100000 in
theorem take_far (g : Nat) (s : ByteArray) (i n : Int) (w : World) (hI : RB w g s i false) (hs : s.size ≤ 65536) (hi : 0 ≤ i) (hi2 : i ≤ s.size) (hn : 0 ≤ n) (hf : s.size - i < n) :
    Calls Try.prog 30 #[.pointer (some ⟨g, 0, none⟩), .int .i64 n] w fun e w' => e = .returned (.string ⟨#[]⟩) ∧ RB w' g s i true ∧ But w w' g := by
  have k0 := BC.at_ hI (o := 0) rfl
  have k1 := BC.at_ hI (o := 1) rfl
  have k2 := BC.at_ hI (o := 2) rfl
  have f2 := BC.frozen hI 2
  have d1 : decide (n < 0) = false := decide_eq_false (by omega)
  have d2 : decide ((s.size : Int) - i < n) = true := decide_eq_true hf
  have e1 : IntKind.i64.wrap ((s.size : Int) - i) = (s.size : Int) - i := IntWalk.i64_in _ (by omega)
  go_enter Try.func30, Try.ntmps30
  go_wp2
  go_region
  go_wp2
  go_ret
  exact ⟨rfl, BC.set (BC.drew hI) 2 _, But.set (But.drew (But.refl w g)) 2 _⟩
set_option maxHeartbeats 4000000 in
set_option maxRecDepth 100000 in
theorem take_yes (g : Nat) (s : ByteArray) (i n : Int) (w : World) (hI : RB w g s i false) (hs : s.size ≤ 65536) (hi : 0 ≤ i) (hn : 0 ≤ n) (hf : i + n ≤ s.size) :
    Calls Try.prog 30 #[.pointer (some ⟨g, 0, none⟩), .int .i64 n] w fun e w' => e = .returned (.string (s.extract i.toNat (i + n).toNat)) ∧ RB w' g s (i + n) false ∧ But w w' g := by
  have k0 := BC.at_ hI (o := 0) rfl
  have k1 := BC.at_ hI (o := 1) rfl
  have k2 := BC.at_ hI (o := 2) rfl
  have f2 := BC.frozen hI 2
  have d1 : decide (n < 0) = false := decide_eq_false (by omega)
  have d2 : decide ((s.size : Int) - i < n) = false := decide_eq_false (by omega)
  have e1 : IntKind.i64.wrap ((s.size : Int) - i) = (s.size : Int) - i := IntWalk.i64_in _ (by omega)
  have e2 : IntKind.i64.wrap (i + n) = i + n := IntWalk.i64_in _ (by omega)
  have e3 : IntKind.i64.wrap (i + n - n) = i := by rw [show i + n - n = i by omega]; exact IntWalk.i64_in _ (by omega)
  go_enter Try.func30, Try.ntmps30
  go_wp2
  go_region
  have f1 := BC.frozen hI 1
  have q1 : (0 : Int) ≤ i := hi
  have q2 : i ≤ i + n := by omega
  have q3 : i + n ≤ (s.size : Int) := hf
  go_wp2
  go_region
  go_wp2
  go_ret
  exact ⟨rfl, BC.drew (BC.drew (BC.set (BC.set hI 2 _) 1 _)), But.drew (But.drew (But.set (But.set (But.refl w g) 2 _) 1 _))⟩
def takeT (s : ByteArray) (i : Int) (b : Bool) (n : Int) : ByteArray × Int × Bool := if b = true ∨ n < 0 ∨ s.size - i < n then (⟨#[]⟩, i, true) else (s.extract i.toNat (i + n).toNat, i + n, false)
theorem take_any (g : Nat) (s : ByteArray) (i n : Int) (b : Bool) (w : World) (hI : RB w g s i b) (hs : s.size ≤ 65536) (hi : 0 ≤ i) (hi2 : i ≤ s.size) :
    Calls Try.prog 30 #[.pointer (some ⟨g, 0, none⟩), .int .i64 n] w fun e w' => e = .returned (.string (takeT s i b n).1) ∧ RB w' g s (takeT s i b n).2.1 (takeT s i b n).2.2 ∧ But w w' g := by
  unfold takeT
  cases b
  · by_cases h1 : n < 0
    · rw [if_pos (.inr (.inl h1))]; exact take_neg g s i n w hI h1
    · by_cases h2 : s.size - i < n
      · rw [if_pos (.inr (.inr h2))]; exact take_far g s i n w hI hs hi hi2 (by omega) h2
      · rw [if_neg (by rintro (h | h | h); exact absurd h (by decide); exact h1 h; exact h2 h)]; exact take_yes g s i n w hI hs hi (by omega) (by omega)
  · rw [if_pos (.inl rfl)]; exact take_bad g s i n w hI
theorem takeT_in {s : ByteArray} {i : Int} {b : Bool} {n : Int} (hi : 0 ≤ i) (hi2 : i ≤ s.size) : 0 ≤ (takeT s i b n).2.1 ∧ (takeT s i b n).2.1 ≤ s.size := by
  unfold takeT
  split
  · exact ⟨hi, hi2⟩
  · rename_i h
    exact ⟨by simp only []; omega, by simp only []; omega⟩
set_option maxHeartbeats 4000000 in
set_option maxRecDepth 100000 in
theorem field_any (g k : Nat) (s : ByteArray) (i n x e0 : Int) (b : Bool) (w : World) (hI : RB w g s i b) (hs : s.size ≤ 65536) (hi : 0 ≤ i) (hi2 : i ≤ s.size) (hx : field_Get.f k (takeT s i b n).1 = some (x, e0)) :
    Calls Try.prog 31 #[.pointer (some ⟨g, 0, none⟩), .int .i64 n] w fun e w' => e = .returned (.int .i64 x) ∧ RB w' g s (takeT s i b n).2.1 (takeT s i b n).2.2 ∧ But w w' g := by
  go_enter Try.func31, Try.ntmps31
  go_wp2_with (first | (go_at_call 30; refine (take_any g s i n b _ hI hs hi hi2).mono ?_; rintro e w1 ⟨rfl, h1, h2⟩) | (go_at_call 47; refine (field_Get.calls k _ _ _ _ hx).mono ?_; rintro e w2 ⟨rfl, ⟨⟨m, rfl⟩⟩⟩))
  go_ret
  exact ⟨rfl, BC.drewN h1 m, But.drewN h2 m⟩
def numT (i : Int) (b : Bool) (v : Int × Int × Int) : Int × Int × Bool := if b = true ∨ v.2.2 ≠ 0 then (0, i, true) else (v.1, v.2.1, false)
set_option maxHeartbeats 4000000 in
set_option maxRecDepth 100000 in
theorem rnumber_any (g k : Nat) (s : ByteArray) (i x nx e0 : Int) (b : Bool) (w : World) (hI : RB w g s i b) (hx : varint_Get.f k s i = some (x, nx, e0)) :
    Calls Try.prog 32 #[.pointer (some ⟨g, 0, none⟩)] w fun e w' => e = .returned (.int .i64 (numT i b (x, nx, e0)).1) ∧ RB w' g s (numT i b (x, nx, e0)).2.1 (numT i b (x, nx, e0)).2.2 ∧ But w w' g := by
  have k0 := BC.at_ hI (o := 0) rfl
  have k1 := BC.at_ hI (o := 1) rfl
  go_enter Try.func32, Try.ntmps32
  go_upto_region 1 with (fail)
  go_region_held3 (fun w' => w'.cell? ⟨g, 0, none⟩ = some (.string s) ∧ w'.cell? ⟨g, 1, none⟩ = some (.int .i64 i))
    (first | exact ⟨k0, k1⟩ | exact ⟨cell_below hb k0, cell_below hb k1⟩)
    (first | (go_at_call 48; refine (varint_Get.calls k s i _ _ _ _ hx).mono ?_; rintro e w1 ⟨rfl, hb0⟩; have hb := below_next (L.below_drew (Below.refl w.heap.size w)) hb0; have hI1 : RB w1 g s i b := BC.below (BC.drew hI) hb0))
  clear k0 k1
  have k1 := BC.at_ hI1 (o := 1) rfl
  have k2 := BC.at_ hI1 (o := 2) rfl
  have f1 := BC.frozen hI1 1
  have f2 := BC.frozen hI1 2
  have hbt := But.of_below hb g
  clear hb0 hb hI hx
  cases b
  · by_cases he : e0 = 0
    · subst he
      go_wp2
      go_ret
      exact ⟨rfl, BC.set (BC.set hI1 2 (.bool false)) 1 (.int .i64 nx), But.set (But.set hbt 2 _) 1 _⟩
    · have d1 : (e0 != 0) = true := by simpa using he
      have en := Lib.hid (show numT i false (x, nx, e0) = (0, i, true) from if_pos (.inr he))
      have he := Lib.hid he
      go_wp2
      go_ret
      exact ⟨by rw [en.out]; rfl, by rw [en.out]; exact BC.set hI1 2 (.bool true), But.set hbt 2 _⟩
  · have en := Lib.hid (show numT i true (x, nx, e0) = (0, i, true) from if_pos (.inl rfl))
    go_wp2
    go_ret
    exact ⟨by rw [en.out]; rfl, by rw [en.out]; exact BC.set hI1 2 (.bool true), But.set hbt 2 _⟩
end Go.Proofs.Ytokegkpbbhegpaa
