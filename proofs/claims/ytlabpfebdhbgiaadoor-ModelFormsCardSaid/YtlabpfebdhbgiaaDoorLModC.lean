/- A model that learns again and again in one context: its six numbers (chapter 9). -/
import Derived.Test.YtlabpfebdhbgiaaDoorLModB
namespace Go.Proofs.YtlabpfebdhbgiaaDoor
open Go.RowKit
set_option linter.unusedVariables false
set_option linter.unusedSimpArgs false

theorem getD_set_eq {L : List Int} {i : Nat} {v : Int} (h : i < L.length) : (L.set i v).getD i 0 = v := by
  simp [List.getD_eq_getElem?_getD, List.getElem?_set_self h]
theorem lM_get {M : List Int} {x y z : Nat} {bit : Int} (hM : M.length = 195) (hx : x < 64) (hy : y < 64) (hz : z < 64) :
    (lM M x y z bit).getD x 0 = cUp (M.getD x 0) bit ∧ (lM M x y z bit).getD (64 + y) 0 = cUp (M.getD (64 + y) 0) bit ∧ (lM M x y z bit).getD (128 + z) 0 = cUp (M.getD (128 + z) 0) bit ∧
    (lM M x y z bit).getD 192 0 = lW M x y z bit 0 x ∧ (lM M x y z bit).getD 193 0 = lW M x y z bit 1 (64 + y) ∧ (lM M x y z bit).getD 194 0 = lW M x y z bit 2 (128 + z) := by
  unfold lM lA
  refine ⟨?_, ?_, ?_, ?_, ?_, ?_⟩
  · rw [getD_set_ne (by omega), getD_set_ne (by omega), getD_set_eq (by simp; omega)]
  · rw [getD_set_ne (by omega), getD_set_eq (by simp; omega)]
  · rw [getD_set_eq (by simp; omega)]
  · rw [getD_set_ne (by omega), getD_set_ne (by omega), getD_set_ne (by omega), getD_set_ne (by omega), getD_set_ne (by omega), getD_set_eq (by omega)]
  · rw [getD_set_ne (by omega), getD_set_ne (by omega), getD_set_ne (by omega), getD_set_ne (by omega), getD_set_eq (by simp; omega)]
  · rw [getD_set_ne (by omega), getD_set_ne (by omega), getD_set_ne (by omega), getD_set_eq (by simp; omega)]
theorem lM_get_ne {M : List Int} {x y z : Nat} {bit : Int} {j : Nat} (h0 : j ≠ x) (h1 : j ≠ 64 + y) (h2 : j ≠ 128 + z) (h3 : j < 192) : (lM M x y z bit).getD j 0 = M.getD j 0 := by
  unfold lM
  rw [getD_set_ne (by omega), getD_set_ne (by omega), getD_set_ne (by omega), lA_get h3]
theorem cUp_may {c bit : Int} (h : cMay c = true) (h0 : 0 ≤ bit) (h1 : bit ≤ 1) : cMay (cUp c bit) = true := by
  obtain ⟨a, b⟩ := cMay_iff.1 h
  rw [cMay_iff]; unfold cUp; split <;> omega
theorem lM_may {M : List Int} {x y z : Nat} {bit : Int} (hM : M.length = 195) (hx : x < 64) (hy : y < 64) (hz : z < 64) (h0 : 0 ≤ bit) (h1 : bit ≤ 1) (h : mMay M = true) : mMay (lM M x y z bit) = true := by
  have hg := mMay_good hM h
  obtain ⟨g0, g1, g2, g3, g4, g5⟩ := lM_get (bit := bit) hM hx hy hz
  rw [mMay_yes (by rw [lM_length]; exact hM)]
  · rw [g3, g4, g5, in3_iff]
    have a := tw_range (M.getD (192 + 0) 0) (mi M x) (4096 * bit - dot (M.getD 192 0) (M.getD 193 0) (M.getD 194 0) (mi M x) (mi M (64 + y)) (mi M (128 + z)))
    have b := tw_range (M.getD (192 + 1) 0) (mi M (64 + y)) (4096 * bit - dot (M.getD 192 0) (M.getD 193 0) (M.getD 194 0) (mi M x) (mi M (64 + y)) (mi M (128 + z)))
    have c := tw_range (M.getD (192 + 2) 0) (mi M (128 + z)) (4096 * bit - dot (M.getD 192 0) (M.getD 193 0) (M.getD 194 0) (mi M x) (mi M (64 + y)) (mi M (128 + z)))
    unfold lW
    exact ⟨a.1, a.2, b.1, b.2, c.1, c.2⟩
  · intro j hj
    by_cases e0 : j = x
    · subst e0; rw [g0]; exact cUp_may (hg _ (by omega)) h0 h1
    · by_cases e1 : j = 64 + y
      · subst e1; rw [g1]; exact cUp_may (hg _ (by omega)) h0 h1
      · by_cases e2 : j = 128 + z
        · subst e2; rw [g2]; exact cUp_may (hg _ (by omega)) h0 h1
        · rw [lM_get_ne e0 e1 e2 hj]; exact hg _ hj
/-- A new model that learned the bits f 0, f 1, .. in one context. -/
def itM (f : Nat → Int) (x y z : Nat) : Nat → List Int
  | 0 => newM
  | n + 1 => lM (itM f x y z n) x y z (f n)
theorem itM_length (f : Nat → Int) (x y z : Nat) : ∀ n, (itM f x y z n).length = 195
  | 0 => newM_length
  | n + 1 => by rw [itM, lM_length]; exact itM_length f x y z n
theorem newM_may : mMay newM = true := by decide +kernel
theorem itM_may (f : Nat → Int) (hf : ∀ n, 0 ≤ f n ∧ f n ≤ 1) {x y z : Nat} (hx : x < 64) (hy : y < 64) (hz : z < 64) : ∀ n, mMay (itM f x y z n) = true
  | 0 => newM_may
  | n + 1 => lM_may (itM_length f x y z n) hx hy hz (hf n).1 (hf n).2 (itM_may f hf hx hy hz n)
/-- The six numbers of a model that one context turns. -/
def six (L : List Int) (x y z : Nat) : Int × Int × Int × Int × Int × Int := (L.getD x 0, L.getD (64 + y) 0, L.getD (128 + z) 0, L.getD 192 0, L.getD 193 0, L.getD 194 0)
def dot6 (s : Int × Int × Int × Int × Int × Int) : Int := dot s.2.2.2.1 s.2.2.2.2.1 s.2.2.2.2.2 (st (cCh s.1)) (st (cCh s.2.1)) (st (cCh s.2.2.1))
def step6 (s : Int × Int × Int × Int × Int × Int) (bit : Int) : Int × Int × Int × Int × Int × Int :=
  (cUp s.1 bit, cUp s.2.1 bit, cUp s.2.2.1 bit, tw s.2.2.2.1 (st (cCh s.1)) (4096 * bit - dot6 s), tw s.2.2.2.2.1 (st (cCh s.2.1)) (4096 * bit - dot6 s), tw s.2.2.2.2.2 (st (cCh s.2.2.1)) (4096 * bit - dot6 s))
def start6 : Int × Int × Int × Int × Int × Int := (32768, 32768, 32768, 22000, 22000, 22000)
def it6 (f : Nat → Int) : Nat → Int × Int × Int × Int × Int × Int
  | 0 => start6
  | n + 1 => step6 (it6 f n) (f n)
theorem newM_low : ∀ j, j < 192 → newM.getD j 0 = 32768 := by decide +kernel
theorem newM_six {x y z : Nat} (hx : x < 64) (hy : y < 64) (hz : z < 64) : six newM x y z = start6 := by
  unfold six
  rw [newM_low x (by omega), newM_low (64 + y) (by omega), newM_low (128 + z) (by omega)]
  rfl
theorem itM_six (f : Nat → Int) {x y z : Nat} (hx : x < 64) (hy : y < 64) (hz : z < 64) : ∀ n, six (itM f x y z n) x y z = it6 f n
  | 0 => newM_six hx hy hz
  | n + 1 => by
    obtain ⟨g0, g1, g2, g3, g4, g5⟩ := lM_get (bit := f n) (itM_length f x y z n) hx hy hz
    rw [it6, ← itM_six f hx hy hz n]
    show six (lM (itM f x y z n) x y z (f n)) x y z = _
    unfold six
    rw [g0, g1, g2, g3, g4, g5]
    rfl
theorem itM_dot (f : Nat → Int) {x y z : Nat} (hx : x < 64) (hy : y < 64) (hz : z < 64) (n : Nat) : mdot (itM f x y z n) x y z = dot6 (it6 f n) := by
  rw [← itM_six f hx hy hz n]; rfl
def oneBit (_ : Nat) : Int := 1
def zeroBit (_ : Nat) : Int := 0
theorem learns_one : 3500 < dot6 (it6 oneBit 60) := by decide +kernel
theorem learns_zero : dot6 (it6 zeroBit 60) < 600 := by decide +kernel
def evenBit (n : Nat) : Int := (n % 2 : Nat)
theorem even_all : ∀ k, k < 64 → 1024 < dot6 (it6 evenBit (2 * k)) ∧ dot6 (it6 evenBit (2 * k)) < 3072 ∧ (it6 evenBit (2 * k)).1 ≠ 0 := by decide +kernel
end Go.Proofs.YtlabpfebdhbgiaaDoor
