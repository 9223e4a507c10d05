/- The texts behind the row, joined: MRA. -/
import Derived.Test.YtiokfaiioealdaaGreatDoorQ1
import Derived.Deep.MidRow
import Derived.Laws.NewBlocks
import Derived.Test.YtiokfaiioealdaaGreatDoorQ2
import Derived.Test.YtiokfaiioealdaaGreatDoorQ3
import Derived.Test.YtiokfaiioealdaaGreatDoorQ5
import Derived.Test.YtiokfaiioealdaaGreatDoorQ7
import Derived.Test.YtiokfaiioealdaaGreatDoorQ13
namespace Go.Proofs.YtiokfaiioealdaaGreatDoor
set_option linter.unusedVariables false
set_option linter.unusedSimpArgs false
def by8 (n : Int) : UInt8 := UInt8.ofNat (n % 256).toNat
theorem by8_val (n : Int) : ((by8 n).toNat : Int) = n % 256 := by unfold by8; rw [UInt8.toNat_ofNat']; omega
def up (x b : Int) : Int := x * 256 % 4294967296 + b
def mid (l h p : Int) : Int := l + (h - l) / 4096 * p + (h - l) % 4096 * p / 4096
theorem mid_in {l h p : Int} (hl : l < h) (h1 : 1 ≤ p) (h2 : p ≤ 4095) : l ≤ mid l h p ∧ mid l h p < h := by
  unfold mid
  have e := Int.mul_ediv_add_emod (h - l) 4096
  have r0 := Int.emod_nonneg (h - l) (show (4096 : Int) ≠ 0 by decide)
  have r1 := Int.emod_lt_of_pos (h - l) (show (0 : Int) < 4096 by decide)
  have q0 : 0 ≤ (h - l) / 4096 := Int.ediv_nonneg (by omega) (by decide)
  generalize (h - l) / 4096 = a at *
  generalize (h - l) % 4096 = b at *
  have ma0 : 0 ≤ a * p := Int.mul_nonneg q0 (by omega)
  have ma1 : a * p ≤ a * 4095 := Int.mul_le_mul_of_nonneg_left h2 q0
  have mb0 : 0 ≤ b * p := Int.mul_nonneg r0 (by omega)
  have mb1 : b * p ≤ b * 4095 := Int.mul_le_mul_of_nonneg_left h2 r0
  omega
/-- Bytes on which both ends agree are told. -/
def norm : Nat → Int → Int → Int × Int × List UInt8
  | 0, l, h => (l, h, [])
  | n + 1, l, h => if l / 16777216 = h / 16777216 then ((norm n (up l 0) (up h 255)).1, (norm n (up l 0) (up h 255)).2.1, by8 (l / 16777216) :: (norm n (up l 0) (up h 255)).2.2) else (l, h, [])
def Ends (l h : Int) : Prop := 0 ≤ l ∧ h ≤ 4294967295 ∧ l / 16777216 < h / 16777216
theorem norm0 {l h : Int} (h0 : 0 ≤ l) (h1 : l ≤ h) (h2 : h ≤ 4294967295) (a : l % 4294967296 = 0) (b : h % 4294967296 = 4294967295) : Ends (norm 0 l h).1 (norm 0 l h).2.1 := by
  unfold norm Ends; simp only []; omega
theorem norm1 {l h : Int} (h0 : 0 ≤ l) (h1 : l ≤ h) (h2 : h ≤ 4294967295) (a : l % 16777216 = 0) (b : h % 16777216 = 16777215) : Ends (norm 1 l h).1 (norm 1 l h).2.1 := by
  unfold norm
  by_cases c : l / 16777216 = h / 16777216
  · rw [if_pos c]; simp only []; unfold up; exact norm0 (by omega) (by omega) (by omega) (by omega) (by omega)
  · rw [if_neg c]; unfold Ends; simp only []; omega
theorem norm2 {l h : Int} (h0 : 0 ≤ l) (h1 : l ≤ h) (h2 : h ≤ 4294967295) (a : l % 65536 = 0) (b : h % 65536 = 65535) : Ends (norm 2 l h).1 (norm 2 l h).2.1 := by
  unfold norm
  by_cases c : l / 16777216 = h / 16777216
  · rw [if_pos c]; simp only []; unfold up; exact norm1 (by omega) (by omega) (by omega) (by omega) (by omega)
  · rw [if_neg c]; unfold Ends; simp only []; omega
theorem norm3 {l h : Int} (h0 : 0 ≤ l) (h1 : l ≤ h) (h2 : h ≤ 4294967295) (a : l % 256 = 0) (b : h % 256 = 255) : Ends (norm 3 l h).1 (norm 3 l h).2.1 := by
  unfold norm
  by_cases c : l / 16777216 = h / 16777216
  · rw [if_pos c]; simp only []; unfold up; exact norm2 (by omega) (by omega) (by omega) (by omega) (by omega)
  · rw [if_neg c]; unfold Ends; simp only []; omega
theorem norm4 {l h : Int} (h0 : 0 ≤ l) (h1 : l ≤ h) (h2 : h ≤ 4294967295) : Ends (norm 4 l h).1 (norm 4 l h).2.1 := by
  unfold norm
  by_cases c : l / 16777216 = h / 16777216
  · rw [if_pos c]; simp only []; unfold up; exact norm3 (by omega) (by omega) (by omega) (by omega) (by omega)
  · rw [if_neg c]; unfold Ends; simp only []; omega
theorem norm_len : ∀ (n : Nat) (l h : Int), (norm n l h).2.2.length ≤ n
  | 0, _, _ => by simp [norm]
  | n + 1, l, h => by
    unfold norm
    split
    · have := norm_len n (up l 0) (up h 255); simp only [List.length_cons]; omega
    · simp
/-- A byte of a text, 0 behind its end; four of them. -/
def byt (s : List UInt8) (i : Nat) : Int := ((s.getD i 0).toNat : Int)
theorem byt_in (s : List UInt8) (i : Nat) : 0 ≤ byt s i ∧ byt s i ≤ 255 := by
  have := (s.getD i 0).toNat_lt
  unfold byt; omega
def win (s : List UInt8) (i : Nat) : Int := byt s i * 16777216 + byt s (i + 1) * 65536 + byt s (i + 2) * 256 + byt s (i + 3)
theorem win_in (s : List UInt8) (i : Nat) : 0 ≤ win s i ∧ win s i ≤ 4294967295 := by
  have a := byt_in s i
  have b := byt_in s (i + 1)
  have c := byt_in s (i + 2)
  have d := byt_in s (i + 3)
  unfold win; omega
theorem win_up (s : List UInt8) (i : Nat) : win s (i + 1) = up (win s i) (byt s (i + 4)) := by
  have a := byt_in s i
  have b := byt_in s (i + 1)
  have c := byt_in s (i + 2)
  have d := byt_in s (i + 3)
  have e := byt_in s (i + 4)
  unfold win up
  rw [show i + 1 + 1 = i + 2 by omega, show i + 1 + 2 = i + 3 by omega, show i + 1 + 3 = i + 4 by omega]
  omega
theorem byt_at {s t u : List UInt8} {x : UInt8} {i : Nat} (h : s = t ++ x :: u) (hi : t.length = i) : byt s i = (x.toNat : Int) := by
  subst h hi
  unfold byt
  simp
set_option maxRecDepth 100000 in
theorem norm_win (s : List UInt8) (n : Nat) : ∀ (l h : Int) (t u : List UInt8), 0 ≤ l → l ≤ h → h ≤ 4294967295 → s = t ++ (norm n l h).2.2 ++ u →
    (norm n l h).1 ≤ win s (t ++ (norm n l h).2.2).length → win s (t ++ (norm n l h).2.2).length ≤ (norm n l h).2.1 → l ≤ win s t.length ∧ win s t.length ≤ h := by
  induction n with
  | zero =>
    intro l h t u h0 h1 h2 hs ha hb
    simp only [norm, List.append_nil] at ha hb
    exact ⟨ha, hb⟩
  | succ n ih =>
    intro l h t u h0 h1 h2 hs ha hb
    rw [norm] at hs ha hb
    by_cases c : l / 16777216 = h / 16777216
    · rw [if_pos c] at hs ha hb
      simp only [] at hs ha hb
      have hl0 : (0 : Int) ≤ up l 0 := by unfold up; omega
      have hlh : up l 0 ≤ up h 255 := by unfold up; omega
      have hh : up h 255 ≤ 4294967295 := by unfold up; omega
      have hs2 : s = (t ++ [by8 (l / 16777216)]) ++ (norm n (up l 0) (up h 255)).2.2 ++ u := by rw [hs]; simp
      have e : t ++ by8 (l / 16777216) :: (norm n (up l 0) (up h 255)).2.2 = (t ++ [by8 (l / 16777216)]) ++ (norm n (up l 0) (up h 255)).2.2 := by simp
      rw [e] at ha hb
      obtain ⟨i1, i2⟩ := ih (up l 0) (up h 255) _ u hl0 hlh hh hs2 ha hb
      rw [List.length_append, List.length_singleton] at i1 i2
      have hbyte : byt s t.length = l / 16777216 := by
        rw [byt_at (t := t) (x := by8 (l / 16777216)) (u := (norm n (up l 0) (up h 255)).2.2 ++ u) (by rw [hs]; simp) rfl, by8_val]
        omega
      rw [win_up] at i1 i2
      have a := byt_in s t.length
      have b := byt_in s (t.length + 1)
      have c' := byt_in s (t.length + 2)
      have d := byt_in s (t.length + 3)
      have e := byt_in s (t.length + 4)
      unfold up at i1 i2
      have hw : win s t.length = l / 16777216 * 16777216 + byt s (t.length + 1) * 65536 + byt s (t.length + 2) * 256 + byt s (t.length + 3) := by unfold win; rw [hbyte]
      omega
    · rw [if_neg c] at ha hb
      simp only [List.append_nil] at ha hb
      exact ⟨ha, hb⟩
/-- A coder: its ends, and what it told. -/
structure Enc where
  l : Int
  h : Int
  out : List UInt8
def encR (E : Enc) (b p : Int) : Int × Int × List UInt8 := if b = 1 then norm 4 E.l (mid E.l E.h p) else norm 4 (mid E.l E.h p + 1) E.h
def encB (E : Enc) (b p : Int) : Enc := ⟨(encR E b p).1, (encR E b p).2.1, E.out ++ (encR E b p).2.2⟩
def enc0 : Enc := ⟨0, 4294967295, []⟩
def encE (E : Enc) : List UInt8 := E.out ++ [by8 (E.l / 16777216), by8 (E.l / 65536), by8 (E.l / 256), by8 E.l]
def Enc.ok (E : Enc) : Prop := Ends E.l E.h
theorem enc0_ok : enc0.ok := by unfold enc0 Enc.ok Ends; decide
theorem enc_lt {E : Enc} (h : E.ok) : E.l < E.h := by unfold Enc.ok Ends at h; omega
theorem encB_ok {E : Enc} {b p : Int} (h : E.ok) (h1 : 1 ≤ p) (h2 : p ≤ 4095) : (encB E b p).ok := by
  have := mid_in (enc_lt h) h1 h2
  obtain ⟨a, c, d⟩ := h
  unfold encB encR Enc.ok
  simp only []
  split
  · exact norm4 (by omega) (by omega) (by omega)
  · exact norm4 (by omega) (by omega) (by omega)
theorem encB_len (E : Enc) (b p : Int) : (encB E b p).out.length ≤ E.out.length + 4 ∧ E.out.length ≤ (encB E b p).out.length := by
  unfold encB
  simp only [List.length_append]
  have : (encR E b p).2.2.length ≤ 4 := by unfold encR; split <;> exact norm_len _ _ _
  omega
/-- A text that goes on from where a coder is. -/
def From (s : List UInt8) (E : Enc) : Prop := E.ok ∧ (∃ u, s = E.out ++ u) ∧ E.l ≤ win s E.out.length ∧ win s E.out.length ≤ E.h
theorem from_end {E : Enc} (h : E.ok) : From (encE E) E := by
  refine ⟨h, ⟨_, rfl⟩, ?_⟩
  obtain ⟨a, c, d⟩ := h
  have b0 : byt (encE E) E.out.length = E.l / 16777216 % 256 := by rw [byt_at (s := encE E) (t := E.out) rfl rfl, by8_val]
  have b1 : byt (encE E) (E.out.length + 1) = E.l / 65536 % 256 := by
    rw [byt_at (t := E.out ++ [by8 (E.l / 16777216)]) (x := by8 (E.l / 65536)) (u := [by8 (E.l / 256), by8 E.l]) (by unfold encE; simp) (by simp), by8_val]
  have b2 : byt (encE E) (E.out.length + 2) = E.l / 256 % 256 := by
    rw [byt_at (t := E.out ++ [by8 (E.l / 16777216), by8 (E.l / 65536)]) (x := by8 (E.l / 256)) (u := [by8 E.l]) (by unfold encE; simp) (by simp), by8_val]
  have b3 : byt (encE E) (E.out.length + 3) = E.l % 256 := by
    rw [byt_at (t := E.out ++ [by8 (E.l / 16777216), by8 (E.l / 65536), by8 (E.l / 256)]) (x := by8 E.l) (u := []) (by unfold encE; simp) (by simp), by8_val]
  unfold win
  rw [b0, b1, b2, b3]
  omega
theorem from_bit {s : List UInt8} {E : Enc} {b p : Int} (h : E.ok) (h1 : 1 ≤ p) (h2 : p ≤ 4095) (hb : b = 0 ∨ b = 1) (hf : From s (encB E b p)) : From s E ∧ (win s E.out.length ≤ mid E.l E.h p ↔ b = 1) := by
  have hm := mid_in (enc_lt h) h1 h2
  obtain ⟨a, c, d⟩ := h
  obtain ⟨-, ⟨u, hs⟩, f1, f2⟩ := hf
  unfold encB encR at hs f1 f2
  simp only [] at hs f1 f2
  rcases hb with rfl | rfl
  · rw [if_neg (by decide)] at hs f1 f2
    obtain ⟨i1, i2⟩ := norm_win s 4 _ _ E.out u (by omega) (by omega) (by omega) hs f1 f2
    exact ⟨⟨⟨a, c, d⟩, ⟨_, by rw [hs, List.append_assoc]⟩, by omega, by omega⟩, by constructor <;> intro <;> omega⟩
  · rw [if_pos rfl] at hs f1 f2
    obtain ⟨i1, i2⟩ := norm_win s 4 _ _ E.out u (by omega) (by omega) (by omega) hs f1 f2
    exact ⟨⟨⟨a, c, d⟩, ⟨_, by rw [hs, List.append_assoc]⟩, by omega, by omega⟩, by constructor <;> intro <;> omega⟩
end Go.Proofs.YtiokfaiioealdaaGreatDoor
namespace Go.Proofs.YtiokfaiioealdaaGreatDoor
set_option linter.unusedVariables false
set_option linter.unusedSimpArgs false
def isZ (bs : List Int) : Bool := decide (bs[gOnes bs]? = some 0)
def cx0 (bs : List Int) : Int := min (gOnes bs : Int) 31 + (if isZ bs then 32 else 0)
def cx1 (before : Int) (bs : List Int) : Int := 2 * min before 31 + (if isZ bs then 1 else 0)
def cx2 (bs : List Int) : Int := min (bs.length : Int) 31 + (if bs.getLast? = some 1 then 32 else 0)
structure St where
  M : List Int
  before : Int
  bits : List Int
/-- A number's fold, and back. -/
def fld (x : Int) : Nat := if x < 0 then (-2 * x - 1).toNat else (2 * x).toNat
def ufld (u : Nat) : Int := if u % 2 = 1 then -((u / 2 : Nat) : Int) - 1 else ((u / 2 : Nat) : Int)
def numOk (x : Int) : Bool := decide (-16777216 ≤ x ∧ x ≤ 16777216)
theorem ufld_fld (x : Int) : ufld (fld x) = x := by unfold ufld fld; split <;> split <;> omega
theorem fld_le {x : Int} (h : numOk x = true) : fld x ≤ 33554432 := by unfold numOk at h; have := of_decide_eq_true h; unfold fld; split <;> omega
/-- A decoder: its ends, where its window begins. -/
structure Dec where
  l : Int
  h : Int
  i : Nat
def dec0 : Dec := ⟨0, 4294967295, 0⟩
def decV (s : List UInt8) (D : Dec) (p : Int) : Int := if win s D.i ≤ mid D.l D.h p then 1 else 0
def decB (s : List UInt8) (D : Dec) (p : Int) : Dec := ⟨(encR ⟨D.l, D.h, []⟩ (decV s D p) p).1, (encR ⟨D.l, D.h, []⟩ (decV s D p) p).2.1, D.i + (encR ⟨D.l, D.h, []⟩ (decV s D p) p).2.2.length⟩
def whole (bs : List Int) : Bool := isZ bs && decide (bs.length = 2 * gOnes bs + 1)
section
variable (P : List Int → Int → Int → Int → Int) (L : List Int → Int → Int → Int → Int → List Int)
def chance (S : St) : Int := P S.M (cx0 S.bits) (cx1 S.before S.bits) (cx2 S.bits)
def lrn (S : St) (b : Int) : St := ⟨L S.M (cx0 S.bits) (cx1 S.before S.bits) (cx2 S.bits) b, S.before, S.bits ++ [b]⟩
def nxt (S : St) : St := ⟨S.M, (gOnes S.bits : Int), []⟩
def putBits : List Int → St × Enc → St × Enc
  | [], x => x
  | b :: r, x => putBits r (lrn L x.1 b, encB x.2 b (chance P x.1))
def putNum (x : Int) (a : St × Enc) : St × Enc := (nxt (putBits P L (gBits (fld x)) a).1, (putBits P L (gBits (fld x)) a).2)
def putNums : List Int → St × Enc → St × Enc
  | [], a => a
  | x :: r, a => putNums r (putNum P L x a)
def putOk (rs : List Int) : Bool := decide (rs.length ≤ 256) && rs.all numOk
def putS (M : List Int) (rs : List Int) : List UInt8 := encE (putNums P L rs (⟨M, 0, []⟩, enc0)).2
/-- One number taken. -/
def takeNum (s : List UInt8) : Nat → St × Dec → Option (Int × St × Dec)
  | 0, _ => none
  | n + 1, a =>
    if whole a.1.bits = true then (if gOk a.1.bits = true ∧ gNum a.1.bits ≤ 33554432 then some (ufld (gNum a.1.bits), nxt a.1, a.2) else none)
    else if isZ a.1.bits = false ∧ 25 < gOnes a.1.bits then none
    else if 65540 < (decB s a.2 (chance P a.1)).i then none
    else takeNum s n (lrn L a.1 (decV s a.2 (chance P a.1)), decB s a.2 (chance P a.1))
def takeAll (s : List UInt8) : Nat → St × Dec → List Int → Option (List Int)
  | 0, _, out => some out
  | n + 1, a, out => match takeNum P L s 60 a with
    | none => none
    | some (x, S, D) => takeAll s n (S, D) (out ++ [x])
def getOk (s : List UInt8) (many : Int) : Bool := decide (s.length ≤ 65536) && (decide (0 ≤ many) && decide (many ≤ 256))
def getS (M : List Int) (s : List UInt8) (many : Int) : Option (List Int) :=
  if getOk s many = true then (match takeAll P L s many.toNat (⟨M, 0, []⟩, dec0) [] with
    | none => none
    | some out => if putOk out = true ∧ putS P L M out = s then some out else none)
  else none
variable {P L}
variable (hP : ∀ M x y z, 1 ≤ P M x y z ∧ P M x y z ≤ 4095)
include hP
theorem putBits_ok : ∀ (bs : List Int) (a : St × Enc), a.2.ok → (putBits P L bs a).2.ok
  | [], _, h => h
  | b :: r, a, h => putBits_ok r _ (encB_ok h (hP _ _ _ _).1 (hP _ _ _ _).2)
omit hP in
theorem putBits_len : ∀ (bs : List Int) (a : St × Enc), a.2.out.length ≤ (putBits P L bs a).2.out.length ∧ (putBits P L bs a).2.out.length ≤ a.2.out.length + 4 * bs.length
  | [], _ => ⟨Nat.le_refl _, by simp [putBits]⟩
  | b :: r, a => by
    have := putBits_len r (lrn L a.1 b, encB a.2 b (chance P a.1))
    have h := encB_len a.2 b (chance P a.1)
    simp only [putBits, List.length_cons]
    simp only [] at this
    omega
omit hP in
theorem putBits_bits : ∀ (bs : List Int) (a : St × Enc), (putBits P L bs a).1.bits = a.1.bits ++ bs ∧ (putBits P L bs a).1.before = a.1.before
  | [], a => by simp [putBits]
  | b :: r, a => by
    obtain ⟨h1, h2⟩ := putBits_bits r (lrn L a.1 b, encB a.2 b (chance P a.1))
    simp only [putBits]
    rw [h1, h2]
    simp [lrn]
theorem putNums_ok : ∀ (rs : List Int) (a : St × Enc), a.2.ok → (putNums P L rs a).2.ok
  | [], _, h => h
  | x :: r, a, h => putNums_ok r _ (putBits_ok hP _ _ h)
omit hP in
theorem gBits_len {u : Nat} (h : u ≤ 33554432) : (gBits u).length ≤ 51 := by rw [gBits_length]; have := log2_le (n := 25) (v := u + 1) (by omega); omega
omit hP in
theorem putNums_len : ∀ (rs : List Int) (a : St × Enc), rs.all numOk = true → a.2.out.length ≤ (putNums P L rs a).2.out.length ∧ (putNums P L rs a).2.out.length ≤ a.2.out.length + 204 * rs.length
  | [], _, _ => ⟨Nat.le_refl _, by simp [putNums]⟩
  | x :: r, a, h => by
    simp only [List.all_cons, Bool.and_eq_true] at h
    have h1 := putNums_len r (putNum P L x a) h.2
    have h2 := putBits_len (P := P) (L := L) (gBits (fld x)) a
    have h3 := gBits_len (fld_le h.1)
    unfold putNum at h1
    simp only [putNums, List.length_cons]
    unfold putNum
    simp only [] at h1 ⊢
    omega
/-- A decoder that stands where a coder stood. -/
def Like (D : Dec) (E : Enc) : Prop := D.l = E.l ∧ D.h = E.h ∧ D.i = E.out.length
omit hP in
theorem like_bit {s : List UInt8} {D : Dec} {E : Enc} {b p : Int} (h : Like D E) (hv : decV s D p = b) : Like (decB s D p) (encB E b p) := by
  obtain ⟨h1, h2, h3⟩ := h
  unfold decB encB encR Like
  rw [hv, h1, h2, h3]
  simp only [List.length_append]
  exact ⟨by trivial, by trivial, by trivial⟩
theorem from_bits {s : List UInt8} : ∀ (bs : List Int) (a : St × Enc), a.2.ok → (∀ b ∈ bs, b = 0 ∨ b = 1) → From s (putBits P L bs a).2 → From s a.2
  | [], _, _, _, h => h
  | b :: r, a, ho, hb, h => by
    have h1 := encB_ok (E := a.2) (b := b) ho (hP a.1.M (cx0 a.1.bits) (cx1 a.1.before a.1.bits) (cx2 a.1.bits)).1 (hP _ _ _ _).2
    exact (from_bit ho (hP _ _ _ _).1 (hP _ _ _ _).2 (hb b (List.mem_cons_self ..)) (from_bits r _ h1 (fun x hx => hb x (List.mem_cons_of_mem _ hx)) h)).1
omit hP in
theorem bits_01 (u : Nat) : ∀ b ∈ gBits u, b = 0 ∨ b = 1 := by
  intro b hb
  unfold gBits at hb
  rcases List.mem_append.1 hb with hb | hb
  · exact .inr (List.eq_of_mem_replicate hb)
  · rcases List.mem_cons.1 hb with hb | hb
    · exact .inl hb
    · have := List.all_eq_true.1 (lowBits_bit (u + 1) (Nat.log2 (u + 1))) b hb
      simp only [isBit, Bool.and_eq_true, decide_eq_true_eq] at this
      omega
omit hP in
theorem whole_gBits (u : Nat) : whole (gBits u) = true := by
  unfold whole isZ
  rw [gBits_zero, gOnes_gBits, gBits_length]; simp
omit hP in
theorem gOnes_take_le (l : List Int) (j : Nat) : gOnes (l.take j) = min j (gOnes l) := by
  induction l generalizing j with
  | nil => simp [gOnes]
  | cons b r ih =>
    cases j with
    | zero => simp [gOnes]
    | succ j =>
      simp only [List.take_succ_cons, gOnes]
      split
      · rw [ih]; omega
      · simp
omit hP in
/-- What begins a number and is not all of it. -/
theorem part_gBits {u j : Nat} (hu : u ≤ 33554432) (h : j < (gBits u).length) : whole ((gBits u).take j) = false ∧ ¬ (isZ ((gBits u).take j) = false ∧ 25 < gOnes ((gBits u).take j)) := by
  have hl := gBits_length u
  have ho := gOnes_gBits u
  have ht := gOnes_take_le (gBits u) j
  have h25 : Nat.log2 (u + 1) ≤ 25 := log2_le (by omega)
  have hlen : ((gBits u).take j).length = j := by rw [List.length_take]; omega
  constructor
  · unfold whole isZ
    rw [hlen, ht, ho]
    by_cases c : j ≤ Nat.log2 (u + 1)
    · rw [show min j (Nat.log2 (u + 1)) = j by omega]
      have : ((gBits u).take j)[j]? = none := List.getElem?_eq_none (by omega)
      rw [this]; simp
    · rw [show min j (Nat.log2 (u + 1)) = Nat.log2 (u + 1) by omega]
      have : decide (j = 2 * Nat.log2 (u + 1) + 1) = false := decide_eq_false (by omega)
      rw [this, Bool.and_false]
  · rintro ⟨-, h2⟩
    rw [ht, ho] at h2
    omega
omit hP in
theorem putBits_append : ∀ (xs ys : List Int) (a : St × Enc), putBits P L (xs ++ ys) a = putBits P L ys (putBits P L xs a)
  | [], _, _ => rfl
  | b :: r, ys, a => putBits_append r ys _
theorem takeNum_back {s : List UInt8} {x : Int} (hx : numOk x = true) : ∀ (n j : Nat) (S : St) (E : Enc) (D : Dec), j + n = (gBits (fld x)).length → S.bits = (gBits (fld x)).take j → E.ok → Like D E → E.out.length + 4 * n ≤ 65540 →
    From s (putBits P L ((gBits (fld x)).drop j) (S, E)).2 → ∀ m, n < m → ∃ D', takeNum P L s m (S, D) = some (x, nxt (putBits P L ((gBits (fld x)).drop j) (S, E)).1, D') ∧ Like D' (putBits P L ((gBits (fld x)).drop j) (S, E)).2
  | 0, j, S, E, D, hj, hS, hE, hD, hl, hf, m, hm => by
    obtain ⟨m, rfl⟩ : ∃ k, m = k + 1 := ⟨m - 1, by omega⟩
    have hfl := fld_le hx
    rw [List.take_of_length_le (by omega)] at hS
    rw [List.drop_of_length_le (by omega)]
    refine ⟨D, ?_, hD⟩
    simp only [takeNum, putBits]
    rw [hS, if_pos (whole_gBits _), if_pos ⟨gOk_gBits hfl, by rw [gNum_gBits]; exact hfl⟩, gNum_gBits, ufld_fld]
  | n + 1, j, S, E, D, hj, hS, hE, hD, hl, hf, m, hm => by
    obtain ⟨m, rfl⟩ : ∃ k, m = k + 1 := ⟨m - 1, by omega⟩
    have hjl : j < (gBits (fld x)).length := by omega
    obtain ⟨w1, w2⟩ := part_gBits (fld_le hx) hjl
    have hdr : (gBits (fld x)).drop j = (gBits (fld x))[j] :: (gBits (fld x)).drop (j + 1) := List.drop_eq_getElem_cons hjl
    obtain ⟨b, hb⟩ : ∃ b, (gBits (fld x))[j] = b := ⟨_, rfl⟩
    rw [hb] at hdr
    have hb01 : b = 0 ∨ b = 1 := bits_01 (fld x) b (by rw [← hb]; exact List.getElem_mem hjl)
    rw [hdr] at hf ⊢
    simp only [putBits] at hf ⊢
    have hE1 := encB_ok (E := E) (b := b) hE (hP S.M (cx0 S.bits) (cx1 S.before S.bits) (cx2 S.bits)).1 (hP _ _ _ _).2
    have hfr := from_bits hP _ _ hE1 (fun y hy => bits_01 (fld x) y (List.mem_of_mem_drop hy)) hf
    obtain ⟨-, hiff⟩ := from_bit hE (hP _ _ _ _).1 (hP _ _ _ _).2 hb01 hfr
    have hiff : win s E.out.length ≤ mid E.l E.h (chance P S) ↔ b = 1 := hiff
    have hdv : decV s D (chance P S) = b := by
      obtain ⟨d1, d2, d3⟩ := hD
      unfold decV
      rw [d1, d2, d3]
      rcases hb01 with rfl | rfl
      · rw [if_neg (fun h => absurd (hiff.1 h) (by decide))]
      · rw [if_pos (hiff.2 rfl)]
    have hD1 := like_bit (s := s) (p := chance P S) hD hdv
    have hEl := encB_len E b (chance P S)
    have hSb : (lrn L S b).bits = (gBits (fld x)).take (j + 1) := by
      unfold lrn
      simp only []
      rw [hS, List.take_succ_eq_append_getElem hjl, hb]
    obtain ⟨D', h1, h2⟩ := takeNum_back hx n (j + 1) (lrn L S b) (encB E b (chance P S)) (decB s D (chance P S)) (by omega) hSb hE1 hD1 (by omega) hf m (by omega)
    refine ⟨D', ?_, h2⟩
    rw [takeNum]
    simp only []
    rw [hS, if_neg (by rw [w1]; decide), if_neg w2, if_neg (by rw [hD1.2.2]; omega), hdv]
    exact h1
theorem from_all {s : List UInt8} : ∀ (rs : List Int) (a : St × Enc), a.2.ok → From s (putNums P L rs a).2 → From s a.2
  | [], _, _, h => h
  | x :: r, a, ho, h => from_bits hP _ _ ho (bits_01 _) (from_all r (putNum P L x a) (putBits_ok hP _ _ ho) h)
theorem takeAll_back {s : List UInt8} : ∀ (rs : List Int) (S : St) (E : Enc) (D : Dec) (out : List Int), rs.all numOk = true → S.bits = [] → E.ok → Like D E → E.out.length + 204 * rs.length ≤ 65540 → From s (putNums P L rs (S, E)).2 →
    takeAll P L s rs.length (S, D) out = some (out ++ rs)
  | [], S, E, D, out, _, _, _, _, _, _ => by simp [takeAll]
  | x :: r, S, E, D, out, hr, hS, hE, hD, hl, hf => by
    simp only [List.all_cons, Bool.and_eq_true] at hr
    simp only [putNums] at hf
    have hok := putBits_ok hP (L := L) (gBits (fld x)) (S, E) hE
    have hfx := from_all hP r (putNum P L x (S, E)) hok hf
    have hlen := gBits_len (fld_le hr.1)
    have hpl := putBits_len (P := P) (L := L) (gBits (fld x)) (S, E)
    rw [List.length_cons] at hl
    obtain ⟨D', h1, h2⟩ := takeNum_back hP (s := s) (L := L) hr.1 (gBits (fld x)).length 0 S E D (by omega) (by rw [hS]; rfl) hE hD (by omega) (by rw [List.drop_zero]; exact hfx) 60 (by omega)
    rw [List.drop_zero] at h1 h2
    rw [List.length_cons, takeAll, h1]
    simp only []
    simp only [] at hpl
    have := takeAll_back r (nxt (putBits P L (gBits (fld x)) (S, E)).1) (putBits P L (gBits (fld x)) (S, E)).2 D' (out ++ [x]) hr.2 rfl hok h2 (by omega) hf
    rw [this, List.append_assoc]; rfl
/-- What is put is got. -/
theorem put_get {M rs : List Int} (h : putOk rs = true) : getS P L M (putS P L M rs) rs.length = some rs := by
  unfold putOk at h
  simp only [Bool.and_eq_true, decide_eq_true_eq] at h
  have hok := putNums_ok hP (L := L) rs (⟨M, 0, []⟩, enc0) enc0_ok
  have hlen := (putNums_len (P := P) (L := L) rs (⟨M, 0, []⟩, enc0) h.2).2
  have h0 : enc0.out.length = 0 := rfl
  simp only [] at hlen
  rw [h0] at hlen
  have hback := takeAll_back hP (s := putS P L M rs) (L := L) rs ⟨M, 0, []⟩ enc0 dec0 [] h.2 rfl enc0_ok ⟨rfl, rfl, rfl⟩ (by rw [h0]; omega) (from_end hok)
  unfold getS
  have hsz : (putS P L M rs).length ≤ 65536 := by unfold putS encE; simp only [List.length_append, List.length_cons, List.length_nil]; omega
  rw [if_pos (by unfold getOk; simp only [Bool.and_eq_true, decide_eq_true_eq]; exact ⟨hsz, by omega, by omega⟩), Int.toNat_natCast, hback]
  simp only [List.nil_append]
  rw [if_pos ⟨by unfold putOk; simp only [Bool.and_eq_true, decide_eq_true_eq]; exact h, by trivial⟩]
end
end Go.Proofs.YtiokfaiioealdaaGreatDoor
namespace Go.Proofs.YtiokfaiioealdaaGreatDoor.L
open Go.RowKit Go.Proofs.YtiokfaiioealdaaGreatDoor.L
set_option linter.unusedVariables false
set_option linter.unusedSimpArgs false
/-- Block g holds the cells cs. -/
structure BC (w : World) (g : Nat) (t : TypeId) (cs : List Value) : Prop where
  blk : w.heap[g]? = some (.cells cs.toArray t (0, 0))
theorem BC.lt {w : World} {g : Nat} {t : TypeId} {cs : List Value} (h : BC w g t cs) : g < w.heap.size := by
  rcases Nat.lt_or_ge g w.heap.size with hh | hh
  · exact hh
  · have := h.blk; rw [Array.getElem?_eq_none hh] at this; cases this
theorem BC.cell {w : World} {g : Nat} {t : TypeId} {cs : List Value} (h : BC w g t cs) (o : Nat) : w.cell? ⟨g, o, none⟩ = cs[o]? := by
  rw [cell_of_row w g o _ _ _ h.blk]; simp
theorem BC.at_ {w : World} {g : Nat} {t : TypeId} {cs : List Value} (h : BC w g t cs) {o : Nat} {v : Value} (e : cs[o]? = some v) : w.cell? ⟨g, o, none⟩ = some v := (h.cell o).trans e
theorem BC.frozen {w : World} {g : Nat} {t : TypeId} {cs : List Value} (h : BC w g t cs) (o : Nat) : w.frozen? ⟨g, o, none⟩ = false := by simp [World.frozen?, h.blk]
theorem BC.range {w : World} {g : Nat} {t : TypeId} {cs : List Value} (h : BC w g t cs) : w.rangeAt g 0 cs := by
  intro j v hv
  rw [Nat.zero_add, h.cell]; exact hv
theorem BC.there {w : World} {g n : Nat} {t : TypeId} {cs : List Value} (h : BC w g t cs) (hn : n ≤ cs.length) : w.there g 0 n := fun j hj =>
  ⟨by rw [Nat.zero_add, h.cell, List.getElem?_eq_getElem (by omega)]; rfl, h.frozen _⟩
theorem BC.below {w w1 : World} {g : Nat} {t : TypeId} {cs : List Value} (h : BC w g t cs) (hb : Below w.heap.size w w1) : BC w1 g t cs := ⟨(hb.block g h.lt).trans h.blk⟩
theorem BC.blw {B : Nat} {w w1 : World} {g : Nat} {t : TypeId} {cs : List Value} (h : BC w g t cs) (hb : Below B w w1) (hg : g < B) : BC w1 g t cs := ⟨(hb.block g hg).trans h.blk⟩
theorem BC.alloc {w : World} {g : Nat} {t : TypeId} {cs : List Value} (h : BC w g t cs) (o : Obj) : BC (w.alloc o) g t cs := ⟨(Below.heap_alloc w o g h.lt).trans h.blk⟩
theorem BC.drew {w : World} {g : Nat} {t : TypeId} {cs : List Value} (h : BC w g t cs) : BC w.drew g t cs := ⟨h.blk⟩
theorem BC.drewN {w : World} {g : Nat} {t : TypeId} {cs : List Value} (h : BC w g t cs) (n : Nat) : BC (w.drewN n) g t cs := ⟨h.blk⟩
theorem BC.new (w : World) (cs : List Value) (t : TypeId) : BC (w.alloc (.cells cs.toArray t)) w.heap.size t cs := ⟨heap_alloc_new w _⟩
theorem BC.newAt {w : World} {g : Nat} {cs : List Value} {t : TypeId} (h : g = w.heap.size) : BC (w.alloc (.cells cs.toArray t)) g t cs := by subst h; exact BC.new w cs t
theorem BC.set {w : World} {g : Nat} {t : TypeId} {cs : List Value} (h : BC w g t cs) (o : Nat) (v : Value) : BC (w.setCell ⟨g, o, none⟩ v) g t (cs.set o v) :=
  ⟨by simp [World.setCell, Array.getElem?_modify, h.blk]⟩
theorem BC.far {w : World} {g : Nat} {t : TypeId} {cs : List Value} (h : BC w g t cs) {p : Addr} (hp : p.block ≠ g) (v : Value) : BC (w.setCell p v) g t cs :=
  ⟨by show (w.heap.modify p.block _)[g]? = _; rw [Array.getElem?_modify, if_neg hp]; exact h.blk⟩
theorem bc_setCells_far : ∀ (vs : List Value) (o : Nat) (w : World) (g k : Nat), g ≠ k → (w.setCells g o vs).heap[k]? = w.heap[k]?
  | [], _, _, _, _, _ => rfl
  | v :: r, o, w, g, k, h => by
    rw [World.setCells, bc_setCells_far r (o + 1) _ g k h]
    show (w.heap.modify g _)[k]? = _
    rw [Array.getElem?_modify, if_neg h]
theorem BC.beside {w : World} {g k : Nat} {t : TypeId} {cs : List Value} (h : BC w g t cs) (hk : k ≠ g) (vs : List Value) : BC (w.setCells k 0 vs) g t cs := ⟨by rw [bc_setCells_far _ _ _ _ _ hk]; exact h.blk⟩
def bcLaid : List Value → Nat → List Value → List Value
  | L, _, [] => L
  | L, o, x :: r => bcLaid (L.set o x) (o + 1) r
theorem bcLaid_all : ∀ (r P S : List Value), S.length = r.length → bcLaid (P ++ S) P.length r = P ++ r
  | [], P, S, h => by rw [List.length_nil, List.length_eq_zero_iff] at h; subst h; rfl
  | x :: r, P, [], h => by simp at h
  | x :: r, P, s :: S, h => by
    rw [bcLaid, List.set_append_right _ _ (Nat.le_refl _), Nat.sub_self, List.set_cons_zero]
    have := bcLaid_all r (P ++ [x]) S (by simpa using h)
    rw [List.length_append, List.length_singleton, List.append_assoc, List.append_assoc, List.singleton_append, List.singleton_append] at this
    exact this
theorem bcLaid_over {L R : List Value} (h : L.length = R.length) : bcLaid L 0 R = R := bcLaid_all R [] L h
theorem bc_setCells : ∀ (R : List Value) (o : Nat) (w : World) (g : Nat) (L : List Value) (t : TypeId), BC w g t L → BC (w.setCells g o R) g t (bcLaid L o R)
  | [], _, _, _, _, _, h => h
  | x :: R, o, w, g, L, t, h => by
    rw [World.setCells, bcLaid]
    exact bc_setCells R (o + 1) _ g _ t (h.set o x)
theorem BC.over {w : World} {g : Nat} {t : TypeId} {L R : List Value} (h : BC w g t L) (hR : L.length = R.length) : BC (w.setCells g 0 R) g t R := by
  have := bc_setCells R 0 w g L t h; rwa [bcLaid_over hR] at this
theorem bc_below_setCells {B g : Nat} {w0 : World} (hBg : B ≤ g) : ∀ (vs : List Value) (o : Nat) (W : World), Below B w0 W → Below B w0 (W.setCells g o vs)
  | [], _, _, h => h
  | v :: r, o, W, h => by rw [World.setCells]; exact bc_below_setCells hBg r (o + 1) _ (h.setCell (p := ⟨g, o, none⟩) hBg v)
theorem bc_results1 {P : Program} {fn : Func} {p : Tmp} {ty : TypeId} (h : fn.results = #[.cell p ty]) (tmps : Array Value) (w : World) (g : Nat) (cs : List Value) (d : TypeDesc)
    (hp : tmps.getD p undef = .pointer (some ⟨g, 0, none⟩)) (hc : w.rangeAt g 0 cs) (hu : P.underlying ty = some d) (hd : d.isRow = true) (hi : (P.info? ty).map (·.size) = some cs.length) :
    (results fn tmps).run P w = .ok (.agg cs.toArray) w := by
  have hp' : tmps[p]?.getD undef = .pointer (some ⟨g, 0, none⟩) := by simpa using hp
  simp [results, h, hp', asAddr, run_loadVar_mid w g 0 ty cs d hc hu hd hi]
theorem bc_resultst {P : Program} {fn : Func} {p u : Tmp} {ty : TypeId} (h : fn.results = #[.cell p ty, .tmp u]) (tmps : Array Value) (w : World) (g : Nat) (cs : List Value) (d : TypeDesc)
    (hp : tmps.getD p undef = .pointer (some ⟨g, 0, none⟩)) (hc : w.rangeAt g 0 cs) (hu : P.underlying ty = some d) (hd : d.isRow = true) (hi : (P.info? ty).map (·.size) = some cs.length) :
    (results fn tmps).run P w = .ok (.tuple #[.agg cs.toArray, tmps.getD u undef]) w := by
  have hp' : tmps[p]?.getD undef = .pointer (some ⟨g, 0, none⟩) := by simpa using hp
  simp [results, h, hp', asAddr, run_loadVar_mid w g 0 ty cs d hc hu hd hi]
theorem below_then {B : Nat} {w w1 w2 : World} (h : Below B w w1) (hB : B ≤ w.heap.size) (k : Below w1.heap.size w1 w2) : Below B w w2 :=
  h.trans ⟨k.os, k.tape, k.output, k.size, fun i hi => k.block i (by have := h.size; omega)⟩
theorem below_less {B B' : Nat} {w w1 : World} (h : Below B w w1) (hB : B' ≤ B) : Below B' w w1 := ⟨h.os, h.tape, h.output, h.size, fun i hi => h.block i (by omega)⟩
/-- All but block g stays. -/
structure But (w w' : World) (g : Nat) : Prop where
  os : w'.os = w.os
  tape : w'.tape = w.tape
  output : w'.output = w.output
  size : w.heap.size ≤ w'.heap.size
  block : ∀ i, i < w.heap.size → i ≠ g → w'.heap[i]? = w.heap[i]?
theorem But.refl (w : World) (g : Nat) : But w w g := ⟨rfl, rfl, rfl, Nat.le_refl _, fun _ _ _ => rfl⟩
theorem But.of_below {w w' : World} (h : Below w.heap.size w w') (g : Nat) : But w w' g := ⟨h.os, h.tape, h.output, h.size, fun i hi _ => h.block i hi⟩
theorem But.trans {w w1 w2 : World} {g : Nat} (h : But w w1 g) (k : But w1 w2 g) : But w w2 g :=
  ⟨k.os.trans h.os, k.tape.trans h.tape, k.output.trans h.output, Nat.le_trans h.size k.size, fun i hi hg => (k.block i (Nat.lt_of_lt_of_le hi h.size) hg).trans (h.block i hi hg)⟩
theorem But.set {w W : World} {g : Nat} (h : But w W g) (o : Nat) (v : Value) : But w (W.setCell ⟨g, o, none⟩ v) g :=
  ⟨h.os, h.tape, h.output, by simpa using h.size, fun i hi hg => (Below.heap_setCell W ⟨g, o, none⟩ v i hg).trans (h.block i hi hg)⟩
theorem But.drewN {w W : World} {g : Nat} (h : But w W g) (n : Nat) : But w (W.drewN n) g := ⟨h.os, h.tape, h.output, h.size, h.block⟩
theorem But.drew {w W : World} {g : Nat} (h : But w W g) : But w W.drew g := ⟨h.os, h.tape, h.output, h.size, h.block⟩
theorem But.alloc {w W : World} {g : Nat} (h : But w W g) (o : Obj) : But w (W.alloc o) g := h.trans (But.of_below (below_alloc (Below.refl _ _) o) g)
theorem BC.but {w w' : World} {g k : Nat} {t : TypeId} {cs : List Value} (h : BC w k t cs) (hb : But w w' g) (hk : k ≠ g) : BC w' k t cs := ⟨(hb.block k h.lt hk).trans h.blk⟩
theorem But.below {B : Nat} {w0 w w' : World} {g : Nat} (h : Below B w0 w) (hb : But w w' g) (hg : B ≤ g) (hB : B ≤ w.heap.size) : Below B w0 w' :=
  ⟨hb.os.trans h.os, hb.tape.trans h.tape, hb.output.trans h.output, Nat.le_trans h.size hb.size, fun i hi => (hb.block i (by omega) (by omega)).trans (h.block i hi)⟩
end Go.Proofs.YtiokfaiioealdaaGreatDoor.L
namespace Go.Proofs.YtiokfaiioealdaaGreatDoor.L
open Go.RowKit Go.Proofs.YtiokfaiioealdaaGreatDoorW.PrintWords Go.Proofs.YtiokfaiioealdaaGreatDoorW.PrintLast Go.Proofs.YtiokfaiioealdaaGreatDoor.L
set_option linter.unusedVariables false
set_option linter.unusedSimpArgs false
/-- What has come up, as the bits of a number. -/
def B (n m : Nat) : Array Bool := ((List.range n).map (fun i => m / 2 ^ i % 2 == 1)).toArray
section
variable {P : Program} {ops : Array Oper} {Q : Exit → Act → World → Prop}
/-- A whole struct stored over a block. -/
theorem skip_over {oi : Oper} {a : Act} {W : World} {K : Act → World → Prop} (ty : TypeId) (x y : Operand) (g : Nat) (L R : List Value) (hw : Region.wanted oi (yielded ops a.tmps) = true) (hN : oi.dst = none) (ho : oi.op = .store ty x y)
    (hx : a.eval x = .pointer (some ⟨g, 0, none⟩)) (hy : a.eval y = .agg R.toArray) (h : BC W g ty L) (hl : L.length = R.length) (hi : (P.info? ty).map (·.size) = some R.length) (h1 : ∀ v ∈ R, v.oneCell' = true)
    (hk : K a (W.setCells g 0 R)) : if Region.wanted oi (yielded ops a.tmps) = true then Oper.wp P oi a W K Q else K (a.put none undef) W := by
  refine skip_ hw hN ?_ hk
  unfold execOp
  simp only [ho, hx, hy, Instr.storeAt, Instr.sureAddr, Sem.run_bind, Sem.run_pure, Result.andThen_ok, run_storeVar_mid W g 0 ty R.toArray (by simpa [← hl] using h.there (Nat.le_refl _)) (by simpa using hi) (all_oneCell_toArray h1)]
/-- A whole struct loaded. -/
theorem loads {oi : Oper} {a : Act} (ty : TypeId) (x : Operand) (g : Nat) (L : List Value) (d : TypeDesc) (ho : oi.op = .load ty x) (hx : a.eval x = .pointer (some ⟨g, 0, none⟩)) (hu : P.underlying ty = some d) (hd : d.isRow = true) (hi : (P.info? ty).map (·.size) = some L.length)
    (W : World) (h : BC W g ty L) : (execOp a.eval oi).run P W = .ok (.value (.agg L.toArray)) W := by
  unfold execOp
  simp only [ho, hx, Instr.loadAt, Instr.sureAddr, Sem.run_bind, Sem.run_pure, Result.andThen_ok, run_loadVar_mid W g 0 ty L d h.range hu hd hi]
end
end Go.Proofs.YtiokfaiioealdaaGreatDoor.L
namespace Go.Proofs.YtiokfaiioealdaaGreatDoor.L
open Go.RowKit Go.Proofs.YtiokfaiioealdaaGreatDoorW.PrintWords Go.Proofs.YtiokfaiioealdaaGreatDoorW.PrintLast Go.Proofs.YtiokfaiioealdaaGreatDoor.L
set_option linter.unusedVariables false
set_option linter.unusedSimpArgs false
section
variable {P : Program} {ops : Array Oper} {Q : Exit → Act → World → Prop}
/-- A row of cells at a block's beginning, loaded. -/
theorem loadsR {oi : Oper} {a : Act} (ty : TypeId) (x : Operand) (g : Nat) (L : List Value) (d : TypeDesc) (ho : oi.op = .load ty x) (hx : a.eval x = .pointer (some ⟨g, 0, none⟩)) (hu : P.underlying ty = some d) (hd : d.isRow = true) (hi : (P.info? ty).map (·.size) = some L.length)
    (W : World) (h : W.rangeAt g 0 L) : (execOp a.eval oi).run P W = .ok (.value (.agg L.toArray)) W := by
  unfold execOp
  simp only [ho, hx, Instr.loadAt, Instr.sureAddr, Sem.run_bind, Sem.run_pure, Result.andThen_ok, run_loadVar_mid W g 0 ty L d h hu hd hi]
/-- A row of cells stored at a block's beginning. -/
theorem skip_row {oi : Oper} {a : Act} {W : World} {K : Act → World → Prop} (ty : TypeId) (x y : Operand) (g : Nat) (R : List Value) (hw : Region.wanted oi (yielded ops a.tmps) = true) (hN : oi.dst = none) (ho : oi.op = .store ty x y)
    (hx : a.eval x = .pointer (some ⟨g, 0, none⟩)) (hy : a.eval y = .agg R.toArray) (ht : W.there g 0 R.length) (hi : (P.info? ty).map (·.size) = some R.length) (h1 : ∀ v ∈ R, v.oneCell' = true)
    (hk : K a (W.setCells g 0 R)) : if Region.wanted oi (yielded ops a.tmps) = true then Oper.wp P oi a W K Q else K (a.put none undef) W := by
  refine skip_ hw hN ?_ hk
  unfold execOp
  simp only [ho, hx, hy, Instr.storeAt, Instr.sureAddr, Sem.run_bind, Sem.run_pure, Result.andThen_ok, run_storeVar_mid W g 0 ty R.toArray (by simpa using ht) (by simpa using hi) (all_oneCell_toArray h1)]
end
theorem bcLaid_pre : ∀ (r P S T : List Value), S.length = r.length → bcLaid (P ++ S ++ T) P.length r = P ++ r ++ T
  | [], P, S, T, h => by rw [List.length_nil, List.length_eq_zero_iff] at h; subst h; rfl
  | x :: r, P, [], T, h => by simp at h
  | x :: r, P, s :: S, T, h => by
    rw [bcLaid, List.append_assoc, List.set_append_right _ _ (Nat.le_refl _), Nat.sub_self, List.cons_append, List.set_cons_zero]
    have := bcLaid_pre r (P ++ [x]) S T (by simpa using h)
    rw [List.length_append, List.length_singleton] at this
    simp only [List.append_assoc, List.singleton_append] at this ⊢
    exact this
theorem But.setCells {w : World} {g : Nat} : ∀ (vs : List Value) (o : Nat) (W : World), But w W g → But w (W.setCells g o vs) g
  | [], _, _, h => h
  | v :: r, o, W, h => by rw [World.setCells]; exact But.setCells r (o + 1) _ (h.set o v)
/-- Below what was there at first, one block apart. -/
theorem But.next {w W W2 : World} {g : Nat} (h : But w W g) (k : Below W.heap.size W W2) : But w W2 g := h.trans (But.of_below k g)
end Go.Proofs.YtiokfaiioealdaaGreatDoor.L
namespace Go.Proofs.YtiokfaiioealdaaGreatDoor
open Go.RowKit Go.Proofs.YtiokfaiioealdaaGreatDoorW.PrintWords Go.Proofs.YtiokfaiioealdaaGreatDoorW.PrintLast
/-- A state's cells, and what is behind them. -/
def stc (M : List Int) (before : Int) (bv : Value) (T : List Value) : List Value := ints M ++ .int .i64 before :: bv :: T
section
variable {M R : List Int} {before x : Int} {bv v : Value} {T : List Value} {w : World} {g ty : Nat}
theorem stc_before (hM : M.length = 195) : (stc M before bv T)[195]? = some (.int .i64 before) := by
  unfold stc; rw [List.getElem?_append_right (by rw [ints_length, hM]; omega), ints_length, hM]; rfl
theorem stc_bits (hM : M.length = 195) : (stc M before bv T)[196]? = some bv := by
  unfold stc; rw [List.getElem?_append_right (by rw [ints_length, hM]; omega), ints_length, hM]; rfl
theorem stc_tail (hM : M.length = 195) (j : Nat) : (stc M before bv T)[197 + j]? = T[j]? := by
  unfold stc; rw [List.getElem?_append_right (by rw [ints_length, hM]; omega), ints_length, hM, show 197 + j - 195 = j + 1 + 1 by omega]; rfl
theorem stc_set_before (hM : M.length = 195) : (stc M before bv T).set 195 (.int .i64 x) = stc M x bv T := by
  unfold stc; rw [List.set_append_right _ _ (by rw [ints_length, hM]; omega), ints_length, hM]; rfl
theorem stc_set_bits (hM : M.length = 195) : (stc M before bv T).set 196 v = stc M before v T := by
  unfold stc; rw [List.set_append_right _ _ (by rw [ints_length, hM]; omega), ints_length, hM]; rfl
theorem stc_set_tail (hM : M.length = 195) (j : Nat) : (stc M before bv T).set (197 + j) v = stc M before bv (T.set j v) := by
  unfold stc; rw [List.set_append_right _ _ (by rw [ints_length, hM]; omega), ints_length, hM, show 197 + j - 195 = j + 1 + 1 by omega]; rfl
theorem stc_range (h : L.BC w g ty (stc M before bv T)) : w.rangeAt g 0 (ints M) := by
  intro j u hj
  have hl : j < (ints M).length := (List.getElem?_eq_some_iff.1 hj).1
  have := h.range j u (by unfold stc; rw [List.getElem?_append_left hl]; exact hj)
  exact this
theorem stc_there (h : L.BC w g ty (stc M before bv T)) (hR : R.length = M.length) : w.there g 0 (ints R).length := h.there (by unfold stc; rw [List.length_append, ints_length, ints_length, hR]; omega)
theorem stc_learn (h : L.BC w g ty (stc M before bv T)) (hR : R.length = M.length) : L.BC (w.setCells g 0 (ints R)) g ty (stc R before bv T) := by
  have := L.bc_setCells (ints R) 0 w g _ ty h
  have e := L.bcLaid_pre (ints R) [] (ints M) (.int .i64 before :: bv :: T) (by rw [ints_length, ints_length, hR])
  simp only [List.nil_append, List.length_nil] at e
  unfold stc at this ⊢
  rw [e] at this
  exact this
end
theorem R_setCells {α : Type} {d : Kd α} {e : Nat} {base : Nat} {ok : Nat → Prop} {v : Value} {xs : List α} {g t : Nat} (ht : ∀ q, q ∈ e :: d.E → q ≠ t) : ∀ (vs : List Value) (o : Nat) (w : World) (cs : List Value), L.BC w g t cs → d.R e w base ok v xs → d.R e (w.setCells g o vs) base ok v xs
  | [], _, _, _, _, h => h
  | x :: r, o, w, cs, hb, h => by
    rw [World.setCells]
    exact R_setCells ht r (o + 1) _ _ (hb.set o x) (Kd.R_set h hb.blk ht o x)
theorem R_setB {α : Type} {d : Kd α} {e : Nat} {w : World} {base : Nat} {ok : Nat → Prop} {v : Value} {xs : List α} {g t : Nat} {cs : List Value} (h : d.R e w base ok v xs) (hb : L.BC w g t cs) (ht : ∀ q, q ∈ e :: d.E → q ≠ t) (j : Nat) (u : Value) : d.R e (w.setCell ⟨g, j, none⟩ u) base ok v xs := Kd.R_set h hb.blk ht j u
theorem bc_grown {w w1 : World} {g t : Nat} {cs : List Value} {row : Option Nat} (h : L.BC w g t cs) (hg : w.grownBy w1 row) (hne : some g ≠ row) : L.BC w1 g t cs := ⟨blk_grown h.blk hg hne⟩
theorem but_low {w0 W w1 : World} {g : Nat} (h : L.But w0 W g) (k : Below w0.heap.size W w1) : L.But w0 w1 g := ⟨k.os.trans h.os, k.tape.trans h.tape, k.output.trans h.output, Nat.le_trans h.size k.size, fun i hi hg => (k.block i hi).trans (h.block i hi hg)⟩
theorem R_but {α : Type} {d : Kd α} {e : Nat} {w w' : World} {base : Nat} {ok : Nat → Prop} {v : Value} {xs : List α} {g t : Nat} {cs : List Value} (h : d.R e w base ok v xs) (hb : L.BC w g t cs) (ht : ∀ q, q ∈ e :: d.E → q ≠ t) (hbt : L.But w w' g) : d.R e w' base ok v xs :=
  Kd.R_mono (Kd.R_step (Kd.R_types h hb.blk ht) (fun k ho hk => hbt.block k hk ho.2)) (fun _ hk => hk.1)
theorem infoI : (Tryz.prog.info? 3).map (fun i => (i.zero, i.size, i.bytes)) = some (some (.int .i64 0), 1, 8) := by kernel_rfl
theorem ne_ty {ty : Nat} (h : 3 ≠ ty) : ∀ q, q ∈ 3 :: (Kd.int .i64).E → q ≠ ty := by
  intro q hq
  rcases List.mem_cons.1 hq with rfl | hq
  · exact h
  · cases hq
theorem Tab.but {w w' : World} {g : Nat} (h : Tab w) (hb : L.But w w' g) (hg : 3 ≠ g) : Tab w' := by
  refine ⟨fun j hj => ?_⟩
  have hc := h.out j hj
  have hlt := World.block_lt_of_cell? w _ hc
  have := hb.block 3 hlt hg
  unfold World.cell? at hc ⊢
  simp only [this]
  exact hc
end Go.Proofs.YtiokfaiioealdaaGreatDoor
namespace Go.Proofs.YtiokfaiioealdaaGreatDoor.PG
open Go.RowKit Go.Proofs.YtiokfaiioealdaaGreatDoorW.PrintWords Go.Proofs.YtiokfaiioealdaaGreatDoor.L
set_option linter.unusedVariables false
set_option linter.unusedSimpArgs false
theorem and_most {x : Int} (h0 : 0 ≤ x) (h1 : x < 2 ^ 62) : Go.bits .and .i64 x 4294967295 = x % 4294967296 := bits_mask .i64 62 (by decide) (fun n a b => IntWalk.i64_in n (by rw [show (2 : Int) ^ 62 = 4611686018427387904 from rfl] at b; omega)) 32 (by decide) x h0 h1
theorem or_byte {V x : Int} (h0 : 0 ≤ V) (h1 : V ≤ 1000000000) (hx : 0 ≤ x) (hx1 : x ≤ 255) : Go.bits .or .i64 (V * 256) x = V * 256 + x := by
  obtain ⟨v, rfl⟩ := Int.eq_ofNat_of_zero_le h0
  obtain ⟨y, rfl⟩ := Int.eq_ofNat_of_zero_le hx
  have key : (BitVec.ofInt 64 ((v : Int) * 256) ||| BitVec.ofInt 64 (y : Int)).toNat = v * 256 + y := by
    rw [BitVec.toNat_or, BitVec.toNat_ofInt, BitVec.toNat_ofInt, show (((v : Int) * 256) % ((2 ^ 64 : Nat) : Int)).toNat = v <<< 8 by rw [Nat.shiftLeft_eq]; omega, show ((y : Int) % ((2 ^ 64 : Nat) : Int)).toNat = y by omega, ← Nat.shiftLeft_add_eq_or_of_lt (show y < 2 ^ 8 by omega), Nat.shiftLeft_eq]
  show IntKind.i64.wrap ((BitVec.ofInt 64 ((v : Int) * 256) ||| BitVec.ofInt 64 (y : Int)).toNat : Nat) = _
  rw [key, IntWalk.i64_in _ (by omega)]
  omega
theorem up_bits {x b : Int} (h0 : 0 ≤ x) (h1 : x ≤ 4294967295) (hb : 0 ≤ b) (hb1 : b ≤ 255) : Go.bits .or .i64 (Go.bits .and .i64 (wrap64 (x * 256)) 4294967295) b = up x b := by
  rw [IntWalk.wrap64_in _ (by omega), and_most (by omega) (by omega), show x * 256 % 4294967296 = x % 16777216 * 256 by omega, or_byte (by omega) (by omega) hb hb1]
  unfold up; omega
theorem up_in {x b : Int} (h0 : 0 ≤ x) (h1 : x ≤ 4294967295) (hb : 0 ≤ b) (hb1 : b ≤ 255) : 0 ≤ up x b ∧ up x b ≤ 4294967295 := by unfold up; omega
theorem up_f {x b : Int} (h0 : 0 ≤ x) (h1 : x ≤ 4294967295) (hb : 0 ≤ b) (hb1 : b ≤ 255) : coder_Up.f x b = some (up x b) := by unfold coder_Up.f; rw [up_bits h0 h1 hb hb1]
theorem mid_bits {l h p : Int} (h0 : 0 ≤ l) (hl : l < h) (h1 : h ≤ 4294967295) (p1 : 1 ≤ p) (p2 : p ≤ 4095) :
    wrap64 ((wrap64 (l + (wrap64 ((wrap64 (Int.tdiv (wrap64 (h - l)) 4096)) * p)))) + (wrap64 (Int.tdiv (wrap64 ((Int.tmod (wrap64 (h - l)) 4096) * p)) 4096))) = mid l h p := by
  unfold mid
  rw [IntWalk.wrap64_in (h - l) (by omega), Int.tdiv_eq_ediv_of_nonneg (by omega), Int.tmod_eq_emod_of_nonneg (by omega)]
  have e := Int.mul_ediv_add_emod (h - l) 4096
  have r0 := Int.emod_nonneg (h - l) (show (4096 : Int) ≠ 0 by decide)
  have r1 := Int.emod_lt_of_pos (h - l) (show (0 : Int) < 4096 by decide)
  have q0 : 0 ≤ (h - l) / 4096 := Int.ediv_nonneg (by omega) (by decide)
  generalize (h - l) / 4096 = a at *
  generalize (h - l) % 4096 = b at *
  have ma0 : 0 ≤ a * p := Int.mul_nonneg q0 (by omega)
  have ma1 : a * p ≤ a * 4095 := Int.mul_le_mul_of_nonneg_left p2 q0
  have mb0 : 0 ≤ b * p := Int.mul_nonneg r0 (by omega)
  have mb1 : b * p ≤ b * 4095 := Int.mul_le_mul_of_nonneg_left p2 r0
  rw [IntWalk.wrap64_in a (by omega), IntWalk.wrap64_in (a * p) (by omega), IntWalk.wrap64_in (l + a * p) (by omega), IntWalk.wrap64_in (b * p) (by omega), Int.tdiv_eq_ediv_of_nonneg mb0, IntWalk.wrap64_in (b * p / 4096) (by omega), IntWalk.wrap64_in _ (by omega)]
theorem mid_f {l h p : Int} (h0 : 0 ≤ l) (hl : l < h) (h1 : h ≤ 4294967295) (p1 : 1 ≤ p) (p2 : p ≤ 4095) : coder_Middle.f l h p = some (mid l h p) := by unfold coder_Middle.f; rw [mid_bits h0 hl h1 p1 p2]
theorem ends_f {l h : Int} (he : Ends l h) : coder_Ends.f l h = some true := by
  obtain ⟨a, b, c⟩ := he
  unfold coder_Ends.f
  rw [if_pos a, if_pos b, decide_eq_true c]
theorem chance_f {p : Int} (p1 : 1 ≤ p) (p2 : p ≤ 4095) : coder_Chance.f p = some true := by unfold coder_Chance.f; rw [if_pos p1, decide_eq_true p2]
theorem size_mk (l : List UInt8) : (⟨l.toArray⟩ : ByteArray).size = l.length := by rw [← ByteArray.size_data]; simp
theorem may_f {l h : Int} {o : List UInt8} (he : Ends l h) (ho : o.length ≤ 65536) : coder_May.f l h ⟨o.toArray⟩ = some true := by
  unfold coder_May.f
  rw [ends_f he, Option.bind_some, if_pos rfl, size_mk, decide_eq_true (by omega)]
theorem one_byte (o : List UInt8) (x : Int) : (⟨o.toArray⟩ : ByteArray) ++ strOfNums [x % 256] = ⟨(o ++ [by8 x]).toArray⟩ := by
  apply ByteArray.ext
  simp [strOfNums, by8]
theorem gone_f (l h : Int) : coder_Gone.f l h = some (decide (l / 16777216 = h / 16777216)) := by rfl
theorem end_f {E : Enc} (he : E.ok) (ho : E.out.length ≤ 65536) : coder_End.f E.l E.h ⟨E.out.toArray⟩ = some (⟨(encE E).toArray⟩, 0) := by
  unfold coder_End.f
  have hs : strOfNums [(E.l / 16777216) % 256, (E.l / 65536) % 256, (E.l / 256) % 256, (E.l) % 256] = ⟨[by8 (E.l / 16777216), by8 (E.l / 65536), by8 (E.l / 256), by8 E.l].toArray⟩ := ByteArray.ext (by simp [strOfNums, by8])
  rw [may_f he ho, Option.bind_some, if_pos rfl, Option.bind_some, hs, if_pos (by rw [size_mk, size_mk]; simp only [List.length_cons, List.length_nil]; omega)]
  refine congrArg (fun t => some (t, (0 : Int))) (ByteArray.ext ?_)
  simp [encE]
theorem at_f (s : ByteArray) (i : Nat) : decoder_at.f s (i : Int) = some (byt s.data.toList i) := by
  have hs : s.size = s.data.toList.length := by rw [Array.length_toList]; rfl
  have r := bt_range s i
  unfold decoder_at.f
  by_cases c : i < s.size
  · rw [if_pos (by omega), if_pos (by omega), IntWalk.wrap64_in _ (by omega)]
    refine congrArg some ?_
    unfold bt byt
    rw [dif_pos (by rw [Int.toNat_natCast]; exact c), List.getD_eq_getElem?_getD, List.getElem?_eq_getElem (by omega)]
    simp only [Int.toNat_natCast, Option.getD_some]
    rw [Array.getElem_toList]; rfl
  · rw [if_neg (by omega)]
    unfold byt
    rw [List.getD_eq_getElem?_getD, List.getElem?_eq_none (by omega)]
    rfl
theorem new_f (s : ByteArray) : decoder_New.f 40 s = if s.size ≤ 65536 then some (0, 4294967295, win s.data.toList 0, s, 4, 0) else some (0, 0, 0, ⟨#[]⟩, 0, 500) := by
  unfold decoder_New.f
  by_cases c : s.size ≤ 65536
  · rw [if_neg (by omega), if_pos c]
    unfold coder_New.f
    rw [Option.bind_some]
    have b0 := byt_in s.data.toList 0
    have b1 := byt_in s.data.toList 1
    have b2 := byt_in s.data.toList 2
    have b3 := byt_in s.data.toList 3
    have a0 : decoder_at.f s 0 = some (byt s.data.toList 0) := at_f s 0
    have a1 : decoder_at.f s 1 = some (byt s.data.toList 1) := at_f s 1
    have a2 : decoder_at.f s 2 = some (byt s.data.toList 2) := at_f s 2
    have a3 : decoder_at.f s 3 = some (byt s.data.toList 3) := at_f s 3
    have u0 := up_in (x := 0) (b := byt s.data.toList 0) (by omega) (by omega) b0.1 b0.2
    have u1 := up_in (x := up 0 (byt s.data.toList 0)) (b := byt s.data.toList 1) u0.1 u0.2 b1.1 b1.2
    have u2 := up_in (x := up (up 0 (byt s.data.toList 0)) (byt s.data.toList 1)) (b := byt s.data.toList 2) u1.1 u1.2 b2.1 b2.2
    have w1 : wrap64 (0 + 1) = 1 := IntWalk.wrap64_in _ (by omega)
    have w2 : wrap64 (1 + 1) = 2 := IntWalk.wrap64_in _ (by omega)
    have w3 : wrap64 (2 + 1) = 3 := IntWalk.wrap64_in _ (by omega)
    have w4 : wrap64 (3 + 1) = 4 := IntWalk.wrap64_in _ (by omega)
    simp only []
    rw [decoder_New.l0, if_pos (by decide), a0, Option.bind_some, up_f (by omega) (by omega) b0.1 b0.2, Option.bind_some, w1]
    rw [decoder_New.l0, if_pos (by decide), a1, Option.bind_some, up_f u0.1 u0.2 b1.1 b1.2, Option.bind_some, w2]
    rw [decoder_New.l0, if_pos (by decide), a2, Option.bind_some, up_f u1.1 u1.2 b2.1 b2.2, Option.bind_some, w3]
    rw [decoder_New.l0, if_pos (by decide), a3, Option.bind_some, up_f u2.1 u2.2 b3.1 b3.2, Option.bind_some, w4]
    rw [decoder_New.l0, if_neg (by decide)]
    refine congrArg (fun t => some ((0 : Int), (4294967295 : Int), t, s, (4 : Int), (0 : Int))) ?_
    unfold up win
    simp only [Nat.zero_add]
    omega
  · rw [if_pos (by omega), if_neg c]
/-- A decoder whose window lies between its ends. -/
def DOk (s : List UInt8) (D : Dec) : Prop := Ends D.l D.h ∧ D.l ≤ win s D.i ∧ win s D.i ≤ D.h
theorem dec_norm (s : List UInt8) : ∀ (n : Nat) (l h : Int) (i : Nat), 0 ≤ l → l ≤ h → h ≤ 4294967295 → l ≤ win s i → win s i ≤ h → (norm n l h).1 ≤ win s (i + (norm n l h).2.2.length) ∧ win s (i + (norm n l h).2.2.length) ≤ (norm n l h).2.1 := by
  intro n
  induction n with
  | zero => intro l h i _ _ _ ha hb; exact ⟨ha, hb⟩
  | succ n ih =>
    intro l h i h0 h1 h2 ha hb
    rw [norm]
    by_cases c : l / 16777216 = h / 16777216
    · rw [if_pos c]
      have u1 := up_in (x := l) (b := 0) h0 (by omega) (by omega) (by omega)
      have u2 := up_in (x := h) (b := 255) (by omega) h2 (by omega) (by omega)
      have b4 := byt_in s (i + 4)
      have hup := win_up s i
      have x1 : up l 0 ≤ win s (i + 1) := by rw [hup]; unfold up; omega
      have x2 : win s (i + 1) ≤ up h 255 := by rw [hup]; unfold up; omega
      obtain ⟨r1, r2⟩ := ih (up l 0) (up h 255) (i + 1) u1.1 (by unfold up; omega) u2.2 x1 x2
      simp only [List.length_cons]
      rw [show i + ((norm n (up l 0) (up h 255)).2.2.length + 1) = i + 1 + (norm n (up l 0) (up h 255)).2.2.length by omega]
      exact ⟨r1, r2⟩
    · rw [if_neg c]; exact ⟨ha, hb⟩
theorem decB_ok {s : List UInt8} {D : Dec} {p : Int} (hd : DOk s D) (p1 : 1 ≤ p) (p2 : p ≤ 4095) : DOk s (decB s D p) := by
  obtain ⟨⟨a, c, d⟩, e, f⟩ := hd
  have hm := mid_in (l := D.l) (h := D.h) (by omega) p1 p2
  unfold decB
  by_cases hv : win s D.i ≤ mid D.l D.h p
  · have hd1 : decV s D p = 1 := by unfold decV; rw [if_pos hv]
    rw [hd1]; unfold encR; rw [if_pos rfl]
    have := dec_norm s 4 D.l (mid D.l D.h p) D.i a (by omega) (by omega) e hv
    have hn := norm4 (l := D.l) (h := mid D.l D.h p) a (by omega) (by omega)
    exact ⟨hn, this.1, this.2⟩
  · have hd1 : decV s D p = 0 := by unfold decV; rw [if_neg hv]
    rw [hd1]; unfold encR; rw [if_neg (by decide)]
    have := dec_norm s 4 (mid D.l D.h p + 1) D.h D.i (by omega) (by omega) c (by omega) f
    have hn := norm4 (l := mid D.l D.h p + 1) (h := D.h) (by omega) (by omega) c
    exact ⟨hn, this.1, this.2⟩
theorem dmay_f {s : ByteArray} {D : Dec} (hs : s.size ≤ 65536) (hd : DOk s.data.toList D) (hi : D.i ≤ 65540) : decoder_May.f D.l D.h (win s.data.toList D.i) s ((D.i + 4 : Nat) : Int) = some true := by
  obtain ⟨⟨a, c, d⟩, e, f⟩ := hd
  unfold decoder_May.f
  rw [ends_f ⟨a, c, d⟩, Option.bind_some, if_pos rfl, if_pos e, if_pos f, if_pos (by omega), if_pos (by omega), decide_eq_true (by omega)]
theorem fput_f (x : Int) : fold_Put.f x = if numOk x = true then some (((fld x : Nat) : Int), 0) else some (0, 1000) := by
  unfold fold_Put.f fold_Number.f numOk fld
  by_cases h1 : -16777216 ≤ x
  · rw [if_pos h1]
    by_cases h2 : x ≤ 16777216
    · rw [decide_eq_true h2, decide_eq_true ⟨h1, h2⟩, Option.bind_some, if_pos rfl, if_pos rfl]
      by_cases h3 : x < 0
      · rw [if_pos h3, if_pos h3, IntWalk.wrap64_in (-2 * x) (by omega), IntWalk.wrap64_in _ (by omega)]
        refine congrArg (fun t => some (t, (0 : Int))) ?_; omega
      · rw [if_neg h3, if_neg h3, IntWalk.wrap64_in _ (by omega)]
        refine congrArg (fun t => some (t, (0 : Int))) ?_; omega
    · rw [decide_eq_false h2, decide_eq_false (by omega), Option.bind_some, if_neg (by decide), if_neg (by decide)]
  · rw [if_neg h1, decide_eq_false (by omega), Option.bind_some, if_neg (by decide), if_neg (by decide)]
theorem fget_f (u : Nat) : fold_Get.f 5 (u : Int) = if u ≤ 33554432 then some (ufld u, 0) else some (0, 1000) := by
  unfold fold_Get.f
  rw [if_neg (by omega)]
  simp only [fold_Get.j0]
  by_cases h : u ≤ 33554432
  · rw [decide_eq_false (by omega), if_neg (by decide), if_pos h, Int.tmod_eq_emod_of_nonneg (by omega), Int.tdiv_eq_ediv_of_nonneg (by omega)]
    unfold ufld
    by_cases c : u % 2 = 1
    · rw [if_pos (by omega), if_pos c, IntWalk.wrap64_in ((u : Int) / 2) (by omega), IntWalk.wrap64_in (-((u : Int) / 2)) (by omega), IntWalk.wrap64_in _ (by omega)]
      refine congrArg (fun t => some (t, (0 : Int))) ?_; omega
    · rw [if_neg (by omega), if_neg c, IntWalk.wrap64_in _ (by omega)]
      refine congrArg (fun t => some (t, (0 : Int))) ?_; omega
  · rw [decide_eq_true (by omega), if_pos rfl, if_neg h]
end Go.Proofs.YtiokfaiioealdaaGreatDoor.PG
namespace Go.Proofs.YtiokfaiioealdaaGreatDoor
open Go.RowKit Go.Proofs.YtiokfaiioealdaaGreatDoorW.PrintWords Go.Proofs.YtiokfaiioealdaaGreatDoor.L
set_option linter.unusedVariables false
set_option linter.unusedSimpArgs false
theorem odd_no (b : Int) (w : World) (hb : b = 0 ∨ b = 1) : Calls Tryz.prog 183 #[.int .i64 b] w fun e w' => e = .returned (.bool false) ∧ w = w' := by
  rcases hb with rfl | rfl
  · go_enter Tryz.func183, Tryz.ntmps183
    go_wp2
    go_ret
    exact ⟨rfl, rfl⟩
  · go_enter Tryz.func183, Tryz.ntmps183
    go_wp2
    go_ret
    exact ⟨rfl, rfl⟩
set_option maxHeartbeats 1000000 in
set_option maxRecDepth 100000 in
theorem index_bits (A : Option Addr) (c : Nat) (l : List Int) (w : World) (hr : Kd.C (Kd.int .i64) w A l.length l) (hn : l.length < 281474976710656) (h01 : ∀ b ∈ l, b = 0 ∨ b = 1) :
    Calls Tryz.prog 171 #[.slice A l.length c, .func (.func 183) #[] #[]] w fun e w' => e = .returned (.int .i64 (-1)) ∧ w = w' := by
  go_enter Tryz.func171, Tryz.ntmps171
  go_wp2
  go_loopg [8] l.length (fun k v w' => ∃ i : Nat, v = .int .i64 i ∧ i + k = l.length ∧ w = w')
  case atStart => exact ⟨0, by simp, by omega, rfl⟩
  case round =>
    obtain ⟨i, rfl, hi, rfl⟩ := hrel
    by_cases c1 : i < l.length
    · have d1 : decide ((i : Int) < (l.length : Int)) = true := decide_eq_true (by omega)
      obtain ⟨ad, e, hx⟩ := Kd.at_int hr i (by omega) (by omega)
      cases e
      rw [Int.toNat_natCast] at hx
      have p1 : (0 ≤ (i : Int)) = True := eq_true (by omega)
      have q1 : ((i : Int) < (l.length : Int)) = True := eq_true (by omega)
      have hb : rd l (i : Int) = 0 ∨ rd l (i : Int) = 1 := by
        have : rd l (i : Int) = l[i] := by unfold rd; rw [Int.toNat_natCast, List.getD_eq_getElem?_getD, List.getElem?_eq_getElem c1]; rfl
        rw [this]; exact h01 _ (List.getElem_mem c1)
      generalize rd l (i : Int) = X at *
      replace hb := Lib.hid hb
      go_wp2_with (go_at_call 183; refine (odd_no X _ hb.out).mono ?_; rintro e w1 ⟨rfl, rfl⟩)
      obtain ⟨k, rfl⟩ : ∃ k, gk = k + 1 := ⟨gk - 1, by omega⟩
      go_roundg k
      case measure => omega
      case rel => exact ⟨i + 1, by simp, by omega, rfl⟩
    · have d1 : decide ((i : Int) < (l.length : Int)) = false := decide_eq_false (by omega)
      go_wp2
      go_ret
      exact ⟨rfl, rfl⟩
theorem contains_bits (A : Option Addr) (c : Nat) (l : List Int) (w : World) (hr : Kd.C (Kd.int .i64) w A l.length l) (hn : l.length < 281474976710656) (h01 : ∀ b ∈ l, b = 0 ∨ b = 1) :
    Calls Tryz.prog 140 #[.slice A l.length c, .func (.func 183) #[] #[]] w fun e w' => e = .returned (.bool false) ∧ w = w' := by
  go_enter Tryz.func140, Tryz.ntmps140
  go_wp2_with (go_at_call 171; refine (index_bits A c l _ hr hn h01).mono ?_; rintro e w1 ⟨rfl, rfl⟩)
  go_ret
  exact ⟨rfl, rfl⟩
theorem least_any (x : Int) (w : World) : Calls Tryz.prog 184 #[.int .i64 x] w fun e w' => e = .returned (.int .i64 (min x 31)) ∧ w = w' := by
  go_enter Tryz.func184, Tryz.ntmps184
  go_wp2
  go_ret
  exact ⟨rfl, rfl⟩
theorem last_rd (l : List Int) (h : 0 < l.length) : l.getLast? = some (rd l ((l.length : Int) - 1)) := by
  rw [List.getLast?_eq_getElem?]
  unfold rd
  rw [show ((l.length : Int) - 1).toNat = l.length - 1 by omega, List.getD_eq_getElem?_getD, List.getElem?_eq_getElem (by omega)]; rfl
theorem info3c : (Tryz.prog.info? 61).map (·.size) = some 3 := by kernel_rfl
set_option maxHeartbeats 8000000 in
set_option maxRecDepth 100000 in
theorem ctx_any (before : Int) (A : Option Addr) (c : Nat) (l : List Int) (w : World) (hr : Kd.C (Kd.int .i64) w A l.length l) (hc : l.length ≤ c) (hb : 0 ≤ before ∧ before ≤ 63) (hl : l.length ≤ 63) (h01 : ∀ b ∈ l, b = 0 ∨ b = 1) :
    Calls Tryz.prog 158 #[.int .i64 before, .slice A l.length c] w fun e w' => e = .returned (.tuple #[v3 (cx0 l) (cx1 before l) (cx2 l), .int .i64 0]) ∧ Below w.heap.size w w' := by
  have hones := PG.ones_f l (by omega) (l.length + 1) (by omega)
  have hiz : decide (l[gOnes l]? = some 0) = isZ l := rfl
  rw [hiz] at hones
  have hn := gOnes_le l
  have hcon := fun w1 hr1 => contains_bits A c l w1 hr1 (by omega) h01
  have d1 : decide (before < 0) = false := decide_eq_false (by omega)
  have d2 : decide (63 < before) = false := decide_eq_false (by omega)
  have d3 : decide (63 < (l.length : Int)) = false := decide_eq_false (by omega)
  have hlast : (l.length = 0 ∧ l.getLast? = none) ∨ (0 < l.length ∧ ∃ X, l.getLast? = some X ∧ rd l ((l.length : Int) - 1) = X) := by
    rcases Nat.eq_zero_or_pos l.length with h | h
    · left
      have := List.length_eq_zero_iff.1 h
      subst this; exact ⟨rfl, rfl⟩
    · exact .inr ⟨h, _, last_rd l h, rfl⟩
  unfold cx0 cx1 cx2
  obtain ⟨n, hnn⟩ : ∃ n : Nat, gOnes l = n := ⟨_, rfl⟩
  rw [hnn] at hones hn ⊢
  have HO := Lib.hid hones
  clear hones hiz hnn h01
  have w0 : IntKind.i64.wrap (2 * min before 31) = 2 * min before 31 := IntWalk.i64_in _ (by omega)
  have w1 : IntKind.i64.wrap (min (n : Int) 31 + 32) = min (n : Int) 31 + 32 := IntWalk.i64_in _ (by omega)
  have w2 : IntKind.i64.wrap (2 * min before 31 + 1) = 2 * min before 31 + 1 := IntWalk.i64_in _ (by omega)
  have w3 : IntKind.i64.wrap (min (l.length : Int) 31 + 32) = min (l.length : Int) 31 + 32 := IntWalk.i64_in _ (by omega)
  have hB := L.below_alloc (Below.refl w.heap.size w) (.cells #[.int .i64 0, .int .i64 0, .int .i64 0] 61)
  have hZ := L.BC.new w [.int .i64 0, .int .i64 0, .int .i64 0] 61
  have hC := Kd.C_alloc hr (.cells #[.int .i64 0, .int .i64 0, .int .i64 0] 61)
  unfold v3
  generalize isZ l = Z at *
  rcases hlast with ⟨h0, hg⟩ | ⟨h0, X, hg, hX⟩
  · rw [hg]
    have dl : decide (0 < (l.length : Int)) = false := decide_eq_false (by omega)
    have dl2 : (0 < l.length) = False := eq_false (by omega)
    replace h0 := Lib.hid h0
    cases Z
    all_goals
      go_enter Tryz.func158, Tryz.ntmps158
      go_wp2_with (first | (go_at_call 140; refine (hcon _ hC).mono ?_; rintro e w9 ⟨rfl, rfl⟩) | (go_at_call 92; refine (PG.gamma_Ones.calls _ _ c l _ _ _ hC hc HO.out).mono ?_; rintro e w9 ⟨rfl, ⟨⟨m, rfl⟩⟩⟩) | (go_at_call 184; refine (least_any _ _).mono ?_; rintro e w9 ⟨rfl, rfl⟩))
      exact bodyPost_ret (L.bc_resultst (P := Tryz.prog) Tryz.results158 _ _ w.heap.size _ _ rfl (L.BC.range (L.BC.alloc (L.BC.set (L.BC.set (L.BC.set (L.BC.drewN hZ m) 0 _) 1 _) 2 _) _)) Tryz.underlying61 rfl info3c) rfl ⟨rfl, L.below_alloc ((((L.below_drewN hB m).setCell (p := ⟨w.heap.size, 0, none⟩) (Nat.le_refl _) _).setCell (p := ⟨w.heap.size, 1, none⟩) (Nat.le_refl _) _).setCell (p := ⟨w.heap.size, 2, none⟩) (Nat.le_refl _) _) _⟩
  · rw [hg]
    have dl : decide (0 < (l.length : Int)) = true := decide_eq_true (by omega)
    have dl2 : (0 < l.length) = True := eq_true (by omega)
    have wl : IntKind.i64.wrap ((l.length : Int) - 1) = (l.length : Int) - 1 := IntWalk.i64_in _ (by omega)
    obtain ⟨ad, ead, hx⟩ := Kd.at_int hC ((l.length : Int) - 1) (by omega) (by omega)
    cases ead
    rw [hX, show ((l.length : Int) - 1).toNat = l.length - 1 by omega] at hx
    have p0 := eq_true (show 0 ≤ (l.length : Int) - 1 by omega)
    have p1 := eq_true (show (l.length : Int) - 1 < (l.length : Int) by omega)
    have p2 := eq_true (show 1 ≤ (l.length : Int) by omega)
    replace h0 := Lib.hid h0
    clear hg hX
    by_cases hx1 : X = 1
    · subst hx1
      cases Z
      all_goals
        go_enter Tryz.func158, Tryz.ntmps158
        go_wp2_with (first | (go_at_call 140; refine (hcon _ hC).mono ?_; rintro e w9 ⟨rfl, rfl⟩) | (go_at_call 92; refine (PG.gamma_Ones.calls _ _ c l _ _ _ hC hc HO.out).mono ?_; rintro e w9 ⟨rfl, ⟨⟨m, rfl⟩⟩⟩; have hx2 := fun o => L.cell_below (w := (w.alloc (.cells #[.int .i64 0, .int .i64 0, .int .i64 0] 61)).drewN m) (L.below_alloc (Below.refl _ _) o) hx) | (go_at_call 184; refine (least_any _ _).mono ?_; rintro e w9 ⟨rfl, rfl⟩))
        exact bodyPost_ret (L.bc_resultst (P := Tryz.prog) Tryz.results158 _ _ w.heap.size _ _ rfl (L.BC.range (L.BC.alloc (L.BC.set (L.BC.set (L.BC.set (L.BC.drewN hZ m) 0 _) 1 _) 2 _) _)) Tryz.underlying61 rfl info3c) rfl ⟨rfl, L.below_alloc ((((L.below_drewN hB m).setCell (p := ⟨w.heap.size, 0, none⟩) (Nat.le_refl _) _).setCell (p := ⟨w.heap.size, 1, none⟩) (Nat.le_refl _) _).setCell (p := ⟨w.heap.size, 2, none⟩) (Nat.le_refl _) _) _⟩
    · have hxb : (X == 1) = false := by simpa using hx1
      have hx3 : ((some X : Option Int) = some 1) = False := eq_false (by simpa using hx1)
      replace hx1 := Lib.hid hx1
      simp only [hx3]
      cases Z
      all_goals
        go_enter Tryz.func158, Tryz.ntmps158
        go_wp2_with (first | (go_at_call 140; refine (hcon _ hC).mono ?_; rintro e w9 ⟨rfl, rfl⟩) | (go_at_call 92; refine (PG.gamma_Ones.calls _ _ c l _ _ _ hC hc HO.out).mono ?_; rintro e w9 ⟨rfl, ⟨⟨m, rfl⟩⟩⟩; have hx2 := fun o => L.cell_below (w := (w.alloc (.cells #[.int .i64 0, .int .i64 0, .int .i64 0] 61)).drewN m) (L.below_alloc (Below.refl _ _) o) hx) | (go_at_call 184; refine (least_any _ _).mono ?_; rintro e w9 ⟨rfl, rfl⟩))
        exact bodyPost_ret (L.bc_resultst (P := Tryz.prog) Tryz.results158 _ _ w.heap.size _ _ rfl (L.BC.range (L.BC.alloc (L.BC.set (L.BC.set (L.BC.set (L.BC.drewN hZ m) 0 _) 1 _) 2 _) _)) Tryz.underlying61 rfl info3c) rfl ⟨rfl, L.below_alloc ((((L.below_drewN hB m).setCell (p := ⟨w.heap.size, 0, none⟩) (Nat.le_refl _) _).setCell (p := ⟨w.heap.size, 1, none⟩) (Nat.le_refl _) _).setCell (p := ⟨w.heap.size, 2, none⟩) (Nat.le_refl _) _) _⟩
end Go.Proofs.YtiokfaiioealdaaGreatDoor
namespace Go.Proofs.YtiokfaiioealdaaGreatDoor
open Go.RowKit Go.Proofs.YtiokfaiioealdaaGreatDoorW.PrintWords Go.Proofs.YtiokfaiioealdaaGreatDoorW.PrintLast Go.Proofs.YtiokfaiioealdaaGreatDoorW.PrintMore Go.Proofs.YtiokfaiioealdaaGreatDoor.L
set_option linter.unusedVariables false
set_option linter.unusedSimpArgs false
theorem info3 : (Tryz.prog.info? 61).map (·.size) = some 3 := by kernel_rfl
theorem infoM {M : List Int} (hM : M.length = 195) : (Tryz.prog.info? 63).map (·.size) = some (ints M).length := by rw [ints_length, hM]; kernel_rfl
theorem results_tc {P : Program} {fn : Func} {p u : Tmp} {ty : TypeId} (h : fn.results = #[.tmp u, .cell p ty]) (tmps : Array Value) (w : World) (g : Nat) (cs : List Value) (d : TypeDesc)
    (hp : tmps.getD p undef = .pointer (some ⟨g, 0, none⟩)) (hc : w.rangeAt g 0 cs) (hu : P.underlying ty = some d) (hd : d.isRow = true) (hi : (P.info? ty).map (·.size) = some cs.length) :
    (results fn tmps).run P w = .ok (.tuple #[tmps.getD u undef, .agg cs.toArray]) w := by
  have hp' : tmps[p]?.getD undef = .pointer (some ⟨g, 0, none⟩) := by simpa using hp
  simp [results, h, hp', asAddr, run_loadVar_mid w g 0 ty cs d hc hu hd hi]
theorem cx_in (before : Int) (l : List Int) (hb : 0 ≤ before) : (0 ≤ cx0 l ∧ cx0 l ≤ 63) ∧ (0 ≤ cx1 before l ∧ cx1 before l ≤ 63) ∧ (0 ≤ cx2 l ∧ cx2 l ≤ 63) := by
  unfold cx0 cx1 cx2
  refine ⟨?_, ?_, ?_⟩ <;> (split <;> omega)
theorem model_p2 (M : List Int) (hM : M.length = 195) (before : Int) (l : List Int) (hb : 0 ≤ before) (hm : mMay M = true) (w : World) (ht : Tab w) :
    Calls Tryz.prog 159 #[.agg (ints M).toArray, v3 (cx0 l) (cx1 before l) (cx2 l)] w fun e w' => e = .returned (.tuple #[.int .i64 (mdot M (cx0 l) (cx1 before l) (cx2 l)), .int .i64 0]) ∧ Below w.heap.size w w' := by
  obtain ⟨h1, h2, h3⟩ := cx_in before l hb
  have := model_p M hM (cx0 l) (cx1 before l) (cx2 l) w ht
  have hx : xOk (cx0 l) (cx1 before l) (cx2 l) = true := xOk_iff.2 ⟨h1, h2, h3⟩
  rw [hm, hx] at this
  exact this
set_option maxHeartbeats 8000000 in
set_option maxRecDepth 100000 in
theorem chance_any (g ty : Nat) (M : List Int) (before : Int) (A : Option Addr) (cap : Nat) (l : List Int) (T : List Value) (w : World) (ht : Tab w) (hM : M.length = 195) (hI : L.BC w g ty (stc M before (.slice A l.length cap) T))
    (hC : Kd.C (Kd.int .i64) w A l.length l) (hc : l.length ≤ cap) (hm : mMay M = true) (hb : 0 ≤ before ∧ before ≤ 63) (hl : l.length ≤ 63) (h01 : ∀ b ∈ l, b = 0 ∨ b = 1) :
    Calls Tryz.prog 121 #[.pointer (some ⟨g, 0, none⟩)] w fun e w' => e = .returned (.tuple #[.int .i64 (mdot M (cx0 l) (cx1 before l) (cx2 l)), v3 (cx0 l) (cx1 before l) (cx2 l)]) ∧ Below w.heap.size w w' := by
  have hctx := fun w1 hC1 => ctx_any before A cap l w1 hC1 hc hb hl h01
  have hp := fun w1 ht1 => model_p2 M hM before l hb.1 hm w1 ht1
  have hB := L.below_alloc (Below.refl w.heap.size w) (.cells #[.int .i64 0, .int .i64 0, .int .i64 0] 61)
  have hR := L.BC.new w [.int .i64 0, .int .i64 0, .int .i64 0] 61
  have hI1 := L.BC.alloc hI (.cells #[.int .i64 0, .int .i64 0, .int .i64 0] 61)
  have hC1 := Kd.C_alloc hC (.cells #[.int .i64 0, .int .i64 0, .int .i64 0] 61)
  have hgw := hI.lt
  unfold v3 at hctx hp ⊢
  clear hI hC
  generalize cx0 l = c0 at *
  generalize cx1 before l = c1 at *
  generalize cx2 l = c2 at *
  generalize mdot M c0 c1 c2 = p at *
  go_enter Tryz.func121, Tryz.ntmps121
  go_wp2
  generalize w.alloc (.cells #[.int .i64 0, .int .i64 0, .int .i64 0] 61) = w1 at hB hR hI1 hC1 ⊢
  replace hI1 := L.BC.drew hI1
  replace hR := L.BC.drew hR
  replace hC1 := Kd.C_drew hC1
  replace hB := L.below_drew hB
  refine start_ (n := 15) (S := fun w' => w'.cell? ⟨g, 195, none⟩ = some (.int .i64 before) ∧ w'.cell? ⟨g, 196, none⟩ = some (.slice A l.length cap)) (ds := [13]) #[false, false, false, false, false, false, false, false, false, false, false, false, false, false, false] (by kernel_rfl) rfl rfl ⟨L.BC.at_ hI1 (stc_before hM), L.BC.at_ hI1 (stc_bits hM)⟩ (fun hHeld => ?_)
  generalize w1.drew = w2 at hI1 hR hC1 hB hHeld ⊢
  refine pure_ (i := 0) (N := (some 9)) (v := ?_) (a' := ?_) #[true, false, false, false, false, false, false, false, false, false, false, false, false, false, false] rfl rfl (by kernel_rfl) (fun _ _ _ h => h) (Or.inl ⟨by rfl, ?_⟩) ?_ ?_
  rotate_left
  · intro w'
    go_simp
    with_reducible rfl
  rotate_left
  · simp only [Act.put, List.setIfInBounds_toArray, List.set_cons_zero, List.set_cons_succ, i64_w, i32_w]
    rfl
  refine pure_ (i := 1) (N := (some 10)) (v := ?_) (a' := ?_) #[true, true, false, false, false, false, false, false, false, false, false, false, false, false, false] rfl rfl (by kernel_rfl) (fun _ _ _ h => h) (Or.inl ⟨by rfl, ?_⟩) ?_ ?_
  rotate_left
  · intro w'
    go_simp
    with_reducible rfl
  rotate_left
  · simp only [Act.put, List.setIfInBounds_toArray, List.set_cons_zero, List.set_cons_succ, i64_w, i32_w]
    rfl
  refine pure_ (i := 2) (N := (some 11)) (v := ?_) (a' := ?_) #[true, true, true, false, false, false, false, false, false, false, false, false, false, false, false] rfl rfl (by kernel_rfl) (fun _ _ _ h => h) (Or.inl ⟨by rfl, ?_⟩) ?_ ?_
  rotate_left
  · intro w'
    go_simp
    with_reducible rfl
  rotate_left
  · simp only [Act.put, List.setIfInBounds_toArray, List.set_cons_zero, List.set_cons_succ, i64_w, i32_w]
    rfl
  refine pure_ (i := 4) (N := (some 13)) (v := ?_) (a' := ?_) #[true, true, true, false, true, false, false, false, false, false, false, false, false, false, false] rfl rfl (by kernel_rfl) (fun _ _ _ h => h) (Or.inl ⟨by rfl, ?_⟩) ?_ ?_
  rotate_left
  · intro w'
    go_simp
    with_reducible rfl
  rotate_left
  · simp only [Act.put, List.setIfInBounds_toArray, List.set_cons_zero, List.set_cons_succ, i64_w, i32_w]
    rfl
  refine pure_ (i := 5) (N := (some 14)) (v := ?_) (a' := ?_) #[true, true, true, false, true, true, false, false, false, false, false, false, false, false, false] rfl rfl (by kernel_rfl) (fun _ _ _ h => h) (Or.inl ⟨by rfl, ?_⟩) ?_ ?_
  rotate_left
  · intro w'
    go_simp
    with_reducible rfl
  rotate_left
  · simp only [Act.put, List.setIfInBounds_toArray, List.set_cons_zero, List.set_cons_succ, i64_w, i32_w]
    rfl
  refine pure_ (i := 6) (N := (some 15)) (v := ?_) (a' := ?_) #[true, true, true, false, true, true, true, false, false, false, false, false, false, false, false] rfl rfl (by kernel_rfl) (fun _ _ _ h => h) (Or.inl ⟨by rfl, ?_⟩) ?_ ?_
  rotate_left
  · intro w'
    go_simp
    with_reducible rfl
  rotate_left
  · simp only [Act.put, List.setIfInBounds_toArray, List.set_cons_zero, List.set_cons_succ, i64_w, i32_w]
    rfl
  refine take_ (i := 3) (N := (some 12)) (v := ?_) (a' := ?_) #[true, true, true, true, true, true, true, false, false, false, false, false, false, false, false] rfl rfl (by kernel_rfl) (fun _ _ _ h => h) (Or.inl ⟨by rfl, ?_⟩) hHeld ?_ ?_
  rotate_left
  · rintro w' ⟨s0, s1⟩
    go_simp
    with_reducible rfl
  rotate_left
  · simp only [Act.put, List.setIfInBounds_toArray, List.set_cons_zero, List.set_cons_succ, i64_w, i32_w]
    rfl
  refine take_ (i := 7) (N := (some 16)) (v := ?_) (a' := ?_) #[true, true, true, true, true, true, true, true, false, false, false, false, false, false, false] rfl rfl (by kernel_rfl) (fun _ _ _ h => h) (Or.inl ⟨by rfl, ?_⟩) hHeld ?_ ?_
  rotate_left
  · rintro w' ⟨s0, s1⟩
    go_simp
    with_reducible rfl
  rotate_left
  · simp only [Act.put, List.setIfInBounds_toArray, List.set_cons_zero, List.set_cons_succ, i64_w, i32_w]
    rfl
  refine join_ (σ := Nat) 2 #[true, true, true, true, true, true, true, true, true, true, true, true, true, false, false] (fun s_ => [(17, (.tuple #[(.agg #[.int .i64 c0, .int .i64 c1, .int .i64 c2]), .int .i64 0])), (4, .pointer (some ⟨s_, 0, none⟩)), (8, (.tuple #[(.agg #[.int .i64 c0, .int .i64 c1, .int .i64 c2]), .int .i64 0])), (18, (.agg #[.int .i64 c0, .int .i64 c1, .int .i64 c2])), (19, .int .i64 0)]) (fun s_ w' => L.BC w' g ty (stc M before (.slice A l.length cap) T) ∧ Below w.heap.size w w' ∧ L.BC w' w.heap.size 61 [.int .i64 0, .int .i64 0, .int .i64 0] ∧ L.BC w' s_ 61 [.int .i64 0, .int .i64 0, .int .i64 0] ∧ s_ ≠ w.heap.size ∧ s_ ≠ g ∧ w.heap.size ≤ s_ ∧ Tab w') ?_ ?_
  rotate_left
  · intro hCont
    refine two_ (i := 8) (j := 12) (Ni := (some 17)) (Nj := (some 4)) #[true, true, true, true, true, true, true, true, true, false, false, false, false, false, false] #[true, true, true, true, true, true, true, true, false, false, false, false, true, false, false] rfl rfl rfl rfl (by kernel_rfl) (by decide) (by decide) (fun K hK => ?_) (fun K hK => ?_)
    ·
      refine goes_ Tryz.func158 (by kernel_rfl) rfl #[.int .i64 before, .slice A l.length cap] (by rfl) rfl rfl (by (try simp only [List.map_toArray, List.map_cons, List.map_nil]); first | done | rfl) ?_
      refine (hctx _ hC1).mono ?_
      rintro e w3 ⟨rfl, hb⟩
      refine ⟨_, rfl, ?_⟩
      replace hI1 := L.BC.below hI1 hb
      replace hR := L.BC.below hR hb
      replace hB := L.below_next hB hb
      clear hb hC1 hctx
      refine hK.out _ _ ⟨L.BC.at_ hI1 (stc_before hM), L.BC.at_ hI1 (stc_bits hM)⟩ (fun hHeld => ?_)
      clear hK K
      refine norm_ (a' := ?_) ?_ ?_
      rotate_left
      · show Act.put _ (some 17) _ = _
        simp only [Act.put, List.setIfInBounds_toArray, List.set_cons_zero, List.set_cons_succ, i64_w, i32_w]
        rfl
      refine pure_ (i := 9) (N := (some 8)) (v := ?_) (a' := ?_) #[true, true, true, true, true, true, true, true, true, true, false, false, false, false, false] rfl rfl (by kernel_rfl) (fun _ _ _ h => h) (Or.inl ⟨by rfl, ?_⟩) ?_ ?_
      rotate_left
      · intro w'
        go_simp
        with_reducible rfl
      rotate_left
      · simp only [Act.put, List.setIfInBounds_toArray, List.set_cons_zero, List.set_cons_succ, i64_w, i32_w]
        rfl
      refine pure_ (i := 10) (N := (some 18)) (v := ?_) (a' := ?_) #[true, true, true, true, true, true, true, true, true, true, true, false, false, false, false] rfl rfl (by kernel_rfl) (fun _ _ _ h => h) (Or.inl ⟨by rfl, ?_⟩) ?_ ?_
      rotate_left
      · intro w'
        go_simp
        with_reducible rfl
      rotate_left
      · simp only [Act.put, List.setIfInBounds_toArray, List.set_cons_zero, List.set_cons_succ, i64_w, i32_w]
        rfl
      refine pure_ (i := 11) (N := (some 19)) (v := ?_) (a' := ?_) #[true, true, true, true, true, true, true, true, true, true, true, true, false, false, false] rfl rfl (by kernel_rfl) (fun _ _ _ h => h) (Or.inl ⟨by rfl, ?_⟩) ?_ ?_
      rotate_left
      · intro w'
        go_simp
        with_reducible rfl
      rotate_left
      · simp only [Act.put, List.setIfInBounds_toArray, List.set_cons_zero, List.set_cons_succ, i64_w, i32_w]
        rfl
      refine one_ (i := 12) (N := (some 4)) #[true, true, true, true, true, true, true, true, true, true, true, true, true, false, false] rfl rfl (by kernel_rfl) (by decide) (fun K hK => ?_)
      refine box_step ?hg (N := 4) ?hd (cs := #[.int .i64 0, .int .i64 0, .int .i64 0]) (t := 61) ?hr ?_; (case hd => rfl); (case hg => rfl); (case hr => first | (go_simp; done) | (go_simp; rfl))
      intro g4 hg w4 hbox hb
      have hgn : g4 ≠ g := Nat.ne_of_gt (hg ▸ hI1.lt)
      have hne : g4 ≠ w.heap.size := Nat.ne_of_gt (hg ▸ hR.lt)
      have hle : w.heap.size ≤ g4 := hg ▸ hB.size
      replace hI1 := L.BC.below hI1 hb
      replace hR := L.BC.below hR hb
      replace hB := L.below_next hB hb
      have htt := ht.below hB
      refine hK.out _ _ ⟨L.BC.at_ hI1 (stc_before hM), L.BC.at_ hI1 (stc_bits hM)⟩ (fun hHeld => ?_)
      clear hK K
      refine norm_ (a' := ?_) ?_ ?_
      rotate_left
      · show Act.put _ (some 4) _ = _
        simp only [Act.put, List.setIfInBounds_toArray, List.set_cons_zero, List.set_cons_succ, i64_w, i32_w]
        rfl
      exact norm_ (by first | (simp only [putAll, Act.put, List.setIfInBounds_toArray, List.set_cons_zero, List.set_cons_succ]; done) | (simp only [putAll, Act.put, List.setIfInBounds_toArray, List.set_cons_zero, List.set_cons_succ]; rfl)) (hCont g4 _ ⟨hI1, hB, hR, ⟨hbox⟩, hne, hgn, hle, htt⟩)
    ·
      refine box_step ?hg (N := 4) ?hd (cs := #[.int .i64 0, .int .i64 0, .int .i64 0]) (t := 61) ?hr ?_; (case hd => rfl); (case hg => rfl); (case hr => first | (go_simp; done) | (go_simp; rfl))
      intro g4 hg w4 hbox hb
      have hgn : g4 ≠ g := Nat.ne_of_gt (hg ▸ hI1.lt)
      have hne : g4 ≠ w.heap.size := Nat.ne_of_gt (hg ▸ hR.lt)
      have hle : w.heap.size ≤ g4 := hg ▸ hB.size
      replace hI1 := L.BC.below hI1 hb
      replace hR := L.BC.below hR hb
      replace hC1 := Kd.C_below hC1 hb
      replace hB := L.below_next hB hb
      clear hb
      refine hK.out _ _ ⟨L.BC.at_ hI1 (stc_before hM), L.BC.at_ hI1 (stc_bits hM)⟩ (fun hHeld => ?_)
      clear hK K
      refine norm_ (a' := ?_) ?_ ?_
      rotate_left
      · show Act.put _ (some 4) _ = _
        simp only [Act.put, List.setIfInBounds_toArray, List.set_cons_zero, List.set_cons_succ, i64_w, i32_w]
        rfl
      refine one_ (i := 8) (N := (some 17)) #[true, true, true, true, true, true, true, true, true, false, false, false, true, false, false] rfl rfl (by kernel_rfl) (by decide) (fun K hK => ?_)
      refine goes_ Tryz.func158 (by kernel_rfl) rfl #[.int .i64 before, .slice A l.length cap] (by rfl) rfl rfl (by (try simp only [List.map_toArray, List.map_cons, List.map_nil]); first | done | rfl) ?_
      refine (hctx _ hC1).mono ?_
      rintro e w3 ⟨rfl, hb⟩
      refine ⟨_, rfl, ?_⟩
      replace hI1 := L.BC.below hI1 hb
      replace hR := L.BC.below hR hb
      replace hB := L.below_next hB hb
      have hX4 := L.BC.below (cs := [.int .i64 0, .int .i64 0, .int .i64 0]) ⟨hbox⟩ hb
      clear hb hC1 hctx hbox
      have htt := ht.below hB
      refine hK.out _ _ ⟨L.BC.at_ hI1 (stc_before hM), L.BC.at_ hI1 (stc_bits hM)⟩ (fun hHeld => ?_)
      clear hK K
      refine norm_ (a' := ?_) ?_ ?_
      rotate_left
      · show Act.put _ (some 17) _ = _
        simp only [Act.put, List.setIfInBounds_toArray, List.set_cons_zero, List.set_cons_succ, i64_w, i32_w]
        rfl
      refine pure_ (i := 9) (N := (some 8)) (v := ?_) (a' := ?_) #[true, true, true, true, true, true, true, true, true, true, false, false, true, false, false] rfl rfl (by kernel_rfl) (fun _ _ _ h => h) (Or.inl ⟨by rfl, ?_⟩) ?_ ?_
      rotate_left
      · intro w'
        go_simp
        with_reducible rfl
      rotate_left
      · simp only [Act.put, List.setIfInBounds_toArray, List.set_cons_zero, List.set_cons_succ, i64_w, i32_w]
        rfl
      refine pure_ (i := 10) (N := (some 18)) (v := ?_) (a' := ?_) #[true, true, true, true, true, true, true, true, true, true, true, false, true, false, false] rfl rfl (by kernel_rfl) (fun _ _ _ h => h) (Or.inl ⟨by rfl, ?_⟩) ?_ ?_
      rotate_left
      · intro w'
        go_simp
        with_reducible rfl
      rotate_left
      · simp only [Act.put, List.setIfInBounds_toArray, List.set_cons_zero, List.set_cons_succ, i64_w, i32_w]
        rfl
      refine pure_ (i := 11) (N := (some 19)) (v := ?_) (a' := ?_) #[true, true, true, true, true, true, true, true, true, true, true, true, true, false, false] rfl rfl (by kernel_rfl) (fun _ _ _ h => h) (Or.inl ⟨by rfl, ?_⟩) ?_ ?_
      rotate_left
      · intro w'
        go_simp
        with_reducible rfl
      rotate_left
      · simp only [Act.put, List.setIfInBounds_toArray, List.set_cons_zero, List.set_cons_succ, i64_w, i32_w]
        rfl
      exact norm_ (by first | (simp only [putAll, Act.put, List.setIfInBounds_toArray, List.set_cons_zero, List.set_cons_succ]; done) | (simp only [putAll, Act.put, List.setIfInBounds_toArray, List.set_cons_zero, List.set_cons_succ]; rfl)) (hCont g4 _ ⟨hI1, hB, hR, hX4, hne, hgn, hle, htt⟩)
  rintro g4 w5 ⟨hI5, hB5, hR5, hX5, hne, hgn, hle, htt⟩
  clear hI1 hR hB hC1 hctx hHeld
  refine norm_ (a' := ?_) ?_ ?_
  rotate_left
  · simp only [putAll, Act.put, List.setIfInBounds_toArray, List.set_cons_zero, List.set_cons_succ]
    rfl
  refine last_ (i := 13) (N := none) #[true, true, true, true, true, true, true, true, true, true, true, true, true, true, false] rfl rfl (by kernel_rfl) (by decide) (fun K hK => ?_)
  refine L.skip_over 61 (.tmp 4) (.tmp 18) g4 [.int .i64 0, .int .i64 0, .int .i64 0] [.int .i64 c0, .int .i64 c1, .int .i64 c2] (by rfl) rfl (by rfl) (by rfl) (by rfl) hX5 rfl info3 (by intro v hv; simp only [List.mem_cons, List.not_mem_nil, or_false] at hv; rcases hv with rfl | rfl | rfl <;> rfl) ?_
  have hX6 := L.BC.over (R := [.int .i64 c0, .int .i64 c1, .int .i64 c2]) hX5 rfl
  have hI6 := L.BC.beside hI5 hgn [.int .i64 c0, .int .i64 c1, .int .i64 c2]
  have hR6 := L.BC.beside hR5 hne [.int .i64 c0, .int .i64 c1, .int .i64 c2]
  have hB6 := L.bc_below_setCells hle [.int .i64 c0, .int .i64 c1, .int .i64 c2] 0 _ hB5
  have ht6 := ht.below hB6
  clear hX5 hI5 hR5 hB5 htt
  generalize (World.setCells w5 g4 0 [.int .i64 c0, .int .i64 c1, .int .i64 c2]) = w6 at *
  refine hK.out _ _ ?_
  clear hK K
  refine pure_ (i := 14) (N := (some 5)) (v := ?_) (a' := ?_) #[true, true, true, true, true, true, true, true, true, true, true, true, true, true, true] rfl rfl (by kernel_rfl) (fun _ _ _ h => h) (Or.inl ⟨by rfl, ?_⟩) ?_ ?_
  rotate_left
  · intro w'
    go_simp
    with_reducible rfl
  rotate_left
  · simp only [Act.put, List.setIfInBounds_toArray, List.set_cons_zero, List.set_cons_succ, i64_w, i32_w]
    rfl
  refine done_ (by kernel_rfl) ?_
  go_wp2
  have hp6 := hp w6.drew (ht6.below (L.below_drew (Below.refl _ _)))
  replace hX6 := L.BC.drew hX6
  replace hI6 := L.BC.drew hI6
  replace hR6 := L.BC.drew hR6
  replace hB6 := L.below_drew hB6
  refine start_ (n := 11) (S := fun w' => w'.rangeAt g 0 (ints M) ∧ L.BC w' g4 61 [.int .i64 c0, .int .i64 c1, .int .i64 c2]) (ds := []) #[false, false, false, false, false, false, false, false, false, false, false] (by kernel_rfl) rfl rfl ⟨stc_range hI6, hX6⟩ (fun hHeld => ?_)
  generalize w6.drew = w7 at hX6 hI6 hR6 hB6 hp6 hHeld ⊢
  refine pure_ (i := 0) (N := (some 21)) (v := ?_) (a' := ?_) #[true, false, false, false, false, false, false, false, false, false, false] rfl rfl (by kernel_rfl) (fun _ _ _ h => h) (Or.inl ⟨by rfl, ?_⟩) ?_ ?_
  rotate_left
  · intro w'
    go_simp
    with_reducible rfl
  rotate_left
  · simp only [Act.put, List.setIfInBounds_toArray, List.set_cons_zero, List.set_cons_succ, i64_w, i32_w]
    rfl
  refine pure_ (i := 1) (N := (some 22)) (v := ?_) (a' := ?_) #[true, true, false, false, false, false, false, false, false, false, false] rfl rfl (by kernel_rfl) (fun _ _ _ h => h) (Or.inl ⟨by rfl, ?_⟩) ?_ ?_
  rotate_left
  · intro w'
    go_simp
    with_reducible rfl
  rotate_left
  · simp only [Act.put, List.setIfInBounds_toArray, List.set_cons_zero, List.set_cons_succ, i64_w, i32_w]
    rfl
  refine pure_ (i := 2) (N := (some 23)) (v := ?_) (a' := ?_) #[true, true, true, false, false, false, false, false, false, false, false] rfl rfl (by kernel_rfl) (fun _ _ _ h => h) (Or.inl ⟨by rfl, ?_⟩) ?_ ?_
  rotate_left
  · intro w'
    go_simp
    with_reducible rfl
  rotate_left
  · simp only [Act.put, List.setIfInBounds_toArray, List.set_cons_zero, List.set_cons_succ, i64_w, i32_w]
    rfl
  refine take_ (i := 3) (N := (some 24)) (v := .agg (ints M).toArray) (a' := ?_) #[true, true, true, true, false, false, false, false, false, false, false] rfl rfl (by kernel_rfl) (fun _ _ _ h => h) (Or.inl ⟨by rfl, fun w' hS => L.loadsR 63 (.tmp 23) g (ints M) _ (by rfl) (by rfl) Tryz.underlying63 rfl (infoM hM) w' (And.left hS)⟩) hHeld ?_ ?_
  rotate_left
  · simp only [Act.put, List.setIfInBounds_toArray, List.set_cons_zero, List.set_cons_succ, i64_w, i32_w]
    rfl
  refine take_ (i := 4) (N := (some 25)) (v := .agg #[.int .i64 c0, .int .i64 c1, .int .i64 c2]) (a' := ?_) #[true, true, true, true, true, false, false, false, false, false, false] rfl rfl (by kernel_rfl) (fun _ _ _ h => h) (Or.inl ⟨by rfl, fun w' hS => L.loads 61 (.tmp 4) g4 [.int .i64 c0, .int .i64 c1, .int .i64 c2] _ (by rfl) (by rfl) Tryz.underlying61 rfl info3 w' (And.right hS)⟩) hHeld ?_ ?_
  rotate_left
  · simp only [Act.put, List.setIfInBounds_toArray, List.set_cons_zero, List.set_cons_succ, i64_w, i32_w]
    rfl
  refine one_ (i := 5) (N := (some 26)) #[true, true, true, true, true, true, false, false, false, false, false] rfl rfl (by kernel_rfl) (by decide) (fun K hK => ?_)
  refine goes_ Tryz.func159 (by kernel_rfl) rfl #[.agg (ints M).toArray, .agg #[.int .i64 c0, .int .i64 c1, .int .i64 c2]] (by rfl) rfl rfl (by (try simp only [List.map_toArray, List.map_cons, List.map_nil]); first | done | rfl) ?_
  refine (hp6).mono ?_
  rintro e w8 ⟨rfl, hb⟩
  refine ⟨_, rfl, ?_⟩
  replace hX6 := L.BC.below hX6 hb
  replace hI6 := L.BC.below hI6 hb
  replace hR6 := L.BC.below hR6 hb
  replace hB6 := L.below_next hB6 hb
  clear hb hp6 hp ht6 hHeld
  refine hK.out _ _ ⟨stc_range hI6, hX6⟩ (fun hHeld => ?_)
  clear hK K
  refine norm_ (a' := ?_) ?_ ?_
  rotate_left
  · show Act.put _ (some 26) _ = _
    simp only [Act.put, List.setIfInBounds_toArray, List.set_cons_zero, List.set_cons_succ, i64_w, i32_w]
    rfl
  refine pure_ (i := 6) (N := (some 20)) (v := ?_) (a' := ?_) #[true, true, true, true, true, true, true, false, false, false, false] rfl rfl (by kernel_rfl) (fun _ _ _ h => h) (Or.inl ⟨by rfl, ?_⟩) ?_ ?_
  rotate_left
  · intro w'
    go_simp
    with_reducible rfl
  rotate_left
  · simp only [Act.put, List.setIfInBounds_toArray, List.set_cons_zero, List.set_cons_succ, i64_w, i32_w]
    rfl
  refine pure_ (i := 7) (N := (some 27)) (v := ?_) (a' := ?_) #[true, true, true, true, true, true, true, true, false, false, false] rfl rfl (by kernel_rfl) (fun _ _ _ h => h) (Or.inl ⟨by rfl, ?_⟩) ?_ ?_
  rotate_left
  · intro w'
    go_simp
    with_reducible rfl
  rotate_left
  · simp only [Act.put, List.setIfInBounds_toArray, List.set_cons_zero, List.set_cons_succ, i64_w, i32_w]
    rfl
  refine pure_ (i := 8) (N := (some 28)) (v := ?_) (a' := ?_) #[true, true, true, true, true, true, true, true, true, false, false] rfl rfl (by kernel_rfl) (fun _ _ _ h => h) (Or.inl ⟨by rfl, ?_⟩) ?_ ?_
  rotate_left
  · intro w'
    go_simp
    with_reducible rfl
  rotate_left
  · simp only [Act.put, List.setIfInBounds_toArray, List.set_cons_zero, List.set_cons_succ, i64_w, i32_w]
    rfl
  refine pure_ (i := 9) (N := (some 6)) (v := ?_) (a' := ?_) #[true, true, true, true, true, true, true, true, true, true, false] rfl rfl (by kernel_rfl) (fun _ _ _ h => h) (Or.inl ⟨by rfl, ?_⟩) ?_ ?_
  rotate_left
  · intro w'
    go_simp
    with_reducible rfl
  rotate_left
  · simp only [Act.put, List.setIfInBounds_toArray, List.set_cons_zero, List.set_cons_succ, i64_w, i32_w]
    rfl
  refine pure_ (i := 10) (N := (some 7)) (v := ?_) (a' := ?_) #[true, true, true, true, true, true, true, true, true, true, true] rfl rfl (by kernel_rfl) (fun _ _ _ h => h) (Or.inl ⟨by rfl, ?_⟩) ?_ ?_
  rotate_left
  · intro w'
    go_simp
    with_reducible rfl
  rotate_left
  · simp only [Act.put, List.setIfInBounds_toArray, List.set_cons_zero, List.set_cons_succ, i64_w, i32_w]
    rfl
  refine done_ (by kernel_rfl) ?_
  clear hHeld hI6
  go_wp2
  replace hX6 := L.BC.drew hX6
  replace hR6 := L.BC.drew hR6
  replace hB6 := L.below_drew hB6
  refine start_ (n := 4) (S := fun w' => L.BC w' g4 61 [.int .i64 c0, .int .i64 c1, .int .i64 c2]) (ds := [3]) #[false, false, false, false] (by kernel_rfl) rfl rfl hX6 (fun hHeld => ?_)
  generalize w8.drew = w9 at hX6 hR6 hB6 hHeld ⊢
  refine pure_ (i := 0) (N := (some 29)) (v := ?_) (a' := ?_) #[true, false, false, false] rfl rfl (by kernel_rfl) (fun _ _ _ h => h) (Or.inl ⟨by rfl, ?_⟩) ?_ ?_
  rotate_left
  · intro w'
    go_simp
    with_reducible rfl
  rotate_left
  · simp only [Act.put, List.setIfInBounds_toArray, List.set_cons_zero, List.set_cons_succ, i64_w, i32_w]
    rfl
  refine take_ (i := 1) (N := (some 30)) (v := .agg #[.int .i64 c0, .int .i64 c1, .int .i64 c2]) (a' := ?_) #[true, true, false, false] rfl rfl (by kernel_rfl) (fun _ _ _ h => h) (Or.inl ⟨by rfl, fun w' hS => L.loads 61 (.tmp 4) g4 [.int .i64 c0, .int .i64 c1, .int .i64 c2] _ (by rfl) (by rfl) Tryz.underlying61 rfl info3 w' (id hS)⟩) hHeld ?_ ?_
  rotate_left
  · simp only [Act.put, List.setIfInBounds_toArray, List.set_cons_zero, List.set_cons_succ, i64_w, i32_w]
    rfl
  refine pure_ (i := 2) (N := (some 2)) (v := ?_) (a' := ?_) #[true, true, true, false] rfl rfl (by kernel_rfl) (fun _ _ _ h => h) (Or.inl ⟨by rfl, ?_⟩) ?_ ?_
  rotate_left
  · intro w'
    go_simp
    with_reducible rfl
  rotate_left
  · simp only [Act.put, List.setIfInBounds_toArray, List.set_cons_zero, List.set_cons_succ, i64_w, i32_w]
    rfl
  refine last_ (i := 3) (N := none) #[true, true, true, true] rfl rfl (by kernel_rfl) (by decide) (fun K hK => ?_)
  refine L.skip_over 61 (.tmp 3) (.tmp 30) w.heap.size [.int .i64 0, .int .i64 0, .int .i64 0] [.int .i64 c0, .int .i64 c1, .int .i64 c2] (by rfl) rfl (by rfl) (by rfl) (by rfl) hR6 rfl info3 (by intro v hv; simp only [List.mem_cons, List.not_mem_nil, or_false] at hv; rcases hv with rfl | rfl | rfl <;> rfl) ?_
  have hR9 := L.BC.over (R := [.int .i64 c0, .int .i64 c1, .int .i64 c2]) hR6 rfl
  have hB9 := L.bc_below_setCells (Nat.le_refl _) [.int .i64 c0, .int .i64 c1, .int .i64 c2] 0 _ hB6
  generalize (World.setCells w9 w.heap.size 0 [.int .i64 c0, .int .i64 c1, .int .i64 c2]) = w10 at *
  refine hK.out _ _ ?_
  clear hK K
  refine done_ (by kernel_rfl) ?_
  go_wp2
  exact bodyPost_ret (results_tc (P := Tryz.prog) Tryz.results121 _ _ w.heap.size _ _ rfl hR9.range Tryz.underlying61 rfl info3) rfl ⟨rfl, hB9⟩
set_option maxHeartbeats 8000000 in
set_option maxRecDepth 100000 in
theorem learn_any (w0 : World) (g ty : Nat) (M : List Int) (before : Int) (v : Value) (l : List Int) (T : List Value) (c0 c1 c2 b : Int) (w : World) (ht : Tab w) (hM : M.length = 195) (hI : L.BC w g ty (stc M before v T)) (hty : 3 ≠ ty)
    (hR : Kd.R (Kd.int .i64) 3 w w0.heap.size (fun _ => True) v l) (hN : L.But w0 w g) (hg : g < w0.heap.size) (hgt : 3 ≠ g) (hl : l.length ≤ 63) :
    Calls Tryz.prog 123 #[.pointer (some ⟨g, 0, none⟩), v3 c0 c1 c2, .int .i64 b] w fun e w' => e = .returned (.tuple #[]) ∧ ∃ v' : Value, L.BC w' g ty (stc (lR M c0 c1 c2 b) before v' T) ∧ Kd.R (Kd.int .i64) 3 w' w0.heap.size (fun _ => True) v' (l ++ [b]) ∧ L.But w0 w' g := by
  have hlr := fun w1 ht1 => model_learn M hM c0 c1 c2 b w1 ht1
  obtain ⟨R, hRd⟩ : ∃ R, lR M c0 c1 c2 b = R := ⟨_, rfl⟩
  have hRl : R.length = 195 := by rw [← hRd]; exact lR_length hM c0 c1 c2 b
  rw [hRd] at hlr ⊢
  obtain ⟨eL, heL⟩ : ∃ eL : Int, (if lOk M c0 c1 c2 b then 0 else 900) = eL := ⟨_, rfl⟩
  rw [heL] at hlr
  clear hRd heL
  unfold v3 at hlr ⊢
  obtain ⟨ys, hys⟩ : ∃ ys, l ++ [b] = ys := ⟨_, rfl⟩
  rw [hys]
  replace hys := Lib.hid hys
  go_enter Tryz.func123, Tryz.ntmps123
  go_wp2_with (first | ((with_reducible refine gate_dst (N := 4) rfl ?_); refine box_event ?hg (N := 4) ?hd (cs := #[.int .i64 c0, .int .i64 c1, .int .i64 c2]) (t := 61) ?hr ?_; (case hd => rfl); (case hg => rfl); (case hr => first | (go_simp; done) | (go_simp; rfl)); intro gx hgx w1 hbox hb; have hX : L.BC w1 gx 61 [.int .i64 c0, .int .i64 c1, .int .i64 c2] := ⟨hbox⟩; have hgx2 : gx ≠ g := Nat.ne_of_gt (hgx ▸ hI.lt); have hI1 := L.BC.below hI hb; have hR1 := Kd.R_below hR hb; have hN1 := L.But.next hN hb; have ht1 := ht.below hb; clear hbox hb hgx hI hR hN ht))
  replace hI1 := L.BC.drew hI1
  replace hX := L.BC.drew hX
  replace hR1 := Kd.R_drew hR1
  replace hN1 := L.But.drew hN1
  have ht2 := ht1.below (L.below_drew (Below.refl _ _))
  have hlr2 := hlr w1.drew ht2
  refine start_ (n := 14) (S := fun w' => w'.rangeAt g 0 (ints M) ∧ L.BC w' gx 61 [.int .i64 c0, .int .i64 c1, .int .i64 c2]) (ds := [13]) #[false, false, false, false, false, false, false, false, false, false, false, false, false, false] (by kernel_rfl) rfl rfl ⟨stc_range hI1, hX⟩ (fun hHeld => ?_)
  generalize w1.drew = w2 at hI1 hX hR1 hN1 hlr2 hHeld ⊢
  refine pure_ (i := 0) (N := (some 7)) (v := ?_) (a' := ?_) #[true, false, false, false, false, false, false, false, false, false, false, false, false, false] rfl rfl (by kernel_rfl) (fun _ _ _ h => h) (Or.inl ⟨by rfl, ?_⟩) ?_ ?_
  rotate_left
  · intro w'
    go_simp
    with_reducible rfl
  rotate_left
  · simp only [Act.put, List.setIfInBounds_toArray, List.set_cons_zero, List.set_cons_succ, i64_w, i32_w]
    rfl
  refine pure_ (i := 1) (N := (some 8)) (v := ?_) (a' := ?_) #[true, true, false, false, false, false, false, false, false, false, false, false, false, false] rfl rfl (by kernel_rfl) (fun _ _ _ h => h) (Or.inl ⟨by rfl, ?_⟩) ?_ ?_
  rotate_left
  · intro w'
    go_simp
    with_reducible rfl
  rotate_left
  · simp only [Act.put, List.setIfInBounds_toArray, List.set_cons_zero, List.set_cons_succ, i64_w, i32_w]
    rfl
  refine pure_ (i := 2) (N := (some 9)) (v := ?_) (a' := ?_) #[true, true, true, false, false, false, false, false, false, false, false, false, false, false] rfl rfl (by kernel_rfl) (fun _ _ _ h => h) (Or.inl ⟨by rfl, ?_⟩) ?_ ?_
  rotate_left
  · intro w'
    go_simp
    with_reducible rfl
  rotate_left
  · simp only [Act.put, List.setIfInBounds_toArray, List.set_cons_zero, List.set_cons_succ, i64_w, i32_w]
    rfl
  refine pure_ (i := 3) (N := (some 10)) (v := ?_) (a' := ?_) #[true, true, true, true, false, false, false, false, false, false, false, false, false, false] rfl rfl (by kernel_rfl) (fun _ _ _ h => h) (Or.inl ⟨by rfl, ?_⟩) ?_ ?_
  rotate_left
  · intro w'
    go_simp
    with_reducible rfl
  rotate_left
  · simp only [Act.put, List.setIfInBounds_toArray, List.set_cons_zero, List.set_cons_succ, i64_w, i32_w]
    rfl
  refine pure_ (i := 6) (N := (some 13)) (v := ?_) (a' := ?_) #[true, true, true, true, false, false, true, false, false, false, false, false, false, false] rfl rfl (by kernel_rfl) (fun _ _ _ h => h) (Or.inl ⟨by rfl, ?_⟩) ?_ ?_
  rotate_left
  · intro w'
    go_simp
    with_reducible rfl
  rotate_left
  · simp only [Act.put, List.setIfInBounds_toArray, List.set_cons_zero, List.set_cons_succ, i64_w, i32_w]
    rfl
  refine take_ (i := 4) (N := (some 11)) (v := .agg (ints M).toArray) (a' := ?_) #[true, true, true, true, true, false, true, false, false, false, false, false, false, false] rfl rfl (by kernel_rfl) (fun _ _ _ h => h) (Or.inl ⟨by rfl, fun w' hS => L.loadsR 63 (.tmp 10) g (ints M) _ (by rfl) (by rfl) Tryz.underlying63 rfl (infoM hM) w' (And.left hS)⟩) hHeld ?_ ?_
  rotate_left
  · simp only [Act.put, List.setIfInBounds_toArray, List.set_cons_zero, List.set_cons_succ, i64_w, i32_w]
    rfl
  refine take_ (i := 5) (N := (some 12)) (v := .agg #[.int .i64 c0, .int .i64 c1, .int .i64 c2]) (a' := ?_) #[true, true, true, true, true, true, true, false, false, false, false, false, false, false] rfl rfl (by kernel_rfl) (fun _ _ _ h => h) (Or.inl ⟨by rfl, fun w' hS => L.loads 61 (.tmp 4) gx [.int .i64 c0, .int .i64 c1, .int .i64 c2] _ (by rfl) (by rfl) Tryz.underlying61 rfl info3 w' (And.right hS)⟩) hHeld ?_ ?_
  rotate_left
  · simp only [Act.put, List.setIfInBounds_toArray, List.set_cons_zero, List.set_cons_succ, i64_w, i32_w]
    rfl
  refine one_ (i := 7) (N := (some 14)) #[true, true, true, true, true, true, true, true, false, false, false, false, false, false] rfl rfl (by kernel_rfl) (by decide) (fun K hK => ?_)
  refine goes_ Tryz.func163 (by kernel_rfl) rfl #[.agg (ints M).toArray, .agg #[.int .i64 c0, .int .i64 c1, .int .i64 c2], .int .i64 b] (by rfl) rfl rfl (by (try simp only [List.map_toArray, List.map_cons, List.map_nil]); first | done | rfl) ?_
  refine (hlr2).mono ?_
  rintro e w3 ⟨rfl, hb⟩
  refine ⟨_, rfl, ?_⟩
  replace hI1 := L.BC.below hI1 hb
  replace hX := L.BC.below hX hb
  replace hR1 := Kd.R_below hR1 hb
  replace hN1 := L.But.next hN1 hb
  clear hb hlr2 hlr ht1 ht2 hHeld
  refine hK.out _ _ ⟨stc_range hI1, hX⟩ (fun hHeld => ?_)
  clear hK K
  refine norm_ (a' := ?_) ?_ ?_
  rotate_left
  · show Act.put _ (some 14) _ = _
    simp only [Act.put, List.setIfInBounds_toArray, List.set_cons_zero, List.set_cons_succ, i64_w, i32_w]
    rfl
  refine pure_ (i := 8) (N := (some 6)) (v := ?_) (a' := ?_) #[true, true, true, true, true, true, true, true, true, false, false, false, false, false] rfl rfl (by kernel_rfl) (fun _ _ _ h => h) (Or.inl ⟨by rfl, ?_⟩) ?_ ?_
  rotate_left
  · intro w'
    go_simp
    with_reducible rfl
  rotate_left
  · simp only [Act.put, List.setIfInBounds_toArray, List.set_cons_zero, List.set_cons_succ, i64_w, i32_w]
    rfl
  refine pure_ (i := 9) (N := (some 15)) (v := ?_) (a' := ?_) #[true, true, true, true, true, true, true, true, true, true, false, false, false, false] rfl rfl (by kernel_rfl) (fun _ _ _ h => h) (Or.inl ⟨by rfl, ?_⟩) ?_ ?_
  rotate_left
  · intro w'
    go_simp
    with_reducible rfl
  rotate_left
  · simp only [Act.put, List.setIfInBounds_toArray, List.set_cons_zero, List.set_cons_succ, i64_w, i32_w]
    rfl
  refine pure_ (i := 10) (N := (some 16)) (v := ?_) (a' := ?_) #[true, true, true, true, true, true, true, true, true, true, true, false, false, false] rfl rfl (by kernel_rfl) (fun _ _ _ h => h) (Or.inl ⟨by rfl, ?_⟩) ?_ ?_
  rotate_left
  · intro w'
    go_simp
    with_reducible rfl
  rotate_left
  · simp only [Act.put, List.setIfInBounds_toArray, List.set_cons_zero, List.set_cons_succ, i64_w, i32_w]
    rfl
  refine pure_ (i := 11) (N := (some 17)) (v := ?_) (a' := ?_) #[true, true, true, true, true, true, true, true, true, true, true, true, false, false] rfl rfl (by kernel_rfl) (fun _ _ _ h => h) (Or.inl ⟨by rfl, ?_⟩) ?_ ?_
  rotate_left
  · intro w'
    go_simp
    with_reducible rfl
  rotate_left
  · simp only [Act.put, List.setIfInBounds_toArray, List.set_cons_zero, List.set_cons_succ, i64_w, i32_w]
    rfl
  refine pure_ (i := 12) (N := (some 18)) (v := ?_) (a' := ?_) #[true, true, true, true, true, true, true, true, true, true, true, true, true, false] rfl rfl (by kernel_rfl) (fun _ _ _ h => h) (Or.inl ⟨by rfl, ?_⟩) ?_ ?_
  rotate_left
  · intro w'
    go_simp
    with_reducible rfl
  rotate_left
  · simp only [Act.put, List.setIfInBounds_toArray, List.set_cons_zero, List.set_cons_succ, i64_w, i32_w]
    rfl
  refine last_ (i := 13) (N := none) #[true, true, true, true, true, true, true, true, true, true, true, true, true, true] rfl rfl (by kernel_rfl) (by decide) (fun K hK => ?_)
  refine L.skip_row 63 (.tmp 18) (.tmp 15) g (ints R) (by rfl) rfl (by rfl) (by rfl) (by rfl) (stc_there hI1 (by rw [hRl, hM])) (infoM hRl) (ints_one R) ?_
  have hI4 := stc_learn hI1 (show R.length = M.length by rw [hRl, hM])
  have hR4 := R_setCells (ne_ty hty) (ints R) 0 _ _ hI1 hR1
  have hN4 := L.But.setCells (ints R) 0 _ hN1
  clear hI1 hR1 hN1 hX hHeld
  generalize (World.setCells w3 g 0 (ints R)) = w4 at hI4 hR4 hN4 ⊢
  refine hK.out _ _ ?_
  clear hK K
  refine done_ (by kernel_rfl) ?_
  have x196 := L.BC.at_ hI4 (stc_bits hRl)
  go_wp2_with (first | ((with_reducible refine gate_builtin (b := .append) (xs := #[.tmp 23, .tmp 25]) rfl ?_); at_builtin; refine Kd.R_append (Kd.int .i64) (w0 := w4) w0.heap.size rfl (.tmp 23) (.tmp 25) 22 3 (.int .i64 0) 8 rfl Tryz.underlying22 infoI rfl (by decide) (by omega) v l b [.int .i64 b] (fun _ => True) (fun _ => False) rfl rfl ?aP (fun _ hk => hk.elim) ?aF ?aO ?aB ?aS ?aL ?_; (case aP => exact rfl); (case aB => exact Below.refl _ _); (case aF => exact (fun _ _ => trivial)); (case aO => exact hR4); (case aS => exact hN4.size); (case aL => omega); intro v26 w5 hR5 hB5 hgr hat; rw [hys.out] at hR5; obtain ⟨A6, n6, e6⟩ := Kd.R_slice hR5; subst e6; have hI5 := bc_grown hI4 hgr (Kd.R_ne hR4 hI4.blk hty); have hN5 := but_low hN4 hB5; have y196 := L.BC.at_ hI5 (stc_bits hRl); have f196 := L.BC.frozen hI5 196; clear hR4 hI4 hN4 hB5 hgr hat x196))
  have hI6 := L.BC.set hI5 196 (.slice A6 ys.length n6)
  rw [stc_set_bits hRl] at hI6
  have hR6 := R_setB hR5 hI5 (ne_ty hty) 196 (.slice A6 ys.length n6)
  have hN6 := L.But.set hN5 196 (.slice A6 ys.length n6)
  exact bodyPost_end (results_none Tryz.results123 _ _ _) rfl ⟨rfl, _, hI6, hR6, hN6⟩
set_option maxHeartbeats 4000000 in
set_option maxRecDepth 100000 in
theorem next_any (w0 : World) (g ty : Nat) (M : List Int) (before : Int) (A : Option Addr) (cap : Nat) (l : List Int) (T : List Value) (w : World) (hM : M.length = 195) (hI : L.BC w g ty (stc M before (.slice A l.length cap) T))
    (hC : Kd.C (Kd.int .i64) w A l.length l) (hc : l.length ≤ cap) (hN : L.But w0 w g) (hl : l.length ≤ 63) :
    Calls Tryz.prog 76 #[.pointer (some ⟨g, 0, none⟩)] w fun e w' => e = .returned (.tuple #[]) ∧ L.BC w' g ty (stc M (gOnes l : Int) (.slice none 0 0) T) ∧ L.But w0 w' g := by
  have hones := PG.ones_f l (by omega) (l.length + 1) (by omega)
  generalize (gOnes l : Int) = n at *
  obtain ⟨z, hz⟩ : ∃ z, decide (l[gOnes l]? = some 0) = z := ⟨_, rfl⟩
  rw [hz] at hones
  have HO := Lib.hid hones
  clear hones hz
  have x196 := L.BC.at_ hI (stc_bits hM)
  go_enter Tryz.func76, Tryz.ntmps76
  go_wp2_with (go_at_call 92; refine (PG.gamma_Ones.calls _ A cap l _ _ _ hC hc HO.out).mono ?_; rintro e w1 ⟨rfl, ⟨⟨m, rfl⟩⟩⟩; have hI1 := L.BC.drewN hI m; have hN1 := L.But.drewN hN m; have y195 := L.BC.at_ hI1 (stc_before hM); have f195 := L.BC.frozen hI1 195; have y196 := L.BC.at_ hI1 (stc_bits hM); have f196 := L.BC.frozen hI1 196; clear hI hN x196)
  have hI2 := L.BC.set (L.BC.set hI1 195 (.int .i64 n)) 196 (.slice none 0 0)
  rw [stc_set_before hM, stc_set_bits hM] at hI2
  exact bodyPost_end (results_none Tryz.results76 _ _ _) rfl ⟨rfl, hI2, L.But.set (L.But.set hN1 195 _) 196 _⟩
end Go.Proofs.YtiokfaiioealdaaGreatDoor
namespace Go.Proofs.YtiokfaiioealdaaGreatDoor
open Go.RowKit Go.Proofs.YtiokfaiioealdaaGreatDoorW.PrintWords Go.Proofs.YtiokfaiioealdaaGreatDoorW.PrintLast Go.Proofs.YtiokfaiioealdaaGreatDoorW.PrintMore Go.Proofs.YtiokfaiioealdaaGreatDoor.L
set_option linter.unusedVariables false
set_option linter.unusedSimpArgs false
theorem info37 : (Tryz.prog.info? 68).map (·.size) = some 3 := by kernel_rfl
set_option maxHeartbeats 8000000 in
set_option maxRecDepth 100000 in
theorem coder_bit (E : Enc) (b p : Int) (w : World) (he : E.ok) (hb : b = 0 ∨ b = 1) (p1 : 1 ≤ p) (p2 : p ≤ 4095) (ho : E.out.length + 4 ≤ 65536) :
    Calls Tryz.prog 122 #[.agg #[.int .i64 E.l, .int .i64 E.h, .string ⟨E.out.toArray⟩], .int .i64 b, .int .i64 p] w fun e w' => e = .returned (.tuple #[.agg #[.int .i64 (encB E b p).l, .int .i64 (encB E b p).h, .string ⟨(encB E b p).out.toArray⟩], .int .i64 0]) ∧ Below w.heap.size w w' := by
  obtain ⟨l, h, o⟩ := E
  simp only [] at ho ⊢
  have hm := mid_in (enc_lt he) p1 p2
  have hmay := Lib.hid (PG.may_f (o := o) he (by omega))
  have hch := Lib.hid (PG.chance_f p1 p2)
  obtain ⟨a, c, d⟩ := he
  simp only [] at a c d hm hmay
  have hmid := Lib.hid (PG.mid_f a (show l < h by omega) c p1 p2)
  obtain ⟨R, hR⟩ : ∃ R, encR ⟨l, h, o⟩ b p = R := ⟨_, rfl⟩
  unfold encB
  rw [hR]
  have hRd : R = if b = 1 then norm 4 l (mid l h p) else norm 4 (mid l h p + 1) h := by rw [← hR]; rfl
  clear hR
  generalize mid l h p = md at *
  have d1 : decide (b < 0) = false := decide_eq_false (by omega)
  have d2 : decide (1 < b) = false := decide_eq_false (by omega)
  have wm : IntKind.i64.wrap (md + 1) = md + 1 := IntWalk.i64_in _ (by omega)
  have hst : ∃ l1 h1, R = norm 4 l1 h1 ∧ 0 ≤ l1 ∧ l1 ≤ h1 ∧ h1 ≤ 4294967295 ∧ (b = 1 → l1 = l ∧ h1 = md) ∧ (b = 0 → l1 = md + 1 ∧ h1 = h) := by
    rcases hb with rfl | rfl
    · exact ⟨md + 1, h, by rw [hRd, if_neg (by decide)], by omega, by omega, by omega, fun h => absurd h (by decide), fun _ => ⟨rfl, rfl⟩⟩
    · exact ⟨l, md, by rw [hRd, if_pos rfl], by omega, by omega, by omega, fun _ => ⟨rfl, rfl⟩, fun h => absurd h (by decide)⟩
  obtain ⟨l1, h1, hR1, q1, q2, q3, qb1, qb0⟩ := hst
  clear hRd
  have hE4 := norm4 q1 q2 q3
  go_enter Tryz.func122, Tryz.ntmps122
  go_wp2_with (first | ((with_reducible refine gate_dst (N := 3) rfl ?_); refine box_event ?hg (N := 3) ?hd (cs := #[.int .i64 l, .int .i64 h, .string ⟨o.toArray⟩]) (t := 68) ?hr ?_; (case hd => rfl); (case hg => rfl); (case hr => first | (go_simp; done) | (go_simp; rfl)); intro gx hgx w1 hbox hb1; have hX : L.BC w1 gx 68 [.int .i64 l, .int .i64 h, .string ⟨o.toArray⟩] := ⟨hbox⟩; have hB := hb1; have hlt := L.BC.lt hX; have hX1 := L.BC.alloc hX (.cells #[.int .i64 0, .int .i64 0, .string ⟨#[]⟩] 68); have hZ := L.BC.new w1 [.int .i64 0, .int .i64 0, .string ⟨#[]⟩] 68; have hB1 := L.below_alloc hB (.cells #[.int .i64 0, .int .i64 0, .string ⟨#[]⟩] 68); have hgl : w.heap.size ≤ gx := Nat.le_of_eq hgx.symm; have x0 := L.BC.at_ hX1 (o := 0) rfl; have x1 := L.BC.at_ hX1 (o := 1) rfl; have x2 := L.BC.at_ hX1 (o := 2) rfl; clear hbox hb1 hX hB hgx))
  have hne : w1.heap.size ≠ gx := Nat.ne_of_gt hlt
  have hgz : w.heap.size ≤ w1.heap.size := by have := hlt; omega
  generalize w1.alloc (.cells #[.int .i64 0, .int .i64 0, .string ⟨#[]⟩] 68) = w2 at hX1 hZ hB1 x0 x1 x2 ⊢
  generalize w1.heap.size = gz at *
  refine (PG.coder_May.calls l h ⟨o.toArray⟩ true _ hmay.out).mono ?_
  rintro e w3 ⟨rfl, hbl⟩
  replace hX1 := L.BC.below hX1 hbl
  replace hZ := L.BC.below hZ hbl
  replace hB1 := L.below_next hB1 hbl
  clear hbl x0 x1 x2
  have x0 := L.BC.at_ hX1 (o := 0) rfl; have x1 := L.BC.at_ hX1 (o := 1) rfl; have x2 := L.BC.at_ hX1 (o := 2) rfl
  go_wp2_with (fail)
  refine (PG.coder_Chance.calls p true _ hch.out).mono ?_
  rintro e w4 ⟨rfl, ⟨⟨m4, rfl⟩⟩⟩
  replace hX1 := L.BC.drewN hX1 m4
  replace hZ := L.BC.drewN hZ m4
  replace hB1 := L.below_drewN hB1 m4
  clear x0 x1 x2
  have x0 := L.BC.at_ hX1 (o := 0) rfl; have x1 := L.BC.at_ hX1 (o := 1) rfl; have x2 := L.BC.at_ hX1 (o := 2) rfl
  generalize w3.drewN m4 = w5 at hX1 hZ hB1 x0 x1 x2 ⊢
  go_wp2_with (fail)
  refine (PG.coder_Middle.calls l h p md _ hmid.out).mono ?_
  rintro e w6 ⟨rfl, ⟨⟨m6, rfl⟩⟩⟩
  replace hX1 := L.BC.drewN hX1 m6
  replace hZ := L.BC.drewN hZ m6
  replace hB1 := L.below_drewN hB1 m6
  clear x0 x1 x2
  generalize w5.drewN m6 = w7 at hX1 hZ hB1 ⊢
  have x0 := L.BC.at_ hX1 (o := 0) rfl; have f0 := L.BC.frozen hX1 0; have x1 := L.BC.at_ hX1 (o := 1) rfl; have f1 := L.BC.frozen hX1 1
  have hlp : ∀ W : World, L.BC W gx 68 [.int .i64 l1, .int .i64 h1, .string ⟨o.toArray⟩] ∧ L.BC W gz 68 [.int .i64 0, .int .i64 0, .string ⟨#[]⟩] ∧ Below w.heap.size w W → ∃ (n : Nat) (l2 h2 : Int) (o2 : List UInt8), n + 1 = 5 ∧ 0 ≤ l2 ∧ l2 ≤ h2 ∧ h2 ≤ 4294967295 ∧ Ends (norm n l2 h2).1 (norm n l2 h2).2.1 ∧ (norm n l2 h2).1 = R.1 ∧ (norm n l2 h2).2.1 = R.2.1 ∧ o2 ++ (norm n l2 h2).2.2 = o ++ R.2.2 ∧ o2.length + n ≤ 65536 ∧ L.BC W gx 68 [.int .i64 l2, .int .i64 h2, .string ⟨o2.toArray⟩] ∧ L.BC W gz 68 [.int .i64 0, .int .i64 0, .string ⟨#[]⟩] ∧ Below w.heap.size w W := by
    rintro W ⟨k1, k2, k3⟩
    exact ⟨4, l1, h1, o, rfl, q1, q2, q3, hE4, by rw [hR1], by rw [hR1], by rw [hR1], ho, k1, k2, k3⟩
  have hs1 : b = 1 → L.BC (w7.setCell ⟨gx, 1, none⟩ (.int .i64 md)) gx 68 [.int .i64 l1, .int .i64 h1, .string ⟨o.toArray⟩] := by
    intro hb1
    obtain ⟨e1, e2⟩ := qb1 hb1
    rw [e1, e2]; exact L.BC.set hX1 1 (.int .i64 md)
  have hs0 : b = 0 → L.BC (w7.setCell ⟨gx, 0, none⟩ (.int .i64 (md + 1))) gx 68 [.int .i64 l1, .int .i64 h1, .string ⟨o.toArray⟩] := by
    intro hb1
    obtain ⟨e1, e2⟩ := qb0 hb1
    rw [e1, e2]; exact L.BC.set hX1 0 (.int .i64 (md + 1))
  have hz1 := L.BC.far hZ (p := ⟨gx, 1, none⟩) (Ne.symm hne) (.int .i64 md)
  have hz0 := L.BC.far hZ (p := ⟨gx, 0, none⟩) (Ne.symm hne) (.int .i64 (md + 1))
  have hb1 := hB1.setCell (p := ⟨gx, 1, none⟩) hgl (.int .i64 md)
  have hb0 := hB1.setCell (p := ⟨gx, 0, none⟩) hgl (.int .i64 (md + 1))
  have hbb := hb.symm
  clear hmay hch hmid hX1 hZ hB1 a c d hm q1 q2 q3 qb1 qb0 hE4 hR1 p1 p2 hb
  replace hlp := Lib.hid hlp
  replace hs1 := Lib.hid hs1
  replace hs0 := Lib.hid hs0
  rcases hbb with rfl | rfl
  · go_wp2_with (fail)
    have hX9 := hs1.out (by trivial)
    have hZ9 := hz1
    have hB9 := hb1
    clear hs1 hs0 hz1 hz0 hb1 hb0 x0 x1 f0 f1 d1 d2
    generalize w7.setCell ⟨gx, 1, none⟩ (.int .i64 md) = w9 at hX9 hZ9 hB9 ⊢
    go_loopg [] 5 (fun kq W => ∃ (n : Nat) (l2 h2 : Int) (o2 : List UInt8), n + 1 = kq ∧ 0 ≤ l2 ∧ l2 ≤ h2 ∧ h2 ≤ 4294967295 ∧ Ends (norm n l2 h2).1 (norm n l2 h2).2.1 ∧ (norm n l2 h2).1 = R.1 ∧ (norm n l2 h2).2.1 = R.2.1 ∧ o2 ++ (norm n l2 h2).2.2 = o ++ R.2.2 ∧ o2.length + n ≤ 65536 ∧ L.BC W gx 68 [.int .i64 l2, .int .i64 h2, .string ⟨o2.toArray⟩] ∧ L.BC W gz 68 [.int .i64 0, .int .i64 0, .string ⟨#[]⟩] ∧ Below w.heap.size w W)
    case atStart => exact hlp.out _ ⟨hX9, hZ9, hB9⟩
    case round =>
      clear hX9 hZ9 hB9 hlp
      obtain ⟨n, l2, h2, o2, hn, r1, r2, r3, hE, e1, e2, e3, ho2, hX, hZ, hB⟩ := hrel
      have x0 := L.BC.at_ hX (o := 0) rfl
      have x1 := L.BC.at_ hX (o := 1) rfl
      go_wp2_with (fail)
      by_cases c : l2 / 16777216 = h2 / 16777216
      · refine (PG.coder_Gone.calls l2 h2 true _ (by rw [PG.gone_f, decide_eq_true c])).mono ?_
        rintro e wg ⟨rfl, ⟨⟨mg, rfl⟩⟩⟩
        replace hX := L.BC.drewN hX mg
        replace hZ := L.BC.drewN hZ mg
        replace hB := L.below_drewN hB mg
        clear x0 x1
        generalize wr.drewN mg = wa at hX hZ hB ⊢
        have x0 := L.BC.at_ hX (o := 0) rfl
        have x2 := L.BC.at_ hX (o := 2) rfl
        have f2 := L.BC.frozen hX 2
        have hsz : (9223372036854775807 < (⟨o2.toArray⟩ : ByteArray).size + 1) = False := eq_false (by rw [PG.size_mk]; omega)
        have hsz2 : ((⟨o2.toArray⟩ : ByteArray).size + 1 ≤ 9223372036854775807) = True := eq_true (by rw [PG.size_mk]; omega)
        replace c := Lib.hid c
        go_wp2_with (fail)
        have hcv : (convert 43 9 (.slice (some ⟨wa.heap.size, 0, none⟩) 1 1)).run Tryz.prog (wa.alloc (.cells #[.int .u8 (l2 / 16777216)] 5)) = .ok (.string (strOfNums [l2 / 16777216])) _ :=
          own_string (base := 0) (e' := 5) Tryz.underlying43 Tryz.underlying5 Tryz.underlying9 ⟨rfl, .inr ⟨_, 1, _, rfl, Nat.zero_le _, (by simpa using heap_alloc_new wa _), Nat.le_refl _, by decide, rfl, rfl⟩⟩
        rw [hcv]
        simp only [Result.andThen]
        rw [Oper.upon_value]
        clear hcv
        replace hX := L.BC.alloc hX (.cells #[.int .u8 (l2 / 16777216)] 5)
        replace hZ := L.BC.alloc hZ (.cells #[.int .u8 (l2 / 16777216)] 5)
        replace hB := L.below_alloc hB (.cells #[.int .u8 (l2 / 16777216)] 5)
        clear x0 x2 f2
        generalize wa.alloc (.cells #[.int .u8 (l2 / 16777216)] 5) = wb at hX hZ hB ⊢
        have x2 := L.BC.at_ hX (o := 2) rfl
        have f2 := L.BC.frozen hX 2
        obtain ⟨SN, hSN⟩ : ∃ SN, strOfNums [l2 / 16777216] = SN := ⟨_, rfl⟩
        have hSNs : SN.size = 1 := by rw [← hSN]; rfl
        have hcat : (⟨o2.toArray⟩ : ByteArray) ++ SN = ⟨(o2 ++ [by8 (l2 / 16777216)]).toArray⟩ := by
          rw [← hSN]
          have := PG.one_byte o2 (l2 / 16777216)
          rwa [show l2 / 16777216 % 256 = l2 / 16777216 by omega] at this
        rw [hSN]
        replace hSN := Lib.hid hSN
        replace hcat := Lib.hid hcat
        go_wp2_with (fail)
        have hXc : L.BC (wb.setCell ⟨gx, 2, none⟩ (.string ((⟨o2.toArray⟩ : ByteArray) ++ SN))) gx 68 [.int .i64 l2, .int .i64 h2, .string ⟨(o2 ++ [by8 (l2 / 16777216)]).toArray⟩] := by
          have := L.BC.set hX 2 (.string ((⟨o2.toArray⟩ : ByteArray) ++ SN))
          rw [hcat.out] at this ⊢
          exact this
        replace hZ := L.BC.far hZ (p := ⟨gx, 2, none⟩) (Ne.symm hne) (.string ((⟨o2.toArray⟩ : ByteArray) ++ SN))
        replace hB := hB.setCell (p := ⟨gx, 2, none⟩) hgl (.string ((⟨o2.toArray⟩ : ByteArray) ++ SN))
        clear hX x2 f2 hsz hsz2
        generalize wb.setCell ⟨gx, 2, none⟩ (.string ((⟨o2.toArray⟩ : ByteArray) ++ SN)) = wc at hXc hZ hB ⊢
        obtain ⟨ul, hul⟩ : ∃ ul, up l2 0 = ul := ⟨_, rfl⟩
        obtain ⟨uh, huh⟩ : ∃ uh, up h2 255 = uh := ⟨_, rfl⟩
        have HL := Lib.hid (PG.up_f (x := l2) (b := 0) r1 (by omega) (by omega) (by omega))
        have HH := Lib.hid (PG.up_f (x := h2) (b := 255) (by omega) r3 (by omega) (by omega))
        rw [hul] at HL
        rw [huh] at HH
        have iul := PG.up_in (x := l2) (b := 0) r1 (by omega) (by omega) (by omega)
        have iuh := PG.up_in (x := h2) (b := 255) (by omega) r3 (by omega) (by omega)
        have ilh : up l2 0 ≤ up h2 255 := by have := c.out; unfold up; omega
        rw [hul] at iul ilh
        rw [huh] at iuh ilh
        replace hXc := L.BC.drew hXc
        replace hZ := L.BC.drew hZ
        replace hB := L.below_drew hB
        refine start_ (n := 10) (S := fun w' => L.BC w' gx 68 [.int .i64 l2, .int .i64 h2, .string ⟨(o2 ++ [by8 (l2 / 16777216)]).toArray⟩]) (ds := [7, 9]) #[false, false, false, false, false, false, false, false, false, false] (by kernel_rfl) rfl rfl hXc (fun hHeld => ?_)
        generalize wc.drew = wd at hXc hZ hB hHeld ⊢
        refine pure_ (i := 0) (N := (some 54)) (v := ?_) (a' := ?_) #[true, false, false, false, false, false, false, false, false, false] rfl rfl (by kernel_rfl) (fun _ _ _ h => h) (Or.inl ⟨by rfl, ?_⟩) ?_ ?_
        rotate_left
        · intro w'
          go_simp
          with_reducible rfl
        rotate_left
        · simp only [Act.put, List.setIfInBounds_toArray, List.set_cons_zero, List.set_cons_succ, i64_w, i32_w]
          rfl
        refine pure_ (i := 3) (N := (some 57)) (v := ?_) (a' := ?_) #[true, false, false, true, false, false, false, false, false, false] rfl rfl (by kernel_rfl) (fun _ _ _ h => h) (Or.inl ⟨by rfl, ?_⟩) ?_ ?_
        rotate_left
        · intro w'
          go_simp
          with_reducible rfl
        rotate_left
        · simp only [Act.put, List.setIfInBounds_toArray, List.set_cons_zero, List.set_cons_succ, i64_w, i32_w]
          rfl
        refine take_ (i := 1) (N := (some 55)) (v := ?_) (a' := ?_) #[true, true, false, true, false, false, false, false, false, false] rfl rfl (by kernel_rfl) (fun _ _ _ h => h) (Or.inl ⟨by rfl, ?_⟩) hHeld ?_ ?_
        rotate_left
        · intro w' hS
          have s0 := L.BC.at_ hS (o := 0) rfl
          go_simp
          with_reducible rfl
        rotate_left
        · simp only [Act.put, List.setIfInBounds_toArray, List.set_cons_zero, List.set_cons_succ, i64_w, i32_w]
          rfl
        refine take_ (i := 4) (N := (some 58)) (v := ?_) (a' := ?_) #[true, true, false, true, true, false, false, false, false, false] rfl rfl (by kernel_rfl) (fun _ _ _ h => h) (Or.inl ⟨by rfl, ?_⟩) hHeld ?_ ?_
        rotate_left
        · intro w' hS
          have s1 := L.BC.at_ hS (o := 1) rfl
          go_simp
          with_reducible rfl
        rotate_left
        · simp only [Act.put, List.setIfInBounds_toArray, List.set_cons_zero, List.set_cons_succ, i64_w, i32_w]
          rfl
        refine one_ (i := 2) (N := (some 56)) #[true, true, true, true, true, false, false, false, false, false] rfl rfl (by kernel_rfl) (by decide) (fun K hK => ?_)
        refine goes_ Tryz.func89 (by kernel_rfl) rfl #[.int .i64 l2, .int .i64 0] (by rfl) rfl rfl (by (try simp only [List.map_toArray, List.map_cons, List.map_nil]); first | done | rfl) ?_
        refine (PG.coder_Up.calls l2 0 _ _ HL.out).mono ?_
        rintro e we ⟨rfl, ⟨⟨me, rfl⟩⟩⟩
        refine ⟨_, rfl, ?_⟩
        replace hXc := L.BC.drewN hXc me
        replace hZ := L.BC.drewN hZ me
        replace hB := L.below_drewN hB me
        clear hHeld
        refine hK.out _ _ hXc (fun hHeld => ?_)
        clear hK K
        generalize wd.drewN me = wf at hXc hZ hB hHeld ⊢
        refine norm_ (a' := ?_) ?_ ?_
        rotate_left
        · show Act.put _ (some 56) _ = _
          simp only [Act.put, List.setIfInBounds_toArray, List.set_cons_zero, List.set_cons_succ, i64_w, i32_w]
          rfl
        refine pure_ (i := 6) (N := (some 60)) (v := ?_) (a' := ?_) #[true, true, true, true, true, false, true, false, false, false] rfl rfl (by kernel_rfl) (fun _ _ _ h => h) (Or.inl ⟨by rfl, ?_⟩) ?_ ?_
        rotate_left
        · intro w'
          go_simp
          with_reducible rfl
        rotate_left
        · simp only [Act.put, List.setIfInBounds_toArray, List.set_cons_zero, List.set_cons_succ, i64_w, i32_w]
          rfl
        refine one_ (i := 5) (N := (some 59)) #[true, true, true, true, true, true, true, false, false, false] rfl rfl (by kernel_rfl) (by decide) (fun K hK => ?_)
        refine goes_ Tryz.func89 (by kernel_rfl) rfl #[.int .i64 h2, .int .i64 255] (by rfl) rfl rfl (by (try simp only [List.map_toArray, List.map_cons, List.map_nil]); first | done | rfl) ?_
        refine (PG.coder_Up.calls h2 255 _ _ HH.out).mono ?_
        rintro e we ⟨rfl, ⟨⟨mf, rfl⟩⟩⟩
        refine ⟨_, rfl, ?_⟩
        replace hXc := L.BC.drewN hXc mf
        replace hZ := L.BC.drewN hZ mf
        replace hB := L.below_drewN hB mf
        clear hHeld
        refine hK.out _ _ hXc (fun hHeld => ?_)
        clear hK K
        generalize wf.drewN mf = wh at hXc hZ hB hHeld ⊢
        refine norm_ (a' := ?_) ?_ ?_
        rotate_left
        · show Act.put _ (some 59) _ = _
          simp only [Act.put, List.setIfInBounds_toArray, List.set_cons_zero, List.set_cons_succ, i64_w, i32_w]
          rfl
        refine last_ (i := 7) (N := none) #[true, true, true, true, true, true, true, true, false, false] rfl rfl (by kernel_rfl) (by decide) (fun K hK => ?_)
        have x0 := L.BC.at_ hXc (o := 0) rfl
        have f0 := L.BC.frozen hXc 0
        refine skip_ (w1 := wh.setCell ⟨gx, 0, none⟩ (.int .i64 ul)) (by rfl) rfl ?_ ?_
        · go_simp
        replace hXc := L.BC.set hXc 0 (.int .i64 ul)
        replace hZ := L.BC.far hZ (p := ⟨gx, 0, none⟩) (Ne.symm hne) (.int .i64 ul)
        replace hB := hB.setCell (p := ⟨gx, 0, none⟩) hgl (.int .i64 ul)
        clear x0 f0 hHeld
        refine hK.out _ _ ?_
        clear hK K
        generalize wh.setCell ⟨gx, 0, none⟩ (.int .i64 ul) = wi at hXc hZ hB ⊢
        refine pure_ (i := 8) (N := (some 61)) (v := ?_) (a' := ?_) #[true, true, true, true, true, true, true, true, true, false] rfl rfl (by kernel_rfl) (fun _ _ _ h => h) (Or.inl ⟨by rfl, ?_⟩) ?_ ?_
        rotate_left
        · intro w'
          go_simp
          with_reducible rfl
        rotate_left
        · simp only [Act.put, List.setIfInBounds_toArray, List.set_cons_zero, List.set_cons_succ, i64_w, i32_w]
          rfl
        refine last_ (i := 9) (N := none) #[true, true, true, true, true, true, true, true, true, true] rfl rfl (by kernel_rfl) (by decide) (fun K hK => ?_)
        have x1 := L.BC.at_ hXc (o := 1) rfl
        have f1 := L.BC.frozen hXc 1
        refine skip_ (w1 := wi.setCell ⟨gx, 1, none⟩ (.int .i64 uh)) (by rfl) rfl ?_ ?_
        · go_simp
        replace hXc := L.BC.set hXc 1 (.int .i64 uh)
        replace hZ := L.BC.far hZ (p := ⟨gx, 1, none⟩) (Ne.symm hne) (.int .i64 uh)
        replace hB := hB.setCell (p := ⟨gx, 1, none⟩) hgl (.int .i64 uh)
        clear x1 f1
        refine hK.out _ _ ?_
        clear hK K
        generalize wi.setCell ⟨gx, 1, none⟩ (.int .i64 uh) = wj at hXc hZ hB ⊢
        refine done_ (by kernel_rfl) ?_
        cases n with
        | zero => exact absurd c.out (by have := hE.2.2; simp only [norm] at this; omega)
        | succ n =>
          rw [norm, if_pos c.out] at hE e1 e2 e3
          rw [hul, huh] at hE e1 e2 e3
          go_wp2_with (fail)
          obtain ⟨k, rfl⟩ : ∃ k, gk = k + 1 := ⟨n + 1, by omega⟩
          go_roundg k
          case measure => omega
          case rel => exact ⟨n, ul, uh, _, by omega, iul.1, ilh, iuh.2, hE, e1, e2, by rw [List.append_assoc]; exact e3, by rw [List.length_append, List.length_singleton]; omega, hXc, hZ, hB⟩
      · have hnorm : norm n l2 h2 = (l2, h2, []) := by
          cases n with
          | zero => rfl
          | succ n => rw [norm, if_neg c]
        rw [hnorm] at e1 e2 e3
        refine (PG.coder_Gone.calls l2 h2 false _ (by rw [PG.gone_f, decide_eq_false c])).mono ?_
        rintro e wg ⟨rfl, ⟨⟨mg, rfl⟩⟩⟩
        replace hX := L.BC.drewN hX mg
        replace hZ := L.BC.drewN hZ mg
        replace hB := L.below_drewN hB mg
        clear x0 x1
        generalize wr.drewN mg = wa at hX hZ hB ⊢
        have x0 := L.BC.at_ hX (o := 0) rfl
        have x1 := L.BC.at_ hX (o := 1) rfl
        have x2 := L.BC.at_ hX (o := 2) rfl
        have z0 := L.BC.at_ hZ (o := 0) rfl
        have z1 := L.BC.at_ hZ (o := 1) rfl
        have z2 := L.BC.at_ hZ (o := 2) rfl
        have g0 := L.BC.frozen hZ 0
        have g1 := L.BC.frozen hZ 1
        have g2 := L.BC.frozen hZ 2
        have d5 : decide (65536 < ((⟨o2.toArray⟩ : ByteArray).size : Int)) = false := decide_eq_false (by rw [PG.size_mk]; omega)
        replace c := Lib.hid c
        replace e1 := Lib.hid e1
        replace e2 := Lib.hid e2
        replace e3 := Lib.hid e3
        go_wp2_with (fail)
        have hZ' := L.BC.set (L.BC.set (L.BC.set hZ 0 (.int .i64 l2)) 1 (.int .i64 h2)) 2 (.string ⟨o2.toArray⟩)
        have hB' := ((hB.setCell (p := ⟨gz, 0, none⟩) hgz (.int .i64 l2)).setCell (p := ⟨gz, 1, none⟩) hgz (.int .i64 h2)).setCell (p := ⟨gz, 2, none⟩) hgz (.string ⟨o2.toArray⟩)
        refine bodyPost_ret (L.bc_resultst (P := Tryz.prog) Tryz.results122 _ _ gz [.int .i64 l2, .int .i64 h2, .string ⟨o2.toArray⟩] _ rfl hZ'.range Tryz.underlying68 rfl info37) rfl ⟨?_, hB'⟩
        rw [← e1.out, ← e2.out, ← e3.out, List.append_nil]
        rfl
  · go_wp2_with (fail)
    have hX9 := hs0.out (by trivial)
    have hZ9 := hz0
    have hB9 := hb0
    clear hs1 hs0 hz1 hz0 hb1 hb0 x0 x1 f0 f1 d1 d2
    generalize w7.setCell ⟨gx, 0, none⟩ (.int .i64 (md + 1)) = w9 at hX9 hZ9 hB9 ⊢
    go_loopg [] 5 (fun kq W => ∃ (n : Nat) (l2 h2 : Int) (o2 : List UInt8), n + 1 = kq ∧ 0 ≤ l2 ∧ l2 ≤ h2 ∧ h2 ≤ 4294967295 ∧ Ends (norm n l2 h2).1 (norm n l2 h2).2.1 ∧ (norm n l2 h2).1 = R.1 ∧ (norm n l2 h2).2.1 = R.2.1 ∧ o2 ++ (norm n l2 h2).2.2 = o ++ R.2.2 ∧ o2.length + n ≤ 65536 ∧ L.BC W gx 68 [.int .i64 l2, .int .i64 h2, .string ⟨o2.toArray⟩] ∧ L.BC W gz 68 [.int .i64 0, .int .i64 0, .string ⟨#[]⟩] ∧ Below w.heap.size w W)
    case atStart => exact hlp.out _ ⟨hX9, hZ9, hB9⟩
    case round =>
      clear hX9 hZ9 hB9 hlp
      obtain ⟨n, l2, h2, o2, hn, r1, r2, r3, hE, e1, e2, e3, ho2, hX, hZ, hB⟩ := hrel
      have x0 := L.BC.at_ hX (o := 0) rfl
      have x1 := L.BC.at_ hX (o := 1) rfl
      go_wp2_with (fail)
      by_cases c : l2 / 16777216 = h2 / 16777216
      · refine (PG.coder_Gone.calls l2 h2 true _ (by rw [PG.gone_f, decide_eq_true c])).mono ?_
        rintro e wg ⟨rfl, ⟨⟨mg, rfl⟩⟩⟩
        replace hX := L.BC.drewN hX mg
        replace hZ := L.BC.drewN hZ mg
        replace hB := L.below_drewN hB mg
        clear x0 x1
        generalize wr.drewN mg = wa at hX hZ hB ⊢
        have x0 := L.BC.at_ hX (o := 0) rfl
        have x2 := L.BC.at_ hX (o := 2) rfl
        have f2 := L.BC.frozen hX 2
        have hsz : (9223372036854775807 < (⟨o2.toArray⟩ : ByteArray).size + 1) = False := eq_false (by rw [PG.size_mk]; omega)
        have hsz2 : ((⟨o2.toArray⟩ : ByteArray).size + 1 ≤ 9223372036854775807) = True := eq_true (by rw [PG.size_mk]; omega)
        replace c := Lib.hid c
        go_wp2_with (fail)
        have hcv : (convert 43 9 (.slice (some ⟨wa.heap.size, 0, none⟩) 1 1)).run Tryz.prog (wa.alloc (.cells #[.int .u8 (l2 / 16777216)] 5)) = .ok (.string (strOfNums [l2 / 16777216])) _ :=
          own_string (base := 0) (e' := 5) Tryz.underlying43 Tryz.underlying5 Tryz.underlying9 ⟨rfl, .inr ⟨_, 1, _, rfl, Nat.zero_le _, (by simpa using heap_alloc_new wa _), Nat.le_refl _, by decide, rfl, rfl⟩⟩
        rw [hcv]
        simp only [Result.andThen]
        rw [Oper.upon_value]
        clear hcv
        replace hX := L.BC.alloc hX (.cells #[.int .u8 (l2 / 16777216)] 5)
        replace hZ := L.BC.alloc hZ (.cells #[.int .u8 (l2 / 16777216)] 5)
        replace hB := L.below_alloc hB (.cells #[.int .u8 (l2 / 16777216)] 5)
        clear x0 x2 f2
        generalize wa.alloc (.cells #[.int .u8 (l2 / 16777216)] 5) = wb at hX hZ hB ⊢
        have x2 := L.BC.at_ hX (o := 2) rfl
        have f2 := L.BC.frozen hX 2
        obtain ⟨SN, hSN⟩ : ∃ SN, strOfNums [l2 / 16777216] = SN := ⟨_, rfl⟩
        have hSNs : SN.size = 1 := by rw [← hSN]; rfl
        have hcat : (⟨o2.toArray⟩ : ByteArray) ++ SN = ⟨(o2 ++ [by8 (l2 / 16777216)]).toArray⟩ := by
          rw [← hSN]
          have := PG.one_byte o2 (l2 / 16777216)
          rwa [show l2 / 16777216 % 256 = l2 / 16777216 by omega] at this
        rw [hSN]
        replace hSN := Lib.hid hSN
        replace hcat := Lib.hid hcat
        go_wp2_with (fail)
        have hXc : L.BC (wb.setCell ⟨gx, 2, none⟩ (.string ((⟨o2.toArray⟩ : ByteArray) ++ SN))) gx 68 [.int .i64 l2, .int .i64 h2, .string ⟨(o2 ++ [by8 (l2 / 16777216)]).toArray⟩] := by
          have := L.BC.set hX 2 (.string ((⟨o2.toArray⟩ : ByteArray) ++ SN))
          rw [hcat.out] at this ⊢
          exact this
        replace hZ := L.BC.far hZ (p := ⟨gx, 2, none⟩) (Ne.symm hne) (.string ((⟨o2.toArray⟩ : ByteArray) ++ SN))
        replace hB := hB.setCell (p := ⟨gx, 2, none⟩) hgl (.string ((⟨o2.toArray⟩ : ByteArray) ++ SN))
        clear hX x2 f2 hsz hsz2
        generalize wb.setCell ⟨gx, 2, none⟩ (.string ((⟨o2.toArray⟩ : ByteArray) ++ SN)) = wc at hXc hZ hB ⊢
        obtain ⟨ul, hul⟩ : ∃ ul, up l2 0 = ul := ⟨_, rfl⟩
        obtain ⟨uh, huh⟩ : ∃ uh, up h2 255 = uh := ⟨_, rfl⟩
        have HL := Lib.hid (PG.up_f (x := l2) (b := 0) r1 (by omega) (by omega) (by omega))
        have HH := Lib.hid (PG.up_f (x := h2) (b := 255) (by omega) r3 (by omega) (by omega))
        rw [hul] at HL
        rw [huh] at HH
        have iul := PG.up_in (x := l2) (b := 0) r1 (by omega) (by omega) (by omega)
        have iuh := PG.up_in (x := h2) (b := 255) (by omega) r3 (by omega) (by omega)
        have ilh : up l2 0 ≤ up h2 255 := by have := c.out; unfold up; omega
        rw [hul] at iul ilh
        rw [huh] at iuh ilh
        replace hXc := L.BC.drew hXc
        replace hZ := L.BC.drew hZ
        replace hB := L.below_drew hB
        refine start_ (n := 10) (S := fun w' => L.BC w' gx 68 [.int .i64 l2, .int .i64 h2, .string ⟨(o2 ++ [by8 (l2 / 16777216)]).toArray⟩]) (ds := [7, 9]) #[false, false, false, false, false, false, false, false, false, false] (by kernel_rfl) rfl rfl hXc (fun hHeld => ?_)
        generalize wc.drew = wd at hXc hZ hB hHeld ⊢
        refine pure_ (i := 0) (N := (some 54)) (v := ?_) (a' := ?_) #[true, false, false, false, false, false, false, false, false, false] rfl rfl (by kernel_rfl) (fun _ _ _ h => h) (Or.inl ⟨by rfl, ?_⟩) ?_ ?_
        rotate_left
        · intro w'
          go_simp
          with_reducible rfl
        rotate_left
        · simp only [Act.put, List.setIfInBounds_toArray, List.set_cons_zero, List.set_cons_succ, i64_w, i32_w]
          rfl
        refine pure_ (i := 3) (N := (some 57)) (v := ?_) (a' := ?_) #[true, false, false, true, false, false, false, false, false, false] rfl rfl (by kernel_rfl) (fun _ _ _ h => h) (Or.inl ⟨by rfl, ?_⟩) ?_ ?_
        rotate_left
        · intro w'
          go_simp
          with_reducible rfl
        rotate_left
        · simp only [Act.put, List.setIfInBounds_toArray, List.set_cons_zero, List.set_cons_succ, i64_w, i32_w]
          rfl
        refine take_ (i := 1) (N := (some 55)) (v := ?_) (a' := ?_) #[true, true, false, true, false, false, false, false, false, false] rfl rfl (by kernel_rfl) (fun _ _ _ h => h) (Or.inl ⟨by rfl, ?_⟩) hHeld ?_ ?_
        rotate_left
        · intro w' hS
          have s0 := L.BC.at_ hS (o := 0) rfl
          go_simp
          with_reducible rfl
        rotate_left
        · simp only [Act.put, List.setIfInBounds_toArray, List.set_cons_zero, List.set_cons_succ, i64_w, i32_w]
          rfl
        refine take_ (i := 4) (N := (some 58)) (v := ?_) (a' := ?_) #[true, true, false, true, true, false, false, false, false, false] rfl rfl (by kernel_rfl) (fun _ _ _ h => h) (Or.inl ⟨by rfl, ?_⟩) hHeld ?_ ?_
        rotate_left
        · intro w' hS
          have s1 := L.BC.at_ hS (o := 1) rfl
          go_simp
          with_reducible rfl
        rotate_left
        · simp only [Act.put, List.setIfInBounds_toArray, List.set_cons_zero, List.set_cons_succ, i64_w, i32_w]
          rfl
        refine one_ (i := 2) (N := (some 56)) #[true, true, true, true, true, false, false, false, false, false] rfl rfl (by kernel_rfl) (by decide) (fun K hK => ?_)
        refine goes_ Tryz.func89 (by kernel_rfl) rfl #[.int .i64 l2, .int .i64 0] (by rfl) rfl rfl (by (try simp only [List.map_toArray, List.map_cons, List.map_nil]); first | done | rfl) ?_
        refine (PG.coder_Up.calls l2 0 _ _ HL.out).mono ?_
        rintro e we ⟨rfl, ⟨⟨me, rfl⟩⟩⟩
        refine ⟨_, rfl, ?_⟩
        replace hXc := L.BC.drewN hXc me
        replace hZ := L.BC.drewN hZ me
        replace hB := L.below_drewN hB me
        clear hHeld
        refine hK.out _ _ hXc (fun hHeld => ?_)
        clear hK K
        generalize wd.drewN me = wf at hXc hZ hB hHeld ⊢
        refine norm_ (a' := ?_) ?_ ?_
        rotate_left
        · show Act.put _ (some 56) _ = _
          simp only [Act.put, List.setIfInBounds_toArray, List.set_cons_zero, List.set_cons_succ, i64_w, i32_w]
          rfl
        refine pure_ (i := 6) (N := (some 60)) (v := ?_) (a' := ?_) #[true, true, true, true, true, false, true, false, false, false] rfl rfl (by kernel_rfl) (fun _ _ _ h => h) (Or.inl ⟨by rfl, ?_⟩) ?_ ?_
        rotate_left
        · intro w'
          go_simp
          with_reducible rfl
        rotate_left
        · simp only [Act.put, List.setIfInBounds_toArray, List.set_cons_zero, List.set_cons_succ, i64_w, i32_w]
          rfl
        refine one_ (i := 5) (N := (some 59)) #[true, true, true, true, true, true, true, false, false, false] rfl rfl (by kernel_rfl) (by decide) (fun K hK => ?_)
        refine goes_ Tryz.func89 (by kernel_rfl) rfl #[.int .i64 h2, .int .i64 255] (by rfl) rfl rfl (by (try simp only [List.map_toArray, List.map_cons, List.map_nil]); first | done | rfl) ?_
        refine (PG.coder_Up.calls h2 255 _ _ HH.out).mono ?_
        rintro e we ⟨rfl, ⟨⟨mf, rfl⟩⟩⟩
        refine ⟨_, rfl, ?_⟩
        replace hXc := L.BC.drewN hXc mf
        replace hZ := L.BC.drewN hZ mf
        replace hB := L.below_drewN hB mf
        clear hHeld
        refine hK.out _ _ hXc (fun hHeld => ?_)
        clear hK K
        generalize wf.drewN mf = wh at hXc hZ hB hHeld ⊢
        refine norm_ (a' := ?_) ?_ ?_
        rotate_left
        · show Act.put _ (some 59) _ = _
          simp only [Act.put, List.setIfInBounds_toArray, List.set_cons_zero, List.set_cons_succ, i64_w, i32_w]
          rfl
        refine last_ (i := 7) (N := none) #[true, true, true, true, true, true, true, true, false, false] rfl rfl (by kernel_rfl) (by decide) (fun K hK => ?_)
        have x0 := L.BC.at_ hXc (o := 0) rfl
        have f0 := L.BC.frozen hXc 0
        refine skip_ (w1 := wh.setCell ⟨gx, 0, none⟩ (.int .i64 ul)) (by rfl) rfl ?_ ?_
        · go_simp
        replace hXc := L.BC.set hXc 0 (.int .i64 ul)
        replace hZ := L.BC.far hZ (p := ⟨gx, 0, none⟩) (Ne.symm hne) (.int .i64 ul)
        replace hB := hB.setCell (p := ⟨gx, 0, none⟩) hgl (.int .i64 ul)
        clear x0 f0 hHeld
        refine hK.out _ _ ?_
        clear hK K
        generalize wh.setCell ⟨gx, 0, none⟩ (.int .i64 ul) = wi at hXc hZ hB ⊢
        refine pure_ (i := 8) (N := (some 61)) (v := ?_) (a' := ?_) #[true, true, true, true, true, true, true, true, true, false] rfl rfl (by kernel_rfl) (fun _ _ _ h => h) (Or.inl ⟨by rfl, ?_⟩) ?_ ?_
        rotate_left
        · intro w'
          go_simp
          with_reducible rfl
        rotate_left
        · simp only [Act.put, List.setIfInBounds_toArray, List.set_cons_zero, List.set_cons_succ, i64_w, i32_w]
          rfl
        refine last_ (i := 9) (N := none) #[true, true, true, true, true, true, true, true, true, true] rfl rfl (by kernel_rfl) (by decide) (fun K hK => ?_)
        have x1 := L.BC.at_ hXc (o := 1) rfl
        have f1 := L.BC.frozen hXc 1
        refine skip_ (w1 := wi.setCell ⟨gx, 1, none⟩ (.int .i64 uh)) (by rfl) rfl ?_ ?_
        · go_simp
        replace hXc := L.BC.set hXc 1 (.int .i64 uh)
        replace hZ := L.BC.far hZ (p := ⟨gx, 1, none⟩) (Ne.symm hne) (.int .i64 uh)
        replace hB := hB.setCell (p := ⟨gx, 1, none⟩) hgl (.int .i64 uh)
        clear x1 f1
        refine hK.out _ _ ?_
        clear hK K
        generalize wi.setCell ⟨gx, 1, none⟩ (.int .i64 uh) = wj at hXc hZ hB ⊢
        refine done_ (by kernel_rfl) ?_
        cases n with
        | zero => exact absurd c.out (by have := hE.2.2; simp only [norm] at this; omega)
        | succ n =>
          rw [norm, if_pos c.out] at hE e1 e2 e3
          rw [hul, huh] at hE e1 e2 e3
          go_wp2_with (fail)
          obtain ⟨k, rfl⟩ : ∃ k, gk = k + 1 := ⟨n + 1, by omega⟩
          go_roundg k
          case measure => omega
          case rel => exact ⟨n, ul, uh, _, by omega, iul.1, ilh, iuh.2, hE, e1, e2, by rw [List.append_assoc]; exact e3, by rw [List.length_append, List.length_singleton]; omega, hXc, hZ, hB⟩
      · have hnorm : norm n l2 h2 = (l2, h2, []) := by
          cases n with
          | zero => rfl
          | succ n => rw [norm, if_neg c]
        rw [hnorm] at e1 e2 e3
        refine (PG.coder_Gone.calls l2 h2 false _ (by rw [PG.gone_f, decide_eq_false c])).mono ?_
        rintro e wg ⟨rfl, ⟨⟨mg, rfl⟩⟩⟩
        replace hX := L.BC.drewN hX mg
        replace hZ := L.BC.drewN hZ mg
        replace hB := L.below_drewN hB mg
        clear x0 x1
        generalize wr.drewN mg = wa at hX hZ hB ⊢
        have x0 := L.BC.at_ hX (o := 0) rfl
        have x1 := L.BC.at_ hX (o := 1) rfl
        have x2 := L.BC.at_ hX (o := 2) rfl
        have z0 := L.BC.at_ hZ (o := 0) rfl
        have z1 := L.BC.at_ hZ (o := 1) rfl
        have z2 := L.BC.at_ hZ (o := 2) rfl
        have g0 := L.BC.frozen hZ 0
        have g1 := L.BC.frozen hZ 1
        have g2 := L.BC.frozen hZ 2
        have d5 : decide (65536 < ((⟨o2.toArray⟩ : ByteArray).size : Int)) = false := decide_eq_false (by rw [PG.size_mk]; omega)
        replace c := Lib.hid c
        replace e1 := Lib.hid e1
        replace e2 := Lib.hid e2
        replace e3 := Lib.hid e3
        go_wp2_with (fail)
        have hZ' := L.BC.set (L.BC.set (L.BC.set hZ 0 (.int .i64 l2)) 1 (.int .i64 h2)) 2 (.string ⟨o2.toArray⟩)
        have hB' := ((hB.setCell (p := ⟨gz, 0, none⟩) hgz (.int .i64 l2)).setCell (p := ⟨gz, 1, none⟩) hgz (.int .i64 h2)).setCell (p := ⟨gz, 2, none⟩) hgz (.string ⟨o2.toArray⟩)
        refine bodyPost_ret (L.bc_resultst (P := Tryz.prog) Tryz.results122 _ _ gz [.int .i64 l2, .int .i64 h2, .string ⟨o2.toArray⟩] _ rfl hZ'.range Tryz.underlying68 rfl info37) rfl ⟨?_, hB'⟩
        rw [← e1.out, ← e2.out, ← e3.out, List.append_nil]
        rfl
end Go.Proofs.YtiokfaiioealdaaGreatDoor
namespace Go.Proofs.YtiokfaiioealdaaGreatDoor
open Go.RowKit Go.Proofs.YtiokfaiioealdaaGreatDoor.L
set_option linter.unusedVariables false
set_option linter.unusedSimpArgs false
theorem getD_set_eq {L : List Int} {i : Nat} {v : Int} (h : i < L.length) : (L.set i v).getD i 0 = v := by
  simp [List.getD_eq_getElem?_getD, List.getElem?_set_self h]
theorem lM_get {M : List Int} {x y z : Nat} {bit : Int} (hM : M.length = 195) (hx : x < 64) (hy : y < 64) (hz : z < 64) :
    (lM M x y z bit).getD x 0 = cUp (M.getD x 0) bit ∧ (lM M x y z bit).getD (64 + y) 0 = cUp (M.getD (64 + y) 0) bit ∧ (lM M x y z bit).getD (128 + z) 0 = cUp (M.getD (128 + z) 0) bit ∧
    (lM M x y z bit).getD 192 0 = lW M x y z bit 0 x ∧ (lM M x y z bit).getD 193 0 = lW M x y z bit 1 (64 + y) ∧ (lM M x y z bit).getD 194 0 = lW M x y z bit 2 (128 + z) := by
  unfold lM lA
  refine ⟨?_, ?_, ?_, ?_, ?_, ?_⟩
  · rw [getD_set_ne (by omega), getD_set_ne (by omega), getD_set_eq (by simp; omega)]
  · rw [getD_set_ne (by omega), getD_set_eq (by simp; omega)]
  · rw [getD_set_eq (by simp; omega)]
  · rw [getD_set_ne (by omega), getD_set_ne (by omega), getD_set_ne (by omega), getD_set_ne (by omega), getD_set_ne (by omega), getD_set_eq (by omega)]
  · rw [getD_set_ne (by omega), getD_set_ne (by omega), getD_set_ne (by omega), getD_set_ne (by omega), getD_set_eq (by simp; omega)]
  · rw [getD_set_ne (by omega), getD_set_ne (by omega), getD_set_ne (by omega), getD_set_eq (by simp; omega)]
theorem lM_get_ne {M : List Int} {x y z : Nat} {bit : Int} {j : Nat} (h0 : j ≠ x) (h1 : j ≠ 64 + y) (h2 : j ≠ 128 + z) (h3 : j < 192) : (lM M x y z bit).getD j 0 = M.getD j 0 := by
  unfold lM
  rw [getD_set_ne (by omega), getD_set_ne (by omega), getD_set_ne (by omega), lA_get h3]
theorem cUp_may {c bit : Int} (h : cMay c = true) (h0 : 0 ≤ bit) (h1 : bit ≤ 1) : cMay (cUp c bit) = true := by
  obtain ⟨a, b⟩ := cMay_iff.1 h
  rw [cMay_iff]; unfold cUp; split <;> omega
theorem lM_may {M : List Int} {x y z : Nat} {bit : Int} (hM : M.length = 195) (hx : x < 64) (hy : y < 64) (hz : z < 64) (h0 : 0 ≤ bit) (h1 : bit ≤ 1) (h : mMay M = true) : mMay (lM M x y z bit) = true := by
  have hg := mMay_good hM h
  obtain ⟨g0, g1, g2, g3, g4, g5⟩ := lM_get (bit := bit) hM hx hy hz
  rw [mMay_yes (by rw [lM_length]; exact hM)]
  · rw [g3, g4, g5, in3_iff]
    have a := tw_range (M.getD (192 + 0) 0) (mi M x) (4096 * bit - dot (M.getD 192 0) (M.getD 193 0) (M.getD 194 0) (mi M x) (mi M (64 + y)) (mi M (128 + z)))
    have b := tw_range (M.getD (192 + 1) 0) (mi M (64 + y)) (4096 * bit - dot (M.getD 192 0) (M.getD 193 0) (M.getD 194 0) (mi M x) (mi M (64 + y)) (mi M (128 + z)))
    have c := tw_range (M.getD (192 + 2) 0) (mi M (128 + z)) (4096 * bit - dot (M.getD 192 0) (M.getD 193 0) (M.getD 194 0) (mi M x) (mi M (64 + y)) (mi M (128 + z)))
    unfold lW
    exact ⟨a.1, a.2, b.1, b.2, c.1, c.2⟩
  · intro j hj
    by_cases e0 : j = x
    · subst e0; rw [g0]; exact cUp_may (hg _ (by omega)) h0 h1
    · by_cases e1 : j = 64 + y
      · subst e1; rw [g1]; exact cUp_may (hg _ (by omega)) h0 h1
      · by_cases e2 : j = 128 + z
        · subst e2; rw [g2]; exact cUp_may (hg _ (by omega)) h0 h1
        · rw [lM_get_ne e0 e1 e2 hj]; exact hg _ hj
end Go.Proofs.YtiokfaiioealdaaGreatDoor
namespace Go.Proofs.YtiokfaiioealdaaGreatDoor
open Go.RowKit Go.Proofs.YtiokfaiioealdaaGreatDoorW.PrintWords Go.Proofs.YtiokfaiioealdaaGreatDoorW.PrintLast Go.Proofs.YtiokfaiioealdaaGreatDoorW.PrintMore Go.Proofs.YtiokfaiioealdaaGreatDoor.L
set_option linter.unusedVariables false
set_option linter.unusedSimpArgs false
/-- A coder's cells. -/
def encC (E : Enc) : List Value := [.int .i64 E.l, .int .i64 E.h, .string ⟨E.out.toArray⟩]
theorem mdot_in (M : List Int) (x y z : Int) : 1 ≤ mdot M x y z ∧ mdot M x y z ≤ 4095 := dot_range _ _ _ _ _ _
theorem stc_set3 {M : List Int} {before : Int} {bv a b c a' b' c' : Value} {w : World} {g ty : Nat} (hM : M.length = 195) (h : L.BC w g ty (stc M before bv [a, b, c])) :
    L.BC (((w.setCell ⟨g, 197, none⟩ a').setCell ⟨g, 198, none⟩ b').setCell ⟨g, 199, none⟩ c') g ty (stc M before bv [a', b', c']) := by
  have h0 := L.BC.set h 197 a'
  rw [show (stc M before bv [a, b, c]).set 197 a' = stc M before bv [a', b, c] from stc_set_tail hM 0] at h0
  have h1 := L.BC.set h0 198 b'
  rw [show (stc M before bv [a', b, c]).set 198 b' = stc M before bv [a', b', c] from stc_set_tail hM 1] at h1
  have h2 := L.BC.set h1 199 c'
  rw [show (stc M before bv [a', b', c]).set 199 c' = stc M before bv [a', b', c'] from stc_set_tail hM 2] at h2
  exact h2
/-- What a state of the program's looks like, beside the world w0. -/
structure SOk (w0 w : World) (g ty : Nat) (S : St) (T : List Value) (v : Value) : Prop where
  hI : L.BC w g ty (stc S.M S.before v T)
  hR : Kd.R (Kd.int .i64) 3 w w0.heap.size (fun _ => True) v S.bits
  hN : L.But w0 w g
structure SIn (S : St) : Prop where
  hM : S.M.length = 195
  hm : mMay S.M = true
  hb : 0 ≤ S.before ∧ S.before ≤ 63
  h01 : ∀ b ∈ S.bits, b = 0 ∨ b = 1
set_option maxHeartbeats 8000000 in
set_option maxRecDepth 100000 in
theorem wbit_any (w0 : World) (g : Nat) (S : St) (E : Enc) (b : Int) (v : Value) (w : World) (ht : Tab w) (hS : SIn S) (hO : SOk w0 w g 71 S (encC E) v) (hg : g < w0.heap.size) (hgt : 3 ≠ g) (hl : S.bits.length ≤ 62) (hb : b = 0 ∨ b = 1) (he : E.ok) (ho : E.out.length + 4 ≤ 65536) :
    Calls Tryz.prog 75 #[.pointer (some ⟨g, 0, none⟩), .int .i64 b] w fun e w' => e = .returned (.int .i64 0) ∧ ∃ v' : Value, SOk w0 w' g 71 (lrn lR S b) (encC (encB E b (chance mdot S))) v' := by
  obtain ⟨M, before, bits⟩ := S
  obtain ⟨hM, hm, hbf, h01⟩ := hS
  obtain ⟨hI, hR, hN⟩ := hO
  simp only [] at hM hm hbf h01 hI hR hl
  unfold lrn chance
  simp only []
  have hpr := mdot_in M (cx0 bits) (cx1 before bits) (cx2 bits)
  obtain ⟨A, cap, ev⟩ := Kd.R_slice hR
  subst ev
  have hch := chance_any g 71 M before A cap bits (encC E) w ht hM hI (Kd.R_reads' hR).2.2 (Kd.R_reads' hR).2.1 hm hbf (by omega) h01
  have hlr := fun (w1 : World) (T : List Value) ht1 hI1 hR1 hN1 => learn_any w0 g 71 M before (.slice A bits.length cap) bits T (cx0 bits) (cx1 before bits) (cx2 bits) b w1 ht1 hM hI1 (by decide) hR1 hN1 hg hgt (by omega)
  unfold v3 at hch hlr
  generalize cx0 bits = c0 at *
  generalize cx1 before bits = c1 at *
  generalize cx2 bits = c2 at *
  generalize mdot M c0 c1 c2 = p at *
  have hcb := fun w1 => coder_bit E b p w1 he hb hpr.1 hpr.2 ho
  generalize encB E b p = E2 at *
  clear h01 hm hbf hpr
  unfold encC at hI ⊢
  go_enter Tryz.func75, Tryz.ntmps75
  go_wp2_with (fail)
  refine hch.mono ?_
  rintro e w1 ⟨rfl, hb1⟩
  replace hI := L.BC.below hI hb1
  replace hR := Kd.R_below hR hb1
  replace hN := L.But.next hN hb1
  replace ht := ht.below hb1
  clear hb1 hch
  have hNw := L.BC.new w1 [.int .i64 0, .int .i64 0, .int .i64 0] 61
  have n0 := L.BC.at_ hNw (o := 0) rfl; have n1 := L.BC.at_ hNw (o := 1) rfl; have n2 := L.BC.at_ hNw (o := 2) rfl
  have m0 := L.BC.frozen hNw 0; have m1 := L.BC.frozen hNw 1; have m2 := L.BC.frozen hNw 2
  replace hI := L.BC.alloc hI (.cells #[.int .i64 c0, .int .i64 c1, .int .i64 c2] 61)
  have x0 : (w1.alloc (.cells #[.int .i64 c0, .int .i64 c1, .int .i64 c2] 61)).cell? ⟨g, 197, none⟩ = some (.int .i64 E.l) := L.BC.at_ hI (stc_tail hM 0)
  have x1 : (w1.alloc (.cells #[.int .i64 c0, .int .i64 c1, .int .i64 c2] 61)).cell? ⟨g, 198, none⟩ = some (.int .i64 E.h) := L.BC.at_ hI (stc_tail hM 1)
  have x2 : (w1.alloc (.cells #[.int .i64 c0, .int .i64 c1, .int .i64 c2] 61)).cell? ⟨g, 199, none⟩ = some (.string ⟨E.out.toArray⟩) := L.BC.at_ hI (stc_tail hM 2)
  go_wp2_with (fail)
  have hX := L.BC.new w1 [.int .i64 c0, .int .i64 c1, .int .i64 c2] 61
  have hgg : w1.heap.size ≠ g := Nat.ne_of_gt (Nat.lt_of_lt_of_le hg hN.size)
  replace hR := Kd.R_alloc hR (.cells #[.int .i64 c0, .int .i64 c1, .int .i64 c2] 61)
  replace hN := L.But.alloc hN (.cells #[.int .i64 c0, .int .i64 c1, .int .i64 c2] 61)
  replace ht := ht.alloc (.cells #[.int .i64 c0, .int .i64 c1, .int .i64 c2] 61)
  clear n0 n1 n2 m0 m1 m2 hNw x0 x1 x2
  generalize w1.alloc (.cells #[.int .i64 c0, .int .i64 c1, .int .i64 c2] 61) = w2 at hI hX hR hN ht ⊢
  generalize w1.heap.size = gt at *
  refine (hcb _).mono ?_
  rintro e w3 ⟨rfl, hb3⟩
  replace hI := L.BC.below hI hb3
  replace hX := L.BC.below hX hb3
  replace hR := Kd.R_below hR hb3
  replace hN := L.But.next hN hb3
  replace ht := ht.below hb3
  clear hb3 hcb
  have hNw := L.BC.new w3 [.int .i64 0, .int .i64 0, .string (⟨#[]⟩ : ByteArray)] 68
  have n0 := L.BC.at_ hNw (o := 0) rfl; have n1 := L.BC.at_ hNw (o := 1) rfl; have n2 := L.BC.at_ hNw (o := 2) rfl
  have m0 := L.BC.frozen hNw 0; have m1 := L.BC.frozen hNw 1; have m2 := L.BC.frozen hNw 2
  have hg3 : w3.heap.size ≠ g := Nat.ne_of_gt (Nat.lt_of_lt_of_le hg hN.size)
  have hgt3 : w3.heap.size ≠ gt := Nat.ne_of_gt hX.lt
  have hg3f : (w3.heap.size = g) = False := eq_false hg3
  have hg3g : (g = w3.heap.size) = False := eq_false (Ne.symm hg3)
  replace hI := L.BC.alloc hI (.cells #[.int .i64 E2.l, .int .i64 E2.h, .string ⟨E2.out.toArray⟩] 68)
  replace hX := L.BC.alloc hX (.cells #[.int .i64 E2.l, .int .i64 E2.h, .string ⟨E2.out.toArray⟩] 68)
  replace hR := Kd.R_alloc hR (.cells #[.int .i64 E2.l, .int .i64 E2.h, .string ⟨E2.out.toArray⟩] 68)
  replace hN := L.But.alloc hN (.cells #[.int .i64 E2.l, .int .i64 E2.h, .string ⟨E2.out.toArray⟩] 68)
  replace ht := ht.alloc (.cells #[.int .i64 E2.l, .int .i64 E2.h, .string ⟨E2.out.toArray⟩] 68)
  have y0 : (w3.alloc (.cells #[.int .i64 E2.l, .int .i64 E2.h, .string ⟨E2.out.toArray⟩] 68)).cell? ⟨g, 197, none⟩ = some (.int .i64 E.l) := L.BC.at_ hI (stc_tail hM 0)
  have y1 : (w3.alloc (.cells #[.int .i64 E2.l, .int .i64 E2.h, .string ⟨E2.out.toArray⟩] 68)).cell? ⟨g, 198, none⟩ = some (.int .i64 E.h) := L.BC.at_ hI (stc_tail hM 1)
  have y2 : (w3.alloc (.cells #[.int .i64 E2.l, .int .i64 E2.h, .string ⟨E2.out.toArray⟩] 68)).cell? ⟨g, 199, none⟩ = some (.string ⟨E.out.toArray⟩) := L.BC.at_ hI (stc_tail hM 2)
  have z0 := L.BC.frozen hI 197; have z1 := L.BC.frozen hI 198; have z2 := L.BC.frozen hI 199
  go_wp2_with (fail)
  clear y0 y1 y2 z0 z1 z2 n0 n1 n2 m0 m1 m2 hNw hg3f hg3g
  generalize w3.alloc (.cells #[.int .i64 E2.l, .int .i64 E2.h, .string ⟨E2.out.toArray⟩] 68) = w4 at hI hX hR hN ht ⊢
  have hI5 := stc_set3 (a' := .int .i64 E2.l) (b' := .int .i64 E2.h) (c' := .string ⟨E2.out.toArray⟩) hM hI
  have hX5 := L.BC.far (L.BC.far (L.BC.far hX (p := ⟨g, 197, none⟩) (Ne.symm hgg) (.int .i64 E2.l)) (p := ⟨g, 198, none⟩) (Ne.symm hgg) (.int .i64 E2.h)) (p := ⟨g, 199, none⟩) (Ne.symm hgg) (.string ⟨E2.out.toArray⟩)
  have hR5 : Kd.R (Kd.int .i64) 3 (((w4.setCell ⟨g, 197, none⟩ (.int .i64 E2.l)).setCell ⟨g, 198, none⟩ (.int .i64 E2.h)).setCell ⟨g, 199, none⟩ (.string ⟨E2.out.toArray⟩)) w0.heap.size (fun _ => True) (.slice A bits.length cap) bits :=
    R_setB (R_setB (R_setB hR hI (ne_ty (by decide)) 197 _) (L.BC.set hI 197 _) (ne_ty (by decide)) 198 _) (L.BC.set (L.BC.set hI 197 _) 198 _) (ne_ty (by decide)) 199 _
  have hN5 := L.But.set (L.But.set (L.But.set hN 197 (.int .i64 E2.l)) 198 (.int .i64 E2.h)) 199 (.string ⟨E2.out.toArray⟩)
  have ht5 : Tab (((w4.setCell ⟨g, 197, none⟩ (.int .i64 E2.l)).setCell ⟨g, 198, none⟩ (.int .i64 E2.h)).setCell ⟨g, 199, none⟩ (.string ⟨E2.out.toArray⟩)) := Tab.but ht (L.But.set (L.But.set (L.But.set (L.But.refl _ _) 197 _) 198 _) 199 _) hgt
  clear hI hX hR hN ht
  generalize ((w4.setCell ⟨g, 197, none⟩ (.int .i64 E2.l)).setCell ⟨g, 198, none⟩ (.int .i64 E2.h)).setCell ⟨g, 199, none⟩ (.string ⟨E2.out.toArray⟩) = w5 at hI5 hX5 hR5 hN5 ht5 ⊢
  replace hI5 := L.BC.drew hI5
  replace hX5 := L.BC.drew hX5
  replace hR5 := Kd.R_drew hR5
  replace hN5 := L.But.drew hN5
  replace ht5 := ht5.below (L.below_drew (Below.refl _ _))
  refine start_ (n := 6) (S := fun w' => L.BC w' gt 61 [.int .i64 c0, .int .i64 c1, .int .i64 c2]) (ds := [5]) #[false, false, false, false, false, false] (by kernel_rfl) rfl rfl hX5 (fun hHeld => ?_)
  generalize w5.drew = w6 at hI5 hX5 hR5 hN5 ht5 hHeld ⊢
  refine pure_ (i := 0) (N := (some 30)) (v := ?_) (a' := ?_) #[true, false, false, false, false, false] rfl rfl (by kernel_rfl) (fun _ _ _ h => h) (Or.inl ⟨by rfl, ?_⟩) ?_ ?_
  rotate_left
  · intro w'
    go_simp
    with_reducible rfl
  rotate_left
  · simp only [Act.put, List.setIfInBounds_toArray, List.set_cons_zero, List.set_cons_succ, i64_w, i32_w]
    rfl
  refine pure_ (i := 1) (N := (some 31)) (v := ?_) (a' := ?_) #[true, true, false, false, false, false] rfl rfl (by kernel_rfl) (fun _ _ _ h => h) (Or.inl ⟨by rfl, ?_⟩) ?_ ?_
  rotate_left
  · intro w'
    go_simp
    with_reducible rfl
  rotate_left
  · simp only [Act.put, List.setIfInBounds_toArray, List.set_cons_zero, List.set_cons_succ, i64_w, i32_w]
    rfl
  refine pure_ (i := 2) (N := (some 32)) (v := ?_) (a' := ?_) #[true, true, true, false, false, false] rfl rfl (by kernel_rfl) (fun _ _ _ h => h) (Or.inl ⟨by rfl, ?_⟩) ?_ ?_
  rotate_left
  · intro w'
    go_simp
    with_reducible rfl
  rotate_left
  · simp only [Act.put, List.setIfInBounds_toArray, List.set_cons_zero, List.set_cons_succ, i64_w, i32_w]
    rfl
  refine take_ (i := 3) (N := (some 33)) (v := .agg #[.int .i64 c0, .int .i64 c1, .int .i64 c2]) (a' := ?_) #[true, true, true, true, false, false] rfl rfl (by kernel_rfl) (fun _ _ _ h => h) (Or.inl ⟨by rfl, fun w' hS => L.loads 61 (.tmp 6) gt [.int .i64 c0, .int .i64 c1, .int .i64 c2] _ (by rfl) (by rfl) Tryz.underlying61 rfl info3 w' (id hS)⟩) hHeld ?_ ?_
  rotate_left
  · simp only [Act.put, List.setIfInBounds_toArray, List.set_cons_zero, List.set_cons_succ, i64_w, i32_w]
    rfl
  refine pure_ (i := 4) (N := (some 34)) (v := ?_) (a' := ?_) #[true, true, true, true, true, false] rfl rfl (by kernel_rfl) (fun _ _ _ h => h) (Or.inl ⟨by rfl, ?_⟩) ?_ ?_
  rotate_left
  · intro w'
    go_simp
    with_reducible rfl
  rotate_left
  · simp only [Act.put, List.setIfInBounds_toArray, List.set_cons_zero, List.set_cons_succ, i64_w, i32_w]
    rfl
  refine last_ (i := 5) (N := (some 35)) #[true, true, true, true, true, true] rfl rfl (by kernel_rfl) (by decide) (fun K hK => ?_)
  refine goes_ Tryz.func123 (by kernel_rfl) rfl #[.pointer (some ⟨g, 0, none⟩), .agg #[.int .i64 c0, .int .i64 c1, .int .i64 c2], .int .i64 b] (by rfl) rfl rfl (by (try simp only [List.map_toArray, List.map_cons, List.map_nil]); first | done | rfl) ?_
  refine (hlr _ _ ht5 hI5 hR5 hN5).mono ?_
  rintro e w7 ⟨rfl, v', hI7, hR7, hN7⟩
  refine ⟨_, rfl, ?_⟩
  refine hK.out _ _ ?_
  clear hK K
  refine norm_ (a' := ?_) ?_ ?_
  rotate_left
  · show Act.put _ (some 35) _ = _
    simp only [Act.put, List.setIfInBounds_toArray, List.set_cons_zero, List.set_cons_succ, i64_w, i32_w]
    rfl
  refine done_ (by kernel_rfl) ?_
  go_wp2
  go_ret
  exact ⟨rfl, v', hI7, hR7, hN7⟩
theorem lrn_in {S : St} {b : Int} (h : SIn S) (hb : b = 0 ∨ b = 1) : SIn (lrn lR S b) := by
  refine ⟨lR_length h.hM _ _ _ _, ?_, h.hb, fun x hx => by rcases List.mem_append.1 hx with hx | hx; exact h.h01 x hx; rw [List.mem_singleton] at hx; subst hx; exact hb⟩
  obtain ⟨k1, k2, k3⟩ := cx_in S.before S.bits h.hb.1
  have hok : lOk S.M (cx0 S.bits) (cx1 S.before S.bits) (cx2 S.bits) b = true := lOk_iff.2 ⟨h.hm, ⟨k1, k2, k3⟩, by omega, by omega⟩
  show mMay (lR S.M (cx0 S.bits) (cx1 S.before S.bits) (cx2 S.bits) b) = true
  unfold lR
  rw [hok]
  exact lM_may h.hM (by omega) (by omega) (by omega) (by omega) (by omega) h.hm
theorem putBits_in : ∀ (bs : List Int) (a : St × Enc), SIn a.1 → (∀ b ∈ bs, b = 0 ∨ b = 1) → SIn (putBits mdot lR bs a).1
  | [], _, h, _ => h
  | b :: r, a, h, hb => putBits_in r _ (lrn_in h (hb b (List.mem_cons_self ..))) fun x hx => hb x (List.mem_cons_of_mem _ hx)
end Go.Proofs.YtiokfaiioealdaaGreatDoor
namespace Go.Proofs.YtiokfaiioealdaaGreatDoor
open Go.RowKit Go.Proofs.YtiokfaiioealdaaGreatDoorW.PrintWords Go.Proofs.YtiokfaiioealdaaGreatDoorW.PrintLast Go.Proofs.YtiokfaiioealdaaGreatDoorW.PrintMore Go.Proofs.YtiokfaiioealdaaGreatDoor.L
set_option linter.unusedVariables false
set_option linter.unusedSimpArgs false
theorem rd_get {l : List Int} {i : Nat} (h : i < l.length) : rd l (i : Int) = l[i] := by unfold rd; rw [Int.toNat_natCast, List.getD_eq_getElem?_getD, List.getElem?_eq_getElem h]; rfl
set_option maxHeartbeats 8000000 in
set_option maxRecDepth 100000 in
theorem wnum_no (w : World) (g : Nat) (x : Int) (hx : numOk x = false) : Calls Tryz.prog 36 #[.pointer (some ⟨g, 0, none⟩), .int .i64 x] w fun e w' => e = .returned (.bool false) ∧ L.But w w' g := by
  have hf := PG.fput_f x
  rw [hx, if_neg (by decide)] at hf
  have HF := Lib.hid hf
  clear hf
  go_enter Tryz.func36, Tryz.ntmps36
  go_wp2_with (fail)
  refine (PG.fold_Put.calls x 0 1000 _ HF.out).mono ?_
  rintro e w1 ⟨rfl, hd⟩
  go_wp2_with (fail)
  go_ret
  exact ⟨rfl, L.But.of_below hd.below g⟩
set_option maxHeartbeats 8000000 in
set_option maxRecDepth 100000 in
theorem wnum_any (w : World) (g : Nat) (M : List Int) (before : Int) (E : Enc) (x : Int) (ht : Tab w) (hS : SIn ⟨M, before, []⟩) (hI : L.BC w g 71 (stc M before (.slice none 0 0) (encC E))) (hgt : 3 ≠ g) (he : E.ok) (ho : E.out.length + 208 ≤ 65536) (hx : numOk x = true) :
    Calls Tryz.prog 36 #[.pointer (some ⟨g, 0, none⟩), .int .i64 x] w fun e w' => e = .returned (.bool true) ∧ L.BC w' g 71 (stc (putNum mdot lR x (⟨M, before, []⟩, E)).1.M (putNum mdot lR x (⟨M, before, []⟩, E)).1.before (.slice none 0 0) (encC (putNum mdot lR x (⟨M, before, []⟩, E)).2)) ∧ L.But w w' g := by
  have hfl := fld_le hx
  have hf := PG.fput_f x
  rw [hx, if_pos rfl] at hf
  have hgb := PG.bits_f (fld x) hfl 60 (by omega)
  have hlen := gBits_len hfl
  have h01 := bits_01 (fld x)
  unfold putNum
  obtain ⟨bs, hbs⟩ : ∃ bs, gBits (fld x) = bs := ⟨_, rfl⟩
  rw [hbs] at hgb hlen h01 ⊢
  obtain ⟨F, hF⟩ : ∃ F, putBits mdot lR bs (⟨M, before, []⟩, E) = F := ⟨_, rfl⟩
  rw [hF]
  replace hF := Lib.hid hF
  have HF := Lib.hid hf
  have HG := Lib.hid hgb
  clear hf hgb hbs hfl
  go_enter Tryz.func36, Tryz.ntmps36
  go_wp2_with (fail)
  refine (PG.fold_Put.calls x _ 0 _ HF.out).mono ?_
  rintro e w1 ⟨rfl, hd⟩
  replace hI := L.BC.below hI hd.below
  replace ht := ht.below hd.below
  have hN := L.But.of_below hd.below g
  clear hd
  go_wp2_with (fail)
  refine (PG.gamma_Bits.calls 60 _ bs 0 _ HG.out).mono ?_
  rintro e w2 ⟨v0, rfl, hR, hb⟩
  replace hI := L.BC.below hI hb
  replace ht := ht.below hb
  replace hN := L.But.next hN hb
  obtain ⟨A, cap, ev⟩ := Kd.R_slice hR
  subst ev
  clear hb
  have hg2 := hI.lt
  have hO : SOk w2 w2 g 71 ⟨M, before, []⟩ (encC E) (.slice none 0 0) := ⟨hI, Kd.R_nil _ _ _ _ _, L.But.refl _ _⟩
  go_wp2_with (fail)
  go_loopg [25] bs.length (fun kq v25 W => ∃ (i : Nat) (S2 : St) (E2 : Enc) (v : Value), v25 = .int .i64 (i : Int) ∧ i + kq = bs.length ∧ putBits mdot lR (bs.take i) (⟨M, before, []⟩, E) = (S2, E2) ∧ SIn S2 ∧ S2.bits.length = i ∧ SOk w2 W g 71 S2 (encC E2) v ∧ E2.ok ∧ E2.out.length ≤ E.out.length + 4 * i)
  case atStart => exact ⟨0, ⟨M, before, []⟩, E, _, by simp, by omega, rfl, hS, rfl, hO, he, by omega⟩
  case round =>
    clear hO
    obtain ⟨i, S2, E2, v, rfl, hi, hput, hSI, hSl, hO, he2, hel⟩ := hrel
    have hRW := R_but hR hI (ne_ty (by decide)) hO.hN
    have htW := Tab.but ht hO.hN hgt
    by_cases c1 : i < bs.length
    · have c1d : decide ((i : Int) < (bs.length : Int)) = true := decide_eq_true (by omega)
      obtain ⟨ad, ead, hx⟩ := Kd.at_int (Kd.R_reads' hRW).2.2 (i : Int) (by omega) (by omega)
      cases ead
      rw [Int.toNat_natCast] at hx
      have p3 := eq_true (show (0 : Int) ≤ (i : Int) by omega)
      have q3 := eq_true (show (i : Int) < (bs.length : Int) by omega)
      have hget := rd_get c1
      have hb01 := h01 _ (List.getElem_mem c1)
      have htk := List.take_succ_eq_append_getElem c1
      rw [← hget] at hb01 htk
      generalize rd bs (i : Int) = b at *
      replace hget := Lib.hid hget
      replace htk := Lib.hid htk
      replace hput := Lib.hid hput
      replace hb01 := Lib.hid hb01
      replace hSl := Lib.hid hSl
      go_wp2_with (fail)
      refine (wbit_any w2 g S2 E2 b v _ htW hSI hO hg2 hgt (by rw [hSl.out]; omega) hb01.out he2 (by omega)).mono ?_
      rintro e w3 ⟨rfl, v', hO'⟩
      have hel2 := encB_len E2 b (chance mdot S2)
      go_wp2_with (fail)
      obtain ⟨k, rfl⟩ : ∃ k, gk = k + 1 := ⟨gk - 1, by omega⟩
      go_roundg k
      case measure => omega
      case rel =>
        refine ⟨i + 1, lrn lR S2 b, encB E2 b (chance mdot S2), v', by simp, by omega, ?_, lrn_in hSI hb01.out, ?_, hO', encB_ok he2 (mdot_in _ _ _ _).1 (mdot_in _ _ _ _).2, by omega⟩
        · rw [htk.out, putBits_append, hput.out]; rfl
        · show (S2.bits ++ [b]).length = i + 1
          rw [List.length_append, hSl.out]; rfl
    · have c1d : decide ((i : Int) < (bs.length : Int)) = false := decide_eq_false (by omega)
      rw [List.take_of_length_le (by omega)] at hput
      rw [hF.out] at hput
      subst hput
      obtain ⟨hI3, hR3, hN3⟩ := hO
      obtain ⟨A2, cap2, ev2⟩ := Kd.R_slice hR3
      subst ev2
      have hnx := next_any w2 g 71 S2.M S2.before A2 cap2 S2.bits (encC E2) _ hSI.hM hI3 (Kd.R_reads' hR3).2.2 (Kd.R_reads' hR3).2.1 hN3 (by omega)
      replace hSl := Lib.hid hSl
      go_wp2_with (fail)
      refine hnx.mono ?_
      rintro e w3 ⟨rfl, hI4, hN4⟩
      go_wp2_with (fail)
      go_ret
      exact ⟨rfl, hI4, hN.trans hN4⟩
end Go.Proofs.YtiokfaiioealdaaGreatDoor
