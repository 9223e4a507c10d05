/- The texts behind the row, joined: Lib NumG. -/
import Derived.WalkKit
import Derived.WalkLawsBesides
import Derived.KernelRfl
import Derived.Deep.MidRow
import Derived.Lib.Hide
import Derived.Handy
import Derived.BigQuiet
import Derived.Deep.QuietTactic
import Derived.Laws.Bits128
import Derived.Deep.RegionWith
import Derived.Deep.RegionHeld3
import Derived.StillTailTactics
import Derived.Deep.DeepCutAuto
import Derived.Deep.CutBlock
import Derived.Deep.LoopGhost
import Derived.Deep.DeepFit
namespace Go.Proofs.YtiokfaiioealdaaGreatDoor
open Go.RowKit
set_option linter.unusedVariables false
set_option linter.unusedSimpArgs false
theorem ret_int {k : IntKind} {a b : Int} (h : a = b) : Ending.returned (.int k a) = .returned (.int k b) := by rw [h]
theorem ret_bool {a b : Bool} (h : a = b) : Ending.returned (.bool a) = .returned (.bool b) := by rw [h]
theorem ret_two {k l : IntKind} {a b c d : Int} (h : a = b) (g : c = d) : Ending.returned (.tuple #[.int k a, .int l c]) = .returned (.tuple #[.int k b, .int l d]) := by rw [h, g]
theorem i64_mask (k : Nat) (m : Int) (hk : k ≤ 62) (hm : (BitVec.ofInt 64 m).toNat = 2 ^ k - 1) (n : Int) : bits .and .i64 n m = n % ((2 ^ k : Nat) : Int) := by
  have key : (BitVec.ofInt 64 n &&& BitVec.ofInt 64 m).toNat = (n % ((2 ^ 64 : Nat) : Int)).toNat % 2 ^ k := by
    rw [BitVec.toNat_and, BitVec.toNat_ofInt, hm, Nat.and_two_pow_sub_one_eq_mod]
  show IntKind.i64.wrap ((BitVec.ofInt 64 n &&& BitVec.ofInt 64 m).toNat : Nat) = n % ((2 ^ k : Nat) : Int)
  rw [key]
  have e : (((n % ((2 ^ 64 : Nat) : Int)).toNat % 2 ^ k : Nat) : Int) = n % ((2 ^ k : Nat) : Int) := by
    have h0 : 0 ≤ n % ((2 ^ 64 : Nat) : Int) := Int.emod_nonneg _ (by decide)
    rw [Int.natCast_emod, Int.toNat_of_nonneg h0]
    exact Int.emod_emod_of_dvd n (Int.natCast_dvd_natCast.2 (Nat.pow_dvd_pow 2 (by omega)))
  rw [e]
  have hp : (0 : Int) < ((2 ^ k : Nat) : Int) := Int.natCast_pos.2 (Nat.pow_pos (by decide))
  have h1 : n % ((2 ^ k : Nat) : Int) < ((2 ^ k : Nat) : Int) := Int.emod_lt_of_pos _ hp
  have h2 : ((2 ^ k : Nat) : Int) ≤ 4611686018427387904 := by
    have : 2 ^ k ≤ 2 ^ 62 := Nat.pow_le_pow_right (by decide) hk
    omega
  have h3 := Int.emod_nonneg n (show ((2 ^ k : Nat) : Int) ≠ 0 by omega)
  exact IntWalk.i64_in _ (by omega)
end Go.Proofs.YtiokfaiioealdaaGreatDoor
namespace Go.Proofs.YtiokfaiioealdaaGreatDoor.L
open Go.RowKit
theorem below_drewN {B : Nat} {w W : World} (h : Below B w W) (n : Nat) : Below B w (W.drewN n) := ⟨h.os, h.tape, h.output, h.size, h.block⟩
theorem below_next {w w1 w2 : World} (h : Below w.heap.size w w1) (k : Below w1.heap.size w1 w2) : Below w.heap.size w w2 :=
  h.trans ⟨k.os, k.tape, k.output, k.size, fun i hi => k.block i (Nat.lt_of_lt_of_le hi h.size)⟩
theorem below_alloc {w W : World} (h : Below w.heap.size w W) (o : Obj) : Below w.heap.size w (W.alloc o) := h.alloc h.size o
theorem below_drew {B : Nat} {w W : World} (h : Below B w W) : Below B w W.drew := ⟨h.os, h.tape, h.output, h.size, h.block⟩
theorem below_set {B : Nat} {w W : World} {p : Addr} (hp : B ≤ p.block) (h : Below B w W) (u : Value) : Below B w (W.setCell p u) := h.setCell hp u
theorem cell_below {w w1 : World} (h : Below w.heap.size w w1) {a : Addr} {v : Value} (hc : w.cell? a = some v) : w1.cell? a = some v := (h.cell (World.block_lt_of_cell? w a hc)).trans hc
theorem bcell {W w1 : World} (hb : Below W.heap.size W w1) : (∀ b o, b < W.heap.size → w1.cell? ⟨b, o, none⟩ = W.cell? ⟨b, o, none⟩) ∧ (∀ b o, b < W.heap.size → w1.frozen? ⟨b, o, none⟩ = W.frozen? ⟨b, o, none⟩) :=
  ⟨fun b o h => hb.cell (p := ⟨b, o, none⟩) h, fun b o h => hb.frozen (p := ⟨b, o, none⟩) h⟩
theorem own3 {W w1 : World} (hb : Below W.heap.size W w1) {b : Nat} {x y z : Value} (h0 : W.cell? ⟨b, 0, none⟩ = some x) (h1 : W.cell? ⟨b, 1, none⟩ = some y) (h2 : W.cell? ⟨b, 2, none⟩ = some z)
    (f0 : W.frozen? ⟨b, 0, none⟩ = false) (f1 : W.frozen? ⟨b, 1, none⟩ = false) (f2 : W.frozen? ⟨b, 2, none⟩ = false) :
    w1.cell? ⟨b, 0, none⟩ = some x ∧ w1.cell? ⟨b, 1, none⟩ = some y ∧ w1.cell? ⟨b, 2, none⟩ = some z ∧ w1.frozen? ⟨b, 0, none⟩ = false ∧ w1.frozen? ⟨b, 1, none⟩ = false ∧ w1.frozen? ⟨b, 2, none⟩ = false ∧ b < w1.heap.size :=
  have hl : b < W.heap.size := World.block_lt_of_cell? W _ h0
  ⟨cell_below hb h0, cell_below hb h1, cell_below hb h2, (hb.frozen (p := ⟨b, 0, none⟩) hl).trans f0, (hb.frozen (p := ⟨b, 1, none⟩) hl).trans f1, (hb.frozen (p := ⟨b, 2, none⟩) hl).trans f2, Nat.lt_of_lt_of_le hl hb.size⟩
theorem mul_bd {a b m n : Int} (h0 : 0 ≤ a) (h1 : a ≤ m) (h2 : 0 ≤ b) (h3 : b ≤ n) : 0 ≤ a * b ∧ a * b ≤ m * n := ⟨Int.mul_nonneg h0 h2, Int.mul_le_mul h1 h3 h2 (by omega)⟩
end Go.Proofs.YtiokfaiioealdaaGreatDoor.L
namespace Go.Proofs.YtiokfaiioealdaaGreatDoor
set_option linter.unusedVariables false
set_option linter.unusedSimpArgs false
/-- The k lowest bits of v, the highest first. -/
def lowBits (v : Nat) : Nat → List Int
  | 0 => []
  | k + 1 => ((v / 2 ^ k % 2 : Nat) : Int) :: lowBits v k
def gBits (u : Nat) : List Int := List.replicate (Nat.log2 (u + 1)) 1 ++ 0 :: lowBits (u + 1) (Nat.log2 (u + 1))
def gVal (v : Nat) : List Int → Nat
  | [] => v
  | b :: r => gVal (2 * v + (b % 2).toNat) r
/-- How many 1s a list begins with. -/
def gOnes : List Int → Nat
  | [] => 0
  | b :: r => if b = 1 then gOnes r + 1 else 0
theorem lowBits_length (v k : Nat) : (lowBits v k).length = k := by induction k with | zero => rfl | succ k ih => simp [lowBits, ih]
theorem gBits_length (u : Nat) : (gBits u).length = 2 * Nat.log2 (u + 1) + 1 := by simp [gBits, lowBits_length]; omega
theorem gVal_div (r : List Int) : ∀ v, gVal v r / 2 ^ r.length = v := by
  induction r with
  | nil => intro v; simp [gVal]
  | cons b r ih =>
    intro v
    simp only [gVal, List.length_cons, Nat.pow_succ]
    rw [← Nat.div_div_eq_div_mul, ih]
    have : (b % 2).toNat < 2 := by omega
    omega
theorem lowBits_gVal (r : List Int) : ∀ v, lowBits (gVal v r) r.length = r.map (· % 2) := by
  induction r with
  | nil => intro v; rfl
  | cons b r ih =>
    intro v
    simp only [gVal, List.length_cons, lowBits, List.map_cons]
    rw [ih, gVal_div]
    congr 1
    omega
theorem gVal_lowBits (V : Nat) : ∀ k v, gVal v (lowBits V k) = v * 2 ^ k + V % 2 ^ k := by
  intro k
  induction k with
  | zero => intro v; simp [lowBits, gVal, Nat.mod_one]
  | succ k ih =>
    intro v
    simp only [lowBits, gVal]
    rw [ih, Nat.pow_succ]
    have h1 : ((((V / 2 ^ k % 2 : Nat) : Int)) % 2).toNat = V / 2 ^ k % 2 := by omega
    rw [h1, Nat.mod_mul, Nat.add_mul, show 2 * v * 2 ^ k = v * (2 ^ k * 2) by rw [Nat.mul_comm 2 v, Nat.mul_assoc, Nat.mul_comm 2], Nat.mul_comm (2 ^ k) (V / 2 ^ k % 2)]
    omega
theorem log2_eq {V n : Nat} (h0 : 2 ^ n ≤ V) (h1 : V < 2 ^ (n + 1)) : Nat.log2 V = n := by
  have hV : V ≠ 0 := by have := Nat.two_pow_pos n; omega
  exact (Nat.log2_eq_iff hV).2 ⟨h0, h1⟩
theorem log2_bd (V : Nat) (h : 0 < V) : 2 ^ Nat.log2 V ≤ V ∧ V < 2 ^ (Nat.log2 V + 1) := (Nat.log2_eq_iff (by omega)).1 rfl
theorem gVal_range (r : List Int) : 2 ^ r.length ≤ gVal 1 r ∧ gVal 1 r < 2 ^ (r.length + 1) := by
  have h := gVal_div r 1
  have hp := Nat.two_pow_pos r.length
  have hd := Nat.div_add_mod (gVal 1 r) (2 ^ r.length)
  have hm := Nat.mod_lt (gVal 1 r) hp
  rw [h] at hd
  rw [Nat.pow_succ]
  omega
theorem gVal_log (r : List Int) : Nat.log2 (gVal 1 r) = r.length := log2_eq (gVal_range r).1 (gVal_range r).2
theorem gVal_back (V : Nat) (h : 0 < V) : gVal 1 (lowBits V (Nat.log2 V)) = V := by
  obtain ⟨h0, h1⟩ := log2_bd V h
  rw [gVal_lowBits, Nat.one_mul]
  rw [Nat.pow_succ] at h1
  rw [Nat.mod_eq_sub_mod h0, Nat.mod_eq_of_lt (by omega)]
  omega
theorem gOnes_le (l : List Int) : gOnes l ≤ l.length := by induction l with | nil => simp [gOnes] | cons b r ih => simp only [gOnes, List.length_cons]; split <;> omega
theorem gOnes_rep (n : Nat) (b : Int) (r : List Int) (h : b ≠ 1) : gOnes (List.replicate n 1 ++ b :: r) = n := by
  induction n with
  | zero => simp [gOnes, h]
  | succ n ih => simp [List.replicate_succ, gOnes, ih]
theorem gOnes_take (l : List Int) : l.take (gOnes l) = List.replicate (gOnes l) 1 := by
  induction l with
  | nil => simp [gOnes]
  | cons b r ih => simp only [gOnes]; split <;> simp_all [List.replicate_succ]
def isBit (b : Int) : Bool := decide (0 ≤ b) && decide (b ≤ 1)
theorem isBit_mod {b : Int} : isBit b = true ↔ b % 2 = b := by simp [isBit]; omega
/-- Are some bits a number's? -/
def gOk (l : List Int) : Bool := decide (gOnes l ≤ 25) && decide (l.length = 2 * gOnes l + 1) && decide (l[gOnes l]? = some 0) && (l.drop (gOnes l + 1)).all isBit && decide (gVal 1 (l.drop (gOnes l + 1)) ≤ 33554433)
def gNum (l : List Int) : Nat := gVal 1 (l.drop (gOnes l + 1)) - 1
theorem gSplit {l : List Int} (h0 : l[gOnes l]? = some 0) : l = List.replicate (gOnes l) 1 ++ 0 :: l.drop (gOnes l + 1) := by
  have hlt : gOnes l < l.length := (List.getElem?_eq_some_iff.1 h0).1
  have e := (List.take_append_drop (gOnes l) l).symm
  rw [gOnes_take, List.drop_eq_getElem_cons hlt] at e
  have hv : l[gOnes l] = 0 := (List.getElem?_eq_some_iff.1 h0).2
  rw [hv] at e
  exact e
theorem gBits_back {l : List Int} (h0 : l[gOnes l]? = some 0) (hl : l.length = 2 * gOnes l + 1) : gBits (gNum l) = List.replicate (gOnes l) 1 ++ 0 :: (l.drop (gOnes l + 1)).map (· % 2) := by
  have hp := (gVal_range (l.drop (gOnes l + 1))).1
  have hp2 := Nat.two_pow_pos (l.drop (gOnes l + 1)).length
  have hlen : (l.drop (gOnes l + 1)).length = gOnes l := by simp; omega
  unfold gBits gNum
  rw [show gVal 1 (l.drop (gOnes l + 1)) - 1 + 1 = gVal 1 (l.drop (gOnes l + 1)) by omega, gVal_log, lowBits_gVal, hlen]
theorem gBits_same {l : List Int} (h0 : l[gOnes l]? = some 0) (hl : l.length = 2 * gOnes l + 1) : gBits (gNum l) = l ↔ (l.drop (gOnes l + 1)).all isBit = true := by
  rw [gBits_back h0 hl]
  constructor
  · intro h
    have h2 := h.trans (gSplit h0)
    have h3 := List.append_cancel_left h2
    have h4 : (l.drop (gOnes l + 1)).map (· % 2) = l.drop (gOnes l + 1) := by simpa using h3
    refine List.all_eq_true.2 fun b hb => ?_
    obtain ⟨i, hi, rfl⟩ := List.mem_iff_getElem.1 hb
    have h5 : ((l.drop (gOnes l + 1)).map (· % 2))[i]'(by simpa using hi) = (l.drop (gOnes l + 1))[i] := by simp only [h4]
    rw [List.getElem_map] at h5
    exact isBit_mod.2 h5
  · intro h
    have h4 : (l.drop (gOnes l + 1)).map (· % 2) = l.drop (gOnes l + 1) := by
      conv => rhs; rw [← List.map_id (l.drop (gOnes l + 1))]
      exact List.map_congr_left fun b hb => isBit_mod.1 (List.all_eq_true.1 h b hb)
    rw [h4]
    exact (gSplit h0).symm
theorem gOnes_gBits (u : Nat) : gOnes (gBits u) = Nat.log2 (u + 1) := gOnes_rep _ _ _ (by decide)
theorem gBits_zero (u : Nat) : (gBits u)[gOnes (gBits u)]? = some 0 := by rw [gOnes_gBits]; unfold gBits; rw [List.getElem?_append_right (by simp)]; simp
theorem gBits_drop (u : Nat) : (gBits u).drop (gOnes (gBits u) + 1) = lowBits (u + 1) (Nat.log2 (u + 1)) := by
  rw [gOnes_gBits]; unfold gBits
  rw [show Nat.log2 (u + 1) + 1 = (List.replicate (Nat.log2 (u + 1)) (1 : Int)).length + 1 by simp, List.drop_append]
  simp
theorem gNum_gBits (u : Nat) : gNum (gBits u) = u := by unfold gNum; rw [gBits_drop, gVal_back _ (by omega)]; omega
theorem log2_le {v n : Nat} (h : v < 2 ^ (n + 1)) : Nat.log2 v ≤ n := by
  rcases Nat.eq_zero_or_pos v with rfl | hv
  · simp
  · have := (Nat.log2_lt (by omega) (k := n + 1)).2 h; omega
theorem lowBits_bit (v k : Nat) : (lowBits v k).all isBit = true := by
  induction k with
  | zero => rfl
  | succ k ih => simp only [lowBits, List.all_cons, ih, Bool.and_true]; exact isBit_mod.2 (by omega)
theorem gOk_gBits {u : Nat} (h : u ≤ 33554432) : gOk (gBits u) = true := by
  have h1 : Nat.log2 (u + 1) ≤ 25 := log2_le (by omega)
  unfold gOk
  rw [gBits_zero, gBits_drop, gBits_length, gOnes_gBits, lowBits_bit, gVal_back _ (show 0 < u + 1 by omega)]
  simp [h1, h]
end Go.Proofs.YtiokfaiioealdaaGreatDoor
