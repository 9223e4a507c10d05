/- The texts behind the row, joined: Sh GRep. -/
import Derived.Test.YtiokfaiioealdaaGreatDoorQ3
import Derived.Test.YtiokfaiioealdaaGreatDoorQ2
import Derived.Test.YtiokfaiioealdaaGreatDoorQ6
import Derived.Test.YtiokfaiioealdaaGreatDoorQ1
import Derived.Test.YtiokfaiioealdaaGreatDoorProg
import Derived.Laws.CopyOwn
import Derived.Deep.OwnRows
import Derived.Deep.RegionLaw
import Derived.Laws.OwnMore
import Derived.Deep.MidRow
namespace Go.Proofs.YtiokfaiioealdaaGreatDoorW.PrintMore
end Go.Proofs.YtiokfaiioealdaaGreatDoorW.PrintMore
namespace Go.Proofs.YtiokfaiioealdaaGreatDoorW.PrintWords
open Go.RowKit Go.Proofs.YtiokfaiioealdaaGreatDoor.L
/-- x times two to the power y, y at most the kind's bits; wrapped. -/
def shl (k : IntKind) (x y : Int) : Int := k.wrap (x * 2 ^ min y.toNat k.bits)
/-- x by two to the power y, rounded down; y at most the kind's bits. -/
def shr (k : IntKind) (x y : Int) : Int := x / 2 ^ min y.toNat k.bits
theorem shl_small {k : IntKind} {x y j : Int} (h : shl k x y = j) (hy : y ≤ k.bits) : k.wrap (x * 2 ^ y.toNat) = j := by
  have e : min y.toNat k.bits = y.toNat := Nat.min_eq_left (by omega)
  rw [← h]; unfold shl; rw [e]
theorem shr_small {k : IntKind} {x y j : Int} (h : shr k x y = j) (hy : y ≤ k.bits) : x / 2 ^ y.toNat = j := by
  have e : min y.toNat k.bits = y.toNat := Nat.min_eq_left (by omega)
  rw [← h]; unfold shr; rw [e]
section
variable {P : Program} {ops : Array Oper} {rest : List Oper} {o : Oper} {a : Act} {Q : Exit → Act → World → Prop} {W : World}
theorem gate_callee {f : FuncId} {xs : Array Operand} {ts : Array TypeId} (_ho : o.op = .call { callee := .value (.func f), args := xs, argTypes := ts }) (h : wpList P ops Q (o :: rest) a W) : wpList P ops Q (o :: rest) a W := h
theorem gate_builtin {b : Builtin} {xs : Array Operand} {ts : Array TypeId} (_ho : o.op = .call { callee := .builtin b, args := xs, argTypes := ts }) (h : wpList P ops Q (o :: rest) a W) : wpList P ops Q (o :: rest) a W := h
end
end Go.Proofs.YtiokfaiioealdaaGreatDoorW.PrintWords
namespace Go.Proofs.YtiokfaiioealdaaGreatDoor
open Go.RowKit Go.Proofs.YtiokfaiioealdaaGreatDoor.L
set_option linter.unusedVariables false
set_option linter.unusedSimpArgs false
theorem u64_mask32 (n : Int) (h0 : 0 ≤ n) (h1 : n < 4294967296) : bits .and .u64 n 4294967295 = n := by
  have key : (BitVec.ofInt 64 n &&& BitVec.ofInt 64 4294967295).toNat = n.toNat := by
    rw [BitVec.toNat_and, BitVec.toNat_ofInt, show (BitVec.ofInt 64 4294967295).toNat = 2 ^ 32 - 1 by decide, Nat.and_two_pow_sub_one_eq_mod]
    omega
  show IntKind.u64.wrap ((BitVec.ofInt 64 n &&& BitVec.ofInt 64 4294967295).toNat : Nat) = n
  rw [key, IntKind.wrap_u64]
  omega
theorem mul_one_any (n : Int) (h0 : 0 ≤ n) (h1 : n ≤ 1000) (w : World) : Calls Tryz.prog 134 #[.int .u64 1, .int .u64 n] w fun e w' => e = .returned (.tuple #[.int .u64 0, .int .u64 n]) ∧ w = w' := by
  have e1 := u64_mask32 n h0 (by omega)
  have e2 : n / 4294967296 = 0 := by omega
  have e3 := u64_mask32 1 (by decide) (by decide)
  go_enter Tryz.func134, Tryz.ntmps134
  go_wp2
  go_ret2
  exact ⟨rfl, rfl⟩
theorem int_info : (Tryz.prog.info? 3).map (fun i => (i.zero, i.size, i.bytes)) = some (some (.int .i64 0), 1, 8) := by kernel_rfl
def ones (m n : Nat) : List Value := List.replicate m (.int .i64 1) ++ List.replicate (n - m) (.int .i64 0)
theorem ones_length {m n : Nat} (h : m ≤ n) : (ones m n).length = n := by simp [ones]; omega
theorem ones_splice {m n k : Nat} (h : m + k ≤ n) : splice (ones m n) m (List.replicate k (.int .i64 1)) = ones (m + k) n := by
  unfold splice ones
  rw [List.take_append_of_le_length (by simp), List.take_of_length_le (by simp), List.drop_append]
  simp only [List.length_replicate, List.drop_replicate]
  rw [← List.append_assoc, List.replicate_append_replicate]
  congr 1
  rw [show m - (m + k) = 0 by omega, show n - m - (m + k - m) = n - (m + k) by omega]
  simp
theorem made_ones (n : Nat) : madeCells #[.int .i64 0] n = (ones 0 n).toArray := by
  apply Array.ext'
  show _ = ones 0 n
  have e : ones 0 n = List.replicate n (.int .i64 0) := by simp [ones]
  rw [e, List.eq_replicate_iff]
  refine ⟨by simp [madeCells], fun b hb => ?_⟩
  simp [madeCells] at hb
  obtain ⟨a, -, rfl⟩ := hb
  simp [Nat.mod_one]
set_option maxHeartbeats 2000000 in
theorem rep_any (ad : Addr) (c n : Nat) (hc : 1 ≤ c) (hn : n ≤ 1000) (w : World) (h : w.cell? ad = some (.int .i64 1)) :
    Calls Tryz.prog 120 #[.slice (some ad) 1 c, .int .i64 n] w fun e w' => ∃ v, e = .returned v ∧ w'.ownsRow w.heap.size 3 1 v n (List.replicate n (.int .i64 1)) ∧ Below w.heap.size w w' := by
  have hlt := World.block_lt_of_cell? w _ h
  have H := Lib.hid h
  have hmk := run_make_row' (P := Tryz.prog) 22 3 (.int .i64 0) 8 Tryz.underlying22 int_info rfl .i64 .i64 n (by omega) (by omega)
  go_enter Tryz.func120, Tryz.ntmps120
  go_wp2_with (first
    | (go_at_call 134; refine (mul_one_any n (by omega) (by omega) _).mono ?_; rintro e w1 ⟨rfl, rfl⟩)
    | (with_reducible refine wpList_copy_splice rfl (.tmp 31) (.tmp 32) 22 22 rfl 3 Tryz.underlying22 (by kernel_rfl) (some ⟨w.heap.size, 0, none⟩) (some ad) n n 1 c rfl rfl w.heap.size 0 (ones 0 n) 3 ?_ (List.replicate (min 1 n) (.int .i64 1)) ?_ ?_ ?_ ?_ w.heap.size w ?_ (Nat.le_refl _) ?_))
  · rw [made_ones]; exact heap_alloc_new w _
  · simp [Nat.min_def]
  · intro hp j v hv
    have hj : j < min 1 n := by have := (List.getElem?_eq_some_iff.1 hv).1; simpa using this
    obtain rfl : j = 0 := by omega
    have hv' : v = .int .i64 1 := by rw [List.getElem?_replicate_of_lt (by omega)] at hv; exact (Option.some.inj hv).symm
    subst hv'
    rw [show ad.add 0 = ad by simp [Addr.add], World.cell?_alloc_lt _ _ _ (by simpa using hlt)]
    exact H.out
  · rw [List.length_replicate, ones_length (by omega)]; omega
  · intro v hv; rw [List.eq_of_mem_replicate hv]; rfl
  · exact below_alloc (Below.refl _ _) _
  intro w2 HG HB
  have HG2 : Hid (w2.heap[w.heap.size]? = some (.cells (ones (min 1 n) n).toArray 3 (0, 0))) := by
    have := HG.out
    rw [ones_splice (by omega), Nat.zero_add] at this
    exact this
  have HB2 := Lib.hid HB
  clear HG HB hmk H h
  obtain ⟨m0, hm0⟩ : ∃ m0 : Nat, min 1 n = m0 := ⟨_, rfl⟩
  have hm1 : m0 ≤ n := by omega
  have hm2 : 0 < n → 0 < m0 := by omega
  simp only [List.length_replicate, hm0] at HG2 ⊢
  clear hm0
  go_wp2
  go_loopw [8] (fun v wr => ∃ m : Nat, v = .int .i64 m ∧ m ≤ n ∧ (0 < n → 0 < m) ∧ Hid (wr.heap[w.heap.size]? = some (.cells (ones m n).toArray 3 (0, 0))) ∧ Hid (Below w.heap.size w wr)) (fun v _ => (n - intOf v).toNat)
  case atStart => exact ⟨m0, rfl, hm1, hm2, HG2, HB2⟩
  case round =>
    obtain ⟨m, rfl, hm, hmp, HGr, HBr⟩ := hrel
    by_cases hlt2 : m < n
    · have hmp2 := hmp (by omega)
      have W1 : (m : Int) ≠ n := by omega
      have W2 : ¬ n = m := by omega
      have hge : w.heap.size < wr.heap.size := by
        have := HGr.out
        rcases Nat.lt_or_ge w.heap.size wr.heap.size with hh | hh
        · exact hh
        · rw [Array.getElem?_eq_none hh] at this; cases this
      go_wp2
      obtain ⟨q, hq⟩ : ∃ q : Nat, min m (n - m) = q := ⟨_, rfl⟩
      have q0 : 0 < q := by omega
      have q1 : m + q ≤ n := by omega
      have q2 : q ≤ m := by omega
      have hqn : (List.replicate q (Value.int .i64 1)).length = Nat.min m (n - m) := by rw [List.length_replicate, ← hq]
      have HQ := Lib.hid hqn
      clear hq hqn
      have hc9 : ∀ j v, (List.replicate (q) (Value.int .i64 1))[j]? = some v → wr.cell? ((⟨w.heap.size, 0, none⟩ : Addr).add j) = some v := by
        intro j v hv
        have hj : j < q := by have := (List.getElem?_eq_some_iff.1 hv).1; simpa using this
        have hv' : v = .int .i64 1 := by rw [List.getElem?_replicate_of_lt hj] at hv; exact (Option.some.inj hv).symm
        subst hv'
        rw [Addr.add_mid, Nat.zero_add, cell_of_row wr w.heap.size j _ _ _ HGr.out]
        simp [ones, List.getElem?_append_left, show j < m by omega]
      have H9 := Lib.hid hc9
      clear hc9
      go_region_law (refine step_copy_splice rfl (.tmp 41) (.tmp 44) 22 22 rfl 3 Tryz.underlying22 (by kernel_rfl) (some ⟨w.heap.size, m, none⟩) (some ⟨w.heap.size, 0, none⟩) (n - m) (n - m) m n (by go_simp) (by go_simp) w.heap.size m (ones m n) 3 HGr.out (List.replicate (q) (.int .i64 1)) HQ.out (fun _ => ⟨rfl, _, rfl, H9.out⟩) (by rw [List.length_replicate, ones_length (by omega)]; omega) (fun v hv => by rw [List.eq_of_mem_replicate hv]; rfl) w.heap.size w (below_drew HBr.out) (Nat.le_refl _) ?_; intro w3 HG3 HB3)
      have HG4 : Hid (w3.heap[w.heap.size]? = some (.cells (ones (m + q) n).toArray 3 (0, 0))) := by
        have := HG3.out
        rw [ones_splice (by omega)] at this
        exact this
      have HB4 := Lib.hid HB3
      clear HG3 HB3 HQ
      have WS : IntKind.i64.wrap ((m : Int) + q) = (m : Int) + q := IntWalk.i64_in _ (by omega)
      go_simp
      go_wp2
      clear WS
      go_roundw
      case rel => exact ⟨m + q, by go_num, by omega, by omega, HG4, HB4⟩
      case measure => simp [intOf]; omega
    · obtain rfl : m = n := by omega
      go_wp2
      go_ret
      refine ⟨_, rfl, ⟨by simp, .inr ⟨w.heap.size, m, (ones m m).toArray, rfl, Nat.le_refl _, HGr.out, Nat.le_refl _, by simp only [maxLen]; omega, by simp [ones], by simp [ones]⟩⟩, HBr.out⟩
end Go.Proofs.YtiokfaiioealdaaGreatDoor
