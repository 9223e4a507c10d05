/- What the model's functions come to (chapter 9): a model as a list of 195 whole numbers. -/
import Derived.Test.YtiokfaiioealdaaGreatDoorWMix
import Derived.Deep.MidRow
namespace Go.Proofs.YtiokfaiioealdaaGreatDoor
open Go.RowKit Go.Proofs.YtiokfaiioealdaaGreatDoor.L
set_option linter.unusedVariables false
set_option linter.unusedSimpArgs false

def ints (M : List Int) : List Value := M.map (Value.int .i64)
theorem ints_length (M : List Int) : (ints M).length = M.length := by simp [ints]
theorem ints_one (M : List Int) : ∀ v ∈ ints M, v.oneCell' = true := by intro v hv; obtain ⟨x, -, rfl⟩ := List.mem_map.1 hv; rfl
theorem ints_get {M : List Int} {j : Nat} (h : j < M.length) : (ints M)[j]? = some (.int .i64 (M.getD j 0)) := by simp [ints, List.getD, List.getElem?_eq_getElem h]
/-- A piece of a model's numbers. -/
def cut (M : List Int) (o n : Nat) : List Int := (M.drop o).take n
theorem cut_length {M : List Int} {o n : Nat} (h : o + n ≤ M.length) : (cut M o n).length = n := by simp [cut]; omega
theorem cut_get {M : List Int} {o n j : Nat} (h : j < n) : (cut M o n).getD j 0 = M.getD (o + j) 0 := by
  simp only [cut, List.getD_eq_getElem?_getD, List.getElem?_take_of_lt h, List.getElem?_drop]
theorem range_cut {w : World} {b : Nat} {M : List Int} (hb : w.rangeAt b 0 (ints M)) (o n : Nat) : w.rangeAt b o (ints (cut M o n)) := by
  intro j v hv
  have hj : j < (cut M o n).length := by have := (List.getElem?_eq_some_iff.1 hv).1; simpa [ints] using this
  have hj2 : j < n ∧ o + j < M.length := by simp [cut] at hj; omega
  rw [ints_get hj, cut_get hj2.1] at hv
  obtain rfl := Option.some.inj hv
  have := hb (o + j) _ (ints_get hj2.2)
  rwa [Nat.zero_add] at this
theorem range_new (w : World) (M : List Int) (t : TypeId) : (w.alloc (.cells (ints M).toArray t)).rangeAt w.heap.size 0 (ints M) := by
  intro j v hv
  rw [Nat.zero_add, cell_of_row _ w.heap.size j _ _ _ (heap_alloc_new w _)]
  simpa using hv
theorem range_below {w w1 : World} {b o : Nat} {cs : List Value} (h : w.rangeAt b o cs) (hb : Below w.heap.size w w1) : w1.rangeAt b o cs := fun j v hv => cell_below hb (h j v hv)
theorem range_drewN {w : World} {b o : Nat} {cs : List Value} (h : w.rangeAt b o cs) (n : Nat) : (w.drewN n).rangeAt b o cs := h
theorem range_cell {w : World} {b : Nat} {M : List Int} (hb : w.rangeAt b 0 (ints M)) {i : Nat} (h : i < M.length) : w.cell? ⟨b, i, none⟩ = some (.int .i64 (M.getD i 0)) := by
  have := hb i _ (ints_get h)
  rwa [Nat.zero_add] at this
theorem run_index_ints {P : Program} (t e : TypeId) (n : Nat) (ht : P.underlying t = some (.array n e)) (he : P.underlying e = some (.int .i64)) (hsz : ∀ w, (sizeOf e).run P w = .ok 1 w)
    (xs : List Int) (hx : xs.length = n) (k : IntKind) (i : Nat) (hi : i < n) (w : World) : (Instr.index t (.agg (ints xs).toArray) (.int k (i : Int))).run P w = .ok (.int .i64 (xs.getD i 0)) w := by
  subst hx
  simp [Instr.index, run_underlying ht, asIntOf, hi, hsz, part, isAgg, run_underlying he, ints, List.getD, List.getElem?_eq_getElem hi]
theorem below_setCells {B g : Nat} {w0 : World} (hBg : B ≤ g) : ∀ (vs : List Value) (o : Nat) (W : World), Below B w0 W → Below B w0 (W.setCells g o vs)
  | [], _, _, h => h
  | v :: r, o, W, h => by rw [World.setCells]; exact below_setCells hBg r (o + 1) _ (h.setCell (p := ⟨g, o, none⟩) hBg v)
theorem results_cell1 {P : Program} {fn : Func} {p : Tmp} {ty : TypeId} (h : fn.results = #[.cell p ty]) (tmps : Array Value) (w : World) (g : Nat) (cs : List Value) (d : TypeDesc)
    (hp : tmps.getD p undef = .pointer (some ⟨g, 0, none⟩)) (hc : w.rangeAt g 0 cs) (hu : P.underlying ty = some d) (hd : d.isRow = true) (hi : (P.info? ty).map (·.size) = some cs.length) :
    (results fn tmps).run P w = .ok (.agg cs.toArray) w := by
  have hp' : tmps[p]?.getD undef = .pointer (some ⟨g, 0, none⟩) := by simpa using hp
  simp [results, h, hp', asAddr, run_loadVar_mid w g 0 ty cs d hc hu hd hi]
theorem results_cellt {P : Program} {fn : Func} {p u : Tmp} {ty : TypeId} (h : fn.results = #[.cell p ty, .tmp u]) (tmps : Array Value) (w : World) (g : Nat) (cs : List Value) (d : TypeDesc)
    (hp : tmps.getD p undef = .pointer (some ⟨g, 0, none⟩)) (hc : w.rangeAt g 0 cs) (hu : P.underlying ty = some d) (hd : d.isRow = true) (hi : (P.info? ty).map (·.size) = some cs.length) :
    (results fn tmps).run P w = .ok (.tuple #[.agg cs.toArray, tmps.getD u undef]) w := by
  have hp' : tmps[p]?.getD undef = .pointer (some ⟨g, 0, none⟩) := by simpa using hp
  simp [results, h, hp', asAddr, run_loadVar_mid w g 0 ty cs d hc hu hd hi]
def mMay (M : List Int) : Bool := (M.take 192).all cMay && in3 1048576 (M.getD 192 0) (M.getD 193 0) (M.getD 194 0)
def Good (M : List Int) (n : Nat) : Prop := ∀ j, j < n → cMay (M.getD j 0) = true
theorem mMay_no {M : List Int} (hM : M.length = 195) {i : Nat} (hi : i < 192) (h : cMay (M.getD i 0) = false) : mMay M = false := by
  unfold mMay
  rw [Bool.and_eq_false_iff]
  left
  cases e : (M.take 192).all cMay
  · rfl
  · have hm : M.getD i 0 ∈ M.take 192 := by
      rw [List.mem_iff_getElem?]
      exact ⟨i, by rw [List.getElem?_take_of_lt hi, List.getD_eq_getElem?_getD, List.getElem?_eq_getElem (by omega)]; rfl⟩
    rw [List.all_eq_true.1 e _ hm] at h; cases h
theorem mMay_yes {M : List Int} (hM : M.length = 195) (h : Good M 192) : mMay M = in3 1048576 (M.getD 192 0) (M.getD 193 0) (M.getD 194 0) := by
  unfold mMay
  rw [show (M.take 192).all cMay = true from List.all_eq_true.2 fun x hx => ?_, Bool.true_and]
  obtain ⟨i, hi⟩ := List.mem_iff_getElem?.1 hx
  have hlt : i < 192 := by have := (List.getElem?_eq_some_iff.1 hi).1; simp at this; omega
  rw [List.getElem?_take_of_lt hlt] at hi
  have := h i hlt
  rwa [List.getD_eq_getElem?_getD, hi] at this
theorem mMay_good {M : List Int} (hM : M.length = 195) (h : mMay M = true) : Good M 192 := by
  intro i hi
  cases e : cMay (M.getD i 0)
  · rw [mMay_no hM hi e] at h; cases h
  · rfl
theorem info_model : (Tryz.prog.info? 63).map (·.size) = some 195 := by kernel_rfl
theorem info_row64 : (Tryz.prog.info? 59).map (·.size) = some 64 := by kernel_rfl
theorem info_three : (Tryz.prog.info? 61).map (·.size) = some 3 := by kernel_rfl
theorem size_int1 (w : World) : (sizeOf 3).run Tryz.prog w = .ok 1 w := by kernel_rfl
set_option maxHeartbeats 1000000 in
theorem model_may (M : List Int) (hM : M.length = 195) (w : World) :
   Calls Tryz.prog 185 #[.agg (ints M).toArray] w fun e w' => e = .returned (.bool (mMay M)) ∧ Below w.heap.size w w' := by
  have hno := fun (i : Nat) (hi : i < 192) (h : cMay (M.getD i 0) = false) => mMay_no hM hi h
  have hyes := fun h => mMay_yes hM h
  obtain ⟨B, hB⟩ : ∃ B, mMay M = B := ⟨_, rfl⟩
  rw [hB] at hno hyes ⊢
  have HNO := Lib.hid hno
  have HYES := Lib.hid hyes
  have HM := Lib.hid hM
  clear hno hyes hB
  go_enter Tryz.func185, Tryz.ntmps185
  go_wp2_with fail
  have HR := Lib.hid (range_new w M 63)
  have HB := Lib.hid (below_alloc (Below.refl w.heap.size w) (.cells (ints M).toArray 63))
  generalize w.alloc _ = W at HR HB ⊢
  clear hM
  go_loop [6] (fun v => ∃ i : Nat, v = .int .i64 i ∧ i ≤ 3 ∧ Hid (Good M (64 * i))) (fun v => (3 - intOf v).toNat)
  case atStart => exact ⟨0, rfl, by omega, by show Good M 0; intro j hj; omega⟩
  case round =>
    obtain ⟨i, rfl, hi, HG⟩ := hrel
    by_cases hlt : i < 3
    · have HL : Hid ((cut M (64 * i) 64).length = 64) := cut_length (by rw [HM.out]; omega)
      have HRC := Lib.hid (range_cut HR.out (64 * i) 64)
      have hc64 : (ints (cut M (64 * i) 64)).length = 64 := by rw [ints_length]; exact HL.out
      have HC64 := Lib.hid hc64
      clear hc64
      go_wp2_with (with_reducible refine wpList_load_mid rfl 59 (.tmp 11) rfl w.heap.size (64 * i) ?_ (ints (cut M (64 * i) 64)) (.array 64 3) HRC.out Tryz.underlying59 rfl (by rw [HC64.out]; exact info_row64) ?_)
      go_loop [13] (fun v => ∃ j : Nat, v = .int .i64 j ∧ j ≤ 64 ∧ Hid (Good M (64 * i + j))) (fun v => (64 - intOf v).toNat)
      case atStart => exact ⟨0, rfl, by omega, HG⟩
      case round =>
        obtain ⟨j, rfl, hj, HG2⟩ := hrel
        by_cases hlt2 : j < 64
        · have hix := fun W => run_index_ints (P := Tryz.prog) 59 3 64 Tryz.underlying59 Tryz.underlying3 size_int1 (cut M (64 * i) 64) HL.out .i64 j hlt2 W
          rw [cut_get hlt2] at hix
          obtain ⟨c, hc⟩ : ∃ c, M.getD (64 * i + j) 0 = c := ⟨_, rfl⟩
          rw [hc] at hix
          cases hcm : cMay c
          · have hBf := HNO.out (64 * i + j) (by omega) (by rw [hc]; exact hcm)
            have HC := Lib.hid hcm
            have HBF := Lib.hid hBf
            clear hc hcm hBf
            go_wp2_with (go_at_call 203; refine (count_may c _).mono ?_; rw [HC.out]; rintro e w1 ⟨rfl, rfl⟩)
            go_ret
            exact ⟨ret_bool HBF.out.symm, HB.out⟩
          · have HG3 : Hid (Good M (64 * i + (j + 1))) := by
              intro l hl
              rcases Nat.lt_or_ge l (64 * i + j) with h | h
              · exact HG2.out l h
              · rw [show l = 64 * i + j by omega, hc]; exact hcm
            have HC := Lib.hid hcm
            clear hc hcm
            go_wp2_with (go_at_call 203; refine (count_may c _).mono ?_; rw [HC.out]; rintro e w1 ⟨rfl, rfl⟩)
            go_round
            case rel => exact ⟨j + 1, by go_num, by omega, HG3⟩
            case measure => simp [intOf]; omega
        · obtain rfl : j = 64 := by omega
          have HG3 : Hid (Good M (64 * (i + 1))) := HG2
          go_wp2
          go_round
          case rel => exact ⟨i + 1, by go_num, by omega, HG3⟩
          case measure => simp [intOf]; omega
    · obtain rfl : i = 3 := by omega
      have hBy := Lib.hid (HYES.out HG.out)
      go_wp2_with (go_at_call 204; refine (weights_any _ 192 _ _ _ _ (range_cell HR.out (i := 192) (by rw [HM.out]; omega)) (range_cell HR.out (i := 193) (by rw [HM.out]; omega)) (range_cell HR.out (i := 194) (by rw [HM.out]; omega))).mono ?_; rintro e w1 ⟨rfl, rfl⟩)
      go_ret
      exact ⟨ret_bool hBy.out.symm, HB.out⟩
end Go.Proofs.YtiokfaiioealdaaGreatDoor
