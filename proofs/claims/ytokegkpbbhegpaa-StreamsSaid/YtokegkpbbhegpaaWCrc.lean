/- What the sum's functions come to (chapter 3), the program's and the document's own. -/
import Derived.Test.YtokegkpbbhegpaaProg
import Derived.Test.YtokegkpbbhegpaaBlk
import Derived.Test.YtokegkpbbhegpaaNumC
import Derived.BigRegion
namespace Go.Proofs.Ytokegkpbbhegpaa
open Go.RowKit Go.Proofs.Ytokegkpbbhegpaa.L
set_option linter.unusedVariables false
set_option linter.unusedSimpArgs false

theorem u32_xor (a b : Nat) (ha : a < 2 ^ 32) (hb : b < 2 ^ 32) : bits .xor .u32 (a : Int) (b : Int) = ((a ^^^ b : Nat) : Int) := by
  have key : (BitVec.ofInt 32 (a : Int) ^^^ BitVec.ofInt 32 (b : Int)).toNat = a ^^^ b := by
    rw [BitVec.toNat_xor, BitVec.toNat_ofInt, BitVec.toNat_ofInt, show ((a : Int) % ((2 ^ 32 : Nat) : Int)).toNat = a by omega, show ((b : Int) % ((2 ^ 32 : Nat) : Int)).toNat = b by omega]
  have hl := Nat.xor_lt_two_pow ha hb
  show IntKind.u32.wrap ((BitVec.ofInt 32 (a : Int) ^^^ BitVec.ofInt 32 (b : Int)).toNat : Nat) = _
  rw [key, IntKind.wrap_u32]
  omega
theorem u32_mask (k : Nat) (m : Int) (hk : k ≤ 31) (hm : (BitVec.ofInt 32 m).toNat = 2 ^ k - 1) (a : Nat) (ha : a < 2 ^ 32) : bits .and .u32 (a : Int) m = ((a % 2 ^ k : Nat) : Int) := by
  have key : (BitVec.ofInt 32 (a : Int) &&& BitVec.ofInt 32 m).toNat = a % 2 ^ k := by
    rw [BitVec.toNat_and, BitVec.toNat_ofInt, hm, show ((a : Int) % ((2 ^ 32 : Nat) : Int)).toNat = a by omega, Nat.and_two_pow_sub_one_eq_mod]
  have hl : a % 2 ^ k < 2 ^ 32 := Nat.lt_of_le_of_lt (Nat.mod_le _ _) ha
  show IntKind.u32.wrap ((BitVec.ofInt 32 (a : Int) &&& BitVec.ofInt 32 m).toNat : Nat) = _
  rw [key, IntKind.wrap_u32]
  omega
theorem cstep_prog (x : Nat) (hx : x < 2 ^ 32) : bits .xor .u32 ((x : Int) / 2) (bits .and .u32 3988292384 (IntKind.u32.wrap (-(bits .and .u32 (x : Int) 1)))) = ((cstep x : Nat) : Int) := by
  rw [u32_mask 1 1 (by decide) (by decide) x hx]
  have e : (x : Int) / 2 = ((x / 2 : Nat) : Int) := by omega
  unfold cstep
  rw [e, Nat.shiftRight_eq_div_pow]
  rcases Nat.mod_two_eq_zero_or_one x with h | h
  · rw [if_neg (by omega), show x % 2 ^ 1 = 0 by omega, show bits .and .u32 3988292384 (IntKind.u32.wrap (-((0 : Nat) : Int))) = ((0 : Nat) : Int) by decide, u32_xor _ _ (by omega) (by decide)]
  · rw [if_pos h, show x % 2 ^ 1 = 1 by omega, show bits .and .u32 3988292384 (IntKind.u32.wrap (-((1 : Nat) : Int))) = ((3988292384 : Nat) : Int) by decide, u32_xor _ _ (by omega) (by decide)]
theorem cstep_prog' (x : Nat) (hx : x < 2 ^ 32) : bits .xor .u32 ((x : Int) / 2) (bits .and .u32 3988292384 (-(bits .and .u32 (x : Int) 1) % 4294967296)) = ((cstep x : Nat) : Int) := by
  rw [← cstep_prog x hx, IntKind.wrap_u32]
theorem cend_prog (x : Nat) (hx : x < 2 ^ 32) : wrap64 (bits .xor .u32 IntKind.u32.max (x : Int)) = ((x ^^^ 4294967295 : Nat) : Int) := by
  rw [show IntKind.u32.max = ((4294967295 : Nat) : Int) from rfl, u32_xor _ _ (by decide) hx, Nat.xor_comm]
  have := Nat.xor_lt_two_pow hx (show 4294967295 < 2 ^ 32 by decide)
  unfold wrap64
  omega
theorem cstep_ref_one (x : Nat) (hx : x < 2 ^ 32) (h : x % 2 = 1) : bits .xor .u32 ((x : Int) / 2) 3988292384 = ((cstep x : Nat) : Int) := by
  unfold cstep
  rw [Nat.shiftRight_eq_div_pow, if_pos h, show (x : Int) / 2 = ((x / 2 : Nat) : Int) by omega]
  exact u32_xor (x / 2) 3988292384 (by omega) (by decide)
theorem cstep_ref_zero (x : Nat) (h : x % 2 = 0) : (x : Int) / 2 = ((cstep x : Nat) : Int) := by
  unfold cstep
  rw [Nat.shiftRight_eq_div_pow, if_neg (by omega), Nat.xor_zero]; omega
theorem cnib_prog (x : Nat) (hx : x < 2 ^ 32) : bits .xor .u32 ((x : Int) / 16) ((csteps 4 (x % 16) : Nat) : Int) = ((csteps 4 x : Nat) : Int) := by
  rw [csteps_low 4 x, Nat.shiftRight_eq_div_pow, show (x : Int) / 16 = ((x / 2 ^ 4 : Nat) : Int) by omega]
  exact u32_xor _ _ (by omega) (csteps_lt 4 (by omega))
/-- The table of the program's sum. -/
def ctab : List Int := (List.range 16).map fun i => ((csteps 4 i : Nat) : Int)
def u32s (l : List Int) : List Value := l.map (Value.int .u32)
theorem ctab_get {i : Nat} (h : i < 16) : ctab.getD i 0 = ((csteps 4 i : Nat) : Int) := by
  simp [ctab, List.getD_eq_getElem?_getD, h]
/-- The table under way. -/
def ctabAt (i : Nat) : List Int := ctab.take i ++ List.replicate (16 - i) 0
theorem ctabAt_length {i : Nat} (h : i ≤ 16) : (ctabAt i).length = 16 := by simp [ctabAt, ctab]; omega
theorem ctabAt_set {i : Nat} (h : i < 16) : (u32s (ctabAt i)).set i (.int .u32 ((csteps 4 i : Nat) : Int)) = u32s (ctabAt (i + 1)) := by
  have : ∀ i, i < 16 → (ctabAt i).set i ((csteps 4 i : Nat) : Int) = ctabAt (i + 1) := by decide +kernel
  rw [← this i h]
  simp [u32s, List.map_set]
theorem info_half : (Try.prog.info? 81).map (·.size) = some 16 := by kernel_rfl
set_option maxRecDepth 100000 in
set_option maxHeartbeats 4000000 in
theorem crc_half (w : World) : Calls Try.prog 41 #[] w fun e w' => e = .returned (.agg (u32s ctab).toArray) ∧ Below w.heap.size w w' := by
  obtain ⟨T, hT⟩ : ∃ T, u32s ctab = T := ⟨_, rfl⟩
  have hTl : T.length = 16 := by rw [← hT]; decide
  have HON := Lib.hid (show T.toArray.all (·.oneCell') = true from all_oneCell_toArray (by rw [← hT]; intro v hv; obtain ⟨x, -, rfl⟩ := List.mem_map.1 hv; rfl))
  have HTE : Hid (u32s (ctabAt 16) = T) := by rw [← hT]; show _ = _; rw [show ctabAt 16 = ctab by decide +kernel]
  have HTL := Lib.hid hTl
  rw [hT]
  clear hT hTl
  go_enter Try.func41, Try.ntmps41
  go_wp2_with fail
  have HT0 : Hid (BC ((w.alloc (.cells (u32s (ctabAt 0)).toArray 81)).alloc (.cells (u32s (ctabAt 0)).toArray 81)) (w.heap.size + 1) 81 (u32s (ctabAt 0))) := BC.newAt (by simp)
  have HR0 : Hid (BC ((w.alloc (.cells (u32s (ctabAt 0)).toArray 81)).alloc (.cells (u32s (ctabAt 0)).toArray 81)) w.heap.size 81 (u32s (ctabAt 0))) := (BC.new w _ _).alloc _
  have HB0 := Lib.hid (below_alloc (below_alloc (Below.refl w.heap.size w) (.cells (u32s (ctabAt 0)).toArray 81)) (.cells (u32s (ctabAt 0)).toArray 81))
  change Code.wp _ _ _ _ ((w.alloc (.cells (u32s (ctabAt 0)).toArray 81)).alloc (.cells (u32s (ctabAt 0)).toArray 81))
  generalize (w.alloc _).alloc _ = W at HT0 HR0 HB0 ⊢
  go_loopw [4] (fun v wr => ∃ i : Nat, v = .int .i64 i ∧ i ≤ 16 ∧ Hid (BC wr (w.heap.size + 1) 81 (u32s (ctabAt i))) ∧ Hid (BC wr w.heap.size 81 (u32s (ctabAt 0))) ∧ Hid (Below w.heap.size w wr)) (fun v _ => (16 - intOf v).toNat)
  case atStart => exact ⟨0, rfl, by omega, HT0, HR0, HB0⟩
  case round =>
    obtain ⟨x0, rfl, hi, HT, HR, HB⟩ := hrel
    by_cases hlt : x0 < 16
    · have hx0 : x0 < 2 ^ 32 := by omega
      have d0 : decide ((x0 : Int) < 16) = true := by simp; omega
      obtain ⟨v, hv⟩ : ∃ v, (u32s (ctabAt x0))[x0]? = some v := ⟨_, List.getElem?_eq_getElem (by simp [u32s, ctabAt_length hi]; omega)⟩
      have ct := HT.out.at_ hv
      have ft := HT.out.frozen x0
      go_wp2_with fail
      refine wp_loop_rounds 5 ?_
      rw [rounds_succ]
      have e0 := cstep_prog' x0 hx0
      obtain ⟨x1, hc0⟩ : ∃ x, cstep x0 = x := ⟨_, rfl⟩
      have hx1 : x1 < 2 ^ 32 := by rw [← hc0]; exact cstep_lt hx0
      rw [hc0] at e0
      have HC0 := Lib.hid hc0
      clear hc0
      go_wp2_with fail
      clear e0
      rw [rounds_succ]
      have e1 := cstep_prog' x1 hx1
      obtain ⟨x2, hc1⟩ : ∃ x, cstep x1 = x := ⟨_, rfl⟩
      have hx2 : x2 < 2 ^ 32 := by rw [← hc1]; exact cstep_lt hx1
      rw [hc1] at e1
      have HC1 := Lib.hid hc1
      clear hc1
      go_wp2_with fail
      clear e1
      rw [rounds_succ]
      have e2 := cstep_prog' x2 hx2
      obtain ⟨x3, hc2⟩ : ∃ x, cstep x2 = x := ⟨_, rfl⟩
      have hx3 : x3 < 2 ^ 32 := by rw [← hc2]; exact cstep_lt hx2
      rw [hc2] at e2
      have HC2 := Lib.hid hc2
      clear hc2
      go_wp2_with fail
      clear e2
      rw [rounds_succ]
      have e3 := cstep_prog' x3 hx3
      obtain ⟨x4, hc3⟩ : ∃ x, cstep x3 = x := ⟨_, rfl⟩
      have hx4 : x4 < 2 ^ 32 := by rw [← hc3]; exact cstep_lt hx3
      rw [hc3] at e3
      have HC3 := Lib.hid hc3
      clear hc3
      go_wp2_with fail
      clear e3
      rw [rounds_succ]
      have HT4 : Hid (BC (wr.setCell ⟨w.heap.size + 1, x0, none⟩ (.int .u32 (x4 : Int))) (w.heap.size + 1) 81 (u32s (ctabAt (x0 + 1)))) := by
        have := HT.out.set x0 (.int .u32 (x4 : Int))
        rw [← ctabAt_set hlt, show csteps 4 x0 = x4 by rw [← HC3.out, ← HC2.out, ← HC1.out, ← HC0.out]; rfl]
        exact this
      have HR4 := Lib.hid (HR.out.far (p := ⟨w.heap.size + 1, x0, none⟩) (by simp) (.int .u32 (x4 : Int)))
      have HB4 := Lib.hid (below_set (p := ⟨w.heap.size + 1, x0, none⟩) (by simp) HB.out (.int .u32 (x4 : Int)))
      have bi : (x0 : Int) < 16 := by omega
      clear HT HR HB HC0 HC1 HC2 HC3 hv
      go_wp2_with fail
      go_roundw
      case rel => exact ⟨x0 + 1, by go_num, by omega, HT4, HR4, HB4⟩
      case measure => simp [intOf]; omega
    · obtain rfl : x0 = 16 := by omega
      have HT4 : Hid (BC wr (w.heap.size + 1) 81 T) := by rw [← HTE.out]; exact HT.out
      have HTH := Lib.hid (HR.out.there (n := T.toArray.size) (by simp [u32s, ctabAt_length, HTL.out]))
      have HI : Hid ((Try.prog.info? 81).map (·.size) = some T.length) := by rw [HTL.out]; exact info_half
      have HIA : Hid ((Try.prog.info? 81).map (·.size) = some T.toArray.size) := HI
      have HOV := Lib.hid (HR.out.over (R := T) (by simp [u32s, ctabAt_length, HTL.out]))
      clear HT hi
      go_wp2_with (first
        | (with_reducible refine wpList_load_mid rfl 81 (.tmp 1) rfl (w.heap.size + 1) 0 ?_ T _ HT4.out.range Try.underlying81 rfl HI.out ?_)
        | (with_reducible refine wpList_store_mid rfl 81 (.tmp 0) (.tmp 23) rfl w.heap.size 0 T.toArray ?_ ?_ HTH.out HIA.out HON.out ?_))
      all_goals first | (show _ = Value.pointer _; rfl) | (show _ = Value.agg _; rfl) | skip
      refine bodyPost_ret (bc_results1 (P := Try.prog) Try.results41 _ _ w.heap.size T _ ?_ HOV.out.range Try.underlying81 rfl HI.out) ?_ ⟨rfl, bc_below_setCells (Nat.le_refl _) _ _ _ HB.out⟩
      all_goals first | rfl | go_simp
theorem ctab_lit : (u32s ctab).toArray = #[.int .u32 0, .int .u32 498536548, .int .u32 997073096, .int .u32 651767980, .int .u32 1994146192, .int .u32 1802195444, .int .u32 1303535960, .int .u32 1342533948, .int .u32 3988292384, .int .u32 4027552580, .int .u32 3604390888, .int .u32 3412177804, .int .u32 2607071920, .int .u32 2262029012, .int .u32 2685067896, .int .u32 3183342108] := by
  have : ctab = [0, 498536548, 997073096, 651767980, 1994146192, 1802195444, 1303535960, 1342533948, 3988292384, 4027552580, 3604390888, 3412177804, 2607071920, 2262029012, 2685067896, 3183342108] := by decide +kernel
  rw [this]; rfl
/-- A text's bytes as whole numbers. -/
def nats (s : ByteArray) : List Nat := s.data.toList.map UInt8.toNat
theorem nats_length (s : ByteArray) : (nats s).length = s.size := by simp [nats]
theorem nats_lt (s : ByteArray) : ∀ b ∈ nats s, b < 256 := by intro b hb; obtain ⟨c, -, rfl⟩ := List.mem_map.1 hb; exact c.toNat_lt
theorem nats_take (s : ByteArray) (i : Nat) (h : i < s.size) : (nats s).take (i + 1) = (nats s).take i ++ [(s[i]'h).toNat] := by
  rw [List.take_succ_eq_append_getElem (by rw [nats_length]; exact h)]
  simp [nats]
  rfl
set_option maxHeartbeats 1000000 in
theorem crc_sum (s : ByteArray) (w : World) (hs : s.size ≤ 9223372036854775806) : Calls Try.prog 24 #[.string s] w fun e w' => e = .returned (.int .i64 ((crcOf (nats s) : Nat) : Int)) ∧ Below w.heap.size w w' := by
  go_enter Try.func24, Try.ntmps24
  go_wp2_with fail
  refine (crc_half _).mono ?_
  rw [ctab_lit]
  rintro e w1 ⟨rfl, hb⟩
  have HB1 := Lib.hid (below_alloc hb (.cells (u32s ctab).toArray 81))
  have HC := Lib.hid (BC.new w1 (u32s ctab) 81)
  rw [ctab_lit] at HB1
  have HC2 : Hid (BC (w1.alloc (.cells #[.int .u32 0, .int .u32 498536548, .int .u32 997073096, .int .u32 651767980, .int .u32 1994146192, .int .u32 1802195444, .int .u32 1303535960, .int .u32 1342533948, .int .u32 3988292384, .int .u32 4027552580, .int .u32 3604390888, .int .u32 3412177804, .int .u32 2607071920, .int .u32 2262029012, .int .u32 2685067896, .int .u32 3183342108] 81)) w1.heap.size 81 (u32s ctab)) := by rw [← ctab_lit]; exact HC.out
  clear hb HC
  go_wp2_with fail
  generalize w1.alloc _ = W at HB1 HC2 ⊢
  go_loop [4, 9] (fun v i => ∃ n : Nat, i = .int .i64 n ∧ n ≤ s.size ∧ ∃ x : Nat, v = .int .u32 (x : Int) ∧ x < 4294967296 ∧ Hid (x = crcGo 4294967295 ((nats s).take n))) (fun _ i => s.size - (intOf i).toNat)
  case atStart => exact ⟨0, rfl, by omega, 4294967295, rfl, by omega, rfl⟩
  case round =>
    obtain ⟨n, rfl, hn, x, rfl, hx, HX⟩ := hrel
    by_cases hlt : n < s.size
    · have hb := s[n].toNat_lt
      have e0 : ((s[n].toNat : Int) % 4294967296) = (s[n].toNat : Int) := by omega
      have e1 := u32_xor x s[n].toNat hx (by omega)
      have hy : x ^^^ s[n].toNat < 2 ^ 32 := Nat.xor_lt_two_pow hx (by omega)
      have HS : Hid (csteps 4 (csteps 4 (x ^^^ s[n].toNat)) = crcGo 4294967295 ((nats s).take (n + 1))) := by
        rw [nats_take s n hlt, crcGo_append, ← HX.out]
        show _ = csteps 8 _
        rw [← csteps_add]
      obtain ⟨y, hyy⟩ : ∃ y, x ^^^ s[n].toNat = y := ⟨_, rfl⟩
      rw [hyy] at e1 hy HS
      have hz := csteps_lt 4 hy
      have e2 := u32_mask 4 15 (by decide) (by decide) y hy
      have e3 := cnib_prog y hy
      obtain ⟨z, hzz⟩ : ∃ z, csteps 4 y = z := ⟨_, rfl⟩
      rw [hzz] at hz e3 HS
      have e4 := u32_mask 4 15 (by decide) (by decide) z hz
      have e5 := cnib_prog z hz
      have hv := csteps_lt 4 hz
      obtain ⟨v, hvv⟩ : ∃ v, csteps 4 z = v := ⟨_, rfl⟩
      rw [hvv] at hv e5 HS
      have cc : ∀ j, j < 16 → W.cell? ⟨w1.heap.size, j, none⟩ = some (.int .u32 ((csteps 4 j : Nat) : Int)) := fun j hj => HC2.out.at_ (by rw [u32s, List.getElem?_map]; simp [ctab, hj])
      have c1 := cc (y % 16) (by omega)
      have c2 := cc (z % 16) (by omega)
      have i1 : ((y % 16 : Nat) : Int) < 16 := by omega
      have i2 : ((z % 16 : Nat) : Int) < 16 := by omega
      have i3 : (0 : Int) ≤ ((y % 16 : Nat) : Int) := by omega
      have i4 : (0 : Int) ≤ ((z % 16 : Nat) : Int) := by omega
      rw [show y % 2 ^ 4 = y % 16 from rfl] at e2
      rw [show z % 2 ^ 4 = z % 16 from rfl] at e4
      obtain ⟨p, hp⟩ : ∃ p, y % 16 = p := ⟨_, rfl⟩
      obtain ⟨q, hq⟩ : ∃ p, z % 16 = p := ⟨_, rfl⟩
      rw [hp] at e2 e3 c1 i1 i3
      rw [hq] at e4 e5 c2 i2 i4
      clear hp hq hyy hzz hvv hb cc HX hy hz
      go_wp2
      go_round
      case rel => exact ⟨n + 1, by go_num, by omega, v, rfl, by omega, HS⟩
      case measure => simp [intOf]; omega
    · obtain rfl : n = s.size := by omega
      have HE : Hid (((crcOf (nats s) : Nat) : Int) = ((x ^^^ 4294967295 : Nat) : Int)) := by
        show _ = _
        have := HX.out
        rw [List.take_of_length_le (by rw [nats_length]; omega)] at this
        rw [crcOf, ← this]
      clear HX
      go_wp2
      go_ret
      exact ⟨ret_int (by rw [HE.out]; exact cend_prog x hx), HB1.out⟩
theorem csteps_succ (n x : Nat) : csteps (n + 1) x = cstep (csteps n x) := csteps_add 1 n x
set_option maxHeartbeats 1000000 in
theorem rcrc (s : ByteArray) (w : World) (hs : s.size ≤ 9223372036854775806) : Calls Try.prog 18 #[.string s] w fun e w' => e = .returned (.int .i64 ((crcOf (nats s) : Nat) : Int)) ∧ w = w' := by
  go_enter Try.func18, Try.ntmps18
  go_wp2
  go_loop [3, 4] (fun v i => ∃ n : Nat, i = .int .i64 n ∧ n ≤ s.size ∧ ∃ x : Nat, v = .int .u32 (x : Int) ∧ x < 4294967296 ∧ Hid (x = crcGo 4294967295 ((nats s).take n))) (fun _ i => s.size - (intOf i).toNat)
  case atStart => exact ⟨0, rfl, by omega, 4294967295, rfl, by omega, rfl⟩
  case round =>
    obtain ⟨n, rfl, hn, x, rfl, hx, HX⟩ := hrel
    by_cases hlt : n < s.size
    · have hb := s[n].toNat_lt
      have e0 : ((s[n].toNat : Int) % 4294967296) = (s[n].toNat : Int) := by omega
      have e1 := u32_xor x s[n].toNat hx (by omega)
      have hy : x ^^^ s[n].toNat < 2 ^ 32 := Nat.xor_lt_two_pow hx (by omega)
      have HS : Hid (csteps 8 (x ^^^ s[n].toNat) = crcGo 4294967295 ((nats s).take (n + 1))) := by
        show _ = _
        rw [nats_take s n hlt, crcGo_append, ← HX.out]
        rfl
      obtain ⟨y, hyy⟩ : ∃ y, x ^^^ s[n].toNat = y := ⟨_, rfl⟩
      rw [hyy] at e1 hy HS
      have d0 : decide ((n : Int) < (s.size : Int)) = true := by simp; omega
      have HY := Lib.hid hy
      clear hyy HX hb hy
      go_wp2_with fail
      clear e0 e1
      go_loop [3, 5] (fun v j => ∃ m : Nat, j = .int .i64 m ∧ m ≤ 8 ∧ ∃ z : Nat, v = .int .u32 (z : Int) ∧ z < 4294967296 ∧ Hid (z = csteps m y)) (fun _ j => 8 - (intOf j).toNat)
      case atStart => exact ⟨0, rfl, by omega, y, rfl, by have := HY.out; omega, rfl⟩
      case round =>
        obtain ⟨m, rfl, hm, z, rfl, hz, HZ⟩ := hrel
        by_cases hlt2 : m < 8
        · have hc := cstep_lt hz
          have HC : Hid (cstep z = csteps (m + 1) y) := by show _ = _; rw [csteps_succ, ← HZ.out]
          have e2 := u32_mask 1 1 (by decide) (by decide) z hz
          rcases Nat.mod_two_eq_zero_or_one z with h | h
          · have e3 := cstep_ref_zero z h
            rw [show z % 2 ^ 1 = 0 by omega] at e2
            obtain ⟨v, hv⟩ : ∃ v, cstep z = v := ⟨_, rfl⟩
            rw [hv] at hc HC e3
            clear hv h HZ
            go_wp2
            go_round
            case rel => exact ⟨m + 1, by go_num, by omega, v, rfl, by omega, HC⟩
            case measure => simp [intOf]; omega
          · have e3 := cstep_ref_one z hz h
            rw [show z % 2 ^ 1 = 1 by omega] at e2
            obtain ⟨v, hv⟩ : ∃ v, cstep z = v := ⟨_, rfl⟩
            rw [hv] at hc HC e3
            clear hv h HZ
            go_wp2
            go_round
            case rel => exact ⟨m + 1, by go_num, by omega, v, rfl, by omega, HC⟩
            case measure => simp [intOf]; omega
        · obtain rfl : m = 8 := by omega
          have HZ2 : Hid (z = crcGo 4294967295 ((nats s).take (n + 1))) := by show _ = _; rw [← HS.out]; exact HZ.out
          go_wp2
          go_round
          case rel => exact ⟨n + 1, by go_num, by omega, z, rfl, hz, HZ2⟩
          case measure => simp [intOf]; omega
    · obtain rfl : n = s.size := by omega
      have HE : Hid (((crcOf (nats s) : Nat) : Int) = ((x ^^^ 4294967295 : Nat) : Int)) := by
        show _ = _
        have := HX.out
        rw [List.take_of_length_le (by rw [nats_length]; omega)] at this
        rw [crcOf, ← this]
      clear HX
      go_wp2
      go_ret
      exact ⟨ret_int (by rw [HE.out]; exact cend_prog x hx), rfl⟩
end Go.Proofs.Ytokegkpbbhegpaa
