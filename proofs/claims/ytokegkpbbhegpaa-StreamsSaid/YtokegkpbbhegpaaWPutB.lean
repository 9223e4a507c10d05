/- stream.Put: what it gives. -/
import Derived.Test.YtokegkpbbhegpaaWPutA
namespace Go.Proofs.Ytokegkpbbhegpaa
open Go.RowKit Go.Proofs.YtokegkpbbhegpaaW.PrintWords Go.Proofs.Ytokegkpbbhegpaa.PL Go.Proofs.Ytokegkpbbhegpaa.L
set_option linter.unusedVariables false
set_option linter.unusedSimpArgs false

theorem texts_at {w : World} {A : Option Addr} {l : List ByteArray} (h : Kd.C Kd.string w A l.length l) (hn : 0 < l.length) :
    ∃ bk o, A = some ⟨bk, o, none⟩ ∧ bk < w.heap.size ∧ ∀ (j : Nat) x, l[j]? = some x → w.cell? ⟨bk, o + j, none⟩ = some (.string x) := by
  have key : ∀ j : Nat, j < l.length → ∃ ad, A = some ad ∧ w.cell? (ad.add j) = some (.string (rdOf ByteArray.empty l j)) := fun j hj => by
    obtain ⟨ad, e, hx⟩ := Kd.at_string h (j : Int) (by omega) (by omega)
    exact ⟨ad, e, by rwa [Int.toNat_natCast] at hx⟩
  obtain ⟨ad, rfl, h0⟩ := key 0 hn
  obtain ⟨bk, o, sp⟩ := ad
  have hsp : sp = none := by
    cases sp with
    | none => rfl
    | some s =>
      exfalso
      rw [show (Addr.add ⟨bk, o, some s⟩ 0) = ⟨bk, o, some s⟩ from rfl] at h0
      unfold World.cell? at h0
      split at h0
      · simp at h0
      · cases h0
  subst hsp
  refine ⟨bk, o, rfl, World.block_lt_of_cell? w ⟨bk, o, none⟩ h0, fun j x hx => ?_⟩
  have hj : j < l.length := (List.getElem?_eq_some_iff.1 hx).1
  obtain ⟨ad, e, hc⟩ := key j hj
  cases e
  rw [rdOf_some hj] at hx
  cases hx
  rw [show (⟨bk, o + j, none⟩ : Addr) = Addr.add ⟨bk, o, none⟩ j from by unfold Addr.add; split <;> simp_all]
  exact hc
def lowB (n : Int) : UInt8 := UInt8.ofNat (n % 256).toNat
/-- A number of at most 14 bits, as varint gives it. -/
def viB (n : Int) : List UInt8 := if n < 128 then [lowB n] else [lowB (n % 128 + 128), lowB (n / 128)]
theorem number_eq {n : Int} (h0 : 0 ≤ n) (h1 : n ≤ 4096) : stream_number.f 9 n = some ⟨(viB n).toArray⟩ := by
  unfold stream_number.f varint_Put.f
  rw [if_neg (by omega), decide_eq_false (by omega)]
  simp only [varint_Put.j0, varint_Put.l0, viB]
  by_cases c : n < 128
  · rw [if_neg (by decide), if_neg (by omega), if_pos (by simp), if_pos c]
    simp [strOfNums, lowB]
  · have h2 : n.tdiv 128 = n / 128 := Int.tdiv_eq_ediv_of_nonneg h0
    have h3 : n.tmod 128 = n % 128 := Int.tmod_eq_emod_of_nonneg h0
    rw [if_neg (by decide), if_pos (by omega), if_pos (by simp), h2, h3, IntWalk.wrap64_in (n / 128) (by omega), IntWalk.wrap64_in (n % 128 + 128) (by omega), if_neg (by omega), if_pos (by simp), if_neg c]
    simp [strOfNums, lowB]
theorem wr (n : Int) (h0 : 0 ≤ n) (h1 : n ≤ 1000) : wrap64 n = n := IntWalk.wrap64_in _ (by omega)
theorem wr0 : wrap64 0 = 0 := wr _ (by omega) (by omega)
theorem wr1 : wrap64 1 = 1 := wr _ (by omega) (by omega)
theorem wr2 : wrap64 2 = 2 := wr _ (by omega) (by omega)
theorem wr3 : wrap64 3 = 3 := wr _ (by omega) (by omega)
theorem wr4 : wrap64 4 = 4 := wr _ (by omega) (by omega)
theorem wr8 : wrap64 8 = 8 := wr _ (by omega) (by omega)
theorem wr16 : wrap64 16 = 16 := wr _ (by omega) (by omega)
theorem wr24 : wrap64 24 = 24 := wr _ (by omega) (by omega)
theorem shr0 (n : Int) : shr .i64 n 0 = n := by show n / 2 ^ min (0 : Int).toNat 64 = n; simp
theorem shr8 (n : Int) : shr .i64 n 8 = n / 256 := rfl
theorem shr16 (n : Int) : shr .i64 n 16 = n / 65536 := rfl
theorem shr24 (n : Int) : shr .i64 n 24 = n / 16777216 := rfl
theorem shr32 (n : Int) : shr .i64 n 32 = n / 4294967296 := rfl
def le2 (n : Int) : List UInt8 := [lowB n, lowB (n / 256)]
theorem field2_eq {n : Int} (h0 : 0 ≤ n) (h1 : n ≤ 65535) : field_Put.f 9 n 2 = some (⟨(le2 n).toArray⟩, 0) := by
  unfold field_Put.f
  have w4 : wrap64 (8 * 2) = 16 := wr _ (by omega) (by omega)
  have e : shr .i64 n 16 = 0 := by rw [shr16]; omega
  rw [if_neg (by omega), if_neg (by omega), if_neg (by omega), w4, if_pos (by decide), e]
  simp [field_Put.j0, field_Put.l0, strOfNums, le2, lowB, shr0, shr8, wr0, wr1, wr2, wr8, List.replicate]
def le4 (n : Int) : List UInt8 := [lowB n, lowB (n / 256), lowB (n / 65536), lowB (n / 16777216)]
theorem field4_eq {n : Int} (h0 : 0 ≤ n) (h1 : n ≤ 4294967295) : field_Put.f 9 n 4 = some (⟨(le4 n).toArray⟩, 0) := by
  unfold field_Put.f
  have w4 : wrap64 (8 * 4) = 32 := wr _ (by omega) (by omega)
  have e : shr .i64 n 32 = 0 := by rw [shr32]; omega
  rw [if_neg (by omega), if_neg (by omega), if_neg (by omega), w4, if_pos (by decide), e]
  simp [field_Put.j0, field_Put.l0, strOfNums, le4, lowB, shr0, shr8, shr16, shr24, wr0, wr1, wr2, wr3, wr4, wr8, wr16, wr24, List.replicate]
def headB (c b s f : Int) (h t : ByteArray) (l : List ByteArray) : List UInt8 :=
  [68, 83, 67, 84, lowB c, lowB b, lowB s] ++ viB f ++ viB h.size ++ viB t.size ++ h.data.toList ++ t.data.toList ++ l.flatMap (fun x => le2 x.size)
def sumB (bs : List UInt8) : List UInt8 := le4 (crcOf (bs.map UInt8.toNat))
def putB (c b s f : Int) (h t : ByteArray) (l : List ByteArray) : List UInt8 :=
  headB c b s f h t l ++ sumB (headB c b s f h t l) ++ l.flatMap (fun x => x.data.toList)
theorem pre_bytes (c b s : Int) : ((⟨#[68, 83, 67, 84]⟩ : ByteArray) ++ strOfNums [c % 256, b % 256, s % 256]).data.toList = [68, 83, 67, 84, lowB c, lowB b, lowB s] := by
  simp [strOfNums, lowB]
theorem pre_size (c b s : Int) : ([] : List UInt8).length + ((⟨#[68, 83, 67, 84]⟩ : ByteArray) ++ strOfNums [c % 256, b % 256, s % 256]).size ≤ 140737488355328 := by
  rw [← ByteArray.size_data, ← Array.length_toList, pre_bytes]; simp
theorem may_facts {c b s f : Int} {h t : ByteArray} {l : List ByteArray} (hm : mayOk c b s f h t l = true) : 0 ≤ f ∧ f ≤ 4096 ∧ h.size ≤ 4096 ∧ t.size ≤ 4096 ∧ l.length ≤ 4096 ∧ ∀ x ∈ l, 9 ≤ x.size ∧ x.size ≤ 65535 := by
  simp only [mayOk, headOk, sizeOk, Bool.and_eq_true, decide_eq_true_eq, List.all_eq_true] at hm
  obtain ⟨⟨_, _, a1, a2, a3, a4, a5, a6⟩, a7, a8⟩ := hm
  have h5 : 0 ≤ f + s - 1 := by omega
  have h6 : (f + s - 1) / s ≤ f := by
    rw [show f + s - 1 = (f - 1) + 1 * s by omega, Int.add_mul_ediv_right _ _ (by omega)]
    rcases Int.lt_or_le 0 f with hf | hf
    · have := Int.ediv_le_self s (show 0 ≤ f - 1 by omega)
      have h1 : (f - 1) / s ≤ f - 1 := this
      omega
    · have : f = 0 := by omega
      subst this
      have : (0 - 1 : Int) / s = -1 := by
        rw [show (0 - 1 : Int) = -1 from rfl]
        exact Int.ediv_eq_neg_one_of_neg_of_le (by omega) (by omega)
      omega
  unfold many at a7
  refine ⟨a3, a4, a5, a6, by omega, fun x hx => ?_⟩
  have := a8 x hx
  omega
theorem number_has {n : Int} (h0 : 0 ≤ n) (h1 : n ≤ 4096) : ∃ x : ByteArray, stream_number.f 9 n = some x ∧ x.data.toList = viB n ∧ x.size ≤ 2 := by
  refine ⟨_, number_eq h0 h1, by simp, ?_⟩
  rw [← ByteArray.size_data, ← Array.length_toList]
  simp only [List.toList_toArray, viB]
  split <;> simp
def preB (c b s f : Int) (h t : ByteArray) : List UInt8 := [68, 83, 67, 84, lowB c, lowB b, lowB s] ++ viB f ++ viB h.size ++ viB t.size ++ h.data.toList ++ t.data.toList
theorem flat_length : ∀ (l : List ByteArray), (∀ x ∈ l, x.size ≤ 65535) → (l.flatMap (fun x => x.data.toList)).length ≤ 65535 * l.length
  | [], _ => Nat.le_refl _
  | x :: r, h => by
    rw [List.flatMap_cons, List.length_append, List.length_cons, Array.length_toList, ByteArray.size_data]
    have h1 := h x (List.mem_cons_self ..)
    have h2 := flat_length r (fun y hy => h y (List.mem_cons_of_mem _ hy))
    omega
theorem flat2_length : ∀ (l : List ByteArray), (l.flatMap (fun x => le2 x.size)).length = 2 * l.length
  | [] => rfl
  | x :: r => by
    rw [List.flatMap_cons, List.length_append, List.length_cons, flat2_length r]
    simp [le2]; omega
theorem viB_length (n : Int) : (viB n).length ≤ 2 := by unfold viB; split <;> simp
theorem loop_size (c b s f : Int) (h t : ByteArray) (l : List ByteArray) (i : Nat) (q5 : h.size ≤ 4096) (q6 : t.size ≤ 4096) (q7 : l.length ≤ 4096) (n : Int) : (preB c b s f h t ++ (l.take i).flatMap (fun x => le2 x.size)).length + (⟨(le2 n).toArray⟩ : ByteArray).size ≤ 140737488355328 := by
  have h1 := flat2_length (l.take i)
  have h2 := viB_length f
  have h3 := viB_length h.size
  have h4 := viB_length t.size
  have h5 : (l.take i).length ≤ l.length := by rw [List.length_take]; omega
  have h7 : (⟨(le2 n).toArray⟩ : ByteArray).size = 2 := rfl
  rw [h7]
  simp only [preB, List.length_append, List.length_cons, List.length_nil, h1, Array.length_toList, ByteArray.size_data]
  omega
theorem headB_length (c b s f : Int) (h t : ByteArray) (l : List ByteArray) (q5 : h.size ≤ 4096) (q6 : t.size ≤ 4096) (q7 : l.length ≤ 4096) : (headB c b s f h t l).length ≤ 20000 := by
  have h1 := flat2_length l
  have h2 := viB_length f
  have h3 := viB_length h.size
  have h4 := viB_length t.size
  simp only [headB, List.length_append, List.length_cons, List.length_nil, h1, Array.length_toList, ByteArray.size_data]
  omega
theorem field4_has {n : Int} (h0 : 0 ≤ n) (h1 : n ≤ 4294967295) : ∃ x : ByteArray, field_Put.f 9 n 4 = some (x, 0) ∧ x.data.toList = le4 n ∧ x.size = 4 :=
  ⟨_, field4_eq h0 h1, by simp, by rw [← ByteArray.size_data, ← Array.length_toList]; simp [le4]⟩
theorem sum_has (bs : List UInt8) (hl : bs.length ≤ 20000) : ∃ (v : Int) (x : ByteArray), crc_Sum.f ⟨bs.toArray⟩ = some v ∧ field_Put.f 9 v 4 = some (x, 0) ∧ x.data.toList = sumB bs ∧ x.size ≤ 4 := by
  have hlt := crcOf_lt (bs.map UInt8.toNat) (fun b hb => by obtain ⟨u, -, rfl⟩ := List.mem_map.1 hb; exact u.toNat_lt)
  obtain ⟨x, h1, h2, h3⟩ := field4_has (n := ((crcOf (bs.map UInt8.toNat) : Nat) : Int)) (by omega) (by omega)
  refine ⟨_, x, ?_, h1, h2, Nat.le_of_eq h3⟩
  unfold crc_Sum.f
  rw [if_pos (by rw [← ByteArray.size_data, ← Array.length_toList]; simp only [List.toList_toArray]; omega)]
  simp [nats]
theorem join_flat (xs : List (List UInt8)) : Lib.join xs [] = xs.flatten := by
  unfold Lib.join List.intercalate
  induction xs with
  | nil => rfl
  | cons x r ih =>
    cases r with
    | nil => simp
    | cons y r => rw [List.intersperse_cons_cons, List.flatten_cons, List.flatten_cons, ih]; simp
theorem join_any (A : Option Addr) (c : Nat) (l : List ByteArray) (w : World) (hr : Kd.C Kd.string w A l.length l) (hc : l.length ≤ c) (hl : l.length ≤ 4096) (hz : ∀ x ∈ l, x.size ≤ 65535) :
    Calls Try.prog 26 #[.slice A l.length c, .string ⟨#[]⟩] w fun e w' => ∃ J : ByteArray, e = .returned (.string J) ∧ J.data.toList = l.flatMap (fun x => x.data.toList) ∧ J.size ≤ 268431360 ∧ Below w.heap.size w w' := by
  have hfl := flat_length l hz
  rcases Nat.eq_zero_or_pos l.length with h0 | h0
  · rw [h0]
    refine (Try.strings_Join_none A c ⟨#[]⟩ w).mono ?_
    rintro e w' ⟨rfl, rfl⟩
    rw [List.length_eq_zero_iff] at h0
    subst h0
    exact ⟨_, rfl, rfl, Nat.zero_le _, Below.refl _ _⟩
  · obtain ⟨bk, o, rfl, hbk, hcells⟩ := texts_at hr h0
    have he : Lib.join (l.map (·.data.toList)) (⟨#[]⟩ : ByteArray).data.toList = l.flatMap (fun x => x.data.toList) := by
      rw [show (⟨#[]⟩ : ByteArray).data.toList = [] from rfl, join_flat, List.flatMap_def]
    refine (Try.strings_Join bk o c l ⟨#[]⟩ w hcells hbk (by omega) hc (by rw [he]; omega)).mono ?_
    rintro e w' ⟨rfl, hb⟩
    refine ⟨_, rfl, by rw [he], ?_, hb⟩
    rw [he, ← ByteArray.size_data, ← Array.length_toList]
    simp only [List.toList_toArray]
    omega
set_option maxHeartbeats 4000000 in
set_option maxRecDepth 100000 in
theorem put_no (c b s f : Int) (h t : ByteArray) (l : List ByteArray) (A : Option Addr) (m : Nat) (w : World) (hr : Kd.C Kd.string w A l.length l) (hn : l.length < 281474976710656) (hm : mayOk c b s f h t l = false) :
    Calls Try.prog 9 #[.agg #[.int .i64 c, .int .i64 b, .int .i64 s, .int .i64 f, .string h, .string t, .slice A l.length m]] w fun e w' => e = .returned (.tuple #[.string ⟨#[]⟩, .int .i64 2300]) ∧ Below w.heap.size w w' := by
  go_enter Try.func9, Try.ntmps9
  have hI : SB (w.alloc (.cells #[.int .i64 c, .int .i64 b, .int .i64 s, .int .i64 f, .string h, .string t, .slice A l.length m] 26)) w.heap.size c b s f h t A l.length m := BC.new w _ _
  go_wp2_with (first | (go_at_call 20; refine (may_any _ c b s f h t l A m _ hI (Kd.C_alloc hr _) hn).mono ?_; rw [hm]; rintro e w1 ⟨rfl, hb⟩; have hb1 := below_next (L.below_alloc (Below.refl w.heap.size w) _) hb; clear hb))
  go_ret2
  exact ⟨rfl, hb1⟩
set_option maxHeartbeats 4000000 in
set_option maxRecDepth 100000 in
theorem put_yes (c b s f : Int) (h t : ByteArray) (l : List ByteArray) (A : Option Addr) (m : Nat) (w : World) (hr : Kd.C Kd.string w A l.length l) (hc : l.length ≤ m) (hn : l.length < 281474976710656) (hm : mayOk c b s f h t l = true) :
    Calls Try.prog 9 #[.agg #[.int .i64 c, .int .i64 b, .int .i64 s, .int .i64 f, .string h, .string t, .slice A l.length m]] w fun e w' => e = .returned (.tuple #[.string ⟨(putB c b s f h t l).toArray⟩, .int .i64 0]) ∧ Below w.heap.size w w' := by
  go_enter Try.func9, Try.ntmps9
  have hI : SB (w.alloc (.cells #[.int .i64 c, .int .i64 b, .int .i64 s, .int .i64 f, .string h, .string t, .slice A l.length m] 26)) w.heap.size c b s f h t A l.length m := BC.new w _ _
  go_wp2_with (first | (go_at_call 20; refine (may_any _ c b s f h t l A m _ hI (Kd.C_alloc hr _) hn).mono ?_; rw [hm]; rintro e w1 ⟨rfl, hb⟩; have hb1 := below_next (L.below_alloc (Below.refl w.heap.size w) _) hb; have hI1 := BC.below hI hb; have hg1 := hI1.lt; have k0 := BC.at_ hI1 (o := 0) rfl; have k1 := BC.at_ hI1 (o := 1) rfl; have k2 := BC.at_ hI1 (o := 2) rfl; clear hb))
  have hcv : (convert 44 9 (.slice (some ⟨w1.heap.size + 1, 0, none⟩) 3 3)).run Try.prog ((w1.alloc (.cells #[.pointer none, .slice none 0 0] 55)).alloc (.cells #[.int .u8 (c % 256), .int .u8 (b % 256), .int .u8 (s % 256)] 5)) = .ok (.string (strOfNums [c % 256, b % 256, s % 256])) _ :=
    own_string (base := 0) (e' := 5) Try.underlying44 Try.underlying5 Try.underlying9 ⟨rfl, .inr ⟨_, 3, _, rfl, Nat.zero_le _, (by simpa using heap_alloc_new (w1.alloc (.cells #[.pointer none, .slice none 0 0] 55)) _), Nat.le_refl _, by decide, rfl, rfl⟩⟩
  rw [hcv]
  simp only [Result.andThen]
  rw [Oper.upon_value]
  clear hcv
  have hB1 := BB.below (BB.fresh w1) (L.below_alloc (Below.refl _ _) (.cells #[.int .u8 (c % 256), .int .u8 (b % 256), .int .u8 (s % 256)] 5))
  have hb2 := L.below_alloc (L.below_alloc hb1 (.cells #[.pointer none, .slice none 0 0] 55)) (.cells #[.int .u8 (c % 256), .int .u8 (b % 256), .int .u8 (s % 256)] 5)
  have hI2 := BC.alloc (BC.alloc hI1 (.cells #[.pointer none, .slice none 0 0] 55)) (.cells #[.int .u8 (c % 256), .int .u8 (b % 256), .int .u8 (s % 256)] 5)
  have hs2 := (L.below_alloc (L.below_alloc (Below.refl w1.heap.size w1) (.cells #[.pointer none, .slice none 0 0] 55)) (.cells #[.int .u8 (c % 256), .int .u8 (b % 256), .int .u8 (s % 256)] 5)).size
  generalize hG : w1.heap.size = G at *
  generalize ((w1.alloc (.cells #[.pointer none, .slice none 0 0] 55)).alloc (.cells #[.int .u8 (c % 256), .int .u8 (b % 256), .int .u8 (s % 256)] 5)) = w2 at *
  have hgG : w.heap.size < G := hg1
  clear hI hI1 hb1 k0 k1 k2 hg1 hG
  go_wp2_with (first | (go_at_call 21; refine (bld_write G G [] _ _ hB1 (pre_size c b s) hs2).mono ?_; rintro e w3 ⟨rfl, hB3, hb3, hs3⟩))
  rw [pre_bytes, List.nil_append] at hB3
  have hb3' := hb2.trans (below_less hb3 (Nat.le_of_lt hgG))
  have hI3 := BC.blw hI2 hb3 hgG
  replace hs3 := Nat.le_trans hs2 hs3
  clear hB1 hb2 hI2 hb3 hs2
  have k3 := BC.at_ hI3 (o := 3) rfl
  have k4 := BC.at_ hI3 (o := 4) rfl
  have k5 := BC.at_ hI3 (o := 5) rfl
  obtain ⟨q3, q4, q5, q6, q7, q8⟩ := may_facts hm
  obtain ⟨F, eF, vF, sF⟩ := number_has q3 q4
  obtain ⟨M, eM, vM, sM⟩ := number_has (n := (h.size : Int)) (by omega) (by omega)
  obtain ⟨T, eT, vT, sT⟩ := number_has (n := (t.size : Int)) (by omega) (by omega)
  have z1 : (9223372036854775807 < F.size + M.size) = False := eq_false (by omega)
  have z2 : (9223372036854775807 < F.size + M.size + T.size) = False := eq_false (by omega)
  have z3 : (9223372036854775807 < F.size + M.size + T.size + h.size) = False := eq_false (by omega)
  have z4 : (9223372036854775807 < F.size + M.size + T.size + h.size + t.size) = False := eq_false (by omega)
  have z5 : ([68, 83, 67, 84, lowB c, lowB b, lowB s] : List UInt8).length + (F ++ M ++ T ++ h ++ t).size ≤ 140737488355328 := by
    simp only [ByteArray.size_append, List.length_cons, List.length_nil]; omega
  have hbA := Below.refl w3.heap.size w3
  go_region_held3 (fun w' => w'.cell? ⟨w.heap.size, 3, none⟩ = some (.int .i64 f) ∧ w'.cell? ⟨w.heap.size, 4, none⟩ = some (.string h) ∧ w'.cell? ⟨w.heap.size, 5, none⟩ = some (.string t))
    (first | exact ⟨cell_below hbA k3, cell_below hbA k4, cell_below hbA k5⟩ | exact ⟨k3, k4, k5⟩ | exact ⟨k3', k4', k5'⟩)
    (first | (go_at_call 22; (with_reducible refine (stream_number.calls 9 f F _ eF).mono ?_); rintro e wn ⟨rfl, hbm⟩; have hbA := below_next (L.below_drew hbA) hbm) | (go_at_call 22; (with_reducible refine (stream_number.calls 9 (h.size : Int) M _ eM).mono ?_); rintro e wn ⟨rfl, hbm⟩; have hbA := below_next hbA hbm) | (go_at_call 22; (with_reducible refine (stream_number.calls 9 (t.size : Int) T _ eT).mono ?_); rintro e wn ⟨rfl, hbm⟩; have hbA := below_next hbA hbm) | (go_at_call 21; refine (bld_write G G _ _ _ (BB.below hB3 hbA) z5 (Nat.le_trans hs3 hbA.size)).mono ?_; rintro e w5 ⟨rfl, hB5, hb5, hs5⟩; have hb5' := (below_then hb3' (Nat.le_trans (Nat.le_of_lt hgG) hs3) hbA).trans (below_less hb5 (Nat.le_of_lt hgG)); have hI5 := BC.blw (BC.below hI3 hbA) hb5 hgG; have k3' := BC.at_ hI5 (o := 3) rfl; have k4' := BC.at_ hI5 (o := 4) rfl; have k5' := BC.at_ hI5 (o := 5) rfl))
  all_goals
    have hv5 : [68, 83, 67, 84, lowB c, lowB b, lowB s] ++ (F ++ M ++ T ++ h ++ t).data.toList = preB c b s f h t := by
      simp [preB, vF, vM, vT]
    rw [hv5] at hB5
    replace hs5 := Nat.le_trans hs3 (Nat.le_trans hbA.size hs5)
    clear hv5 z5 hB3 hb3' hI3 hs3 hb5 hbA k3 k4 k5 k3' k4' k5' z1 z2 z3 z4 eF vF sF eM vM sM eT vT sT
    have k6 := BC.at_ hI5 (o := 6) rfl
    go_wp2
    go_loopg [51] l.length (fun k v W => ∃ i : Nat, v = .int .i64 i ∧ i + k = l.length ∧ Below w.heap.size w W ∧ SB W w.heap.size c b s f h t A l.length m ∧ BB W G G (preB c b s f h t ++ (l.take i).flatMap (fun x => le2 x.size)) ∧ G ≤ W.heap.size)
    case atStart => exact ⟨0, by simp, by omega, hb5', hI5, by simpa using hB5, hs5⟩
    case round =>
      clear hI5 hB5 hs5 hb5' k6
      obtain ⟨i, rfl, hi, hbi, hIi, hBi, hsi⟩ := hrel
      by_cases c1 : i < l.length
      · have d1 : decide ((i : Int) < (l.length : Int)) = true := decide_eq_true (by omega)
        obtain ⟨ad, e, hx⟩ := Kd.at_string hr i (by omega) (by omega)
        cases e
        rw [Int.toNat_natCast] at hx
        have hx := cell_below hbi hx
        have p1 : (0 ≤ (i : Int)) = True := eq_true (by omega)
        have q1 : ((i : Int) < (l.length : Int)) = True := eq_true (by omega)
        have hz := q8 _ (List.mem_of_getElem? (rdOf_some (i := i) c1))
        have e2 := field2_eq (n := ((rdOf ByteArray.empty l (i : Int)).size : Int)) (by omega) (by omega)
        go_wp2_with (first | (go_at_call 23; refine (field_Put.calls 9 _ 2 _ _ _ e2).mono ?_; rintro e wf ⟨rfl, hbf⟩; have hbi2 := below_next hbi hbf; have hIi2 := BC.below hIi hbf; have hBi2 := BB.below hBi hbf; have hsi2 := Nat.le_trans hsi hbf.size; clear hbf) | (go_at_call 21; refine (bld_write G G _ _ _ hBi2 (loop_size c b s f h t l i q5 q6 q7 _) hsi2).mono ?_; rintro e w7 ⟨rfl, hB7, hb7, hs7⟩; have hbi3 := hbi2.trans (below_less hb7 (Nat.le_of_lt hgG)); have hIi3 := BC.blw hIi2 hb7 hgG; have hs8 := Nat.le_trans hsi2 hs7))
        obtain ⟨k, rfl⟩ : ∃ k, gk = k + 1 := ⟨gk - 1, by omega⟩
        go_roundg k
        case measure => omega
        case rel => exact ⟨i + 1, by simp, by omega, hbi3, hIi3, by rw [List.take_add_one, rdOf_some c1]; simpa using hB7, hs8⟩
      · have d1 : decide ((i : Int) < (l.length : Int)) = false := decide_eq_false (by omega)
        rw [List.take_of_length_le (by omega)] at hBi
        have hH : headB c b s f h t l = preB c b s f h t ++ l.flatMap (fun x => le2 x.size) := by simp [headB, preB]
        rw [← hH] at hBi
        clear hH
        have hl1 := headB_length c b s f h t l q5 q6 q7
        obtain ⟨v, S, hcs, e4, vS, sS⟩ := sum_has (headB c b s f h t l) hl1
        have hfin : ∀ (J : ByteArray), J.data.toList = l.flatMap (fun x => x.data.toList) → ((⟨(headB c b s f h t l).toArray⟩ : ByteArray) ++ S ++ J) = ⟨(putB c b s f h t l).toArray⟩ := fun J hJ => by
          apply ByteArray.ext; apply Array.toList_inj.1; simp [putB, vS, hJ]
        obtain ⟨PB, hPB⟩ : ∃ y, y = putB c b s f h t l := ⟨_, rfl⟩
        rw [← hPB] at hfin
        have hPB := Lib.hid hPB
        generalize headB c b s f h t l = HD at *
        go_wp2_with (first | (go_at_call 25; refine (bld_string G G _ _ hBi hsi).mono ?_; rintro e w8 ⟨rfl, hB8, hb8, hs8⟩; have hbi8 := hbi.trans (below_less hb8 (Nat.le_of_lt hgG)); have hIi8 := BC.blw hIi hb8 hgG; have hsi8 := Nat.le_trans hsi hs8; clear hb8 hs8 hbi hIi hBi hsi) | (go_at_call 24; refine (crc_Sum.calls _ _ _ hcs).mono ?_; rintro e w9 ⟨rfl, hb9⟩; have hbi9 := below_next hbi8 hb9; have hIi9 := BC.below hIi8 hb9; have hB9 := BB.below hB8 hb9; have hsi9 := Nat.le_trans hsi8 hb9.size; clear hb9 hbi8 hIi8 hB8 hsi8) | (go_at_call 23; refine (field_Put.calls 9 _ 4 _ _ _ e4).mono ?_; rintro e wa ⟨rfl, hba⟩; have hbia := below_next hbi9 hba; have hIia := BC.below hIi9 hba; have hBa := BB.below hB9 hba; have hsia := Nat.le_trans hsi9 hba.size; clear hba hbi9 hIi9 hB9 hsi9))
        have k6 := BC.at_ hIia (o := 6) rfl
        obtain ⟨X, hX⟩ : ∃ X : ByteArray, (⟨HD.toArray⟩ : ByteArray) = X := ⟨_, rfl⟩
        have sX : X.size ≤ 20000 := by rw [← hX, ← ByteArray.size_data, ← Array.length_toList]; exact hl1
        rw [hX] at hfin
        have hX := Lib.hid hX
        have z1 : (9223372036854775807 < X.size + S.size) = False := eq_false (by omega)
        clear hcs e4
        go_region_held3 (fun w' => w'.cell? ⟨w.heap.size, 6, none⟩ = some (.slice A l.length m))
          (first | exact k6 | exact k6' | exact k6'')
          (first | (go_at_call 25; refine (bld_string G G _ _ (BB.drew hBa) hsia).mono ?_; rw [hX.out]; rintro e wb ⟨rfl, hBb, hbb, hsb⟩; have hbib := (L.below_drew hbia).trans (below_less hbb (Nat.le_of_lt hgG)); have hIib := BC.blw (BC.drew hIia) hbb hgG; have k6' := BC.at_ hIib (o := 6) rfl) | (go_at_call 26; refine (join_any A m l _ (Kd.C_below hr hbib) hc q7 (fun x hx => (q8 x hx).2)).mono ?_; rintro e wc ⟨J, rfl, hJ, sJ, hbc⟩; have hbic := below_next hbib hbc; have k6'' := cell_below hbc k6'; have z2 : (9223372036854775807 < X.size + S.size + J.size) = False := eq_false (by omega)))
        all_goals
          have hfJ := hfin J hJ
          have hbic := Lib.hid hbic
          go_wp2
          go_ret2
          exact ⟨by rw [← hPB.out]; rfl, hbic.out⟩
theorem put_any (c b s f : Int) (h t : ByteArray) (l : List ByteArray) (A : Option Addr) (m : Nat) (w : World) (hr : Kd.C Kd.string w A l.length l) (hc : l.length ≤ m) (hn : l.length < 281474976710656) :
    Calls Try.prog 9 #[.agg #[.int .i64 c, .int .i64 b, .int .i64 s, .int .i64 f, .string h, .string t, .slice A l.length m]] w fun e w' => e = .returned (.tuple #[.string (if mayOk c b s f h t l = true then ⟨(putB c b s f h t l).toArray⟩ else ⟨#[]⟩), .int .i64 (if mayOk c b s f h t l = true then 0 else 2300)]) ∧ Below w.heap.size w w' := by
  cases hm : mayOk c b s f h t l
  · exact put_no c b s f h t l A m w hr hn hm
  · exact put_yes c b s f h t l A m w hr hc hn hm
end Go.Proofs.Ytokegkpbbhegpaa
